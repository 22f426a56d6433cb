/- The functions that FnExactClosure reaches, as they compute. -/
import Derived.Test.YtfdpehmefgfjgaaPg
import Derived.Test.YtfdpehmefgfjgaaMw
import Derived.Lib.Bytealg
set_option linter.unusedVariables false
set_option linter.unusedSimpArgs false
set_option maxRecDepth 100000
namespace Go.Proofs.Ytfdpehmefgfjgaa.QFnExactClosure
open Go.RowKit Go.Proofs.YtfdpehmefgfjgaaW.PrintWords Go.Proofs.YtfdpehmefgfjgaaW.Pgs
noncomputable section
structure S82 where
  f0 : Int
  f1 : Int
  f2 : ByteArray
  f3 : Bool
  f4 : Int
  f5 : Int
def z82 : S82 := ⟨(0 : Int), (0 : Int), (⟨#[]⟩ : ByteArray), false, (0 : Int), (0 : Int)⟩
def rd_T82 (xs : List S82) (i : Int) : S82 := xs.getD i.toNat z82
structure S99 where
  f0 : Int
  f1 : Int
  f2 : ByteArray
  f3 : Bool
  f4 : Int
  f5 : Int
def z99 : S99 := ⟨(0 : Int), (0 : Int), (⟨#[]⟩ : ByteArray), false, (0 : Int), (0 : Int)⟩
def rd_T99 (xs : List S99) (i : Int) : S99 := xs.getD i.toNat z99
def slices_Sort_int.f (l : List Int) : Option (List Int) := if l.length < 4611686018427387904 then some (l.mergeSort fun x y => decide (x ≤ y)) else none
def strings_IndexByte.f (a0 : ByteArray) (a1 : Int) : Option (Int) := some (Lib.indexByte a0.data.toList a1.toNat.toUInt8)
def strings_Contains.f (a0 : ByteArray) (a1 : ByteArray) : Option (Bool) := match a1.data.toList with | [c_] => some (decide (0 ≤ Lib.indexByte a0.data.toList c_)) | _ => none
def laws_szPlace.f (a0_0 : Int) (a0_1 : Int) (a0_2 : ByteArray) (a0_3 : Bool) (a0_4 : Int) (a0_5 : Int) (a1 : Int) : Option (Int) := if (wrap64 (a1 - (a0_2.size : Int))) < 0 then (some (-1)) else (some (wrap64 (a1 - (a0_2.size : Int))))
inductive laws_szPlaceS.Q where
  | f (l0 : List S99) (a1 : Int)
  | l0 (x0 : List S99) (x1 : Int) (x5 : Int)
def laws_szPlaceS.B : laws_szPlaceS.Q → Pg laws_szPlaceS.Q (fun _ => Int) (Int)
  | .f l0 a1 => if (wrap64 (a1 - (l0.length : Int))) < 0 then (.ret (-1)) else (.to (.l0 l0 ((wrap64 (a1 - (l0.length : Int)))) 0))
  | .l0 x0 x1 x5 => if x5 < (x0.length : Int) then (if 0 ≤ x5 then (.opt (laws_szPlace.f ((rd_T99 x0 x5).f0) ((rd_T99 x0 x5).f1) ((rd_T99 x0 x5).f2) ((rd_T99 x0 x5).f3) ((rd_T99 x0 x5).f4) ((rd_T99 x0 x5).f5) x1) fun t23 => (if t23 < 0 then (.ret (-1)) else (.to (.l0 x0 t23 (wrap64 (x5 + 1)))))) else (.bad)) else (.ret x1)
def laws_szPlaceS.fv (l0 : List S99) (a1 : Int) : Option (Int) := lim laws_szPlaceS.B (.f l0 a1)
def laws_szPlaceS.l0v (x0 : List S99) (x1 : Int) (x5 : Int) : Option (Int) := lim laws_szPlaceS.B (.l0 x0 x1 x5)
theorem laws_szPlaceS.fv_eq (l0 : List S99) (a1 : Int) : laws_szPlaceS.fv l0 a1 = (if (wrap64 (a1 - (l0.length : Int))) < 0 then (some (-1)) else (laws_szPlaceS.l0v l0 ((wrap64 (a1 - (l0.length : Int)))) 0)) := by
  show lim laws_szPlaceS.B (.f l0 a1) = _
  rw [lim_eq, laws_szPlaceS.B]
  simp only [ev_ite, ev_opt, ev_ask, ev_to, ev_ret, ev_bad]
  try rfl
theorem laws_szPlaceS.l0v_eq (x0 : List S99) (x1 : Int) (x5 : Int) : laws_szPlaceS.l0v x0 x1 x5 = (if x5 < (x0.length : Int) then (if 0 ≤ x5 then ((laws_szPlace.f ((rd_T99 x0 x5).f0) ((rd_T99 x0 x5).f1) ((rd_T99 x0 x5).f2) ((rd_T99 x0 x5).f3) ((rd_T99 x0 x5).f4) ((rd_T99 x0 x5).f5) x1).bind fun t23 => (if t23 < 0 then (some (-1)) else (laws_szPlaceS.l0v x0 t23 (wrap64 (x5 + 1))))) else (none)) else (some x1)) := by
  show lim laws_szPlaceS.B (.l0 x0 x1 x5) = _
  rw [lim_eq, laws_szPlaceS.B]
  simp only [ev_ite, ev_opt, ev_ask, ev_to, ev_ret, ev_bad]
  try rfl
def laws_toPlace.f (a0_0 : Int) (a0_1 : Int) (a0_2 : ByteArray) (a0_3 : Bool) (a0_4 : Int) (a0_5 : Int) : Option (Int × Int × ByteArray × Bool × Int × Int) := some (a0_0, a0_1, a0_2, a0_3, a0_4, a0_5)
inductive laws_toPlaceS.Q where
  | f (l0 : List S99)
  | l0 (x0 : List S99) (x3 : List S82) (x4 : Int)
def laws_toPlaceS.B : laws_toPlaceS.Q → Pg laws_toPlaceS.Q (fun _ => (List S82)) ((List S82))
  | .f l0 => if 0 ≤ (l0.length : Int) then (if ((l0.length : Int) : Int).toNat ≤ 5026338869833 then (.to (.l0 l0 ((List.replicate ((l0.length : Int) : Int).toNat z82)) 0)) else (.bad)) else (.bad)
  | .l0 x0 x3 x4 => if x4 < (x0.length : Int) then (if 0 ≤ x4 then (.opt (laws_toPlace.f ((rd_T99 x0 x4).f0) ((rd_T99 x0 x4).f1) ((rd_T99 x0 x4).f2) ((rd_T99 x0 x4).f3) ((rd_T99 x0 x4).f4) ((rd_T99 x0 x4).f5)) fun t20 => (if x4 < (x3.length : Int) then (.to (.l0 x0 (x3.set (x4 : Int).toNat (⟨t20.1, t20.2.1, t20.2.2.1, t20.2.2.2.1, t20.2.2.2.2.1, t20.2.2.2.2.2⟩ : S82)) (wrap64 (x4 + 1)))) else (.bad))) else (.bad)) else (.ret x3)
def laws_toPlaceS.fv (l0 : List S99) : Option ((List S82)) := lim laws_toPlaceS.B (.f l0)
def laws_toPlaceS.l0v (x0 : List S99) (x3 : List S82) (x4 : Int) : Option ((List S82)) := lim laws_toPlaceS.B (.l0 x0 x3 x4)
theorem laws_toPlaceS.fv_eq (l0 : List S99) : laws_toPlaceS.fv l0 = (if 0 ≤ (l0.length : Int) then (if ((l0.length : Int) : Int).toNat ≤ 5026338869833 then (laws_toPlaceS.l0v l0 ((List.replicate ((l0.length : Int) : Int).toNat z82)) 0) else (none)) else (none)) := by
  show lim laws_toPlaceS.B (.f l0) = _
  rw [lim_eq, laws_toPlaceS.B]
  simp only [ev_ite, ev_opt, ev_ask, ev_to, ev_ret, ev_bad]
  try rfl
theorem laws_toPlaceS.l0v_eq (x0 : List S99) (x3 : List S82) (x4 : Int) : laws_toPlaceS.l0v x0 x3 x4 = (if x4 < (x0.length : Int) then (if 0 ≤ x4 then ((laws_toPlace.f ((rd_T99 x0 x4).f0) ((rd_T99 x0 x4).f1) ((rd_T99 x0 x4).f2) ((rd_T99 x0 x4).f3) ((rd_T99 x0 x4).f4) ((rd_T99 x0 x4).f5)).bind fun t20 => (if x4 < (x3.length : Int) then (laws_toPlaceS.l0v x0 (x3.set (x4 : Int).toNat (⟨t20.1, t20.2.1, t20.2.2.1, t20.2.2.2.1, t20.2.2.2.2.1, t20.2.2.2.2.2⟩ : S82)) (wrap64 (x4 + 1))) else (none))) else (none)) else (some x3)) := by
  show lim laws_toPlaceS.B (.l0 x0 x3 x4) = _
  rw [lim_eq, laws_toPlaceS.B]
  simp only [ev_ite, ev_opt, ev_ask, ev_to, ev_ret, ev_bad]
  try rfl
inductive laws_toIntS.Q where
  | f (l0 : List Int)
  | l0 (x0 : List Int) (x3 : List Int) (x4 : Int)
def laws_toIntS.B : laws_toIntS.Q → Pg laws_toIntS.Q (fun _ => (List Int)) ((List Int))
  | .f l0 => if 0 ≤ (l0.length : Int) then (if ((l0.length : Int) : Int).toNat ≤ 35184372088832 then (.to (.l0 l0 ((List.replicate ((l0.length : Int) : Int).toNat (0 : Int))) 0)) else (.bad)) else (.bad)
  | .l0 x0 x3 x4 => if x4 < (x0.length : Int) then (if 0 ≤ x4 then (if x4 < (x3.length : Int) then (.to (.l0 x0 ((x3.set (x4 : Int).toNat (rdOf (0 : Int) x0 x4))) (wrap64 (x4 + 1)))) else (.bad)) else (.bad)) else (.ret x3)
def laws_toIntS.fv (l0 : List Int) : Option ((List Int)) := lim laws_toIntS.B (.f l0)
def laws_toIntS.l0v (x0 : List Int) (x3 : List Int) (x4 : Int) : Option ((List Int)) := lim laws_toIntS.B (.l0 x0 x3 x4)
theorem laws_toIntS.fv_eq (l0 : List Int) : laws_toIntS.fv l0 = (if 0 ≤ (l0.length : Int) then (if ((l0.length : Int) : Int).toNat ≤ 35184372088832 then (laws_toIntS.l0v l0 ((List.replicate ((l0.length : Int) : Int).toNat (0 : Int))) 0) else (none)) else (none)) := by
  show lim laws_toIntS.B (.f l0) = _
  rw [lim_eq, laws_toIntS.B]
  simp only [ev_ite, ev_opt, ev_ask, ev_to, ev_ret, ev_bad]
  try rfl
theorem laws_toIntS.l0v_eq (x0 : List Int) (x3 : List Int) (x4 : Int) : laws_toIntS.l0v x0 x3 x4 = (if x4 < (x0.length : Int) then (if 0 ≤ x4 then (if x4 < (x3.length : Int) then (laws_toIntS.l0v x0 ((x3.set (x4 : Int).toNat (rdOf (0 : Int) x0 x4))) (wrap64 (x4 + 1))) else (none)) else (none)) else (some x3)) := by
  show lim laws_toIntS.B (.l0 x0 x3 x4) = _
  rw [lim_eq, laws_toIntS.B]
  simp only [ev_ite, ev_opt, ev_ask, ev_to, ev_ret, ev_bad]
  try rfl
inductive spec_l4Close.Q where
  | f (l0 : List S82) (l1 : List Bool) (a2 : Int) (a3 : Bool) (a4 : Bool)
  | l0 (x0 : List S82) (x1 : List Bool) (x3 : Bool) (x4 : Bool) (x10 : List Int)
  | j0 (x0 : List S82) (x1 : List Bool) (x3 : Bool) (x4 : Bool) (x10 : List Int) (x11 : Int)
  | j1 (x0 : List S82) (x1 : List Bool) (x3 : Bool) (x4 : Bool) (x10 : List Int) (x11 : Int) (x42 : Bool)
def spec_l4Close.B : spec_l4Close.Q → Pg spec_l4Close.Q (fun _ => (List Bool)) ((List Bool))
  | .f l0 l1 a2 a3 a4 => .to (.l0 l0 l1 a3 a4 ([a2] : List Int))
  | .l0 x0 x1 x3 x4 x10 => if (x10.length : Int) > 0 then (if 0 ≤ (wrap64 ((x10.length : Int) - 1)) then (if (wrap64 ((x10.length : Int) - 1)) < (x10.length : Int) then (if (wrap64 ((x10.length : Int) - 1)) ≤ (x10.length : Int) then (if (rdOf (0 : Int) x10 (wrap64 ((x10.length : Int) - 1))) ≥ (x0.length : Int) then (.to (.j1 x0 x1 x3 x4 ((x10.take ((wrap64 ((x10.length : Int) - 1)) : Int).toNat)) ((rdOf (0 : Int) x10 (wrap64 ((x10.length : Int) - 1)))) true)) else (if (rdOf (0 : Int) x10 (wrap64 ((x10.length : Int) - 1))) < 0 then (.to (.j1 x0 x1 x3 x4 ((x10.take ((wrap64 ((x10.length : Int) - 1)) : Int).toNat)) ((rdOf (0 : Int) x10 (wrap64 ((x10.length : Int) - 1)))) true)) else (if 0 ≤ (rdOf (0 : Int) x10 (wrap64 ((x10.length : Int) - 1))) then (if (rdOf (0 : Int) x10 (wrap64 ((x10.length : Int) - 1))) < (x1.length : Int) then (.to (.j1 x0 x1 x3 x4 ((x10.take ((wrap64 ((x10.length : Int) - 1)) : Int).toNat)) ((rdOf (0 : Int) x10 (wrap64 ((x10.length : Int) - 1)))) ((rdOf false x1 (rdOf (0 : Int) x10 (wrap64 ((x10.length : Int) - 1))))))) else (.bad)) else (.bad)))) else (.bad)) else (.bad)) else (.bad)) else (.ret x1)
  | .j0 x0 x1 x3 x4 x10 x11 => if 0 ≤ x11 then (if x11 < (x1.length : Int) then (if x11 < (x0.length : Int) then (if (rd_T82 x0 x11).f0 = 6 then (if x10.length < 17592186044416 then (.to (.l0 x0 (x1.set (x11 : Int).toNat true) x3 x4 (x10 ++ [(rd_T82 x0 x11).f4]))) else (.bad)) else (if (rd_T82 x0 x11).f0 = 7 then (if x10.length + 2 ≤ 17592186044416 then (.to (.l0 x0 (x1.set (x11 : Int).toNat true) x3 x4 (x10 ++ [(rd_T82 x0 x11).f4, (rd_T82 x0 x11).f5]))) else (.bad)) else (if (rd_T82 x0 x11).f0 = 4 then (if x3 = true then (if x10.length < 17592186044416 then (.to (.l0 x0 (x1.set (x11 : Int).toNat true) x3 x4 ((x10 ++ [(wrap64 (x11 + 1))])))) else (.bad)) else (.to (.l0 x0 (x1.set (x11 : Int).toNat true) x3 x4 x10))) else (if (rd_T82 x0 x11).f0 = 5 then (if x4 = true then (if x10.length < 17592186044416 then (.to (.l0 x0 (x1.set (x11 : Int).toNat true) x3 x4 ((x10 ++ [(wrap64 (x11 + 1))])))) else (.bad)) else (.to (.l0 x0 (x1.set (x11 : Int).toNat true) x3 x4 x10))) else (.to (.l0 x0 (x1.set (x11 : Int).toNat true) x3 x4 x10)))))) else (.bad)) else (.bad)) else (.bad)
  | .j1 x0 x1 x3 x4 x10 x11 x42 => if x42 = true then (.to (.l0 x0 x1 x3 x4 x10)) else (.to (.j0 x0 x1 x3 x4 x10 x11))
def spec_l4Close.fv (l0 : List S82) (l1 : List Bool) (a2 : Int) (a3 : Bool) (a4 : Bool) : Option ((List Bool)) := lim spec_l4Close.B (.f l0 l1 a2 a3 a4)
def spec_l4Close.l0v (x0 : List S82) (x1 : List Bool) (x3 : Bool) (x4 : Bool) (x10 : List Int) : Option ((List Bool)) := lim spec_l4Close.B (.l0 x0 x1 x3 x4 x10)
def spec_l4Close.j0v (x0 : List S82) (x1 : List Bool) (x3 : Bool) (x4 : Bool) (x10 : List Int) (x11 : Int) : Option ((List Bool)) := lim spec_l4Close.B (.j0 x0 x1 x3 x4 x10 x11)
def spec_l4Close.j1v (x0 : List S82) (x1 : List Bool) (x3 : Bool) (x4 : Bool) (x10 : List Int) (x11 : Int) (x42 : Bool) : Option ((List Bool)) := lim spec_l4Close.B (.j1 x0 x1 x3 x4 x10 x11 x42)
theorem spec_l4Close.fv_eq (l0 : List S82) (l1 : List Bool) (a2 : Int) (a3 : Bool) (a4 : Bool) : spec_l4Close.fv l0 l1 a2 a3 a4 = (spec_l4Close.l0v l0 l1 a3 a4 ([a2] : List Int)) := by
  show lim spec_l4Close.B (.f l0 l1 a2 a3 a4) = _
  rw [lim_eq, spec_l4Close.B]
  simp only [ev_ite, ev_opt, ev_ask, ev_to, ev_ret, ev_bad]
  try rfl
theorem spec_l4Close.l0v_eq (x0 : List S82) (x1 : List Bool) (x3 : Bool) (x4 : Bool) (x10 : List Int) : spec_l4Close.l0v x0 x1 x3 x4 x10 = (if (x10.length : Int) > 0 then (if 0 ≤ (wrap64 ((x10.length : Int) - 1)) then (if (wrap64 ((x10.length : Int) - 1)) < (x10.length : Int) then (if (wrap64 ((x10.length : Int) - 1)) ≤ (x10.length : Int) then (if (rdOf (0 : Int) x10 (wrap64 ((x10.length : Int) - 1))) ≥ (x0.length : Int) then (spec_l4Close.j1v x0 x1 x3 x4 ((x10.take ((wrap64 ((x10.length : Int) - 1)) : Int).toNat)) ((rdOf (0 : Int) x10 (wrap64 ((x10.length : Int) - 1)))) true) else (if (rdOf (0 : Int) x10 (wrap64 ((x10.length : Int) - 1))) < 0 then (spec_l4Close.j1v x0 x1 x3 x4 ((x10.take ((wrap64 ((x10.length : Int) - 1)) : Int).toNat)) ((rdOf (0 : Int) x10 (wrap64 ((x10.length : Int) - 1)))) true) else (if 0 ≤ (rdOf (0 : Int) x10 (wrap64 ((x10.length : Int) - 1))) then (if (rdOf (0 : Int) x10 (wrap64 ((x10.length : Int) - 1))) < (x1.length : Int) then (spec_l4Close.j1v x0 x1 x3 x4 ((x10.take ((wrap64 ((x10.length : Int) - 1)) : Int).toNat)) ((rdOf (0 : Int) x10 (wrap64 ((x10.length : Int) - 1)))) ((rdOf false x1 (rdOf (0 : Int) x10 (wrap64 ((x10.length : Int) - 1)))))) else (none)) else (none)))) else (none)) else (none)) else (none)) else (some x1)) := by
  show lim spec_l4Close.B (.l0 x0 x1 x3 x4 x10) = _
  rw [lim_eq, spec_l4Close.B]
  simp only [ev_ite, ev_opt, ev_ask, ev_to, ev_ret, ev_bad]
  try rfl
theorem spec_l4Close.j0v_eq (x0 : List S82) (x1 : List Bool) (x3 : Bool) (x4 : Bool) (x10 : List Int) (x11 : Int) : spec_l4Close.j0v x0 x1 x3 x4 x10 x11 = (if 0 ≤ x11 then (if x11 < (x1.length : Int) then (if x11 < (x0.length : Int) then (if (rd_T82 x0 x11).f0 = 6 then (if x10.length < 17592186044416 then (spec_l4Close.l0v x0 (x1.set (x11 : Int).toNat true) x3 x4 (x10 ++ [(rd_T82 x0 x11).f4])) else (none)) else (if (rd_T82 x0 x11).f0 = 7 then (if x10.length + 2 ≤ 17592186044416 then (spec_l4Close.l0v x0 (x1.set (x11 : Int).toNat true) x3 x4 (x10 ++ [(rd_T82 x0 x11).f4, (rd_T82 x0 x11).f5])) else (none)) else (if (rd_T82 x0 x11).f0 = 4 then (if x3 = true then (if x10.length < 17592186044416 then (spec_l4Close.l0v x0 (x1.set (x11 : Int).toNat true) x3 x4 ((x10 ++ [(wrap64 (x11 + 1))]))) else (none)) else (spec_l4Close.l0v x0 (x1.set (x11 : Int).toNat true) x3 x4 x10)) else (if (rd_T82 x0 x11).f0 = 5 then (if x4 = true then (if x10.length < 17592186044416 then (spec_l4Close.l0v x0 (x1.set (x11 : Int).toNat true) x3 x4 ((x10 ++ [(wrap64 (x11 + 1))]))) else (none)) else (spec_l4Close.l0v x0 (x1.set (x11 : Int).toNat true) x3 x4 x10)) else (spec_l4Close.l0v x0 (x1.set (x11 : Int).toNat true) x3 x4 x10))))) else (none)) else (none)) else (none)) := by
  show lim spec_l4Close.B (.j0 x0 x1 x3 x4 x10 x11) = _
  rw [lim_eq, spec_l4Close.B]
  simp only [ev_ite, ev_opt, ev_ask, ev_to, ev_ret, ev_bad]
  try rfl
theorem spec_l4Close.j1v_eq (x0 : List S82) (x1 : List Bool) (x3 : Bool) (x4 : Bool) (x10 : List Int) (x11 : Int) (x42 : Bool) : spec_l4Close.j1v x0 x1 x3 x4 x10 x11 x42 = (if x42 = true then (spec_l4Close.l0v x0 x1 x3 x4 x10) else (spec_l4Close.j0v x0 x1 x3 x4 x10 x11)) := by
  show lim spec_l4Close.B (.j1 x0 x1 x3 x4 x10 x11 x42) = _
  rw [lim_eq, spec_l4Close.B]
  simp only [ev_ite, ev_opt, ev_ask, ev_to, ev_ret, ev_bad]
  try rfl
inductive spec_l4List.Q where
  | f (l0 : List Bool)
  | l0 (x0 : List Bool) (x3 : List Int) (x4 : Int)
def spec_l4List.B : spec_l4List.Q → Pg spec_l4List.Q (fun _ => (List Int)) ((List Int))
  | .f l0 => .to (.l0 l0 ([] : List Int) 0)
  | .l0 x0 x3 x4 => if x4 < (x0.length : Int) then (if 0 ≤ x4 then (if (rdOf false x0 x4) = true then (if x3.length < 17592186044416 then (.to (.l0 x0 (x3 ++ [x4]) (wrap64 (x4 + 1)))) else (.bad)) else (.to (.l0 x0 x3 (wrap64 (x4 + 1))))) else (.bad)) else (.ret x3)
def spec_l4List.fv (l0 : List Bool) : Option ((List Int)) := lim spec_l4List.B (.f l0)
def spec_l4List.l0v (x0 : List Bool) (x3 : List Int) (x4 : Int) : Option ((List Int)) := lim spec_l4List.B (.l0 x0 x3 x4)
theorem spec_l4List.fv_eq (l0 : List Bool) : spec_l4List.fv l0 = (spec_l4List.l0v l0 ([] : List Int) 0) := by
  show lim spec_l4List.B (.f l0) = _
  rw [lim_eq, spec_l4List.B]
  simp only [ev_ite, ev_opt, ev_ask, ev_to, ev_ret, ev_bad]
  try rfl
theorem spec_l4List.l0v_eq (x0 : List Bool) (x3 : List Int) (x4 : Int) : spec_l4List.l0v x0 x3 x4 = (if x4 < (x0.length : Int) then (if 0 ≤ x4 then (if (rdOf false x0 x4) = true then (if x3.length < 17592186044416 then (spec_l4List.l0v x0 (x3 ++ [x4]) (wrap64 (x4 + 1))) else (none)) else (spec_l4List.l0v x0 x3 (wrap64 (x4 + 1)))) else (none)) else (some x3)) := by
  show lim spec_l4List.B (.l0 x0 x3 x4) = _
  rw [lim_eq, spec_l4List.B]
  simp only [ev_ite, ev_opt, ev_ask, ev_to, ev_ret, ev_bad]
  try rfl
inductive spec_Closure.Q where
  | f (l0 : List S82) (l1 : List Int) (a2 : Bool) (a3 : Bool)
  | l0 (x0 : List S82) (x1 : List Int) (x2 : Bool) (x3 : Bool) (x9 : List Bool) (x10 : Int)
def spec_Closure.B : spec_Closure.Q → Pg spec_Closure.Q (fun _ => (List Int)) ((List Int))
  | .f l0 l1 a2 a3 => if 0 ≤ (l0.length : Int) then (if ((l0.length : Int) : Int).toNat ≤ 281474976710656 then (.to (.l0 l0 l1 a2 a3 ((List.replicate ((l0.length : Int) : Int).toNat false)) 0)) else (.bad)) else (.bad)
  | .l0 x0 x1 x2 x3 x9 x10 => if x10 < (x1.length : Int) then (if 0 ≤ x10 then (.opt (spec_l4Close.fv x0 x9 (rdOf (0 : Int) x1 x10) x2 x3) fun t28 => (.to (.l0 x0 x1 x2 x3 t28 (wrap64 (x10 + 1))))) else (.bad)) else (.opt (spec_l4List.fv x9) fun t30 => (.ret t30))
def spec_Closure.fv (l0 : List S82) (l1 : List Int) (a2 : Bool) (a3 : Bool) : Option ((List Int)) := lim spec_Closure.B (.f l0 l1 a2 a3)
def spec_Closure.l0v (x0 : List S82) (x1 : List Int) (x2 : Bool) (x3 : Bool) (x9 : List Bool) (x10 : Int) : Option ((List Int)) := lim spec_Closure.B (.l0 x0 x1 x2 x3 x9 x10)
theorem spec_Closure.fv_eq (l0 : List S82) (l1 : List Int) (a2 : Bool) (a3 : Bool) : spec_Closure.fv l0 l1 a2 a3 = (if 0 ≤ (l0.length : Int) then (if ((l0.length : Int) : Int).toNat ≤ 281474976710656 then (spec_Closure.l0v l0 l1 a2 a3 ((List.replicate ((l0.length : Int) : Int).toNat false)) 0) else (none)) else (none)) := by
  show lim spec_Closure.B (.f l0 l1 a2 a3) = _
  rw [lim_eq, spec_Closure.B]
  simp only [ev_ite, ev_opt, ev_ask, ev_to, ev_ret, ev_bad]
  try rfl
theorem spec_Closure.l0v_eq (x0 : List S82) (x1 : List Int) (x2 : Bool) (x3 : Bool) (x9 : List Bool) (x10 : Int) : spec_Closure.l0v x0 x1 x2 x3 x9 x10 = (if x10 < (x1.length : Int) then (if 0 ≤ x10 then ((spec_l4Close.fv x0 x9 (rdOf (0 : Int) x1 x10) x2 x3).bind fun t28 => (spec_Closure.l0v x0 x1 x2 x3 t28 (wrap64 (x10 + 1)))) else (none)) else ((spec_l4List.fv x9).bind fun t30 => (some t30))) := by
  show lim spec_Closure.B (.l0 x0 x1 x2 x3 x9 x10) = _
  rw [lim_eq, spec_Closure.B]
  simp only [ev_ite, ev_opt, ev_ask, ev_to, ev_ret, ev_bad]
  try rfl
def impl_in.f (a0 : Int) (a1 : Int) (a2 : Int) : Option (Bool) := if a0 ≥ a1 then (some (decide (a0 ≤ a2))) else (some false)
inductive impl_Closure_1.Q where
  | f (a0 : Int) (l1_0 : List S82) (l2_0 : List Bool) (l3_0 : List Int)
  | j0 (x0 : Int) (x16 : Bool) (l1_0 : List S82) (y1 : List Bool) (y2 : List Int)
def impl_Closure_1.B : impl_Closure_1.Q → Pg impl_Closure_1.Q (fun _ => (List Bool) × (List Int)) ((List Bool) × (List Int))
  | .f a0 l1_0 l2_0 l3_0 => .opt (impl_in.f a0 0 ((wrap64 ((l1_0.length : Int) - 1)))) fun t9 => (if t9 = true then (if 0 ≤ a0 then (if a0 < (l2_0.length : Int) then (.to (.j0 a0 (!(rdOf false l2_0 a0)) l1_0 l2_0 l3_0)) else (.bad)) else (.bad)) else (.to (.j0 a0 false l1_0 l2_0 l3_0)))
  | .j0 x0 x16 l1_0 y1 y2 => if x16 = true then (if 0 ≤ x0 then (if x0 < (y1.length : Int) then (if y2.length < 17592186044416 then (.ret ((y1.set (x0 : Int).toNat true), (y2 ++ [x0]))) else (.bad)) else (.bad)) else (.bad)) else (.ret (y1, y2))
def impl_Closure_1.fv (a0 : Int) (l1_0 : List S82) (l2_0 : List Bool) (l3_0 : List Int) : Option ((List Bool) × (List Int)) := lim impl_Closure_1.B (.f a0 l1_0 l2_0 l3_0)
def impl_Closure_1.j0v (x0 : Int) (x16 : Bool) (l1_0 : List S82) (y1 : List Bool) (y2 : List Int) : Option ((List Bool) × (List Int)) := lim impl_Closure_1.B (.j0 x0 x16 l1_0 y1 y2)
theorem impl_Closure_1.fv_eq (a0 : Int) (l1_0 : List S82) (l2_0 : List Bool) (l3_0 : List Int) : impl_Closure_1.fv a0 l1_0 l2_0 l3_0 = ((impl_in.f a0 0 ((wrap64 ((l1_0.length : Int) - 1)))).bind fun t9 => (if t9 = true then (if 0 ≤ a0 then (if a0 < (l2_0.length : Int) then (impl_Closure_1.j0v a0 (!(rdOf false l2_0 a0)) l1_0 l2_0 l3_0) else (none)) else (none)) else (impl_Closure_1.j0v a0 false l1_0 l2_0 l3_0))) := by
  show lim impl_Closure_1.B (.f a0 l1_0 l2_0 l3_0) = _
  rw [lim_eq, impl_Closure_1.B]
  simp only [ev_ite, ev_opt, ev_ask, ev_to, ev_ret, ev_bad]
  try rfl
theorem impl_Closure_1.j0v_eq (x0 : Int) (x16 : Bool) (l1_0 : List S82) (y1 : List Bool) (y2 : List Int) : impl_Closure_1.j0v x0 x16 l1_0 y1 y2 = (if x16 = true then (if 0 ≤ x0 then (if x0 < (y1.length : Int) then (if y2.length < 17592186044416 then (some ((y1.set (x0 : Int).toNat true), (y2 ++ [x0]))) else (none)) else (none)) else (none)) else (some (y1, y2))) := by
  show lim impl_Closure_1.B (.j0 x0 x16 l1_0 y1 y2) = _
  rw [lim_eq, impl_Closure_1.B]
  simp only [ev_ite, ev_opt, ev_ask, ev_to, ev_ret, ev_bad]
  try rfl
inductive impl_Closure.Q where
  | f (l0 : List S82) (l1 : List Int) (a2 : Bool) (a3 : Bool)
  | l0 (x2 : Bool) (x3 : Bool) (l1 : List Int) (x23 : Int) (x24 : Int) (l0 : List S82) (y530 : List Bool) (y1040 : List Int)
  | l1 (x2 : Bool) (x3 : Bool) (x14 : Int) (l0 : List S82) (l1 : List Int) (y530 : List Bool) (y1040 : List Int)
def impl_Closure.B : impl_Closure.Q → Pg impl_Closure.Q (fun _ => (List Int)) ((List Int))
  | .f l0 l1 a2 a3 => if 0 ≤ (l0.length : Int) then (if ((l0.length : Int) : Int).toNat ≤ 281474976710656 then (.to (.l0 a2 a3 l1 (l1.length : Int) 0 l0 ((List.replicate ((l0.length : Int) : Int).toNat false)) ([] : List Int))) else (.bad)) else (.bad)
  | .l0 x2 x3 l1 x23 x24 l0 y530 y1040 => if x24 < x23 then (if 0 ≤ x24 then (if x24 < (l1.length : Int) then (.opt (impl_Closure_1.fv (rdOf (0 : Int) l1 x24) l0 y530 y1040) fun t30 => (.to (.l0 x2 x3 l1 x23 (wrap64 (x24 + 1)) l0 t30.1 t30.2))) else (.bad)) else (.bad)) else (.to (.l1 x2 x3 0 l0 l1 y530 y1040))
  | .l1 x2 x3 x14 l0 l1 y530 y1040 => if x14 < (y1040.length : Int) then (if 0 ≤ x14 then (if 0 ≤ (rdOf (0 : Int) y1040 x14) then (if (rdOf (0 : Int) y1040 x14) < (l0.length : Int) then (if (rd_T82 l0 (rdOf (0 : Int) y1040 x14)).f0 = 6 then (.opt (impl_Closure_1.fv ((rd_T82 l0 (rdOf (0 : Int) y1040 x14)).f4) l0 y530 y1040) fun t53 => (.to (.l1 x2 x3 (wrap64 (x14 + 1)) l0 l1 t53.1 t53.2))) else (if (rd_T82 l0 (rdOf (0 : Int) y1040 x14)).f0 = 7 then (.opt (impl_Closure_1.fv ((rd_T82 l0 (rdOf (0 : Int) y1040 x14)).f4) l0 y530 y1040) fun t59 => (.opt (impl_Closure_1.fv ((rd_T82 l0 (rdOf (0 : Int) y1040 x14)).f5) l0 t59.1 t59.2) fun t63 => (.to (.l1 x2 x3 (wrap64 (x14 + 1)) l0 l1 t63.1 t63.2)))) else (if (rd_T82 l0 (rdOf (0 : Int) y1040 x14)).f0 = 4 then (if x2 = true then (.opt (impl_Closure_1.fv ((wrap64 ((rdOf (0 : Int) y1040 x14) + 1))) l0 y530 y1040) fun t70 => (.to (.l1 x2 x3 (wrap64 (x14 + 1)) l0 l1 t70.1 t70.2))) else (.to (.l1 x2 x3 (wrap64 (x14 + 1)) l0 l1 y530 y1040))) else (if (rd_T82 l0 (rdOf (0 : Int) y1040 x14)).f0 = 5 then (if x3 = true then (.opt (impl_Closure_1.fv ((wrap64 ((rdOf (0 : Int) y1040 x14) + 1))) l0 y530 y1040) fun t77 => (.to (.l1 x2 x3 (wrap64 (x14 + 1)) l0 l1 t77.1 t77.2))) else (.to (.l1 x2 x3 (wrap64 (x14 + 1)) l0 l1 y530 y1040))) else (.to (.l1 x2 x3 (wrap64 (x14 + 1)) l0 l1 y530 y1040)))))) else (.bad)) else (.bad)) else (.bad)) else (.opt (slices_Sort_int.f y1040) fun t79 => (.ret t79))
def impl_Closure.fv (l0 : List S82) (l1 : List Int) (a2 : Bool) (a3 : Bool) : Option ((List Int)) := lim impl_Closure.B (.f l0 l1 a2 a3)
def impl_Closure.l0v (x2 : Bool) (x3 : Bool) (l1 : List Int) (x23 : Int) (x24 : Int) (l0 : List S82) (y530 : List Bool) (y1040 : List Int) : Option ((List Int)) := lim impl_Closure.B (.l0 x2 x3 l1 x23 x24 l0 y530 y1040)
def impl_Closure.l1v (x2 : Bool) (x3 : Bool) (x14 : Int) (l0 : List S82) (l1 : List Int) (y530 : List Bool) (y1040 : List Int) : Option ((List Int)) := lim impl_Closure.B (.l1 x2 x3 x14 l0 l1 y530 y1040)
theorem impl_Closure.fv_eq (l0 : List S82) (l1 : List Int) (a2 : Bool) (a3 : Bool) : impl_Closure.fv l0 l1 a2 a3 = (if 0 ≤ (l0.length : Int) then (if ((l0.length : Int) : Int).toNat ≤ 281474976710656 then (impl_Closure.l0v a2 a3 l1 (l1.length : Int) 0 l0 ((List.replicate ((l0.length : Int) : Int).toNat false)) ([] : List Int)) else (none)) else (none)) := by
  show lim impl_Closure.B (.f l0 l1 a2 a3) = _
  rw [lim_eq, impl_Closure.B]
  simp only [ev_ite, ev_opt, ev_ask, ev_to, ev_ret, ev_bad]
  try rfl
theorem impl_Closure.l0v_eq (x2 : Bool) (x3 : Bool) (l1 : List Int) (x23 : Int) (x24 : Int) (l0 : List S82) (y530 : List Bool) (y1040 : List Int) : impl_Closure.l0v x2 x3 l1 x23 x24 l0 y530 y1040 = (if x24 < x23 then (if 0 ≤ x24 then (if x24 < (l1.length : Int) then ((impl_Closure_1.fv (rdOf (0 : Int) l1 x24) l0 y530 y1040).bind fun t30 => (impl_Closure.l0v x2 x3 l1 x23 (wrap64 (x24 + 1)) l0 t30.1 t30.2)) else (none)) else (none)) else (impl_Closure.l1v x2 x3 0 l0 l1 y530 y1040)) := by
  show lim impl_Closure.B (.l0 x2 x3 l1 x23 x24 l0 y530 y1040) = _
  rw [lim_eq, impl_Closure.B]
  simp only [ev_ite, ev_opt, ev_ask, ev_to, ev_ret, ev_bad]
  try rfl
theorem impl_Closure.l1v_eq (x2 : Bool) (x3 : Bool) (x14 : Int) (l0 : List S82) (l1 : List Int) (y530 : List Bool) (y1040 : List Int) : impl_Closure.l1v x2 x3 x14 l0 l1 y530 y1040 = (if x14 < (y1040.length : Int) then (if 0 ≤ x14 then (if 0 ≤ (rdOf (0 : Int) y1040 x14) then (if (rdOf (0 : Int) y1040 x14) < (l0.length : Int) then (if (rd_T82 l0 (rdOf (0 : Int) y1040 x14)).f0 = 6 then ((impl_Closure_1.fv ((rd_T82 l0 (rdOf (0 : Int) y1040 x14)).f4) l0 y530 y1040).bind fun t53 => (impl_Closure.l1v x2 x3 (wrap64 (x14 + 1)) l0 l1 t53.1 t53.2)) else (if (rd_T82 l0 (rdOf (0 : Int) y1040 x14)).f0 = 7 then ((impl_Closure_1.fv ((rd_T82 l0 (rdOf (0 : Int) y1040 x14)).f4) l0 y530 y1040).bind fun t59 => ((impl_Closure_1.fv ((rd_T82 l0 (rdOf (0 : Int) y1040 x14)).f5) l0 t59.1 t59.2).bind fun t63 => (impl_Closure.l1v x2 x3 (wrap64 (x14 + 1)) l0 l1 t63.1 t63.2))) else (if (rd_T82 l0 (rdOf (0 : Int) y1040 x14)).f0 = 4 then (if x2 = true then ((impl_Closure_1.fv ((wrap64 ((rdOf (0 : Int) y1040 x14) + 1))) l0 y530 y1040).bind fun t70 => (impl_Closure.l1v x2 x3 (wrap64 (x14 + 1)) l0 l1 t70.1 t70.2)) else (impl_Closure.l1v x2 x3 (wrap64 (x14 + 1)) l0 l1 y530 y1040)) else (if (rd_T82 l0 (rdOf (0 : Int) y1040 x14)).f0 = 5 then (if x3 = true then ((impl_Closure_1.fv ((wrap64 ((rdOf (0 : Int) y1040 x14) + 1))) l0 y530 y1040).bind fun t77 => (impl_Closure.l1v x2 x3 (wrap64 (x14 + 1)) l0 l1 t77.1 t77.2)) else (impl_Closure.l1v x2 x3 (wrap64 (x14 + 1)) l0 l1 y530 y1040)) else (impl_Closure.l1v x2 x3 (wrap64 (x14 + 1)) l0 l1 y530 y1040))))) else (none)) else (none)) else (none)) else ((slices_Sort_int.f y1040).bind fun t79 => (some t79))) := by
  show lim impl_Closure.B (.l1 x2 x3 x14 l0 l1 y530 y1040) = _
  rw [lim_eq, impl_Closure.B]
  simp only [ev_ite, ev_opt, ev_ask, ev_to, ev_ret, ev_bad]
  try rfl
inductive laws_eqIntS.Q where
  | f (l0 : List Int) (l1 : List Int)
  | l0 (l0 : List Int) (x1 : List Int) (x5 : Int)
def laws_eqIntS.B : laws_eqIntS.Q → Pg laws_eqIntS.Q (fun _ => Bool) (Bool)
  | .f l0 l1 => if (l0.length : Int) = (l1.length : Int) then (.to (.l0 l0 l1 0)) else (.ret false)
  | .l0 l0 x1 x5 => if x5 < (l0.length : Int) then (if 0 ≤ x5 then (if x5 < (x1.length : Int) then (if (rdOf (0 : Int) l0 x5) = (rdOf (0 : Int) x1 x5) then (.to (.l0 l0 x1 (wrap64 (x5 + 1)))) else (.ret false)) else (.bad)) else (.bad)) else (.ret true)
def laws_eqIntS.fv (l0 : List Int) (l1 : List Int) : Option (Bool) := lim laws_eqIntS.B (.f l0 l1)
def laws_eqIntS.l0v (l0 : List Int) (x1 : List Int) (x5 : Int) : Option (Bool) := lim laws_eqIntS.B (.l0 l0 x1 x5)
theorem laws_eqIntS.fv_eq (l0 : List Int) (l1 : List Int) : laws_eqIntS.fv l0 l1 = (if (l0.length : Int) = (l1.length : Int) then (laws_eqIntS.l0v l0 l1 0) else (some false)) := by
  show lim laws_eqIntS.B (.f l0 l1) = _
  rw [lim_eq, laws_eqIntS.B]
  simp only [ev_ite, ev_opt, ev_ask, ev_to, ev_ret, ev_bad]
  try rfl
theorem laws_eqIntS.l0v_eq (l0 : List Int) (x1 : List Int) (x5 : Int) : laws_eqIntS.l0v l0 x1 x5 = (if x5 < (l0.length : Int) then (if 0 ≤ x5 then (if x5 < (x1.length : Int) then (if (rdOf (0 : Int) l0 x5) = (rdOf (0 : Int) x1 x5) then (laws_eqIntS.l0v l0 x1 (wrap64 (x5 + 1))) else (some false)) else (none)) else (none)) else (some true)) := by
  show lim laws_eqIntS.B (.l0 l0 x1 x5) = _
  rw [lim_eq, laws_eqIntS.B]
  simp only [ev_ite, ev_opt, ev_ask, ev_to, ev_ret, ev_bad]
  try rfl
def laws_eqPlace.f (a0_0 : Int) (a0_1 : Int) (a0_2 : ByteArray) (a0_3 : Bool) (a0_4 : Int) (a0_5 : Int) (a1_0 : Int) (a1_1 : Int) (a1_2 : ByteArray) (a1_3 : Bool) (a1_4 : Int) (a1_5 : Int) : Option (Bool) := if a0_0 = a1_0 then (if a0_1 = a1_1 then (if a0_2.toList = a1_2.toList then (if a0_3 = a1_3 then (if a0_4 = a1_4 then (if a0_5 = a1_5 then (some true) else (some false)) else (some false)) else (some false)) else (some false)) else (some false)) else (some false)
inductive laws_eqPlaceS.Q where
  | f (l0 : List S82) (l1 : List S82)
  | l0 (l0 : List S82) (x1 : List S82) (x5 : Int)
def laws_eqPlaceS.B : laws_eqPlaceS.Q → Pg laws_eqPlaceS.Q (fun _ => Bool) (Bool)
  | .f l0 l1 => if (l0.length : Int) = (l1.length : Int) then (.to (.l0 l0 l1 0)) else (.ret false)
  | .l0 l0 x1 x5 => if x5 < (l0.length : Int) then (if 0 ≤ x5 then (if x5 < (x1.length : Int) then (.opt (laws_eqPlace.f ((rd_T82 l0 x5).f0) ((rd_T82 l0 x5).f1) ((rd_T82 l0 x5).f2) ((rd_T82 l0 x5).f3) ((rd_T82 l0 x5).f4) ((rd_T82 l0 x5).f5) ((rd_T82 x1 x5).f0) ((rd_T82 x1 x5).f1) ((rd_T82 x1 x5).f2) ((rd_T82 x1 x5).f3) ((rd_T82 x1 x5).f4) ((rd_T82 x1 x5).f5)) fun t25 => (if t25 = true then (.to (.l0 l0 x1 (wrap64 (x5 + 1)))) else (.ret false))) else (.bad)) else (.bad)) else (.ret true)
def laws_eqPlaceS.fv (l0 : List S82) (l1 : List S82) : Option (Bool) := lim laws_eqPlaceS.B (.f l0 l1)
def laws_eqPlaceS.l0v (l0 : List S82) (x1 : List S82) (x5 : Int) : Option (Bool) := lim laws_eqPlaceS.B (.l0 l0 x1 x5)
theorem laws_eqPlaceS.fv_eq (l0 : List S82) (l1 : List S82) : laws_eqPlaceS.fv l0 l1 = (if (l0.length : Int) = (l1.length : Int) then (laws_eqPlaceS.l0v l0 l1 0) else (some false)) := by
  show lim laws_eqPlaceS.B (.f l0 l1) = _
  rw [lim_eq, laws_eqPlaceS.B]
  simp only [ev_ite, ev_opt, ev_ask, ev_to, ev_ret, ev_bad]
  try rfl
theorem laws_eqPlaceS.l0v_eq (l0 : List S82) (x1 : List S82) (x5 : Int) : laws_eqPlaceS.l0v l0 x1 x5 = (if x5 < (l0.length : Int) then (if 0 ≤ x5 then (if x5 < (x1.length : Int) then ((laws_eqPlace.f ((rd_T82 l0 x5).f0) ((rd_T82 l0 x5).f1) ((rd_T82 l0 x5).f2) ((rd_T82 l0 x5).f3) ((rd_T82 l0 x5).f4) ((rd_T82 l0 x5).f5) ((rd_T82 x1 x5).f0) ((rd_T82 x1 x5).f1) ((rd_T82 x1 x5).f2) ((rd_T82 x1 x5).f3) ((rd_T82 x1 x5).f4) ((rd_T82 x1 x5).f5)).bind fun t25 => (if t25 = true then (laws_eqPlaceS.l0v l0 x1 (wrap64 (x5 + 1))) else (some false))) else (none)) else (none)) else (some true)) := by
  show lim laws_eqPlaceS.B (.l0 l0 x1 x5) = _
  rw [lim_eq, laws_eqPlaceS.B]
  simp only [ev_ite, ev_opt, ev_ask, ev_to, ev_ret, ev_bad]
  try rfl
inductive laws_markText.Q where
  | f (a0 : Int)
  | l0 (x0 : Int) (x3 : ByteArray)
def laws_markText.B : laws_markText.Q → Pg laws_markText.Q (fun _ => ByteArray) (ByteArray)
  | .f a0 => if a0 ≤ 0 then (.ret (⟨#[109, 48]⟩ : ByteArray)) else (.to (.l0 a0 (⟨#[]⟩ : ByteArray)))
  | .l0 x0 x3 => if x0 > 0 then (if (strOfNums ([(((wrap64 (48 + (Int.tmod x0 10)))) % 256)] : List Int)).size + x3.size ≤ 9223372036854775807 then (.to (.l0 (wrap64 (Int.tdiv x0 10)) (((strOfNums ([(((wrap64 (48 + (Int.tmod x0 10)))) % 256)] : List Int)) ++ x3)))) else (.bad)) else (if (⟨#[109]⟩ : ByteArray).size + x3.size ≤ 9223372036854775807 then (.ret ((⟨#[109]⟩ : ByteArray) ++ x3)) else (.bad))
def laws_markText.fv (a0 : Int) : Option (ByteArray) := lim laws_markText.B (.f a0)
def laws_markText.l0v (x0 : Int) (x3 : ByteArray) : Option (ByteArray) := lim laws_markText.B (.l0 x0 x3)
theorem laws_markText.fv_eq (a0 : Int) : laws_markText.fv a0 = (if a0 ≤ 0 then (some (⟨#[109, 48]⟩ : ByteArray)) else (laws_markText.l0v a0 (⟨#[]⟩ : ByteArray))) := by
  show lim laws_markText.B (.f a0) = _
  rw [lim_eq, laws_markText.B]
  simp only [ev_ite, ev_opt, ev_ask, ev_to, ev_ret, ev_bad]
  try rfl
theorem laws_markText.l0v_eq (x0 : Int) (x3 : ByteArray) : laws_markText.l0v x0 x3 = (if x0 > 0 then (if (strOfNums ([(((wrap64 (48 + (Int.tmod x0 10)))) % 256)] : List Int)).size + x3.size ≤ 9223372036854775807 then (laws_markText.l0v (wrap64 (Int.tdiv x0 10)) (((strOfNums ([(((wrap64 (48 + (Int.tmod x0 10)))) % 256)] : List Int)) ++ x3))) else (none)) else (if (⟨#[109]⟩ : ByteArray).size + x3.size ≤ 9223372036854775807 then (some ((⟨#[109]⟩ : ByteArray) ++ x3)) else (none))) := by
  show lim laws_markText.B (.l0 x0 x3) = _
  rw [lim_eq, laws_markText.B]
  simp only [ev_ite, ev_opt, ev_ask, ev_to, ev_ret, ev_bad]
  try rfl
inductive laws_markPlaceS.Q where
  | f (l0 : List S82) (a1 : Int)
  | l0 (x0 : List S82) (x1 : Int) (x5 : Int)
def laws_markPlaceS.B : laws_markPlaceS.Q → Pg laws_markPlaceS.Q (fun _ => Int × (List S82)) (Int × (List S82))
  | .f l0 a1 => .to (.l0 l0 a1 0)
  | .l0 x0 x1 x5 => if x5 < (x0.length : Int) then (if 0 ≤ x5 then (.opt (some (x0.set (x5 : Int).toNat (⟨x1, (rd_T82 x0 x5).f1, (rd_T82 x0 x5).f2, (rd_T82 x0 x5).f3, (rd_T82 x0 x5).f4, (rd_T82 x0 x5).f5⟩ : S82))) fun y4_5 => (if x5 < (y4_5.length : Int) then (.opt (some (y4_5.set (x5 : Int).toNat (⟨(rd_T82 y4_5 x5).f0, (wrap64 (x1 + 1)), (rd_T82 y4_5 x5).f2, (rd_T82 y4_5 x5).f3, (rd_T82 y4_5 x5).f4, (rd_T82 y4_5 x5).f5⟩ : S82))) fun y6_5 => (.opt (laws_markText.fv ((wrap64 ((wrap64 (x1 + 1)) + 1)))) fun t29 => (if x5 < (y6_5.length : Int) then (.opt (some (y6_5.set (x5 : Int).toNat (⟨(rd_T82 y6_5 x5).f0, (rd_T82 y6_5 x5).f1, t29, (rd_T82 y6_5 x5).f3, (rd_T82 y6_5 x5).f4, (rd_T82 y6_5 x5).f5⟩ : S82))) fun y8_6 => (if x5 < (y8_6.length : Int) then (.opt (some (y8_6.set (x5 : Int).toNat (⟨(rd_T82 y8_6 x5).f0, (rd_T82 y8_6 x5).f1, (rd_T82 y8_6 x5).f2, ((Int.tmod (wrap64 ((wrap64 ((wrap64 (x1 + 1)) + 1)) + 1)) 3) == 0), (rd_T82 y8_6 x5).f4, (rd_T82 y8_6 x5).f5⟩ : S82))) fun y10_7 => (if x5 < (y10_7.length : Int) then (.opt (some (y10_7.set (x5 : Int).toNat (⟨(rd_T82 y10_7 x5).f0, (rd_T82 y10_7 x5).f1, (rd_T82 y10_7 x5).f2, (rd_T82 y10_7 x5).f3, (wrap64 ((wrap64 ((wrap64 ((wrap64 (x1 + 1)) + 1)) + 1)) + 1)), (rd_T82 y10_7 x5).f5⟩ : S82))) fun y12_5 => (if x5 < (y12_5.length : Int) then (.opt (some (y12_5.set (x5 : Int).toNat (⟨(rd_T82 y12_5 x5).f0, (rd_T82 y12_5 x5).f1, (rd_T82 y12_5 x5).f2, (rd_T82 y12_5 x5).f3, (rd_T82 y12_5 x5).f4, (wrap64 ((wrap64 ((wrap64 ((wrap64 ((wrap64 (x1 + 1)) + 1)) + 1)) + 1)) + 1))⟩ : S82))) fun y14_5 => (.to (.l0 y14_5 ((wrap64 ((wrap64 ((wrap64 ((wrap64 ((wrap64 ((wrap64 (x1 + 1)) + 1)) + 1)) + 1)) + 1)) + 1))) (wrap64 (x5 + 1))))) else (.bad))) else (.bad))) else (.bad))) else (.bad)))) else (.bad))) else (.bad)) else (.ret (x1, x0))
def laws_markPlaceS.fv (l0 : List S82) (a1 : Int) : Option (Int × (List S82)) := lim laws_markPlaceS.B (.f l0 a1)
def laws_markPlaceS.l0v (x0 : List S82) (x1 : Int) (x5 : Int) : Option (Int × (List S82)) := lim laws_markPlaceS.B (.l0 x0 x1 x5)
theorem laws_markPlaceS.fv_eq (l0 : List S82) (a1 : Int) : laws_markPlaceS.fv l0 a1 = (laws_markPlaceS.l0v l0 a1 0) := by
  show lim laws_markPlaceS.B (.f l0 a1) = _
  rw [lim_eq, laws_markPlaceS.B]
  simp only [ev_ite, ev_opt, ev_ask, ev_to, ev_ret, ev_bad]
  try rfl
theorem laws_markPlaceS.l0v_eq (x0 : List S82) (x1 : Int) (x5 : Int) : laws_markPlaceS.l0v x0 x1 x5 = (if x5 < (x0.length : Int) then (if 0 ≤ x5 then ((some (x0.set (x5 : Int).toNat (⟨x1, (rd_T82 x0 x5).f1, (rd_T82 x0 x5).f2, (rd_T82 x0 x5).f3, (rd_T82 x0 x5).f4, (rd_T82 x0 x5).f5⟩ : S82))).bind fun y4_5 => (if x5 < (y4_5.length : Int) then ((some (y4_5.set (x5 : Int).toNat (⟨(rd_T82 y4_5 x5).f0, (wrap64 (x1 + 1)), (rd_T82 y4_5 x5).f2, (rd_T82 y4_5 x5).f3, (rd_T82 y4_5 x5).f4, (rd_T82 y4_5 x5).f5⟩ : S82))).bind fun y6_5 => ((laws_markText.fv ((wrap64 ((wrap64 (x1 + 1)) + 1)))).bind fun t29 => (if x5 < (y6_5.length : Int) then ((some (y6_5.set (x5 : Int).toNat (⟨(rd_T82 y6_5 x5).f0, (rd_T82 y6_5 x5).f1, t29, (rd_T82 y6_5 x5).f3, (rd_T82 y6_5 x5).f4, (rd_T82 y6_5 x5).f5⟩ : S82))).bind fun y8_6 => (if x5 < (y8_6.length : Int) then ((some (y8_6.set (x5 : Int).toNat (⟨(rd_T82 y8_6 x5).f0, (rd_T82 y8_6 x5).f1, (rd_T82 y8_6 x5).f2, ((Int.tmod (wrap64 ((wrap64 ((wrap64 (x1 + 1)) + 1)) + 1)) 3) == 0), (rd_T82 y8_6 x5).f4, (rd_T82 y8_6 x5).f5⟩ : S82))).bind fun y10_7 => (if x5 < (y10_7.length : Int) then ((some (y10_7.set (x5 : Int).toNat (⟨(rd_T82 y10_7 x5).f0, (rd_T82 y10_7 x5).f1, (rd_T82 y10_7 x5).f2, (rd_T82 y10_7 x5).f3, (wrap64 ((wrap64 ((wrap64 ((wrap64 (x1 + 1)) + 1)) + 1)) + 1)), (rd_T82 y10_7 x5).f5⟩ : S82))).bind fun y12_5 => (if x5 < (y12_5.length : Int) then ((some (y12_5.set (x5 : Int).toNat (⟨(rd_T82 y12_5 x5).f0, (rd_T82 y12_5 x5).f1, (rd_T82 y12_5 x5).f2, (rd_T82 y12_5 x5).f3, (rd_T82 y12_5 x5).f4, (wrap64 ((wrap64 ((wrap64 ((wrap64 ((wrap64 (x1 + 1)) + 1)) + 1)) + 1)) + 1))⟩ : S82))).bind fun y14_5 => (laws_markPlaceS.l0v y14_5 ((wrap64 ((wrap64 ((wrap64 ((wrap64 ((wrap64 ((wrap64 (x1 + 1)) + 1)) + 1)) + 1)) + 1)) + 1))) (wrap64 (x5 + 1)))) else (none))) else (none))) else (none))) else (none)))) else (none))) else (none)) else (some (x1, x0))) := by
  show lim laws_markPlaceS.B (.l0 x0 x1 x5) = _
  rw [lim_eq, laws_markPlaceS.B]
  simp only [ev_ite, ev_opt, ev_ask, ev_to, ev_ret, ev_bad]
  try rfl
inductive laws_markIntS.Q where
  | f (l0 : List Int) (a1 : Int)
  | l0 (x0 : List Int) (x1 : Int) (x5 : Int)
def laws_markIntS.B : laws_markIntS.Q → Pg laws_markIntS.Q (fun _ => Int × (List Int)) (Int × (List Int))
  | .f l0 a1 => .to (.l0 l0 a1 0)
  | .l0 x0 x1 x5 => if x5 < (x0.length : Int) then (if 0 ≤ x5 then (.to (.l0 (x0.set (x5 : Int).toNat x1) (wrap64 (x1 + 1)) (wrap64 (x5 + 1)))) else (.bad)) else (.ret (x1, x0))
def laws_markIntS.fv (l0 : List Int) (a1 : Int) : Option (Int × (List Int)) := lim laws_markIntS.B (.f l0 a1)
def laws_markIntS.l0v (x0 : List Int) (x1 : Int) (x5 : Int) : Option (Int × (List Int)) := lim laws_markIntS.B (.l0 x0 x1 x5)
theorem laws_markIntS.fv_eq (l0 : List Int) (a1 : Int) : laws_markIntS.fv l0 a1 = (laws_markIntS.l0v l0 a1 0) := by
  show lim laws_markIntS.B (.f l0 a1) = _
  rw [lim_eq, laws_markIntS.B]
  simp only [ev_ite, ev_opt, ev_ask, ev_to, ev_ret, ev_bad]
  try rfl
theorem laws_markIntS.l0v_eq (x0 : List Int) (x1 : Int) (x5 : Int) : laws_markIntS.l0v x0 x1 x5 = (if x5 < (x0.length : Int) then (if 0 ≤ x5 then (laws_markIntS.l0v (x0.set (x5 : Int).toNat x1) (wrap64 (x1 + 1)) (wrap64 (x5 + 1))) else (none)) else (some (x1, x0))) := by
  show lim laws_markIntS.B (.l0 x0 x1 x5) = _
  rw [lim_eq, laws_markIntS.B]
  simp only [ev_ite, ev_opt, ev_ask, ev_to, ev_ret, ev_bad]
  try rfl
inductive laws_heldIntS.Q where
  | f (l0 : List Int) (a1 : Int)
  | l0 (x0 : List Int) (x1 : Int) (x5 : Int)
def laws_heldIntS.B : laws_heldIntS.Q → Pg laws_heldIntS.Q (fun _ => Int) (Int)
  | .f l0 a1 => .to (.l0 l0 a1 0)
  | .l0 x0 x1 x5 => if x5 < (x0.length : Int) then (if 0 ≤ x5 then (if (rdOf (0 : Int) x0 x5) = x1 then (.to (.l0 x0 (wrap64 (x1 + 1)) (wrap64 (x5 + 1)))) else (.ret (-1))) else (.bad)) else (.ret x1)
def laws_heldIntS.fv (l0 : List Int) (a1 : Int) : Option (Int) := lim laws_heldIntS.B (.f l0 a1)
def laws_heldIntS.l0v (x0 : List Int) (x1 : Int) (x5 : Int) : Option (Int) := lim laws_heldIntS.B (.l0 x0 x1 x5)
theorem laws_heldIntS.fv_eq (l0 : List Int) (a1 : Int) : laws_heldIntS.fv l0 a1 = (laws_heldIntS.l0v l0 a1 0) := by
  show lim laws_heldIntS.B (.f l0 a1) = _
  rw [lim_eq, laws_heldIntS.B]
  simp only [ev_ite, ev_opt, ev_ask, ev_to, ev_ret, ev_bad]
  try rfl
theorem laws_heldIntS.l0v_eq (x0 : List Int) (x1 : Int) (x5 : Int) : laws_heldIntS.l0v x0 x1 x5 = (if x5 < (x0.length : Int) then (if 0 ≤ x5 then (if (rdOf (0 : Int) x0 x5) = x1 then (laws_heldIntS.l0v x0 (wrap64 (x1 + 1)) (wrap64 (x5 + 1))) else (some (-1))) else (none)) else (some x1)) := by
  show lim laws_heldIntS.B (.l0 x0 x1 x5) = _
  rw [lim_eq, laws_heldIntS.B]
  simp only [ev_ite, ev_opt, ev_ask, ev_to, ev_ret, ev_bad]
  try rfl
inductive impl_Closure_1_2.Q where
  | f (a0 : Int) (l1_0 : List S82) (l2_0 : List Bool) (l3_0 : List Int)
  | j0 (x0 : Int) (x16 : Bool) (y0 : List Bool) (y1 : List Int) (l1_0 : List S82)
def impl_Closure_1_2.B : impl_Closure_1_2.Q → Pg impl_Closure_1_2.Q (fun _ => (List Bool) × (List Int)) ((List Bool) × (List Int))
  | .f a0 l1_0 l2_0 l3_0 => .opt (impl_in.f a0 0 ((wrap64 ((l1_0.length : Int) - 1)))) fun t9 => (if t9 = true then (if 0 ≤ a0 then (if a0 < (l2_0.length : Int) then (.to (.j0 a0 (!(rdOf false l2_0 a0)) l2_0 l3_0 l1_0)) else (.bad)) else (.bad)) else (.to (.j0 a0 false l2_0 l3_0 l1_0)))
  | .j0 x0 x16 y0 y1 l1_0 => if x16 = true then (if 0 ≤ x0 then (if x0 < (y0.length : Int) then (if y1.length < 17592186044416 then (.ret ((y0.set (x0 : Int).toNat true), (y1 ++ [x0]))) else (.bad)) else (.bad)) else (.bad)) else (.ret (y0, y1))
def impl_Closure_1_2.fv (a0 : Int) (l1_0 : List S82) (l2_0 : List Bool) (l3_0 : List Int) : Option ((List Bool) × (List Int)) := lim impl_Closure_1_2.B (.f a0 l1_0 l2_0 l3_0)
def impl_Closure_1_2.j0v (x0 : Int) (x16 : Bool) (y0 : List Bool) (y1 : List Int) (l1_0 : List S82) : Option ((List Bool) × (List Int)) := lim impl_Closure_1_2.B (.j0 x0 x16 y0 y1 l1_0)
theorem impl_Closure_1_2.fv_eq (a0 : Int) (l1_0 : List S82) (l2_0 : List Bool) (l3_0 : List Int) : impl_Closure_1_2.fv a0 l1_0 l2_0 l3_0 = ((impl_in.f a0 0 ((wrap64 ((l1_0.length : Int) - 1)))).bind fun t9 => (if t9 = true then (if 0 ≤ a0 then (if a0 < (l2_0.length : Int) then (impl_Closure_1_2.j0v a0 (!(rdOf false l2_0 a0)) l2_0 l3_0 l1_0) else (none)) else (none)) else (impl_Closure_1_2.j0v a0 false l2_0 l3_0 l1_0))) := by
  show lim impl_Closure_1_2.B (.f a0 l1_0 l2_0 l3_0) = _
  rw [lim_eq, impl_Closure_1_2.B]
  simp only [ev_ite, ev_opt, ev_ask, ev_to, ev_ret, ev_bad]
  try rfl
theorem impl_Closure_1_2.j0v_eq (x0 : Int) (x16 : Bool) (y0 : List Bool) (y1 : List Int) (l1_0 : List S82) : impl_Closure_1_2.j0v x0 x16 y0 y1 l1_0 = (if x16 = true then (if 0 ≤ x0 then (if x0 < (y0.length : Int) then (if y1.length < 17592186044416 then (some ((y0.set (x0 : Int).toNat true), (y1 ++ [x0]))) else (none)) else (none)) else (none)) else (some (y0, y1))) := by
  show lim impl_Closure_1_2.B (.j0 x0 x16 y0 y1 l1_0) = _
  rw [lim_eq, impl_Closure_1_2.B]
  simp only [ev_ite, ev_opt, ev_ask, ev_to, ev_ret, ev_bad]
  try rfl
inductive impl_Closure_2.Q where
  | f (l0 : List S82) (l1 : List Int) (a2 : Bool) (a3 : Bool)
  | l0 (x2 : Bool) (x3 : Bool) (x22 : List Int) (x23 : Int) (x24 : Int) (y530 : List Bool) (y1040 : List Int) (x16_0 : List S82)
  | l1 (x2 : Bool) (x3 : Bool) (x14 : Int) (y530 : List Bool) (y1040 : List Int) (x16_0 : List S82)
def impl_Closure_2.B : impl_Closure_2.Q → Pg impl_Closure_2.Q (fun _ => (List Int)) ((List Int))
  | .f l0 l1 a2 a3 => if 0 ≤ (l0.length : Int) then (if ((l0.length : Int) : Int).toNat ≤ 281474976710656 then (.to (.l0 a2 a3 l1 (l1.length : Int) 0 ((List.replicate ((l0.length : Int) : Int).toNat false)) ([] : List Int) l0)) else (.bad)) else (.bad)
  | .l0 x2 x3 x22 x23 x24 y530 y1040 x16_0 => if x24 < x23 then (if 0 ≤ x24 then (if x24 < (x22.length : Int) then (.opt (impl_Closure_1_2.fv (rdOf (0 : Int) x22 x24) x16_0 y530 y1040) fun t30 => (.to (.l0 x2 x3 x22 x23 (wrap64 (x24 + 1)) t30.1 t30.2 x16_0))) else (.bad)) else (.bad)) else (.to (.l1 x2 x3 0 y530 y1040 x16_0))
  | .l1 x2 x3 x14 y530 y1040 x16_0 => if x14 < (y1040.length : Int) then (if 0 ≤ x14 then (if 0 ≤ (rdOf (0 : Int) y1040 x14) then (if (rdOf (0 : Int) y1040 x14) < (x16_0.length : Int) then (if (rd_T82 x16_0 (rdOf (0 : Int) y1040 x14)).f0 = 6 then (.opt (impl_Closure_1_2.fv ((rd_T82 x16_0 (rdOf (0 : Int) y1040 x14)).f4) x16_0 y530 y1040) fun t53 => (.to (.l1 x2 x3 (wrap64 (x14 + 1)) t53.1 t53.2 x16_0))) else (if (rd_T82 x16_0 (rdOf (0 : Int) y1040 x14)).f0 = 7 then (.opt (impl_Closure_1_2.fv ((rd_T82 x16_0 (rdOf (0 : Int) y1040 x14)).f4) x16_0 y530 y1040) fun t59 => (.opt (impl_Closure_1_2.fv ((rd_T82 x16_0 (rdOf (0 : Int) y1040 x14)).f5) x16_0 t59.1 t59.2) fun t63 => (.to (.l1 x2 x3 (wrap64 (x14 + 1)) t63.1 t63.2 x16_0)))) else (if (rd_T82 x16_0 (rdOf (0 : Int) y1040 x14)).f0 = 4 then (if x2 = true then (.opt (impl_Closure_1_2.fv ((wrap64 ((rdOf (0 : Int) y1040 x14) + 1))) x16_0 y530 y1040) fun t70 => (.to (.l1 x2 x3 (wrap64 (x14 + 1)) t70.1 t70.2 x16_0))) else (.to (.l1 x2 x3 (wrap64 (x14 + 1)) y530 y1040 x16_0))) else (if (rd_T82 x16_0 (rdOf (0 : Int) y1040 x14)).f0 = 5 then (if x3 = true then (.opt (impl_Closure_1_2.fv ((wrap64 ((rdOf (0 : Int) y1040 x14) + 1))) x16_0 y530 y1040) fun t77 => (.to (.l1 x2 x3 (wrap64 (x14 + 1)) t77.1 t77.2 x16_0))) else (.to (.l1 x2 x3 (wrap64 (x14 + 1)) y530 y1040 x16_0))) else (.to (.l1 x2 x3 (wrap64 (x14 + 1)) y530 y1040 x16_0)))))) else (.bad)) else (.bad)) else (.bad)) else (.opt (slices_Sort_int.f y1040) fun t79 => (.ret t79))
def impl_Closure_2.fv (l0 : List S82) (l1 : List Int) (a2 : Bool) (a3 : Bool) : Option ((List Int)) := lim impl_Closure_2.B (.f l0 l1 a2 a3)
def impl_Closure_2.l0v (x2 : Bool) (x3 : Bool) (x22 : List Int) (x23 : Int) (x24 : Int) (y530 : List Bool) (y1040 : List Int) (x16_0 : List S82) : Option ((List Int)) := lim impl_Closure_2.B (.l0 x2 x3 x22 x23 x24 y530 y1040 x16_0)
def impl_Closure_2.l1v (x2 : Bool) (x3 : Bool) (x14 : Int) (y530 : List Bool) (y1040 : List Int) (x16_0 : List S82) : Option ((List Int)) := lim impl_Closure_2.B (.l1 x2 x3 x14 y530 y1040 x16_0)
theorem impl_Closure_2.fv_eq (l0 : List S82) (l1 : List Int) (a2 : Bool) (a3 : Bool) : impl_Closure_2.fv l0 l1 a2 a3 = (if 0 ≤ (l0.length : Int) then (if ((l0.length : Int) : Int).toNat ≤ 281474976710656 then (impl_Closure_2.l0v a2 a3 l1 (l1.length : Int) 0 ((List.replicate ((l0.length : Int) : Int).toNat false)) ([] : List Int) l0) else (none)) else (none)) := by
  show lim impl_Closure_2.B (.f l0 l1 a2 a3) = _
  rw [lim_eq, impl_Closure_2.B]
  simp only [ev_ite, ev_opt, ev_ask, ev_to, ev_ret, ev_bad]
  try rfl
theorem impl_Closure_2.l0v_eq (x2 : Bool) (x3 : Bool) (x22 : List Int) (x23 : Int) (x24 : Int) (y530 : List Bool) (y1040 : List Int) (x16_0 : List S82) : impl_Closure_2.l0v x2 x3 x22 x23 x24 y530 y1040 x16_0 = (if x24 < x23 then (if 0 ≤ x24 then (if x24 < (x22.length : Int) then ((impl_Closure_1_2.fv (rdOf (0 : Int) x22 x24) x16_0 y530 y1040).bind fun t30 => (impl_Closure_2.l0v x2 x3 x22 x23 (wrap64 (x24 + 1)) t30.1 t30.2 x16_0)) else (none)) else (none)) else (impl_Closure_2.l1v x2 x3 0 y530 y1040 x16_0)) := by
  show lim impl_Closure_2.B (.l0 x2 x3 x22 x23 x24 y530 y1040 x16_0) = _
  rw [lim_eq, impl_Closure_2.B]
  simp only [ev_ite, ev_opt, ev_ask, ev_to, ev_ret, ev_bad]
  try rfl
theorem impl_Closure_2.l1v_eq (x2 : Bool) (x3 : Bool) (x14 : Int) (y530 : List Bool) (y1040 : List Int) (x16_0 : List S82) : impl_Closure_2.l1v x2 x3 x14 y530 y1040 x16_0 = (if x14 < (y1040.length : Int) then (if 0 ≤ x14 then (if 0 ≤ (rdOf (0 : Int) y1040 x14) then (if (rdOf (0 : Int) y1040 x14) < (x16_0.length : Int) then (if (rd_T82 x16_0 (rdOf (0 : Int) y1040 x14)).f0 = 6 then ((impl_Closure_1_2.fv ((rd_T82 x16_0 (rdOf (0 : Int) y1040 x14)).f4) x16_0 y530 y1040).bind fun t53 => (impl_Closure_2.l1v x2 x3 (wrap64 (x14 + 1)) t53.1 t53.2 x16_0)) else (if (rd_T82 x16_0 (rdOf (0 : Int) y1040 x14)).f0 = 7 then ((impl_Closure_1_2.fv ((rd_T82 x16_0 (rdOf (0 : Int) y1040 x14)).f4) x16_0 y530 y1040).bind fun t59 => ((impl_Closure_1_2.fv ((rd_T82 x16_0 (rdOf (0 : Int) y1040 x14)).f5) x16_0 t59.1 t59.2).bind fun t63 => (impl_Closure_2.l1v x2 x3 (wrap64 (x14 + 1)) t63.1 t63.2 x16_0))) else (if (rd_T82 x16_0 (rdOf (0 : Int) y1040 x14)).f0 = 4 then (if x2 = true then ((impl_Closure_1_2.fv ((wrap64 ((rdOf (0 : Int) y1040 x14) + 1))) x16_0 y530 y1040).bind fun t70 => (impl_Closure_2.l1v x2 x3 (wrap64 (x14 + 1)) t70.1 t70.2 x16_0)) else (impl_Closure_2.l1v x2 x3 (wrap64 (x14 + 1)) y530 y1040 x16_0)) else (if (rd_T82 x16_0 (rdOf (0 : Int) y1040 x14)).f0 = 5 then (if x3 = true then ((impl_Closure_1_2.fv ((wrap64 ((rdOf (0 : Int) y1040 x14) + 1))) x16_0 y530 y1040).bind fun t77 => (impl_Closure_2.l1v x2 x3 (wrap64 (x14 + 1)) t77.1 t77.2 x16_0)) else (impl_Closure_2.l1v x2 x3 (wrap64 (x14 + 1)) y530 y1040 x16_0)) else (impl_Closure_2.l1v x2 x3 (wrap64 (x14 + 1)) y530 y1040 x16_0))))) else (none)) else (none)) else (none)) else ((slices_Sort_int.f y1040).bind fun t79 => (some t79))) := by
  show lim impl_Closure_2.B (.l1 x2 x3 x14 y530 y1040 x16_0) = _
  rw [lim_eq, impl_Closure_2.B]
  simp only [ev_ite, ev_opt, ev_ask, ev_to, ev_ret, ev_bad]
  try rfl
inductive laws_eqIntS_2.Q where
  | f (l0 : List Int) (l1 : List Int)
  | l0 (x0 : List Int) (x1 : List Int) (x5 : Int)
def laws_eqIntS_2.B : laws_eqIntS_2.Q → Pg laws_eqIntS_2.Q (fun _ => Bool) (Bool)
  | .f l0 l1 => if (l0.length : Int) = (l1.length : Int) then (.to (.l0 l0 l1 0)) else (.ret false)
  | .l0 x0 x1 x5 => if x5 < (x0.length : Int) then (if 0 ≤ x5 then (if x5 < (x1.length : Int) then (if (rdOf (0 : Int) x0 x5) = (rdOf (0 : Int) x1 x5) then (.to (.l0 x0 x1 (wrap64 (x5 + 1)))) else (.ret false)) else (.bad)) else (.bad)) else (.ret true)
def laws_eqIntS_2.fv (l0 : List Int) (l1 : List Int) : Option (Bool) := lim laws_eqIntS_2.B (.f l0 l1)
def laws_eqIntS_2.l0v (x0 : List Int) (x1 : List Int) (x5 : Int) : Option (Bool) := lim laws_eqIntS_2.B (.l0 x0 x1 x5)
theorem laws_eqIntS_2.fv_eq (l0 : List Int) (l1 : List Int) : laws_eqIntS_2.fv l0 l1 = (if (l0.length : Int) = (l1.length : Int) then (laws_eqIntS_2.l0v l0 l1 0) else (some false)) := by
  show lim laws_eqIntS_2.B (.f l0 l1) = _
  rw [lim_eq, laws_eqIntS_2.B]
  simp only [ev_ite, ev_opt, ev_ask, ev_to, ev_ret, ev_bad]
  try rfl
theorem laws_eqIntS_2.l0v_eq (x0 : List Int) (x1 : List Int) (x5 : Int) : laws_eqIntS_2.l0v x0 x1 x5 = (if x5 < (x0.length : Int) then (if 0 ≤ x5 then (if x5 < (x1.length : Int) then (if (rdOf (0 : Int) x0 x5) = (rdOf (0 : Int) x1 x5) then (laws_eqIntS_2.l0v x0 x1 (wrap64 (x5 + 1))) else (some false)) else (none)) else (none)) else (some true)) := by
  show lim laws_eqIntS_2.B (.l0 x0 x1 x5) = _
  rw [lim_eq, laws_eqIntS_2.B]
  simp only [ev_ite, ev_opt, ev_ask, ev_to, ev_ret, ev_bad]
  try rfl
inductive laws_FnExactClosure.Q where
  | f (l0 : List S99) (l1 : List Int) (a2 : Bool) (a3 : Bool)
  | j0 (x0 : List S99) (x1 : List Int) (x2 : Bool) (x3 : Bool) (x10 : List Int) (x13 : List Int)
  | j1 (x0 : List S99) (x1 : List Int) (x2 : Bool) (x3 : Bool) (x10 : List Int) (x13 : List Int) (x69 : Bool)
def laws_FnExactClosure.B : laws_FnExactClosure.Q → Pg laws_FnExactClosure.Q (fun _ => Bool) (Bool)
  | .f l0 l1 a2 a3 => if (l1.length : Int) > 1048576 then (.ret true) else (.opt (laws_szPlaceS.fv l0 1048576) fun t23 => (if t23 < 0 then (.ret true) else (.opt (laws_toPlaceS.fv l0) fun t27 => (.opt (laws_toIntS.fv l1) fun t29 => (.opt (spec_Closure.fv t27 t29 a2 a3) fun t32 => (.opt (laws_toPlaceS.fv l0) fun t34 => (.opt (laws_toIntS.fv l1) fun t36 => (.opt (impl_Closure.fv t34 t36 a2 a3) fun t41 => (.opt (laws_eqIntS.fv t41 t32) fun t44 => (if t44 = true then (.opt (laws_toPlaceS.fv l0) fun t48 => (.opt (laws_eqPlaceS.fv t34 t48) fun t49 => (if t49 = true then (.opt (laws_toIntS.fv l1) fun t53 => (.opt (laws_eqIntS.fv t36 t53) fun t54 => (if t54 = true then (.opt (laws_markPlaceS.fv t34 1) fun t58 => (.opt (laws_markIntS.fv t36 t58.1) fun t61 => (if t61.1 < 0 then (.to (.j1 l0 l1 a2 a3 t32 t41 true)) else (.opt (laws_eqIntS.fv t41 t32) fun t67 => (.to (.j1 l0 l1 a2 a3 t32 t41 (!t67))))))) else (.ret false)))) else (.ret false)))) else (.ret false)))))))))))
  | .j0 x0 x1 x2 x3 x10 x13 => .opt (laws_markIntS.fv x13 1) fun t72 => (.opt (laws_heldIntS.fv t72.2 1) fun t75 => (if t75 < 0 then (.ret false) else (if t75 = t72.1 then (.opt (laws_toPlaceS.fv x0) fun t82 => (.opt (laws_toIntS.fv x1) fun t84 => (.opt (impl_Closure_2.fv t82 t84 x2 x3) fun t87 => (.opt (laws_eqIntS_2.fv t87 x10) fun t90 => (if t90 = true then (.opt (laws_heldIntS.fv t72.2 1) fun t94 => (if t94 < 0 then (.ret false) else (if t94 = t72.1 then (.ret true) else (.ret false)))) else (.ret false)))))) else (.ret false))))
  | .j1 x0 x1 x2 x3 x10 x13 x69 => if x69 = true then (.ret false) else (.to (.j0 x0 x1 x2 x3 x10 x13))
def laws_FnExactClosure.fv (l0 : List S99) (l1 : List Int) (a2 : Bool) (a3 : Bool) : Option (Bool) := lim laws_FnExactClosure.B (.f l0 l1 a2 a3)
def laws_FnExactClosure.j0v (x0 : List S99) (x1 : List Int) (x2 : Bool) (x3 : Bool) (x10 : List Int) (x13 : List Int) : Option (Bool) := lim laws_FnExactClosure.B (.j0 x0 x1 x2 x3 x10 x13)
def laws_FnExactClosure.j1v (x0 : List S99) (x1 : List Int) (x2 : Bool) (x3 : Bool) (x10 : List Int) (x13 : List Int) (x69 : Bool) : Option (Bool) := lim laws_FnExactClosure.B (.j1 x0 x1 x2 x3 x10 x13 x69)
theorem laws_FnExactClosure.fv_eq (l0 : List S99) (l1 : List Int) (a2 : Bool) (a3 : Bool) : laws_FnExactClosure.fv l0 l1 a2 a3 = (if (l1.length : Int) > 1048576 then (some true) else ((laws_szPlaceS.fv l0 1048576).bind fun t23 => (if t23 < 0 then (some true) else ((laws_toPlaceS.fv l0).bind fun t27 => ((laws_toIntS.fv l1).bind fun t29 => ((spec_Closure.fv t27 t29 a2 a3).bind fun t32 => ((laws_toPlaceS.fv l0).bind fun t34 => ((laws_toIntS.fv l1).bind fun t36 => ((impl_Closure.fv t34 t36 a2 a3).bind fun t41 => ((laws_eqIntS.fv t41 t32).bind fun t44 => (if t44 = true then ((laws_toPlaceS.fv l0).bind fun t48 => ((laws_eqPlaceS.fv t34 t48).bind fun t49 => (if t49 = true then ((laws_toIntS.fv l1).bind fun t53 => ((laws_eqIntS.fv t36 t53).bind fun t54 => (if t54 = true then ((laws_markPlaceS.fv t34 1).bind fun t58 => ((laws_markIntS.fv t36 t58.1).bind fun t61 => (if t61.1 < 0 then (laws_FnExactClosure.j1v l0 l1 a2 a3 t32 t41 true) else ((laws_eqIntS.fv t41 t32).bind fun t67 => (laws_FnExactClosure.j1v l0 l1 a2 a3 t32 t41 (!t67)))))) else (some false)))) else (some false)))) else (some false)))))))))))) := by
  show lim laws_FnExactClosure.B (.f l0 l1 a2 a3) = _
  rw [lim_eq, laws_FnExactClosure.B]
  simp only [ev_ite, ev_opt, ev_ask, ev_to, ev_ret, ev_bad]
  try rfl
theorem laws_FnExactClosure.j0v_eq (x0 : List S99) (x1 : List Int) (x2 : Bool) (x3 : Bool) (x10 : List Int) (x13 : List Int) : laws_FnExactClosure.j0v x0 x1 x2 x3 x10 x13 = ((laws_markIntS.fv x13 1).bind fun t72 => ((laws_heldIntS.fv t72.2 1).bind fun t75 => (if t75 < 0 then (some false) else (if t75 = t72.1 then ((laws_toPlaceS.fv x0).bind fun t82 => ((laws_toIntS.fv x1).bind fun t84 => ((impl_Closure_2.fv t82 t84 x2 x3).bind fun t87 => ((laws_eqIntS_2.fv t87 x10).bind fun t90 => (if t90 = true then ((laws_heldIntS.fv t72.2 1).bind fun t94 => (if t94 < 0 then (some false) else (if t94 = t72.1 then (some true) else (some false)))) else (some false)))))) else (some false))))) := by
  show lim laws_FnExactClosure.B (.j0 x0 x1 x2 x3 x10 x13) = _
  rw [lim_eq, laws_FnExactClosure.B]
  simp only [ev_ite, ev_opt, ev_ask, ev_to, ev_ret, ev_bad]
  try rfl
theorem laws_FnExactClosure.j1v_eq (x0 : List S99) (x1 : List Int) (x2 : Bool) (x3 : Bool) (x10 : List Int) (x13 : List Int) (x69 : Bool) : laws_FnExactClosure.j1v x0 x1 x2 x3 x10 x13 x69 = (if x69 = true then (some false) else (laws_FnExactClosure.j0v x0 x1 x2 x3 x10 x13)) := by
  show lim laws_FnExactClosure.B (.j1 x0 x1 x2 x3 x10 x13 x69) = _
  rw [lim_eq, laws_FnExactClosure.B]
  simp only [ev_ite, ev_opt, ev_ask, ev_to, ev_ret, ev_bad]
  try rfl
def Wf99 (x : S99) : Prop := (Lit.int .i64 x.f0).wf = true ∧ (Lit.int .i64 x.f1).wf = true ∧ x.f2.size ≤ maxLen ∧ True ∧ (Lit.int .i64 x.f4).wf = true ∧ (Lit.int .i64 x.f5).wf = true
def laws_FnExactClosure.Pure : Prop := ∀ (x0 : List S99) (x1 : List Int) (x2 : Bool) (x3 : Bool), (x0.length ≤ maxLen ∧ ∀ x_ ∈ x0, Wf99 x_) → (x1.length ≤ maxLen ∧ ∀ x_ ∈ x1, (fun n_ : Int => (Lit.int .i64 n_).wf = true) x_) → laws_FnExactClosure.fv x0 x1 x2 x3 = some true
end
end Go.Proofs.Ytfdpehmefgfjgaa.QFnExactClosure
