/- The functions that FnExactMatchAt reaches, as they compute. -/
import Derived.Test.YtdajhceookjdmaaPg
import Derived.Test.YtdajhceookjdmaaMw
import Derived.Lib.Bytealg
set_option linter.unusedVariables false
set_option linter.unusedSimpArgs false
set_option maxRecDepth 100000
namespace Go.Proofs.Ytdajhceookjdmaa.QFnExactMatchAt
open Go.RowKit Go.Proofs.YtdajhceookjdmaaW.PrintWords Go.Proofs.YtdajhceookjdmaaW.Pgs
noncomputable section
structure S59 where
  f0 : Int
  f1 : Int
  f2 : ByteArray
  f3 : Bool
  f4 : Int
  f5 : Int
def z59 : S59 := ⟨(0 : Int), (0 : Int), (⟨#[]⟩ : ByteArray), false, (0 : Int), (0 : Int)⟩
def rd_T59 (xs : List S59) (i : Int) : S59 := xs.getD i.toNat z59
structure S62 where
  f0 : Int
  f1 : Int
  f2 : ByteArray
  f3 : Bool
  f4 : Int
  f5 : Int
def z62 : S62 := ⟨(0 : Int), (0 : Int), (⟨#[]⟩ : ByteArray), false, (0 : Int), (0 : Int)⟩
def rd_T62 (xs : List S62) (i : Int) : S62 := xs.getD i.toNat z62
def slices_Sort_int.f (l : List Int) : Option (List Int) := if l.length < 4611686018427387904 then some (l.mergeSort fun x y => decide (x ≤ y)) else none
def strings_IndexByte.f (a0 : ByteArray) (a1 : Int) : Option (Int) := some (Lib.indexByte a0.data.toList a1.toNat.toUInt8)
def strings_Contains.f (a0 : ByteArray) (a1 : ByteArray) : Option (Bool) := match a1.data.toList with | [c_] => some (decide (0 ≤ Lib.indexByte a0.data.toList c_)) | _ => none
def laws_szPlace.f (a0_0 : Int) (a0_1 : Int) (a0_2 : ByteArray) (a0_3 : Bool) (a0_4 : Int) (a0_5 : Int) (a1 : Int) : Option (Int) := if (wrap64 (a1 - (a0_2.size : Int))) < 0 then (some (-1)) else (some (wrap64 (a1 - (a0_2.size : Int))))
inductive laws_szPlaceS.Q where
  | f (l0 : List S59) (a1 : Int)
  | l0 (x0 : List S59) (x1 : Int) (x5 : Int)
def laws_szPlaceS.B : laws_szPlaceS.Q → Pg laws_szPlaceS.Q (fun _ => Int) (Int)
  | .f l0 a1 => if (wrap64 (a1 - (l0.length : Int))) < 0 then (.ret (-1)) else (.to (.l0 l0 ((wrap64 (a1 - (l0.length : Int)))) 0))
  | .l0 x0 x1 x5 => if x5 < (x0.length : Int) then (if 0 ≤ x5 then (.opt (laws_szPlace.f ((rd_T59 x0 x5).f0) ((rd_T59 x0 x5).f1) ((rd_T59 x0 x5).f2) ((rd_T59 x0 x5).f3) ((rd_T59 x0 x5).f4) ((rd_T59 x0 x5).f5) x1) fun t23 => (if t23 < 0 then (.ret (-1)) else (.to (.l0 x0 t23 (wrap64 (x5 + 1)))))) else (.bad)) else (.ret x1)
def laws_szPlaceS.fv (l0 : List S59) (a1 : Int) : Option (Int) := lim laws_szPlaceS.B (.f l0 a1)
def laws_szPlaceS.l0v (x0 : List S59) (x1 : Int) (x5 : Int) : Option (Int) := lim laws_szPlaceS.B (.l0 x0 x1 x5)
theorem laws_szPlaceS.fv_eq (l0 : List S59) (a1 : Int) : laws_szPlaceS.fv l0 a1 = (if (wrap64 (a1 - (l0.length : Int))) < 0 then (some (-1)) else (laws_szPlaceS.l0v l0 ((wrap64 (a1 - (l0.length : Int)))) 0)) := by
  show lim laws_szPlaceS.B (.f l0 a1) = _
  rw [lim_eq, laws_szPlaceS.B]
  simp only [ev_ite, ev_opt, ev_ask, ev_to, ev_ret, ev_bad]
  try rfl
theorem laws_szPlaceS.l0v_eq (x0 : List S59) (x1 : Int) (x5 : Int) : laws_szPlaceS.l0v x0 x1 x5 = (if x5 < (x0.length : Int) then (if 0 ≤ x5 then ((laws_szPlace.f ((rd_T59 x0 x5).f0) ((rd_T59 x0 x5).f1) ((rd_T59 x0 x5).f2) ((rd_T59 x0 x5).f3) ((rd_T59 x0 x5).f4) ((rd_T59 x0 x5).f5) x1).bind fun t23 => (if t23 < 0 then (some (-1)) else (laws_szPlaceS.l0v x0 t23 (wrap64 (x5 + 1))))) else (none)) else (some x1)) := by
  show lim laws_szPlaceS.B (.l0 x0 x1 x5) = _
  rw [lim_eq, laws_szPlaceS.B]
  simp only [ev_ite, ev_opt, ev_ask, ev_to, ev_ret, ev_bad]
  try rfl
def laws_toPlace.f (a0_0 : Int) (a0_1 : Int) (a0_2 : ByteArray) (a0_3 : Bool) (a0_4 : Int) (a0_5 : Int) : Option (Int × Int × ByteArray × Bool × Int × Int) := some (a0_0, a0_1, a0_2, a0_3, a0_4, a0_5)
inductive laws_toPlaceS.Q where
  | f (l0 : List S59)
  | l0 (x0 : List S59) (x3 : List S62) (x4 : Int)
def laws_toPlaceS.B : laws_toPlaceS.Q → Pg laws_toPlaceS.Q (fun _ => (List S62)) ((List S62))
  | .f l0 => if 0 ≤ (l0.length : Int) then (if ((l0.length : Int) : Int).toNat ≤ 5026338869833 then (.to (.l0 l0 ((List.replicate ((l0.length : Int) : Int).toNat z62)) 0)) else (.bad)) else (.bad)
  | .l0 x0 x3 x4 => if x4 < (x0.length : Int) then (if 0 ≤ x4 then (.opt (laws_toPlace.f ((rd_T59 x0 x4).f0) ((rd_T59 x0 x4).f1) ((rd_T59 x0 x4).f2) ((rd_T59 x0 x4).f3) ((rd_T59 x0 x4).f4) ((rd_T59 x0 x4).f5)) fun t20 => (if x4 < (x3.length : Int) then (.to (.l0 x0 (x3.set (x4 : Int).toNat (⟨t20.1, t20.2.1, t20.2.2.1, t20.2.2.2.1, t20.2.2.2.2.1, t20.2.2.2.2.2⟩ : S62)) (wrap64 (x4 + 1)))) else (.bad))) else (.bad)) else (.ret x3)
def laws_toPlaceS.fv (l0 : List S59) : Option ((List S62)) := lim laws_toPlaceS.B (.f l0)
def laws_toPlaceS.l0v (x0 : List S59) (x3 : List S62) (x4 : Int) : Option ((List S62)) := lim laws_toPlaceS.B (.l0 x0 x3 x4)
theorem laws_toPlaceS.fv_eq (l0 : List S59) : laws_toPlaceS.fv l0 = (if 0 ≤ (l0.length : Int) then (if ((l0.length : Int) : Int).toNat ≤ 5026338869833 then (laws_toPlaceS.l0v l0 ((List.replicate ((l0.length : Int) : Int).toNat z62)) 0) else (none)) else (none)) := by
  show lim laws_toPlaceS.B (.f l0) = _
  rw [lim_eq, laws_toPlaceS.B]
  simp only [ev_ite, ev_opt, ev_ask, ev_to, ev_ret, ev_bad]
  try rfl
theorem laws_toPlaceS.l0v_eq (x0 : List S59) (x3 : List S62) (x4 : Int) : laws_toPlaceS.l0v x0 x3 x4 = (if x4 < (x0.length : Int) then (if 0 ≤ x4 then ((laws_toPlace.f ((rd_T59 x0 x4).f0) ((rd_T59 x0 x4).f1) ((rd_T59 x0 x4).f2) ((rd_T59 x0 x4).f3) ((rd_T59 x0 x4).f4) ((rd_T59 x0 x4).f5)).bind fun t20 => (if x4 < (x3.length : Int) then (laws_toPlaceS.l0v x0 (x3.set (x4 : Int).toNat (⟨t20.1, t20.2.1, t20.2.2.1, t20.2.2.2.1, t20.2.2.2.2.1, t20.2.2.2.2.2⟩ : S62)) (wrap64 (x4 + 1))) else (none))) else (none)) else (some x3)) := by
  show lim laws_toPlaceS.B (.l0 x0 x3 x4) = _
  rw [lim_eq, laws_toPlaceS.B]
  simp only [ev_ite, ev_opt, ev_ask, ev_to, ev_ret, ev_bad]
  try rfl
def spec_l1In.f (a0 : Int) (a1 : Int) (a2 : Int) : Option (Bool) := if a0 ≥ a1 then (some (decide (a0 ≤ a2))) else (some false)
inductive spec_l4Place.Q where
  | f (a0_0 : Int) (a0_1 : Int) (a0_2 : ByteArray) (a0_3 : Bool) (a0_4 : Int) (a0_5 : Int) (a1 : Int)
  | j0 (x1 : Int) (x5 : Bool) (x16_0 : Int) (x16_1 : Int) (x16_2 : ByteArray) (x16_3 : Bool) (x16_4 : Int) (x16_5 : Int)
  | j1 (x1 : Int) (x5 : Bool) (x6 : Bool) (x16_0 : Int) (x16_1 : Int) (x16_2 : ByteArray) (x16_3 : Bool) (x16_4 : Int) (x16_5 : Int)
  | j2 (x1 : Int) (x5 : Bool) (x6 : Bool) (x7 : Bool) (x16_0 : Int) (x16_1 : Int) (x16_2 : ByteArray) (x16_3 : Bool) (x16_4 : Int) (x16_5 : Int)
  | j3 (x5 : Bool) (x6 : Bool) (x7 : Bool) (x8 : Bool) (x16_0 : Int) (x16_1 : Int) (x16_2 : ByteArray) (x16_3 : Bool) (x16_4 : Int) (x16_5 : Int)
def spec_l4Place.B : spec_l4Place.Q → Pg spec_l4Place.Q (fun _ => Bool) (Bool)
  | .f a0_0 a0_1 a0_2 a0_3 a0_4 a0_5 a1 => .opt (spec_l1In.f a0_1 0 255) fun t11 => (if t11 = true then (if a0_0 = 1 then (.to (.j0 a1 true a0_0 a0_1 a0_2 a0_3 a0_4 a0_5)) else (.to (.j0 a1 (a0_1 == 0) a0_0 a0_1 a0_2 a0_3 a0_4 a0_5))) else (.to (.j0 a1 (a0_1 == 0) a0_0 a0_1 a0_2 a0_3 a0_4 a0_5)))
  | .j0 x1 x5 x16_0 x16_1 x16_2 x16_3 x16_4 x16_5 => if x16_0 = 3 then (.to (.j1 x1 x5 true x16_0 x16_1 x16_2 x16_3 x16_4 x16_5)) else (if x16_2.toList = ([] : List UInt8) then (.to (.j1 x1 x5 (!x16_3) x16_0 x16_1 x16_2 x16_3 x16_4 x16_5)) else (.to (.j1 x1 x5 false x16_0 x16_1 x16_2 x16_3 x16_4 x16_5)))
  | .j1 x1 x5 x6 x16_0 x16_1 x16_2 x16_3 x16_4 x16_5 => if x16_0 = 6 then (.opt (spec_l1In.f x16_4 0 (wrap64 (x1 - 1))) fun t48 => (if t48 = true then (.to (.j2 x1 x5 x6 true x16_0 x16_1 x16_2 x16_3 x16_4 x16_5)) else (if x16_4 = 0 then (.to (.j2 x1 x5 x6 false x16_0 x16_1 x16_2 x16_3 x16_4 x16_5)) else (.to (.j2 x1 x5 x6 false x16_0 x16_1 x16_2 x16_3 x16_4 x16_5))))) else (if x16_0 = 7 then (.opt (spec_l1In.f x16_4 0 (wrap64 (x1 - 1))) fun t48 => (if t48 = true then (.to (.j2 x1 x5 x6 true x16_0 x16_1 x16_2 x16_3 x16_4 x16_5)) else (if x16_4 = 0 then (.to (.j2 x1 x5 x6 (x16_0 != 7) x16_0 x16_1 x16_2 x16_3 x16_4 x16_5)) else (.to (.j2 x1 x5 x6 false x16_0 x16_1 x16_2 x16_3 x16_4 x16_5))))) else (if x16_4 = 0 then (.to (.j2 x1 x5 x6 (x16_0 != 7) x16_0 x16_1 x16_2 x16_3 x16_4 x16_5)) else (.to (.j2 x1 x5 x6 false x16_0 x16_1 x16_2 x16_3 x16_4 x16_5))))
  | .j2 x1 x5 x6 x7 x16_0 x16_1 x16_2 x16_3 x16_4 x16_5 => if x16_0 = 7 then (.opt (spec_l1In.f x16_5 0 (wrap64 (x1 - 1))) fun t73 => (if t73 = true then (.to (.j3 x5 x6 x7 true x16_0 x16_1 x16_2 x16_3 x16_4 x16_5)) else (if x16_5 = 0 then (.to (.j3 x5 x6 x7 (x16_0 != 7) x16_0 x16_1 x16_2 x16_3 x16_4 x16_5)) else (.to (.j3 x5 x6 x7 false x16_0 x16_1 x16_2 x16_3 x16_4 x16_5))))) else (if x16_5 = 0 then (.to (.j3 x5 x6 x7 (x16_0 != 7) x16_0 x16_1 x16_2 x16_3 x16_4 x16_5)) else (.to (.j3 x5 x6 x7 false x16_0 x16_1 x16_2 x16_3 x16_4 x16_5)))
  | .j3 x5 x6 x7 x8 x16_0 x16_1 x16_2 x16_3 x16_4 x16_5 => .opt (spec_l1In.f x16_0 1 8) fun t87 => (if t87 = true then (if x5 = true then (if x6 = true then (if x7 = true then (.ret x8) else (.ret false)) else (.ret false)) else (.ret false)) else (.ret false))
def spec_l4Place.fv (a0_0 : Int) (a0_1 : Int) (a0_2 : ByteArray) (a0_3 : Bool) (a0_4 : Int) (a0_5 : Int) (a1 : Int) : Option (Bool) := lim spec_l4Place.B (.f a0_0 a0_1 a0_2 a0_3 a0_4 a0_5 a1)
def spec_l4Place.j0v (x1 : Int) (x5 : Bool) (x16_0 : Int) (x16_1 : Int) (x16_2 : ByteArray) (x16_3 : Bool) (x16_4 : Int) (x16_5 : Int) : Option (Bool) := lim spec_l4Place.B (.j0 x1 x5 x16_0 x16_1 x16_2 x16_3 x16_4 x16_5)
def spec_l4Place.j1v (x1 : Int) (x5 : Bool) (x6 : Bool) (x16_0 : Int) (x16_1 : Int) (x16_2 : ByteArray) (x16_3 : Bool) (x16_4 : Int) (x16_5 : Int) : Option (Bool) := lim spec_l4Place.B (.j1 x1 x5 x6 x16_0 x16_1 x16_2 x16_3 x16_4 x16_5)
def spec_l4Place.j2v (x1 : Int) (x5 : Bool) (x6 : Bool) (x7 : Bool) (x16_0 : Int) (x16_1 : Int) (x16_2 : ByteArray) (x16_3 : Bool) (x16_4 : Int) (x16_5 : Int) : Option (Bool) := lim spec_l4Place.B (.j2 x1 x5 x6 x7 x16_0 x16_1 x16_2 x16_3 x16_4 x16_5)
def spec_l4Place.j3v (x5 : Bool) (x6 : Bool) (x7 : Bool) (x8 : Bool) (x16_0 : Int) (x16_1 : Int) (x16_2 : ByteArray) (x16_3 : Bool) (x16_4 : Int) (x16_5 : Int) : Option (Bool) := lim spec_l4Place.B (.j3 x5 x6 x7 x8 x16_0 x16_1 x16_2 x16_3 x16_4 x16_5)
theorem spec_l4Place.fv_eq (a0_0 : Int) (a0_1 : Int) (a0_2 : ByteArray) (a0_3 : Bool) (a0_4 : Int) (a0_5 : Int) (a1 : Int) : spec_l4Place.fv a0_0 a0_1 a0_2 a0_3 a0_4 a0_5 a1 = ((spec_l1In.f a0_1 0 255).bind fun t11 => (if t11 = true then (if a0_0 = 1 then (spec_l4Place.j0v a1 true a0_0 a0_1 a0_2 a0_3 a0_4 a0_5) else (spec_l4Place.j0v a1 (a0_1 == 0) a0_0 a0_1 a0_2 a0_3 a0_4 a0_5)) else (spec_l4Place.j0v a1 (a0_1 == 0) a0_0 a0_1 a0_2 a0_3 a0_4 a0_5))) := by
  show lim spec_l4Place.B (.f a0_0 a0_1 a0_2 a0_3 a0_4 a0_5 a1) = _
  rw [lim_eq, spec_l4Place.B]
  simp only [ev_ite, ev_opt, ev_ask, ev_to, ev_ret, ev_bad]
  try rfl
theorem spec_l4Place.j0v_eq (x1 : Int) (x5 : Bool) (x16_0 : Int) (x16_1 : Int) (x16_2 : ByteArray) (x16_3 : Bool) (x16_4 : Int) (x16_5 : Int) : spec_l4Place.j0v x1 x5 x16_0 x16_1 x16_2 x16_3 x16_4 x16_5 = (if x16_0 = 3 then (spec_l4Place.j1v x1 x5 true x16_0 x16_1 x16_2 x16_3 x16_4 x16_5) else (if x16_2.toList = ([] : List UInt8) then (spec_l4Place.j1v x1 x5 (!x16_3) x16_0 x16_1 x16_2 x16_3 x16_4 x16_5) else (spec_l4Place.j1v x1 x5 false x16_0 x16_1 x16_2 x16_3 x16_4 x16_5))) := by
  show lim spec_l4Place.B (.j0 x1 x5 x16_0 x16_1 x16_2 x16_3 x16_4 x16_5) = _
  rw [lim_eq, spec_l4Place.B]
  simp only [ev_ite, ev_opt, ev_ask, ev_to, ev_ret, ev_bad]
  try rfl
theorem spec_l4Place.j1v_eq (x1 : Int) (x5 : Bool) (x6 : Bool) (x16_0 : Int) (x16_1 : Int) (x16_2 : ByteArray) (x16_3 : Bool) (x16_4 : Int) (x16_5 : Int) : spec_l4Place.j1v x1 x5 x6 x16_0 x16_1 x16_2 x16_3 x16_4 x16_5 = (if x16_0 = 6 then ((spec_l1In.f x16_4 0 (wrap64 (x1 - 1))).bind fun t48 => (if t48 = true then (spec_l4Place.j2v x1 x5 x6 true x16_0 x16_1 x16_2 x16_3 x16_4 x16_5) else (if x16_4 = 0 then (spec_l4Place.j2v x1 x5 x6 false x16_0 x16_1 x16_2 x16_3 x16_4 x16_5) else (spec_l4Place.j2v x1 x5 x6 false x16_0 x16_1 x16_2 x16_3 x16_4 x16_5)))) else (if x16_0 = 7 then ((spec_l1In.f x16_4 0 (wrap64 (x1 - 1))).bind fun t48 => (if t48 = true then (spec_l4Place.j2v x1 x5 x6 true x16_0 x16_1 x16_2 x16_3 x16_4 x16_5) else (if x16_4 = 0 then (spec_l4Place.j2v x1 x5 x6 (x16_0 != 7) x16_0 x16_1 x16_2 x16_3 x16_4 x16_5) else (spec_l4Place.j2v x1 x5 x6 false x16_0 x16_1 x16_2 x16_3 x16_4 x16_5)))) else (if x16_4 = 0 then (spec_l4Place.j2v x1 x5 x6 (x16_0 != 7) x16_0 x16_1 x16_2 x16_3 x16_4 x16_5) else (spec_l4Place.j2v x1 x5 x6 false x16_0 x16_1 x16_2 x16_3 x16_4 x16_5)))) := by
  show lim spec_l4Place.B (.j1 x1 x5 x6 x16_0 x16_1 x16_2 x16_3 x16_4 x16_5) = _
  rw [lim_eq, spec_l4Place.B]
  simp only [ev_ite, ev_opt, ev_ask, ev_to, ev_ret, ev_bad]
  try rfl
theorem spec_l4Place.j2v_eq (x1 : Int) (x5 : Bool) (x6 : Bool) (x7 : Bool) (x16_0 : Int) (x16_1 : Int) (x16_2 : ByteArray) (x16_3 : Bool) (x16_4 : Int) (x16_5 : Int) : spec_l4Place.j2v x1 x5 x6 x7 x16_0 x16_1 x16_2 x16_3 x16_4 x16_5 = (if x16_0 = 7 then ((spec_l1In.f x16_5 0 (wrap64 (x1 - 1))).bind fun t73 => (if t73 = true then (spec_l4Place.j3v x5 x6 x7 true x16_0 x16_1 x16_2 x16_3 x16_4 x16_5) else (if x16_5 = 0 then (spec_l4Place.j3v x5 x6 x7 (x16_0 != 7) x16_0 x16_1 x16_2 x16_3 x16_4 x16_5) else (spec_l4Place.j3v x5 x6 x7 false x16_0 x16_1 x16_2 x16_3 x16_4 x16_5)))) else (if x16_5 = 0 then (spec_l4Place.j3v x5 x6 x7 (x16_0 != 7) x16_0 x16_1 x16_2 x16_3 x16_4 x16_5) else (spec_l4Place.j3v x5 x6 x7 false x16_0 x16_1 x16_2 x16_3 x16_4 x16_5))) := by
  show lim spec_l4Place.B (.j2 x1 x5 x6 x7 x16_0 x16_1 x16_2 x16_3 x16_4 x16_5) = _
  rw [lim_eq, spec_l4Place.B]
  simp only [ev_ite, ev_opt, ev_ask, ev_to, ev_ret, ev_bad]
  try rfl
theorem spec_l4Place.j3v_eq (x5 : Bool) (x6 : Bool) (x7 : Bool) (x8 : Bool) (x16_0 : Int) (x16_1 : Int) (x16_2 : ByteArray) (x16_3 : Bool) (x16_4 : Int) (x16_5 : Int) : spec_l4Place.j3v x5 x6 x7 x8 x16_0 x16_1 x16_2 x16_3 x16_4 x16_5 = ((spec_l1In.f x16_0 1 8).bind fun t87 => (if t87 = true then (if x5 = true then (if x6 = true then (if x7 = true then (some x8) else (some false)) else (some false)) else (some false)) else (some false))) := by
  show lim spec_l4Place.B (.j3 x5 x6 x7 x8 x16_0 x16_1 x16_2 x16_3 x16_4 x16_5) = _
  rw [lim_eq, spec_l4Place.B]
  simp only [ev_ite, ev_opt, ev_ask, ev_to, ev_ret, ev_bad]
  try rfl
inductive spec_NfaOk.Q where
  | f (l0 : List S62)
  | l0 (x0 : List S62) (x3 : Int) (x4 : Int)
  | j0 (x0 : List S62) (x3 : Int) (x4 : Int) (x31 : Bool)
def spec_NfaOk.B : spec_NfaOk.Q → Pg spec_NfaOk.Q (fun _ => Bool) (Bool)
  | .f l0 => .to (.l0 l0 (l0.length : Int) 0)
  | .l0 x0 x3 x4 => if x4 < x3 then (if 0 ≤ x4 then (if x4 < (x0.length : Int) then (.opt (spec_l4Place.fv ((rd_T62 x0 x4).f0) ((rd_T62 x0 x4).f1) ((rd_T62 x0 x4).f2) ((rd_T62 x0 x4).f3) ((rd_T62 x0 x4).f4) ((rd_T62 x0 x4).f5) x3) fun t17 => (if t17 = true then (.to (.j0 x0 x3 x4 ((!(((rd_T62 x0 x4).f0 == 8) == (x4 == (wrap64 (x3 - 1)))))))) else (.to (.j0 x0 x3 x4 true)))) else (.bad)) else (.bad)) else (.opt (spec_l1In.f x3 1 400) fun t33 => (.ret t33))
  | .j0 x0 x3 x4 x31 => if x31 = true then (.ret false) else (.to (.l0 x0 x3 (wrap64 (x4 + 1))))
def spec_NfaOk.fv (l0 : List S62) : Option (Bool) := lim spec_NfaOk.B (.f l0)
def spec_NfaOk.l0v (x0 : List S62) (x3 : Int) (x4 : Int) : Option (Bool) := lim spec_NfaOk.B (.l0 x0 x3 x4)
def spec_NfaOk.j0v (x0 : List S62) (x3 : Int) (x4 : Int) (x31 : Bool) : Option (Bool) := lim spec_NfaOk.B (.j0 x0 x3 x4 x31)
theorem spec_NfaOk.fv_eq (l0 : List S62) : spec_NfaOk.fv l0 = (spec_NfaOk.l0v l0 (l0.length : Int) 0) := by
  show lim spec_NfaOk.B (.f l0) = _
  rw [lim_eq, spec_NfaOk.B]
  simp only [ev_ite, ev_opt, ev_ask, ev_to, ev_ret, ev_bad]
  try rfl
theorem spec_NfaOk.l0v_eq (x0 : List S62) (x3 : Int) (x4 : Int) : spec_NfaOk.l0v x0 x3 x4 = (if x4 < x3 then (if 0 ≤ x4 then (if x4 < (x0.length : Int) then ((spec_l4Place.fv ((rd_T62 x0 x4).f0) ((rd_T62 x0 x4).f1) ((rd_T62 x0 x4).f2) ((rd_T62 x0 x4).f3) ((rd_T62 x0 x4).f4) ((rd_T62 x0 x4).f5) x3).bind fun t17 => (if t17 = true then (spec_NfaOk.j0v x0 x3 x4 ((!(((rd_T62 x0 x4).f0 == 8) == (x4 == (wrap64 (x3 - 1))))))) else (spec_NfaOk.j0v x0 x3 x4 true))) else (none)) else (none)) else ((spec_l1In.f x3 1 400).bind fun t33 => (some t33))) := by
  show lim spec_NfaOk.B (.l0 x0 x3 x4) = _
  rw [lim_eq, spec_NfaOk.B]
  simp only [ev_ite, ev_opt, ev_ask, ev_to, ev_ret, ev_bad]
  try rfl
theorem spec_NfaOk.j0v_eq (x0 : List S62) (x3 : Int) (x4 : Int) (x31 : Bool) : spec_NfaOk.j0v x0 x3 x4 x31 = (if x31 = true then (some false) else (spec_NfaOk.l0v x0 x3 (wrap64 (x4 + 1)))) := by
  show lim spec_NfaOk.B (.j0 x0 x3 x4 x31) = _
  rw [lim_eq, spec_NfaOk.B]
  simp only [ev_ite, ev_opt, ev_ask, ev_to, ev_ret, ev_bad]
  try rfl
inductive spec_l4Close.Q where
  | f (l0 : List S62) (l1 : List Bool) (a2 : Int) (a3 : Bool) (a4 : Bool)
  | l0 (x0 : List S62) (x1 : List Bool) (x3 : Bool) (x4 : Bool) (x10 : List Int)
  | j0 (x0 : List S62) (x1 : List Bool) (x3 : Bool) (x4 : Bool) (x10 : List Int) (x11 : Int)
  | j1 (x0 : List S62) (x1 : List Bool) (x3 : Bool) (x4 : Bool) (x10 : List Int) (x11 : Int) (x42 : Bool)
def spec_l4Close.B : spec_l4Close.Q → Pg spec_l4Close.Q (fun _ => (List Bool)) ((List Bool))
  | .f l0 l1 a2 a3 a4 => .to (.l0 l0 l1 a3 a4 ([a2] : List Int))
  | .l0 x0 x1 x3 x4 x10 => if (x10.length : Int) > 0 then (if 0 ≤ (wrap64 ((x10.length : Int) - 1)) then (if (wrap64 ((x10.length : Int) - 1)) < (x10.length : Int) then (if (wrap64 ((x10.length : Int) - 1)) ≤ (x10.length : Int) then (if (rdOf (0 : Int) x10 (wrap64 ((x10.length : Int) - 1))) ≥ (x0.length : Int) then (.to (.j1 x0 x1 x3 x4 ((x10.take ((wrap64 ((x10.length : Int) - 1)) : Int).toNat)) ((rdOf (0 : Int) x10 (wrap64 ((x10.length : Int) - 1)))) true)) else (if (rdOf (0 : Int) x10 (wrap64 ((x10.length : Int) - 1))) < 0 then (.to (.j1 x0 x1 x3 x4 ((x10.take ((wrap64 ((x10.length : Int) - 1)) : Int).toNat)) ((rdOf (0 : Int) x10 (wrap64 ((x10.length : Int) - 1)))) true)) else (if 0 ≤ (rdOf (0 : Int) x10 (wrap64 ((x10.length : Int) - 1))) then (if (rdOf (0 : Int) x10 (wrap64 ((x10.length : Int) - 1))) < (x1.length : Int) then (.to (.j1 x0 x1 x3 x4 ((x10.take ((wrap64 ((x10.length : Int) - 1)) : Int).toNat)) ((rdOf (0 : Int) x10 (wrap64 ((x10.length : Int) - 1)))) ((rdOf false x1 (rdOf (0 : Int) x10 (wrap64 ((x10.length : Int) - 1))))))) else (.bad)) else (.bad)))) else (.bad)) else (.bad)) else (.bad)) else (.ret x1)
  | .j0 x0 x1 x3 x4 x10 x11 => if 0 ≤ x11 then (if x11 < (x1.length : Int) then (if x11 < (x0.length : Int) then (if (rd_T62 x0 x11).f0 = 6 then (if x10.length < 17592186044416 then (.to (.l0 x0 (x1.set (x11 : Int).toNat true) x3 x4 (x10 ++ [(rd_T62 x0 x11).f4]))) else (.bad)) else (if (rd_T62 x0 x11).f0 = 7 then (if x10.length + 2 ≤ 17592186044416 then (.to (.l0 x0 (x1.set (x11 : Int).toNat true) x3 x4 (x10 ++ [(rd_T62 x0 x11).f4, (rd_T62 x0 x11).f5]))) else (.bad)) else (if (rd_T62 x0 x11).f0 = 4 then (if x3 = true then (if x10.length < 17592186044416 then (.to (.l0 x0 (x1.set (x11 : Int).toNat true) x3 x4 ((x10 ++ [(wrap64 (x11 + 1))])))) else (.bad)) else (.to (.l0 x0 (x1.set (x11 : Int).toNat true) x3 x4 x10))) else (if (rd_T62 x0 x11).f0 = 5 then (if x4 = true then (if x10.length < 17592186044416 then (.to (.l0 x0 (x1.set (x11 : Int).toNat true) x3 x4 ((x10 ++ [(wrap64 (x11 + 1))])))) else (.bad)) else (.to (.l0 x0 (x1.set (x11 : Int).toNat true) x3 x4 x10))) else (.to (.l0 x0 (x1.set (x11 : Int).toNat true) x3 x4 x10)))))) else (.bad)) else (.bad)) else (.bad)
  | .j1 x0 x1 x3 x4 x10 x11 x42 => if x42 = true then (.to (.l0 x0 x1 x3 x4 x10)) else (.to (.j0 x0 x1 x3 x4 x10 x11))
def spec_l4Close.fv (l0 : List S62) (l1 : List Bool) (a2 : Int) (a3 : Bool) (a4 : Bool) : Option ((List Bool)) := lim spec_l4Close.B (.f l0 l1 a2 a3 a4)
def spec_l4Close.l0v (x0 : List S62) (x1 : List Bool) (x3 : Bool) (x4 : Bool) (x10 : List Int) : Option ((List Bool)) := lim spec_l4Close.B (.l0 x0 x1 x3 x4 x10)
def spec_l4Close.j0v (x0 : List S62) (x1 : List Bool) (x3 : Bool) (x4 : Bool) (x10 : List Int) (x11 : Int) : Option ((List Bool)) := lim spec_l4Close.B (.j0 x0 x1 x3 x4 x10 x11)
def spec_l4Close.j1v (x0 : List S62) (x1 : List Bool) (x3 : Bool) (x4 : Bool) (x10 : List Int) (x11 : Int) (x42 : Bool) : Option ((List Bool)) := lim spec_l4Close.B (.j1 x0 x1 x3 x4 x10 x11 x42)
theorem spec_l4Close.fv_eq (l0 : List S62) (l1 : List Bool) (a2 : Int) (a3 : Bool) (a4 : Bool) : spec_l4Close.fv l0 l1 a2 a3 a4 = (spec_l4Close.l0v l0 l1 a3 a4 ([a2] : List Int)) := by
  show lim spec_l4Close.B (.f l0 l1 a2 a3 a4) = _
  rw [lim_eq, spec_l4Close.B]
  simp only [ev_ite, ev_opt, ev_ask, ev_to, ev_ret, ev_bad]
  try rfl
theorem spec_l4Close.l0v_eq (x0 : List S62) (x1 : List Bool) (x3 : Bool) (x4 : Bool) (x10 : List Int) : spec_l4Close.l0v x0 x1 x3 x4 x10 = (if (x10.length : Int) > 0 then (if 0 ≤ (wrap64 ((x10.length : Int) - 1)) then (if (wrap64 ((x10.length : Int) - 1)) < (x10.length : Int) then (if (wrap64 ((x10.length : Int) - 1)) ≤ (x10.length : Int) then (if (rdOf (0 : Int) x10 (wrap64 ((x10.length : Int) - 1))) ≥ (x0.length : Int) then (spec_l4Close.j1v x0 x1 x3 x4 ((x10.take ((wrap64 ((x10.length : Int) - 1)) : Int).toNat)) ((rdOf (0 : Int) x10 (wrap64 ((x10.length : Int) - 1)))) true) else (if (rdOf (0 : Int) x10 (wrap64 ((x10.length : Int) - 1))) < 0 then (spec_l4Close.j1v x0 x1 x3 x4 ((x10.take ((wrap64 ((x10.length : Int) - 1)) : Int).toNat)) ((rdOf (0 : Int) x10 (wrap64 ((x10.length : Int) - 1)))) true) else (if 0 ≤ (rdOf (0 : Int) x10 (wrap64 ((x10.length : Int) - 1))) then (if (rdOf (0 : Int) x10 (wrap64 ((x10.length : Int) - 1))) < (x1.length : Int) then (spec_l4Close.j1v x0 x1 x3 x4 ((x10.take ((wrap64 ((x10.length : Int) - 1)) : Int).toNat)) ((rdOf (0 : Int) x10 (wrap64 ((x10.length : Int) - 1)))) ((rdOf false x1 (rdOf (0 : Int) x10 (wrap64 ((x10.length : Int) - 1)))))) else (none)) else (none)))) else (none)) else (none)) else (none)) else (some x1)) := by
  show lim spec_l4Close.B (.l0 x0 x1 x3 x4 x10) = _
  rw [lim_eq, spec_l4Close.B]
  simp only [ev_ite, ev_opt, ev_ask, ev_to, ev_ret, ev_bad]
  try rfl
theorem spec_l4Close.j0v_eq (x0 : List S62) (x1 : List Bool) (x3 : Bool) (x4 : Bool) (x10 : List Int) (x11 : Int) : spec_l4Close.j0v x0 x1 x3 x4 x10 x11 = (if 0 ≤ x11 then (if x11 < (x1.length : Int) then (if x11 < (x0.length : Int) then (if (rd_T62 x0 x11).f0 = 6 then (if x10.length < 17592186044416 then (spec_l4Close.l0v x0 (x1.set (x11 : Int).toNat true) x3 x4 (x10 ++ [(rd_T62 x0 x11).f4])) else (none)) else (if (rd_T62 x0 x11).f0 = 7 then (if x10.length + 2 ≤ 17592186044416 then (spec_l4Close.l0v x0 (x1.set (x11 : Int).toNat true) x3 x4 (x10 ++ [(rd_T62 x0 x11).f4, (rd_T62 x0 x11).f5])) else (none)) else (if (rd_T62 x0 x11).f0 = 4 then (if x3 = true then (if x10.length < 17592186044416 then (spec_l4Close.l0v x0 (x1.set (x11 : Int).toNat true) x3 x4 ((x10 ++ [(wrap64 (x11 + 1))]))) else (none)) else (spec_l4Close.l0v x0 (x1.set (x11 : Int).toNat true) x3 x4 x10)) else (if (rd_T62 x0 x11).f0 = 5 then (if x4 = true then (if x10.length < 17592186044416 then (spec_l4Close.l0v x0 (x1.set (x11 : Int).toNat true) x3 x4 ((x10 ++ [(wrap64 (x11 + 1))]))) else (none)) else (spec_l4Close.l0v x0 (x1.set (x11 : Int).toNat true) x3 x4 x10)) else (spec_l4Close.l0v x0 (x1.set (x11 : Int).toNat true) x3 x4 x10))))) else (none)) else (none)) else (none)) := by
  show lim spec_l4Close.B (.j0 x0 x1 x3 x4 x10 x11) = _
  rw [lim_eq, spec_l4Close.B]
  simp only [ev_ite, ev_opt, ev_ask, ev_to, ev_ret, ev_bad]
  try rfl
theorem spec_l4Close.j1v_eq (x0 : List S62) (x1 : List Bool) (x3 : Bool) (x4 : Bool) (x10 : List Int) (x11 : Int) (x42 : Bool) : spec_l4Close.j1v x0 x1 x3 x4 x10 x11 x42 = (if x42 = true then (spec_l4Close.l0v x0 x1 x3 x4 x10) else (spec_l4Close.j0v x0 x1 x3 x4 x10 x11)) := by
  show lim spec_l4Close.B (.j1 x0 x1 x3 x4 x10 x11 x42) = _
  rw [lim_eq, spec_l4Close.B]
  simp only [ev_ite, ev_opt, ev_ask, ev_to, ev_ret, ev_bad]
  try rfl
inductive spec_l4List.Q where
  | f (l0 : List Bool)
  | l0 (x0 : List Bool) (x3 : List Int) (x4 : Int)
def spec_l4List.B : spec_l4List.Q → Pg spec_l4List.Q (fun _ => (List Int)) ((List Int))
  | .f l0 => .to (.l0 l0 ([] : List Int) 0)
  | .l0 x0 x3 x4 => if x4 < (x0.length : Int) then (if 0 ≤ x4 then (if (rdOf false x0 x4) = true then (if x3.length < 17592186044416 then (.to (.l0 x0 (x3 ++ [x4]) (wrap64 (x4 + 1)))) else (.bad)) else (.to (.l0 x0 x3 (wrap64 (x4 + 1))))) else (.bad)) else (.ret x3)
def spec_l4List.fv (l0 : List Bool) : Option ((List Int)) := lim spec_l4List.B (.f l0)
def spec_l4List.l0v (x0 : List Bool) (x3 : List Int) (x4 : Int) : Option ((List Int)) := lim spec_l4List.B (.l0 x0 x3 x4)
theorem spec_l4List.fv_eq (l0 : List Bool) : spec_l4List.fv l0 = (spec_l4List.l0v l0 ([] : List Int) 0) := by
  show lim spec_l4List.B (.f l0) = _
  rw [lim_eq, spec_l4List.B]
  simp only [ev_ite, ev_opt, ev_ask, ev_to, ev_ret, ev_bad]
  try rfl
theorem spec_l4List.l0v_eq (x0 : List Bool) (x3 : List Int) (x4 : Int) : spec_l4List.l0v x0 x3 x4 = (if x4 < (x0.length : Int) then (if 0 ≤ x4 then (if (rdOf false x0 x4) = true then (if x3.length < 17592186044416 then (spec_l4List.l0v x0 (x3 ++ [x4]) (wrap64 (x4 + 1))) else (none)) else (spec_l4List.l0v x0 x3 (wrap64 (x4 + 1)))) else (none)) else (some x3)) := by
  show lim spec_l4List.B (.l0 x0 x3 x4) = _
  rw [lim_eq, spec_l4List.B]
  simp only [ev_ite, ev_opt, ev_ask, ev_to, ev_ret, ev_bad]
  try rfl
inductive spec_Closure.Q where
  | f (l0 : List S62) (l1 : List Int) (a2 : Bool) (a3 : Bool)
  | l0 (x0 : List S62) (x1 : List Int) (x2 : Bool) (x3 : Bool) (x9 : List Bool) (x10 : Int)
def spec_Closure.B : spec_Closure.Q → Pg spec_Closure.Q (fun _ => (List Int)) ((List Int))
  | .f l0 l1 a2 a3 => if 0 ≤ (l0.length : Int) then (if ((l0.length : Int) : Int).toNat ≤ 281474976710656 then (.to (.l0 l0 l1 a2 a3 ((List.replicate ((l0.length : Int) : Int).toNat false)) 0)) else (.bad)) else (.bad)
  | .l0 x0 x1 x2 x3 x9 x10 => if x10 < (x1.length : Int) then (if 0 ≤ x10 then (.opt (spec_l4Close.fv x0 x9 (rdOf (0 : Int) x1 x10) x2 x3) fun t28 => (.to (.l0 x0 x1 x2 x3 t28 (wrap64 (x10 + 1))))) else (.bad)) else (.opt (spec_l4List.fv x9) fun t30 => (.ret t30))
def spec_Closure.fv (l0 : List S62) (l1 : List Int) (a2 : Bool) (a3 : Bool) : Option ((List Int)) := lim spec_Closure.B (.f l0 l1 a2 a3)
def spec_Closure.l0v (x0 : List S62) (x1 : List Int) (x2 : Bool) (x3 : Bool) (x9 : List Bool) (x10 : Int) : Option ((List Int)) := lim spec_Closure.B (.l0 x0 x1 x2 x3 x9 x10)
theorem spec_Closure.fv_eq (l0 : List S62) (l1 : List Int) (a2 : Bool) (a3 : Bool) : spec_Closure.fv l0 l1 a2 a3 = (if 0 ≤ (l0.length : Int) then (if ((l0.length : Int) : Int).toNat ≤ 281474976710656 then (spec_Closure.l0v l0 l1 a2 a3 ((List.replicate ((l0.length : Int) : Int).toNat false)) 0) else (none)) else (none)) := by
  show lim spec_Closure.B (.f l0 l1 a2 a3) = _
  rw [lim_eq, spec_Closure.B]
  simp only [ev_ite, ev_opt, ev_ask, ev_to, ev_ret, ev_bad]
  try rfl
theorem spec_Closure.l0v_eq (x0 : List S62) (x1 : List Int) (x2 : Bool) (x3 : Bool) (x9 : List Bool) (x10 : Int) : spec_Closure.l0v x0 x1 x2 x3 x9 x10 = (if x10 < (x1.length : Int) then (if 0 ≤ x10 then ((spec_l4Close.fv x0 x9 (rdOf (0 : Int) x1 x10) x2 x3).bind fun t28 => (spec_Closure.l0v x0 x1 x2 x3 t28 (wrap64 (x10 + 1)))) else (none)) else ((spec_l4List.fv x9).bind fun t30 => (some t30))) := by
  show lim spec_Closure.B (.l0 x0 x1 x2 x3 x9 x10) = _
  rw [lim_eq, spec_Closure.B]
  simp only [ev_ite, ev_opt, ev_ask, ev_to, ev_ret, ev_bad]
  try rfl
inductive spec_l5In.Q where
  | f (a0 : ByteArray) (a1 : Int)
  | l0 (x0 : ByteArray) (x1 : Int) (x5 : Int)
def spec_l5In.B : spec_l5In.Q → Pg spec_l5In.Q (fun _ => Bool) (Bool)
  | .f a0 a1 => .to (.l0 a0 a1 0)
  | .l0 x0 x1 x5 => if x5 < (x0.size : Int) then (if 0 ≤ x5 then (if (bt x0 x5) = x1 then (.ret true) else (.to (.l0 x0 x1 (wrap64 (x5 + 1))))) else (.bad)) else (.ret false)
def spec_l5In.fv (a0 : ByteArray) (a1 : Int) : Option (Bool) := lim spec_l5In.B (.f a0 a1)
def spec_l5In.l0v (x0 : ByteArray) (x1 : Int) (x5 : Int) : Option (Bool) := lim spec_l5In.B (.l0 x0 x1 x5)
theorem spec_l5In.fv_eq (a0 : ByteArray) (a1 : Int) : spec_l5In.fv a0 a1 = (spec_l5In.l0v a0 a1 0) := by
  show lim spec_l5In.B (.f a0 a1) = _
  rw [lim_eq, spec_l5In.B]
  simp only [ev_ite, ev_opt, ev_ask, ev_to, ev_ret, ev_bad]
  try rfl
theorem spec_l5In.l0v_eq (x0 : ByteArray) (x1 : Int) (x5 : Int) : spec_l5In.l0v x0 x1 x5 = (if x5 < (x0.size : Int) then (if 0 ≤ x5 then (if (bt x0 x5) = x1 then (some true) else (spec_l5In.l0v x0 x1 (wrap64 (x5 + 1)))) else (none)) else (some false)) := by
  show lim spec_l5In.B (.l0 x0 x1 x5) = _
  rw [lim_eq, spec_l5In.B]
  simp only [ev_ite, ev_opt, ev_ask, ev_to, ev_ret, ev_bad]
  try rfl
def spec_l5Takes.fv (a0_0 : Int) (a0_1 : Int) (a0_2 : ByteArray) (a0_3 : Bool) (a0_4 : Int) (a0_5 : Int) (a1 : Int) : Option (Bool) := if a0_0 = 1 then (some ((wrap64 a1) == a0_1)) else (if a0_0 = 2 then (some true) else (if a0_0 = 3 then ((spec_l5In.fv a0_2 a1).bind fun t21 => (some (!(t21 == a0_3)))) else (some false)))
theorem spec_l5Takes.fv_eq (a0_0 : Int) (a0_1 : Int) (a0_2 : ByteArray) (a0_3 : Bool) (a0_4 : Int) (a0_5 : Int) (a1 : Int) : spec_l5Takes.fv a0_0 a0_1 a0_2 a0_3 a0_4 a0_5 a1 = (if a0_0 = 1 then (some ((wrap64 a1) == a0_1)) else (if a0_0 = 2 then (some true) else (if a0_0 = 3 then ((spec_l5In.fv a0_2 a1).bind fun t21 => (some (!(t21 == a0_3)))) else (some false)))) := by rw [spec_l5Takes.fv]
inductive spec_MatchAt.Q where
  | f (l0 : List S62) (a1 : ByteArray) (a2 : Int)
  | j0 (x0 : List S62) (x1 : ByteArray) (x2 : Int)
  | j1 (x0 : List S62) (x1 : ByteArray) (x2 : Int) (x21 : Bool)
  | l0 (x0 : List S62) (x1 : ByteArray) (x7 : List Int) (x8 : Int) (x9 : Int)
  | j2 (x0 : List S62) (x1 : ByteArray) (x7 : List Int) (x8 : Int) (x9 : Int)
  | l1 (x0 : List S62) (x1 : ByteArray) (x7 : List Int) (x8 : Int) (x9 : Int) (x10 : List Int) (x11 : Int)
def spec_MatchAt.B : spec_MatchAt.Q → Pg spec_MatchAt.Q (fun _ => Int) (Int)
  | .f l0 a1 a2 => .opt (spec_NfaOk.fv l0) fun t13 => (if t13 = true then (.opt (spec_l1In.f a2 0 (a1.size : Int)) fun t19 => (.to (.j1 l0 a1 a2 (!t19)))) else (.to (.j1 l0 a1 a2 true)))
  | .j0 x0 x1 x2 => .opt (spec_Closure.fv x0 ([0] : List Int) (x2 == 0) (x2 == (x1.size : Int))) fun t30 => (.to (.l0 x0 x1 t30 (-1) x2))
  | .j1 x0 x1 x2 x21 => if x21 = true then (.ret (-1)) else (.to (.j0 x0 x1 x2))
  | .l0 x0 x1 x7 x8 x9 => if (x7.length : Int) > 0 then (if 0 ≤ (wrap64 ((x7.length : Int) - 1)) then (if (wrap64 ((x7.length : Int) - 1)) < (x7.length : Int) then (if (rdOf (0 : Int) x7 (wrap64 ((x7.length : Int) - 1))) = (wrap64 ((x0.length : Int) - 1)) then (.to (.j2 x0 x1 x7 x9 x9)) else (.to (.j2 x0 x1 x7 x8 x9))) else (.bad)) else (.bad)) else (.ret x8)
  | .j2 x0 x1 x7 x8 x9 => if x9 = (x1.size : Int) then (.ret x8) else (.to (.l1 x0 x1 x7 x8 x9 ([] : List Int) 0))
  | .l1 x0 x1 x7 x8 x9 x10 x11 => if x11 < (x7.length : Int) then (if 0 ≤ x11 then (if 0 ≤ (rdOf (0 : Int) x7 x11) then (if (rdOf (0 : Int) x7 x11) < (x0.length : Int) then (if 0 ≤ x9 then (if x9 < (x1.size : Int) then (.opt (spec_l5Takes.fv ((rd_T62 x0 (rdOf (0 : Int) x7 x11)).f0) ((rd_T62 x0 (rdOf (0 : Int) x7 x11)).f1) ((rd_T62 x0 (rdOf (0 : Int) x7 x11)).f2) ((rd_T62 x0 (rdOf (0 : Int) x7 x11)).f3) ((rd_T62 x0 (rdOf (0 : Int) x7 x11)).f4) ((rd_T62 x0 (rdOf (0 : Int) x7 x11)).f5) (bt x1 x9)) fun t69 => (if t69 = true then (if x10.length < 17592186044416 then (.to (.l1 x0 x1 x7 x8 x9 ((x10 ++ [(wrap64 ((rdOf (0 : Int) x7 x11) + 1))])) (wrap64 (x11 + 1)))) else (.bad)) else (.to (.l1 x0 x1 x7 x8 x9 x10 (wrap64 (x11 + 1)))))) else (.bad)) else (.bad)) else (.bad)) else (.bad)) else (.bad)) else (.opt (spec_Closure.fv x0 x10 false (((wrap64 (x9 + 1)) == (x1.size : Int)))) fun t85 => (.to (.l0 x0 x1 t85 x8 (wrap64 (x9 + 1)))))
def spec_MatchAt.fv (l0 : List S62) (a1 : ByteArray) (a2 : Int) : Option (Int) := lim spec_MatchAt.B (.f l0 a1 a2)
def spec_MatchAt.j0v (x0 : List S62) (x1 : ByteArray) (x2 : Int) : Option (Int) := lim spec_MatchAt.B (.j0 x0 x1 x2)
def spec_MatchAt.j1v (x0 : List S62) (x1 : ByteArray) (x2 : Int) (x21 : Bool) : Option (Int) := lim spec_MatchAt.B (.j1 x0 x1 x2 x21)
def spec_MatchAt.l0v (x0 : List S62) (x1 : ByteArray) (x7 : List Int) (x8 : Int) (x9 : Int) : Option (Int) := lim spec_MatchAt.B (.l0 x0 x1 x7 x8 x9)
def spec_MatchAt.j2v (x0 : List S62) (x1 : ByteArray) (x7 : List Int) (x8 : Int) (x9 : Int) : Option (Int) := lim spec_MatchAt.B (.j2 x0 x1 x7 x8 x9)
def spec_MatchAt.l1v (x0 : List S62) (x1 : ByteArray) (x7 : List Int) (x8 : Int) (x9 : Int) (x10 : List Int) (x11 : Int) : Option (Int) := lim spec_MatchAt.B (.l1 x0 x1 x7 x8 x9 x10 x11)
theorem spec_MatchAt.fv_eq (l0 : List S62) (a1 : ByteArray) (a2 : Int) : spec_MatchAt.fv l0 a1 a2 = ((spec_NfaOk.fv l0).bind fun t13 => (if t13 = true then ((spec_l1In.f a2 0 (a1.size : Int)).bind fun t19 => (spec_MatchAt.j1v l0 a1 a2 (!t19))) else (spec_MatchAt.j1v l0 a1 a2 true))) := by
  show lim spec_MatchAt.B (.f l0 a1 a2) = _
  rw [lim_eq, spec_MatchAt.B]
  simp only [ev_ite, ev_opt, ev_ask, ev_to, ev_ret, ev_bad]
  try rfl
theorem spec_MatchAt.j0v_eq (x0 : List S62) (x1 : ByteArray) (x2 : Int) : spec_MatchAt.j0v x0 x1 x2 = ((spec_Closure.fv x0 ([0] : List Int) (x2 == 0) (x2 == (x1.size : Int))).bind fun t30 => (spec_MatchAt.l0v x0 x1 t30 (-1) x2)) := by
  show lim spec_MatchAt.B (.j0 x0 x1 x2) = _
  rw [lim_eq, spec_MatchAt.B]
  simp only [ev_ite, ev_opt, ev_ask, ev_to, ev_ret, ev_bad]
  try rfl
theorem spec_MatchAt.j1v_eq (x0 : List S62) (x1 : ByteArray) (x2 : Int) (x21 : Bool) : spec_MatchAt.j1v x0 x1 x2 x21 = (if x21 = true then (some (-1)) else (spec_MatchAt.j0v x0 x1 x2)) := by
  show lim spec_MatchAt.B (.j1 x0 x1 x2 x21) = _
  rw [lim_eq, spec_MatchAt.B]
  simp only [ev_ite, ev_opt, ev_ask, ev_to, ev_ret, ev_bad]
  try rfl
theorem spec_MatchAt.l0v_eq (x0 : List S62) (x1 : ByteArray) (x7 : List Int) (x8 : Int) (x9 : Int) : spec_MatchAt.l0v x0 x1 x7 x8 x9 = (if (x7.length : Int) > 0 then (if 0 ≤ (wrap64 ((x7.length : Int) - 1)) then (if (wrap64 ((x7.length : Int) - 1)) < (x7.length : Int) then (if (rdOf (0 : Int) x7 (wrap64 ((x7.length : Int) - 1))) = (wrap64 ((x0.length : Int) - 1)) then (spec_MatchAt.j2v x0 x1 x7 x9 x9) else (spec_MatchAt.j2v x0 x1 x7 x8 x9)) else (none)) else (none)) else (some x8)) := by
  show lim spec_MatchAt.B (.l0 x0 x1 x7 x8 x9) = _
  rw [lim_eq, spec_MatchAt.B]
  simp only [ev_ite, ev_opt, ev_ask, ev_to, ev_ret, ev_bad]
  try rfl
theorem spec_MatchAt.j2v_eq (x0 : List S62) (x1 : ByteArray) (x7 : List Int) (x8 : Int) (x9 : Int) : spec_MatchAt.j2v x0 x1 x7 x8 x9 = (if x9 = (x1.size : Int) then (some x8) else (spec_MatchAt.l1v x0 x1 x7 x8 x9 ([] : List Int) 0)) := by
  show lim spec_MatchAt.B (.j2 x0 x1 x7 x8 x9) = _
  rw [lim_eq, spec_MatchAt.B]
  simp only [ev_ite, ev_opt, ev_ask, ev_to, ev_ret, ev_bad]
  try rfl
theorem spec_MatchAt.l1v_eq (x0 : List S62) (x1 : ByteArray) (x7 : List Int) (x8 : Int) (x9 : Int) (x10 : List Int) (x11 : Int) : spec_MatchAt.l1v x0 x1 x7 x8 x9 x10 x11 = (if x11 < (x7.length : Int) then (if 0 ≤ x11 then (if 0 ≤ (rdOf (0 : Int) x7 x11) then (if (rdOf (0 : Int) x7 x11) < (x0.length : Int) then (if 0 ≤ x9 then (if x9 < (x1.size : Int) then ((spec_l5Takes.fv ((rd_T62 x0 (rdOf (0 : Int) x7 x11)).f0) ((rd_T62 x0 (rdOf (0 : Int) x7 x11)).f1) ((rd_T62 x0 (rdOf (0 : Int) x7 x11)).f2) ((rd_T62 x0 (rdOf (0 : Int) x7 x11)).f3) ((rd_T62 x0 (rdOf (0 : Int) x7 x11)).f4) ((rd_T62 x0 (rdOf (0 : Int) x7 x11)).f5) (bt x1 x9)).bind fun t69 => (if t69 = true then (if x10.length < 17592186044416 then (spec_MatchAt.l1v x0 x1 x7 x8 x9 ((x10 ++ [(wrap64 ((rdOf (0 : Int) x7 x11) + 1))])) (wrap64 (x11 + 1))) else (none)) else (spec_MatchAt.l1v x0 x1 x7 x8 x9 x10 (wrap64 (x11 + 1))))) else (none)) else (none)) else (none)) else (none)) else (none)) else ((spec_Closure.fv x0 x10 false (((wrap64 (x9 + 1)) == (x1.size : Int)))).bind fun t85 => (spec_MatchAt.l0v x0 x1 t85 x8 (wrap64 (x9 + 1))))) := by
  show lim spec_MatchAt.B (.l1 x0 x1 x7 x8 x9 x10 x11) = _
  rw [lim_eq, spec_MatchAt.B]
  simp only [ev_ite, ev_opt, ev_ask, ev_to, ev_ret, ev_bad]
  try rfl
def impl_in.f (a0 : Int) (a1 : Int) (a2 : Int) : Option (Bool) := if a0 ≥ a1 then (some (decide (a0 ≤ a2))) else (some false)
inductive impl_placeOk.Q where
  | f (a0_0 : Int) (a0_1 : Int) (a0_2 : ByteArray) (a0_3 : Bool) (a0_4 : Int) (a0_5 : Int) (a1 : Int) (a2 : Bool)
  | j0 (x1 : Int) (x16_0 : Int) (x16_1 : Int) (x16_2 : ByteArray) (x16_3 : Bool) (x16_4 : Int) (x16_5 : Int)
  | j1 (x1 : Int) (x35 : Bool) (x16_0 : Int) (x16_1 : Int) (x16_2 : ByteArray) (x16_3 : Bool) (x16_4 : Int) (x16_5 : Int)
  | j2 (x79 : Bool) (x16_0 : Int) (x16_1 : Int) (x16_2 : ByteArray) (x16_3 : Bool) (x16_4 : Int) (x16_5 : Int)
def impl_placeOk.B : impl_placeOk.Q → Pg impl_placeOk.Q (fun _ => Bool) (Bool)
  | .f a0_0 a0_1 a0_2 a0_3 a0_4 a0_5 a1 a2 => if a2 = (a0_0 == 8) then (if a0_0 = 1 then (if a0_2.toList = ([] : List UInt8) then (.to (.j1 a1 a0_3 a0_0 a0_1 a0_2 a0_3 a0_4 a0_5)) else (.to (.j1 a1 true a0_0 a0_1 a0_2 a0_3 a0_4 a0_5))) else (if a0_1 = 0 then (if a0_0 = 3 then (.to (.j1 a1 false a0_0 a0_1 a0_2 a0_3 a0_4 a0_5)) else (if a0_2.toList = ([] : List UInt8) then (.to (.j1 a1 a0_3 a0_0 a0_1 a0_2 a0_3 a0_4 a0_5)) else (.to (.j1 a1 true a0_0 a0_1 a0_2 a0_3 a0_4 a0_5)))) else (.to (.j1 a1 true a0_0 a0_1 a0_2 a0_3 a0_4 a0_5)))) else (.to (.j1 a1 true a0_0 a0_1 a0_2 a0_3 a0_4 a0_5))
  | .j0 x1 x16_0 x16_1 x16_2 x16_3 x16_4 x16_5 => if x16_0 = 6 then (.opt (impl_in.f x16_4 0 (wrap64 (x1 - 1))) fun t44 => (if t44 = true then (.ret (x16_5 == 0)) else (.ret false))) else (if x16_0 = 7 then (.opt (impl_in.f x16_4 0 (wrap64 (x1 - 1))) fun t56 => (if t56 = true then (.opt (impl_in.f x16_5 0 (wrap64 (x1 - 1))) fun t62 => (.ret t62)) else (.ret false))) else (if x16_0 = 1 then (.opt (impl_in.f x16_1 0 255) fun t68 => (if t68 = true then (if x16_4 = 0 then (.ret (x16_5 == 0)) else (.ret false)) else (.ret false))) else (if x16_0 = 2 then (.to (.j2 (x16_0 == 2) x16_0 x16_1 x16_2 x16_3 x16_4 x16_5)) else (if x16_0 = 3 then (.to (.j2 (x16_0 == 3) x16_0 x16_1 x16_2 x16_3 x16_4 x16_5)) else (if x16_0 = 4 then (.to (.j2 (x16_0 == 4) x16_0 x16_1 x16_2 x16_3 x16_4 x16_5)) else (if x16_0 = 5 then (.to (.j2 (x16_0 == 5) x16_0 x16_1 x16_2 x16_3 x16_4 x16_5)) else (.to (.j2 (x16_0 == 8) x16_0 x16_1 x16_2 x16_3 x16_4 x16_5))))))))
  | .j1 x1 x35 x16_0 x16_1 x16_2 x16_3 x16_4 x16_5 => if x35 = true then (.ret false) else (.to (.j0 x1 x16_0 x16_1 x16_2 x16_3 x16_4 x16_5))
  | .j2 x79 x16_0 x16_1 x16_2 x16_3 x16_4 x16_5 => if x79 = true then (if x16_4 = 0 then (.ret (x16_5 == 0)) else (.ret false)) else (.ret false)
def impl_placeOk.fv (a0_0 : Int) (a0_1 : Int) (a0_2 : ByteArray) (a0_3 : Bool) (a0_4 : Int) (a0_5 : Int) (a1 : Int) (a2 : Bool) : Option (Bool) := lim impl_placeOk.B (.f a0_0 a0_1 a0_2 a0_3 a0_4 a0_5 a1 a2)
def impl_placeOk.j0v (x1 : Int) (x16_0 : Int) (x16_1 : Int) (x16_2 : ByteArray) (x16_3 : Bool) (x16_4 : Int) (x16_5 : Int) : Option (Bool) := lim impl_placeOk.B (.j0 x1 x16_0 x16_1 x16_2 x16_3 x16_4 x16_5)
def impl_placeOk.j1v (x1 : Int) (x35 : Bool) (x16_0 : Int) (x16_1 : Int) (x16_2 : ByteArray) (x16_3 : Bool) (x16_4 : Int) (x16_5 : Int) : Option (Bool) := lim impl_placeOk.B (.j1 x1 x35 x16_0 x16_1 x16_2 x16_3 x16_4 x16_5)
def impl_placeOk.j2v (x79 : Bool) (x16_0 : Int) (x16_1 : Int) (x16_2 : ByteArray) (x16_3 : Bool) (x16_4 : Int) (x16_5 : Int) : Option (Bool) := lim impl_placeOk.B (.j2 x79 x16_0 x16_1 x16_2 x16_3 x16_4 x16_5)
theorem impl_placeOk.fv_eq (a0_0 : Int) (a0_1 : Int) (a0_2 : ByteArray) (a0_3 : Bool) (a0_4 : Int) (a0_5 : Int) (a1 : Int) (a2 : Bool) : impl_placeOk.fv a0_0 a0_1 a0_2 a0_3 a0_4 a0_5 a1 a2 = (if a2 = (a0_0 == 8) then (if a0_0 = 1 then (if a0_2.toList = ([] : List UInt8) then (impl_placeOk.j1v a1 a0_3 a0_0 a0_1 a0_2 a0_3 a0_4 a0_5) else (impl_placeOk.j1v a1 true a0_0 a0_1 a0_2 a0_3 a0_4 a0_5)) else (if a0_1 = 0 then (if a0_0 = 3 then (impl_placeOk.j1v a1 false a0_0 a0_1 a0_2 a0_3 a0_4 a0_5) else (if a0_2.toList = ([] : List UInt8) then (impl_placeOk.j1v a1 a0_3 a0_0 a0_1 a0_2 a0_3 a0_4 a0_5) else (impl_placeOk.j1v a1 true a0_0 a0_1 a0_2 a0_3 a0_4 a0_5))) else (impl_placeOk.j1v a1 true a0_0 a0_1 a0_2 a0_3 a0_4 a0_5))) else (impl_placeOk.j1v a1 true a0_0 a0_1 a0_2 a0_3 a0_4 a0_5)) := by
  show lim impl_placeOk.B (.f a0_0 a0_1 a0_2 a0_3 a0_4 a0_5 a1 a2) = _
  rw [lim_eq, impl_placeOk.B]
  simp only [ev_ite, ev_opt, ev_ask, ev_to, ev_ret, ev_bad]
  try rfl
theorem impl_placeOk.j0v_eq (x1 : Int) (x16_0 : Int) (x16_1 : Int) (x16_2 : ByteArray) (x16_3 : Bool) (x16_4 : Int) (x16_5 : Int) : impl_placeOk.j0v x1 x16_0 x16_1 x16_2 x16_3 x16_4 x16_5 = (if x16_0 = 6 then ((impl_in.f x16_4 0 (wrap64 (x1 - 1))).bind fun t44 => (if t44 = true then (some (x16_5 == 0)) else (some false))) else (if x16_0 = 7 then ((impl_in.f x16_4 0 (wrap64 (x1 - 1))).bind fun t56 => (if t56 = true then ((impl_in.f x16_5 0 (wrap64 (x1 - 1))).bind fun t62 => (some t62)) else (some false))) else (if x16_0 = 1 then ((impl_in.f x16_1 0 255).bind fun t68 => (if t68 = true then (if x16_4 = 0 then (some (x16_5 == 0)) else (some false)) else (some false))) else (if x16_0 = 2 then (impl_placeOk.j2v (x16_0 == 2) x16_0 x16_1 x16_2 x16_3 x16_4 x16_5) else (if x16_0 = 3 then (impl_placeOk.j2v (x16_0 == 3) x16_0 x16_1 x16_2 x16_3 x16_4 x16_5) else (if x16_0 = 4 then (impl_placeOk.j2v (x16_0 == 4) x16_0 x16_1 x16_2 x16_3 x16_4 x16_5) else (if x16_0 = 5 then (impl_placeOk.j2v (x16_0 == 5) x16_0 x16_1 x16_2 x16_3 x16_4 x16_5) else (impl_placeOk.j2v (x16_0 == 8) x16_0 x16_1 x16_2 x16_3 x16_4 x16_5)))))))) := by
  show lim impl_placeOk.B (.j0 x1 x16_0 x16_1 x16_2 x16_3 x16_4 x16_5) = _
  rw [lim_eq, impl_placeOk.B]
  simp only [ev_ite, ev_opt, ev_ask, ev_to, ev_ret, ev_bad]
  try rfl
theorem impl_placeOk.j1v_eq (x1 : Int) (x35 : Bool) (x16_0 : Int) (x16_1 : Int) (x16_2 : ByteArray) (x16_3 : Bool) (x16_4 : Int) (x16_5 : Int) : impl_placeOk.j1v x1 x35 x16_0 x16_1 x16_2 x16_3 x16_4 x16_5 = (if x35 = true then (some false) else (impl_placeOk.j0v x1 x16_0 x16_1 x16_2 x16_3 x16_4 x16_5)) := by
  show lim impl_placeOk.B (.j1 x1 x35 x16_0 x16_1 x16_2 x16_3 x16_4 x16_5) = _
  rw [lim_eq, impl_placeOk.B]
  simp only [ev_ite, ev_opt, ev_ask, ev_to, ev_ret, ev_bad]
  try rfl
theorem impl_placeOk.j2v_eq (x79 : Bool) (x16_0 : Int) (x16_1 : Int) (x16_2 : ByteArray) (x16_3 : Bool) (x16_4 : Int) (x16_5 : Int) : impl_placeOk.j2v x79 x16_0 x16_1 x16_2 x16_3 x16_4 x16_5 = (if x79 = true then (if x16_4 = 0 then (some (x16_5 == 0)) else (some false)) else (some false)) := by
  show lim impl_placeOk.B (.j2 x79 x16_0 x16_1 x16_2 x16_3 x16_4 x16_5) = _
  rw [lim_eq, impl_placeOk.B]
  simp only [ev_ite, ev_opt, ev_ask, ev_to, ev_ret, ev_bad]
  try rfl
inductive impl_NfaOk.Q where
  | f (l0 : List S62)
  | l0 (x0 : List S62) (x9 : List S62) (x10 : Int) (x11 : Int)
def impl_NfaOk.B : impl_NfaOk.Q → Pg impl_NfaOk.Q (fun _ => Bool) (Bool)
  | .f l0 => .opt (impl_in.f (l0.length : Int) 1 400) fun t7 => (if t7 = true then (.to (.l0 l0 l0 (l0.length : Int) 0)) else (.ret false))
  | .l0 x0 x9 x10 x11 => if x11 < x10 then (if 0 ≤ x11 then (if x11 < (x9.length : Int) then (.opt (impl_placeOk.fv ((rd_T62 x9 x11).f0) ((rd_T62 x9 x11).f1) ((rd_T62 x9 x11).f2) ((rd_T62 x9 x11).f3) ((rd_T62 x9 x11).f4) ((rd_T62 x9 x11).f5) (x0.length : Int) ((x11 == (wrap64 ((x0.length : Int) - 1))))) fun t24 => (if t24 = true then (.to (.l0 x0 x9 x10 (wrap64 (x11 + 1)))) else (.ret false))) else (.bad)) else (.bad)) else (.ret true)
def impl_NfaOk.fv (l0 : List S62) : Option (Bool) := lim impl_NfaOk.B (.f l0)
def impl_NfaOk.l0v (x0 : List S62) (x9 : List S62) (x10 : Int) (x11 : Int) : Option (Bool) := lim impl_NfaOk.B (.l0 x0 x9 x10 x11)
theorem impl_NfaOk.fv_eq (l0 : List S62) : impl_NfaOk.fv l0 = ((impl_in.f (l0.length : Int) 1 400).bind fun t7 => (if t7 = true then (impl_NfaOk.l0v l0 l0 (l0.length : Int) 0) else (some false))) := by
  show lim impl_NfaOk.B (.f l0) = _
  rw [lim_eq, impl_NfaOk.B]
  simp only [ev_ite, ev_opt, ev_ask, ev_to, ev_ret, ev_bad]
  try rfl
theorem impl_NfaOk.l0v_eq (x0 : List S62) (x9 : List S62) (x10 : Int) (x11 : Int) : impl_NfaOk.l0v x0 x9 x10 x11 = (if x11 < x10 then (if 0 ≤ x11 then (if x11 < (x9.length : Int) then ((impl_placeOk.fv ((rd_T62 x9 x11).f0) ((rd_T62 x9 x11).f1) ((rd_T62 x9 x11).f2) ((rd_T62 x9 x11).f3) ((rd_T62 x9 x11).f4) ((rd_T62 x9 x11).f5) (x0.length : Int) ((x11 == (wrap64 ((x0.length : Int) - 1))))).bind fun t24 => (if t24 = true then (impl_NfaOk.l0v x0 x9 x10 (wrap64 (x11 + 1))) else (some false))) else (none)) else (none)) else (some true)) := by
  show lim impl_NfaOk.B (.l0 x0 x9 x10 x11) = _
  rw [lim_eq, impl_NfaOk.B]
  simp only [ev_ite, ev_opt, ev_ask, ev_to, ev_ret, ev_bad]
  try rfl
inductive impl_Closure_1.Q where
  | f (a0 : Int) (l1_0 : List S62) (l2_0 : List Bool) (l3_0 : List Int)
  | j0 (x0 : Int) (x16 : Bool) (y0 : List Bool) (y1 : List Int) (l1_0 : List S62)
def impl_Closure_1.B : impl_Closure_1.Q → Pg impl_Closure_1.Q (fun _ => (List Bool) × (List Int)) ((List Bool) × (List Int))
  | .f a0 l1_0 l2_0 l3_0 => .opt (impl_in.f a0 0 ((wrap64 ((l1_0.length : Int) - 1)))) fun t9 => (if t9 = true then (if 0 ≤ a0 then (if a0 < (l2_0.length : Int) then (.to (.j0 a0 (!(rdOf false l2_0 a0)) l2_0 l3_0 l1_0)) else (.bad)) else (.bad)) else (.to (.j0 a0 false l2_0 l3_0 l1_0)))
  | .j0 x0 x16 y0 y1 l1_0 => if x16 = true then (if 0 ≤ x0 then (if x0 < (y0.length : Int) then (if y1.length < 17592186044416 then (.ret ((y0.set (x0 : Int).toNat true), (y1 ++ [x0]))) else (.bad)) else (.bad)) else (.bad)) else (.ret (y0, y1))
def impl_Closure_1.fv (a0 : Int) (l1_0 : List S62) (l2_0 : List Bool) (l3_0 : List Int) : Option ((List Bool) × (List Int)) := lim impl_Closure_1.B (.f a0 l1_0 l2_0 l3_0)
def impl_Closure_1.j0v (x0 : Int) (x16 : Bool) (y0 : List Bool) (y1 : List Int) (l1_0 : List S62) : Option ((List Bool) × (List Int)) := lim impl_Closure_1.B (.j0 x0 x16 y0 y1 l1_0)
theorem impl_Closure_1.fv_eq (a0 : Int) (l1_0 : List S62) (l2_0 : List Bool) (l3_0 : List Int) : impl_Closure_1.fv a0 l1_0 l2_0 l3_0 = ((impl_in.f a0 0 ((wrap64 ((l1_0.length : Int) - 1)))).bind fun t9 => (if t9 = true then (if 0 ≤ a0 then (if a0 < (l2_0.length : Int) then (impl_Closure_1.j0v a0 (!(rdOf false l2_0 a0)) l2_0 l3_0 l1_0) else (none)) else (none)) else (impl_Closure_1.j0v a0 false l2_0 l3_0 l1_0))) := by
  show lim impl_Closure_1.B (.f a0 l1_0 l2_0 l3_0) = _
  rw [lim_eq, impl_Closure_1.B]
  simp only [ev_ite, ev_opt, ev_ask, ev_to, ev_ret, ev_bad]
  try rfl
theorem impl_Closure_1.j0v_eq (x0 : Int) (x16 : Bool) (y0 : List Bool) (y1 : List Int) (l1_0 : List S62) : impl_Closure_1.j0v x0 x16 y0 y1 l1_0 = (if x16 = true then (if 0 ≤ x0 then (if x0 < (y0.length : Int) then (if y1.length < 17592186044416 then (some ((y0.set (x0 : Int).toNat true), (y1 ++ [x0]))) else (none)) else (none)) else (none)) else (some (y0, y1))) := by
  show lim impl_Closure_1.B (.j0 x0 x16 y0 y1 l1_0) = _
  rw [lim_eq, impl_Closure_1.B]
  simp only [ev_ite, ev_opt, ev_ask, ev_to, ev_ret, ev_bad]
  try rfl
inductive impl_Closure.Q where
  | f (l0 : List S62) (l1 : List Int) (a2 : Bool) (a3 : Bool)
  | l0 (x2 : Bool) (x3 : Bool) (x22 : List Int) (x23 : Int) (x24 : Int) (y530 : List Bool) (y1040 : List Int) (x16_0 : List S62)
  | l1 (x2 : Bool) (x3 : Bool) (x14 : Int) (y530 : List Bool) (y1040 : List Int) (x16_0 : List S62)
def impl_Closure.B : impl_Closure.Q → Pg impl_Closure.Q (fun _ => (List Int)) ((List Int))
  | .f l0 l1 a2 a3 => if 0 ≤ (l0.length : Int) then (if ((l0.length : Int) : Int).toNat ≤ 281474976710656 then (.to (.l0 a2 a3 l1 (l1.length : Int) 0 ((List.replicate ((l0.length : Int) : Int).toNat false)) ([] : List Int) l0)) else (.bad)) else (.bad)
  | .l0 x2 x3 x22 x23 x24 y530 y1040 x16_0 => if x24 < x23 then (if 0 ≤ x24 then (if x24 < (x22.length : Int) then (.opt (impl_Closure_1.fv (rdOf (0 : Int) x22 x24) x16_0 y530 y1040) fun t30 => (.to (.l0 x2 x3 x22 x23 (wrap64 (x24 + 1)) t30.1 t30.2 x16_0))) else (.bad)) else (.bad)) else (.to (.l1 x2 x3 0 y530 y1040 x16_0))
  | .l1 x2 x3 x14 y530 y1040 x16_0 => if x14 < (y1040.length : Int) then (if 0 ≤ x14 then (if 0 ≤ (rdOf (0 : Int) y1040 x14) then (if (rdOf (0 : Int) y1040 x14) < (x16_0.length : Int) then (if (rd_T62 x16_0 (rdOf (0 : Int) y1040 x14)).f0 = 6 then (.opt (impl_Closure_1.fv ((rd_T62 x16_0 (rdOf (0 : Int) y1040 x14)).f4) x16_0 y530 y1040) fun t53 => (.to (.l1 x2 x3 (wrap64 (x14 + 1)) t53.1 t53.2 x16_0))) else (if (rd_T62 x16_0 (rdOf (0 : Int) y1040 x14)).f0 = 7 then (.opt (impl_Closure_1.fv ((rd_T62 x16_0 (rdOf (0 : Int) y1040 x14)).f4) x16_0 y530 y1040) fun t59 => (.opt (impl_Closure_1.fv ((rd_T62 x16_0 (rdOf (0 : Int) y1040 x14)).f5) x16_0 t59.1 t59.2) fun t63 => (.to (.l1 x2 x3 (wrap64 (x14 + 1)) t63.1 t63.2 x16_0)))) else (if (rd_T62 x16_0 (rdOf (0 : Int) y1040 x14)).f0 = 4 then (if x2 = true then (.opt (impl_Closure_1.fv ((wrap64 ((rdOf (0 : Int) y1040 x14) + 1))) x16_0 y530 y1040) fun t70 => (.to (.l1 x2 x3 (wrap64 (x14 + 1)) t70.1 t70.2 x16_0))) else (.to (.l1 x2 x3 (wrap64 (x14 + 1)) y530 y1040 x16_0))) else (if (rd_T62 x16_0 (rdOf (0 : Int) y1040 x14)).f0 = 5 then (if x3 = true then (.opt (impl_Closure_1.fv ((wrap64 ((rdOf (0 : Int) y1040 x14) + 1))) x16_0 y530 y1040) fun t77 => (.to (.l1 x2 x3 (wrap64 (x14 + 1)) t77.1 t77.2 x16_0))) else (.to (.l1 x2 x3 (wrap64 (x14 + 1)) y530 y1040 x16_0))) else (.to (.l1 x2 x3 (wrap64 (x14 + 1)) y530 y1040 x16_0)))))) else (.bad)) else (.bad)) else (.bad)) else (.opt (slices_Sort_int.f y1040) fun t79 => (.ret t79))
def impl_Closure.fv (l0 : List S62) (l1 : List Int) (a2 : Bool) (a3 : Bool) : Option ((List Int)) := lim impl_Closure.B (.f l0 l1 a2 a3)
def impl_Closure.l0v (x2 : Bool) (x3 : Bool) (x22 : List Int) (x23 : Int) (x24 : Int) (y530 : List Bool) (y1040 : List Int) (x16_0 : List S62) : Option ((List Int)) := lim impl_Closure.B (.l0 x2 x3 x22 x23 x24 y530 y1040 x16_0)
def impl_Closure.l1v (x2 : Bool) (x3 : Bool) (x14 : Int) (y530 : List Bool) (y1040 : List Int) (x16_0 : List S62) : Option ((List Int)) := lim impl_Closure.B (.l1 x2 x3 x14 y530 y1040 x16_0)
theorem impl_Closure.fv_eq (l0 : List S62) (l1 : List Int) (a2 : Bool) (a3 : Bool) : impl_Closure.fv l0 l1 a2 a3 = (if 0 ≤ (l0.length : Int) then (if ((l0.length : Int) : Int).toNat ≤ 281474976710656 then (impl_Closure.l0v a2 a3 l1 (l1.length : Int) 0 ((List.replicate ((l0.length : Int) : Int).toNat false)) ([] : List Int) l0) else (none)) else (none)) := by
  show lim impl_Closure.B (.f l0 l1 a2 a3) = _
  rw [lim_eq, impl_Closure.B]
  simp only [ev_ite, ev_opt, ev_ask, ev_to, ev_ret, ev_bad]
  try rfl
theorem impl_Closure.l0v_eq (x2 : Bool) (x3 : Bool) (x22 : List Int) (x23 : Int) (x24 : Int) (y530 : List Bool) (y1040 : List Int) (x16_0 : List S62) : impl_Closure.l0v x2 x3 x22 x23 x24 y530 y1040 x16_0 = (if x24 < x23 then (if 0 ≤ x24 then (if x24 < (x22.length : Int) then ((impl_Closure_1.fv (rdOf (0 : Int) x22 x24) x16_0 y530 y1040).bind fun t30 => (impl_Closure.l0v x2 x3 x22 x23 (wrap64 (x24 + 1)) t30.1 t30.2 x16_0)) else (none)) else (none)) else (impl_Closure.l1v x2 x3 0 y530 y1040 x16_0)) := by
  show lim impl_Closure.B (.l0 x2 x3 x22 x23 x24 y530 y1040 x16_0) = _
  rw [lim_eq, impl_Closure.B]
  simp only [ev_ite, ev_opt, ev_ask, ev_to, ev_ret, ev_bad]
  try rfl
theorem impl_Closure.l1v_eq (x2 : Bool) (x3 : Bool) (x14 : Int) (y530 : List Bool) (y1040 : List Int) (x16_0 : List S62) : impl_Closure.l1v x2 x3 x14 y530 y1040 x16_0 = (if x14 < (y1040.length : Int) then (if 0 ≤ x14 then (if 0 ≤ (rdOf (0 : Int) y1040 x14) then (if (rdOf (0 : Int) y1040 x14) < (x16_0.length : Int) then (if (rd_T62 x16_0 (rdOf (0 : Int) y1040 x14)).f0 = 6 then ((impl_Closure_1.fv ((rd_T62 x16_0 (rdOf (0 : Int) y1040 x14)).f4) x16_0 y530 y1040).bind fun t53 => (impl_Closure.l1v x2 x3 (wrap64 (x14 + 1)) t53.1 t53.2 x16_0)) else (if (rd_T62 x16_0 (rdOf (0 : Int) y1040 x14)).f0 = 7 then ((impl_Closure_1.fv ((rd_T62 x16_0 (rdOf (0 : Int) y1040 x14)).f4) x16_0 y530 y1040).bind fun t59 => ((impl_Closure_1.fv ((rd_T62 x16_0 (rdOf (0 : Int) y1040 x14)).f5) x16_0 t59.1 t59.2).bind fun t63 => (impl_Closure.l1v x2 x3 (wrap64 (x14 + 1)) t63.1 t63.2 x16_0))) else (if (rd_T62 x16_0 (rdOf (0 : Int) y1040 x14)).f0 = 4 then (if x2 = true then ((impl_Closure_1.fv ((wrap64 ((rdOf (0 : Int) y1040 x14) + 1))) x16_0 y530 y1040).bind fun t70 => (impl_Closure.l1v x2 x3 (wrap64 (x14 + 1)) t70.1 t70.2 x16_0)) else (impl_Closure.l1v x2 x3 (wrap64 (x14 + 1)) y530 y1040 x16_0)) else (if (rd_T62 x16_0 (rdOf (0 : Int) y1040 x14)).f0 = 5 then (if x3 = true then ((impl_Closure_1.fv ((wrap64 ((rdOf (0 : Int) y1040 x14) + 1))) x16_0 y530 y1040).bind fun t77 => (impl_Closure.l1v x2 x3 (wrap64 (x14 + 1)) t77.1 t77.2 x16_0)) else (impl_Closure.l1v x2 x3 (wrap64 (x14 + 1)) y530 y1040 x16_0)) else (impl_Closure.l1v x2 x3 (wrap64 (x14 + 1)) y530 y1040 x16_0))))) else (none)) else (none)) else (none)) else ((slices_Sort_int.f y1040).bind fun t79 => (some t79))) := by
  show lim impl_Closure.B (.l1 x2 x3 x14 y530 y1040 x16_0) = _
  rw [lim_eq, impl_Closure.B]
  simp only [ev_ite, ev_opt, ev_ask, ev_to, ev_ret, ev_bad]
  try rfl
inductive slices_Index_int_int.Q where
  | f (l0 : List Int) (a1 : Int)
  | l0 (x0 : List Int) (x1 : Int) (x7 : Int) (x8 : Int)
def slices_Index_int_int.B : slices_Index_int_int.Q → Pg slices_Index_int_int.Q (fun _ => Int) (Int)
  | .f l0 a1 => .to (.l0 l0 a1 (l0.length : Int) 0)
  | .l0 x0 x1 x7 x8 => if x8 < x7 then (if 0 ≤ x8 then (if x8 < (x0.length : Int) then (if x1 = (rdOf (0 : Int) x0 x8) then (.ret x8) else (.to (.l0 x0 x1 x7 (wrap64 (x8 + 1))))) else (.bad)) else (.bad)) else (.ret (-1))
def slices_Index_int_int.fv (l0 : List Int) (a1 : Int) : Option (Int) := lim slices_Index_int_int.B (.f l0 a1)
def slices_Index_int_int.l0v (x0 : List Int) (x1 : Int) (x7 : Int) (x8 : Int) : Option (Int) := lim slices_Index_int_int.B (.l0 x0 x1 x7 x8)
theorem slices_Index_int_int.fv_eq (l0 : List Int) (a1 : Int) : slices_Index_int_int.fv l0 a1 = (slices_Index_int_int.l0v l0 a1 (l0.length : Int) 0) := by
  show lim slices_Index_int_int.B (.f l0 a1) = _
  rw [lim_eq, slices_Index_int_int.B]
  simp only [ev_ite, ev_opt, ev_ask, ev_to, ev_ret, ev_bad]
  try rfl
theorem slices_Index_int_int.l0v_eq (x0 : List Int) (x1 : Int) (x7 : Int) (x8 : Int) : slices_Index_int_int.l0v x0 x1 x7 x8 = (if x8 < x7 then (if 0 ≤ x8 then (if x8 < (x0.length : Int) then (if x1 = (rdOf (0 : Int) x0 x8) then (some x8) else (slices_Index_int_int.l0v x0 x1 x7 (wrap64 (x8 + 1)))) else (none)) else (none)) else (some (-1))) := by
  show lim slices_Index_int_int.B (.l0 x0 x1 x7 x8) = _
  rw [lim_eq, slices_Index_int_int.B]
  simp only [ev_ite, ev_opt, ev_ask, ev_to, ev_ret, ev_bad]
  try rfl
def slices_Contains_int_int.fv (l0 : List Int) (a1 : Int) : Option (Bool) := (slices_Index_int_int.fv l0 a1).bind fun t7 => (some (decide (t7 ≥ 0)))
theorem slices_Contains_int_int.fv_eq (l0 : List Int) (a1 : Int) : slices_Contains_int_int.fv l0 a1 = ((slices_Index_int_int.fv l0 a1).bind fun t7 => (some (decide (t7 ≥ 0)))) := by rw [slices_Contains_int_int.fv]
def impl_takes.f (a0_0 : Int) (a0_1 : Int) (a0_2 : ByteArray) (a0_3 : Bool) (a0_4 : Int) (a0_5 : Int) (a1 : Int) : Option (Bool) := if a0_0 = 1 then (some (a0_1 == (wrap64 a1))) else (if a0_0 = 2 then (some true) else (if a0_0 = 3 then ((strings_IndexByte.f a0_2 a1).bind fun t21 => (some (!((decide (t21 ≥ 0)) == a0_3)))) else (some false)))
inductive impl_MatchAt.Q where
  | f (l0 : List S62) (a1 : ByteArray) (a2 : Int)
  | j0 (x0 : List S62) (x1 : ByteArray) (x2 : Int)
  | j1 (x0 : List S62) (x1 : ByteArray) (x2 : Int) (x21 : Bool)
  | l0 (x0 : List S62) (x1 : ByteArray) (x2 : Int) (x7 : Int) (x8 : List Int)
  | j2 (x0 : List S62) (x1 : ByteArray) (x2 : Int) (x7 : Int) (x8 : List Int)
  | j3 (x0 : List S62) (x1 : ByteArray) (x2 : Int) (x7 : Int) (x8 : List Int)
  | j4 (x0 : List S62) (x1 : ByteArray) (x2 : Int) (x7 : Int) (x8 : List Int) (x46 : Bool)
  | l1 (x0 : List S62) (x1 : ByteArray) (x2 : Int) (x7 : Int) (x9 : List Int) (x49 : List Int) (x50 : Int) (x51 : Int)
def impl_MatchAt.B : impl_MatchAt.Q → Pg impl_MatchAt.Q (fun _ => Int) (Int)
  | .f l0 a1 a2 => .opt (impl_NfaOk.fv l0) fun t13 => (if t13 = true then (.opt (impl_in.f a2 0 (a1.size : Int)) fun t19 => (.to (.j1 l0 a1 a2 (!t19)))) else (.to (.j1 l0 a1 a2 true)))
  | .j0 x0 x1 x2 => .to (.l0 x0 x1 x2 (-1) ([0] : List Int))
  | .j1 x0 x1 x2 x21 => if x21 = true then (.ret (-1)) else (.to (.j0 x0 x1 x2))
  | .l0 x0 x1 x2 x7 x8 => .opt (impl_Closure.fv x0 x8 (x2 == 0) (x2 == (x1.size : Int))) fun t31 => (.opt (slices_Contains_int_int.fv t31 ((wrap64 ((x0.length : Int) - 1)))) fun t36 => (if t36 = true then (.to (.j2 x0 x1 x2 x2 t31)) else (.to (.j2 x0 x1 x2 x7 t31))))
  | .j2 x0 x1 x2 x7 x8 => if x2 = (x1.size : Int) then (.to (.j4 x0 x1 x2 x7 x8 true)) else (.to (.j4 x0 x1 x2 x7 x8 ((x8.length : Int) == 0)))
  | .j3 x0 x1 x2 x7 x8 => .to (.l1 x0 x1 x2 x7 ([] : List Int) x8 (x8.length : Int) 0)
  | .j4 x0 x1 x2 x7 x8 x46 => if x46 = true then (.ret x7) else (.to (.j3 x0 x1 x2 x7 x8))
  | .l1 x0 x1 x2 x7 x9 x49 x50 x51 => if x51 < x50 then (if 0 ≤ x51 then (if x51 < (x49.length : Int) then (if 0 ≤ (rdOf (0 : Int) x49 x51) then (if (rdOf (0 : Int) x49 x51) < (x0.length : Int) then (if 0 ≤ x2 then (if x2 < (x1.size : Int) then (.opt (impl_takes.f ((rd_T62 x0 (rdOf (0 : Int) x49 x51)).f0) ((rd_T62 x0 (rdOf (0 : Int) x49 x51)).f1) ((rd_T62 x0 (rdOf (0 : Int) x49 x51)).f2) ((rd_T62 x0 (rdOf (0 : Int) x49 x51)).f3) ((rd_T62 x0 (rdOf (0 : Int) x49 x51)).f4) ((rd_T62 x0 (rdOf (0 : Int) x49 x51)).f5) (bt x1 x2)) fun t62 => (if t62 = true then (if x9.length < 17592186044416 then (.to (.l1 x0 x1 x2 x7 ((x9 ++ [(wrap64 ((rdOf (0 : Int) x49 x51) + 1))])) x49 x50 (wrap64 (x51 + 1)))) else (.bad)) else (.to (.l1 x0 x1 x2 x7 x9 x49 x50 (wrap64 (x51 + 1)))))) else (.bad)) else (.bad)) else (.bad)) else (.bad)) else (.bad)) else (.bad)) else (.to (.l0 x0 x1 (wrap64 (x2 + 1)) x7 x9))
def impl_MatchAt.fv (l0 : List S62) (a1 : ByteArray) (a2 : Int) : Option (Int) := lim impl_MatchAt.B (.f l0 a1 a2)
def impl_MatchAt.j0v (x0 : List S62) (x1 : ByteArray) (x2 : Int) : Option (Int) := lim impl_MatchAt.B (.j0 x0 x1 x2)
def impl_MatchAt.j1v (x0 : List S62) (x1 : ByteArray) (x2 : Int) (x21 : Bool) : Option (Int) := lim impl_MatchAt.B (.j1 x0 x1 x2 x21)
def impl_MatchAt.l0v (x0 : List S62) (x1 : ByteArray) (x2 : Int) (x7 : Int) (x8 : List Int) : Option (Int) := lim impl_MatchAt.B (.l0 x0 x1 x2 x7 x8)
def impl_MatchAt.j2v (x0 : List S62) (x1 : ByteArray) (x2 : Int) (x7 : Int) (x8 : List Int) : Option (Int) := lim impl_MatchAt.B (.j2 x0 x1 x2 x7 x8)
def impl_MatchAt.j3v (x0 : List S62) (x1 : ByteArray) (x2 : Int) (x7 : Int) (x8 : List Int) : Option (Int) := lim impl_MatchAt.B (.j3 x0 x1 x2 x7 x8)
def impl_MatchAt.j4v (x0 : List S62) (x1 : ByteArray) (x2 : Int) (x7 : Int) (x8 : List Int) (x46 : Bool) : Option (Int) := lim impl_MatchAt.B (.j4 x0 x1 x2 x7 x8 x46)
def impl_MatchAt.l1v (x0 : List S62) (x1 : ByteArray) (x2 : Int) (x7 : Int) (x9 : List Int) (x49 : List Int) (x50 : Int) (x51 : Int) : Option (Int) := lim impl_MatchAt.B (.l1 x0 x1 x2 x7 x9 x49 x50 x51)
theorem impl_MatchAt.fv_eq (l0 : List S62) (a1 : ByteArray) (a2 : Int) : impl_MatchAt.fv l0 a1 a2 = ((impl_NfaOk.fv l0).bind fun t13 => (if t13 = true then ((impl_in.f a2 0 (a1.size : Int)).bind fun t19 => (impl_MatchAt.j1v l0 a1 a2 (!t19))) else (impl_MatchAt.j1v l0 a1 a2 true))) := by
  show lim impl_MatchAt.B (.f l0 a1 a2) = _
  rw [lim_eq, impl_MatchAt.B]
  simp only [ev_ite, ev_opt, ev_ask, ev_to, ev_ret, ev_bad]
  try rfl
theorem impl_MatchAt.j0v_eq (x0 : List S62) (x1 : ByteArray) (x2 : Int) : impl_MatchAt.j0v x0 x1 x2 = (impl_MatchAt.l0v x0 x1 x2 (-1) ([0] : List Int)) := by
  show lim impl_MatchAt.B (.j0 x0 x1 x2) = _
  rw [lim_eq, impl_MatchAt.B]
  simp only [ev_ite, ev_opt, ev_ask, ev_to, ev_ret, ev_bad]
  try rfl
theorem impl_MatchAt.j1v_eq (x0 : List S62) (x1 : ByteArray) (x2 : Int) (x21 : Bool) : impl_MatchAt.j1v x0 x1 x2 x21 = (if x21 = true then (some (-1)) else (impl_MatchAt.j0v x0 x1 x2)) := by
  show lim impl_MatchAt.B (.j1 x0 x1 x2 x21) = _
  rw [lim_eq, impl_MatchAt.B]
  simp only [ev_ite, ev_opt, ev_ask, ev_to, ev_ret, ev_bad]
  try rfl
theorem impl_MatchAt.l0v_eq (x0 : List S62) (x1 : ByteArray) (x2 : Int) (x7 : Int) (x8 : List Int) : impl_MatchAt.l0v x0 x1 x2 x7 x8 = ((impl_Closure.fv x0 x8 (x2 == 0) (x2 == (x1.size : Int))).bind fun t31 => ((slices_Contains_int_int.fv t31 ((wrap64 ((x0.length : Int) - 1)))).bind fun t36 => (if t36 = true then (impl_MatchAt.j2v x0 x1 x2 x2 t31) else (impl_MatchAt.j2v x0 x1 x2 x7 t31)))) := by
  show lim impl_MatchAt.B (.l0 x0 x1 x2 x7 x8) = _
  rw [lim_eq, impl_MatchAt.B]
  simp only [ev_ite, ev_opt, ev_ask, ev_to, ev_ret, ev_bad]
  try rfl
theorem impl_MatchAt.j2v_eq (x0 : List S62) (x1 : ByteArray) (x2 : Int) (x7 : Int) (x8 : List Int) : impl_MatchAt.j2v x0 x1 x2 x7 x8 = (if x2 = (x1.size : Int) then (impl_MatchAt.j4v x0 x1 x2 x7 x8 true) else (impl_MatchAt.j4v x0 x1 x2 x7 x8 ((x8.length : Int) == 0))) := by
  show lim impl_MatchAt.B (.j2 x0 x1 x2 x7 x8) = _
  rw [lim_eq, impl_MatchAt.B]
  simp only [ev_ite, ev_opt, ev_ask, ev_to, ev_ret, ev_bad]
  try rfl
theorem impl_MatchAt.j3v_eq (x0 : List S62) (x1 : ByteArray) (x2 : Int) (x7 : Int) (x8 : List Int) : impl_MatchAt.j3v x0 x1 x2 x7 x8 = (impl_MatchAt.l1v x0 x1 x2 x7 ([] : List Int) x8 (x8.length : Int) 0) := by
  show lim impl_MatchAt.B (.j3 x0 x1 x2 x7 x8) = _
  rw [lim_eq, impl_MatchAt.B]
  simp only [ev_ite, ev_opt, ev_ask, ev_to, ev_ret, ev_bad]
  try rfl
theorem impl_MatchAt.j4v_eq (x0 : List S62) (x1 : ByteArray) (x2 : Int) (x7 : Int) (x8 : List Int) (x46 : Bool) : impl_MatchAt.j4v x0 x1 x2 x7 x8 x46 = (if x46 = true then (some x7) else (impl_MatchAt.j3v x0 x1 x2 x7 x8)) := by
  show lim impl_MatchAt.B (.j4 x0 x1 x2 x7 x8 x46) = _
  rw [lim_eq, impl_MatchAt.B]
  simp only [ev_ite, ev_opt, ev_ask, ev_to, ev_ret, ev_bad]
  try rfl
theorem impl_MatchAt.l1v_eq (x0 : List S62) (x1 : ByteArray) (x2 : Int) (x7 : Int) (x9 : List Int) (x49 : List Int) (x50 : Int) (x51 : Int) : impl_MatchAt.l1v x0 x1 x2 x7 x9 x49 x50 x51 = (if x51 < x50 then (if 0 ≤ x51 then (if x51 < (x49.length : Int) then (if 0 ≤ (rdOf (0 : Int) x49 x51) then (if (rdOf (0 : Int) x49 x51) < (x0.length : Int) then (if 0 ≤ x2 then (if x2 < (x1.size : Int) then ((impl_takes.f ((rd_T62 x0 (rdOf (0 : Int) x49 x51)).f0) ((rd_T62 x0 (rdOf (0 : Int) x49 x51)).f1) ((rd_T62 x0 (rdOf (0 : Int) x49 x51)).f2) ((rd_T62 x0 (rdOf (0 : Int) x49 x51)).f3) ((rd_T62 x0 (rdOf (0 : Int) x49 x51)).f4) ((rd_T62 x0 (rdOf (0 : Int) x49 x51)).f5) (bt x1 x2)).bind fun t62 => (if t62 = true then (if x9.length < 17592186044416 then (impl_MatchAt.l1v x0 x1 x2 x7 ((x9 ++ [(wrap64 ((rdOf (0 : Int) x49 x51) + 1))])) x49 x50 (wrap64 (x51 + 1))) else (none)) else (impl_MatchAt.l1v x0 x1 x2 x7 x9 x49 x50 (wrap64 (x51 + 1))))) else (none)) else (none)) else (none)) else (none)) else (none)) else (none)) else (impl_MatchAt.l0v x0 x1 (wrap64 (x2 + 1)) x7 x9)) := by
  show lim impl_MatchAt.B (.l1 x0 x1 x2 x7 x9 x49 x50 x51) = _
  rw [lim_eq, impl_MatchAt.B]
  simp only [ev_ite, ev_opt, ev_ask, ev_to, ev_ret, ev_bad]
  try rfl
def laws_eqPlace.f (a0_0 : Int) (a0_1 : Int) (a0_2 : ByteArray) (a0_3 : Bool) (a0_4 : Int) (a0_5 : Int) (a1_0 : Int) (a1_1 : Int) (a1_2 : ByteArray) (a1_3 : Bool) (a1_4 : Int) (a1_5 : Int) : Option (Bool) := if a0_0 = a1_0 then (if a0_1 = a1_1 then (if a0_2.toList = a1_2.toList then (if a0_3 = a1_3 then (if a0_4 = a1_4 then (if a0_5 = a1_5 then (some true) else (some false)) else (some false)) else (some false)) else (some false)) else (some false)) else (some false)
inductive laws_eqPlaceS.Q where
  | f (l0 : List S62) (l1 : List S62)
  | l0 (x0 : List S62) (x1 : List S62) (x5 : Int)
def laws_eqPlaceS.B : laws_eqPlaceS.Q → Pg laws_eqPlaceS.Q (fun _ => Bool) (Bool)
  | .f l0 l1 => if (l0.length : Int) = (l1.length : Int) then (.to (.l0 l0 l1 0)) else (.ret false)
  | .l0 x0 x1 x5 => if x5 < (x0.length : Int) then (if 0 ≤ x5 then (if x5 < (x1.length : Int) then (.opt (laws_eqPlace.f ((rd_T62 x0 x5).f0) ((rd_T62 x0 x5).f1) ((rd_T62 x0 x5).f2) ((rd_T62 x0 x5).f3) ((rd_T62 x0 x5).f4) ((rd_T62 x0 x5).f5) ((rd_T62 x1 x5).f0) ((rd_T62 x1 x5).f1) ((rd_T62 x1 x5).f2) ((rd_T62 x1 x5).f3) ((rd_T62 x1 x5).f4) ((rd_T62 x1 x5).f5)) fun t25 => (if t25 = true then (.to (.l0 x0 x1 (wrap64 (x5 + 1)))) else (.ret false))) else (.bad)) else (.bad)) else (.ret true)
def laws_eqPlaceS.fv (l0 : List S62) (l1 : List S62) : Option (Bool) := lim laws_eqPlaceS.B (.f l0 l1)
def laws_eqPlaceS.l0v (x0 : List S62) (x1 : List S62) (x5 : Int) : Option (Bool) := lim laws_eqPlaceS.B (.l0 x0 x1 x5)
theorem laws_eqPlaceS.fv_eq (l0 : List S62) (l1 : List S62) : laws_eqPlaceS.fv l0 l1 = (if (l0.length : Int) = (l1.length : Int) then (laws_eqPlaceS.l0v l0 l1 0) else (some false)) := by
  show lim laws_eqPlaceS.B (.f l0 l1) = _
  rw [lim_eq, laws_eqPlaceS.B]
  simp only [ev_ite, ev_opt, ev_ask, ev_to, ev_ret, ev_bad]
  try rfl
theorem laws_eqPlaceS.l0v_eq (x0 : List S62) (x1 : List S62) (x5 : Int) : laws_eqPlaceS.l0v x0 x1 x5 = (if x5 < (x0.length : Int) then (if 0 ≤ x5 then (if x5 < (x1.length : Int) then ((laws_eqPlace.f ((rd_T62 x0 x5).f0) ((rd_T62 x0 x5).f1) ((rd_T62 x0 x5).f2) ((rd_T62 x0 x5).f3) ((rd_T62 x0 x5).f4) ((rd_T62 x0 x5).f5) ((rd_T62 x1 x5).f0) ((rd_T62 x1 x5).f1) ((rd_T62 x1 x5).f2) ((rd_T62 x1 x5).f3) ((rd_T62 x1 x5).f4) ((rd_T62 x1 x5).f5)).bind fun t25 => (if t25 = true then (laws_eqPlaceS.l0v x0 x1 (wrap64 (x5 + 1))) else (some false))) else (none)) else (none)) else (some true)) := by
  show lim laws_eqPlaceS.B (.l0 x0 x1 x5) = _
  rw [lim_eq, laws_eqPlaceS.B]
  simp only [ev_ite, ev_opt, ev_ask, ev_to, ev_ret, ev_bad]
  try rfl
def laws_FnExactMatchAt.fv (l0 : List S59) (a1 : ByteArray) (a2 : Int) : Option (Bool) := if (a1.size : Int) > 1048576 then (some true) else ((laws_szPlaceS.fv l0 1048576).bind fun t16 => (if t16 < 0 then (some true) else ((laws_toPlaceS.fv l0).bind fun t20 => ((spec_MatchAt.fv t20 a1 a2).bind fun t23 => ((laws_toPlaceS.fv l0).bind fun t25 => ((impl_MatchAt.fv t25 a1 a2).bind fun t29 => (if t29 = t23 then ((laws_toPlaceS.fv l0).bind fun t35 => ((laws_eqPlaceS.fv t25 t35).bind fun t36 => (if t36 = true then (some true) else (some false)))) else (some false))))))))
theorem laws_FnExactMatchAt.fv_eq (l0 : List S59) (a1 : ByteArray) (a2 : Int) : laws_FnExactMatchAt.fv l0 a1 a2 = (if (a1.size : Int) > 1048576 then (some true) else ((laws_szPlaceS.fv l0 1048576).bind fun t16 => (if t16 < 0 then (some true) else ((laws_toPlaceS.fv l0).bind fun t20 => ((spec_MatchAt.fv t20 a1 a2).bind fun t23 => ((laws_toPlaceS.fv l0).bind fun t25 => ((impl_MatchAt.fv t25 a1 a2).bind fun t29 => (if t29 = t23 then ((laws_toPlaceS.fv l0).bind fun t35 => ((laws_eqPlaceS.fv t25 t35).bind fun t36 => (if t36 = true then (some true) else (some false)))) else (some false))))))))) := by rw [laws_FnExactMatchAt.fv]
def Wf59 (x : S59) : Prop := (Lit.int .i64 x.f0).wf = true ∧ (Lit.int .i64 x.f1).wf = true ∧ x.f2.size ≤ maxLen ∧ True ∧ (Lit.int .i64 x.f4).wf = true ∧ (Lit.int .i64 x.f5).wf = true
def laws_FnExactMatchAt.Pure : Prop := ∀ (x0 : List S59) (x1 : ByteArray) (x2 : Int), (x0.length ≤ maxLen ∧ ∀ x_ ∈ x0, Wf59 x_) → x1.size ≤ maxLen → (Lit.int .i64 x2).wf = true → laws_FnExactMatchAt.fv x0 x1 x2 = some true
end
end Go.Proofs.Ytdajhceookjdmaa.QFnExactMatchAt
