/- The functions that FnExactMachOk reaches, as they compute. -/
import Derived.Test.YtdpioibndfpjfaaGreatDoorPg
import Derived.Test.YtdpioibndfpjfaaGreatDoorMw
import Derived.Lib.Bytealg
import Derived.Lib.TrimByte
import Derived.Lib.Atoi
import Derived.Lib.AtoiErrMem
set_option linter.unusedVariables false
set_option linter.unusedSimpArgs false
set_option maxRecDepth 100000
namespace Go.Proofs.YtdpioibndfpjfaaGreatDoor.QFnExactMachOk
open Go.RowKit Go.Proofs.YtdpioibndfpjfaaGreatDoorW.PrintWords Go.Proofs.YtdpioibndfpjfaaGreatDoorW.Pgs
noncomputable section
structure S69 where
  f0 : Int
  f1 : Int
  f2 : ByteArray
def z69 : S69 := ⟨(0 : Int), (0 : Int), (⟨#[]⟩ : ByteArray)⟩
def rd_T69 (xs : List S69) (i : Int) : S69 := xs.getD i.toNat z69
structure S25 where
  f0 : (List ByteArray)
  f1 : (List ByteArray)
  f2 : (List S69)
  f3 : (List S69)
def z25 : S25 := ⟨([] : List ByteArray), ([] : List ByteArray), ([] : List S69), ([] : List S69)⟩
def rd_T25 (xs : List S25) (i : Int) : S25 := xs.getD i.toNat z25
structure S94 where
  f0 : Int
  f1 : Int
  f2 : ByteArray
def z94 : S94 := ⟨(0 : Int), (0 : Int), (⟨#[]⟩ : ByteArray)⟩
def rd_T94 (xs : List S94) (i : Int) : S94 := xs.getD i.toNat z94
structure S97 where
  f0 : Int
  f1 : ByteArray
  f2 : Int
  f3 : Int
  f4 : ByteArray
def z97 : S97 := ⟨(0 : Int), (⟨#[]⟩ : ByteArray), (0 : Int), (0 : Int), (⟨#[]⟩ : ByteArray)⟩
def rd_T97 (xs : List S97) (i : Int) : S97 := xs.getD i.toNat z97
structure S29 where
  f0 : (List S94)
  f1 : (List S97)
  f2 : Int
  f3 : Int
def z29 : S29 := ⟨([] : List S94), ([] : List S97), (0 : Int), (0 : Int)⟩
def rd_T29 (xs : List S29) (i : Int) : S29 := xs.getD i.toNat z29
structure S32 where
  f0 : (List S94)
  f1 : (List S97)
  f2 : Int
  f3 : Int
  f4 : (List Int)
  f5 : ByteArray
def z32 : S32 := ⟨([] : List S94), ([] : List S97), (0 : Int), (0 : Int), ([] : List Int), (⟨#[]⟩ : ByteArray)⟩
def rd_T32 (xs : List S32) (i : Int) : S32 := xs.getD i.toNat z32
structure S81 where
  f0 : Int
  f1 : Int
  f2 : ByteArray
def z81 : S81 := ⟨(0 : Int), (0 : Int), (⟨#[]⟩ : ByteArray)⟩
def rd_T81 (xs : List S81) (i : Int) : S81 := xs.getD i.toNat z81
structure S38 where
  f0 : (List ByteArray)
  f1 : (List ByteArray)
  f2 : (List S81)
  f3 : (List S81)
def z38 : S38 := ⟨([] : List ByteArray), ([] : List ByteArray), ([] : List S81), ([] : List S81)⟩
def rd_T38 (xs : List S38) (i : Int) : S38 := xs.getD i.toNat z38
structure S77 where
  f0 : Int
  f1 : Int
  f2 : ByteArray
def z77 : S77 := ⟨(0 : Int), (0 : Int), (⟨#[]⟩ : ByteArray)⟩
def rd_T77 (xs : List S77) (i : Int) : S77 := xs.getD i.toNat z77
structure S79 where
  f0 : Int
  f1 : ByteArray
  f2 : Int
  f3 : Int
  f4 : ByteArray
def z79 : S79 := ⟨(0 : Int), (⟨#[]⟩ : ByteArray), (0 : Int), (0 : Int), (⟨#[]⟩ : ByteArray)⟩
def rd_T79 (xs : List S79) (i : Int) : S79 := xs.getD i.toNat z79
structure S43 where
  f0 : (List S77)
  f1 : (List S79)
  f2 : Int
  f3 : Int
def z43 : S43 := ⟨([] : List S77), ([] : List S79), (0 : Int), (0 : Int)⟩
def rd_T43 (xs : List S43) (i : Int) : S43 := xs.getD i.toNat z43
structure S45 where
  f0 : (List S77)
  f1 : (List S79)
  f2 : Int
  f3 : Int
  f4 : (List Int)
  f5 : ByteArray
def z45 : S45 := ⟨([] : List S77), ([] : List S79), (0 : Int), (0 : Int), ([] : List Int), (⟨#[]⟩ : ByteArray)⟩
def rd_T45 (xs : List S45) (i : Int) : S45 := xs.getD i.toNat z45
structure S115 where
  f0 : Int
  f1 : Int
  f2 : ByteArray
  f3 : Bool
  f4 : (List S115)
def z115 : S115 := ⟨(0 : Int), (0 : Int), (⟨#[]⟩ : ByteArray), false, ([] : List S115)⟩
def rd_T115 (xs : List S115) (i : Int) : S115 := xs.getD i.toNat z115
def strings_Compare.f (a0 : ByteArray) (a1 : ByteArray) : Option (Int) := some (Lib.compareBytes a0.data.toList a1.data.toList)
def strings_Trim.f (a0 : ByteArray) (a1 : ByteArray) : Option (ByteArray) := match a1.data.toList with | [c_] => (if c_.toNat < 128 ∧ a0.size ≤ 9223372036854775807 then some (⟨(Lib.trimB a0.data.toList c_).toArray⟩ : ByteArray) else none) | _ => none
def strings_TrimLeft.f (a0 : ByteArray) (a1 : ByteArray) : Option (ByteArray) := match a1.data.toList with | [c_] => (if c_.toNat < 128 ∧ a0.size ≤ 9223372036854775807 then some (⟨(Lib.trimLeftB a0.data.toList c_).toArray⟩ : ByteArray) else none) | _ => none
def strconv_Atoi.f (a0 : ByteArray) : Option (Int × Option Int) := if a0.size ≤ 18 then (match Lib.atoi a0.data.toList with | some n_ => some (n_, none) | none => none) else none
def strings_IndexByte.f (a0 : ByteArray) (a1 : Int) : Option (Int) := some (Lib.indexByte a0.data.toList a1.toNat.toUInt8)
inductive laws_szStringS.Q where
  | f (l0 : List ByteArray) (a1 : Int)
  | l0 (x0 : List ByteArray) (x1 : Int) (x5 : Int)
def laws_szStringS.B : laws_szStringS.Q → Pg laws_szStringS.Q (fun _ => Int) (Int)
  | .f l0 a1 => if (wrap64 (a1 - (l0.length : Int))) < 0 then (.ret (-1)) else (.to (.l0 l0 ((wrap64 (a1 - (l0.length : Int)))) 0))
  | .l0 x0 x1 x5 => if x5 < (x0.length : Int) then (if 0 ≤ x5 then (if (wrap64 (x1 - ((rdOf ByteArray.empty x0 x5).size : Int))) < 0 then (.ret (-1)) else (.to (.l0 x0 ((wrap64 (x1 - ((rdOf ByteArray.empty x0 x5).size : Int)))) (wrap64 (x5 + 1))))) else (.bad)) else (.ret x1)
def laws_szStringS.fv (l0 : List ByteArray) (a1 : Int) : Option (Int) := lim laws_szStringS.B (.f l0 a1)
def laws_szStringS.l0v (x0 : List ByteArray) (x1 : Int) (x5 : Int) : Option (Int) := lim laws_szStringS.B (.l0 x0 x1 x5)
theorem laws_szStringS.fv_eq (l0 : List ByteArray) (a1 : Int) : laws_szStringS.fv l0 a1 = (if (wrap64 (a1 - (l0.length : Int))) < 0 then (some (-1)) else (laws_szStringS.l0v l0 ((wrap64 (a1 - (l0.length : Int)))) 0)) := by
  show lim laws_szStringS.B (.f l0 a1) = _
  rw [lim_eq, laws_szStringS.B]
  simp only [ev_ite, ev_opt, ev_ask, ev_to, ev_ret, ev_bad]
  try rfl
theorem laws_szStringS.l0v_eq (x0 : List ByteArray) (x1 : Int) (x5 : Int) : laws_szStringS.l0v x0 x1 x5 = (if x5 < (x0.length : Int) then (if 0 ≤ x5 then (if (wrap64 (x1 - ((rdOf ByteArray.empty x0 x5).size : Int))) < 0 then (some (-1)) else (laws_szStringS.l0v x0 ((wrap64 (x1 - ((rdOf ByteArray.empty x0 x5).size : Int)))) (wrap64 (x5 + 1)))) else (none)) else (some x1)) := by
  show lim laws_szStringS.B (.l0 x0 x1 x5) = _
  rw [lim_eq, laws_szStringS.B]
  simp only [ev_ite, ev_opt, ev_ask, ev_to, ev_ret, ev_bad]
  try rfl
def laws_szOp.f (a0_0 : Int) (a0_1 : Int) (a0_2 : ByteArray) (a1 : Int) : Option (Int) := if (wrap64 (a1 - (a0_2.size : Int))) < 0 then (some (-1)) else (some (wrap64 (a1 - (a0_2.size : Int))))
inductive laws_szOpS.Q where
  | f (l0 : List S69) (a1 : Int)
  | l0 (x0 : List S69) (x1 : Int) (x5 : Int)
def laws_szOpS.B : laws_szOpS.Q → Pg laws_szOpS.Q (fun _ => Int) (Int)
  | .f l0 a1 => if (wrap64 (a1 - (l0.length : Int))) < 0 then (.ret (-1)) else (.to (.l0 l0 ((wrap64 (a1 - (l0.length : Int)))) 0))
  | .l0 x0 x1 x5 => if x5 < (x0.length : Int) then (if 0 ≤ x5 then (.opt (laws_szOp.f ((rd_T69 x0 x5).f0) ((rd_T69 x0 x5).f1) ((rd_T69 x0 x5).f2) x1) fun t23 => (if t23 < 0 then (.ret (-1)) else (.to (.l0 x0 t23 (wrap64 (x5 + 1)))))) else (.bad)) else (.ret x1)
def laws_szOpS.fv (l0 : List S69) (a1 : Int) : Option (Int) := lim laws_szOpS.B (.f l0 a1)
def laws_szOpS.l0v (x0 : List S69) (x1 : Int) (x5 : Int) : Option (Int) := lim laws_szOpS.B (.l0 x0 x1 x5)
theorem laws_szOpS.fv_eq (l0 : List S69) (a1 : Int) : laws_szOpS.fv l0 a1 = (if (wrap64 (a1 - (l0.length : Int))) < 0 then (some (-1)) else (laws_szOpS.l0v l0 ((wrap64 (a1 - (l0.length : Int)))) 0)) := by
  show lim laws_szOpS.B (.f l0 a1) = _
  rw [lim_eq, laws_szOpS.B]
  simp only [ev_ite, ev_opt, ev_ask, ev_to, ev_ret, ev_bad]
  try rfl
theorem laws_szOpS.l0v_eq (x0 : List S69) (x1 : Int) (x5 : Int) : laws_szOpS.l0v x0 x1 x5 = (if x5 < (x0.length : Int) then (if 0 ≤ x5 then ((laws_szOp.f ((rd_T69 x0 x5).f0) ((rd_T69 x0 x5).f1) ((rd_T69 x0 x5).f2) x1).bind fun t23 => (if t23 < 0 then (some (-1)) else (laws_szOpS.l0v x0 t23 (wrap64 (x5 + 1))))) else (none)) else (some x1)) := by
  show lim laws_szOpS.B (.l0 x0 x1 x5) = _
  rw [lim_eq, laws_szOpS.B]
  simp only [ev_ite, ev_opt, ev_ask, ev_to, ev_ret, ev_bad]
  try rfl
def laws_szProg.fv (l0_0 : List ByteArray) (l0_1 : List ByteArray) (l0_2 : List S69) (l0_3 : List S69) (a1 : Int) : Option (Int) := (laws_szStringS.fv l0_0 a1).bind fun t8 => (if t8 < 0 then (some (-1)) else ((laws_szStringS.fv l0_1 t8).bind fun t14 => (if t14 < 0 then (some (-1)) else ((laws_szOpS.fv l0_2 t14).bind fun t20 => (if t20 < 0 then (some (-1)) else ((laws_szOpS.fv l0_3 t20).bind fun t26 => (if t26 < 0 then (some (-1)) else (some t26))))))))
theorem laws_szProg.fv_eq (l0_0 : List ByteArray) (l0_1 : List ByteArray) (l0_2 : List S69) (l0_3 : List S69) (a1 : Int) : laws_szProg.fv l0_0 l0_1 l0_2 l0_3 a1 = ((laws_szStringS.fv l0_0 a1).bind fun t8 => (if t8 < 0 then (some (-1)) else ((laws_szStringS.fv l0_1 t8).bind fun t14 => (if t14 < 0 then (some (-1)) else ((laws_szOpS.fv l0_2 t14).bind fun t20 => (if t20 < 0 then (some (-1)) else ((laws_szOpS.fv l0_3 t20).bind fun t26 => (if t26 < 0 then (some (-1)) else (some t26))))))))) := by rw [laws_szProg.fv]
def laws_szVal.f (a0_0 : Int) (a0_1 : Int) (a0_2 : ByteArray) (a1 : Int) : Option (Int) := if (wrap64 (a1 - (a0_2.size : Int))) < 0 then (some (-1)) else (some (wrap64 (a1 - (a0_2.size : Int))))
inductive laws_szValS.Q where
  | f (l0 : List S94) (a1 : Int)
  | l0 (x0 : List S94) (x1 : Int) (x5 : Int)
def laws_szValS.B : laws_szValS.Q → Pg laws_szValS.Q (fun _ => Int) (Int)
  | .f l0 a1 => if (wrap64 (a1 - (l0.length : Int))) < 0 then (.ret (-1)) else (.to (.l0 l0 ((wrap64 (a1 - (l0.length : Int)))) 0))
  | .l0 x0 x1 x5 => if x5 < (x0.length : Int) then (if 0 ≤ x5 then (.opt (laws_szVal.f ((rd_T94 x0 x5).f0) ((rd_T94 x0 x5).f1) ((rd_T94 x0 x5).f2) x1) fun t23 => (if t23 < 0 then (.ret (-1)) else (.to (.l0 x0 t23 (wrap64 (x5 + 1)))))) else (.bad)) else (.ret x1)
def laws_szValS.fv (l0 : List S94) (a1 : Int) : Option (Int) := lim laws_szValS.B (.f l0 a1)
def laws_szValS.l0v (x0 : List S94) (x1 : Int) (x5 : Int) : Option (Int) := lim laws_szValS.B (.l0 x0 x1 x5)
theorem laws_szValS.fv_eq (l0 : List S94) (a1 : Int) : laws_szValS.fv l0 a1 = (if (wrap64 (a1 - (l0.length : Int))) < 0 then (some (-1)) else (laws_szValS.l0v l0 ((wrap64 (a1 - (l0.length : Int)))) 0)) := by
  show lim laws_szValS.B (.f l0 a1) = _
  rw [lim_eq, laws_szValS.B]
  simp only [ev_ite, ev_opt, ev_ask, ev_to, ev_ret, ev_bad]
  try rfl
theorem laws_szValS.l0v_eq (x0 : List S94) (x1 : Int) (x5 : Int) : laws_szValS.l0v x0 x1 x5 = (if x5 < (x0.length : Int) then (if 0 ≤ x5 then ((laws_szVal.f ((rd_T94 x0 x5).f0) ((rd_T94 x0 x5).f1) ((rd_T94 x0 x5).f2) x1).bind fun t23 => (if t23 < 0 then (some (-1)) else (laws_szValS.l0v x0 t23 (wrap64 (x5 + 1))))) else (none)) else (some x1)) := by
  show lim laws_szValS.B (.l0 x0 x1 x5) = _
  rw [lim_eq, laws_szValS.B]
  simp only [ev_ite, ev_opt, ev_ask, ev_to, ev_ret, ev_bad]
  try rfl
def laws_szCell.f (a0_0 : Int) (a0_1 : ByteArray) (a0_2 : Int) (a0_3 : Int) (a0_4 : ByteArray) (a1 : Int) : Option (Int) := if (wrap64 (a1 - (a0_1.size : Int))) < 0 then (some (-1)) else ((laws_szVal.f a0_2 a0_3 a0_4 ((wrap64 (a1 - (a0_1.size : Int))))).bind fun t15 => (if t15 < 0 then (some (-1)) else (some t15)))
inductive laws_szCellS.Q where
  | f (l0 : List S97) (a1 : Int)
  | l0 (x0 : List S97) (x1 : Int) (x5 : Int)
def laws_szCellS.B : laws_szCellS.Q → Pg laws_szCellS.Q (fun _ => Int) (Int)
  | .f l0 a1 => if (wrap64 (a1 - (l0.length : Int))) < 0 then (.ret (-1)) else (.to (.l0 l0 ((wrap64 (a1 - (l0.length : Int)))) 0))
  | .l0 x0 x1 x5 => if x5 < (x0.length : Int) then (if 0 ≤ x5 then (.opt (laws_szCell.f ((rd_T97 x0 x5).f0) ((rd_T97 x0 x5).f1) ((rd_T97 x0 x5).f2) ((rd_T97 x0 x5).f3) ((rd_T97 x0 x5).f4) x1) fun t23 => (if t23 < 0 then (.ret (-1)) else (.to (.l0 x0 t23 (wrap64 (x5 + 1)))))) else (.bad)) else (.ret x1)
def laws_szCellS.fv (l0 : List S97) (a1 : Int) : Option (Int) := lim laws_szCellS.B (.f l0 a1)
def laws_szCellS.l0v (x0 : List S97) (x1 : Int) (x5 : Int) : Option (Int) := lim laws_szCellS.B (.l0 x0 x1 x5)
theorem laws_szCellS.fv_eq (l0 : List S97) (a1 : Int) : laws_szCellS.fv l0 a1 = (if (wrap64 (a1 - (l0.length : Int))) < 0 then (some (-1)) else (laws_szCellS.l0v l0 ((wrap64 (a1 - (l0.length : Int)))) 0)) := by
  show lim laws_szCellS.B (.f l0 a1) = _
  rw [lim_eq, laws_szCellS.B]
  simp only [ev_ite, ev_opt, ev_ask, ev_to, ev_ret, ev_bad]
  try rfl
theorem laws_szCellS.l0v_eq (x0 : List S97) (x1 : Int) (x5 : Int) : laws_szCellS.l0v x0 x1 x5 = (if x5 < (x0.length : Int) then (if 0 ≤ x5 then ((laws_szCell.f ((rd_T97 x0 x5).f0) ((rd_T97 x0 x5).f1) ((rd_T97 x0 x5).f2) ((rd_T97 x0 x5).f3) ((rd_T97 x0 x5).f4) x1).bind fun t23 => (if t23 < 0 then (some (-1)) else (laws_szCellS.l0v x0 t23 (wrap64 (x5 + 1))))) else (none)) else (some x1)) := by
  show lim laws_szCellS.B (.l0 x0 x1 x5) = _
  rw [lim_eq, laws_szCellS.B]
  simp only [ev_ite, ev_opt, ev_ask, ev_to, ev_ret, ev_bad]
  try rfl
def laws_szState.fv (l0_0 : List S94) (l0_1 : List S97) (a0_2 : Int) (a0_3 : Int) (a1 : Int) : Option (Int) := (laws_szValS.fv l0_0 a1).bind fun t8 => (if t8 < 0 then (some (-1)) else ((laws_szCellS.fv l0_1 t8).bind fun t14 => (if t14 < 0 then (some (-1)) else (some t14))))
theorem laws_szState.fv_eq (l0_0 : List S94) (l0_1 : List S97) (a0_2 : Int) (a0_3 : Int) (a1 : Int) : laws_szState.fv l0_0 l0_1 a0_2 a0_3 a1 = ((laws_szValS.fv l0_0 a1).bind fun t8 => (if t8 < 0 then (some (-1)) else ((laws_szCellS.fv l0_1 t8).bind fun t14 => (if t14 < 0 then (some (-1)) else (some t14))))) := by rw [laws_szState.fv]
def laws_szIntS.f (l0 : List Int) (a1 : Int) : Option (Int) := if (wrap64 (a1 - (l0.length : Int))) < 0 then (some (-1)) else (some (wrap64 (a1 - (l0.length : Int))))
def laws_szMach.fv (l0_0 : List S94) (l0_1 : List S97) (a0_2 : Int) (a0_3 : Int) (l0_4 : List Int) (a0_5 : ByteArray) (a1 : Int) : Option (Int) := (laws_szState.fv l0_0 l0_1 a0_2 a0_3 a1).bind fun t8 => (if t8 < 0 then (some (-1)) else ((laws_szIntS.f l0_4 t8).bind fun t14 => (if t14 < 0 then (some (-1)) else (if (wrap64 (t14 - (a0_5.size : Int))) < 0 then (some (-1)) else (some (wrap64 (t14 - (a0_5.size : Int))))))))
theorem laws_szMach.fv_eq (l0_0 : List S94) (l0_1 : List S97) (a0_2 : Int) (a0_3 : Int) (l0_4 : List Int) (a0_5 : ByteArray) (a1 : Int) : laws_szMach.fv l0_0 l0_1 a0_2 a0_3 l0_4 a0_5 a1 = ((laws_szState.fv l0_0 l0_1 a0_2 a0_3 a1).bind fun t8 => (if t8 < 0 then (some (-1)) else ((laws_szIntS.f l0_4 t8).bind fun t14 => (if t14 < 0 then (some (-1)) else (if (wrap64 (t14 - (a0_5.size : Int))) < 0 then (some (-1)) else (some (wrap64 (t14 - (a0_5.size : Int))))))))) := by rw [laws_szMach.fv]
inductive laws_toStringS.Q where
  | f (l0 : List ByteArray)
  | l0 (x0 : List ByteArray) (x3 : List ByteArray) (x4 : Int)
def laws_toStringS.B : laws_toStringS.Q → Pg laws_toStringS.Q (fun _ => (List ByteArray)) ((List ByteArray))
  | .f l0 => if 0 ≤ (l0.length : Int) then (if ((l0.length : Int) : Int).toNat ≤ 17592186044416 then (.to (.l0 l0 ((List.replicate ((l0.length : Int) : Int).toNat (⟨#[]⟩ : ByteArray))) 0)) else (.bad)) else (.bad)
  | .l0 x0 x3 x4 => if x4 < (x0.length : Int) then (if 0 ≤ x4 then (if x4 < (x3.length : Int) then (.to (.l0 x0 (x3.set (x4 : Int).toNat (rdOf ByteArray.empty x0 x4)) (wrap64 (x4 + 1)))) else (.bad)) else (.bad)) else (.ret x3)
def laws_toStringS.fv (l0 : List ByteArray) : Option ((List ByteArray)) := lim laws_toStringS.B (.f l0)
def laws_toStringS.l0v (x0 : List ByteArray) (x3 : List ByteArray) (x4 : Int) : Option ((List ByteArray)) := lim laws_toStringS.B (.l0 x0 x3 x4)
theorem laws_toStringS.fv_eq (l0 : List ByteArray) : laws_toStringS.fv l0 = (if 0 ≤ (l0.length : Int) then (if ((l0.length : Int) : Int).toNat ≤ 17592186044416 then (laws_toStringS.l0v l0 ((List.replicate ((l0.length : Int) : Int).toNat (⟨#[]⟩ : ByteArray))) 0) else (none)) else (none)) := by
  show lim laws_toStringS.B (.f l0) = _
  rw [lim_eq, laws_toStringS.B]
  simp only [ev_ite, ev_opt, ev_ask, ev_to, ev_ret, ev_bad]
  try rfl
theorem laws_toStringS.l0v_eq (x0 : List ByteArray) (x3 : List ByteArray) (x4 : Int) : laws_toStringS.l0v x0 x3 x4 = (if x4 < (x0.length : Int) then (if 0 ≤ x4 then (if x4 < (x3.length : Int) then (laws_toStringS.l0v x0 (x3.set (x4 : Int).toNat (rdOf ByteArray.empty x0 x4)) (wrap64 (x4 + 1))) else (none)) else (none)) else (some x3)) := by
  show lim laws_toStringS.B (.l0 x0 x3 x4) = _
  rw [lim_eq, laws_toStringS.B]
  simp only [ev_ite, ev_opt, ev_ask, ev_to, ev_ret, ev_bad]
  try rfl
def laws_toOp.f (a0_0 : Int) (a0_1 : Int) (a0_2 : ByteArray) : Option (Int × Int × ByteArray) := some (a0_0, a0_1, a0_2)
inductive laws_toOpS.Q where
  | f (l0 : List S69)
  | l0 (x0 : List S69) (x3 : List S81) (x4 : Int)
def laws_toOpS.B : laws_toOpS.Q → Pg laws_toOpS.Q (fun _ => (List S81)) ((List S81))
  | .f l0 => if 0 ≤ (l0.length : Int) then (if ((l0.length : Int) : Int).toNat ≤ 8796093022208 then (.to (.l0 l0 ((List.replicate ((l0.length : Int) : Int).toNat z81)) 0)) else (.bad)) else (.bad)
  | .l0 x0 x3 x4 => if x4 < (x0.length : Int) then (if 0 ≤ x4 then (.opt (laws_toOp.f ((rd_T69 x0 x4).f0) ((rd_T69 x0 x4).f1) ((rd_T69 x0 x4).f2)) fun t20 => (if x4 < (x3.length : Int) then (.to (.l0 x0 (x3.set (x4 : Int).toNat (⟨t20.1, t20.2.1, t20.2.2⟩ : S81)) (wrap64 (x4 + 1)))) else (.bad))) else (.bad)) else (.ret x3)
def laws_toOpS.fv (l0 : List S69) : Option ((List S81)) := lim laws_toOpS.B (.f l0)
def laws_toOpS.l0v (x0 : List S69) (x3 : List S81) (x4 : Int) : Option ((List S81)) := lim laws_toOpS.B (.l0 x0 x3 x4)
theorem laws_toOpS.fv_eq (l0 : List S69) : laws_toOpS.fv l0 = (if 0 ≤ (l0.length : Int) then (if ((l0.length : Int) : Int).toNat ≤ 8796093022208 then (laws_toOpS.l0v l0 ((List.replicate ((l0.length : Int) : Int).toNat z81)) 0) else (none)) else (none)) := by
  show lim laws_toOpS.B (.f l0) = _
  rw [lim_eq, laws_toOpS.B]
  simp only [ev_ite, ev_opt, ev_ask, ev_to, ev_ret, ev_bad]
  try rfl
theorem laws_toOpS.l0v_eq (x0 : List S69) (x3 : List S81) (x4 : Int) : laws_toOpS.l0v x0 x3 x4 = (if x4 < (x0.length : Int) then (if 0 ≤ x4 then ((laws_toOp.f ((rd_T69 x0 x4).f0) ((rd_T69 x0 x4).f1) ((rd_T69 x0 x4).f2)).bind fun t20 => (if x4 < (x3.length : Int) then (laws_toOpS.l0v x0 (x3.set (x4 : Int).toNat (⟨t20.1, t20.2.1, t20.2.2⟩ : S81)) (wrap64 (x4 + 1))) else (none))) else (none)) else (some x3)) := by
  show lim laws_toOpS.B (.l0 x0 x3 x4) = _
  rw [lim_eq, laws_toOpS.B]
  simp only [ev_ite, ev_opt, ev_ask, ev_to, ev_ret, ev_bad]
  try rfl
def laws_toProg.fv (l0_0 : List ByteArray) (l0_1 : List ByteArray) (l0_2 : List S69) (l0_3 : List S69) : Option ((List ByteArray) × (List ByteArray) × (List S81) × (List S81)) := (laws_toStringS.fv l0_0).bind fun t6 => ((laws_toStringS.fv l0_1).bind fun t10 => ((laws_toOpS.fv l0_2).bind fun t14 => ((laws_toOpS.fv l0_3).bind fun t18 => (some (t6, t10, t14, t18)))))
theorem laws_toProg.fv_eq (l0_0 : List ByteArray) (l0_1 : List ByteArray) (l0_2 : List S69) (l0_3 : List S69) : laws_toProg.fv l0_0 l0_1 l0_2 l0_3 = ((laws_toStringS.fv l0_0).bind fun t6 => ((laws_toStringS.fv l0_1).bind fun t10 => ((laws_toOpS.fv l0_2).bind fun t14 => ((laws_toOpS.fv l0_3).bind fun t18 => (some (t6, t10, t14, t18)))))) := by rw [laws_toProg.fv]
def laws_toVal.f (a0_0 : Int) (a0_1 : Int) (a0_2 : ByteArray) : Option (Int × Int × ByteArray) := some (a0_0, a0_1, a0_2)
inductive laws_toValS.Q where
  | f (l0 : List S94)
  | l0 (x0 : List S94) (x3 : List S77) (x4 : Int)
def laws_toValS.B : laws_toValS.Q → Pg laws_toValS.Q (fun _ => (List S77)) ((List S77))
  | .f l0 => if 0 ≤ (l0.length : Int) then (if ((l0.length : Int) : Int).toNat ≤ 8796093022208 then (.to (.l0 l0 ((List.replicate ((l0.length : Int) : Int).toNat z77)) 0)) else (.bad)) else (.bad)
  | .l0 x0 x3 x4 => if x4 < (x0.length : Int) then (if 0 ≤ x4 then (.opt (laws_toVal.f ((rd_T94 x0 x4).f0) ((rd_T94 x0 x4).f1) ((rd_T94 x0 x4).f2)) fun t20 => (if x4 < (x3.length : Int) then (.to (.l0 x0 (x3.set (x4 : Int).toNat (⟨t20.1, t20.2.1, t20.2.2⟩ : S77)) (wrap64 (x4 + 1)))) else (.bad))) else (.bad)) else (.ret x3)
def laws_toValS.fv (l0 : List S94) : Option ((List S77)) := lim laws_toValS.B (.f l0)
def laws_toValS.l0v (x0 : List S94) (x3 : List S77) (x4 : Int) : Option ((List S77)) := lim laws_toValS.B (.l0 x0 x3 x4)
theorem laws_toValS.fv_eq (l0 : List S94) : laws_toValS.fv l0 = (if 0 ≤ (l0.length : Int) then (if ((l0.length : Int) : Int).toNat ≤ 8796093022208 then (laws_toValS.l0v l0 ((List.replicate ((l0.length : Int) : Int).toNat z77)) 0) else (none)) else (none)) := by
  show lim laws_toValS.B (.f l0) = _
  rw [lim_eq, laws_toValS.B]
  simp only [ev_ite, ev_opt, ev_ask, ev_to, ev_ret, ev_bad]
  try rfl
theorem laws_toValS.l0v_eq (x0 : List S94) (x3 : List S77) (x4 : Int) : laws_toValS.l0v x0 x3 x4 = (if x4 < (x0.length : Int) then (if 0 ≤ x4 then ((laws_toVal.f ((rd_T94 x0 x4).f0) ((rd_T94 x0 x4).f1) ((rd_T94 x0 x4).f2)).bind fun t20 => (if x4 < (x3.length : Int) then (laws_toValS.l0v x0 (x3.set (x4 : Int).toNat (⟨t20.1, t20.2.1, t20.2.2⟩ : S77)) (wrap64 (x4 + 1))) else (none))) else (none)) else (some x3)) := by
  show lim laws_toValS.B (.l0 x0 x3 x4) = _
  rw [lim_eq, laws_toValS.B]
  simp only [ev_ite, ev_opt, ev_ask, ev_to, ev_ret, ev_bad]
  try rfl
def laws_toCell.f (a0_0 : Int) (a0_1 : ByteArray) (a0_2 : Int) (a0_3 : Int) (a0_4 : ByteArray) : Option (Int × ByteArray × Int × Int × ByteArray) := (laws_toVal.f a0_2 a0_3 a0_4).bind fun t12 => (some (a0_0, a0_1, t12.1, t12.2.1, t12.2.2))
inductive laws_toCellS.Q where
  | f (l0 : List S97)
  | l0 (x0 : List S97) (x3 : List S79) (x4 : Int)
def laws_toCellS.B : laws_toCellS.Q → Pg laws_toCellS.Q (fun _ => (List S79)) ((List S79))
  | .f l0 => if 0 ≤ (l0.length : Int) then (if ((l0.length : Int) : Int).toNat ≤ 5026338869833 then (.to (.l0 l0 ((List.replicate ((l0.length : Int) : Int).toNat z79)) 0)) else (.bad)) else (.bad)
  | .l0 x0 x3 x4 => if x4 < (x0.length : Int) then (if 0 ≤ x4 then (.opt (laws_toCell.f ((rd_T97 x0 x4).f0) ((rd_T97 x0 x4).f1) ((rd_T97 x0 x4).f2) ((rd_T97 x0 x4).f3) ((rd_T97 x0 x4).f4)) fun t20 => (if x4 < (x3.length : Int) then (.to (.l0 x0 (x3.set (x4 : Int).toNat (⟨t20.1, t20.2.1, t20.2.2.1, t20.2.2.2.1, t20.2.2.2.2⟩ : S79)) (wrap64 (x4 + 1)))) else (.bad))) else (.bad)) else (.ret x3)
def laws_toCellS.fv (l0 : List S97) : Option ((List S79)) := lim laws_toCellS.B (.f l0)
def laws_toCellS.l0v (x0 : List S97) (x3 : List S79) (x4 : Int) : Option ((List S79)) := lim laws_toCellS.B (.l0 x0 x3 x4)
theorem laws_toCellS.fv_eq (l0 : List S97) : laws_toCellS.fv l0 = (if 0 ≤ (l0.length : Int) then (if ((l0.length : Int) : Int).toNat ≤ 5026338869833 then (laws_toCellS.l0v l0 ((List.replicate ((l0.length : Int) : Int).toNat z79)) 0) else (none)) else (none)) := by
  show lim laws_toCellS.B (.f l0) = _
  rw [lim_eq, laws_toCellS.B]
  simp only [ev_ite, ev_opt, ev_ask, ev_to, ev_ret, ev_bad]
  try rfl
theorem laws_toCellS.l0v_eq (x0 : List S97) (x3 : List S79) (x4 : Int) : laws_toCellS.l0v x0 x3 x4 = (if x4 < (x0.length : Int) then (if 0 ≤ x4 then ((laws_toCell.f ((rd_T97 x0 x4).f0) ((rd_T97 x0 x4).f1) ((rd_T97 x0 x4).f2) ((rd_T97 x0 x4).f3) ((rd_T97 x0 x4).f4)).bind fun t20 => (if x4 < (x3.length : Int) then (laws_toCellS.l0v x0 (x3.set (x4 : Int).toNat (⟨t20.1, t20.2.1, t20.2.2.1, t20.2.2.2.1, t20.2.2.2.2⟩ : S79)) (wrap64 (x4 + 1))) else (none))) else (none)) else (some x3)) := by
  show lim laws_toCellS.B (.l0 x0 x3 x4) = _
  rw [lim_eq, laws_toCellS.B]
  simp only [ev_ite, ev_opt, ev_ask, ev_to, ev_ret, ev_bad]
  try rfl
def laws_toState.fv (l0_0 : List S94) (l0_1 : List S97) (a0_2 : Int) (a0_3 : Int) : Option ((List S77) × (List S79) × Int × Int) := (laws_toValS.fv l0_0).bind fun t6 => ((laws_toCellS.fv l0_1).bind fun t10 => (some (t6, t10, a0_2, a0_3)))
theorem laws_toState.fv_eq (l0_0 : List S94) (l0_1 : List S97) (a0_2 : Int) (a0_3 : Int) : laws_toState.fv l0_0 l0_1 a0_2 a0_3 = ((laws_toValS.fv l0_0).bind fun t6 => ((laws_toCellS.fv l0_1).bind fun t10 => (some (t6, t10, a0_2, a0_3)))) := by rw [laws_toState.fv]
inductive laws_toIntS.Q where
  | f (l0 : List Int)
  | l0 (x0 : List Int) (x3 : List Int) (x4 : Int)
def laws_toIntS.B : laws_toIntS.Q → Pg laws_toIntS.Q (fun _ => (List Int)) ((List Int))
  | .f l0 => if 0 ≤ (l0.length : Int) then (if ((l0.length : Int) : Int).toNat ≤ 35184372088832 then (.to (.l0 l0 ((List.replicate ((l0.length : Int) : Int).toNat (0 : Int))) 0)) else (.bad)) else (.bad)
  | .l0 x0 x3 x4 => if x4 < (x0.length : Int) then (if 0 ≤ x4 then (if x4 < (x3.length : Int) then (.to (.l0 x0 ((x3.set (x4 : Int).toNat (rdOf (0 : Int) x0 x4))) (wrap64 (x4 + 1)))) else (.bad)) else (.bad)) else (.ret x3)
def laws_toIntS.fv (l0 : List Int) : Option ((List Int)) := lim laws_toIntS.B (.f l0)
def laws_toIntS.l0v (x0 : List Int) (x3 : List Int) (x4 : Int) : Option ((List Int)) := lim laws_toIntS.B (.l0 x0 x3 x4)
theorem laws_toIntS.fv_eq (l0 : List Int) : laws_toIntS.fv l0 = (if 0 ≤ (l0.length : Int) then (if ((l0.length : Int) : Int).toNat ≤ 35184372088832 then (laws_toIntS.l0v l0 ((List.replicate ((l0.length : Int) : Int).toNat (0 : Int))) 0) else (none)) else (none)) := by
  show lim laws_toIntS.B (.f l0) = _
  rw [lim_eq, laws_toIntS.B]
  simp only [ev_ite, ev_opt, ev_ask, ev_to, ev_ret, ev_bad]
  try rfl
theorem laws_toIntS.l0v_eq (x0 : List Int) (x3 : List Int) (x4 : Int) : laws_toIntS.l0v x0 x3 x4 = (if x4 < (x0.length : Int) then (if 0 ≤ x4 then (if x4 < (x3.length : Int) then (laws_toIntS.l0v x0 ((x3.set (x4 : Int).toNat (rdOf (0 : Int) x0 x4))) (wrap64 (x4 + 1))) else (none)) else (none)) else (some x3)) := by
  show lim laws_toIntS.B (.l0 x0 x3 x4) = _
  rw [lim_eq, laws_toIntS.B]
  simp only [ev_ite, ev_opt, ev_ask, ev_to, ev_ret, ev_bad]
  try rfl
def laws_toMach.fv (l0_0 : List S94) (l0_1 : List S97) (a0_2 : Int) (a0_3 : Int) (l0_4 : List Int) (a0_5 : ByteArray) : Option ((List S77) × (List S79) × Int × Int × (List Int) × ByteArray) := (laws_toState.fv l0_0 l0_1 a0_2 a0_3).bind fun t6 => ((laws_toIntS.fv l0_4).bind fun t10 => (some (t6.1, t6.2.1, t6.2.2.1, t6.2.2.2, t10, a0_5)))
theorem laws_toMach.fv_eq (l0_0 : List S94) (l0_1 : List S97) (a0_2 : Int) (a0_3 : Int) (l0_4 : List Int) (a0_5 : ByteArray) : laws_toMach.fv l0_0 l0_1 a0_2 a0_3 l0_4 a0_5 = ((laws_toState.fv l0_0 l0_1 a0_2 a0_3).bind fun t6 => ((laws_toIntS.fv l0_4).bind fun t10 => (some (t6.1, t6.2.1, t6.2.2.1, t6.2.2.2, t10, a0_5)))) := by rw [laws_toMach.fv]
def spec_l1In.f (a0 : Int) (a1 : Int) (a2 : Int) : Option (Bool) := if a0 ≥ a1 then (some (decide (a0 ≤ a2))) else (some false)
def spec_l7Letter.f (a0 : Int) : Option (Bool) := if a0 ≥ 97 then (if a0 ≤ 122 then (some true) else (if a0 ≥ 65 then (some (decide (a0 ≤ 90))) else (some false))) else (if a0 ≥ 65 then (some (decide (a0 ≤ 90))) else (some false))
inductive spec_l7Within.Q where
  | f (l0 : List ByteArray) (a1 : ByteArray)
  | l0 (x0 : List ByteArray) (x1 : ByteArray) (x5 : Int)
def spec_l7Within.B : spec_l7Within.Q → Pg spec_l7Within.Q (fun _ => Bool) (Bool)
  | .f l0 a1 => .to (.l0 l0 a1 0)
  | .l0 x0 x1 x5 => if x5 < (x0.length : Int) then (if 0 ≤ x5 then (if (rdOf ByteArray.empty x0 x5).toList = x1.toList then (.ret true) else (.to (.l0 x0 x1 (wrap64 (x5 + 1))))) else (.bad)) else (.ret false)
def spec_l7Within.fv (l0 : List ByteArray) (a1 : ByteArray) : Option (Bool) := lim spec_l7Within.B (.f l0 a1)
def spec_l7Within.l0v (x0 : List ByteArray) (x1 : ByteArray) (x5 : Int) : Option (Bool) := lim spec_l7Within.B (.l0 x0 x1 x5)
theorem spec_l7Within.fv_eq (l0 : List ByteArray) (a1 : ByteArray) : spec_l7Within.fv l0 a1 = (spec_l7Within.l0v l0 a1 0) := by
  show lim spec_l7Within.B (.f l0 a1) = _
  rw [lim_eq, spec_l7Within.B]
  simp only [ev_ite, ev_opt, ev_ask, ev_to, ev_ret, ev_bad]
  try rfl
theorem spec_l7Within.l0v_eq (x0 : List ByteArray) (x1 : ByteArray) (x5 : Int) : spec_l7Within.l0v x0 x1 x5 = (if x5 < (x0.length : Int) then (if 0 ≤ x5 then (if (rdOf ByteArray.empty x0 x5).toList = x1.toList then (some true) else (spec_l7Within.l0v x0 x1 (wrap64 (x5 + 1)))) else (none)) else (some false)) := by
  show lim spec_l7Within.B (.l0 x0 x1 x5) = _
  rw [lim_eq, spec_l7Within.B]
  simp only [ev_ite, ev_opt, ev_ask, ev_to, ev_ret, ev_bad]
  try rfl
def spec_l7Calls.f  : Option ((List ByteArray)) := (some ([(⟨#[108, 101, 110, 103, 116, 104]⟩ : ByteArray), (⟨#[115, 117, 98, 115, 116, 114]⟩ : ByteArray), (⟨#[105, 110, 100, 101, 120]⟩ : ByteArray), (⟨#[105, 110, 116]⟩ : ByteArray), (⟨#[117, 112, 112, 101, 114]⟩ : ByteArray), (⟨#[108, 111, 119, 101, 114]⟩ : ByteArray)] : List ByteArray)).bind fun y1_0 => (some y1_0)
def spec_Keyword.fv (a0 : ByteArray) : Option (Bool) := (some ([(⟨#[66, 69, 71, 73, 78]⟩ : ByteArray), (⟨#[112, 114, 105, 110, 116]⟩ : ByteArray), (⟨#[105, 102]⟩ : ByteArray), (⟨#[101, 108, 115, 101]⟩ : ByteArray), (⟨#[119, 104, 105, 108, 101]⟩ : ByteArray), (⟨#[110, 101, 120, 116]⟩ : ByteArray), (⟨#[100, 101, 108, 101, 116, 101]⟩ : ByteArray), (⟨#[78, 82]⟩ : ByteArray), (⟨#[78, 70]⟩ : ByteArray)] : List ByteArray)).bind fun y1_0 => ((spec_l7Within.fv y1_0 a0).bind fun t5 => (if t5 = true then (some true) else ((spec_l7Calls.f).bind fun t7 => ((spec_l7Within.fv t7 a0).bind fun t9 => (some t9)))))
theorem spec_Keyword.fv_eq (a0 : ByteArray) : spec_Keyword.fv a0 = ((some ([(⟨#[66, 69, 71, 73, 78]⟩ : ByteArray), (⟨#[112, 114, 105, 110, 116]⟩ : ByteArray), (⟨#[105, 102]⟩ : ByteArray), (⟨#[101, 108, 115, 101]⟩ : ByteArray), (⟨#[119, 104, 105, 108, 101]⟩ : ByteArray), (⟨#[110, 101, 120, 116]⟩ : ByteArray), (⟨#[100, 101, 108, 101, 116, 101]⟩ : ByteArray), (⟨#[78, 82]⟩ : ByteArray), (⟨#[78, 70]⟩ : ByteArray)] : List ByteArray)).bind fun y1_0 => ((spec_l7Within.fv y1_0 a0).bind fun t5 => (if t5 = true then (some true) else ((spec_l7Calls.f).bind fun t7 => ((spec_l7Within.fv t7 a0).bind fun t9 => (some t9)))))) := by rw [spec_Keyword.fv]
inductive spec_l9Name.Q where
  | f (a0 : ByteArray)
  | l0 (x0 : ByteArray) (x3 : Int)
def spec_l9Name.B : spec_l9Name.Q → Pg spec_l9Name.Q (fun _ => Bool) (Bool)
  | .f a0 => .to (.l0 a0 0)
  | .l0 x0 x3 => if x3 < (x0.size : Int) then (if 0 ≤ x3 then (.opt (spec_l7Letter.f (bt x0 x3)) fun t13 => (if t13 = true then (.to (.l0 x0 (wrap64 (x3 + 1)))) else (.ret false))) else (.bad)) else (.opt (spec_l1In.f (x0.size : Int) 1 8) fun t17 => (if t17 = true then (.opt (spec_Keyword.fv x0) fun t20 => (.ret (!t20))) else (.ret false)))
def spec_l9Name.fv (a0 : ByteArray) : Option (Bool) := lim spec_l9Name.B (.f a0)
def spec_l9Name.l0v (x0 : ByteArray) (x3 : Int) : Option (Bool) := lim spec_l9Name.B (.l0 x0 x3)
theorem spec_l9Name.fv_eq (a0 : ByteArray) : spec_l9Name.fv a0 = (spec_l9Name.l0v a0 0) := by
  show lim spec_l9Name.B (.f a0) = _
  rw [lim_eq, spec_l9Name.B]
  simp only [ev_ite, ev_opt, ev_ask, ev_to, ev_ret, ev_bad]
  try rfl
theorem spec_l9Name.l0v_eq (x0 : ByteArray) (x3 : Int) : spec_l9Name.l0v x0 x3 = (if x3 < (x0.size : Int) then (if 0 ≤ x3 then ((spec_l7Letter.f (bt x0 x3)).bind fun t13 => (if t13 = true then (spec_l9Name.l0v x0 (wrap64 (x3 + 1))) else (some false))) else (none)) else ((spec_l1In.f (x0.size : Int) 1 8).bind fun t17 => (if t17 = true then ((spec_Keyword.fv x0).bind fun t20 => (some (!t20))) else (some false)))) := by
  show lim spec_l9Name.B (.l0 x0 x3) = _
  rw [lim_eq, spec_l9Name.B]
  simp only [ev_ite, ev_opt, ev_ask, ev_to, ev_ret, ev_bad]
  try rfl
def spec_DecOk.f (a0 : Int) : Option (Bool) := (spec_l1In.f a0 (-9000000000000) 9000000000000).bind fun t4 => (some t4)
def spec_l3Now.f (s0_0 : ByteArray) (s0_1 : Int) (s0_2 : Bool) (a1 : Int) : Option (Bool × ByteArray × Int × Bool) := if s0_2 = true then (some (false, s0_0, s0_1, s0_2)) else (if s0_1 < (s0_0.size : Int) then (if 0 ≤ s0_1 then (some (((bt s0_0 s0_1) == a1), s0_0, s0_1, s0_2)) else (none)) else (some (false, s0_0, s0_1, s0_2)))
inductive spec_l3Set.Q where
  | f (s0_0 : ByteArray) (s0_1 : Int) (s0_2 : Bool)
  | j0 (x1000 : ByteArray) (x1001 : Int) (x1002 : Bool) (x529_0 : Int) (x529_1 : Int) (x529_2 : ByteArray) (x529_3 : Bool)
  | l0 (x4 : List Bool) (x5 : Int) (x1000 : ByteArray) (x1001 : Int) (x1002 : Bool) (x529_0 : Int) (x529_1 : Int) (x529_2 : ByteArray) (x529_3 : Bool)
  | j2 (x4 : List Bool) (x5 : Int) (x44 : Bool) (x1000 : ByteArray) (x1001 : Int) (x1002 : Bool) (x529_0 : Int) (x529_1 : Int) (x529_2 : ByteArray) (x529_3 : Bool)
  | j4 (x4 : List Bool) (x5 : Int) (x6 : Int) (x7 : Int) (x1000 : ByteArray) (x1001 : Int) (x1002 : Bool) (x529_0 : Int) (x529_1 : Int) (x529_2 : ByteArray) (x529_3 : Bool)
  | j3 (x4 : List Bool) (x5 : Int) (x6 : Int) (x7 : Int) (x98 : Bool) (x1000 : ByteArray) (x1001 : Int) (x1002 : Bool) (x529_0 : Int) (x529_1 : Int) (x529_2 : ByteArray) (x529_3 : Bool)
  | j5 (x4 : List Bool) (x5 : Int) (x6 : Int) (x7 : Int) (x1000 : ByteArray) (x1001 : Int) (x1002 : Bool) (x529_0 : Int) (x529_1 : Int) (x529_2 : ByteArray) (x529_3 : Bool)
  | l1 (x4 : List Bool) (x5 : Int) (x7 : Int) (x8 : Int) (x1000 : ByteArray) (x1001 : Int) (x1002 : Bool) (x529_0 : Int) (x529_1 : Int) (x529_2 : ByteArray) (x529_3 : Bool)
  | j8 (x4 : List Bool) (x1000 : ByteArray) (x1001 : Int) (x1002 : Bool) (x529_0 : Int) (x529_1 : Int) (x529_2 : ByteArray) (x529_3 : Bool)
  | j7 (x4 : List Bool) (x148 : Bool) (x1000 : ByteArray) (x1001 : Int) (x1002 : Bool) (x529_0 : Int) (x529_1 : Int) (x529_2 : ByteArray) (x529_3 : Bool)
  | l2 (x4 : List Bool) (x9 : List Int) (x10 : Int) (x1000 : ByteArray) (x1001 : Int) (x1002 : Bool) (x529_0 : Int) (x529_1 : Int) (x529_2 : ByteArray) (x529_3 : Bool)
def spec_l3Set.B : spec_l3Set.Q → Pg spec_l3Set.Q (fun _ => Int × Int × ByteArray × Bool × (List S115) × ByteArray × Int × Bool) (Int × Int × ByteArray × Bool × (List S115) × ByteArray × Int × Bool)
  | .f s0_0 s0_1 s0_2 => .opt (spec_l3Now.f s0_0 s0_1 s0_2 94) fun t13 => (if t13.1 = true then (.to (.j0 t13.2.1 (wrap64 (t13.2.2.1 + 1)) t13.2.2.2 3 0 (⟨#[]⟩ : ByteArray) true)) else (.to (.j0 t13.2.1 t13.2.2.1 t13.2.2.2 3 0 (⟨#[]⟩ : ByteArray) false)))
  | .j0 x1000 x1001 x1002 x529_0 x529_1 x529_2 x529_3 => if 256 ≤ 281474976710656 then (.to (.l0 (List.replicate 256 false) 0 x1000 x1001 x1002 x529_0 x529_1 x529_2 x529_3)) else (.bad)
  | .l0 x4 x5 x1000 x1001 x1002 x529_0 x529_1 x529_2 x529_3 => if x1001 < (x1000.size : Int) then (if 0 ≤ x1001 then (.to (.j2 x4 x5 ((bt x1000 x1001) != 93) x1000 x1001 x1002 x529_0 x529_1 x529_2 x529_3)) else (.bad)) else (.to (.j2 x4 x5 false x1000 x1001 x1002 x529_0 x529_1 x529_2 x529_3))
  | .j2 x4 x5 x44 x1000 x1001 x1002 x529_0 x529_1 x529_2 x529_3 => if x44 = true then (if 0 ≤ x1001 then (if x1001 < (x1000.size : Int) then (if (wrap64 ((wrap64 (x1001 + 1)) + 1)) < (x1000.size : Int) then (if 0 ≤ (wrap64 (x1001 + 1)) then (if (wrap64 (x1001 + 1)) < (x1000.size : Int) then (if (bt x1000 (wrap64 (x1001 + 1))) = 45 then (if 0 ≤ (wrap64 ((wrap64 (x1001 + 1)) + 1)) then (.to (.j3 x4 x5 (wrap64 (bt x1000 x1001)) (wrap64 (bt x1000 x1001)) (((bt x1000 (wrap64 ((wrap64 (x1001 + 1)) + 1))) != 93)) x1000 (wrap64 (x1001 + 1)) x1002 x529_0 x529_1 x529_2 x529_3)) else (.bad)) else (.to (.j3 x4 x5 (wrap64 (bt x1000 x1001)) (wrap64 (bt x1000 x1001)) false x1000 (wrap64 (x1001 + 1)) x1002 x529_0 x529_1 x529_2 x529_3))) else (.bad)) else (.bad)) else (.to (.j3 x4 x5 (wrap64 (bt x1000 x1001)) (wrap64 (bt x1000 x1001)) false x1000 (wrap64 (x1001 + 1)) x1002 x529_0 x529_1 x529_2 x529_3))) else (.bad)) else (.bad)) else (if x1001 ≥ (x1000.size : Int) then (.to (.j7 x4 true x1000 x1001 x1002 x529_0 x529_1 x529_2 x529_3)) else (.to (.j7 x4 (x5 == 0) x1000 x1001 x1002 x529_0 x529_1 x529_2 x529_3)))
  | .j4 x4 x5 x6 x7 x1000 x1001 x1002 x529_0 x529_1 x529_2 x529_3 => if x7 < x6 then (.to (.j5 x4 x5 x6 x7 x1000 x1001 true x529_0 x529_1 x529_2 x529_3)) else (.to (.j5 x4 x5 x6 x7 x1000 x1001 x1002 x529_0 x529_1 x529_2 x529_3))
  | .j3 x4 x5 x6 x7 x98 x1000 x1001 x1002 x529_0 x529_1 x529_2 x529_3 => if x98 = true then (if 0 ≤ (wrap64 (x1001 + 1)) then (if (wrap64 (x1001 + 1)) < (x1000.size : Int) then (.to (.j4 x4 x5 x6 ((wrap64 (bt x1000 (wrap64 (x1001 + 1))))) x1000 (wrap64 (x1001 + 2)) x1002 x529_0 x529_1 x529_2 x529_3)) else (.bad)) else (.bad)) else (.to (.j4 x4 x5 x6 x7 x1000 x1001 x1002 x529_0 x529_1 x529_2 x529_3))
  | .j5 x4 x5 x6 x7 x1000 x1001 x1002 x529_0 x529_1 x529_2 x529_3 => .to (.l1 x4 x5 x7 x6 x1000 x1001 x1002 x529_0 x529_1 x529_2 x529_3)
  | .l1 x4 x5 x7 x8 x1000 x1001 x1002 x529_0 x529_1 x529_2 x529_3 => if x8 ≤ x7 then (if 0 ≤ x8 then (if x8 < (x4.length : Int) then (.to (.l1 (x4.set (x8 : Int).toNat true) x5 x7 (wrap64 (x8 + 1)) x1000 x1001 x1002 x529_0 x529_1 x529_2 x529_3)) else (.bad)) else (.bad)) else (.to (.l0 x4 (wrap64 (x5 + 1)) x1000 x1001 x1002 x529_0 x529_1 x529_2 x529_3))
  | .j8 x4 x1000 x1001 x1002 x529_0 x529_1 x529_2 x529_3 => .to (.l2 x4 ([] : List Int) 0 x1000 (wrap64 (x1001 + 1)) x1002 x529_0 x529_1 x529_2 x529_3)
  | .j7 x4 x148 x1000 x1001 x1002 x529_0 x529_1 x529_2 x529_3 => if x148 = true then (.to (.j8 x4 x1000 x1001 true x529_0 x529_1 x529_2 x529_3)) else (.to (.j8 x4 x1000 x1001 x1002 x529_0 x529_1 x529_2 x529_3))
  | .l2 x4 x9 x10 x1000 x1001 x1002 x529_0 x529_1 x529_2 x529_3 => if x10 < 256 then (if 0 ≤ x10 then (if x10 < (x4.length : Int) then (if (rdOf false x4 x10) = true then (if x9.length < 140737488355328 then (.to (.l2 x4 ((x9 ++ [((x10) % 256)])) (wrap64 (x10 + 1)) x1000 x1001 x1002 x529_0 x529_1 x529_2 x529_3)) else (.bad)) else (.to (.l2 x4 x9 (wrap64 (x10 + 1)) x1000 x1001 x1002 x529_0 x529_1 x529_2 x529_3))) else (.bad)) else (.bad)) else (.ret (x529_0, x529_1, (strOfNums x9), x529_3, ([] : List S115), x1000, x1001, x1002))
def spec_l3Set.fv (s0_0 : ByteArray) (s0_1 : Int) (s0_2 : Bool) : Option (Int × Int × ByteArray × Bool × (List S115) × ByteArray × Int × Bool) := lim spec_l3Set.B (.f s0_0 s0_1 s0_2)
def spec_l3Set.j0v (x1000 : ByteArray) (x1001 : Int) (x1002 : Bool) (x529_0 : Int) (x529_1 : Int) (x529_2 : ByteArray) (x529_3 : Bool) : Option (Int × Int × ByteArray × Bool × (List S115) × ByteArray × Int × Bool) := lim spec_l3Set.B (.j0 x1000 x1001 x1002 x529_0 x529_1 x529_2 x529_3)
def spec_l3Set.l0v (x4 : List Bool) (x5 : Int) (x1000 : ByteArray) (x1001 : Int) (x1002 : Bool) (x529_0 : Int) (x529_1 : Int) (x529_2 : ByteArray) (x529_3 : Bool) : Option (Int × Int × ByteArray × Bool × (List S115) × ByteArray × Int × Bool) := lim spec_l3Set.B (.l0 x4 x5 x1000 x1001 x1002 x529_0 x529_1 x529_2 x529_3)
def spec_l3Set.j2v (x4 : List Bool) (x5 : Int) (x44 : Bool) (x1000 : ByteArray) (x1001 : Int) (x1002 : Bool) (x529_0 : Int) (x529_1 : Int) (x529_2 : ByteArray) (x529_3 : Bool) : Option (Int × Int × ByteArray × Bool × (List S115) × ByteArray × Int × Bool) := lim spec_l3Set.B (.j2 x4 x5 x44 x1000 x1001 x1002 x529_0 x529_1 x529_2 x529_3)
def spec_l3Set.j4v (x4 : List Bool) (x5 : Int) (x6 : Int) (x7 : Int) (x1000 : ByteArray) (x1001 : Int) (x1002 : Bool) (x529_0 : Int) (x529_1 : Int) (x529_2 : ByteArray) (x529_3 : Bool) : Option (Int × Int × ByteArray × Bool × (List S115) × ByteArray × Int × Bool) := lim spec_l3Set.B (.j4 x4 x5 x6 x7 x1000 x1001 x1002 x529_0 x529_1 x529_2 x529_3)
def spec_l3Set.j3v (x4 : List Bool) (x5 : Int) (x6 : Int) (x7 : Int) (x98 : Bool) (x1000 : ByteArray) (x1001 : Int) (x1002 : Bool) (x529_0 : Int) (x529_1 : Int) (x529_2 : ByteArray) (x529_3 : Bool) : Option (Int × Int × ByteArray × Bool × (List S115) × ByteArray × Int × Bool) := lim spec_l3Set.B (.j3 x4 x5 x6 x7 x98 x1000 x1001 x1002 x529_0 x529_1 x529_2 x529_3)
def spec_l3Set.j5v (x4 : List Bool) (x5 : Int) (x6 : Int) (x7 : Int) (x1000 : ByteArray) (x1001 : Int) (x1002 : Bool) (x529_0 : Int) (x529_1 : Int) (x529_2 : ByteArray) (x529_3 : Bool) : Option (Int × Int × ByteArray × Bool × (List S115) × ByteArray × Int × Bool) := lim spec_l3Set.B (.j5 x4 x5 x6 x7 x1000 x1001 x1002 x529_0 x529_1 x529_2 x529_3)
def spec_l3Set.l1v (x4 : List Bool) (x5 : Int) (x7 : Int) (x8 : Int) (x1000 : ByteArray) (x1001 : Int) (x1002 : Bool) (x529_0 : Int) (x529_1 : Int) (x529_2 : ByteArray) (x529_3 : Bool) : Option (Int × Int × ByteArray × Bool × (List S115) × ByteArray × Int × Bool) := lim spec_l3Set.B (.l1 x4 x5 x7 x8 x1000 x1001 x1002 x529_0 x529_1 x529_2 x529_3)
def spec_l3Set.j8v (x4 : List Bool) (x1000 : ByteArray) (x1001 : Int) (x1002 : Bool) (x529_0 : Int) (x529_1 : Int) (x529_2 : ByteArray) (x529_3 : Bool) : Option (Int × Int × ByteArray × Bool × (List S115) × ByteArray × Int × Bool) := lim spec_l3Set.B (.j8 x4 x1000 x1001 x1002 x529_0 x529_1 x529_2 x529_3)
def spec_l3Set.j7v (x4 : List Bool) (x148 : Bool) (x1000 : ByteArray) (x1001 : Int) (x1002 : Bool) (x529_0 : Int) (x529_1 : Int) (x529_2 : ByteArray) (x529_3 : Bool) : Option (Int × Int × ByteArray × Bool × (List S115) × ByteArray × Int × Bool) := lim spec_l3Set.B (.j7 x4 x148 x1000 x1001 x1002 x529_0 x529_1 x529_2 x529_3)
def spec_l3Set.l2v (x4 : List Bool) (x9 : List Int) (x10 : Int) (x1000 : ByteArray) (x1001 : Int) (x1002 : Bool) (x529_0 : Int) (x529_1 : Int) (x529_2 : ByteArray) (x529_3 : Bool) : Option (Int × Int × ByteArray × Bool × (List S115) × ByteArray × Int × Bool) := lim spec_l3Set.B (.l2 x4 x9 x10 x1000 x1001 x1002 x529_0 x529_1 x529_2 x529_3)
theorem spec_l3Set.fv_eq (s0_0 : ByteArray) (s0_1 : Int) (s0_2 : Bool) : spec_l3Set.fv s0_0 s0_1 s0_2 = ((spec_l3Now.f s0_0 s0_1 s0_2 94).bind fun t13 => (if t13.1 = true then (spec_l3Set.j0v t13.2.1 (wrap64 (t13.2.2.1 + 1)) t13.2.2.2 3 0 (⟨#[]⟩ : ByteArray) true) else (spec_l3Set.j0v t13.2.1 t13.2.2.1 t13.2.2.2 3 0 (⟨#[]⟩ : ByteArray) false))) := by
  show lim spec_l3Set.B (.f s0_0 s0_1 s0_2) = _
  rw [lim_eq, spec_l3Set.B]
  simp only [ev_ite, ev_opt, ev_ask, ev_to, ev_ret, ev_bad]
  try rfl
theorem spec_l3Set.j0v_eq (x1000 : ByteArray) (x1001 : Int) (x1002 : Bool) (x529_0 : Int) (x529_1 : Int) (x529_2 : ByteArray) (x529_3 : Bool) : spec_l3Set.j0v x1000 x1001 x1002 x529_0 x529_1 x529_2 x529_3 = (if 256 ≤ 281474976710656 then (spec_l3Set.l0v (List.replicate 256 false) 0 x1000 x1001 x1002 x529_0 x529_1 x529_2 x529_3) else (none)) := by
  show lim spec_l3Set.B (.j0 x1000 x1001 x1002 x529_0 x529_1 x529_2 x529_3) = _
  rw [lim_eq, spec_l3Set.B]
  simp only [ev_ite, ev_opt, ev_ask, ev_to, ev_ret, ev_bad]
  try rfl
theorem spec_l3Set.l0v_eq (x4 : List Bool) (x5 : Int) (x1000 : ByteArray) (x1001 : Int) (x1002 : Bool) (x529_0 : Int) (x529_1 : Int) (x529_2 : ByteArray) (x529_3 : Bool) : spec_l3Set.l0v x4 x5 x1000 x1001 x1002 x529_0 x529_1 x529_2 x529_3 = (if x1001 < (x1000.size : Int) then (if 0 ≤ x1001 then (spec_l3Set.j2v x4 x5 ((bt x1000 x1001) != 93) x1000 x1001 x1002 x529_0 x529_1 x529_2 x529_3) else (none)) else (spec_l3Set.j2v x4 x5 false x1000 x1001 x1002 x529_0 x529_1 x529_2 x529_3)) := by
  show lim spec_l3Set.B (.l0 x4 x5 x1000 x1001 x1002 x529_0 x529_1 x529_2 x529_3) = _
  rw [lim_eq, spec_l3Set.B]
  simp only [ev_ite, ev_opt, ev_ask, ev_to, ev_ret, ev_bad]
  try rfl
theorem spec_l3Set.j2v_eq (x4 : List Bool) (x5 : Int) (x44 : Bool) (x1000 : ByteArray) (x1001 : Int) (x1002 : Bool) (x529_0 : Int) (x529_1 : Int) (x529_2 : ByteArray) (x529_3 : Bool) : spec_l3Set.j2v x4 x5 x44 x1000 x1001 x1002 x529_0 x529_1 x529_2 x529_3 = (if x44 = true then (if 0 ≤ x1001 then (if x1001 < (x1000.size : Int) then (if (wrap64 ((wrap64 (x1001 + 1)) + 1)) < (x1000.size : Int) then (if 0 ≤ (wrap64 (x1001 + 1)) then (if (wrap64 (x1001 + 1)) < (x1000.size : Int) then (if (bt x1000 (wrap64 (x1001 + 1))) = 45 then (if 0 ≤ (wrap64 ((wrap64 (x1001 + 1)) + 1)) then (spec_l3Set.j3v x4 x5 (wrap64 (bt x1000 x1001)) (wrap64 (bt x1000 x1001)) (((bt x1000 (wrap64 ((wrap64 (x1001 + 1)) + 1))) != 93)) x1000 (wrap64 (x1001 + 1)) x1002 x529_0 x529_1 x529_2 x529_3) else (none)) else (spec_l3Set.j3v x4 x5 (wrap64 (bt x1000 x1001)) (wrap64 (bt x1000 x1001)) false x1000 (wrap64 (x1001 + 1)) x1002 x529_0 x529_1 x529_2 x529_3)) else (none)) else (none)) else (spec_l3Set.j3v x4 x5 (wrap64 (bt x1000 x1001)) (wrap64 (bt x1000 x1001)) false x1000 (wrap64 (x1001 + 1)) x1002 x529_0 x529_1 x529_2 x529_3)) else (none)) else (none)) else (if x1001 ≥ (x1000.size : Int) then (spec_l3Set.j7v x4 true x1000 x1001 x1002 x529_0 x529_1 x529_2 x529_3) else (spec_l3Set.j7v x4 (x5 == 0) x1000 x1001 x1002 x529_0 x529_1 x529_2 x529_3))) := by
  show lim spec_l3Set.B (.j2 x4 x5 x44 x1000 x1001 x1002 x529_0 x529_1 x529_2 x529_3) = _
  rw [lim_eq, spec_l3Set.B]
  simp only [ev_ite, ev_opt, ev_ask, ev_to, ev_ret, ev_bad]
  try rfl
theorem spec_l3Set.j4v_eq (x4 : List Bool) (x5 : Int) (x6 : Int) (x7 : Int) (x1000 : ByteArray) (x1001 : Int) (x1002 : Bool) (x529_0 : Int) (x529_1 : Int) (x529_2 : ByteArray) (x529_3 : Bool) : spec_l3Set.j4v x4 x5 x6 x7 x1000 x1001 x1002 x529_0 x529_1 x529_2 x529_3 = (if x7 < x6 then (spec_l3Set.j5v x4 x5 x6 x7 x1000 x1001 true x529_0 x529_1 x529_2 x529_3) else (spec_l3Set.j5v x4 x5 x6 x7 x1000 x1001 x1002 x529_0 x529_1 x529_2 x529_3)) := by
  show lim spec_l3Set.B (.j4 x4 x5 x6 x7 x1000 x1001 x1002 x529_0 x529_1 x529_2 x529_3) = _
  rw [lim_eq, spec_l3Set.B]
  simp only [ev_ite, ev_opt, ev_ask, ev_to, ev_ret, ev_bad]
  try rfl
theorem spec_l3Set.j3v_eq (x4 : List Bool) (x5 : Int) (x6 : Int) (x7 : Int) (x98 : Bool) (x1000 : ByteArray) (x1001 : Int) (x1002 : Bool) (x529_0 : Int) (x529_1 : Int) (x529_2 : ByteArray) (x529_3 : Bool) : spec_l3Set.j3v x4 x5 x6 x7 x98 x1000 x1001 x1002 x529_0 x529_1 x529_2 x529_3 = (if x98 = true then (if 0 ≤ (wrap64 (x1001 + 1)) then (if (wrap64 (x1001 + 1)) < (x1000.size : Int) then (spec_l3Set.j4v x4 x5 x6 ((wrap64 (bt x1000 (wrap64 (x1001 + 1))))) x1000 (wrap64 (x1001 + 2)) x1002 x529_0 x529_1 x529_2 x529_3) else (none)) else (none)) else (spec_l3Set.j4v x4 x5 x6 x7 x1000 x1001 x1002 x529_0 x529_1 x529_2 x529_3)) := by
  show lim spec_l3Set.B (.j3 x4 x5 x6 x7 x98 x1000 x1001 x1002 x529_0 x529_1 x529_2 x529_3) = _
  rw [lim_eq, spec_l3Set.B]
  simp only [ev_ite, ev_opt, ev_ask, ev_to, ev_ret, ev_bad]
  try rfl
theorem spec_l3Set.j5v_eq (x4 : List Bool) (x5 : Int) (x6 : Int) (x7 : Int) (x1000 : ByteArray) (x1001 : Int) (x1002 : Bool) (x529_0 : Int) (x529_1 : Int) (x529_2 : ByteArray) (x529_3 : Bool) : spec_l3Set.j5v x4 x5 x6 x7 x1000 x1001 x1002 x529_0 x529_1 x529_2 x529_3 = (spec_l3Set.l1v x4 x5 x7 x6 x1000 x1001 x1002 x529_0 x529_1 x529_2 x529_3) := by
  show lim spec_l3Set.B (.j5 x4 x5 x6 x7 x1000 x1001 x1002 x529_0 x529_1 x529_2 x529_3) = _
  rw [lim_eq, spec_l3Set.B]
  simp only [ev_ite, ev_opt, ev_ask, ev_to, ev_ret, ev_bad]
  try rfl
theorem spec_l3Set.l1v_eq (x4 : List Bool) (x5 : Int) (x7 : Int) (x8 : Int) (x1000 : ByteArray) (x1001 : Int) (x1002 : Bool) (x529_0 : Int) (x529_1 : Int) (x529_2 : ByteArray) (x529_3 : Bool) : spec_l3Set.l1v x4 x5 x7 x8 x1000 x1001 x1002 x529_0 x529_1 x529_2 x529_3 = (if x8 ≤ x7 then (if 0 ≤ x8 then (if x8 < (x4.length : Int) then (spec_l3Set.l1v (x4.set (x8 : Int).toNat true) x5 x7 (wrap64 (x8 + 1)) x1000 x1001 x1002 x529_0 x529_1 x529_2 x529_3) else (none)) else (none)) else (spec_l3Set.l0v x4 (wrap64 (x5 + 1)) x1000 x1001 x1002 x529_0 x529_1 x529_2 x529_3)) := by
  show lim spec_l3Set.B (.l1 x4 x5 x7 x8 x1000 x1001 x1002 x529_0 x529_1 x529_2 x529_3) = _
  rw [lim_eq, spec_l3Set.B]
  simp only [ev_ite, ev_opt, ev_ask, ev_to, ev_ret, ev_bad]
  try rfl
theorem spec_l3Set.j8v_eq (x4 : List Bool) (x1000 : ByteArray) (x1001 : Int) (x1002 : Bool) (x529_0 : Int) (x529_1 : Int) (x529_2 : ByteArray) (x529_3 : Bool) : spec_l3Set.j8v x4 x1000 x1001 x1002 x529_0 x529_1 x529_2 x529_3 = (spec_l3Set.l2v x4 ([] : List Int) 0 x1000 (wrap64 (x1001 + 1)) x1002 x529_0 x529_1 x529_2 x529_3) := by
  show lim spec_l3Set.B (.j8 x4 x1000 x1001 x1002 x529_0 x529_1 x529_2 x529_3) = _
  rw [lim_eq, spec_l3Set.B]
  simp only [ev_ite, ev_opt, ev_ask, ev_to, ev_ret, ev_bad]
  try rfl
theorem spec_l3Set.j7v_eq (x4 : List Bool) (x148 : Bool) (x1000 : ByteArray) (x1001 : Int) (x1002 : Bool) (x529_0 : Int) (x529_1 : Int) (x529_2 : ByteArray) (x529_3 : Bool) : spec_l3Set.j7v x4 x148 x1000 x1001 x1002 x529_0 x529_1 x529_2 x529_3 = (if x148 = true then (spec_l3Set.j8v x4 x1000 x1001 true x529_0 x529_1 x529_2 x529_3) else (spec_l3Set.j8v x4 x1000 x1001 x1002 x529_0 x529_1 x529_2 x529_3)) := by
  show lim spec_l3Set.B (.j7 x4 x148 x1000 x1001 x1002 x529_0 x529_1 x529_2 x529_3) = _
  rw [lim_eq, spec_l3Set.B]
  simp only [ev_ite, ev_opt, ev_ask, ev_to, ev_ret, ev_bad]
  try rfl
theorem spec_l3Set.l2v_eq (x4 : List Bool) (x9 : List Int) (x10 : Int) (x1000 : ByteArray) (x1001 : Int) (x1002 : Bool) (x529_0 : Int) (x529_1 : Int) (x529_2 : ByteArray) (x529_3 : Bool) : spec_l3Set.l2v x4 x9 x10 x1000 x1001 x1002 x529_0 x529_1 x529_2 x529_3 = (if x10 < 256 then (if 0 ≤ x10 then (if x10 < (x4.length : Int) then (if (rdOf false x4 x10) = true then (if x9.length < 140737488355328 then (spec_l3Set.l2v x4 ((x9 ++ [((x10) % 256)])) (wrap64 (x10 + 1)) x1000 x1001 x1002 x529_0 x529_1 x529_2 x529_3) else (none)) else (spec_l3Set.l2v x4 x9 (wrap64 (x10 + 1)) x1000 x1001 x1002 x529_0 x529_1 x529_2 x529_3)) else (none)) else (none)) else (some (x529_0, x529_1, (strOfNums x9), x529_3, ([] : List S115), x1000, x1001, x1002))) := by
  show lim spec_l3Set.B (.l2 x4 x9 x10 x1000 x1001 x1002 x529_0 x529_1 x529_2 x529_3) = _
  rw [lim_eq, spec_l3Set.B]
  simp only [ev_ite, ev_opt, ev_ask, ev_to, ev_ret, ev_bad]
  try rfl
inductive spec_l3Pattern.Q where
  | spec_l3Pattern_f (s0_0 : ByteArray) (s0_1 : Int) (s0_2 : Bool) (a1 : Int)
  | spec_l3Pattern_l0 (x1 : Int) (x5 : List S115) (x1000 : ByteArray) (x1001 : Int) (x1002 : Bool)
  | spec_l3Part_f (s0_0 : ByteArray) (s0_1 : Int) (s0_2 : Bool) (a1 : Int)
  | spec_l3Part_j1 (x5 : List S115) (x1000 : ByteArray) (x1001 : Int) (x1002 : Bool)
  | spec_l3Part_l0 (x1 : Int) (x5 : List S115) (x1000 : ByteArray) (x1001 : Int) (x1002 : Bool)
  | spec_l3Piece_f (s0_0 : ByteArray) (s0_1 : Int) (s0_2 : Bool) (a1 : Int)
  | spec_l3Piece_l0 (x1000 : ByteArray) (x1001 : Int) (x1002 : Bool) (x531_0 : Int) (x531_1 : Int) (x531_2 : ByteArray) (x531_3 : Bool) (x531_4 : List S115)
  | spec_l3Atom_f (s0_0 : ByteArray) (s0_1 : Int) (s0_2 : Bool) (a1 : Int)
  | spec_l3Atom_j0 (x1 : Int) (x26 : Bool) (x1000 : ByteArray) (x1001 : Int) (x1002 : Bool)
def spec_l3Pattern.B : spec_l3Pattern.Q → Pg spec_l3Pattern.Q (fun _ => Int × Int × ByteArray × Bool × (List S115) × ByteArray × Int × Bool) (Int × Int × ByteArray × Bool × (List S115) × ByteArray × Int × Bool)
  | .spec_l3Pattern_f s0_0 s0_1 s0_2 a1 => .ask (.spec_l3Part_f s0_0 s0_1 s0_2 a1) fun (t8 : Int × Int × ByteArray × Bool × (List S115) × ByteArray × Int × Bool) => (.to (.spec_l3Pattern_l0 a1 ([(⟨t8.1, t8.2.1, t8.2.2.1, t8.2.2.2.1, t8.2.2.2.2.1⟩ : S115)] : List S115) t8.2.2.2.2.2.1 t8.2.2.2.2.2.2.1 t8.2.2.2.2.2.2.2))
  | .spec_l3Pattern_l0 x1 x5 x1000 x1001 x1002 => .opt (spec_l3Now.f x1000 x1001 x1002 124) fun t11 => (if t11.1 = true then (.ask (.spec_l3Part_f t11.2.1 (wrap64 (t11.2.2.1 + 1)) t11.2.2.2 x1) fun (t22 : Int × Int × ByteArray × Bool × (List S115) × ByteArray × Int × Bool) => (if x5.length < 2199023255552 then (.to (.spec_l3Pattern_l0 x1 (x5 ++ [(⟨t22.1, t22.2.1, t22.2.2.1, t22.2.2.2.1, t22.2.2.2.2.1⟩ : S115)]) t22.2.2.2.2.2.1 t22.2.2.2.2.2.2.1 t22.2.2.2.2.2.2.2)) else (.bad))) else (if (x5.length : Int) = 1 then (if 0 < (x5.length : Int) then (.ret ((rd_T115 x5 0).f0, (rd_T115 x5 0).f1, (rd_T115 x5 0).f2, (rd_T115 x5 0).f3, (rd_T115 x5 0).f4, t11.2.1, t11.2.2.1, t11.2.2.2)) else (.bad)) else (.ret (7, 0, (⟨#[]⟩ : ByteArray), false, x5, t11.2.1, t11.2.2.1, t11.2.2.2))))
  | .spec_l3Part_f s0_0 s0_1 s0_2 a1 => .to (.spec_l3Part_l0 a1 ([] : List S115) s0_0 s0_1 s0_2)
  | .spec_l3Part_j1 x5 x1000 x1001 x1002 => if (x5.length : Int) = 0 then (.ret (11, 0, (⟨#[]⟩ : ByteArray), false, ([] : List S115), x1000, x1001, x1002)) else (if (x5.length : Int) = 1 then (if 0 < (x5.length : Int) then (.ret ((rd_T115 x5 0).f0, (rd_T115 x5 0).f1, (rd_T115 x5 0).f2, (rd_T115 x5 0).f3, (rd_T115 x5 0).f4, x1000, x1001, x1002)) else (.bad)) else (.ret (6, 0, (⟨#[]⟩ : ByteArray), false, x5, x1000, x1001, x1002)))
  | .spec_l3Part_l0 x1 x5 x1000 x1001 x1002 => if x1002 = true then (.to (.spec_l3Part_j1 x5 x1000 x1001 x1002)) else (if x1001 < (x1000.size : Int) then (if 0 ≤ x1001 then (if (bt x1000 x1001) = 124 then (.to (.spec_l3Part_j1 x5 x1000 x1001 x1002)) else (if (bt x1000 x1001) = 41 then (.to (.spec_l3Part_j1 x5 x1000 x1001 x1002)) else (.ask (.spec_l3Piece_f x1000 x1001 x1002 x1) fun (t51 : Int × Int × ByteArray × Bool × (List S115) × ByteArray × Int × Bool) => (if x5.length < 2199023255552 then (.to (.spec_l3Part_l0 x1 (x5 ++ [(⟨t51.1, t51.2.1, t51.2.2.1, t51.2.2.2.1, t51.2.2.2.2.1⟩ : S115)]) t51.2.2.2.2.2.1 t51.2.2.2.2.2.2.1 t51.2.2.2.2.2.2.2)) else (.bad))))) else (.bad)) else (.to (.spec_l3Part_j1 x5 x1000 x1001 x1002)))
  | .spec_l3Piece_f s0_0 s0_1 s0_2 a1 => .ask (.spec_l3Atom_f s0_0 s0_1 s0_2 a1) fun (t10 : Int × Int × ByteArray × Bool × (List S115) × ByteArray × Int × Bool) => (.to (.spec_l3Piece_l0 t10.2.2.2.2.2.1 t10.2.2.2.2.2.2.1 t10.2.2.2.2.2.2.2 t10.1 t10.2.1 t10.2.2.1 t10.2.2.2.1 t10.2.2.2.2.1))
  | .spec_l3Piece_l0 x1000 x1001 x1002 x531_0 x531_1 x531_2 x531_3 x531_4 => if x1002 = true then (.ret (x531_0, x531_1, x531_2, x531_3, x531_4, x1000, x1001, x1002)) else (.opt (spec_l3Now.f x1000 x1001 x1002 42) fun t18 => (if t18.1 = true then (if 8 = 0 then (.ret (x531_0, x531_1, x531_2, x531_3, x531_4, t18.2.1, t18.2.2.1, t18.2.2.2)) else (.to (.spec_l3Piece_l0 t18.2.1 (wrap64 (t18.2.2.1 + 1)) t18.2.2.2 8 0 (⟨#[]⟩ : ByteArray) false ([(⟨x531_0, x531_1, x531_2, x531_3, x531_4⟩ : S115)] : List S115)))) else (.opt (spec_l3Now.f t18.2.1 t18.2.2.1 t18.2.2.2 43) fun t21 => (if t21.1 = true then (if 9 = 0 then (.ret (x531_0, x531_1, x531_2, x531_3, x531_4, t21.2.1, t21.2.2.1, t21.2.2.2)) else (.to (.spec_l3Piece_l0 t21.2.1 (wrap64 (t21.2.2.1 + 1)) t21.2.2.2 9 0 (⟨#[]⟩ : ByteArray) false ([(⟨x531_0, x531_1, x531_2, x531_3, x531_4⟩ : S115)] : List S115)))) else (.opt (spec_l3Now.f t21.2.1 t21.2.2.1 t21.2.2.2 63) fun t24 => (if t24.1 = true then (if 10 = 0 then (.ret (x531_0, x531_1, x531_2, x531_3, x531_4, t24.2.1, t24.2.2.1, t24.2.2.2)) else (.to (.spec_l3Piece_l0 t24.2.1 (wrap64 (t24.2.2.1 + 1)) t24.2.2.2 10 0 (⟨#[]⟩ : ByteArray) false ([(⟨x531_0, x531_1, x531_2, x531_3, x531_4⟩ : S115)] : List S115)))) else (if 0 = 0 then (.ret (x531_0, x531_1, x531_2, x531_3, x531_4, t24.2.1, t24.2.2.1, t24.2.2.2)) else (.to (.spec_l3Piece_l0 t24.2.1 (wrap64 (t24.2.2.1 + 1)) t24.2.2.2 0 0 (⟨#[]⟩ : ByteArray) false ([(⟨x531_0, x531_1, x531_2, x531_3, x531_4⟩ : S115)] : List S115))))))))))
  | .spec_l3Atom_f s0_0 s0_1 s0_2 a1 => if s0_2 = true then (.to (.spec_l3Atom_j0 a1 true s0_0 s0_1 s0_2)) else (if s0_1 ≥ (s0_0.size : Int) then (.to (.spec_l3Atom_j0 a1 true s0_0 s0_1 s0_2)) else (.to (.spec_l3Atom_j0 a1 (decide (a1 > 40)) s0_0 s0_1 s0_2)))
  | .spec_l3Atom_j0 x1 x26 x1000 x1001 x1002 => if x26 = true then (.ret (0, 0, (⟨#[]⟩ : ByteArray), false, ([] : List S115), x1000, x1001, true)) else (if 0 ≤ x1001 then (if x1001 < (x1000.size : Int) then (if (bt x1000 x1001) = 40 then (.ask (.spec_l3Pattern_f x1000 (wrap64 (x1001 + 1)) x1002 (wrap64 (x1 + 1))) fun (t53 : Int × Int × ByteArray × Bool × (List S115) × ByteArray × Int × Bool) => (.opt (spec_l3Now.f t53.2.2.2.2.2.1 t53.2.2.2.2.2.2.1 t53.2.2.2.2.2.2.2 41) fun t55 => (if t55.1 = true then (.ret (t53.1, t53.2.1, t53.2.2.1, t53.2.2.2.1, t53.2.2.2.2.1, t55.2.1, (wrap64 (t55.2.2.1 + 1)), t55.2.2.2)) else (.ret (t53.1, t53.2.1, t53.2.2.1, t53.2.2.2.1, t53.2.2.2.2.1, t55.2.1, (wrap64 (t55.2.2.1 + 1)), true))))) else (if (bt x1000 x1001) = 46 then (.ret (2, 0, (⟨#[]⟩ : ByteArray), false, ([] : List S115), x1000, (wrap64 (x1001 + 1)), x1002)) else (if (bt x1000 x1001) = 94 then (.ret (4, 0, (⟨#[]⟩ : ByteArray), false, ([] : List S115), x1000, (wrap64 (x1001 + 1)), x1002)) else (if (bt x1000 x1001) = 36 then (.ret (5, 0, (⟨#[]⟩ : ByteArray), false, ([] : List S115), x1000, (wrap64 (x1001 + 1)), x1002)) else (if (bt x1000 x1001) = 91 then (.opt (spec_l3Set.fv x1000 (wrap64 (x1001 + 1)) x1002) fun t80 => (.ret (t80.1, t80.2.1, t80.2.2.1, t80.2.2.2.1, t80.2.2.2.2.1, t80.2.2.2.2.2.1, t80.2.2.2.2.2.2.1, t80.2.2.2.2.2.2.2))) else (if (bt x1000 x1001) = 92 then (if (wrap64 (x1001 + 1)) ≥ (x1000.size : Int) then (.ret (0, 0, (⟨#[]⟩ : ByteArray), false, ([] : List S115), x1000, (wrap64 (x1001 + 1)), true)) else (if 0 ≤ (wrap64 (x1001 + 1)) then (if (wrap64 (x1001 + 1)) < (x1000.size : Int) then (.ret (1, (wrap64 (bt x1000 (wrap64 (x1001 + 1)))), (⟨#[]⟩ : ByteArray), false, ([] : List S115), x1000, (wrap64 ((wrap64 (x1001 + 1)) + 1)), x1002)) else (.bad)) else (.bad))) else (if (bt x1000 x1001) = 42 then (.ret (1, (wrap64 (bt x1000 x1001)), (⟨#[]⟩ : ByteArray), false, ([] : List S115), x1000, (wrap64 (x1001 + 1)), true)) else (if (bt x1000 x1001) = 43 then (.ret (1, (wrap64 (bt x1000 x1001)), (⟨#[]⟩ : ByteArray), false, ([] : List S115), x1000, (wrap64 (x1001 + 1)), true)) else (if (bt x1000 x1001) = 63 then (.ret (1, (wrap64 (bt x1000 x1001)), (⟨#[]⟩ : ByteArray), false, ([] : List S115), x1000, (wrap64 (x1001 + 1)), true)) else (.ret (1, (wrap64 (bt x1000 x1001)), (⟨#[]⟩ : ByteArray), false, ([] : List S115), x1000, (wrap64 (x1001 + 1)), x1002))))))))))) else (.bad)) else (.bad))
def spec_l3Pattern.fv (s0_0 : ByteArray) (s0_1 : Int) (s0_2 : Bool) (a1 : Int) : Option (Int × Int × ByteArray × Bool × (List S115) × ByteArray × Int × Bool) := lim spec_l3Pattern.B (.spec_l3Pattern_f s0_0 s0_1 s0_2 a1)
def spec_l3Pattern.l0v (x1 : Int) (x5 : List S115) (x1000 : ByteArray) (x1001 : Int) (x1002 : Bool) : Option (Int × Int × ByteArray × Bool × (List S115) × ByteArray × Int × Bool) := lim spec_l3Pattern.B (.spec_l3Pattern_l0 x1 x5 x1000 x1001 x1002)
def spec_l3Part.fv (s0_0 : ByteArray) (s0_1 : Int) (s0_2 : Bool) (a1 : Int) : Option (Int × Int × ByteArray × Bool × (List S115) × ByteArray × Int × Bool) := lim spec_l3Pattern.B (.spec_l3Part_f s0_0 s0_1 s0_2 a1)
def spec_l3Part.j1v (x5 : List S115) (x1000 : ByteArray) (x1001 : Int) (x1002 : Bool) : Option (Int × Int × ByteArray × Bool × (List S115) × ByteArray × Int × Bool) := lim spec_l3Pattern.B (.spec_l3Part_j1 x5 x1000 x1001 x1002)
def spec_l3Part.l0v (x1 : Int) (x5 : List S115) (x1000 : ByteArray) (x1001 : Int) (x1002 : Bool) : Option (Int × Int × ByteArray × Bool × (List S115) × ByteArray × Int × Bool) := lim spec_l3Pattern.B (.spec_l3Part_l0 x1 x5 x1000 x1001 x1002)
def spec_l3Piece.fv (s0_0 : ByteArray) (s0_1 : Int) (s0_2 : Bool) (a1 : Int) : Option (Int × Int × ByteArray × Bool × (List S115) × ByteArray × Int × Bool) := lim spec_l3Pattern.B (.spec_l3Piece_f s0_0 s0_1 s0_2 a1)
def spec_l3Piece.l0v (x1000 : ByteArray) (x1001 : Int) (x1002 : Bool) (x531_0 : Int) (x531_1 : Int) (x531_2 : ByteArray) (x531_3 : Bool) (x531_4 : List S115) : Option (Int × Int × ByteArray × Bool × (List S115) × ByteArray × Int × Bool) := lim spec_l3Pattern.B (.spec_l3Piece_l0 x1000 x1001 x1002 x531_0 x531_1 x531_2 x531_3 x531_4)
def spec_l3Atom.fv (s0_0 : ByteArray) (s0_1 : Int) (s0_2 : Bool) (a1 : Int) : Option (Int × Int × ByteArray × Bool × (List S115) × ByteArray × Int × Bool) := lim spec_l3Pattern.B (.spec_l3Atom_f s0_0 s0_1 s0_2 a1)
def spec_l3Atom.j0v (x1 : Int) (x26 : Bool) (x1000 : ByteArray) (x1001 : Int) (x1002 : Bool) : Option (Int × Int × ByteArray × Bool × (List S115) × ByteArray × Int × Bool) := lim spec_l3Pattern.B (.spec_l3Atom_j0 x1 x26 x1000 x1001 x1002)
theorem spec_l3Pattern.fv_eq (s0_0 : ByteArray) (s0_1 : Int) (s0_2 : Bool) (a1 : Int) : spec_l3Pattern.fv s0_0 s0_1 s0_2 a1 = ((spec_l3Part.fv s0_0 s0_1 s0_2 a1).bind fun t8 => (spec_l3Pattern.l0v a1 ([(⟨t8.1, t8.2.1, t8.2.2.1, t8.2.2.2.1, t8.2.2.2.2.1⟩ : S115)] : List S115) t8.2.2.2.2.2.1 t8.2.2.2.2.2.2.1 t8.2.2.2.2.2.2.2)) := by
  show lim spec_l3Pattern.B (.spec_l3Pattern_f s0_0 s0_1 s0_2 a1) = _
  rw [lim_eq, spec_l3Pattern.B]
  simp only [ev_ite, ev_opt, ev_ask, ev_to, ev_ret, ev_bad]
  try rfl
theorem spec_l3Pattern.l0v_eq (x1 : Int) (x5 : List S115) (x1000 : ByteArray) (x1001 : Int) (x1002 : Bool) : spec_l3Pattern.l0v x1 x5 x1000 x1001 x1002 = ((spec_l3Now.f x1000 x1001 x1002 124).bind fun t11 => (if t11.1 = true then ((spec_l3Part.fv t11.2.1 (wrap64 (t11.2.2.1 + 1)) t11.2.2.2 x1).bind fun t22 => (if x5.length < 2199023255552 then (spec_l3Pattern.l0v x1 (x5 ++ [(⟨t22.1, t22.2.1, t22.2.2.1, t22.2.2.2.1, t22.2.2.2.2.1⟩ : S115)]) t22.2.2.2.2.2.1 t22.2.2.2.2.2.2.1 t22.2.2.2.2.2.2.2) else (none))) else (if (x5.length : Int) = 1 then (if 0 < (x5.length : Int) then (some ((rd_T115 x5 0).f0, (rd_T115 x5 0).f1, (rd_T115 x5 0).f2, (rd_T115 x5 0).f3, (rd_T115 x5 0).f4, t11.2.1, t11.2.2.1, t11.2.2.2)) else (none)) else (some (7, 0, (⟨#[]⟩ : ByteArray), false, x5, t11.2.1, t11.2.2.1, t11.2.2.2))))) := by
  show lim spec_l3Pattern.B (.spec_l3Pattern_l0 x1 x5 x1000 x1001 x1002) = _
  rw [lim_eq, spec_l3Pattern.B]
  simp only [ev_ite, ev_opt, ev_ask, ev_to, ev_ret, ev_bad]
  try rfl
theorem spec_l3Part.fv_eq (s0_0 : ByteArray) (s0_1 : Int) (s0_2 : Bool) (a1 : Int) : spec_l3Part.fv s0_0 s0_1 s0_2 a1 = (spec_l3Part.l0v a1 ([] : List S115) s0_0 s0_1 s0_2) := by
  show lim spec_l3Pattern.B (.spec_l3Part_f s0_0 s0_1 s0_2 a1) = _
  rw [lim_eq, spec_l3Pattern.B]
  simp only [ev_ite, ev_opt, ev_ask, ev_to, ev_ret, ev_bad]
  try rfl
theorem spec_l3Part.j1v_eq (x5 : List S115) (x1000 : ByteArray) (x1001 : Int) (x1002 : Bool) : spec_l3Part.j1v x5 x1000 x1001 x1002 = (if (x5.length : Int) = 0 then (some (11, 0, (⟨#[]⟩ : ByteArray), false, ([] : List S115), x1000, x1001, x1002)) else (if (x5.length : Int) = 1 then (if 0 < (x5.length : Int) then (some ((rd_T115 x5 0).f0, (rd_T115 x5 0).f1, (rd_T115 x5 0).f2, (rd_T115 x5 0).f3, (rd_T115 x5 0).f4, x1000, x1001, x1002)) else (none)) else (some (6, 0, (⟨#[]⟩ : ByteArray), false, x5, x1000, x1001, x1002)))) := by
  show lim spec_l3Pattern.B (.spec_l3Part_j1 x5 x1000 x1001 x1002) = _
  rw [lim_eq, spec_l3Pattern.B]
  simp only [ev_ite, ev_opt, ev_ask, ev_to, ev_ret, ev_bad]
  try rfl
theorem spec_l3Part.l0v_eq (x1 : Int) (x5 : List S115) (x1000 : ByteArray) (x1001 : Int) (x1002 : Bool) : spec_l3Part.l0v x1 x5 x1000 x1001 x1002 = (if x1002 = true then (spec_l3Part.j1v x5 x1000 x1001 x1002) else (if x1001 < (x1000.size : Int) then (if 0 ≤ x1001 then (if (bt x1000 x1001) = 124 then (spec_l3Part.j1v x5 x1000 x1001 x1002) else (if (bt x1000 x1001) = 41 then (spec_l3Part.j1v x5 x1000 x1001 x1002) else ((spec_l3Piece.fv x1000 x1001 x1002 x1).bind fun t51 => (if x5.length < 2199023255552 then (spec_l3Part.l0v x1 (x5 ++ [(⟨t51.1, t51.2.1, t51.2.2.1, t51.2.2.2.1, t51.2.2.2.2.1⟩ : S115)]) t51.2.2.2.2.2.1 t51.2.2.2.2.2.2.1 t51.2.2.2.2.2.2.2) else (none))))) else (none)) else (spec_l3Part.j1v x5 x1000 x1001 x1002))) := by
  show lim spec_l3Pattern.B (.spec_l3Part_l0 x1 x5 x1000 x1001 x1002) = _
  rw [lim_eq, spec_l3Pattern.B]
  simp only [ev_ite, ev_opt, ev_ask, ev_to, ev_ret, ev_bad]
  try rfl
theorem spec_l3Piece.fv_eq (s0_0 : ByteArray) (s0_1 : Int) (s0_2 : Bool) (a1 : Int) : spec_l3Piece.fv s0_0 s0_1 s0_2 a1 = ((spec_l3Atom.fv s0_0 s0_1 s0_2 a1).bind fun t10 => (spec_l3Piece.l0v t10.2.2.2.2.2.1 t10.2.2.2.2.2.2.1 t10.2.2.2.2.2.2.2 t10.1 t10.2.1 t10.2.2.1 t10.2.2.2.1 t10.2.2.2.2.1)) := by
  show lim spec_l3Pattern.B (.spec_l3Piece_f s0_0 s0_1 s0_2 a1) = _
  rw [lim_eq, spec_l3Pattern.B]
  simp only [ev_ite, ev_opt, ev_ask, ev_to, ev_ret, ev_bad]
  try rfl
theorem spec_l3Piece.l0v_eq (x1000 : ByteArray) (x1001 : Int) (x1002 : Bool) (x531_0 : Int) (x531_1 : Int) (x531_2 : ByteArray) (x531_3 : Bool) (x531_4 : List S115) : spec_l3Piece.l0v x1000 x1001 x1002 x531_0 x531_1 x531_2 x531_3 x531_4 = (if x1002 = true then (some (x531_0, x531_1, x531_2, x531_3, x531_4, x1000, x1001, x1002)) else ((spec_l3Now.f x1000 x1001 x1002 42).bind fun t18 => (if t18.1 = true then (if 8 = 0 then (some (x531_0, x531_1, x531_2, x531_3, x531_4, t18.2.1, t18.2.2.1, t18.2.2.2)) else (spec_l3Piece.l0v t18.2.1 (wrap64 (t18.2.2.1 + 1)) t18.2.2.2 8 0 (⟨#[]⟩ : ByteArray) false ([(⟨x531_0, x531_1, x531_2, x531_3, x531_4⟩ : S115)] : List S115))) else ((spec_l3Now.f t18.2.1 t18.2.2.1 t18.2.2.2 43).bind fun t21 => (if t21.1 = true then (if 9 = 0 then (some (x531_0, x531_1, x531_2, x531_3, x531_4, t21.2.1, t21.2.2.1, t21.2.2.2)) else (spec_l3Piece.l0v t21.2.1 (wrap64 (t21.2.2.1 + 1)) t21.2.2.2 9 0 (⟨#[]⟩ : ByteArray) false ([(⟨x531_0, x531_1, x531_2, x531_3, x531_4⟩ : S115)] : List S115))) else ((spec_l3Now.f t21.2.1 t21.2.2.1 t21.2.2.2 63).bind fun t24 => (if t24.1 = true then (if 10 = 0 then (some (x531_0, x531_1, x531_2, x531_3, x531_4, t24.2.1, t24.2.2.1, t24.2.2.2)) else (spec_l3Piece.l0v t24.2.1 (wrap64 (t24.2.2.1 + 1)) t24.2.2.2 10 0 (⟨#[]⟩ : ByteArray) false ([(⟨x531_0, x531_1, x531_2, x531_3, x531_4⟩ : S115)] : List S115))) else (if 0 = 0 then (some (x531_0, x531_1, x531_2, x531_3, x531_4, t24.2.1, t24.2.2.1, t24.2.2.2)) else (spec_l3Piece.l0v t24.2.1 (wrap64 (t24.2.2.1 + 1)) t24.2.2.2 0 0 (⟨#[]⟩ : ByteArray) false ([(⟨x531_0, x531_1, x531_2, x531_3, x531_4⟩ : S115)] : List S115)))))))))) := by
  show lim spec_l3Pattern.B (.spec_l3Piece_l0 x1000 x1001 x1002 x531_0 x531_1 x531_2 x531_3 x531_4) = _
  rw [lim_eq, spec_l3Pattern.B]
  simp only [ev_ite, ev_opt, ev_ask, ev_to, ev_ret, ev_bad]
  try rfl
theorem spec_l3Atom.fv_eq (s0_0 : ByteArray) (s0_1 : Int) (s0_2 : Bool) (a1 : Int) : spec_l3Atom.fv s0_0 s0_1 s0_2 a1 = (if s0_2 = true then (spec_l3Atom.j0v a1 true s0_0 s0_1 s0_2) else (if s0_1 ≥ (s0_0.size : Int) then (spec_l3Atom.j0v a1 true s0_0 s0_1 s0_2) else (spec_l3Atom.j0v a1 (decide (a1 > 40)) s0_0 s0_1 s0_2))) := by
  show lim spec_l3Pattern.B (.spec_l3Atom_f s0_0 s0_1 s0_2 a1) = _
  rw [lim_eq, spec_l3Pattern.B]
  simp only [ev_ite, ev_opt, ev_ask, ev_to, ev_ret, ev_bad]
  try rfl
theorem spec_l3Atom.j0v_eq (x1 : Int) (x26 : Bool) (x1000 : ByteArray) (x1001 : Int) (x1002 : Bool) : spec_l3Atom.j0v x1 x26 x1000 x1001 x1002 = (if x26 = true then (some (0, 0, (⟨#[]⟩ : ByteArray), false, ([] : List S115), x1000, x1001, true)) else (if 0 ≤ x1001 then (if x1001 < (x1000.size : Int) then (if (bt x1000 x1001) = 40 then ((spec_l3Pattern.fv x1000 (wrap64 (x1001 + 1)) x1002 (wrap64 (x1 + 1))).bind fun t53 => ((spec_l3Now.f t53.2.2.2.2.2.1 t53.2.2.2.2.2.2.1 t53.2.2.2.2.2.2.2 41).bind fun t55 => (if t55.1 = true then (some (t53.1, t53.2.1, t53.2.2.1, t53.2.2.2.1, t53.2.2.2.2.1, t55.2.1, (wrap64 (t55.2.2.1 + 1)), t55.2.2.2)) else (some (t53.1, t53.2.1, t53.2.2.1, t53.2.2.2.1, t53.2.2.2.2.1, t55.2.1, (wrap64 (t55.2.2.1 + 1)), true))))) else (if (bt x1000 x1001) = 46 then (some (2, 0, (⟨#[]⟩ : ByteArray), false, ([] : List S115), x1000, (wrap64 (x1001 + 1)), x1002)) else (if (bt x1000 x1001) = 94 then (some (4, 0, (⟨#[]⟩ : ByteArray), false, ([] : List S115), x1000, (wrap64 (x1001 + 1)), x1002)) else (if (bt x1000 x1001) = 36 then (some (5, 0, (⟨#[]⟩ : ByteArray), false, ([] : List S115), x1000, (wrap64 (x1001 + 1)), x1002)) else (if (bt x1000 x1001) = 91 then ((spec_l3Set.fv x1000 (wrap64 (x1001 + 1)) x1002).bind fun t80 => (some (t80.1, t80.2.1, t80.2.2.1, t80.2.2.2.1, t80.2.2.2.2.1, t80.2.2.2.2.2.1, t80.2.2.2.2.2.2.1, t80.2.2.2.2.2.2.2))) else (if (bt x1000 x1001) = 92 then (if (wrap64 (x1001 + 1)) ≥ (x1000.size : Int) then (some (0, 0, (⟨#[]⟩ : ByteArray), false, ([] : List S115), x1000, (wrap64 (x1001 + 1)), true)) else (if 0 ≤ (wrap64 (x1001 + 1)) then (if (wrap64 (x1001 + 1)) < (x1000.size : Int) then (some (1, (wrap64 (bt x1000 (wrap64 (x1001 + 1)))), (⟨#[]⟩ : ByteArray), false, ([] : List S115), x1000, (wrap64 ((wrap64 (x1001 + 1)) + 1)), x1002)) else (none)) else (none))) else (if (bt x1000 x1001) = 42 then (some (1, (wrap64 (bt x1000 x1001)), (⟨#[]⟩ : ByteArray), false, ([] : List S115), x1000, (wrap64 (x1001 + 1)), true)) else (if (bt x1000 x1001) = 43 then (some (1, (wrap64 (bt x1000 x1001)), (⟨#[]⟩ : ByteArray), false, ([] : List S115), x1000, (wrap64 (x1001 + 1)), true)) else (if (bt x1000 x1001) = 63 then (some (1, (wrap64 (bt x1000 x1001)), (⟨#[]⟩ : ByteArray), false, ([] : List S115), x1000, (wrap64 (x1001 + 1)), true)) else (some (1, (wrap64 (bt x1000 x1001)), (⟨#[]⟩ : ByteArray), false, ([] : List S115), x1000, (wrap64 (x1001 + 1)), x1002))))))))))) else (none)) else (none))) := by
  show lim spec_l3Pattern.B (.spec_l3Atom_j0 x1 x26 x1000 x1001 x1002) = _
  rw [lim_eq, spec_l3Pattern.B]
  simp only [ev_ite, ev_opt, ev_ask, ev_to, ev_ret, ev_bad]
  try rfl
def spec_l1Max.f (a0 : Int) (a1 : Int) : Option (Int) := if a0 > a1 then (some a0) else (some a1)
inductive spec_l3Deep.Q where
  | f (a0_0 : Int) (a0_1 : Int) (a0_2 : ByteArray) (a0_3 : Bool) (l0_4 : List S115)
  | l0 (x3 : Int) (x4 : Int) (x16_0 : Int) (x16_1 : Int) (x16_2 : ByteArray) (x16_3 : Bool) (x16_4 : List S115)
def spec_l3Deep.B : spec_l3Deep.Q → Pg spec_l3Deep.Q (fun _ => Int) (Int)
  | .f a0_0 a0_1 a0_2 a0_3 l0_4 => .to (.l0 0 0 a0_0 a0_1 a0_2 a0_3 l0_4)
  | .l0 x3 x4 x16_0 x16_1 x16_2 x16_3 x16_4 => if x4 < (x16_4.length : Int) then (if 0 ≤ x4 then (.ask (.f ((rd_T115 x16_4 x4).f0) ((rd_T115 x16_4 x4).f1) ((rd_T115 x16_4 x4).f2) ((rd_T115 x16_4 x4).f3) ((rd_T115 x16_4 x4).f4)) fun (t18 : Int) => (.opt (spec_l1Max.f x3 t18) fun t19 => (.to (.l0 t19 (wrap64 (x4 + 1)) x16_0 x16_1 x16_2 x16_3 x16_4)))) else (.bad)) else (.ret (wrap64 (x3 + 1)))
def spec_l3Deep.fv (a0_0 : Int) (a0_1 : Int) (a0_2 : ByteArray) (a0_3 : Bool) (l0_4 : List S115) : Option (Int) := lim spec_l3Deep.B (.f a0_0 a0_1 a0_2 a0_3 l0_4)
def spec_l3Deep.l0v (x3 : Int) (x4 : Int) (x16_0 : Int) (x16_1 : Int) (x16_2 : ByteArray) (x16_3 : Bool) (x16_4 : List S115) : Option (Int) := lim spec_l3Deep.B (.l0 x3 x4 x16_0 x16_1 x16_2 x16_3 x16_4)
theorem spec_l3Deep.fv_eq (a0_0 : Int) (a0_1 : Int) (a0_2 : ByteArray) (a0_3 : Bool) (l0_4 : List S115) : spec_l3Deep.fv a0_0 a0_1 a0_2 a0_3 l0_4 = (spec_l3Deep.l0v 0 0 a0_0 a0_1 a0_2 a0_3 l0_4) := by
  show lim spec_l3Deep.B (.f a0_0 a0_1 a0_2 a0_3 l0_4) = _
  rw [lim_eq, spec_l3Deep.B]
  simp only [ev_ite, ev_opt, ev_ask, ev_to, ev_ret, ev_bad]
  try rfl
theorem spec_l3Deep.l0v_eq (x3 : Int) (x4 : Int) (x16_0 : Int) (x16_1 : Int) (x16_2 : ByteArray) (x16_3 : Bool) (x16_4 : List S115) : spec_l3Deep.l0v x3 x4 x16_0 x16_1 x16_2 x16_3 x16_4 = (if x4 < (x16_4.length : Int) then (if 0 ≤ x4 then ((spec_l3Deep.fv ((rd_T115 x16_4 x4).f0) ((rd_T115 x16_4 x4).f1) ((rd_T115 x16_4 x4).f2) ((rd_T115 x16_4 x4).f3) ((rd_T115 x16_4 x4).f4)).bind fun t18 => ((spec_l1Max.f x3 t18).bind fun t19 => (spec_l3Deep.l0v t19 (wrap64 (x4 + 1)) x16_0 x16_1 x16_2 x16_3 x16_4))) else (none)) else (some (wrap64 (x3 + 1)))) := by
  show lim spec_l3Deep.B (.l0 x3 x4 x16_0 x16_1 x16_2 x16_3 x16_4) = _
  rw [lim_eq, spec_l3Deep.B]
  simp only [ev_ite, ev_opt, ev_ask, ev_to, ev_ret, ev_bad]
  try rfl
def spec_RexParse.fv (a0 : ByteArray) : Option (Int × Int × ByteArray × Bool × (List S115) × Bool) := if (a0.size : Int) > 60 then (some (0, 0, (⟨#[]⟩ : ByteArray), false, ([] : List S115), false)) else ((spec_l3Pattern.fv a0 0 false 0).bind fun t14 => (if t14.2.2.2.2.2.2.2 = true then (some (0, 0, (⟨#[]⟩ : ByteArray), false, ([] : List S115), false)) else (if t14.2.2.2.2.2.2.1 = (a0.size : Int) then ((spec_l3Deep.fv t14.1 t14.2.1 t14.2.2.1 t14.2.2.2.1 t14.2.2.2.2.1).bind fun t30 => (if t30 > 12 then (some (0, 0, (⟨#[]⟩ : ByteArray), false, ([] : List S115), false)) else (some (t14.1, t14.2.1, t14.2.2.1, t14.2.2.2.1, t14.2.2.2.2.1, true)))) else (some (0, 0, (⟨#[]⟩ : ByteArray), false, ([] : List S115), false)))))
theorem spec_RexParse.fv_eq (a0 : ByteArray) : spec_RexParse.fv a0 = (if (a0.size : Int) > 60 then (some (0, 0, (⟨#[]⟩ : ByteArray), false, ([] : List S115), false)) else ((spec_l3Pattern.fv a0 0 false 0).bind fun t14 => (if t14.2.2.2.2.2.2.2 = true then (some (0, 0, (⟨#[]⟩ : ByteArray), false, ([] : List S115), false)) else (if t14.2.2.2.2.2.2.1 = (a0.size : Int) then ((spec_l3Deep.fv t14.1 t14.2.1 t14.2.2.1 t14.2.2.2.1 t14.2.2.2.2.1).bind fun t30 => (if t30 > 12 then (some (0, 0, (⟨#[]⟩ : ByteArray), false, ([] : List S115), false)) else (some (t14.1, t14.2.1, t14.2.2.1, t14.2.2.2.1, t14.2.2.2.2.1, true)))) else (some (0, 0, (⟨#[]⟩ : ByteArray), false, ([] : List S115), false)))))) := by rw [spec_RexParse.fv]
inductive spec_l13Op.Q where
  | f (a0_0 : Int) (a0_1 : Int) (a0_2 : ByteArray) (a1 : Int) (a2 : Int) (a3 : Int)
  | j0 (x1 : Int) (x2 : Int) (x3 : Int) (x12 : Int) (x28 : Bool) (x16_0 : Int) (x16_1 : Int) (x16_2 : ByteArray)
  | j1 (x1 : Int) (x3 : Int) (x12 : Int) (x46 : Bool) (x16_0 : Int) (x16_1 : Int) (x16_2 : ByteArray)
  | j2 (x1 : Int) (x12 : Int) (x65 : Bool) (x16_0 : Int) (x16_1 : Int) (x16_2 : ByteArray)
  | j3 (x1 : Int) (x12 : Int) (x91 : Bool) (x16_0 : Int) (x16_1 : Int) (x16_2 : ByteArray)
def spec_l13Op.B : spec_l13Op.Q → Pg spec_l13Op.Q (fun _ => Bool) (Bool)
  | .f a0_0 a0_1 a0_2 a1 a2 a3 => if a0_0 = 1 then (.opt (spec_DecOk.f a0_1) fun t17 => (if t17 = true then (.ret (a0_2.toList == (⟨#[]⟩ : ByteArray).toList)) else (.ret false))) else (if a0_0 = 2 then (.ret (a0_1 == 0)) else (if a0_0 = 3 then (.to (.j0 a1 a2 a3 a0_0 (a0_0 == 3) a0_0 a0_1 a0_2)) else (if a0_0 = 4 then (.to (.j0 a1 a2 a3 a0_0 (a0_0 == 4) a0_0 a0_1 a0_2)) else (.to (.j0 a1 a2 a3 a0_0 (a0_0 == 5) a0_0 a0_1 a0_2)))))
  | .j0 x1 x2 x3 x12 x28 x16_0 x16_1 x16_2 => if x28 = true then (if x16_1 ≥ 0 then (if x16_1 < x2 then (.ret (x16_2.toList == (⟨#[]⟩ : ByteArray).toList)) else (.ret false)) else (.ret false)) else (if x12 = 6 then (.to (.j1 x1 x3 x12 (x12 == 6) x16_0 x16_1 x16_2)) else (if x12 = 7 then (.to (.j1 x1 x3 x12 (x12 == 7) x16_0 x16_1 x16_2)) else (if x12 = 8 then (.to (.j1 x1 x3 x12 (x12 == 8) x16_0 x16_1 x16_2)) else (.to (.j1 x1 x3 x12 (x12 == 35) x16_0 x16_1 x16_2)))))
  | .j1 x1 x3 x12 x46 x16_0 x16_1 x16_2 => if x46 = true then (if x16_1 ≥ 0 then (if x16_1 < x3 then (.ret (x16_2.toList == (⟨#[]⟩ : ByteArray).toList)) else (.ret false)) else (.ret false)) else (if x12 = 24 then (.to (.j2 x1 x12 (x12 == 24) x16_0 x16_1 x16_2)) else (.to (.j2 x1 x12 (x12 == 25) x16_0 x16_1 x16_2)))
  | .j2 x1 x12 x65 x16_0 x16_1 x16_2 => if x65 = true then (.opt (spec_RexParse.fv x16_2) fun t71 => (if t71.2.2.2.2.2 = true then (.ret (x16_1 == 0)) else (.ret false))) else (if x12 = 29 then (.opt (spec_l1In.f x16_1 1 3) fun t84 => (if t84 = true then (.opt (spec_l7Calls.f) fun t86 => (.opt (spec_l7Within.fv t86 x16_2) fun t89 => (.ret t89))) else (.ret false))) else (if x12 = 30 then (.to (.j3 x1 x12 (x12 == 30) x16_0 x16_1 x16_2)) else (.to (.j3 x1 x12 (x12 == 31) x16_0 x16_1 x16_2))))
  | .j3 x1 x12 x91 x16_0 x16_1 x16_2 => if x91 = true then (.opt (spec_l1In.f x16_1 0 (wrap64 (x1 - 1))) fun t98 => (if t98 = true then (.ret (x16_2.toList == (⟨#[]⟩ : ByteArray).toList)) else (.ret false))) else (if x12 = 33 then (.opt (spec_l1In.f x16_1 0 1) fun t108 => (if t108 = true then (.ret (x16_2.toList == (⟨#[]⟩ : ByteArray).toList)) else (.ret false))) else (.opt (spec_l1In.f x16_0 1 36) fun t116 => (if t116 = true then (if x16_1 = 0 then (.ret (x16_2.toList == (⟨#[]⟩ : ByteArray).toList)) else (.ret false)) else (.ret false))))
def spec_l13Op.fv (a0_0 : Int) (a0_1 : Int) (a0_2 : ByteArray) (a1 : Int) (a2 : Int) (a3 : Int) : Option (Bool) := lim spec_l13Op.B (.f a0_0 a0_1 a0_2 a1 a2 a3)
def spec_l13Op.j0v (x1 : Int) (x2 : Int) (x3 : Int) (x12 : Int) (x28 : Bool) (x16_0 : Int) (x16_1 : Int) (x16_2 : ByteArray) : Option (Bool) := lim spec_l13Op.B (.j0 x1 x2 x3 x12 x28 x16_0 x16_1 x16_2)
def spec_l13Op.j1v (x1 : Int) (x3 : Int) (x12 : Int) (x46 : Bool) (x16_0 : Int) (x16_1 : Int) (x16_2 : ByteArray) : Option (Bool) := lim spec_l13Op.B (.j1 x1 x3 x12 x46 x16_0 x16_1 x16_2)
def spec_l13Op.j2v (x1 : Int) (x12 : Int) (x65 : Bool) (x16_0 : Int) (x16_1 : Int) (x16_2 : ByteArray) : Option (Bool) := lim spec_l13Op.B (.j2 x1 x12 x65 x16_0 x16_1 x16_2)
def spec_l13Op.j3v (x1 : Int) (x12 : Int) (x91 : Bool) (x16_0 : Int) (x16_1 : Int) (x16_2 : ByteArray) : Option (Bool) := lim spec_l13Op.B (.j3 x1 x12 x91 x16_0 x16_1 x16_2)
theorem spec_l13Op.fv_eq (a0_0 : Int) (a0_1 : Int) (a0_2 : ByteArray) (a1 : Int) (a2 : Int) (a3 : Int) : spec_l13Op.fv a0_0 a0_1 a0_2 a1 a2 a3 = (if a0_0 = 1 then ((spec_DecOk.f a0_1).bind fun t17 => (if t17 = true then (some (a0_2.toList == (⟨#[]⟩ : ByteArray).toList)) else (some false))) else (if a0_0 = 2 then (some (a0_1 == 0)) else (if a0_0 = 3 then (spec_l13Op.j0v a1 a2 a3 a0_0 (a0_0 == 3) a0_0 a0_1 a0_2) else (if a0_0 = 4 then (spec_l13Op.j0v a1 a2 a3 a0_0 (a0_0 == 4) a0_0 a0_1 a0_2) else (spec_l13Op.j0v a1 a2 a3 a0_0 (a0_0 == 5) a0_0 a0_1 a0_2))))) := by
  show lim spec_l13Op.B (.f a0_0 a0_1 a0_2 a1 a2 a3) = _
  rw [lim_eq, spec_l13Op.B]
  simp only [ev_ite, ev_opt, ev_ask, ev_to, ev_ret, ev_bad]
  try rfl
theorem spec_l13Op.j0v_eq (x1 : Int) (x2 : Int) (x3 : Int) (x12 : Int) (x28 : Bool) (x16_0 : Int) (x16_1 : Int) (x16_2 : ByteArray) : spec_l13Op.j0v x1 x2 x3 x12 x28 x16_0 x16_1 x16_2 = (if x28 = true then (if x16_1 ≥ 0 then (if x16_1 < x2 then (some (x16_2.toList == (⟨#[]⟩ : ByteArray).toList)) else (some false)) else (some false)) else (if x12 = 6 then (spec_l13Op.j1v x1 x3 x12 (x12 == 6) x16_0 x16_1 x16_2) else (if x12 = 7 then (spec_l13Op.j1v x1 x3 x12 (x12 == 7) x16_0 x16_1 x16_2) else (if x12 = 8 then (spec_l13Op.j1v x1 x3 x12 (x12 == 8) x16_0 x16_1 x16_2) else (spec_l13Op.j1v x1 x3 x12 (x12 == 35) x16_0 x16_1 x16_2))))) := by
  show lim spec_l13Op.B (.j0 x1 x2 x3 x12 x28 x16_0 x16_1 x16_2) = _
  rw [lim_eq, spec_l13Op.B]
  simp only [ev_ite, ev_opt, ev_ask, ev_to, ev_ret, ev_bad]
  try rfl
theorem spec_l13Op.j1v_eq (x1 : Int) (x3 : Int) (x12 : Int) (x46 : Bool) (x16_0 : Int) (x16_1 : Int) (x16_2 : ByteArray) : spec_l13Op.j1v x1 x3 x12 x46 x16_0 x16_1 x16_2 = (if x46 = true then (if x16_1 ≥ 0 then (if x16_1 < x3 then (some (x16_2.toList == (⟨#[]⟩ : ByteArray).toList)) else (some false)) else (some false)) else (if x12 = 24 then (spec_l13Op.j2v x1 x12 (x12 == 24) x16_0 x16_1 x16_2) else (spec_l13Op.j2v x1 x12 (x12 == 25) x16_0 x16_1 x16_2))) := by
  show lim spec_l13Op.B (.j1 x1 x3 x12 x46 x16_0 x16_1 x16_2) = _
  rw [lim_eq, spec_l13Op.B]
  simp only [ev_ite, ev_opt, ev_ask, ev_to, ev_ret, ev_bad]
  try rfl
theorem spec_l13Op.j2v_eq (x1 : Int) (x12 : Int) (x65 : Bool) (x16_0 : Int) (x16_1 : Int) (x16_2 : ByteArray) : spec_l13Op.j2v x1 x12 x65 x16_0 x16_1 x16_2 = (if x65 = true then ((spec_RexParse.fv x16_2).bind fun t71 => (if t71.2.2.2.2.2 = true then (some (x16_1 == 0)) else (some false))) else (if x12 = 29 then ((spec_l1In.f x16_1 1 3).bind fun t84 => (if t84 = true then ((spec_l7Calls.f).bind fun t86 => ((spec_l7Within.fv t86 x16_2).bind fun t89 => (some t89))) else (some false))) else (if x12 = 30 then (spec_l13Op.j3v x1 x12 (x12 == 30) x16_0 x16_1 x16_2) else (spec_l13Op.j3v x1 x12 (x12 == 31) x16_0 x16_1 x16_2)))) := by
  show lim spec_l13Op.B (.j2 x1 x12 x65 x16_0 x16_1 x16_2) = _
  rw [lim_eq, spec_l13Op.B]
  simp only [ev_ite, ev_opt, ev_ask, ev_to, ev_ret, ev_bad]
  try rfl
theorem spec_l13Op.j3v_eq (x1 : Int) (x12 : Int) (x91 : Bool) (x16_0 : Int) (x16_1 : Int) (x16_2 : ByteArray) : spec_l13Op.j3v x1 x12 x91 x16_0 x16_1 x16_2 = (if x91 = true then ((spec_l1In.f x16_1 0 (wrap64 (x1 - 1))).bind fun t98 => (if t98 = true then (some (x16_2.toList == (⟨#[]⟩ : ByteArray).toList)) else (some false))) else (if x12 = 33 then ((spec_l1In.f x16_1 0 1).bind fun t108 => (if t108 = true then (some (x16_2.toList == (⟨#[]⟩ : ByteArray).toList)) else (some false))) else ((spec_l1In.f x16_0 1 36).bind fun t116 => (if t116 = true then (if x16_1 = 0 then (some (x16_2.toList == (⟨#[]⟩ : ByteArray).toList)) else (some false)) else (some false))))) := by
  show lim spec_l13Op.B (.j3 x1 x12 x91 x16_0 x16_1 x16_2) = _
  rw [lim_eq, spec_l13Op.B]
  simp only [ev_ite, ev_opt, ev_ask, ev_to, ev_ret, ev_bad]
  try rfl
inductive spec_OpsOk.Q where
  | f (l0 : List S81) (a1 : Int) (a2 : Int)
  | j0 (x0 : List S81) (x1 : Int) (x2 : Int) (x7 : Int) (x22 : Bool)
  | l0 (x0 : List S81) (x1 : Int) (x2 : Int) (x7 : Int) (x8 : Int)
def spec_OpsOk.B : spec_OpsOk.Q → Pg spec_OpsOk.Q (fun _ => Bool) (Bool)
  | .f l0 a1 a2 => .opt (spec_l1In.f (l0.length : Int) 1 1500) fun t12 => (if t12 = true then (if 0 ≤ (wrap64 ((l0.length : Int) - 1)) then (if (wrap64 ((l0.length : Int) - 1)) < (l0.length : Int) then (.to (.j0 l0 a1 a2 (l0.length : Int) (((rd_T81 l0 (wrap64 ((l0.length : Int) - 1))).f0 != 36)))) else (.bad)) else (.bad)) else (.to (.j0 l0 a1 a2 (l0.length : Int) true)))
  | .j0 x0 x1 x2 x7 x22 => if x22 = true then (.ret false) else (.to (.l0 x0 x1 x2 x7 0))
  | .l0 x0 x1 x2 x7 x8 => if x8 < x7 then (if 0 ≤ x8 then (if x8 < (x0.length : Int) then (.opt (spec_l13Op.fv ((rd_T81 x0 x8).f0) ((rd_T81 x0 x8).f1) ((rd_T81 x0 x8).f2) x7 x1 x2) fun t35 => (if t35 = true then (.to (.l0 x0 x1 x2 x7 (wrap64 (x8 + 1)))) else (.ret false))) else (.bad)) else (.bad)) else (.ret true)
def spec_OpsOk.fv (l0 : List S81) (a1 : Int) (a2 : Int) : Option (Bool) := lim spec_OpsOk.B (.f l0 a1 a2)
def spec_OpsOk.j0v (x0 : List S81) (x1 : Int) (x2 : Int) (x7 : Int) (x22 : Bool) : Option (Bool) := lim spec_OpsOk.B (.j0 x0 x1 x2 x7 x22)
def spec_OpsOk.l0v (x0 : List S81) (x1 : Int) (x2 : Int) (x7 : Int) (x8 : Int) : Option (Bool) := lim spec_OpsOk.B (.l0 x0 x1 x2 x7 x8)
theorem spec_OpsOk.fv_eq (l0 : List S81) (a1 : Int) (a2 : Int) : spec_OpsOk.fv l0 a1 a2 = ((spec_l1In.f (l0.length : Int) 1 1500).bind fun t12 => (if t12 = true then (if 0 ≤ (wrap64 ((l0.length : Int) - 1)) then (if (wrap64 ((l0.length : Int) - 1)) < (l0.length : Int) then (spec_OpsOk.j0v l0 a1 a2 (l0.length : Int) (((rd_T81 l0 (wrap64 ((l0.length : Int) - 1))).f0 != 36))) else (none)) else (none)) else (spec_OpsOk.j0v l0 a1 a2 (l0.length : Int) true))) := by
  show lim spec_OpsOk.B (.f l0 a1 a2) = _
  rw [lim_eq, spec_OpsOk.B]
  simp only [ev_ite, ev_opt, ev_ask, ev_to, ev_ret, ev_bad]
  try rfl
theorem spec_OpsOk.j0v_eq (x0 : List S81) (x1 : Int) (x2 : Int) (x7 : Int) (x22 : Bool) : spec_OpsOk.j0v x0 x1 x2 x7 x22 = (if x22 = true then (some false) else (spec_OpsOk.l0v x0 x1 x2 x7 0)) := by
  show lim spec_OpsOk.B (.j0 x0 x1 x2 x7 x22) = _
  rw [lim_eq, spec_OpsOk.B]
  simp only [ev_ite, ev_opt, ev_ask, ev_to, ev_ret, ev_bad]
  try rfl
theorem spec_OpsOk.l0v_eq (x0 : List S81) (x1 : Int) (x2 : Int) (x7 : Int) (x8 : Int) : spec_OpsOk.l0v x0 x1 x2 x7 x8 = (if x8 < x7 then (if 0 ≤ x8 then (if x8 < (x0.length : Int) then ((spec_l13Op.fv ((rd_T81 x0 x8).f0) ((rd_T81 x0 x8).f1) ((rd_T81 x0 x8).f2) x7 x1 x2).bind fun t35 => (if t35 = true then (spec_OpsOk.l0v x0 x1 x2 x7 (wrap64 (x8 + 1))) else (some false))) else (none)) else (none)) else (some true)) := by
  show lim spec_OpsOk.B (.l0 x0 x1 x2 x7 x8) = _
  rw [lim_eq, spec_OpsOk.B]
  simp only [ev_ite, ev_opt, ev_ask, ev_to, ev_ret, ev_bad]
  try rfl
inductive spec_ProgOk.Q where
  | f (l0_0 : List ByteArray) (l0_1 : List ByteArray) (l0_2 : List S81) (l0_3 : List S81)
  | l0 (x3 : Int) (x16_0 : List ByteArray) (x16_1 : List ByteArray) (x16_2 : List S81) (x16_3 : List S81)
  | j0 (x3 : Int) (x48 : Bool) (x16_0 : List ByteArray) (x16_1 : List ByteArray) (x16_2 : List S81) (x16_3 : List S81)
  | l1 (x4 : Int) (x16_0 : List ByteArray) (x16_1 : List ByteArray) (x16_2 : List S81) (x16_3 : List S81)
  | j1 (x4 : Int) (x80 : Bool) (x16_0 : List ByteArray) (x16_1 : List ByteArray) (x16_2 : List S81) (x16_3 : List S81)
def spec_ProgOk.B : spec_ProgOk.Q → Pg spec_ProgOk.Q (fun _ => Bool) (Bool)
  | .f l0_0 l0_1 l0_2 l0_3 => .to (.l0 0 l0_0 l0_1 l0_2 l0_3)
  | .l0 x3 x16_0 x16_1 x16_2 x16_3 => if x3 < (x16_0.length : Int) then (if 0 ≤ x3 then (.opt (spec_l9Name.fv (rdOf ByteArray.empty x16_0 x3)) fun t19 => (if t19 = true then (.opt (spec_l7Within.fv x16_1 (rdOf ByteArray.empty x16_0 x3)) fun t29 => (if t29 = true then (.to (.j0 x3 true x16_0 x16_1 x16_2 x16_3)) else (if x3 > 0 then (if 0 ≤ (wrap64 (x3 - 1)) then (if (wrap64 (x3 - 1)) < (x16_0.length : Int) then (.to (.j0 x3 ((!Op.bytesLess (rdOf ByteArray.empty x16_0 (wrap64 (x3 - 1))).toList (rdOf ByteArray.empty x16_0 x3).toList)) x16_0 x16_1 x16_2 x16_3)) else (.bad)) else (.bad)) else (.to (.j0 x3 false x16_0 x16_1 x16_2 x16_3))))) else (.to (.j0 x3 true x16_0 x16_1 x16_2 x16_3)))) else (.bad)) else (.to (.l1 0 x16_0 x16_1 x16_2 x16_3))
  | .j0 x3 x48 x16_0 x16_1 x16_2 x16_3 => if x48 = true then (.ret false) else (.to (.l0 (wrap64 (x3 + 1)) x16_0 x16_1 x16_2 x16_3))
  | .l1 x4 x16_0 x16_1 x16_2 x16_3 => if x4 < (x16_1.length : Int) then (if 0 ≤ x4 then (.opt (spec_l9Name.fv (rdOf ByteArray.empty x16_1 x4)) fun t61 => (if t61 = true then (if x4 > 0 then (if 0 ≤ (wrap64 (x4 - 1)) then (if (wrap64 (x4 - 1)) < (x16_1.length : Int) then (.to (.j1 x4 ((!Op.bytesLess (rdOf ByteArray.empty x16_1 (wrap64 (x4 - 1))).toList (rdOf ByteArray.empty x16_1 x4).toList)) x16_0 x16_1 x16_2 x16_3)) else (.bad)) else (.bad)) else (.to (.j1 x4 false x16_0 x16_1 x16_2 x16_3))) else (.to (.j1 x4 true x16_0 x16_1 x16_2 x16_3)))) else (.bad)) else (if (x16_0.length : Int) ≤ 8 then (if (x16_1.length : Int) ≤ 8 then (.opt (spec_OpsOk.fv x16_2 (x16_0.length : Int) (x16_1.length : Int)) fun t98 => (if t98 = true then (.opt (spec_OpsOk.fv x16_3 (x16_0.length : Int) (x16_1.length : Int)) fun t105 => (.ret t105)) else (.ret false))) else (.ret false)) else (.ret false))
  | .j1 x4 x80 x16_0 x16_1 x16_2 x16_3 => if x80 = true then (.ret false) else (.to (.l1 (wrap64 (x4 + 1)) x16_0 x16_1 x16_2 x16_3))
def spec_ProgOk.fv (l0_0 : List ByteArray) (l0_1 : List ByteArray) (l0_2 : List S81) (l0_3 : List S81) : Option (Bool) := lim spec_ProgOk.B (.f l0_0 l0_1 l0_2 l0_3)
def spec_ProgOk.l0v (x3 : Int) (x16_0 : List ByteArray) (x16_1 : List ByteArray) (x16_2 : List S81) (x16_3 : List S81) : Option (Bool) := lim spec_ProgOk.B (.l0 x3 x16_0 x16_1 x16_2 x16_3)
def spec_ProgOk.j0v (x3 : Int) (x48 : Bool) (x16_0 : List ByteArray) (x16_1 : List ByteArray) (x16_2 : List S81) (x16_3 : List S81) : Option (Bool) := lim spec_ProgOk.B (.j0 x3 x48 x16_0 x16_1 x16_2 x16_3)
def spec_ProgOk.l1v (x4 : Int) (x16_0 : List ByteArray) (x16_1 : List ByteArray) (x16_2 : List S81) (x16_3 : List S81) : Option (Bool) := lim spec_ProgOk.B (.l1 x4 x16_0 x16_1 x16_2 x16_3)
def spec_ProgOk.j1v (x4 : Int) (x80 : Bool) (x16_0 : List ByteArray) (x16_1 : List ByteArray) (x16_2 : List S81) (x16_3 : List S81) : Option (Bool) := lim spec_ProgOk.B (.j1 x4 x80 x16_0 x16_1 x16_2 x16_3)
theorem spec_ProgOk.fv_eq (l0_0 : List ByteArray) (l0_1 : List ByteArray) (l0_2 : List S81) (l0_3 : List S81) : spec_ProgOk.fv l0_0 l0_1 l0_2 l0_3 = (spec_ProgOk.l0v 0 l0_0 l0_1 l0_2 l0_3) := by
  show lim spec_ProgOk.B (.f l0_0 l0_1 l0_2 l0_3) = _
  rw [lim_eq, spec_ProgOk.B]
  simp only [ev_ite, ev_opt, ev_ask, ev_to, ev_ret, ev_bad]
  try rfl
theorem spec_ProgOk.l0v_eq (x3 : Int) (x16_0 : List ByteArray) (x16_1 : List ByteArray) (x16_2 : List S81) (x16_3 : List S81) : spec_ProgOk.l0v x3 x16_0 x16_1 x16_2 x16_3 = (if x3 < (x16_0.length : Int) then (if 0 ≤ x3 then ((spec_l9Name.fv (rdOf ByteArray.empty x16_0 x3)).bind fun t19 => (if t19 = true then ((spec_l7Within.fv x16_1 (rdOf ByteArray.empty x16_0 x3)).bind fun t29 => (if t29 = true then (spec_ProgOk.j0v x3 true x16_0 x16_1 x16_2 x16_3) else (if x3 > 0 then (if 0 ≤ (wrap64 (x3 - 1)) then (if (wrap64 (x3 - 1)) < (x16_0.length : Int) then (spec_ProgOk.j0v x3 ((!Op.bytesLess (rdOf ByteArray.empty x16_0 (wrap64 (x3 - 1))).toList (rdOf ByteArray.empty x16_0 x3).toList)) x16_0 x16_1 x16_2 x16_3) else (none)) else (none)) else (spec_ProgOk.j0v x3 false x16_0 x16_1 x16_2 x16_3)))) else (spec_ProgOk.j0v x3 true x16_0 x16_1 x16_2 x16_3))) else (none)) else (spec_ProgOk.l1v 0 x16_0 x16_1 x16_2 x16_3)) := by
  show lim spec_ProgOk.B (.l0 x3 x16_0 x16_1 x16_2 x16_3) = _
  rw [lim_eq, spec_ProgOk.B]
  simp only [ev_ite, ev_opt, ev_ask, ev_to, ev_ret, ev_bad]
  try rfl
theorem spec_ProgOk.j0v_eq (x3 : Int) (x48 : Bool) (x16_0 : List ByteArray) (x16_1 : List ByteArray) (x16_2 : List S81) (x16_3 : List S81) : spec_ProgOk.j0v x3 x48 x16_0 x16_1 x16_2 x16_3 = (if x48 = true then (some false) else (spec_ProgOk.l0v (wrap64 (x3 + 1)) x16_0 x16_1 x16_2 x16_3)) := by
  show lim spec_ProgOk.B (.j0 x3 x48 x16_0 x16_1 x16_2 x16_3) = _
  rw [lim_eq, spec_ProgOk.B]
  simp only [ev_ite, ev_opt, ev_ask, ev_to, ev_ret, ev_bad]
  try rfl
theorem spec_ProgOk.l1v_eq (x4 : Int) (x16_0 : List ByteArray) (x16_1 : List ByteArray) (x16_2 : List S81) (x16_3 : List S81) : spec_ProgOk.l1v x4 x16_0 x16_1 x16_2 x16_3 = (if x4 < (x16_1.length : Int) then (if 0 ≤ x4 then ((spec_l9Name.fv (rdOf ByteArray.empty x16_1 x4)).bind fun t61 => (if t61 = true then (if x4 > 0 then (if 0 ≤ (wrap64 (x4 - 1)) then (if (wrap64 (x4 - 1)) < (x16_1.length : Int) then (spec_ProgOk.j1v x4 ((!Op.bytesLess (rdOf ByteArray.empty x16_1 (wrap64 (x4 - 1))).toList (rdOf ByteArray.empty x16_1 x4).toList)) x16_0 x16_1 x16_2 x16_3) else (none)) else (none)) else (spec_ProgOk.j1v x4 false x16_0 x16_1 x16_2 x16_3)) else (spec_ProgOk.j1v x4 true x16_0 x16_1 x16_2 x16_3))) else (none)) else (if (x16_0.length : Int) ≤ 8 then (if (x16_1.length : Int) ≤ 8 then ((spec_OpsOk.fv x16_2 (x16_0.length : Int) (x16_1.length : Int)).bind fun t98 => (if t98 = true then ((spec_OpsOk.fv x16_3 (x16_0.length : Int) (x16_1.length : Int)).bind fun t105 => (some t105)) else (some false))) else (some false)) else (some false))) := by
  show lim spec_ProgOk.B (.l1 x4 x16_0 x16_1 x16_2 x16_3) = _
  rw [lim_eq, spec_ProgOk.B]
  simp only [ev_ite, ev_opt, ev_ask, ev_to, ev_ret, ev_bad]
  try rfl
theorem spec_ProgOk.j1v_eq (x4 : Int) (x80 : Bool) (x16_0 : List ByteArray) (x16_1 : List ByteArray) (x16_2 : List S81) (x16_3 : List S81) : spec_ProgOk.j1v x4 x80 x16_0 x16_1 x16_2 x16_3 = (if x80 = true then (some false) else (spec_ProgOk.l1v (wrap64 (x4 + 1)) x16_0 x16_1 x16_2 x16_3)) := by
  show lim spec_ProgOk.B (.j1 x4 x80 x16_0 x16_1 x16_2 x16_3) = _
  rw [lim_eq, spec_ProgOk.B]
  simp only [ev_ite, ev_opt, ev_ask, ev_to, ev_ret, ev_bad]
  try rfl
def spec_l2Digit.f (a0 : Int) : Option (Bool) := if a0 ≥ 48 then (some (decide (a0 ≤ 57))) else (some false)
inductive spec_DecFront.Q where
  | f (a0 : ByteArray)
  | j1 (x0 : ByteArray) (x4 : Int)
  | l0 (x0 : ByteArray) (x4 : Int)
  | j2 (x0 : ByteArray) (x4 : Int) (x5 : Bool)
  | j4 (x0 : ByteArray) (x4 : Int) (x5 : Bool)
  | j3 (x0 : ByteArray) (x4 : Int) (x5 : Bool) (x46 : Bool)
  | l1 (x0 : ByteArray) (x4 : Int) (x5 : Bool) (x6 : Int) (x7 : Int)
  | j6 (x0 : ByteArray) (x4 : Int) (x5 : Bool) (x6 : Int) (x7 : Int) (x58 : Bool)
  | j9 (x4 : Int) (x5 : Bool) (x6 : Int) (x7 : Int)
  | j7 (x0 : ByteArray) (x4 : Int) (x5 : Bool) (x6 : Int) (x7 : Int) (x91 : Bool)
  | l2 (x0 : ByteArray) (x4 : Int) (x5 : Bool) (x6 : Int) (x7 : Int) (x8 : Int)
  | j10 (x4 : Int) (x5 : Bool) (x6 : Int) (x124 : Bool)
def spec_DecFront.B : spec_DecFront.Q → Pg spec_DecFront.Q (fun _ => Int × Int) (Int × Int)
  | .f a0 => .to (.l0 a0 0)
  | .j1 x0 x4 => if x4 < (x0.size : Int) then (if 0 ≤ x4 then (.to (.j2 x0 x4 ((bt x0 x4) == 45))) else (.bad)) else (.to (.j2 x0 x4 false))
  | .l0 x0 x4 => if x4 < (x0.size : Int) then (if 0 ≤ x4 then (if (bt x0 x4) = 32 then (.to (.l0 x0 (wrap64 (x4 + 1)))) else (.to (.j1 x0 x4))) else (.bad)) else (.to (.j1 x0 x4))
  | .j2 x0 x4 x5 => if x4 < (x0.size : Int) then (if 0 ≤ x4 then (if (bt x0 x4) = 45 then (.to (.j3 x0 x4 x5 true)) else (.to (.j3 x0 x4 x5 ((bt x0 x4) == 43)))) else (.bad)) else (.to (.j3 x0 x4 x5 false))
  | .j4 x0 x4 x5 => .to (.l1 x0 x4 x5 0 0)
  | .j3 x0 x4 x5 x46 => if x46 = true then (.to (.j4 x0 (wrap64 (x4 + 1)) x5)) else (.to (.j4 x0 x4 x5))
  | .l1 x0 x4 x5 x6 x7 => if x4 < (x0.size : Int) then (if 0 ≤ x4 then (.opt (spec_l2Digit.f (bt x0 x4)) fun t57 => (.to (.j6 x0 x4 x5 x6 x7 t57))) else (.bad)) else (.to (.j6 x0 x4 x5 x6 x7 false))
  | .j6 x0 x4 x5 x6 x7 x58 => if x58 = true then (if x6 ≤ 9000000000000 then (if 0 ≤ x4 then (if x4 < (x0.size : Int) then (.to (.l1 x0 (wrap64 (x4 + 1)) x5 ((wrap64 ((wrap64 (10 * x6)) + (wrap64 ((wrap64 ((wrap64 (bt x0 x4)) - 48)) * 1000000))))) (wrap64 (x7 + 1)))) else (.bad)) else (.bad)) else (.to (.l1 x0 (wrap64 (x4 + 1)) x5 x6 (wrap64 (x7 + 1))))) else (if (wrap64 (x4 + 1)) < (x0.size : Int) then (if 0 ≤ x4 then (if x4 < (x0.size : Int) then (if (bt x0 x4) = 46 then (if 0 ≤ (wrap64 (x4 + 1)) then (.opt (spec_l2Digit.f ((bt x0 (wrap64 (x4 + 1))))) fun t90 => (.to (.j7 x0 x4 x5 x6 x7 t90))) else (.bad)) else (.to (.j7 x0 x4 x5 x6 x7 false))) else (.bad)) else (.bad)) else (.to (.j7 x0 x4 x5 x6 x7 false)))
  | .j9 x4 x5 x6 x7 => if x7 = 0 then (.to (.j10 x4 x5 x6 true)) else (.to (.j10 x4 x5 x6 (decide (x6 > 9000000000000))))
  | .j7 x0 x4 x5 x6 x7 x91 => if x91 = true then (.to (.l2 x0 (wrap64 (x4 + 1)) x5 x6 x7 100000)) else (.to (.j9 x4 x5 x6 x7))
  | .l2 x0 x4 x5 x6 x7 x8 => if x4 < (x0.size : Int) then (if 0 ≤ x4 then (.opt (spec_l2Digit.f (bt x0 x4)) fun t102 => (if t102 = true then (.to (.l2 x0 (wrap64 (x4 + 1)) x5 ((wrap64 (x6 + (wrap64 ((wrap64 ((wrap64 (bt x0 x4)) - 48)) * x8))))) (wrap64 (x7 + 1)) (wrap64 (Int.tdiv x8 10)))) else (.to (.j9 x4 x5 x6 x7)))) else (.bad)) else (.to (.j9 x4 x5 x6 x7))
  | .j10 x4 x5 x6 x124 => if x124 = true then (.ret (0, 0)) else (if x5 = true then (.ret ((wrap64 (0 - x6)), x4)) else (.ret (x6, x4)))
def spec_DecFront.fv (a0 : ByteArray) : Option (Int × Int) := lim spec_DecFront.B (.f a0)
def spec_DecFront.j1v (x0 : ByteArray) (x4 : Int) : Option (Int × Int) := lim spec_DecFront.B (.j1 x0 x4)
def spec_DecFront.l0v (x0 : ByteArray) (x4 : Int) : Option (Int × Int) := lim spec_DecFront.B (.l0 x0 x4)
def spec_DecFront.j2v (x0 : ByteArray) (x4 : Int) (x5 : Bool) : Option (Int × Int) := lim spec_DecFront.B (.j2 x0 x4 x5)
def spec_DecFront.j4v (x0 : ByteArray) (x4 : Int) (x5 : Bool) : Option (Int × Int) := lim spec_DecFront.B (.j4 x0 x4 x5)
def spec_DecFront.j3v (x0 : ByteArray) (x4 : Int) (x5 : Bool) (x46 : Bool) : Option (Int × Int) := lim spec_DecFront.B (.j3 x0 x4 x5 x46)
def spec_DecFront.l1v (x0 : ByteArray) (x4 : Int) (x5 : Bool) (x6 : Int) (x7 : Int) : Option (Int × Int) := lim spec_DecFront.B (.l1 x0 x4 x5 x6 x7)
def spec_DecFront.j6v (x0 : ByteArray) (x4 : Int) (x5 : Bool) (x6 : Int) (x7 : Int) (x58 : Bool) : Option (Int × Int) := lim spec_DecFront.B (.j6 x0 x4 x5 x6 x7 x58)
def spec_DecFront.j9v (x4 : Int) (x5 : Bool) (x6 : Int) (x7 : Int) : Option (Int × Int) := lim spec_DecFront.B (.j9 x4 x5 x6 x7)
def spec_DecFront.j7v (x0 : ByteArray) (x4 : Int) (x5 : Bool) (x6 : Int) (x7 : Int) (x91 : Bool) : Option (Int × Int) := lim spec_DecFront.B (.j7 x0 x4 x5 x6 x7 x91)
def spec_DecFront.l2v (x0 : ByteArray) (x4 : Int) (x5 : Bool) (x6 : Int) (x7 : Int) (x8 : Int) : Option (Int × Int) := lim spec_DecFront.B (.l2 x0 x4 x5 x6 x7 x8)
def spec_DecFront.j10v (x4 : Int) (x5 : Bool) (x6 : Int) (x124 : Bool) : Option (Int × Int) := lim spec_DecFront.B (.j10 x4 x5 x6 x124)
theorem spec_DecFront.fv_eq (a0 : ByteArray) : spec_DecFront.fv a0 = (spec_DecFront.l0v a0 0) := by
  show lim spec_DecFront.B (.f a0) = _
  rw [lim_eq, spec_DecFront.B]
  simp only [ev_ite, ev_opt, ev_ask, ev_to, ev_ret, ev_bad]
  try rfl
theorem spec_DecFront.j1v_eq (x0 : ByteArray) (x4 : Int) : spec_DecFront.j1v x0 x4 = (if x4 < (x0.size : Int) then (if 0 ≤ x4 then (spec_DecFront.j2v x0 x4 ((bt x0 x4) == 45)) else (none)) else (spec_DecFront.j2v x0 x4 false)) := by
  show lim spec_DecFront.B (.j1 x0 x4) = _
  rw [lim_eq, spec_DecFront.B]
  simp only [ev_ite, ev_opt, ev_ask, ev_to, ev_ret, ev_bad]
  try rfl
theorem spec_DecFront.l0v_eq (x0 : ByteArray) (x4 : Int) : spec_DecFront.l0v x0 x4 = (if x4 < (x0.size : Int) then (if 0 ≤ x4 then (if (bt x0 x4) = 32 then (spec_DecFront.l0v x0 (wrap64 (x4 + 1))) else (spec_DecFront.j1v x0 x4)) else (none)) else (spec_DecFront.j1v x0 x4)) := by
  show lim spec_DecFront.B (.l0 x0 x4) = _
  rw [lim_eq, spec_DecFront.B]
  simp only [ev_ite, ev_opt, ev_ask, ev_to, ev_ret, ev_bad]
  try rfl
theorem spec_DecFront.j2v_eq (x0 : ByteArray) (x4 : Int) (x5 : Bool) : spec_DecFront.j2v x0 x4 x5 = (if x4 < (x0.size : Int) then (if 0 ≤ x4 then (if (bt x0 x4) = 45 then (spec_DecFront.j3v x0 x4 x5 true) else (spec_DecFront.j3v x0 x4 x5 ((bt x0 x4) == 43))) else (none)) else (spec_DecFront.j3v x0 x4 x5 false)) := by
  show lim spec_DecFront.B (.j2 x0 x4 x5) = _
  rw [lim_eq, spec_DecFront.B]
  simp only [ev_ite, ev_opt, ev_ask, ev_to, ev_ret, ev_bad]
  try rfl
theorem spec_DecFront.j4v_eq (x0 : ByteArray) (x4 : Int) (x5 : Bool) : spec_DecFront.j4v x0 x4 x5 = (spec_DecFront.l1v x0 x4 x5 0 0) := by
  show lim spec_DecFront.B (.j4 x0 x4 x5) = _
  rw [lim_eq, spec_DecFront.B]
  simp only [ev_ite, ev_opt, ev_ask, ev_to, ev_ret, ev_bad]
  try rfl
theorem spec_DecFront.j3v_eq (x0 : ByteArray) (x4 : Int) (x5 : Bool) (x46 : Bool) : spec_DecFront.j3v x0 x4 x5 x46 = (if x46 = true then (spec_DecFront.j4v x0 (wrap64 (x4 + 1)) x5) else (spec_DecFront.j4v x0 x4 x5)) := by
  show lim spec_DecFront.B (.j3 x0 x4 x5 x46) = _
  rw [lim_eq, spec_DecFront.B]
  simp only [ev_ite, ev_opt, ev_ask, ev_to, ev_ret, ev_bad]
  try rfl
theorem spec_DecFront.l1v_eq (x0 : ByteArray) (x4 : Int) (x5 : Bool) (x6 : Int) (x7 : Int) : spec_DecFront.l1v x0 x4 x5 x6 x7 = (if x4 < (x0.size : Int) then (if 0 ≤ x4 then ((spec_l2Digit.f (bt x0 x4)).bind fun t57 => (spec_DecFront.j6v x0 x4 x5 x6 x7 t57)) else (none)) else (spec_DecFront.j6v x0 x4 x5 x6 x7 false)) := by
  show lim spec_DecFront.B (.l1 x0 x4 x5 x6 x7) = _
  rw [lim_eq, spec_DecFront.B]
  simp only [ev_ite, ev_opt, ev_ask, ev_to, ev_ret, ev_bad]
  try rfl
theorem spec_DecFront.j6v_eq (x0 : ByteArray) (x4 : Int) (x5 : Bool) (x6 : Int) (x7 : Int) (x58 : Bool) : spec_DecFront.j6v x0 x4 x5 x6 x7 x58 = (if x58 = true then (if x6 ≤ 9000000000000 then (if 0 ≤ x4 then (if x4 < (x0.size : Int) then (spec_DecFront.l1v x0 (wrap64 (x4 + 1)) x5 ((wrap64 ((wrap64 (10 * x6)) + (wrap64 ((wrap64 ((wrap64 (bt x0 x4)) - 48)) * 1000000))))) (wrap64 (x7 + 1))) else (none)) else (none)) else (spec_DecFront.l1v x0 (wrap64 (x4 + 1)) x5 x6 (wrap64 (x7 + 1)))) else (if (wrap64 (x4 + 1)) < (x0.size : Int) then (if 0 ≤ x4 then (if x4 < (x0.size : Int) then (if (bt x0 x4) = 46 then (if 0 ≤ (wrap64 (x4 + 1)) then ((spec_l2Digit.f ((bt x0 (wrap64 (x4 + 1))))).bind fun t90 => (spec_DecFront.j7v x0 x4 x5 x6 x7 t90)) else (none)) else (spec_DecFront.j7v x0 x4 x5 x6 x7 false)) else (none)) else (none)) else (spec_DecFront.j7v x0 x4 x5 x6 x7 false))) := by
  show lim spec_DecFront.B (.j6 x0 x4 x5 x6 x7 x58) = _
  rw [lim_eq, spec_DecFront.B]
  simp only [ev_ite, ev_opt, ev_ask, ev_to, ev_ret, ev_bad]
  try rfl
theorem spec_DecFront.j9v_eq (x4 : Int) (x5 : Bool) (x6 : Int) (x7 : Int) : spec_DecFront.j9v x4 x5 x6 x7 = (if x7 = 0 then (spec_DecFront.j10v x4 x5 x6 true) else (spec_DecFront.j10v x4 x5 x6 (decide (x6 > 9000000000000)))) := by
  show lim spec_DecFront.B (.j9 x4 x5 x6 x7) = _
  rw [lim_eq, spec_DecFront.B]
  simp only [ev_ite, ev_opt, ev_ask, ev_to, ev_ret, ev_bad]
  try rfl
theorem spec_DecFront.j7v_eq (x0 : ByteArray) (x4 : Int) (x5 : Bool) (x6 : Int) (x7 : Int) (x91 : Bool) : spec_DecFront.j7v x0 x4 x5 x6 x7 x91 = (if x91 = true then (spec_DecFront.l2v x0 (wrap64 (x4 + 1)) x5 x6 x7 100000) else (spec_DecFront.j9v x4 x5 x6 x7)) := by
  show lim spec_DecFront.B (.j7 x0 x4 x5 x6 x7 x91) = _
  rw [lim_eq, spec_DecFront.B]
  simp only [ev_ite, ev_opt, ev_ask, ev_to, ev_ret, ev_bad]
  try rfl
theorem spec_DecFront.l2v_eq (x0 : ByteArray) (x4 : Int) (x5 : Bool) (x6 : Int) (x7 : Int) (x8 : Int) : spec_DecFront.l2v x0 x4 x5 x6 x7 x8 = (if x4 < (x0.size : Int) then (if 0 ≤ x4 then ((spec_l2Digit.f (bt x0 x4)).bind fun t102 => (if t102 = true then (spec_DecFront.l2v x0 (wrap64 (x4 + 1)) x5 ((wrap64 (x6 + (wrap64 ((wrap64 ((wrap64 (bt x0 x4)) - 48)) * x8))))) (wrap64 (x7 + 1)) (wrap64 (Int.tdiv x8 10))) else (spec_DecFront.j9v x4 x5 x6 x7))) else (none)) else (spec_DecFront.j9v x4 x5 x6 x7)) := by
  show lim spec_DecFront.B (.l2 x0 x4 x5 x6 x7 x8) = _
  rw [lim_eq, spec_DecFront.B]
  simp only [ev_ite, ev_opt, ev_ask, ev_to, ev_ret, ev_bad]
  try rfl
theorem spec_DecFront.j10v_eq (x4 : Int) (x5 : Bool) (x6 : Int) (x124 : Bool) : spec_DecFront.j10v x4 x5 x6 x124 = (if x124 = true then (some (0, 0)) else (if x5 = true then (some ((wrap64 (0 - x6)), x4)) else (some (x6, x4)))) := by
  show lim spec_DecFront.B (.j10 x4 x5 x6 x124) = _
  rw [lim_eq, spec_DecFront.B]
  simp only [ev_ite, ev_opt, ev_ask, ev_to, ev_ret, ev_bad]
  try rfl
inductive spec_DecLooks.Q where
  | f (a0 : ByteArray)
  | l0 (x0 : ByteArray) (x4 : Int) (x5 : Int)
def spec_DecLooks.B : spec_DecLooks.Q → Pg spec_DecLooks.Q (fun _ => Int × Bool) (Int × Bool)
  | .f a0 => .opt (spec_DecFront.fv a0) fun t8 => (if t8.2 = 0 then (.ret (0, false)) else (.to (.l0 a0 t8.1 t8.2)))
  | .l0 x0 x4 x5 => if x5 < (x0.size : Int) then (if 0 ≤ x5 then (if (bt x0 x5) = 32 then (.to (.l0 x0 x4 (wrap64 (x5 + 1)))) else (.ret (0, false))) else (.bad)) else (.ret (x4, true))
def spec_DecLooks.fv (a0 : ByteArray) : Option (Int × Bool) := lim spec_DecLooks.B (.f a0)
def spec_DecLooks.l0v (x0 : ByteArray) (x4 : Int) (x5 : Int) : Option (Int × Bool) := lim spec_DecLooks.B (.l0 x0 x4 x5)
theorem spec_DecLooks.fv_eq (a0 : ByteArray) : spec_DecLooks.fv a0 = ((spec_DecFront.fv a0).bind fun t8 => (if t8.2 = 0 then (some (0, false)) else (spec_DecLooks.l0v a0 t8.1 t8.2))) := by
  show lim spec_DecLooks.B (.f a0) = _
  rw [lim_eq, spec_DecLooks.B]
  simp only [ev_ite, ev_opt, ev_ask, ev_to, ev_ret, ev_bad]
  try rfl
theorem spec_DecLooks.l0v_eq (x0 : ByteArray) (x4 : Int) (x5 : Int) : spec_DecLooks.l0v x0 x4 x5 = (if x5 < (x0.size : Int) then (if 0 ≤ x5 then (if (bt x0 x5) = 32 then (spec_DecLooks.l0v x0 x4 (wrap64 (x5 + 1))) else (some (0, false))) else (none)) else (some (x4, true))) := by
  show lim spec_DecLooks.B (.l0 x0 x4 x5) = _
  rw [lim_eq, spec_DecLooks.B]
  simp only [ev_ite, ev_opt, ev_ask, ev_to, ev_ret, ev_bad]
  try rfl
inductive spec_ValOk.Q where
  | f (a0_0 : Int) (a0_1 : Int) (a0_2 : ByteArray)
  | j0 (x20 : Bool) (x16_0 : Int) (x16_1 : Int) (x16_2 : ByteArray)
def spec_ValOk.B : spec_ValOk.Q → Pg spec_ValOk.Q (fun _ => Bool) (Bool)
  | .f a0_0 a0_1 a0_2 => .opt (spec_l1In.f a0_0 0 3) fun t7 => (if t7 = true then (.opt (spec_DecOk.f a0_1) fun t12 => (if t12 = true then (.to (.j0 ((decide ((a0_2.size : Int) > 300))) a0_0 a0_1 a0_2)) else (.to (.j0 true a0_0 a0_1 a0_2)))) else (.to (.j0 true a0_0 a0_1 a0_2)))
  | .j0 x20 x16_0 x16_1 x16_2 => if x20 = true then (.ret false) else (if x16_0 = 0 then (if x16_1 = 0 then (.ret (x16_2.toList == (⟨#[]⟩ : ByteArray).toList)) else (.ret false)) else (if x16_0 = 1 then (.ret (x16_2.toList == (⟨#[]⟩ : ByteArray).toList)) else (if x16_0 = 2 then (.ret (x16_1 == 0)) else (.opt (spec_DecLooks.fv x16_2) fun t46 => (if t46.2 = true then (.ret (t46.1 == x16_1)) else (.ret false))))))
def spec_ValOk.fv (a0_0 : Int) (a0_1 : Int) (a0_2 : ByteArray) : Option (Bool) := lim spec_ValOk.B (.f a0_0 a0_1 a0_2)
def spec_ValOk.j0v (x20 : Bool) (x16_0 : Int) (x16_1 : Int) (x16_2 : ByteArray) : Option (Bool) := lim spec_ValOk.B (.j0 x20 x16_0 x16_1 x16_2)
theorem spec_ValOk.fv_eq (a0_0 : Int) (a0_1 : Int) (a0_2 : ByteArray) : spec_ValOk.fv a0_0 a0_1 a0_2 = ((spec_l1In.f a0_0 0 3).bind fun t7 => (if t7 = true then ((spec_DecOk.f a0_1).bind fun t12 => (if t12 = true then (spec_ValOk.j0v ((decide ((a0_2.size : Int) > 300))) a0_0 a0_1 a0_2) else (spec_ValOk.j0v true a0_0 a0_1 a0_2))) else (spec_ValOk.j0v true a0_0 a0_1 a0_2))) := by
  show lim spec_ValOk.B (.f a0_0 a0_1 a0_2) = _
  rw [lim_eq, spec_ValOk.B]
  simp only [ev_ite, ev_opt, ev_ask, ev_to, ev_ret, ev_bad]
  try rfl
theorem spec_ValOk.j0v_eq (x20 : Bool) (x16_0 : Int) (x16_1 : Int) (x16_2 : ByteArray) : spec_ValOk.j0v x20 x16_0 x16_1 x16_2 = (if x20 = true then (some false) else (if x16_0 = 0 then (if x16_1 = 0 then (some (x16_2.toList == (⟨#[]⟩ : ByteArray).toList)) else (some false)) else (if x16_0 = 1 then (some (x16_2.toList == (⟨#[]⟩ : ByteArray).toList)) else (if x16_0 = 2 then (some (x16_1 == 0)) else ((spec_DecLooks.fv x16_2).bind fun t46 => (if t46.2 = true then (some (t46.1 == x16_1)) else (some false))))))) := by
  show lim spec_ValOk.B (.j0 x20 x16_0 x16_1 x16_2) = _
  rw [lim_eq, spec_ValOk.B]
  simp only [ev_ite, ev_opt, ev_ask, ev_to, ev_ret, ev_bad]
  try rfl
def spec_l11Less.f (a0_0 : Int) (a0_1 : ByteArray) (a0_2 : Int) (a0_3 : Int) (a0_4 : ByteArray) (a1 : Int) (a2 : ByteArray) : Option (Bool) := if a0_0 < a1 then (some true) else (if a0_0 = a1 then (some (Op.bytesLess a0_1.toList a2.toList)) else (some false))
inductive spec_StateOk.Q where
  | f (l0_0 : List S77) (l0_1 : List S79) (a0_2 : Int) (a0_3 : Int) (a1 : Int) (a2 : Int)
  | l0 (x1 : Int) (x2 : Int) (x7 : Int) (x16_0 : List S77) (x16_1 : List S79) (x16_2 : Int) (x16_3 : Int)
  | l1 (x1 : Int) (x2 : Int) (x8 : Int) (x16_0 : List S77) (x16_1 : List S79) (x16_2 : Int) (x16_3 : Int)
def spec_StateOk.B : spec_StateOk.Q → Pg spec_StateOk.Q (fun _ => Bool) (Bool)
  | .f l0_0 l0_1 a0_2 a0_3 a1 a2 => .to (.l0 a1 a2 0 l0_0 l0_1 a0_2 a0_3)
  | .l0 x1 x2 x7 x16_0 x16_1 x16_2 x16_3 => if x7 < (x16_0.length : Int) then (if 0 ≤ x7 then (.opt (spec_ValOk.fv ((rd_T77 x16_0 x7).f0) ((rd_T77 x16_0 x7).f1) ((rd_T77 x16_0 x7).f2)) fun t22 => (if t22 = true then (.to (.l0 x1 x2 (wrap64 (x7 + 1)) x16_0 x16_1 x16_2 x16_3)) else (.ret false))) else (.bad)) else (.to (.l1 x1 x2 0 x16_0 x16_1 x16_2 x16_3))
  | .l1 x1 x2 x8 x16_0 x16_1 x16_2 x16_3 => if x8 < (x16_1.length : Int) then (if 0 ≤ x8 then (if (rd_T79 x16_1 x8).f0 < 0 then (.ret false) else (if (rd_T79 x16_1 x8).f0 ≥ x2 then (.ret false) else (if ((rd_T79 x16_1 x8).f1.size : Int) > 300 then (.ret false) else (.opt (spec_ValOk.fv ((rd_T79 x16_1 x8).f2) ((rd_T79 x16_1 x8).f3) ((rd_T79 x16_1 x8).f4)) fun t54 => (if t54 = true then (if x8 > 0 then (if 0 ≤ (wrap64 (x8 - 1)) then (if (wrap64 (x8 - 1)) < (x16_1.length : Int) then (.opt (spec_l11Less.f ((rd_T79 x16_1 (wrap64 (x8 - 1))).f0) ((rd_T79 x16_1 (wrap64 (x8 - 1))).f1) ((rd_T79 x16_1 (wrap64 (x8 - 1))).f2) ((rd_T79 x16_1 (wrap64 (x8 - 1))).f3) ((rd_T79 x16_1 (wrap64 (x8 - 1))).f4) ((rd_T79 x16_1 x8).f0) ((rd_T79 x16_1 x8).f1)) fun t71 => (if t71 = true then (.to (.l1 x1 x2 (wrap64 (x8 + 1)) x16_0 x16_1 x16_2 x16_3)) else (.ret false))) else (.bad)) else (.bad)) else (.to (.l1 x1 x2 (wrap64 (x8 + 1)) x16_0 x16_1 x16_2 x16_3))) else (.ret false)))))) else (.bad)) else (if (x16_0.length : Int) = x1 then (if (x16_1.length : Int) ≤ 40 then (.opt (spec_l1In.f x16_2 0 1000000) fun t89 => (if t89 = true then (.opt (spec_l1In.f x16_3 0 7) fun t94 => (.ret t94)) else (.ret false))) else (.ret false)) else (.ret false))
def spec_StateOk.fv (l0_0 : List S77) (l0_1 : List S79) (a0_2 : Int) (a0_3 : Int) (a1 : Int) (a2 : Int) : Option (Bool) := lim spec_StateOk.B (.f l0_0 l0_1 a0_2 a0_3 a1 a2)
def spec_StateOk.l0v (x1 : Int) (x2 : Int) (x7 : Int) (x16_0 : List S77) (x16_1 : List S79) (x16_2 : Int) (x16_3 : Int) : Option (Bool) := lim spec_StateOk.B (.l0 x1 x2 x7 x16_0 x16_1 x16_2 x16_3)
def spec_StateOk.l1v (x1 : Int) (x2 : Int) (x8 : Int) (x16_0 : List S77) (x16_1 : List S79) (x16_2 : Int) (x16_3 : Int) : Option (Bool) := lim spec_StateOk.B (.l1 x1 x2 x8 x16_0 x16_1 x16_2 x16_3)
theorem spec_StateOk.fv_eq (l0_0 : List S77) (l0_1 : List S79) (a0_2 : Int) (a0_3 : Int) (a1 : Int) (a2 : Int) : spec_StateOk.fv l0_0 l0_1 a0_2 a0_3 a1 a2 = (spec_StateOk.l0v a1 a2 0 l0_0 l0_1 a0_2 a0_3) := by
  show lim spec_StateOk.B (.f l0_0 l0_1 a0_2 a0_3 a1 a2) = _
  rw [lim_eq, spec_StateOk.B]
  simp only [ev_ite, ev_opt, ev_ask, ev_to, ev_ret, ev_bad]
  try rfl
theorem spec_StateOk.l0v_eq (x1 : Int) (x2 : Int) (x7 : Int) (x16_0 : List S77) (x16_1 : List S79) (x16_2 : Int) (x16_3 : Int) : spec_StateOk.l0v x1 x2 x7 x16_0 x16_1 x16_2 x16_3 = (if x7 < (x16_0.length : Int) then (if 0 ≤ x7 then ((spec_ValOk.fv ((rd_T77 x16_0 x7).f0) ((rd_T77 x16_0 x7).f1) ((rd_T77 x16_0 x7).f2)).bind fun t22 => (if t22 = true then (spec_StateOk.l0v x1 x2 (wrap64 (x7 + 1)) x16_0 x16_1 x16_2 x16_3) else (some false))) else (none)) else (spec_StateOk.l1v x1 x2 0 x16_0 x16_1 x16_2 x16_3)) := by
  show lim spec_StateOk.B (.l0 x1 x2 x7 x16_0 x16_1 x16_2 x16_3) = _
  rw [lim_eq, spec_StateOk.B]
  simp only [ev_ite, ev_opt, ev_ask, ev_to, ev_ret, ev_bad]
  try rfl
theorem spec_StateOk.l1v_eq (x1 : Int) (x2 : Int) (x8 : Int) (x16_0 : List S77) (x16_1 : List S79) (x16_2 : Int) (x16_3 : Int) : spec_StateOk.l1v x1 x2 x8 x16_0 x16_1 x16_2 x16_3 = (if x8 < (x16_1.length : Int) then (if 0 ≤ x8 then (if (rd_T79 x16_1 x8).f0 < 0 then (some false) else (if (rd_T79 x16_1 x8).f0 ≥ x2 then (some false) else (if ((rd_T79 x16_1 x8).f1.size : Int) > 300 then (some false) else ((spec_ValOk.fv ((rd_T79 x16_1 x8).f2) ((rd_T79 x16_1 x8).f3) ((rd_T79 x16_1 x8).f4)).bind fun t54 => (if t54 = true then (if x8 > 0 then (if 0 ≤ (wrap64 (x8 - 1)) then (if (wrap64 (x8 - 1)) < (x16_1.length : Int) then ((spec_l11Less.f ((rd_T79 x16_1 (wrap64 (x8 - 1))).f0) ((rd_T79 x16_1 (wrap64 (x8 - 1))).f1) ((rd_T79 x16_1 (wrap64 (x8 - 1))).f2) ((rd_T79 x16_1 (wrap64 (x8 - 1))).f3) ((rd_T79 x16_1 (wrap64 (x8 - 1))).f4) ((rd_T79 x16_1 x8).f0) ((rd_T79 x16_1 x8).f1)).bind fun t71 => (if t71 = true then (spec_StateOk.l1v x1 x2 (wrap64 (x8 + 1)) x16_0 x16_1 x16_2 x16_3) else (some false))) else (none)) else (none)) else (spec_StateOk.l1v x1 x2 (wrap64 (x8 + 1)) x16_0 x16_1 x16_2 x16_3)) else (some false)))))) else (none)) else (if (x16_0.length : Int) = x1 then (if (x16_1.length : Int) ≤ 40 then ((spec_l1In.f x16_2 0 1000000).bind fun t89 => (if t89 = true then ((spec_l1In.f x16_3 0 7).bind fun t94 => (some t94)) else (some false))) else (some false)) else (some false))) := by
  show lim spec_StateOk.B (.l1 x1 x2 x8 x16_0 x16_1 x16_2 x16_3) = _
  rw [lim_eq, spec_StateOk.B]
  simp only [ev_ite, ev_opt, ev_ask, ev_to, ev_ret, ev_bad]
  try rfl
inductive spec_MachOk.Q where
  | f (l0_0 : List ByteArray) (l0_1 : List ByteArray) (l0_2 : List S81) (l0_3 : List S81) (l1_0 : List S77) (l1_1 : List S79) (a1_2 : Int) (a1_3 : Int) (l1_4 : List Int) (a1_5 : ByteArray)
  | l0 (x5 : Int) (x16_0 : List ByteArray) (x16_1 : List ByteArray) (x16_2 : List S81) (x16_3 : List S81) (x17_0 : List S77) (x17_1 : List S79) (x17_2 : Int) (x17_3 : Int) (x17_4 : List Int) (x17_5 : ByteArray)
def spec_MachOk.B : spec_MachOk.Q → Pg spec_MachOk.Q (fun _ => Bool) (Bool)
  | .f l0_0 l0_1 l0_2 l0_3 l1_0 l1_1 a1_2 a1_3 l1_4 a1_5 => .to (.l0 0 l0_0 l0_1 l0_2 l0_3 l1_0 l1_1 a1_2 a1_3 l1_4 a1_5)
  | .l0 x5 x16_0 x16_1 x16_2 x16_3 x17_0 x17_1 x17_2 x17_3 x17_4 x17_5 => if x5 < (x17_4.length : Int) then (if 0 ≤ x5 then (.opt (spec_l1In.f (rdOf (0 : Int) x17_4 x5) 0 100000) fun t18 => (if t18 = true then (.to (.l0 (wrap64 (x5 + 1)) x16_0 x16_1 x16_2 x16_3 x17_0 x17_1 x17_2 x17_3 x17_4 x17_5)) else (.ret false))) else (.bad)) else (.opt (spec_ProgOk.fv x16_0 x16_1 x16_2 x16_3) fun t21 => (if t21 = true then (.opt (spec_StateOk.fv x17_0 x17_1 x17_2 x17_3 (x16_0.length : Int) (x16_1.length : Int)) fun t31 => (if t31 = true then (if (x17_4.length : Int) = 3 then (.ret (decide ((x17_5.size : Int) ≤ 1500))) else (.ret false)) else (.ret false))) else (.ret false)))
def spec_MachOk.fv (l0_0 : List ByteArray) (l0_1 : List ByteArray) (l0_2 : List S81) (l0_3 : List S81) (l1_0 : List S77) (l1_1 : List S79) (a1_2 : Int) (a1_3 : Int) (l1_4 : List Int) (a1_5 : ByteArray) : Option (Bool) := lim spec_MachOk.B (.f l0_0 l0_1 l0_2 l0_3 l1_0 l1_1 a1_2 a1_3 l1_4 a1_5)
def spec_MachOk.l0v (x5 : Int) (x16_0 : List ByteArray) (x16_1 : List ByteArray) (x16_2 : List S81) (x16_3 : List S81) (x17_0 : List S77) (x17_1 : List S79) (x17_2 : Int) (x17_3 : Int) (x17_4 : List Int) (x17_5 : ByteArray) : Option (Bool) := lim spec_MachOk.B (.l0 x5 x16_0 x16_1 x16_2 x16_3 x17_0 x17_1 x17_2 x17_3 x17_4 x17_5)
theorem spec_MachOk.fv_eq (l0_0 : List ByteArray) (l0_1 : List ByteArray) (l0_2 : List S81) (l0_3 : List S81) (l1_0 : List S77) (l1_1 : List S79) (a1_2 : Int) (a1_3 : Int) (l1_4 : List Int) (a1_5 : ByteArray) : spec_MachOk.fv l0_0 l0_1 l0_2 l0_3 l1_0 l1_1 a1_2 a1_3 l1_4 a1_5 = (spec_MachOk.l0v 0 l0_0 l0_1 l0_2 l0_3 l1_0 l1_1 a1_2 a1_3 l1_4 a1_5) := by
  show lim spec_MachOk.B (.f l0_0 l0_1 l0_2 l0_3 l1_0 l1_1 a1_2 a1_3 l1_4 a1_5) = _
  rw [lim_eq, spec_MachOk.B]
  simp only [ev_ite, ev_opt, ev_ask, ev_to, ev_ret, ev_bad]
  try rfl
theorem spec_MachOk.l0v_eq (x5 : Int) (x16_0 : List ByteArray) (x16_1 : List ByteArray) (x16_2 : List S81) (x16_3 : List S81) (x17_0 : List S77) (x17_1 : List S79) (x17_2 : Int) (x17_3 : Int) (x17_4 : List Int) (x17_5 : ByteArray) : spec_MachOk.l0v x5 x16_0 x16_1 x16_2 x16_3 x17_0 x17_1 x17_2 x17_3 x17_4 x17_5 = (if x5 < (x17_4.length : Int) then (if 0 ≤ x5 then ((spec_l1In.f (rdOf (0 : Int) x17_4 x5) 0 100000).bind fun t18 => (if t18 = true then (spec_MachOk.l0v (wrap64 (x5 + 1)) x16_0 x16_1 x16_2 x16_3 x17_0 x17_1 x17_2 x17_3 x17_4 x17_5) else (some false))) else (none)) else ((spec_ProgOk.fv x16_0 x16_1 x16_2 x16_3).bind fun t21 => (if t21 = true then ((spec_StateOk.fv x17_0 x17_1 x17_2 x17_3 (x16_0.length : Int) (x16_1.length : Int)).bind fun t31 => (if t31 = true then (if (x17_4.length : Int) = 3 then (some (decide ((x17_5.size : Int) ≤ 1500))) else (some false)) else (some false))) else (some false)))) := by
  show lim spec_MachOk.B (.l0 x5 x16_0 x16_1 x16_2 x16_3 x17_0 x17_1 x17_2 x17_3 x17_4 x17_5) = _
  rw [lim_eq, spec_MachOk.B]
  simp only [ev_ite, ev_opt, ev_ask, ev_to, ev_ret, ev_bad]
  try rfl
def impl_in.f (a0 : Int) (a1 : Int) (a2 : Int) : Option (Bool) := if a0 ≥ a1 then (some (decide (a0 ≤ a2))) else (some false)
def impl_isLetter.f (a0 : Int) : Option (Bool) := if a0 ≥ 97 then (if a0 ≤ 122 then (some true) else (if a0 ≥ 65 then (some (decide (a0 ≤ 90))) else (some false))) else (if a0 ≥ 65 then (some (decide (a0 ≤ 90))) else (some false))
inductive impl_lettersAt.Q where
  | f (a0 : ByteArray) (a1 : Int)
  | l0 (x0 : ByteArray) (x1 : Int) (x5 : Int)
def impl_lettersAt.B : impl_lettersAt.Q → Pg impl_lettersAt.Q (fun _ => Int) (Int)
  | .f a0 a1 => .to (.l0 a0 a1 0)
  | .l0 x0 x1 x5 => if (wrap64 (x1 + x5)) < (x0.size : Int) then (if 0 ≤ (wrap64 (x1 + x5)) then (.opt (impl_isLetter.f ((bt x0 (wrap64 (x1 + x5))))) fun t18 => (if t18 = true then (.to (.l0 x0 x1 (wrap64 (x5 + 1)))) else (.ret x5))) else (.bad)) else (.ret x5)
def impl_lettersAt.fv (a0 : ByteArray) (a1 : Int) : Option (Int) := lim impl_lettersAt.B (.f a0 a1)
def impl_lettersAt.l0v (x0 : ByteArray) (x1 : Int) (x5 : Int) : Option (Int) := lim impl_lettersAt.B (.l0 x0 x1 x5)
theorem impl_lettersAt.fv_eq (a0 : ByteArray) (a1 : Int) : impl_lettersAt.fv a0 a1 = (impl_lettersAt.l0v a0 a1 0) := by
  show lim impl_lettersAt.B (.f a0 a1) = _
  rw [lim_eq, impl_lettersAt.B]
  simp only [ev_ite, ev_opt, ev_ask, ev_to, ev_ret, ev_bad]
  try rfl
theorem impl_lettersAt.l0v_eq (x0 : ByteArray) (x1 : Int) (x5 : Int) : impl_lettersAt.l0v x0 x1 x5 = (if (wrap64 (x1 + x5)) < (x0.size : Int) then (if 0 ≤ (wrap64 (x1 + x5)) then ((impl_isLetter.f ((bt x0 (wrap64 (x1 + x5))))).bind fun t18 => (if t18 = true then (impl_lettersAt.l0v x0 x1 (wrap64 (x5 + 1))) else (some x5))) else (none)) else (some x5)) := by
  show lim impl_lettersAt.B (.l0 x0 x1 x5) = _
  rw [lim_eq, impl_lettersAt.B]
  simp only [ev_ite, ev_opt, ev_ask, ev_to, ev_ret, ev_bad]
  try rfl
def impl_calls.f  : Option ((List ByteArray)) := (some ([(⟨#[108, 101, 110, 103, 116, 104]⟩ : ByteArray), (⟨#[115, 117, 98, 115, 116, 114]⟩ : ByteArray), (⟨#[105, 110, 100, 101, 120]⟩ : ByteArray), (⟨#[105, 110, 116]⟩ : ByteArray), (⟨#[117, 112, 112, 101, 114]⟩ : ByteArray), (⟨#[108, 111, 119, 101, 114]⟩ : ByteArray)] : List ByteArray)).bind fun y1_0 => (some y1_0)
inductive slices_Index_string_string.Q where
  | f (l0 : List ByteArray) (a1 : ByteArray)
  | l0 (x0 : List ByteArray) (x1 : ByteArray) (x7 : Int) (x8 : Int)
def slices_Index_string_string.B : slices_Index_string_string.Q → Pg slices_Index_string_string.Q (fun _ => Int) (Int)
  | .f l0 a1 => .to (.l0 l0 a1 (l0.length : Int) 0)
  | .l0 x0 x1 x7 x8 => if x8 < x7 then (if 0 ≤ x8 then (if x8 < (x0.length : Int) then (if x1.toList = (rdOf ByteArray.empty x0 x8).toList then (.ret x8) else (.to (.l0 x0 x1 x7 (wrap64 (x8 + 1))))) else (.bad)) else (.bad)) else (.ret (-1))
def slices_Index_string_string.fv (l0 : List ByteArray) (a1 : ByteArray) : Option (Int) := lim slices_Index_string_string.B (.f l0 a1)
def slices_Index_string_string.l0v (x0 : List ByteArray) (x1 : ByteArray) (x7 : Int) (x8 : Int) : Option (Int) := lim slices_Index_string_string.B (.l0 x0 x1 x7 x8)
theorem slices_Index_string_string.fv_eq (l0 : List ByteArray) (a1 : ByteArray) : slices_Index_string_string.fv l0 a1 = (slices_Index_string_string.l0v l0 a1 (l0.length : Int) 0) := by
  show lim slices_Index_string_string.B (.f l0 a1) = _
  rw [lim_eq, slices_Index_string_string.B]
  simp only [ev_ite, ev_opt, ev_ask, ev_to, ev_ret, ev_bad]
  try rfl
theorem slices_Index_string_string.l0v_eq (x0 : List ByteArray) (x1 : ByteArray) (x7 : Int) (x8 : Int) : slices_Index_string_string.l0v x0 x1 x7 x8 = (if x8 < x7 then (if 0 ≤ x8 then (if x8 < (x0.length : Int) then (if x1.toList = (rdOf ByteArray.empty x0 x8).toList then (some x8) else (slices_Index_string_string.l0v x0 x1 x7 (wrap64 (x8 + 1)))) else (none)) else (none)) else (some (-1))) := by
  show lim slices_Index_string_string.B (.l0 x0 x1 x7 x8) = _
  rw [lim_eq, slices_Index_string_string.B]
  simp only [ev_ite, ev_opt, ev_ask, ev_to, ev_ret, ev_bad]
  try rfl
def slices_Contains_string_string.fv (l0 : List ByteArray) (a1 : ByteArray) : Option (Bool) := (slices_Index_string_string.fv l0 a1).bind fun t7 => (some (decide (t7 ≥ 0)))
theorem slices_Contains_string_string.fv_eq (l0 : List ByteArray) (a1 : ByteArray) : slices_Contains_string_string.fv l0 a1 = ((slices_Index_string_string.fv l0 a1).bind fun t7 => (some (decide (t7 ≥ 0)))) := by rw [slices_Contains_string_string.fv]
inductive impl_Keyword.Q where
  | f (a0 : ByteArray)
  | j0 (x0 : ByteArray) (x4 : Bool)
def impl_Keyword.B : impl_Keyword.Q → Pg impl_Keyword.Q (fun _ => Bool) (Bool)
  | .f a0 => if a0.toList = ([66, 69, 71, 73, 78] : List UInt8) then (.to (.j0 a0 (a0.toList == (⟨#[66, 69, 71, 73, 78]⟩ : ByteArray).toList))) else (if a0.toList = ([112, 114, 105, 110, 116] : List UInt8) then (.to (.j0 a0 (a0.toList == (⟨#[112, 114, 105, 110, 116]⟩ : ByteArray).toList))) else (if a0.toList = ([105, 102] : List UInt8) then (.to (.j0 a0 (a0.toList == (⟨#[105, 102]⟩ : ByteArray).toList))) else (if a0.toList = ([101, 108, 115, 101] : List UInt8) then (.to (.j0 a0 (a0.toList == (⟨#[101, 108, 115, 101]⟩ : ByteArray).toList))) else (if a0.toList = ([119, 104, 105, 108, 101] : List UInt8) then (.to (.j0 a0 (a0.toList == (⟨#[119, 104, 105, 108, 101]⟩ : ByteArray).toList))) else (if a0.toList = ([110, 101, 120, 116] : List UInt8) then (.to (.j0 a0 (a0.toList == (⟨#[110, 101, 120, 116]⟩ : ByteArray).toList))) else (if a0.toList = ([100, 101, 108, 101, 116, 101] : List UInt8) then (.to (.j0 a0 (a0.toList == (⟨#[100, 101, 108, 101, 116, 101]⟩ : ByteArray).toList))) else (if a0.toList = ([78, 82] : List UInt8) then (.to (.j0 a0 (a0.toList == (⟨#[78, 82]⟩ : ByteArray).toList))) else (.to (.j0 a0 (a0.toList == (⟨#[78, 70]⟩ : ByteArray).toList))))))))))
  | .j0 x0 x4 => if x4 = true then (.ret true) else (.opt (impl_calls.f) fun t14 => (.opt (slices_Contains_string_string.fv t14 x0) fun t16 => (.ret t16)))
def impl_Keyword.fv (a0 : ByteArray) : Option (Bool) := lim impl_Keyword.B (.f a0)
def impl_Keyword.j0v (x0 : ByteArray) (x4 : Bool) : Option (Bool) := lim impl_Keyword.B (.j0 x0 x4)
theorem impl_Keyword.fv_eq (a0 : ByteArray) : impl_Keyword.fv a0 = (if a0.toList = ([66, 69, 71, 73, 78] : List UInt8) then (impl_Keyword.j0v a0 (a0.toList == (⟨#[66, 69, 71, 73, 78]⟩ : ByteArray).toList)) else (if a0.toList = ([112, 114, 105, 110, 116] : List UInt8) then (impl_Keyword.j0v a0 (a0.toList == (⟨#[112, 114, 105, 110, 116]⟩ : ByteArray).toList)) else (if a0.toList = ([105, 102] : List UInt8) then (impl_Keyword.j0v a0 (a0.toList == (⟨#[105, 102]⟩ : ByteArray).toList)) else (if a0.toList = ([101, 108, 115, 101] : List UInt8) then (impl_Keyword.j0v a0 (a0.toList == (⟨#[101, 108, 115, 101]⟩ : ByteArray).toList)) else (if a0.toList = ([119, 104, 105, 108, 101] : List UInt8) then (impl_Keyword.j0v a0 (a0.toList == (⟨#[119, 104, 105, 108, 101]⟩ : ByteArray).toList)) else (if a0.toList = ([110, 101, 120, 116] : List UInt8) then (impl_Keyword.j0v a0 (a0.toList == (⟨#[110, 101, 120, 116]⟩ : ByteArray).toList)) else (if a0.toList = ([100, 101, 108, 101, 116, 101] : List UInt8) then (impl_Keyword.j0v a0 (a0.toList == (⟨#[100, 101, 108, 101, 116, 101]⟩ : ByteArray).toList)) else (if a0.toList = ([78, 82] : List UInt8) then (impl_Keyword.j0v a0 (a0.toList == (⟨#[78, 82]⟩ : ByteArray).toList)) else (impl_Keyword.j0v a0 (a0.toList == (⟨#[78, 70]⟩ : ByteArray).toList)))))))))) := by
  show lim impl_Keyword.B (.f a0) = _
  rw [lim_eq, impl_Keyword.B]
  simp only [ev_ite, ev_opt, ev_ask, ev_to, ev_ret, ev_bad]
  try rfl
theorem impl_Keyword.j0v_eq (x0 : ByteArray) (x4 : Bool) : impl_Keyword.j0v x0 x4 = (if x4 = true then (some true) else ((impl_calls.f).bind fun t14 => ((slices_Contains_string_string.fv t14 x0).bind fun t16 => (some t16)))) := by
  show lim impl_Keyword.B (.j0 x0 x4) = _
  rw [lim_eq, impl_Keyword.B]
  simp only [ev_ite, ev_opt, ev_ask, ev_to, ev_ret, ev_bad]
  try rfl
def impl_isName.fv (a0 : ByteArray) : Option (Bool) := (impl_in.f (a0.size : Int) 1 8).bind fun t5 => (if t5 = true then ((impl_lettersAt.fv a0 0).bind fun t8 => (if t8 = (a0.size : Int) then ((impl_Keyword.fv a0).bind fun t15 => (some (!t15))) else (some false))) else (some false))
theorem impl_isName.fv_eq (a0 : ByteArray) : impl_isName.fv a0 = ((impl_in.f (a0.size : Int) 1 8).bind fun t5 => (if t5 = true then ((impl_lettersAt.fv a0 0).bind fun t8 => (if t8 = (a0.size : Int) then ((impl_Keyword.fv a0).bind fun t15 => (some (!t15))) else (some false))) else (some false))) := by rw [impl_isName.fv]
inductive impl_namesOk.Q where
  | f (l0 : List ByteArray)
  | l0 (x0 : List ByteArray) (x5 : List ByteArray) (x6 : Int) (x7 : Int)
def impl_namesOk.B : impl_namesOk.Q → Pg impl_namesOk.Q (fun _ => Bool) (Bool)
  | .f l0 => .to (.l0 l0 l0 (l0.length : Int) 0)
  | .l0 x0 x5 x6 x7 => if x7 < x6 then (if 0 ≤ x7 then (if x7 < (x5.length : Int) then (.opt (impl_isName.fv (rdOf ByteArray.empty x5 x7)) fun t13 => (if t13 = true then (if x7 > 0 then (if 0 ≤ (wrap64 (x7 - 1)) then (if (wrap64 (x7 - 1)) < (x0.length : Int) then (if (!Op.bytesLess (rdOf ByteArray.empty x0 (wrap64 (x7 - 1))).toList (rdOf ByteArray.empty x5 x7).toList) = true then (.ret false) else (.to (.l0 x0 x5 x6 (wrap64 (x7 + 1))))) else (.bad)) else (.bad)) else (.to (.l0 x0 x5 x6 (wrap64 (x7 + 1))))) else (.ret false))) else (.bad)) else (.bad)) else (.ret (decide ((x0.length : Int) ≤ 8)))
def impl_namesOk.fv (l0 : List ByteArray) : Option (Bool) := lim impl_namesOk.B (.f l0)
def impl_namesOk.l0v (x0 : List ByteArray) (x5 : List ByteArray) (x6 : Int) (x7 : Int) : Option (Bool) := lim impl_namesOk.B (.l0 x0 x5 x6 x7)
theorem impl_namesOk.fv_eq (l0 : List ByteArray) : impl_namesOk.fv l0 = (impl_namesOk.l0v l0 l0 (l0.length : Int) 0) := by
  show lim impl_namesOk.B (.f l0) = _
  rw [lim_eq, impl_namesOk.B]
  simp only [ev_ite, ev_opt, ev_ask, ev_to, ev_ret, ev_bad]
  try rfl
theorem impl_namesOk.l0v_eq (x0 : List ByteArray) (x5 : List ByteArray) (x6 : Int) (x7 : Int) : impl_namesOk.l0v x0 x5 x6 x7 = (if x7 < x6 then (if 0 ≤ x7 then (if x7 < (x5.length : Int) then ((impl_isName.fv (rdOf ByteArray.empty x5 x7)).bind fun t13 => (if t13 = true then (if x7 > 0 then (if 0 ≤ (wrap64 (x7 - 1)) then (if (wrap64 (x7 - 1)) < (x0.length : Int) then (if (!Op.bytesLess (rdOf ByteArray.empty x0 (wrap64 (x7 - 1))).toList (rdOf ByteArray.empty x5 x7).toList) = true then (some false) else (impl_namesOk.l0v x0 x5 x6 (wrap64 (x7 + 1)))) else (none)) else (none)) else (impl_namesOk.l0v x0 x5 x6 (wrap64 (x7 + 1)))) else (some false))) else (none)) else (none)) else (some (decide ((x0.length : Int) ≤ 8)))) := by
  show lim impl_namesOk.B (.l0 x0 x5 x6 x7) = _
  rw [lim_eq, impl_namesOk.B]
  simp only [ev_ite, ev_opt, ev_ask, ev_to, ev_ret, ev_bad]
  try rfl
def impl_ProgOk_1.fv (a0 : ByteArray) (l1_0 : List ByteArray) (l1_1 : List ByteArray) (l1_2 : List S81) (l1_3 : List S81) : Option (Bool) := (slices_Contains_string_string.fv l1_1 a0).bind fun t7 => (some t7)
theorem impl_ProgOk_1.fv_eq (a0 : ByteArray) (l1_0 : List ByteArray) (l1_1 : List ByteArray) (l1_2 : List S81) (l1_3 : List S81) : impl_ProgOk_1.fv a0 l1_0 l1_1 l1_2 l1_3 = ((slices_Contains_string_string.fv l1_1 a0).bind fun t7 => (some t7)) := by rw [impl_ProgOk_1.fv]
inductive slices_IndexFunc_string_string__impl_ProgOk_1.Q where
  | f (l0 : List ByteArray) (l1q0_0 : List ByteArray) (l1q0_1 : List ByteArray) (l1q0_2 : List S81) (l1q0_3 : List S81)
  | l0 (x0 : List ByteArray) (x7 : Int) (x8 : Int) (l1q0_0 : List ByteArray) (l1q0_1 : List ByteArray) (l1q0_2 : List S81) (l1q0_3 : List S81)
def slices_IndexFunc_string_string__impl_ProgOk_1.B : slices_IndexFunc_string_string__impl_ProgOk_1.Q → Pg slices_IndexFunc_string_string__impl_ProgOk_1.Q (fun _ => Int) (Int)
  | .f l0 l1q0_0 l1q0_1 l1q0_2 l1q0_3 => .to (.l0 l0 (l0.length : Int) 0 l1q0_0 l1q0_1 l1q0_2 l1q0_3)
  | .l0 x0 x7 x8 l1q0_0 l1q0_1 l1q0_2 l1q0_3 => if x8 < x7 then (if 0 ≤ x8 then (if x8 < (x0.length : Int) then (.opt (impl_ProgOk_1.fv (rdOf ByteArray.empty x0 x8) l1q0_0 l1q0_1 l1q0_2 l1q0_3) fun t16 => (if t16 = true then (.ret x8) else (.to (.l0 x0 x7 (wrap64 (x8 + 1)) l1q0_0 l1q0_1 l1q0_2 l1q0_3)))) else (.bad)) else (.bad)) else (.ret (-1))
def slices_IndexFunc_string_string__impl_ProgOk_1.fv (l0 : List ByteArray) (l1q0_0 : List ByteArray) (l1q0_1 : List ByteArray) (l1q0_2 : List S81) (l1q0_3 : List S81) : Option (Int) := lim slices_IndexFunc_string_string__impl_ProgOk_1.B (.f l0 l1q0_0 l1q0_1 l1q0_2 l1q0_3)
def slices_IndexFunc_string_string__impl_ProgOk_1.l0v (x0 : List ByteArray) (x7 : Int) (x8 : Int) (l1q0_0 : List ByteArray) (l1q0_1 : List ByteArray) (l1q0_2 : List S81) (l1q0_3 : List S81) : Option (Int) := lim slices_IndexFunc_string_string__impl_ProgOk_1.B (.l0 x0 x7 x8 l1q0_0 l1q0_1 l1q0_2 l1q0_3)
theorem slices_IndexFunc_string_string__impl_ProgOk_1.fv_eq (l0 : List ByteArray) (l1q0_0 : List ByteArray) (l1q0_1 : List ByteArray) (l1q0_2 : List S81) (l1q0_3 : List S81) : slices_IndexFunc_string_string__impl_ProgOk_1.fv l0 l1q0_0 l1q0_1 l1q0_2 l1q0_3 = (slices_IndexFunc_string_string__impl_ProgOk_1.l0v l0 (l0.length : Int) 0 l1q0_0 l1q0_1 l1q0_2 l1q0_3) := by
  show lim slices_IndexFunc_string_string__impl_ProgOk_1.B (.f l0 l1q0_0 l1q0_1 l1q0_2 l1q0_3) = _
  rw [lim_eq, slices_IndexFunc_string_string__impl_ProgOk_1.B]
  simp only [ev_ite, ev_opt, ev_ask, ev_to, ev_ret, ev_bad]
  try rfl
theorem slices_IndexFunc_string_string__impl_ProgOk_1.l0v_eq (x0 : List ByteArray) (x7 : Int) (x8 : Int) (l1q0_0 : List ByteArray) (l1q0_1 : List ByteArray) (l1q0_2 : List S81) (l1q0_3 : List S81) : slices_IndexFunc_string_string__impl_ProgOk_1.l0v x0 x7 x8 l1q0_0 l1q0_1 l1q0_2 l1q0_3 = (if x8 < x7 then (if 0 ≤ x8 then (if x8 < (x0.length : Int) then ((impl_ProgOk_1.fv (rdOf ByteArray.empty x0 x8) l1q0_0 l1q0_1 l1q0_2 l1q0_3).bind fun t16 => (if t16 = true then (some x8) else (slices_IndexFunc_string_string__impl_ProgOk_1.l0v x0 x7 (wrap64 (x8 + 1)) l1q0_0 l1q0_1 l1q0_2 l1q0_3))) else (none)) else (none)) else (some (-1))) := by
  show lim slices_IndexFunc_string_string__impl_ProgOk_1.B (.l0 x0 x7 x8 l1q0_0 l1q0_1 l1q0_2 l1q0_3) = _
  rw [lim_eq, slices_IndexFunc_string_string__impl_ProgOk_1.B]
  simp only [ev_ite, ev_opt, ev_ask, ev_to, ev_ret, ev_bad]
  try rfl
def slices_ContainsFunc_string_string__impl_ProgOk_1.fv (l0 : List ByteArray) (l1q0_0 : List ByteArray) (l1q0_1 : List ByteArray) (l1q0_2 : List S81) (l1q0_3 : List S81) : Option (Bool) := (slices_IndexFunc_string_string__impl_ProgOk_1.fv l0 l1q0_0 l1q0_1 l1q0_2 l1q0_3).bind fun t7 => (some (decide (t7 ≥ 0)))
theorem slices_ContainsFunc_string_string__impl_ProgOk_1.fv_eq (l0 : List ByteArray) (l1q0_0 : List ByteArray) (l1q0_1 : List ByteArray) (l1q0_2 : List S81) (l1q0_3 : List S81) : slices_ContainsFunc_string_string__impl_ProgOk_1.fv l0 l1q0_0 l1q0_1 l1q0_2 l1q0_3 = ((slices_IndexFunc_string_string__impl_ProgOk_1.fv l0 l1q0_0 l1q0_1 l1q0_2 l1q0_3).bind fun t7 => (some (decide (t7 ≥ 0)))) := by rw [slices_ContainsFunc_string_string__impl_ProgOk_1.fv]
inductive impl_opName.Q where
  | f (a0 : Int)
  | j0 (x0 : Int) (x4 : List ByteArray) (x5 : ByteArray) (x13 : Int) (x16 : Bool)
def impl_opName.B : impl_opName.Q → Pg impl_opName.Q (fun _ => ByteArray × ByteArray) (ByteArray × ByteArray)
  | .f a0 => .opt (some ([(⟨#[]⟩ : ByteArray), (⟨#[110, 117, 109]⟩ : ByteArray), (⟨#[116, 101, 120, 116]⟩ : ByteArray), (⟨#[118, 97, 114]⟩ : ByteArray), (⟨#[115, 101, 116, 118, 97, 114]⟩ : ByteArray), (⟨#[112, 108, 117, 115, 118, 97, 114]⟩ : ByteArray), (⟨#[99, 101, 108, 108]⟩ : ByteArray), (⟨#[115, 101, 116, 99, 101, 108, 108]⟩ : ByteArray), (⟨#[112, 108, 117, 115, 99, 101, 108, 108]⟩ : ByteArray), (⟨#[102, 105, 101, 108, 100]⟩ : ByteArray), (⟨#[110, 114]⟩ : ByteArray), (⟨#[110, 102]⟩ : ByteArray), (⟨#[97, 100, 100]⟩ : ByteArray), (⟨#[115, 117, 98]⟩ : ByteArray), (⟨#[109, 117, 108]⟩ : ByteArray), (⟨#[100, 105, 118]⟩ : ByteArray), (⟨#[109, 111, 100]⟩ : ByteArray), (⟨#[99, 97, 116]⟩ : ByteArray), (⟨#[108, 101, 115, 115]⟩ : ByteArray), (⟨#[109, 111, 115, 116]⟩ : ByteArray), (⟨#[109, 111, 114, 101]⟩ : ByteArray), (⟨#[108, 101, 97, 115, 116]⟩ : ByteArray), (⟨#[115, 97, 109, 101]⟩ : ByteArray), (⟨#[111, 116, 104, 101, 114]⟩ : ByteArray), (⟨#[102, 105, 116, 115]⟩ : ByteArray), (⟨#[108, 105, 110, 101]⟩ : ByteArray), (⟨#[110, 111, 116]⟩ : ByteArray), (⟨#[109, 105, 110, 117, 115]⟩ : ByteArray), (⟨#[98, 111, 111, 108]⟩ : ByteArray), (⟨#[99, 97, 108, 108]⟩ : ByteArray), (⟨#[106, 117, 109, 112]⟩ : ByteArray), (⟨#[122, 101, 114, 111]⟩ : ByteArray), (⟨#[112, 111, 112]⟩ : ByteArray), (⟨#[115, 104, 111, 119]⟩ : ByteArray), (⟨#[101, 110, 100, 108]⟩ : ByteArray), (⟨#[100, 114, 111, 112]⟩ : ByteArray), (⟨#[110, 101, 120, 116]⟩ : ByteArray)] : List ByteArray)) fun y1_0 => (.opt (impl_in.f a0 1 ((wrap64 ((y1_0.length : Int) - 1)))) fun t11 => (if t11 = true then (if a0 = 1 then (if 0 ≤ a0 then (if a0 < (y1_0.length : Int) then (.ret ((rdOf ByteArray.empty y1_0 a0), (⟨#[100]⟩ : ByteArray))) else (.bad)) else (.bad)) else (if a0 = 2 then (.to (.j0 a0 y1_0 (⟨#[]⟩ : ByteArray) a0 (a0 == 2))) else (if a0 = 24 then (.to (.j0 a0 y1_0 (⟨#[]⟩ : ByteArray) a0 (a0 == 24))) else (.to (.j0 a0 y1_0 (⟨#[]⟩ : ByteArray) a0 (a0 == 25)))))) else (.ret ((⟨#[]⟩ : ByteArray), (⟨#[]⟩ : ByteArray)))))
  | .j0 x0 x4 x5 x13 x16 => if x16 = true then (if 0 ≤ x0 then (if x0 < (x4.length : Int) then (.ret ((rdOf ByteArray.empty x4 x0), (⟨#[115]⟩ : ByteArray))) else (.bad)) else (.bad)) else (if x13 = 29 then (if 0 ≤ x0 then (if x0 < (x4.length : Int) then (.ret ((rdOf ByteArray.empty x4 x0), (⟨#[110, 115]⟩ : ByteArray))) else (.bad)) else (.bad)) else (if x13 = 3 then (if 0 ≤ x0 then (if x0 < (x4.length : Int) then (.ret ((rdOf ByteArray.empty x4 x0), (⟨#[110]⟩ : ByteArray))) else (.bad)) else (.bad)) else (if x13 = 4 then (if 0 ≤ x0 then (if x0 < (x4.length : Int) then (.ret ((rdOf ByteArray.empty x4 x0), (⟨#[110]⟩ : ByteArray))) else (.bad)) else (.bad)) else (if x13 = 5 then (if 0 ≤ x0 then (if x0 < (x4.length : Int) then (.ret ((rdOf ByteArray.empty x4 x0), (⟨#[110]⟩ : ByteArray))) else (.bad)) else (.bad)) else (if x13 = 6 then (if 0 ≤ x0 then (if x0 < (x4.length : Int) then (.ret ((rdOf ByteArray.empty x4 x0), (⟨#[110]⟩ : ByteArray))) else (.bad)) else (.bad)) else (if x13 = 7 then (if 0 ≤ x0 then (if x0 < (x4.length : Int) then (.ret ((rdOf ByteArray.empty x4 x0), (⟨#[110]⟩ : ByteArray))) else (.bad)) else (.bad)) else (if x13 = 8 then (if 0 ≤ x0 then (if x0 < (x4.length : Int) then (.ret ((rdOf ByteArray.empty x4 x0), (⟨#[110]⟩ : ByteArray))) else (.bad)) else (.bad)) else (if x13 = 35 then (if 0 ≤ x0 then (if x0 < (x4.length : Int) then (.ret ((rdOf ByteArray.empty x4 x0), (⟨#[110]⟩ : ByteArray))) else (.bad)) else (.bad)) else (if x13 = 30 then (if 0 ≤ x0 then (if x0 < (x4.length : Int) then (.ret ((rdOf ByteArray.empty x4 x0), (⟨#[110]⟩ : ByteArray))) else (.bad)) else (.bad)) else (if x13 = 31 then (if 0 ≤ x0 then (if x0 < (x4.length : Int) then (.ret ((rdOf ByteArray.empty x4 x0), (⟨#[110]⟩ : ByteArray))) else (.bad)) else (.bad)) else (if x13 = 33 then (if 0 ≤ x0 then (if x0 < (x4.length : Int) then (.ret ((rdOf ByteArray.empty x4 x0), (⟨#[110]⟩ : ByteArray))) else (.bad)) else (.bad)) else (if 0 ≤ x0 then (if x0 < (x4.length : Int) then (.ret ((rdOf ByteArray.empty x4 x0), x5)) else (.bad)) else (.bad)))))))))))))
def impl_opName.fv (a0 : Int) : Option (ByteArray × ByteArray) := lim impl_opName.B (.f a0)
def impl_opName.j0v (x0 : Int) (x4 : List ByteArray) (x5 : ByteArray) (x13 : Int) (x16 : Bool) : Option (ByteArray × ByteArray) := lim impl_opName.B (.j0 x0 x4 x5 x13 x16)
theorem impl_opName.fv_eq (a0 : Int) : impl_opName.fv a0 = ((some ([(⟨#[]⟩ : ByteArray), (⟨#[110, 117, 109]⟩ : ByteArray), (⟨#[116, 101, 120, 116]⟩ : ByteArray), (⟨#[118, 97, 114]⟩ : ByteArray), (⟨#[115, 101, 116, 118, 97, 114]⟩ : ByteArray), (⟨#[112, 108, 117, 115, 118, 97, 114]⟩ : ByteArray), (⟨#[99, 101, 108, 108]⟩ : ByteArray), (⟨#[115, 101, 116, 99, 101, 108, 108]⟩ : ByteArray), (⟨#[112, 108, 117, 115, 99, 101, 108, 108]⟩ : ByteArray), (⟨#[102, 105, 101, 108, 100]⟩ : ByteArray), (⟨#[110, 114]⟩ : ByteArray), (⟨#[110, 102]⟩ : ByteArray), (⟨#[97, 100, 100]⟩ : ByteArray), (⟨#[115, 117, 98]⟩ : ByteArray), (⟨#[109, 117, 108]⟩ : ByteArray), (⟨#[100, 105, 118]⟩ : ByteArray), (⟨#[109, 111, 100]⟩ : ByteArray), (⟨#[99, 97, 116]⟩ : ByteArray), (⟨#[108, 101, 115, 115]⟩ : ByteArray), (⟨#[109, 111, 115, 116]⟩ : ByteArray), (⟨#[109, 111, 114, 101]⟩ : ByteArray), (⟨#[108, 101, 97, 115, 116]⟩ : ByteArray), (⟨#[115, 97, 109, 101]⟩ : ByteArray), (⟨#[111, 116, 104, 101, 114]⟩ : ByteArray), (⟨#[102, 105, 116, 115]⟩ : ByteArray), (⟨#[108, 105, 110, 101]⟩ : ByteArray), (⟨#[110, 111, 116]⟩ : ByteArray), (⟨#[109, 105, 110, 117, 115]⟩ : ByteArray), (⟨#[98, 111, 111, 108]⟩ : ByteArray), (⟨#[99, 97, 108, 108]⟩ : ByteArray), (⟨#[106, 117, 109, 112]⟩ : ByteArray), (⟨#[122, 101, 114, 111]⟩ : ByteArray), (⟨#[112, 111, 112]⟩ : ByteArray), (⟨#[115, 104, 111, 119]⟩ : ByteArray), (⟨#[101, 110, 100, 108]⟩ : ByteArray), (⟨#[100, 114, 111, 112]⟩ : ByteArray), (⟨#[110, 101, 120, 116]⟩ : ByteArray)] : List ByteArray)).bind fun y1_0 => ((impl_in.f a0 1 ((wrap64 ((y1_0.length : Int) - 1)))).bind fun t11 => (if t11 = true then (if a0 = 1 then (if 0 ≤ a0 then (if a0 < (y1_0.length : Int) then (some ((rdOf ByteArray.empty y1_0 a0), (⟨#[100]⟩ : ByteArray))) else (none)) else (none)) else (if a0 = 2 then (impl_opName.j0v a0 y1_0 (⟨#[]⟩ : ByteArray) a0 (a0 == 2)) else (if a0 = 24 then (impl_opName.j0v a0 y1_0 (⟨#[]⟩ : ByteArray) a0 (a0 == 24)) else (impl_opName.j0v a0 y1_0 (⟨#[]⟩ : ByteArray) a0 (a0 == 25))))) else (some ((⟨#[]⟩ : ByteArray), (⟨#[]⟩ : ByteArray)))))) := by
  show lim impl_opName.B (.f a0) = _
  rw [lim_eq, impl_opName.B]
  simp only [ev_ite, ev_opt, ev_ask, ev_to, ev_ret, ev_bad]
  try rfl
theorem impl_opName.j0v_eq (x0 : Int) (x4 : List ByteArray) (x5 : ByteArray) (x13 : Int) (x16 : Bool) : impl_opName.j0v x0 x4 x5 x13 x16 = (if x16 = true then (if 0 ≤ x0 then (if x0 < (x4.length : Int) then (some ((rdOf ByteArray.empty x4 x0), (⟨#[115]⟩ : ByteArray))) else (none)) else (none)) else (if x13 = 29 then (if 0 ≤ x0 then (if x0 < (x4.length : Int) then (some ((rdOf ByteArray.empty x4 x0), (⟨#[110, 115]⟩ : ByteArray))) else (none)) else (none)) else (if x13 = 3 then (if 0 ≤ x0 then (if x0 < (x4.length : Int) then (some ((rdOf ByteArray.empty x4 x0), (⟨#[110]⟩ : ByteArray))) else (none)) else (none)) else (if x13 = 4 then (if 0 ≤ x0 then (if x0 < (x4.length : Int) then (some ((rdOf ByteArray.empty x4 x0), (⟨#[110]⟩ : ByteArray))) else (none)) else (none)) else (if x13 = 5 then (if 0 ≤ x0 then (if x0 < (x4.length : Int) then (some ((rdOf ByteArray.empty x4 x0), (⟨#[110]⟩ : ByteArray))) else (none)) else (none)) else (if x13 = 6 then (if 0 ≤ x0 then (if x0 < (x4.length : Int) then (some ((rdOf ByteArray.empty x4 x0), (⟨#[110]⟩ : ByteArray))) else (none)) else (none)) else (if x13 = 7 then (if 0 ≤ x0 then (if x0 < (x4.length : Int) then (some ((rdOf ByteArray.empty x4 x0), (⟨#[110]⟩ : ByteArray))) else (none)) else (none)) else (if x13 = 8 then (if 0 ≤ x0 then (if x0 < (x4.length : Int) then (some ((rdOf ByteArray.empty x4 x0), (⟨#[110]⟩ : ByteArray))) else (none)) else (none)) else (if x13 = 35 then (if 0 ≤ x0 then (if x0 < (x4.length : Int) then (some ((rdOf ByteArray.empty x4 x0), (⟨#[110]⟩ : ByteArray))) else (none)) else (none)) else (if x13 = 30 then (if 0 ≤ x0 then (if x0 < (x4.length : Int) then (some ((rdOf ByteArray.empty x4 x0), (⟨#[110]⟩ : ByteArray))) else (none)) else (none)) else (if x13 = 31 then (if 0 ≤ x0 then (if x0 < (x4.length : Int) then (some ((rdOf ByteArray.empty x4 x0), (⟨#[110]⟩ : ByteArray))) else (none)) else (none)) else (if x13 = 33 then (if 0 ≤ x0 then (if x0 < (x4.length : Int) then (some ((rdOf ByteArray.empty x4 x0), (⟨#[110]⟩ : ByteArray))) else (none)) else (none)) else (if 0 ≤ x0 then (if x0 < (x4.length : Int) then (some ((rdOf ByteArray.empty x4 x0), x5)) else (none)) else (none)))))))))))))) := by
  show lim impl_opName.B (.j0 x0 x4 x5 x13 x16) = _
  rw [lim_eq, impl_opName.B]
  simp only [ev_ite, ev_opt, ev_ask, ev_to, ev_ret, ev_bad]
  try rfl
def impl_DecOk.f (a0 : Int) : Option (Bool) := (impl_in.f a0 (-9000000000000) 9000000000000).bind fun t4 => (some t4)
def impl_rexReader_next.f (s0_0 : ByteArray) (s0_1 : Bool) : Option (Int × Bool × ByteArray × Bool) := if s0_0.toList = ([] : List UInt8) then (some (0, false, s0_0, s0_1)) else (if s0_1 = true then (some (0, false, s0_0, s0_1)) else (if 0 < (s0_0.size : Int) then (some ((bt s0_0 0), true, s0_0, s0_1)) else (none)))
def impl_rexReader_take.f (s0_0 : ByteArray) (s0_1 : Bool) (a1 : Int) : Option (Bool × ByteArray × Bool) := (impl_rexReader_next.f s0_0 s0_1).bind fun t9 => (if t9.2.1 = true then (if t9.1 = a1 then (if 1 ≤ (t9.2.2.1.size : Int) then (some (true, (t9.2.2.1.extract 1 t9.2.2.1.size), t9.2.2.2)) else (none)) else (some (false, t9.2.2.1, t9.2.2.2))) else (some (false, t9.2.2.1, t9.2.2.2)))
inductive impl_rexReader_set.Q where
  | f (s0_0 : ByteArray) (s0_1 : Bool)
  | l0 (x5 : ByteArray) (x6 : List Bool) (x7 : Int) (x1000 : ByteArray) (x1001 : Bool) (x531_0 : Int) (x531_1 : Int) (x531_2 : ByteArray) (x531_3 : Bool)
  | j2 (x5 : ByteArray) (x6 : List Bool) (x7 : Int) (x8 : Int) (x9 : Int) (x1000 : ByteArray) (x1001 : Bool) (x531_0 : Int) (x531_1 : Int) (x531_2 : ByteArray) (x531_3 : Bool)
  | j1 (x5 : ByteArray) (x6 : List Bool) (x7 : Int) (x8 : Int) (x9 : Int) (x70 : Bool) (x1000 : ByteArray) (x1001 : Bool) (x531_0 : Int) (x531_1 : Int) (x531_2 : ByteArray) (x531_3 : Bool)
  | l1 (x5 : ByteArray) (x6 : List Bool) (x7 : Int) (x9 : Int) (x10 : Int) (x1000 : ByteArray) (x1001 : Bool) (x531_0 : Int) (x531_1 : Int) (x531_2 : ByteArray) (x531_3 : Bool)
  | l2 (x11 : List Int) (x100 : List Bool) (x101 : Int) (x102 : Int) (x1000 : ByteArray) (x1001 : Bool) (x531_0 : Int) (x531_1 : Int) (x531_2 : ByteArray) (x531_3 : Bool)
def impl_rexReader_set.B : impl_rexReader_set.Q → Pg impl_rexReader_set.Q (fun _ => Int × Int × ByteArray × Bool × (List S115) × ByteArray × Bool) (Int × Int × ByteArray × Bool × (List S115) × ByteArray × Bool)
  | .f s0_0 s0_1 => .opt (impl_rexReader_take.f s0_0 s0_1 94) fun t15 => (.opt (strings_IndexByte.f t15.2.1 93) fun t21 => (if t21 < 1 then (.ret (0, 0, (⟨#[]⟩ : ByteArray), false, ([] : List S115), t15.2.1, true)) else (if 0 ≤ t21 then (if t21 ≤ (t15.2.1.size : Int) then (if 0 ≤ (wrap64 (t21 + 1)) then (if (wrap64 (t21 + 1)) ≤ (t15.2.1.size : Int) then (if 256 ≤ 281474976710656 then (.to (.l0 (t15.2.1.extract 0 (t21 : Int).toNat) (List.replicate 256 false) 0 ((t15.2.1.extract ((wrap64 (t21 + 1)) : Int).toNat t15.2.1.size)) t15.2.2 3 0 (⟨#[]⟩ : ByteArray) t15.1)) else (.bad)) else (.bad)) else (.bad)) else (.bad)) else (.bad))))
  | .l0 x5 x6 x7 x1000 x1001 x531_0 x531_1 x531_2 x531_3 => if x7 < (x5.size : Int) then (if 0 ≤ x7 then (if (wrap64 (x7 + 2)) < (x5.size : Int) then (if 0 ≤ (wrap64 (x7 + 1)) then (if (wrap64 (x7 + 1)) < (x5.size : Int) then (.to (.j1 x5 x6 x7 (wrap64 (bt x5 x7)) (wrap64 (bt x5 x7)) (((bt x5 (wrap64 (x7 + 1))) == 45)) x1000 x1001 x531_0 x531_1 x531_2 x531_3)) else (.bad)) else (.bad)) else (.to (.j1 x5 x6 x7 (wrap64 (bt x5 x7)) (wrap64 (bt x5 x7)) false x1000 x1001 x531_0 x531_1 x531_2 x531_3))) else (.bad)) else (.to (.l2 ([] : List Int) x6 (x6.length : Int) 0 x1000 x1001 x531_0 x531_1 x531_2 x531_3))
  | .j2 x5 x6 x7 x8 x9 x1000 x1001 x531_0 x531_1 x531_2 x531_3 => .to (.l1 x5 x6 x7 x9 x8 x1000 x1001 x531_0 x531_1 x531_2 x531_3)
  | .j1 x5 x6 x7 x8 x9 x70 x1000 x1001 x531_0 x531_1 x531_2 x531_3 => if x70 = true then (if 0 ≤ (wrap64 (x7 + 2)) then (if (wrap64 (x7 + 2)) < (x5.size : Int) then (if x1001 = true then (.to (.j2 x5 x6 (wrap64 (x7 + 2)) x8 ((wrap64 (bt x5 (wrap64 (x7 + 2))))) x1000 true x531_0 x531_1 x531_2 x531_3)) else (.to (.j2 x5 x6 (wrap64 (x7 + 2)) x8 ((wrap64 (bt x5 (wrap64 (x7 + 2))))) x1000 ((decide ((wrap64 (bt x5 (wrap64 (x7 + 2)))) < x8))) x531_0 x531_1 x531_2 x531_3))) else (.bad)) else (.bad)) else (.to (.j2 x5 x6 x7 x8 x9 x1000 x1001 x531_0 x531_1 x531_2 x531_3))
  | .l1 x5 x6 x7 x9 x10 x1000 x1001 x531_0 x531_1 x531_2 x531_3 => if x10 ≤ x9 then (if 0 ≤ x10 then (if x10 < (x6.length : Int) then (.to (.l1 x5 (x6.set (x10 : Int).toNat true) x7 x9 (wrap64 (x10 + 1)) x1000 x1001 x531_0 x531_1 x531_2 x531_3)) else (.bad)) else (.bad)) else (.to (.l0 x5 x6 (wrap64 (x7 + 1)) x1000 x1001 x531_0 x531_1 x531_2 x531_3))
  | .l2 x11 x100 x101 x102 x1000 x1001 x531_0 x531_1 x531_2 x531_3 => if x102 < x101 then (if 0 ≤ x102 then (if x102 < (x100.length : Int) then (if (rdOf false x100 x102) = true then (if x11.length < 140737488355328 then (.to (.l2 ((x11 ++ [((x102) % 256)])) x100 x101 (wrap64 (x102 + 1)) x1000 x1001 x531_0 x531_1 x531_2 x531_3)) else (.bad)) else (.to (.l2 x11 x100 x101 (wrap64 (x102 + 1)) x1000 x1001 x531_0 x531_1 x531_2 x531_3))) else (.bad)) else (.bad)) else (.ret (x531_0, x531_1, (strOfNums x11), x531_3, ([] : List S115), x1000, x1001))
def impl_rexReader_set.fv (s0_0 : ByteArray) (s0_1 : Bool) : Option (Int × Int × ByteArray × Bool × (List S115) × ByteArray × Bool) := lim impl_rexReader_set.B (.f s0_0 s0_1)
def impl_rexReader_set.l0v (x5 : ByteArray) (x6 : List Bool) (x7 : Int) (x1000 : ByteArray) (x1001 : Bool) (x531_0 : Int) (x531_1 : Int) (x531_2 : ByteArray) (x531_3 : Bool) : Option (Int × Int × ByteArray × Bool × (List S115) × ByteArray × Bool) := lim impl_rexReader_set.B (.l0 x5 x6 x7 x1000 x1001 x531_0 x531_1 x531_2 x531_3)
def impl_rexReader_set.j2v (x5 : ByteArray) (x6 : List Bool) (x7 : Int) (x8 : Int) (x9 : Int) (x1000 : ByteArray) (x1001 : Bool) (x531_0 : Int) (x531_1 : Int) (x531_2 : ByteArray) (x531_3 : Bool) : Option (Int × Int × ByteArray × Bool × (List S115) × ByteArray × Bool) := lim impl_rexReader_set.B (.j2 x5 x6 x7 x8 x9 x1000 x1001 x531_0 x531_1 x531_2 x531_3)
def impl_rexReader_set.j1v (x5 : ByteArray) (x6 : List Bool) (x7 : Int) (x8 : Int) (x9 : Int) (x70 : Bool) (x1000 : ByteArray) (x1001 : Bool) (x531_0 : Int) (x531_1 : Int) (x531_2 : ByteArray) (x531_3 : Bool) : Option (Int × Int × ByteArray × Bool × (List S115) × ByteArray × Bool) := lim impl_rexReader_set.B (.j1 x5 x6 x7 x8 x9 x70 x1000 x1001 x531_0 x531_1 x531_2 x531_3)
def impl_rexReader_set.l1v (x5 : ByteArray) (x6 : List Bool) (x7 : Int) (x9 : Int) (x10 : Int) (x1000 : ByteArray) (x1001 : Bool) (x531_0 : Int) (x531_1 : Int) (x531_2 : ByteArray) (x531_3 : Bool) : Option (Int × Int × ByteArray × Bool × (List S115) × ByteArray × Bool) := lim impl_rexReader_set.B (.l1 x5 x6 x7 x9 x10 x1000 x1001 x531_0 x531_1 x531_2 x531_3)
def impl_rexReader_set.l2v (x11 : List Int) (x100 : List Bool) (x101 : Int) (x102 : Int) (x1000 : ByteArray) (x1001 : Bool) (x531_0 : Int) (x531_1 : Int) (x531_2 : ByteArray) (x531_3 : Bool) : Option (Int × Int × ByteArray × Bool × (List S115) × ByteArray × Bool) := lim impl_rexReader_set.B (.l2 x11 x100 x101 x102 x1000 x1001 x531_0 x531_1 x531_2 x531_3)
theorem impl_rexReader_set.fv_eq (s0_0 : ByteArray) (s0_1 : Bool) : impl_rexReader_set.fv s0_0 s0_1 = ((impl_rexReader_take.f s0_0 s0_1 94).bind fun t15 => ((strings_IndexByte.f t15.2.1 93).bind fun t21 => (if t21 < 1 then (some (0, 0, (⟨#[]⟩ : ByteArray), false, ([] : List S115), t15.2.1, true)) else (if 0 ≤ t21 then (if t21 ≤ (t15.2.1.size : Int) then (if 0 ≤ (wrap64 (t21 + 1)) then (if (wrap64 (t21 + 1)) ≤ (t15.2.1.size : Int) then (if 256 ≤ 281474976710656 then (impl_rexReader_set.l0v (t15.2.1.extract 0 (t21 : Int).toNat) (List.replicate 256 false) 0 ((t15.2.1.extract ((wrap64 (t21 + 1)) : Int).toNat t15.2.1.size)) t15.2.2 3 0 (⟨#[]⟩ : ByteArray) t15.1) else (none)) else (none)) else (none)) else (none)) else (none))))) := by
  show lim impl_rexReader_set.B (.f s0_0 s0_1) = _
  rw [lim_eq, impl_rexReader_set.B]
  simp only [ev_ite, ev_opt, ev_ask, ev_to, ev_ret, ev_bad]
  try rfl
theorem impl_rexReader_set.l0v_eq (x5 : ByteArray) (x6 : List Bool) (x7 : Int) (x1000 : ByteArray) (x1001 : Bool) (x531_0 : Int) (x531_1 : Int) (x531_2 : ByteArray) (x531_3 : Bool) : impl_rexReader_set.l0v x5 x6 x7 x1000 x1001 x531_0 x531_1 x531_2 x531_3 = (if x7 < (x5.size : Int) then (if 0 ≤ x7 then (if (wrap64 (x7 + 2)) < (x5.size : Int) then (if 0 ≤ (wrap64 (x7 + 1)) then (if (wrap64 (x7 + 1)) < (x5.size : Int) then (impl_rexReader_set.j1v x5 x6 x7 (wrap64 (bt x5 x7)) (wrap64 (bt x5 x7)) (((bt x5 (wrap64 (x7 + 1))) == 45)) x1000 x1001 x531_0 x531_1 x531_2 x531_3) else (none)) else (none)) else (impl_rexReader_set.j1v x5 x6 x7 (wrap64 (bt x5 x7)) (wrap64 (bt x5 x7)) false x1000 x1001 x531_0 x531_1 x531_2 x531_3)) else (none)) else (impl_rexReader_set.l2v ([] : List Int) x6 (x6.length : Int) 0 x1000 x1001 x531_0 x531_1 x531_2 x531_3)) := by
  show lim impl_rexReader_set.B (.l0 x5 x6 x7 x1000 x1001 x531_0 x531_1 x531_2 x531_3) = _
  rw [lim_eq, impl_rexReader_set.B]
  simp only [ev_ite, ev_opt, ev_ask, ev_to, ev_ret, ev_bad]
  try rfl
theorem impl_rexReader_set.j2v_eq (x5 : ByteArray) (x6 : List Bool) (x7 : Int) (x8 : Int) (x9 : Int) (x1000 : ByteArray) (x1001 : Bool) (x531_0 : Int) (x531_1 : Int) (x531_2 : ByteArray) (x531_3 : Bool) : impl_rexReader_set.j2v x5 x6 x7 x8 x9 x1000 x1001 x531_0 x531_1 x531_2 x531_3 = (impl_rexReader_set.l1v x5 x6 x7 x9 x8 x1000 x1001 x531_0 x531_1 x531_2 x531_3) := by
  show lim impl_rexReader_set.B (.j2 x5 x6 x7 x8 x9 x1000 x1001 x531_0 x531_1 x531_2 x531_3) = _
  rw [lim_eq, impl_rexReader_set.B]
  simp only [ev_ite, ev_opt, ev_ask, ev_to, ev_ret, ev_bad]
  try rfl
theorem impl_rexReader_set.j1v_eq (x5 : ByteArray) (x6 : List Bool) (x7 : Int) (x8 : Int) (x9 : Int) (x70 : Bool) (x1000 : ByteArray) (x1001 : Bool) (x531_0 : Int) (x531_1 : Int) (x531_2 : ByteArray) (x531_3 : Bool) : impl_rexReader_set.j1v x5 x6 x7 x8 x9 x70 x1000 x1001 x531_0 x531_1 x531_2 x531_3 = (if x70 = true then (if 0 ≤ (wrap64 (x7 + 2)) then (if (wrap64 (x7 + 2)) < (x5.size : Int) then (if x1001 = true then (impl_rexReader_set.j2v x5 x6 (wrap64 (x7 + 2)) x8 ((wrap64 (bt x5 (wrap64 (x7 + 2))))) x1000 true x531_0 x531_1 x531_2 x531_3) else (impl_rexReader_set.j2v x5 x6 (wrap64 (x7 + 2)) x8 ((wrap64 (bt x5 (wrap64 (x7 + 2))))) x1000 ((decide ((wrap64 (bt x5 (wrap64 (x7 + 2)))) < x8))) x531_0 x531_1 x531_2 x531_3)) else (none)) else (none)) else (impl_rexReader_set.j2v x5 x6 x7 x8 x9 x1000 x1001 x531_0 x531_1 x531_2 x531_3)) := by
  show lim impl_rexReader_set.B (.j1 x5 x6 x7 x8 x9 x70 x1000 x1001 x531_0 x531_1 x531_2 x531_3) = _
  rw [lim_eq, impl_rexReader_set.B]
  simp only [ev_ite, ev_opt, ev_ask, ev_to, ev_ret, ev_bad]
  try rfl
theorem impl_rexReader_set.l1v_eq (x5 : ByteArray) (x6 : List Bool) (x7 : Int) (x9 : Int) (x10 : Int) (x1000 : ByteArray) (x1001 : Bool) (x531_0 : Int) (x531_1 : Int) (x531_2 : ByteArray) (x531_3 : Bool) : impl_rexReader_set.l1v x5 x6 x7 x9 x10 x1000 x1001 x531_0 x531_1 x531_2 x531_3 = (if x10 ≤ x9 then (if 0 ≤ x10 then (if x10 < (x6.length : Int) then (impl_rexReader_set.l1v x5 (x6.set (x10 : Int).toNat true) x7 x9 (wrap64 (x10 + 1)) x1000 x1001 x531_0 x531_1 x531_2 x531_3) else (none)) else (none)) else (impl_rexReader_set.l0v x5 x6 (wrap64 (x7 + 1)) x1000 x1001 x531_0 x531_1 x531_2 x531_3)) := by
  show lim impl_rexReader_set.B (.l1 x5 x6 x7 x9 x10 x1000 x1001 x531_0 x531_1 x531_2 x531_3) = _
  rw [lim_eq, impl_rexReader_set.B]
  simp only [ev_ite, ev_opt, ev_ask, ev_to, ev_ret, ev_bad]
  try rfl
theorem impl_rexReader_set.l2v_eq (x11 : List Int) (x100 : List Bool) (x101 : Int) (x102 : Int) (x1000 : ByteArray) (x1001 : Bool) (x531_0 : Int) (x531_1 : Int) (x531_2 : ByteArray) (x531_3 : Bool) : impl_rexReader_set.l2v x11 x100 x101 x102 x1000 x1001 x531_0 x531_1 x531_2 x531_3 = (if x102 < x101 then (if 0 ≤ x102 then (if x102 < (x100.length : Int) then (if (rdOf false x100 x102) = true then (if x11.length < 140737488355328 then (impl_rexReader_set.l2v ((x11 ++ [((x102) % 256)])) x100 x101 (wrap64 (x102 + 1)) x1000 x1001 x531_0 x531_1 x531_2 x531_3) else (none)) else (impl_rexReader_set.l2v x11 x100 x101 (wrap64 (x102 + 1)) x1000 x1001 x531_0 x531_1 x531_2 x531_3)) else (none)) else (none)) else (some (x531_0, x531_1, (strOfNums x11), x531_3, ([] : List S115), x1000, x1001))) := by
  show lim impl_rexReader_set.B (.l2 x11 x100 x101 x102 x1000 x1001 x531_0 x531_1 x531_2 x531_3) = _
  rw [lim_eq, impl_rexReader_set.B]
  simp only [ev_ite, ev_opt, ev_ask, ev_to, ev_ret, ev_bad]
  try rfl
def impl_repeatOf.f (a0 : Int) : Option (Int) := if a0 = 42 then (some 8) else (if a0 = 43 then (some 9) else (if a0 = 63 then (some 10) else (some 0)))
inductive impl_rexReader_pattern.Q where
  | impl_rexReader_pattern_f (s0_0 : ByteArray) (s0_1 : Bool)
  | impl_rexReader_pattern_l0 (x3 : List S115) (x1000 : ByteArray) (x1001 : Bool)
  | impl_rexReader_part_f (s0_0 : ByteArray) (s0_1 : Bool)
  | impl_rexReader_part_j1 (x3 : List S115) (x1000 : ByteArray) (x1001 : Bool)
  | impl_rexReader_part_l0 (x3 : List S115) (x1000 : ByteArray) (x1001 : Bool)
  | impl_rexReader_piece_f (s0_0 : ByteArray) (s0_1 : Bool)
  | impl_rexReader_piece_l0 (x1000 : ByteArray) (x1001 : Bool) (x530_0 : Int) (x530_1 : Int) (x530_2 : ByteArray) (x530_3 : Bool) (x530_4 : List S115)
  | impl_rexReader_atom_f (s0_0 : ByteArray) (s0_1 : Bool)
def impl_rexReader_pattern.B : impl_rexReader_pattern.Q → Pg impl_rexReader_pattern.Q (fun _ => Int × Int × ByteArray × Bool × (List S115) × ByteArray × Bool) (Int × Int × ByteArray × Bool × (List S115) × ByteArray × Bool)
  | .impl_rexReader_pattern_f s0_0 s0_1 => .ask (.impl_rexReader_part_f s0_0 s0_1) fun (t5 : Int × Int × ByteArray × Bool × (List S115) × ByteArray × Bool) => (.to (.impl_rexReader_pattern_l0 ([(⟨t5.1, t5.2.1, t5.2.2.1, t5.2.2.2.1, t5.2.2.2.2.1⟩ : S115)] : List S115) t5.2.2.2.2.2.1 t5.2.2.2.2.2.2))
  | .impl_rexReader_pattern_l0 x3 x1000 x1001 => .opt (impl_rexReader_take.f x1000 x1001 124) fun t8 => (if t8.1 = true then (.ask (.impl_rexReader_part_f t8.2.1 t8.2.2) fun (t11 : Int × Int × ByteArray × Bool × (List S115) × ByteArray × Bool) => (if x3.length < 2199023255552 then (.to (.impl_rexReader_pattern_l0 (x3 ++ [(⟨t11.1, t11.2.1, t11.2.2.1, t11.2.2.2.1, t11.2.2.2.2.1⟩ : S115)]) t11.2.2.2.2.2.1 t11.2.2.2.2.2.2)) else (.bad))) else (if (x3.length : Int) = 1 then (if 0 < (x3.length : Int) then (.ret ((rd_T115 x3 0).f0, (rd_T115 x3 0).f1, (rd_T115 x3 0).f2, (rd_T115 x3 0).f3, (rd_T115 x3 0).f4, t8.2.1, t8.2.2)) else (.bad)) else (.ret (7, 0, (⟨#[]⟩ : ByteArray), false, x3, t8.2.1, t8.2.2))))
  | .impl_rexReader_part_f s0_0 s0_1 => .to (.impl_rexReader_part_l0 ([] : List S115) s0_0 s0_1)
  | .impl_rexReader_part_j1 x3 x1000 x1001 => if (x3.length : Int) = 0 then (.ret (11, 0, (⟨#[]⟩ : ByteArray), false, ([] : List S115), x1000, x1001)) else (if (x3.length : Int) = 1 then (if 0 < (x3.length : Int) then (.ret ((rd_T115 x3 0).f0, (rd_T115 x3 0).f1, (rd_T115 x3 0).f2, (rd_T115 x3 0).f3, (rd_T115 x3 0).f4, x1000, x1001)) else (.bad)) else (.ret (6, 0, (⟨#[]⟩ : ByteArray), false, x3, x1000, x1001)))
  | .impl_rexReader_part_l0 x3 x1000 x1001 => .opt (impl_rexReader_next.f x1000 x1001) fun t9 => (if t9.2.1 = true then (if t9.1 = 124 then (.to (.impl_rexReader_part_j1 x3 t9.2.2.1 t9.2.2.2)) else (if t9.1 = 41 then (.to (.impl_rexReader_part_j1 x3 t9.2.2.1 t9.2.2.2)) else (.ask (.impl_rexReader_piece_f t9.2.2.1 t9.2.2.2) fun (t24 : Int × Int × ByteArray × Bool × (List S115) × ByteArray × Bool) => (if x3.length < 2199023255552 then (.to (.impl_rexReader_part_l0 (x3 ++ [(⟨t24.1, t24.2.1, t24.2.2.1, t24.2.2.2.1, t24.2.2.2.2.1⟩ : S115)]) t24.2.2.2.2.2.1 t24.2.2.2.2.2.2)) else (.bad))))) else (.to (.impl_rexReader_part_j1 x3 t9.2.2.1 t9.2.2.2)))
  | .impl_rexReader_piece_f s0_0 s0_1 => .ask (.impl_rexReader_atom_f s0_0 s0_1) fun (t7 : Int × Int × ByteArray × Bool × (List S115) × ByteArray × Bool) => (.to (.impl_rexReader_piece_l0 t7.2.2.2.2.2.1 t7.2.2.2.2.2.2 t7.1 t7.2.1 t7.2.2.1 t7.2.2.2.1 t7.2.2.2.2.1))
  | .impl_rexReader_piece_l0 x1000 x1001 x530_0 x530_1 x530_2 x530_3 x530_4 => .opt (impl_rexReader_next.f x1000 x1001) fun t10 => (if t10.2.1 = true then (.opt (impl_repeatOf.f t10.1) fun t17 => (if t17 = 0 then (.ret (x530_0, x530_1, x530_2, x530_3, x530_4, t10.2.2.1, t10.2.2.2)) else (if 1 ≤ (t10.2.2.1.size : Int) then (.opt (impl_repeatOf.f t10.1) fun t30 => (.to (.impl_rexReader_piece_l0 (t10.2.2.1.extract 1 t10.2.2.1.size) t10.2.2.2 t30 0 (⟨#[]⟩ : ByteArray) false ([(⟨x530_0, x530_1, x530_2, x530_3, x530_4⟩ : S115)] : List S115)))) else (.bad)))) else (.ret (x530_0, x530_1, x530_2, x530_3, x530_4, t10.2.2.1, t10.2.2.2)))
  | .impl_rexReader_atom_f s0_0 s0_1 => .opt (impl_rexReader_next.f s0_0 s0_1) fun t10 => (if 1 ≤ (t10.2.2.1.size : Int) then (if t10.1 = 40 then (.ask (.impl_rexReader_pattern_f (t10.2.2.1.extract 1 t10.2.2.1.size) t10.2.2.2) fun (t25 : Int × Int × ByteArray × Bool × (List S115) × ByteArray × Bool) => (.opt (impl_rexReader_take.f t25.2.2.2.2.2.1 t25.2.2.2.2.2.2 41) fun t27 => (if t27.1 = true then (.ret (t25.1, t25.2.1, t25.2.2.1, t25.2.2.2.1, t25.2.2.2.2.1, t27.2.1, t27.2.2)) else (.ret (t25.1, t25.2.1, t25.2.2.1, t25.2.2.2.1, t25.2.2.2.2.1, t27.2.1, true))))) else (if t10.1 = 46 then (.ret (2, 0, (⟨#[]⟩ : ByteArray), false, ([] : List S115), (t10.2.2.1.extract 1 t10.2.2.1.size), t10.2.2.2)) else (if t10.1 = 94 then (.ret (4, 0, (⟨#[]⟩ : ByteArray), false, ([] : List S115), (t10.2.2.1.extract 1 t10.2.2.1.size), t10.2.2.2)) else (if t10.1 = 36 then (.ret (5, 0, (⟨#[]⟩ : ByteArray), false, ([] : List S115), (t10.2.2.1.extract 1 t10.2.2.1.size), t10.2.2.2)) else (if t10.1 = 91 then (.opt (impl_rexReader_set.fv (t10.2.2.1.extract 1 t10.2.2.1.size) t10.2.2.2) fun t45 => (.ret (t45.1, t45.2.1, t45.2.2.1, t45.2.2.2.1, t45.2.2.2.2.1, t45.2.2.2.2.2.1, t45.2.2.2.2.2.2))) else (if t10.1 = 92 then (.opt (impl_rexReader_next.f (t10.2.2.1.extract 1 t10.2.2.1.size) t10.2.2.2) fun t50 => (if t50.2.1 = true then (if 1 ≤ (t50.2.2.1.size : Int) then (.ret (1, (wrap64 (t50.1)), (⟨#[]⟩ : ByteArray), false, ([] : List S115), (t50.2.2.1.extract 1 t50.2.2.1.size), t50.2.2.2)) else (.bad)) else (.ret (0, 0, (⟨#[]⟩ : ByteArray), false, ([] : List S115), t50.2.2.1, true)))) else (if t10.1 = 42 then (.ret (0, 0, (⟨#[]⟩ : ByteArray), false, ([] : List S115), (t10.2.2.1.extract 1 t10.2.2.1.size), true)) else (if t10.1 = 43 then (.ret (0, 0, (⟨#[]⟩ : ByteArray), false, ([] : List S115), (t10.2.2.1.extract 1 t10.2.2.1.size), true)) else (if t10.1 = 63 then (.ret (0, 0, (⟨#[]⟩ : ByteArray), false, ([] : List S115), (t10.2.2.1.extract 1 t10.2.2.1.size), true)) else (.ret (1, (wrap64 (t10.1)), (⟨#[]⟩ : ByteArray), false, ([] : List S115), (t10.2.2.1.extract 1 t10.2.2.1.size), t10.2.2.2))))))))))) else (.bad))
def impl_rexReader_pattern.fv (s0_0 : ByteArray) (s0_1 : Bool) : Option (Int × Int × ByteArray × Bool × (List S115) × ByteArray × Bool) := lim impl_rexReader_pattern.B (.impl_rexReader_pattern_f s0_0 s0_1)
def impl_rexReader_pattern.l0v (x3 : List S115) (x1000 : ByteArray) (x1001 : Bool) : Option (Int × Int × ByteArray × Bool × (List S115) × ByteArray × Bool) := lim impl_rexReader_pattern.B (.impl_rexReader_pattern_l0 x3 x1000 x1001)
def impl_rexReader_part.fv (s0_0 : ByteArray) (s0_1 : Bool) : Option (Int × Int × ByteArray × Bool × (List S115) × ByteArray × Bool) := lim impl_rexReader_pattern.B (.impl_rexReader_part_f s0_0 s0_1)
def impl_rexReader_part.j1v (x3 : List S115) (x1000 : ByteArray) (x1001 : Bool) : Option (Int × Int × ByteArray × Bool × (List S115) × ByteArray × Bool) := lim impl_rexReader_pattern.B (.impl_rexReader_part_j1 x3 x1000 x1001)
def impl_rexReader_part.l0v (x3 : List S115) (x1000 : ByteArray) (x1001 : Bool) : Option (Int × Int × ByteArray × Bool × (List S115) × ByteArray × Bool) := lim impl_rexReader_pattern.B (.impl_rexReader_part_l0 x3 x1000 x1001)
def impl_rexReader_piece.fv (s0_0 : ByteArray) (s0_1 : Bool) : Option (Int × Int × ByteArray × Bool × (List S115) × ByteArray × Bool) := lim impl_rexReader_pattern.B (.impl_rexReader_piece_f s0_0 s0_1)
def impl_rexReader_piece.l0v (x1000 : ByteArray) (x1001 : Bool) (x530_0 : Int) (x530_1 : Int) (x530_2 : ByteArray) (x530_3 : Bool) (x530_4 : List S115) : Option (Int × Int × ByteArray × Bool × (List S115) × ByteArray × Bool) := lim impl_rexReader_pattern.B (.impl_rexReader_piece_l0 x1000 x1001 x530_0 x530_1 x530_2 x530_3 x530_4)
def impl_rexReader_atom.fv (s0_0 : ByteArray) (s0_1 : Bool) : Option (Int × Int × ByteArray × Bool × (List S115) × ByteArray × Bool) := lim impl_rexReader_pattern.B (.impl_rexReader_atom_f s0_0 s0_1)
theorem impl_rexReader_pattern.fv_eq (s0_0 : ByteArray) (s0_1 : Bool) : impl_rexReader_pattern.fv s0_0 s0_1 = ((impl_rexReader_part.fv s0_0 s0_1).bind fun t5 => (impl_rexReader_pattern.l0v ([(⟨t5.1, t5.2.1, t5.2.2.1, t5.2.2.2.1, t5.2.2.2.2.1⟩ : S115)] : List S115) t5.2.2.2.2.2.1 t5.2.2.2.2.2.2)) := by
  show lim impl_rexReader_pattern.B (.impl_rexReader_pattern_f s0_0 s0_1) = _
  rw [lim_eq, impl_rexReader_pattern.B]
  simp only [ev_ite, ev_opt, ev_ask, ev_to, ev_ret, ev_bad]
  try rfl
theorem impl_rexReader_pattern.l0v_eq (x3 : List S115) (x1000 : ByteArray) (x1001 : Bool) : impl_rexReader_pattern.l0v x3 x1000 x1001 = ((impl_rexReader_take.f x1000 x1001 124).bind fun t8 => (if t8.1 = true then ((impl_rexReader_part.fv t8.2.1 t8.2.2).bind fun t11 => (if x3.length < 2199023255552 then (impl_rexReader_pattern.l0v (x3 ++ [(⟨t11.1, t11.2.1, t11.2.2.1, t11.2.2.2.1, t11.2.2.2.2.1⟩ : S115)]) t11.2.2.2.2.2.1 t11.2.2.2.2.2.2) else (none))) else (if (x3.length : Int) = 1 then (if 0 < (x3.length : Int) then (some ((rd_T115 x3 0).f0, (rd_T115 x3 0).f1, (rd_T115 x3 0).f2, (rd_T115 x3 0).f3, (rd_T115 x3 0).f4, t8.2.1, t8.2.2)) else (none)) else (some (7, 0, (⟨#[]⟩ : ByteArray), false, x3, t8.2.1, t8.2.2))))) := by
  show lim impl_rexReader_pattern.B (.impl_rexReader_pattern_l0 x3 x1000 x1001) = _
  rw [lim_eq, impl_rexReader_pattern.B]
  simp only [ev_ite, ev_opt, ev_ask, ev_to, ev_ret, ev_bad]
  try rfl
theorem impl_rexReader_part.fv_eq (s0_0 : ByteArray) (s0_1 : Bool) : impl_rexReader_part.fv s0_0 s0_1 = (impl_rexReader_part.l0v ([] : List S115) s0_0 s0_1) := by
  show lim impl_rexReader_pattern.B (.impl_rexReader_part_f s0_0 s0_1) = _
  rw [lim_eq, impl_rexReader_pattern.B]
  simp only [ev_ite, ev_opt, ev_ask, ev_to, ev_ret, ev_bad]
  try rfl
theorem impl_rexReader_part.j1v_eq (x3 : List S115) (x1000 : ByteArray) (x1001 : Bool) : impl_rexReader_part.j1v x3 x1000 x1001 = (if (x3.length : Int) = 0 then (some (11, 0, (⟨#[]⟩ : ByteArray), false, ([] : List S115), x1000, x1001)) else (if (x3.length : Int) = 1 then (if 0 < (x3.length : Int) then (some ((rd_T115 x3 0).f0, (rd_T115 x3 0).f1, (rd_T115 x3 0).f2, (rd_T115 x3 0).f3, (rd_T115 x3 0).f4, x1000, x1001)) else (none)) else (some (6, 0, (⟨#[]⟩ : ByteArray), false, x3, x1000, x1001)))) := by
  show lim impl_rexReader_pattern.B (.impl_rexReader_part_j1 x3 x1000 x1001) = _
  rw [lim_eq, impl_rexReader_pattern.B]
  simp only [ev_ite, ev_opt, ev_ask, ev_to, ev_ret, ev_bad]
  try rfl
theorem impl_rexReader_part.l0v_eq (x3 : List S115) (x1000 : ByteArray) (x1001 : Bool) : impl_rexReader_part.l0v x3 x1000 x1001 = ((impl_rexReader_next.f x1000 x1001).bind fun t9 => (if t9.2.1 = true then (if t9.1 = 124 then (impl_rexReader_part.j1v x3 t9.2.2.1 t9.2.2.2) else (if t9.1 = 41 then (impl_rexReader_part.j1v x3 t9.2.2.1 t9.2.2.2) else ((impl_rexReader_piece.fv t9.2.2.1 t9.2.2.2).bind fun t24 => (if x3.length < 2199023255552 then (impl_rexReader_part.l0v (x3 ++ [(⟨t24.1, t24.2.1, t24.2.2.1, t24.2.2.2.1, t24.2.2.2.2.1⟩ : S115)]) t24.2.2.2.2.2.1 t24.2.2.2.2.2.2) else (none))))) else (impl_rexReader_part.j1v x3 t9.2.2.1 t9.2.2.2))) := by
  show lim impl_rexReader_pattern.B (.impl_rexReader_part_l0 x3 x1000 x1001) = _
  rw [lim_eq, impl_rexReader_pattern.B]
  simp only [ev_ite, ev_opt, ev_ask, ev_to, ev_ret, ev_bad]
  try rfl
theorem impl_rexReader_piece.fv_eq (s0_0 : ByteArray) (s0_1 : Bool) : impl_rexReader_piece.fv s0_0 s0_1 = ((impl_rexReader_atom.fv s0_0 s0_1).bind fun t7 => (impl_rexReader_piece.l0v t7.2.2.2.2.2.1 t7.2.2.2.2.2.2 t7.1 t7.2.1 t7.2.2.1 t7.2.2.2.1 t7.2.2.2.2.1)) := by
  show lim impl_rexReader_pattern.B (.impl_rexReader_piece_f s0_0 s0_1) = _
  rw [lim_eq, impl_rexReader_pattern.B]
  simp only [ev_ite, ev_opt, ev_ask, ev_to, ev_ret, ev_bad]
  try rfl
theorem impl_rexReader_piece.l0v_eq (x1000 : ByteArray) (x1001 : Bool) (x530_0 : Int) (x530_1 : Int) (x530_2 : ByteArray) (x530_3 : Bool) (x530_4 : List S115) : impl_rexReader_piece.l0v x1000 x1001 x530_0 x530_1 x530_2 x530_3 x530_4 = ((impl_rexReader_next.f x1000 x1001).bind fun t10 => (if t10.2.1 = true then ((impl_repeatOf.f t10.1).bind fun t17 => (if t17 = 0 then (some (x530_0, x530_1, x530_2, x530_3, x530_4, t10.2.2.1, t10.2.2.2)) else (if 1 ≤ (t10.2.2.1.size : Int) then ((impl_repeatOf.f t10.1).bind fun t30 => (impl_rexReader_piece.l0v (t10.2.2.1.extract 1 t10.2.2.1.size) t10.2.2.2 t30 0 (⟨#[]⟩ : ByteArray) false ([(⟨x530_0, x530_1, x530_2, x530_3, x530_4⟩ : S115)] : List S115))) else (none)))) else (some (x530_0, x530_1, x530_2, x530_3, x530_4, t10.2.2.1, t10.2.2.2)))) := by
  show lim impl_rexReader_pattern.B (.impl_rexReader_piece_l0 x1000 x1001 x530_0 x530_1 x530_2 x530_3 x530_4) = _
  rw [lim_eq, impl_rexReader_pattern.B]
  simp only [ev_ite, ev_opt, ev_ask, ev_to, ev_ret, ev_bad]
  try rfl
theorem impl_rexReader_atom.fv_eq (s0_0 : ByteArray) (s0_1 : Bool) : impl_rexReader_atom.fv s0_0 s0_1 = ((impl_rexReader_next.f s0_0 s0_1).bind fun t10 => (if 1 ≤ (t10.2.2.1.size : Int) then (if t10.1 = 40 then ((impl_rexReader_pattern.fv (t10.2.2.1.extract 1 t10.2.2.1.size) t10.2.2.2).bind fun t25 => ((impl_rexReader_take.f t25.2.2.2.2.2.1 t25.2.2.2.2.2.2 41).bind fun t27 => (if t27.1 = true then (some (t25.1, t25.2.1, t25.2.2.1, t25.2.2.2.1, t25.2.2.2.2.1, t27.2.1, t27.2.2)) else (some (t25.1, t25.2.1, t25.2.2.1, t25.2.2.2.1, t25.2.2.2.2.1, t27.2.1, true))))) else (if t10.1 = 46 then (some (2, 0, (⟨#[]⟩ : ByteArray), false, ([] : List S115), (t10.2.2.1.extract 1 t10.2.2.1.size), t10.2.2.2)) else (if t10.1 = 94 then (some (4, 0, (⟨#[]⟩ : ByteArray), false, ([] : List S115), (t10.2.2.1.extract 1 t10.2.2.1.size), t10.2.2.2)) else (if t10.1 = 36 then (some (5, 0, (⟨#[]⟩ : ByteArray), false, ([] : List S115), (t10.2.2.1.extract 1 t10.2.2.1.size), t10.2.2.2)) else (if t10.1 = 91 then ((impl_rexReader_set.fv (t10.2.2.1.extract 1 t10.2.2.1.size) t10.2.2.2).bind fun t45 => (some (t45.1, t45.2.1, t45.2.2.1, t45.2.2.2.1, t45.2.2.2.2.1, t45.2.2.2.2.2.1, t45.2.2.2.2.2.2))) else (if t10.1 = 92 then ((impl_rexReader_next.f (t10.2.2.1.extract 1 t10.2.2.1.size) t10.2.2.2).bind fun t50 => (if t50.2.1 = true then (if 1 ≤ (t50.2.2.1.size : Int) then (some (1, (wrap64 (t50.1)), (⟨#[]⟩ : ByteArray), false, ([] : List S115), (t50.2.2.1.extract 1 t50.2.2.1.size), t50.2.2.2)) else (none)) else (some (0, 0, (⟨#[]⟩ : ByteArray), false, ([] : List S115), t50.2.2.1, true)))) else (if t10.1 = 42 then (some (0, 0, (⟨#[]⟩ : ByteArray), false, ([] : List S115), (t10.2.2.1.extract 1 t10.2.2.1.size), true)) else (if t10.1 = 43 then (some (0, 0, (⟨#[]⟩ : ByteArray), false, ([] : List S115), (t10.2.2.1.extract 1 t10.2.2.1.size), true)) else (if t10.1 = 63 then (some (0, 0, (⟨#[]⟩ : ByteArray), false, ([] : List S115), (t10.2.2.1.extract 1 t10.2.2.1.size), true)) else (some (1, (wrap64 (t10.1)), (⟨#[]⟩ : ByteArray), false, ([] : List S115), (t10.2.2.1.extract 1 t10.2.2.1.size), t10.2.2.2))))))))))) else (none))) := by
  show lim impl_rexReader_pattern.B (.impl_rexReader_atom_f s0_0 s0_1) = _
  rw [lim_eq, impl_rexReader_pattern.B]
  simp only [ev_ite, ev_opt, ev_ask, ev_to, ev_ret, ev_bad]
  try rfl
inductive impl_rexDeep.Q where
  | f (a0_0 : Int) (a0_1 : Int) (a0_2 : ByteArray) (a0_3 : Bool) (l0_4 : List S115)
  | l0 (x3 : Int) (x7 : List S115) (x8 : Int) (x9 : Int)
def impl_rexDeep.B : impl_rexDeep.Q → Pg impl_rexDeep.Q (fun _ => Int) (Int)
  | .f a0_0 a0_1 a0_2 a0_3 l0_4 => .to (.l0 0 l0_4 (l0_4.length : Int) 0)
  | .l0 x3 x7 x8 x9 => if x9 < x8 then (if 0 ≤ x9 then (if x9 < (x7.length : Int) then (.ask (.f ((rd_T115 x7 x9).f0) ((rd_T115 x7 x9).f1) ((rd_T115 x7 x9).f2) ((rd_T115 x7 x9).f3) ((rd_T115 x7 x9).f4)) fun (t15 : Int) => (.to (.l0 (mx x3 t15) x7 x8 (wrap64 (x9 + 1))))) else (.bad)) else (.bad)) else (.ret (wrap64 (x3 + 1)))
def impl_rexDeep.fv (a0_0 : Int) (a0_1 : Int) (a0_2 : ByteArray) (a0_3 : Bool) (l0_4 : List S115) : Option (Int) := lim impl_rexDeep.B (.f a0_0 a0_1 a0_2 a0_3 l0_4)
def impl_rexDeep.l0v (x3 : Int) (x7 : List S115) (x8 : Int) (x9 : Int) : Option (Int) := lim impl_rexDeep.B (.l0 x3 x7 x8 x9)
theorem impl_rexDeep.fv_eq (a0_0 : Int) (a0_1 : Int) (a0_2 : ByteArray) (a0_3 : Bool) (l0_4 : List S115) : impl_rexDeep.fv a0_0 a0_1 a0_2 a0_3 l0_4 = (impl_rexDeep.l0v 0 l0_4 (l0_4.length : Int) 0) := by
  show lim impl_rexDeep.B (.f a0_0 a0_1 a0_2 a0_3 l0_4) = _
  rw [lim_eq, impl_rexDeep.B]
  simp only [ev_ite, ev_opt, ev_ask, ev_to, ev_ret, ev_bad]
  try rfl
theorem impl_rexDeep.l0v_eq (x3 : Int) (x7 : List S115) (x8 : Int) (x9 : Int) : impl_rexDeep.l0v x3 x7 x8 x9 = (if x9 < x8 then (if 0 ≤ x9 then (if x9 < (x7.length : Int) then ((impl_rexDeep.fv ((rd_T115 x7 x9).f0) ((rd_T115 x7 x9).f1) ((rd_T115 x7 x9).f2) ((rd_T115 x7 x9).f3) ((rd_T115 x7 x9).f4)).bind fun t15 => (impl_rexDeep.l0v (mx x3 t15) x7 x8 (wrap64 (x9 + 1)))) else (none)) else (none)) else (some (wrap64 (x3 + 1)))) := by
  show lim impl_rexDeep.B (.l0 x3 x7 x8 x9) = _
  rw [lim_eq, impl_rexDeep.B]
  simp only [ev_ite, ev_opt, ev_ask, ev_to, ev_ret, ev_bad]
  try rfl
def impl_RexParse.fv (a0 : ByteArray) : Option (Int × Int × ByteArray × Bool × (List S115) × Bool) := if (a0.size : Int) > 60 then (some (0, 0, (⟨#[]⟩ : ByteArray), false, ([] : List S115), false)) else ((impl_rexReader_pattern.fv a0 false).bind fun t14 => (if t14.2.2.2.2.2.2 = true then (some (0, 0, (⟨#[]⟩ : ByteArray), false, ([] : List S115), false)) else (if t14.2.2.2.2.2.1.toList = ([] : List UInt8) then ((impl_rexDeep.fv t14.1 t14.2.1 t14.2.2.1 t14.2.2.2.1 t14.2.2.2.2.1).bind fun t28 => (if t28 > 12 then (some (0, 0, (⟨#[]⟩ : ByteArray), false, ([] : List S115), false)) else (some (t14.1, t14.2.1, t14.2.2.1, t14.2.2.2.1, t14.2.2.2.2.1, true)))) else (some (0, 0, (⟨#[]⟩ : ByteArray), false, ([] : List S115), false)))))
theorem impl_RexParse.fv_eq (a0 : ByteArray) : impl_RexParse.fv a0 = (if (a0.size : Int) > 60 then (some (0, 0, (⟨#[]⟩ : ByteArray), false, ([] : List S115), false)) else ((impl_rexReader_pattern.fv a0 false).bind fun t14 => (if t14.2.2.2.2.2.2 = true then (some (0, 0, (⟨#[]⟩ : ByteArray), false, ([] : List S115), false)) else (if t14.2.2.2.2.2.1.toList = ([] : List UInt8) then ((impl_rexDeep.fv t14.1 t14.2.1 t14.2.2.1 t14.2.2.2.1 t14.2.2.2.2.1).bind fun t28 => (if t28 > 12 then (some (0, 0, (⟨#[]⟩ : ByteArray), false, ([] : List S115), false)) else (some (t14.1, t14.2.1, t14.2.2.1, t14.2.2.2.1, t14.2.2.2.2.1, true)))) else (some (0, 0, (⟨#[]⟩ : ByteArray), false, ([] : List S115), false)))))) := by rw [impl_RexParse.fv]
def impl_isRex.fv (a0 : ByteArray) : Option (Bool) := (impl_RexParse.fv a0).bind fun t7 => (some t7.2.2.2.2.2)
theorem impl_isRex.fv_eq (a0 : ByteArray) : impl_isRex.fv a0 = ((impl_RexParse.fv a0).bind fun t7 => (some t7.2.2.2.2.2)) := by rw [impl_isRex.fv]
inductive impl_opRight.Q where
  | f (a0_0 : Int) (a0_1 : Int) (a0_2 : ByteArray) (a1 : Int) (a2 : Int) (a3 : Int)
  | j0 (x1 : Int) (x2 : Int) (x3 : Int) (x54 : Bool) (x16_0 : Int) (x16_1 : Int) (x16_2 : ByteArray)
  | j1 (x1 : Int) (x2 : Int) (x3 : Int) (x56 : Int) (x62 : Bool) (x16_0 : Int) (x16_1 : Int) (x16_2 : ByteArray)
  | j2 (x1 : Int) (x3 : Int) (x56 : Int) (x75 : Bool) (x16_0 : Int) (x16_1 : Int) (x16_2 : ByteArray)
  | j3 (x1 : Int) (x56 : Int) (x89 : Bool) (x16_0 : Int) (x16_1 : Int) (x16_2 : ByteArray)
  | j4 (x1 : Int) (x56 : Int) (x106 : Bool) (x16_0 : Int) (x16_1 : Int) (x16_2 : ByteArray)
def impl_opRight.B : impl_opRight.Q → Pg impl_opRight.Q (fun _ => Bool) (Bool)
  | .f a0_0 a0_1 a0_2 a1 a2 a3 => .opt (impl_opName.fv a0_0) fun t14 => (if t14.1.toList = ([] : List UInt8) then (.to (.j0 a1 a2 a3 true a0_0 a0_1 a0_2)) else (if t14.2.toList = ([] : List UInt8) then (if a0_1 = 0 then (if a0_2.toList = ([] : List UInt8) then (if t14.2.toList = ([115] : List UInt8) then (if t14.2.toList = ([110] : List UInt8) then (.to (.j0 a1 a2 a3 ((!(a0_2.toList == (⟨#[]⟩ : ByteArray).toList))) a0_0 a0_1 a0_2)) else (if t14.2.toList = ([100] : List UInt8) then (.to (.j0 a1 a2 a3 ((!(a0_2.toList == (⟨#[]⟩ : ByteArray).toList))) a0_0 a0_1 a0_2)) else (.to (.j0 a1 a2 a3 false a0_0 a0_1 a0_2)))) else (if t14.2.toList = ([110] : List UInt8) then (.to (.j0 a1 a2 a3 ((!(a0_2.toList == (⟨#[]⟩ : ByteArray).toList))) a0_0 a0_1 a0_2)) else (if t14.2.toList = ([100] : List UInt8) then (.to (.j0 a1 a2 a3 ((!(a0_2.toList == (⟨#[]⟩ : ByteArray).toList))) a0_0 a0_1 a0_2)) else (.to (.j0 a1 a2 a3 false a0_0 a0_1 a0_2))))) else (.to (.j0 a1 a2 a3 true a0_0 a0_1 a0_2))) else (.to (.j0 a1 a2 a3 true a0_0 a0_1 a0_2))) else (if t14.2.toList = ([115] : List UInt8) then (if a0_1 = 0 then (if t14.2.toList = ([110] : List UInt8) then (.to (.j0 a1 a2 a3 ((!(a0_2.toList == (⟨#[]⟩ : ByteArray).toList))) a0_0 a0_1 a0_2)) else (if t14.2.toList = ([100] : List UInt8) then (.to (.j0 a1 a2 a3 ((!(a0_2.toList == (⟨#[]⟩ : ByteArray).toList))) a0_0 a0_1 a0_2)) else (.to (.j0 a1 a2 a3 false a0_0 a0_1 a0_2)))) else (.to (.j0 a1 a2 a3 true a0_0 a0_1 a0_2))) else (if t14.2.toList = ([110] : List UInt8) then (.to (.j0 a1 a2 a3 ((!(a0_2.toList == (⟨#[]⟩ : ByteArray).toList))) a0_0 a0_1 a0_2)) else (if t14.2.toList = ([100] : List UInt8) then (.to (.j0 a1 a2 a3 ((!(a0_2.toList == (⟨#[]⟩ : ByteArray).toList))) a0_0 a0_1 a0_2)) else (.to (.j0 a1 a2 a3 false a0_0 a0_1 a0_2)))))))
  | .j0 x1 x2 x3 x54 x16_0 x16_1 x16_2 => if x54 = true then (.ret false) else (if x16_0 = 1 then (.opt (impl_DecOk.f x16_1) fun t61 => (.ret t61)) else (if x16_0 = 3 then (.to (.j1 x1 x2 x3 x16_0 (x16_0 == 3) x16_0 x16_1 x16_2)) else (if x16_0 = 4 then (.to (.j1 x1 x2 x3 x16_0 (x16_0 == 4) x16_0 x16_1 x16_2)) else (.to (.j1 x1 x2 x3 x16_0 (x16_0 == 5) x16_0 x16_1 x16_2)))))
  | .j1 x1 x2 x3 x56 x62 x16_0 x16_1 x16_2 => if x62 = true then (if x16_1 ≥ 0 then (.ret (decide (x16_1 < x2))) else (.ret false)) else (if x56 = 6 then (.to (.j2 x1 x3 x56 (x56 == 6) x16_0 x16_1 x16_2)) else (if x56 = 7 then (.to (.j2 x1 x3 x56 (x56 == 7) x16_0 x16_1 x16_2)) else (if x56 = 8 then (.to (.j2 x1 x3 x56 (x56 == 8) x16_0 x16_1 x16_2)) else (.to (.j2 x1 x3 x56 (x56 == 35) x16_0 x16_1 x16_2)))))
  | .j2 x1 x3 x56 x75 x16_0 x16_1 x16_2 => if x75 = true then (if x16_1 ≥ 0 then (.ret (decide (x16_1 < x3))) else (.ret false)) else (if x56 = 24 then (.to (.j3 x1 x56 (x56 == 24) x16_0 x16_1 x16_2)) else (.to (.j3 x1 x56 (x56 == 25) x16_0 x16_1 x16_2)))
  | .j3 x1 x56 x89 x16_0 x16_1 x16_2 => if x89 = true then (.opt (impl_isRex.fv x16_2) fun t94 => (.ret t94)) else (if x56 = 29 then (.opt (impl_in.f x16_1 1 3) fun t99 => (if t99 = true then (.opt (impl_calls.f) fun t101 => (.opt (slices_Contains_string_string.fv t101 x16_2) fun t104 => (.ret t104))) else (.ret false))) else (if x56 = 30 then (.to (.j4 x1 x56 (x56 == 30) x16_0 x16_1 x16_2)) else (.to (.j4 x1 x56 (x56 == 31) x16_0 x16_1 x16_2))))
  | .j4 x1 x56 x106 x16_0 x16_1 x16_2 => if x106 = true then (.opt (impl_in.f x16_1 0 (wrap64 (x1 - 1))) fun t113 => (.ret t113)) else (if x56 = 33 then (.opt (impl_in.f x16_1 0 1) fun t118 => (.ret t118)) else (.ret true))
def impl_opRight.fv (a0_0 : Int) (a0_1 : Int) (a0_2 : ByteArray) (a1 : Int) (a2 : Int) (a3 : Int) : Option (Bool) := lim impl_opRight.B (.f a0_0 a0_1 a0_2 a1 a2 a3)
def impl_opRight.j0v (x1 : Int) (x2 : Int) (x3 : Int) (x54 : Bool) (x16_0 : Int) (x16_1 : Int) (x16_2 : ByteArray) : Option (Bool) := lim impl_opRight.B (.j0 x1 x2 x3 x54 x16_0 x16_1 x16_2)
def impl_opRight.j1v (x1 : Int) (x2 : Int) (x3 : Int) (x56 : Int) (x62 : Bool) (x16_0 : Int) (x16_1 : Int) (x16_2 : ByteArray) : Option (Bool) := lim impl_opRight.B (.j1 x1 x2 x3 x56 x62 x16_0 x16_1 x16_2)
def impl_opRight.j2v (x1 : Int) (x3 : Int) (x56 : Int) (x75 : Bool) (x16_0 : Int) (x16_1 : Int) (x16_2 : ByteArray) : Option (Bool) := lim impl_opRight.B (.j2 x1 x3 x56 x75 x16_0 x16_1 x16_2)
def impl_opRight.j3v (x1 : Int) (x56 : Int) (x89 : Bool) (x16_0 : Int) (x16_1 : Int) (x16_2 : ByteArray) : Option (Bool) := lim impl_opRight.B (.j3 x1 x56 x89 x16_0 x16_1 x16_2)
def impl_opRight.j4v (x1 : Int) (x56 : Int) (x106 : Bool) (x16_0 : Int) (x16_1 : Int) (x16_2 : ByteArray) : Option (Bool) := lim impl_opRight.B (.j4 x1 x56 x106 x16_0 x16_1 x16_2)
theorem impl_opRight.fv_eq (a0_0 : Int) (a0_1 : Int) (a0_2 : ByteArray) (a1 : Int) (a2 : Int) (a3 : Int) : impl_opRight.fv a0_0 a0_1 a0_2 a1 a2 a3 = ((impl_opName.fv a0_0).bind fun t14 => (if t14.1.toList = ([] : List UInt8) then (impl_opRight.j0v a1 a2 a3 true a0_0 a0_1 a0_2) else (if t14.2.toList = ([] : List UInt8) then (if a0_1 = 0 then (if a0_2.toList = ([] : List UInt8) then (if t14.2.toList = ([115] : List UInt8) then (if t14.2.toList = ([110] : List UInt8) then (impl_opRight.j0v a1 a2 a3 ((!(a0_2.toList == (⟨#[]⟩ : ByteArray).toList))) a0_0 a0_1 a0_2) else (if t14.2.toList = ([100] : List UInt8) then (impl_opRight.j0v a1 a2 a3 ((!(a0_2.toList == (⟨#[]⟩ : ByteArray).toList))) a0_0 a0_1 a0_2) else (impl_opRight.j0v a1 a2 a3 false a0_0 a0_1 a0_2))) else (if t14.2.toList = ([110] : List UInt8) then (impl_opRight.j0v a1 a2 a3 ((!(a0_2.toList == (⟨#[]⟩ : ByteArray).toList))) a0_0 a0_1 a0_2) else (if t14.2.toList = ([100] : List UInt8) then (impl_opRight.j0v a1 a2 a3 ((!(a0_2.toList == (⟨#[]⟩ : ByteArray).toList))) a0_0 a0_1 a0_2) else (impl_opRight.j0v a1 a2 a3 false a0_0 a0_1 a0_2)))) else (impl_opRight.j0v a1 a2 a3 true a0_0 a0_1 a0_2)) else (impl_opRight.j0v a1 a2 a3 true a0_0 a0_1 a0_2)) else (if t14.2.toList = ([115] : List UInt8) then (if a0_1 = 0 then (if t14.2.toList = ([110] : List UInt8) then (impl_opRight.j0v a1 a2 a3 ((!(a0_2.toList == (⟨#[]⟩ : ByteArray).toList))) a0_0 a0_1 a0_2) else (if t14.2.toList = ([100] : List UInt8) then (impl_opRight.j0v a1 a2 a3 ((!(a0_2.toList == (⟨#[]⟩ : ByteArray).toList))) a0_0 a0_1 a0_2) else (impl_opRight.j0v a1 a2 a3 false a0_0 a0_1 a0_2))) else (impl_opRight.j0v a1 a2 a3 true a0_0 a0_1 a0_2)) else (if t14.2.toList = ([110] : List UInt8) then (impl_opRight.j0v a1 a2 a3 ((!(a0_2.toList == (⟨#[]⟩ : ByteArray).toList))) a0_0 a0_1 a0_2) else (if t14.2.toList = ([100] : List UInt8) then (impl_opRight.j0v a1 a2 a3 ((!(a0_2.toList == (⟨#[]⟩ : ByteArray).toList))) a0_0 a0_1 a0_2) else (impl_opRight.j0v a1 a2 a3 false a0_0 a0_1 a0_2))))))) := by
  show lim impl_opRight.B (.f a0_0 a0_1 a0_2 a1 a2 a3) = _
  rw [lim_eq, impl_opRight.B]
  simp only [ev_ite, ev_opt, ev_ask, ev_to, ev_ret, ev_bad]
  try rfl
theorem impl_opRight.j0v_eq (x1 : Int) (x2 : Int) (x3 : Int) (x54 : Bool) (x16_0 : Int) (x16_1 : Int) (x16_2 : ByteArray) : impl_opRight.j0v x1 x2 x3 x54 x16_0 x16_1 x16_2 = (if x54 = true then (some false) else (if x16_0 = 1 then ((impl_DecOk.f x16_1).bind fun t61 => (some t61)) else (if x16_0 = 3 then (impl_opRight.j1v x1 x2 x3 x16_0 (x16_0 == 3) x16_0 x16_1 x16_2) else (if x16_0 = 4 then (impl_opRight.j1v x1 x2 x3 x16_0 (x16_0 == 4) x16_0 x16_1 x16_2) else (impl_opRight.j1v x1 x2 x3 x16_0 (x16_0 == 5) x16_0 x16_1 x16_2))))) := by
  show lim impl_opRight.B (.j0 x1 x2 x3 x54 x16_0 x16_1 x16_2) = _
  rw [lim_eq, impl_opRight.B]
  simp only [ev_ite, ev_opt, ev_ask, ev_to, ev_ret, ev_bad]
  try rfl
theorem impl_opRight.j1v_eq (x1 : Int) (x2 : Int) (x3 : Int) (x56 : Int) (x62 : Bool) (x16_0 : Int) (x16_1 : Int) (x16_2 : ByteArray) : impl_opRight.j1v x1 x2 x3 x56 x62 x16_0 x16_1 x16_2 = (if x62 = true then (if x16_1 ≥ 0 then (some (decide (x16_1 < x2))) else (some false)) else (if x56 = 6 then (impl_opRight.j2v x1 x3 x56 (x56 == 6) x16_0 x16_1 x16_2) else (if x56 = 7 then (impl_opRight.j2v x1 x3 x56 (x56 == 7) x16_0 x16_1 x16_2) else (if x56 = 8 then (impl_opRight.j2v x1 x3 x56 (x56 == 8) x16_0 x16_1 x16_2) else (impl_opRight.j2v x1 x3 x56 (x56 == 35) x16_0 x16_1 x16_2))))) := by
  show lim impl_opRight.B (.j1 x1 x2 x3 x56 x62 x16_0 x16_1 x16_2) = _
  rw [lim_eq, impl_opRight.B]
  simp only [ev_ite, ev_opt, ev_ask, ev_to, ev_ret, ev_bad]
  try rfl
theorem impl_opRight.j2v_eq (x1 : Int) (x3 : Int) (x56 : Int) (x75 : Bool) (x16_0 : Int) (x16_1 : Int) (x16_2 : ByteArray) : impl_opRight.j2v x1 x3 x56 x75 x16_0 x16_1 x16_2 = (if x75 = true then (if x16_1 ≥ 0 then (some (decide (x16_1 < x3))) else (some false)) else (if x56 = 24 then (impl_opRight.j3v x1 x56 (x56 == 24) x16_0 x16_1 x16_2) else (impl_opRight.j3v x1 x56 (x56 == 25) x16_0 x16_1 x16_2))) := by
  show lim impl_opRight.B (.j2 x1 x3 x56 x75 x16_0 x16_1 x16_2) = _
  rw [lim_eq, impl_opRight.B]
  simp only [ev_ite, ev_opt, ev_ask, ev_to, ev_ret, ev_bad]
  try rfl
theorem impl_opRight.j3v_eq (x1 : Int) (x56 : Int) (x89 : Bool) (x16_0 : Int) (x16_1 : Int) (x16_2 : ByteArray) : impl_opRight.j3v x1 x56 x89 x16_0 x16_1 x16_2 = (if x89 = true then ((impl_isRex.fv x16_2).bind fun t94 => (some t94)) else (if x56 = 29 then ((impl_in.f x16_1 1 3).bind fun t99 => (if t99 = true then ((impl_calls.f).bind fun t101 => ((slices_Contains_string_string.fv t101 x16_2).bind fun t104 => (some t104))) else (some false))) else (if x56 = 30 then (impl_opRight.j4v x1 x56 (x56 == 30) x16_0 x16_1 x16_2) else (impl_opRight.j4v x1 x56 (x56 == 31) x16_0 x16_1 x16_2)))) := by
  show lim impl_opRight.B (.j3 x1 x56 x89 x16_0 x16_1 x16_2) = _
  rw [lim_eq, impl_opRight.B]
  simp only [ev_ite, ev_opt, ev_ask, ev_to, ev_ret, ev_bad]
  try rfl
theorem impl_opRight.j4v_eq (x1 : Int) (x56 : Int) (x106 : Bool) (x16_0 : Int) (x16_1 : Int) (x16_2 : ByteArray) : impl_opRight.j4v x1 x56 x106 x16_0 x16_1 x16_2 = (if x106 = true then ((impl_in.f x16_1 0 (wrap64 (x1 - 1))).bind fun t113 => (some t113)) else (if x56 = 33 then ((impl_in.f x16_1 0 1).bind fun t118 => (some t118)) else (some true))) := by
  show lim impl_opRight.B (.j4 x1 x56 x106 x16_0 x16_1 x16_2) = _
  rw [lim_eq, impl_opRight.B]
  simp only [ev_ite, ev_opt, ev_ask, ev_to, ev_ret, ev_bad]
  try rfl
def impl_OpsOk_1.fv (a0_0 : Int) (a0_1 : Int) (a0_2 : ByteArray) (l1_0 : List S81) (a2_0 : Int) (a3_0 : Int) : Option (Bool) := (impl_opRight.fv a0_0 a0_1 a0_2 (l1_0.length : Int) a2_0 a3_0).bind fun t11 => (some (!t11))
theorem impl_OpsOk_1.fv_eq (a0_0 : Int) (a0_1 : Int) (a0_2 : ByteArray) (l1_0 : List S81) (a2_0 : Int) (a3_0 : Int) : impl_OpsOk_1.fv a0_0 a0_1 a0_2 l1_0 a2_0 a3_0 = ((impl_opRight.fv a0_0 a0_1 a0_2 (l1_0.length : Int) a2_0 a3_0).bind fun t11 => (some (!t11))) := by rw [impl_OpsOk_1.fv]
inductive slices_IndexFunc_impl_Op_impl_Op__impl_OpsOk_1.Q where
  | f (l0 : List S81) (l1q0_0 : List S81) (a1q1_0 : Int) (a1q2_0 : Int)
  | l0 (x0 : List S81) (x7 : Int) (x8 : Int) (l1q0_0 : List S81) (a1q1_0 : Int) (a1q2_0 : Int)
def slices_IndexFunc_impl_Op_impl_Op__impl_OpsOk_1.B : slices_IndexFunc_impl_Op_impl_Op__impl_OpsOk_1.Q → Pg slices_IndexFunc_impl_Op_impl_Op__impl_OpsOk_1.Q (fun _ => Int) (Int)
  | .f l0 l1q0_0 a1q1_0 a1q2_0 => .to (.l0 l0 (l0.length : Int) 0 l1q0_0 a1q1_0 a1q2_0)
  | .l0 x0 x7 x8 l1q0_0 a1q1_0 a1q2_0 => if x8 < x7 then (if 0 ≤ x8 then (if x8 < (x0.length : Int) then (.opt (impl_OpsOk_1.fv ((rd_T81 x0 x8).f0) ((rd_T81 x0 x8).f1) ((rd_T81 x0 x8).f2) l1q0_0 a1q1_0 a1q2_0) fun t16 => (if t16 = true then (.ret x8) else (.to (.l0 x0 x7 (wrap64 (x8 + 1)) l1q0_0 a1q1_0 a1q2_0)))) else (.bad)) else (.bad)) else (.ret (-1))
def slices_IndexFunc_impl_Op_impl_Op__impl_OpsOk_1.fv (l0 : List S81) (l1q0_0 : List S81) (a1q1_0 : Int) (a1q2_0 : Int) : Option (Int) := lim slices_IndexFunc_impl_Op_impl_Op__impl_OpsOk_1.B (.f l0 l1q0_0 a1q1_0 a1q2_0)
def slices_IndexFunc_impl_Op_impl_Op__impl_OpsOk_1.l0v (x0 : List S81) (x7 : Int) (x8 : Int) (l1q0_0 : List S81) (a1q1_0 : Int) (a1q2_0 : Int) : Option (Int) := lim slices_IndexFunc_impl_Op_impl_Op__impl_OpsOk_1.B (.l0 x0 x7 x8 l1q0_0 a1q1_0 a1q2_0)
theorem slices_IndexFunc_impl_Op_impl_Op__impl_OpsOk_1.fv_eq (l0 : List S81) (l1q0_0 : List S81) (a1q1_0 : Int) (a1q2_0 : Int) : slices_IndexFunc_impl_Op_impl_Op__impl_OpsOk_1.fv l0 l1q0_0 a1q1_0 a1q2_0 = (slices_IndexFunc_impl_Op_impl_Op__impl_OpsOk_1.l0v l0 (l0.length : Int) 0 l1q0_0 a1q1_0 a1q2_0) := by
  show lim slices_IndexFunc_impl_Op_impl_Op__impl_OpsOk_1.B (.f l0 l1q0_0 a1q1_0 a1q2_0) = _
  rw [lim_eq, slices_IndexFunc_impl_Op_impl_Op__impl_OpsOk_1.B]
  simp only [ev_ite, ev_opt, ev_ask, ev_to, ev_ret, ev_bad]
  try rfl
theorem slices_IndexFunc_impl_Op_impl_Op__impl_OpsOk_1.l0v_eq (x0 : List S81) (x7 : Int) (x8 : Int) (l1q0_0 : List S81) (a1q1_0 : Int) (a1q2_0 : Int) : slices_IndexFunc_impl_Op_impl_Op__impl_OpsOk_1.l0v x0 x7 x8 l1q0_0 a1q1_0 a1q2_0 = (if x8 < x7 then (if 0 ≤ x8 then (if x8 < (x0.length : Int) then ((impl_OpsOk_1.fv ((rd_T81 x0 x8).f0) ((rd_T81 x0 x8).f1) ((rd_T81 x0 x8).f2) l1q0_0 a1q1_0 a1q2_0).bind fun t16 => (if t16 = true then (some x8) else (slices_IndexFunc_impl_Op_impl_Op__impl_OpsOk_1.l0v x0 x7 (wrap64 (x8 + 1)) l1q0_0 a1q1_0 a1q2_0))) else (none)) else (none)) else (some (-1))) := by
  show lim slices_IndexFunc_impl_Op_impl_Op__impl_OpsOk_1.B (.l0 x0 x7 x8 l1q0_0 a1q1_0 a1q2_0) = _
  rw [lim_eq, slices_IndexFunc_impl_Op_impl_Op__impl_OpsOk_1.B]
  simp only [ev_ite, ev_opt, ev_ask, ev_to, ev_ret, ev_bad]
  try rfl
def slices_ContainsFunc_impl_Op_impl_Op__impl_OpsOk_1.fv (l0 : List S81) (l1q0_0 : List S81) (a1q1_0 : Int) (a1q2_0 : Int) : Option (Bool) := (slices_IndexFunc_impl_Op_impl_Op__impl_OpsOk_1.fv l0 l1q0_0 a1q1_0 a1q2_0).bind fun t7 => (some (decide (t7 ≥ 0)))
theorem slices_ContainsFunc_impl_Op_impl_Op__impl_OpsOk_1.fv_eq (l0 : List S81) (l1q0_0 : List S81) (a1q1_0 : Int) (a1q2_0 : Int) : slices_ContainsFunc_impl_Op_impl_Op__impl_OpsOk_1.fv l0 l1q0_0 a1q1_0 a1q2_0 = ((slices_IndexFunc_impl_Op_impl_Op__impl_OpsOk_1.fv l0 l1q0_0 a1q1_0 a1q2_0).bind fun t7 => (some (decide (t7 ≥ 0)))) := by rw [slices_ContainsFunc_impl_Op_impl_Op__impl_OpsOk_1.fv]
def impl_OpsOk.fv (l0 : List S81) (a1 : Int) (a2 : Int) : Option (Bool) := (impl_in.f (l0.length : Int) 1 1500).bind fun t9 => (if t9 = true then (if 0 ≤ (wrap64 ((l0.length : Int) - 1)) then (if (wrap64 ((l0.length : Int) - 1)) < (l0.length : Int) then (if (rd_T81 l0 (wrap64 ((l0.length : Int) - 1))).f0 = 36 then ((slices_ContainsFunc_impl_Op_impl_Op__impl_OpsOk_1.fv l0 l0 a1 a2).bind fun t23 => (some (!t23))) else (some false)) else (none)) else (none)) else (some false))
theorem impl_OpsOk.fv_eq (l0 : List S81) (a1 : Int) (a2 : Int) : impl_OpsOk.fv l0 a1 a2 = ((impl_in.f (l0.length : Int) 1 1500).bind fun t9 => (if t9 = true then (if 0 ≤ (wrap64 ((l0.length : Int) - 1)) then (if (wrap64 ((l0.length : Int) - 1)) < (l0.length : Int) then (if (rd_T81 l0 (wrap64 ((l0.length : Int) - 1))).f0 = 36 then ((slices_ContainsFunc_impl_Op_impl_Op__impl_OpsOk_1.fv l0 l0 a1 a2).bind fun t23 => (some (!t23))) else (some false)) else (none)) else (none)) else (some false))) := by rw [impl_OpsOk.fv]
inductive impl_ProgOk.Q where
  | f (l0_0 : List ByteArray) (l0_1 : List ByteArray) (l0_2 : List S81) (l0_3 : List S81)
  | j0 (x18 : Bool) (x16_0 : List ByteArray) (x16_1 : List ByteArray) (x16_2 : List S81) (x16_3 : List S81)
def impl_ProgOk.B : impl_ProgOk.Q → Pg impl_ProgOk.Q (fun _ => Bool) (Bool)
  | .f l0_0 l0_1 l0_2 l0_3 => .opt (impl_namesOk.fv l0_0) fun t5 => (if t5 = true then (.opt (impl_namesOk.fv l0_1) fun t10 => (if t10 = true then (.opt (slices_ContainsFunc_string_string__impl_ProgOk_1.fv l0_0 l0_0 l0_1 l0_2 l0_3) fun t17 => (.to (.j0 t17 l0_0 l0_1 l0_2 l0_3))) else (.to (.j0 true l0_0 l0_1 l0_2 l0_3)))) else (.to (.j0 true l0_0 l0_1 l0_2 l0_3)))
  | .j0 x18 x16_0 x16_1 x16_2 x16_3 => if x18 = true then (.ret false) else (.opt (impl_OpsOk.fv x16_2 (x16_0.length : Int) (x16_1.length : Int)) fun t27 => (if t27 = true then (.opt (impl_OpsOk.fv x16_3 (x16_0.length : Int) (x16_1.length : Int)) fun t37 => (.ret t37)) else (.ret false)))
def impl_ProgOk.fv (l0_0 : List ByteArray) (l0_1 : List ByteArray) (l0_2 : List S81) (l0_3 : List S81) : Option (Bool) := lim impl_ProgOk.B (.f l0_0 l0_1 l0_2 l0_3)
def impl_ProgOk.j0v (x18 : Bool) (x16_0 : List ByteArray) (x16_1 : List ByteArray) (x16_2 : List S81) (x16_3 : List S81) : Option (Bool) := lim impl_ProgOk.B (.j0 x18 x16_0 x16_1 x16_2 x16_3)
theorem impl_ProgOk.fv_eq (l0_0 : List ByteArray) (l0_1 : List ByteArray) (l0_2 : List S81) (l0_3 : List S81) : impl_ProgOk.fv l0_0 l0_1 l0_2 l0_3 = ((impl_namesOk.fv l0_0).bind fun t5 => (if t5 = true then ((impl_namesOk.fv l0_1).bind fun t10 => (if t10 = true then ((slices_ContainsFunc_string_string__impl_ProgOk_1.fv l0_0 l0_0 l0_1 l0_2 l0_3).bind fun t17 => (impl_ProgOk.j0v t17 l0_0 l0_1 l0_2 l0_3)) else (impl_ProgOk.j0v true l0_0 l0_1 l0_2 l0_3))) else (impl_ProgOk.j0v true l0_0 l0_1 l0_2 l0_3))) := by
  show lim impl_ProgOk.B (.f l0_0 l0_1 l0_2 l0_3) = _
  rw [lim_eq, impl_ProgOk.B]
  simp only [ev_ite, ev_opt, ev_ask, ev_to, ev_ret, ev_bad]
  try rfl
theorem impl_ProgOk.j0v_eq (x18 : Bool) (x16_0 : List ByteArray) (x16_1 : List ByteArray) (x16_2 : List S81) (x16_3 : List S81) : impl_ProgOk.j0v x18 x16_0 x16_1 x16_2 x16_3 = (if x18 = true then (some false) else ((impl_OpsOk.fv x16_2 (x16_0.length : Int) (x16_1.length : Int)).bind fun t27 => (if t27 = true then ((impl_OpsOk.fv x16_3 (x16_0.length : Int) (x16_1.length : Int)).bind fun t37 => (some t37)) else (some false)))) := by
  show lim impl_ProgOk.B (.j0 x18 x16_0 x16_1 x16_2 x16_3) = _
  rw [lim_eq, impl_ProgOk.B]
  simp only [ev_ite, ev_opt, ev_ask, ev_to, ev_ret, ev_bad]
  try rfl
inductive impl_digitsAt.Q where
  | f (a0 : ByteArray) (a1 : Int)
  | l0 (x0 : ByteArray) (x1 : Int) (x5 : Int)
def impl_digitsAt.B : impl_digitsAt.Q → Pg impl_digitsAt.Q (fun _ => Int) (Int)
  | .f a0 a1 => .to (.l0 a0 a1 0)
  | .l0 x0 x1 x5 => if (wrap64 (x1 + x5)) < (x0.size : Int) then (if 0 ≤ (wrap64 (x1 + x5)) then (if (bt x0 (wrap64 (x1 + x5))) ≥ 48 then (if (bt x0 (wrap64 (x1 + x5))) ≤ 57 then (.to (.l0 x0 x1 (wrap64 (x5 + 1)))) else (.ret x5)) else (.ret x5)) else (.bad)) else (.ret x5)
def impl_digitsAt.fv (a0 : ByteArray) (a1 : Int) : Option (Int) := lim impl_digitsAt.B (.f a0 a1)
def impl_digitsAt.l0v (x0 : ByteArray) (x1 : Int) (x5 : Int) : Option (Int) := lim impl_digitsAt.B (.l0 x0 x1 x5)
theorem impl_digitsAt.fv_eq (a0 : ByteArray) (a1 : Int) : impl_digitsAt.fv a0 a1 = (impl_digitsAt.l0v a0 a1 0) := by
  show lim impl_digitsAt.B (.f a0 a1) = _
  rw [lim_eq, impl_digitsAt.B]
  simp only [ev_ite, ev_opt, ev_ask, ev_to, ev_ret, ev_bad]
  try rfl
theorem impl_digitsAt.l0v_eq (x0 : ByteArray) (x1 : Int) (x5 : Int) : impl_digitsAt.l0v x0 x1 x5 = (if (wrap64 (x1 + x5)) < (x0.size : Int) then (if 0 ≤ (wrap64 (x1 + x5)) then (if (bt x0 (wrap64 (x1 + x5))) ≥ 48 then (if (bt x0 (wrap64 (x1 + x5))) ≤ 57 then (impl_digitsAt.l0v x0 x1 (wrap64 (x5 + 1))) else (some x5)) else (some x5)) else (none)) else (some x5)) := by
  show lim impl_digitsAt.B (.l0 x0 x1 x5) = _
  rw [lim_eq, impl_digitsAt.B]
  simp only [ev_ite, ev_opt, ev_ask, ev_to, ev_ret, ev_bad]
  try rfl
def impl_right.f (a0 : Int) : Option (Int × Bool) := (impl_DecOk.f a0).bind fun t5 => (if t5 = true then (some (a0, true)) else (some (0, false)))
def impl_millionths.f (a0 : ByteArray) (a1 : ByteArray) : Option (Int × Bool) := (strings_TrimLeft.f a0 (⟨#[48]⟩ : ByteArray)).bind fun t9 => (if a1.size + (⟨#[48, 48, 48, 48, 48, 48]⟩ : ByteArray).size ≤ 9223372036854775807 then (if 6 ≤ ((a1 ++ (⟨#[48, 48, 48, 48, 48, 48]⟩ : ByteArray)).size : Int) then (if (t9.size : Int) > 7 then (some (0, false)) else (if (⟨#[48]⟩ : ByteArray).size + t9.size ≤ 9223372036854775807 then (if ((⟨#[48]⟩ : ByteArray) ++ t9).size + ((a1 ++ (⟨#[48, 48, 48, 48, 48, 48]⟩ : ByteArray)).extract 0 6).size ≤ 9223372036854775807 then ((strconv_Atoi.f (((⟨#[48]⟩ : ByteArray) ++ t9) ++ ((a1 ++ (⟨#[48, 48, 48, 48, 48, 48]⟩ : ByteArray)).extract 0 6))).bind fun t21 => ((impl_right.f t21.1).bind fun t25 => (some (t25.1, t25.2)))) else (none)) else (none))) else (none)) else (none))
inductive impl_DecFront.Q where
  | f (a0 : ByteArray)
  | j1 (x0 : ByteArray) (x4 : Int) (x5 : Bool)
  | j0 (x0 : ByteArray) (x4 : Int) (x5 : Bool) (x33 : Bool)
  | j3 (x4 : Int) (x5 : Bool) (x7 : ByteArray) (x8 : ByteArray)
  | j2 (x0 : ByteArray) (x4 : Int) (x5 : Bool) (x7 : ByteArray) (x8 : ByteArray) (x61 : Bool)
  | j4 (x4 : Int) (x5 : Bool) (x7 : ByteArray) (x8 : ByteArray) (x85 : Bool)
def impl_DecFront.B : impl_DecFront.Q → Pg impl_DecFront.Q (fun _ => Int × Int) (Int × Int)
  | .f a0 => .opt (strings_TrimLeft.f a0 (⟨#[32]⟩ : ByteArray)) fun t15 => (if (wrap64 ((a0.size : Int) - (t15.size : Int))) < (a0.size : Int) then (if 0 ≤ (wrap64 ((a0.size : Int) - (t15.size : Int))) then (if (bt a0 (wrap64 ((a0.size : Int) - (t15.size : Int)))) = 43 then (.to (.j0 a0 ((wrap64 ((a0.size : Int) - (t15.size : Int)))) false true)) else (.to (.j0 a0 ((wrap64 ((a0.size : Int) - (t15.size : Int)))) false (((bt a0 (wrap64 ((a0.size : Int) - (t15.size : Int)))) == 45))))) else (.bad)) else (.to (.j0 a0 ((wrap64 ((a0.size : Int) - (t15.size : Int)))) false false)))
  | .j1 x0 x4 x5 => .opt (impl_digitsAt.fv x0 x4) fun t42 => (if 0 ≤ (wrap64 (x4 + t42)) then (if (wrap64 (x4 + t42)) ≤ (x0.size : Int) then (if 0 ≤ x4 then (if x4 ≤ (wrap64 (x4 + t42)) then (if (wrap64 (x4 + t42)) < (x0.size : Int) then (.to (.j2 x0 (wrap64 (x4 + t42)) x5 ((x0.extract (x4 : Int).toNat ((wrap64 (x4 + t42)) : Int).toNat)) (⟨#[]⟩ : ByteArray) (((bt x0 (wrap64 (x4 + t42))) == 46)))) else (.to (.j2 x0 (wrap64 (x4 + t42)) x5 ((x0.extract (x4 : Int).toNat ((wrap64 (x4 + t42)) : Int).toNat)) (⟨#[]⟩ : ByteArray) false))) else (.bad)) else (.bad)) else (.bad)) else (.bad))
  | .j0 x0 x4 x5 x33 => if x33 = true then (if 0 ≤ x4 then (if x4 < (x0.size : Int) then (.to (.j1 x0 (wrap64 (x4 + 1)) ((bt x0 x4) == 45))) else (.bad)) else (.bad)) else (.to (.j1 x0 x4 x5))
  | .j3 x4 x5 x7 x8 => if x7.toList = ([] : List UInt8) then (.to (.j4 x4 x5 x7 x8 (x8.toList == (⟨#[]⟩ : ByteArray).toList))) else (.to (.j4 x4 x5 x7 x8 false))
  | .j2 x0 x4 x5 x7 x8 x61 => if x61 = true then (.opt (impl_digitsAt.fv x0 (wrap64 (x4 + 1))) fun t65 => (if t65 > 0 then (if 0 ≤ (wrap64 ((wrap64 (x4 + 1)) + t65)) then (if (wrap64 ((wrap64 (x4 + 1)) + t65)) ≤ (x0.size : Int) then (if 0 ≤ (wrap64 (x4 + 1)) then (if (wrap64 (x4 + 1)) ≤ (wrap64 ((wrap64 (x4 + 1)) + t65)) then (.to (.j3 ((wrap64 (x4 + (wrap64 (1 + t65))))) x5 x7 ((x0.extract ((wrap64 (x4 + 1)) : Int).toNat ((wrap64 ((wrap64 (x4 + 1)) + t65)) : Int).toNat)))) else (.bad)) else (.bad)) else (.bad)) else (.bad)) else (.to (.j3 x4 x5 x7 x8)))) else (.to (.j3 x4 x5 x7 x8))
  | .j4 x4 x5 x7 x8 x85 => if x85 = true then (.ret (0, 0)) else (.opt (impl_millionths.f x7 x8) fun t89 => (if t89.2 = true then (if x5 = true then (.ret ((wrap64 (0 - t89.1)), x4)) else (.ret (t89.1, x4))) else (.ret (0, 0))))
def impl_DecFront.fv (a0 : ByteArray) : Option (Int × Int) := lim impl_DecFront.B (.f a0)
def impl_DecFront.j1v (x0 : ByteArray) (x4 : Int) (x5 : Bool) : Option (Int × Int) := lim impl_DecFront.B (.j1 x0 x4 x5)
def impl_DecFront.j0v (x0 : ByteArray) (x4 : Int) (x5 : Bool) (x33 : Bool) : Option (Int × Int) := lim impl_DecFront.B (.j0 x0 x4 x5 x33)
def impl_DecFront.j3v (x4 : Int) (x5 : Bool) (x7 : ByteArray) (x8 : ByteArray) : Option (Int × Int) := lim impl_DecFront.B (.j3 x4 x5 x7 x8)
def impl_DecFront.j2v (x0 : ByteArray) (x4 : Int) (x5 : Bool) (x7 : ByteArray) (x8 : ByteArray) (x61 : Bool) : Option (Int × Int) := lim impl_DecFront.B (.j2 x0 x4 x5 x7 x8 x61)
def impl_DecFront.j4v (x4 : Int) (x5 : Bool) (x7 : ByteArray) (x8 : ByteArray) (x85 : Bool) : Option (Int × Int) := lim impl_DecFront.B (.j4 x4 x5 x7 x8 x85)
theorem impl_DecFront.fv_eq (a0 : ByteArray) : impl_DecFront.fv a0 = ((strings_TrimLeft.f a0 (⟨#[32]⟩ : ByteArray)).bind fun t15 => (if (wrap64 ((a0.size : Int) - (t15.size : Int))) < (a0.size : Int) then (if 0 ≤ (wrap64 ((a0.size : Int) - (t15.size : Int))) then (if (bt a0 (wrap64 ((a0.size : Int) - (t15.size : Int)))) = 43 then (impl_DecFront.j0v a0 ((wrap64 ((a0.size : Int) - (t15.size : Int)))) false true) else (impl_DecFront.j0v a0 ((wrap64 ((a0.size : Int) - (t15.size : Int)))) false (((bt a0 (wrap64 ((a0.size : Int) - (t15.size : Int)))) == 45)))) else (none)) else (impl_DecFront.j0v a0 ((wrap64 ((a0.size : Int) - (t15.size : Int)))) false false))) := by
  show lim impl_DecFront.B (.f a0) = _
  rw [lim_eq, impl_DecFront.B]
  simp only [ev_ite, ev_opt, ev_ask, ev_to, ev_ret, ev_bad]
  try rfl
theorem impl_DecFront.j1v_eq (x0 : ByteArray) (x4 : Int) (x5 : Bool) : impl_DecFront.j1v x0 x4 x5 = ((impl_digitsAt.fv x0 x4).bind fun t42 => (if 0 ≤ (wrap64 (x4 + t42)) then (if (wrap64 (x4 + t42)) ≤ (x0.size : Int) then (if 0 ≤ x4 then (if x4 ≤ (wrap64 (x4 + t42)) then (if (wrap64 (x4 + t42)) < (x0.size : Int) then (impl_DecFront.j2v x0 (wrap64 (x4 + t42)) x5 ((x0.extract (x4 : Int).toNat ((wrap64 (x4 + t42)) : Int).toNat)) (⟨#[]⟩ : ByteArray) (((bt x0 (wrap64 (x4 + t42))) == 46))) else (impl_DecFront.j2v x0 (wrap64 (x4 + t42)) x5 ((x0.extract (x4 : Int).toNat ((wrap64 (x4 + t42)) : Int).toNat)) (⟨#[]⟩ : ByteArray) false)) else (none)) else (none)) else (none)) else (none))) := by
  show lim impl_DecFront.B (.j1 x0 x4 x5) = _
  rw [lim_eq, impl_DecFront.B]
  simp only [ev_ite, ev_opt, ev_ask, ev_to, ev_ret, ev_bad]
  try rfl
theorem impl_DecFront.j0v_eq (x0 : ByteArray) (x4 : Int) (x5 : Bool) (x33 : Bool) : impl_DecFront.j0v x0 x4 x5 x33 = (if x33 = true then (if 0 ≤ x4 then (if x4 < (x0.size : Int) then (impl_DecFront.j1v x0 (wrap64 (x4 + 1)) ((bt x0 x4) == 45)) else (none)) else (none)) else (impl_DecFront.j1v x0 x4 x5)) := by
  show lim impl_DecFront.B (.j0 x0 x4 x5 x33) = _
  rw [lim_eq, impl_DecFront.B]
  simp only [ev_ite, ev_opt, ev_ask, ev_to, ev_ret, ev_bad]
  try rfl
theorem impl_DecFront.j3v_eq (x4 : Int) (x5 : Bool) (x7 : ByteArray) (x8 : ByteArray) : impl_DecFront.j3v x4 x5 x7 x8 = (if x7.toList = ([] : List UInt8) then (impl_DecFront.j4v x4 x5 x7 x8 (x8.toList == (⟨#[]⟩ : ByteArray).toList)) else (impl_DecFront.j4v x4 x5 x7 x8 false)) := by
  show lim impl_DecFront.B (.j3 x4 x5 x7 x8) = _
  rw [lim_eq, impl_DecFront.B]
  simp only [ev_ite, ev_opt, ev_ask, ev_to, ev_ret, ev_bad]
  try rfl
theorem impl_DecFront.j2v_eq (x0 : ByteArray) (x4 : Int) (x5 : Bool) (x7 : ByteArray) (x8 : ByteArray) (x61 : Bool) : impl_DecFront.j2v x0 x4 x5 x7 x8 x61 = (if x61 = true then ((impl_digitsAt.fv x0 (wrap64 (x4 + 1))).bind fun t65 => (if t65 > 0 then (if 0 ≤ (wrap64 ((wrap64 (x4 + 1)) + t65)) then (if (wrap64 ((wrap64 (x4 + 1)) + t65)) ≤ (x0.size : Int) then (if 0 ≤ (wrap64 (x4 + 1)) then (if (wrap64 (x4 + 1)) ≤ (wrap64 ((wrap64 (x4 + 1)) + t65)) then (impl_DecFront.j3v ((wrap64 (x4 + (wrap64 (1 + t65))))) x5 x7 ((x0.extract ((wrap64 (x4 + 1)) : Int).toNat ((wrap64 ((wrap64 (x4 + 1)) + t65)) : Int).toNat))) else (none)) else (none)) else (none)) else (none)) else (impl_DecFront.j3v x4 x5 x7 x8))) else (impl_DecFront.j3v x4 x5 x7 x8)) := by
  show lim impl_DecFront.B (.j2 x0 x4 x5 x7 x8 x61) = _
  rw [lim_eq, impl_DecFront.B]
  simp only [ev_ite, ev_opt, ev_ask, ev_to, ev_ret, ev_bad]
  try rfl
theorem impl_DecFront.j4v_eq (x4 : Int) (x5 : Bool) (x7 : ByteArray) (x8 : ByteArray) (x85 : Bool) : impl_DecFront.j4v x4 x5 x7 x8 x85 = (if x85 = true then (some (0, 0)) else ((impl_millionths.f x7 x8).bind fun t89 => (if t89.2 = true then (if x5 = true then (some ((wrap64 (0 - t89.1)), x4)) else (some (t89.1, x4))) else (some (0, 0))))) := by
  show lim impl_DecFront.B (.j4 x4 x5 x7 x8 x85) = _
  rw [lim_eq, impl_DecFront.B]
  simp only [ev_ite, ev_opt, ev_ask, ev_to, ev_ret, ev_bad]
  try rfl
def impl_DecLooks.fv (a0 : ByteArray) : Option (Int × Bool) := (impl_DecFront.fv a0).bind fun t8 => (if t8.2 = 0 then (some (0, false)) else (if 0 ≤ t8.2 then (if t8.2 ≤ (a0.size : Int) then ((strings_Trim.f (a0.extract (t8.2 : Int).toNat a0.size) (⟨#[32]⟩ : ByteArray)).bind fun t17 => (if t17.toList = ([] : List UInt8) then (some (t8.1, true)) else (some (0, false)))) else (none)) else (none)))
theorem impl_DecLooks.fv_eq (a0 : ByteArray) : impl_DecLooks.fv a0 = ((impl_DecFront.fv a0).bind fun t8 => (if t8.2 = 0 then (some (0, false)) else (if 0 ≤ t8.2 then (if t8.2 ≤ (a0.size : Int) then ((strings_Trim.f (a0.extract (t8.2 : Int).toNat a0.size) (⟨#[32]⟩ : ByteArray)).bind fun t17 => (if t17.toList = ([] : List UInt8) then (some (t8.1, true)) else (some (0, false)))) else (none)) else (none)))) := by rw [impl_DecLooks.fv]
inductive impl_ValOk.Q where
  | f (a0_0 : Int) (a0_1 : Int) (a0_2 : ByteArray)
  | j0 (x14 : Bool) (x16_0 : Int) (x16_1 : Int) (x16_2 : ByteArray)
def impl_ValOk.B : impl_ValOk.Q → Pg impl_ValOk.Q (fun _ => Bool) (Bool)
  | .f a0_0 a0_1 a0_2 => .opt (impl_DecOk.f a0_1) fun t7 => (if t7 = true then (.to (.j0 ((decide ((a0_2.size : Int) > 300))) a0_0 a0_1 a0_2)) else (.to (.j0 true a0_0 a0_1 a0_2)))
  | .j0 x14 x16_0 x16_1 x16_2 => if x14 = true then (.ret false) else (if x16_0 = 0 then (if x16_1 = 0 then (.ret (x16_2.toList == (⟨#[]⟩ : ByteArray).toList)) else (.ret false)) else (if x16_0 = 1 then (.ret (x16_2.toList == (⟨#[]⟩ : ByteArray).toList)) else (if x16_0 = 2 then (.ret (x16_1 == 0)) else (if x16_0 = 3 then (.opt (impl_DecLooks.fv x16_2) fun t42 => (if t42.2 = true then (.ret (t42.1 == x16_1)) else (.ret false))) else (.ret false)))))
def impl_ValOk.fv (a0_0 : Int) (a0_1 : Int) (a0_2 : ByteArray) : Option (Bool) := lim impl_ValOk.B (.f a0_0 a0_1 a0_2)
def impl_ValOk.j0v (x14 : Bool) (x16_0 : Int) (x16_1 : Int) (x16_2 : ByteArray) : Option (Bool) := lim impl_ValOk.B (.j0 x14 x16_0 x16_1 x16_2)
theorem impl_ValOk.fv_eq (a0_0 : Int) (a0_1 : Int) (a0_2 : ByteArray) : impl_ValOk.fv a0_0 a0_1 a0_2 = ((impl_DecOk.f a0_1).bind fun t7 => (if t7 = true then (impl_ValOk.j0v ((decide ((a0_2.size : Int) > 300))) a0_0 a0_1 a0_2) else (impl_ValOk.j0v true a0_0 a0_1 a0_2))) := by
  show lim impl_ValOk.B (.f a0_0 a0_1 a0_2) = _
  rw [lim_eq, impl_ValOk.B]
  simp only [ev_ite, ev_opt, ev_ask, ev_to, ev_ret, ev_bad]
  try rfl
theorem impl_ValOk.j0v_eq (x14 : Bool) (x16_0 : Int) (x16_1 : Int) (x16_2 : ByteArray) : impl_ValOk.j0v x14 x16_0 x16_1 x16_2 = (if x14 = true then (some false) else (if x16_0 = 0 then (if x16_1 = 0 then (some (x16_2.toList == (⟨#[]⟩ : ByteArray).toList)) else (some false)) else (if x16_0 = 1 then (some (x16_2.toList == (⟨#[]⟩ : ByteArray).toList)) else (if x16_0 = 2 then (some (x16_1 == 0)) else (if x16_0 = 3 then ((impl_DecLooks.fv x16_2).bind fun t42 => (if t42.2 = true then (some (t42.1 == x16_1)) else (some false))) else (some false)))))) := by
  show lim impl_ValOk.B (.j0 x14 x16_0 x16_1 x16_2) = _
  rw [lim_eq, impl_ValOk.B]
  simp only [ev_ite, ev_opt, ev_ask, ev_to, ev_ret, ev_bad]
  try rfl
def impl_StateOk_1.fv (a0_0 : Int) (a0_1 : Int) (a0_2 : ByteArray) : Option (Bool) := (impl_ValOk.fv a0_0 a0_1 a0_2).bind fun t4 => (some (!t4))
theorem impl_StateOk_1.fv_eq (a0_0 : Int) (a0_1 : Int) (a0_2 : ByteArray) : impl_StateOk_1.fv a0_0 a0_1 a0_2 = ((impl_ValOk.fv a0_0 a0_1 a0_2).bind fun t4 => (some (!t4))) := by rw [impl_StateOk_1.fv]
inductive slices_IndexFunc_impl_Val_impl_Val__impl_StateOk_1.Q where
  | f (l0 : List S77)
  | l0 (x0 : List S77) (x7 : Int) (x8 : Int)
def slices_IndexFunc_impl_Val_impl_Val__impl_StateOk_1.B : slices_IndexFunc_impl_Val_impl_Val__impl_StateOk_1.Q → Pg slices_IndexFunc_impl_Val_impl_Val__impl_StateOk_1.Q (fun _ => Int) (Int)
  | .f l0 => .to (.l0 l0 (l0.length : Int) 0)
  | .l0 x0 x7 x8 => if x8 < x7 then (if 0 ≤ x8 then (if x8 < (x0.length : Int) then (.opt (impl_StateOk_1.fv ((rd_T77 x0 x8).f0) ((rd_T77 x0 x8).f1) ((rd_T77 x0 x8).f2)) fun t16 => (if t16 = true then (.ret x8) else (.to (.l0 x0 x7 (wrap64 (x8 + 1)))))) else (.bad)) else (.bad)) else (.ret (-1))
def slices_IndexFunc_impl_Val_impl_Val__impl_StateOk_1.fv (l0 : List S77) : Option (Int) := lim slices_IndexFunc_impl_Val_impl_Val__impl_StateOk_1.B (.f l0)
def slices_IndexFunc_impl_Val_impl_Val__impl_StateOk_1.l0v (x0 : List S77) (x7 : Int) (x8 : Int) : Option (Int) := lim slices_IndexFunc_impl_Val_impl_Val__impl_StateOk_1.B (.l0 x0 x7 x8)
theorem slices_IndexFunc_impl_Val_impl_Val__impl_StateOk_1.fv_eq (l0 : List S77) : slices_IndexFunc_impl_Val_impl_Val__impl_StateOk_1.fv l0 = (slices_IndexFunc_impl_Val_impl_Val__impl_StateOk_1.l0v l0 (l0.length : Int) 0) := by
  show lim slices_IndexFunc_impl_Val_impl_Val__impl_StateOk_1.B (.f l0) = _
  rw [lim_eq, slices_IndexFunc_impl_Val_impl_Val__impl_StateOk_1.B]
  simp only [ev_ite, ev_opt, ev_ask, ev_to, ev_ret, ev_bad]
  try rfl
theorem slices_IndexFunc_impl_Val_impl_Val__impl_StateOk_1.l0v_eq (x0 : List S77) (x7 : Int) (x8 : Int) : slices_IndexFunc_impl_Val_impl_Val__impl_StateOk_1.l0v x0 x7 x8 = (if x8 < x7 then (if 0 ≤ x8 then (if x8 < (x0.length : Int) then ((impl_StateOk_1.fv ((rd_T77 x0 x8).f0) ((rd_T77 x0 x8).f1) ((rd_T77 x0 x8).f2)).bind fun t16 => (if t16 = true then (some x8) else (slices_IndexFunc_impl_Val_impl_Val__impl_StateOk_1.l0v x0 x7 (wrap64 (x8 + 1))))) else (none)) else (none)) else (some (-1))) := by
  show lim slices_IndexFunc_impl_Val_impl_Val__impl_StateOk_1.B (.l0 x0 x7 x8) = _
  rw [lim_eq, slices_IndexFunc_impl_Val_impl_Val__impl_StateOk_1.B]
  simp only [ev_ite, ev_opt, ev_ask, ev_to, ev_ret, ev_bad]
  try rfl
def slices_ContainsFunc_impl_Val_impl_Val__impl_StateOk_1.fv (l0 : List S77) : Option (Bool) := (slices_IndexFunc_impl_Val_impl_Val__impl_StateOk_1.fv l0).bind fun t7 => (some (decide (t7 ≥ 0)))
theorem slices_ContainsFunc_impl_Val_impl_Val__impl_StateOk_1.fv_eq (l0 : List S77) : slices_ContainsFunc_impl_Val_impl_Val__impl_StateOk_1.fv l0 = ((slices_IndexFunc_impl_Val_impl_Val__impl_StateOk_1.fv l0).bind fun t7 => (some (decide (t7 ≥ 0)))) := by rw [slices_ContainsFunc_impl_Val_impl_Val__impl_StateOk_1.fv]
def impl_cellBefore.f (a0_0 : Int) (a0_1 : ByteArray) (a0_2 : Int) (a0_3 : Int) (a0_4 : ByteArray) (a1_0 : Int) (a1_1 : ByteArray) (a1_2 : Int) (a1_3 : Int) (a1_4 : ByteArray) : Option (Int) := if a0_0 < a1_0 then (some (-1)) else (if a0_0 > a1_0 then (some 1) else ((strings_Compare.f a0_1 a1_1).bind fun t21 => (some t21)))
inductive impl_StateOk.Q where
  | f (l0_0 : List S77) (l0_1 : List S79) (a0_2 : Int) (a0_3 : Int) (a1 : Int) (a2 : Int)
  | j0 (x2 : Int) (x36 : Bool) (x16_0 : List S77) (x16_1 : List S79) (x16_2 : Int) (x16_3 : Int)
  | l0 (x2 : Int) (x38 : List S79) (x39 : Int) (x40 : Int) (x16_0 : List S77) (x16_1 : List S79) (x16_2 : Int) (x16_3 : Int)
def impl_StateOk.B : impl_StateOk.Q → Pg impl_StateOk.Q (fun _ => Bool) (Bool)
  | .f l0_0 l0_1 a0_2 a0_3 a1 a2 => if (l0_0.length : Int) = a1 then (.opt (slices_ContainsFunc_impl_Val_impl_Val__impl_StateOk_1.fv l0_0) fun t17 => (if t17 = true then (.to (.j0 a2 true l0_0 l0_1 a0_2 a0_3)) else (if (l0_1.length : Int) > 40 then (.to (.j0 a2 true l0_0 l0_1 a0_2 a0_3)) else (.opt (impl_in.f a0_2 0 1000000) fun t28 => (if t28 = true then (.opt (impl_in.f a0_3 0 7) fun t34 => (.to (.j0 a2 (!t34) l0_0 l0_1 a0_2 a0_3))) else (.to (.j0 a2 true l0_0 l0_1 a0_2 a0_3))))))) else (.to (.j0 a2 true l0_0 l0_1 a0_2 a0_3))
  | .j0 x2 x36 x16_0 x16_1 x16_2 x16_3 => if x36 = true then (.ret false) else (.to (.l0 x2 x16_1 (x16_1.length : Int) 0 x16_0 x16_1 x16_2 x16_3))
  | .l0 x2 x38 x39 x40 x16_0 x16_1 x16_2 x16_3 => if x40 < x39 then (if 0 ≤ x40 then (if x40 < (x38.length : Int) then (if (rd_T79 x38 x40).f0 < 0 then (.ret false) else (if (rd_T79 x38 x40).f0 ≥ x2 then (.ret false) else (if ((rd_T79 x38 x40).f1.size : Int) > 300 then (.ret false) else (.opt (impl_ValOk.fv ((rd_T79 x38 x40).f2) ((rd_T79 x38 x40).f3) ((rd_T79 x38 x40).f4)) fun t63 => (if t63 = true then (if x40 > 0 then (if 0 ≤ (wrap64 (x40 - 1)) then (if (wrap64 (x40 - 1)) < (x16_1.length : Int) then (.opt (impl_cellBefore.f ((rd_T79 x16_1 (wrap64 (x40 - 1))).f0) ((rd_T79 x16_1 (wrap64 (x40 - 1))).f1) ((rd_T79 x16_1 (wrap64 (x40 - 1))).f2) ((rd_T79 x16_1 (wrap64 (x40 - 1))).f3) ((rd_T79 x16_1 (wrap64 (x40 - 1))).f4) ((rd_T79 x38 x40).f0) ((rd_T79 x38 x40).f1) ((rd_T79 x38 x40).f2) ((rd_T79 x38 x40).f3) ((rd_T79 x38 x40).f4)) fun t77 => (if t77 ≥ 0 then (.ret false) else (.to (.l0 x2 x38 x39 (wrap64 (x40 + 1)) x16_0 x16_1 x16_2 x16_3)))) else (.bad)) else (.bad)) else (.to (.l0 x2 x38 x39 (wrap64 (x40 + 1)) x16_0 x16_1 x16_2 x16_3))) else (.ret false)))))) else (.bad)) else (.bad)) else (.ret true)
def impl_StateOk.fv (l0_0 : List S77) (l0_1 : List S79) (a0_2 : Int) (a0_3 : Int) (a1 : Int) (a2 : Int) : Option (Bool) := lim impl_StateOk.B (.f l0_0 l0_1 a0_2 a0_3 a1 a2)
def impl_StateOk.j0v (x2 : Int) (x36 : Bool) (x16_0 : List S77) (x16_1 : List S79) (x16_2 : Int) (x16_3 : Int) : Option (Bool) := lim impl_StateOk.B (.j0 x2 x36 x16_0 x16_1 x16_2 x16_3)
def impl_StateOk.l0v (x2 : Int) (x38 : List S79) (x39 : Int) (x40 : Int) (x16_0 : List S77) (x16_1 : List S79) (x16_2 : Int) (x16_3 : Int) : Option (Bool) := lim impl_StateOk.B (.l0 x2 x38 x39 x40 x16_0 x16_1 x16_2 x16_3)
theorem impl_StateOk.fv_eq (l0_0 : List S77) (l0_1 : List S79) (a0_2 : Int) (a0_3 : Int) (a1 : Int) (a2 : Int) : impl_StateOk.fv l0_0 l0_1 a0_2 a0_3 a1 a2 = (if (l0_0.length : Int) = a1 then ((slices_ContainsFunc_impl_Val_impl_Val__impl_StateOk_1.fv l0_0).bind fun t17 => (if t17 = true then (impl_StateOk.j0v a2 true l0_0 l0_1 a0_2 a0_3) else (if (l0_1.length : Int) > 40 then (impl_StateOk.j0v a2 true l0_0 l0_1 a0_2 a0_3) else ((impl_in.f a0_2 0 1000000).bind fun t28 => (if t28 = true then ((impl_in.f a0_3 0 7).bind fun t34 => (impl_StateOk.j0v a2 (!t34) l0_0 l0_1 a0_2 a0_3)) else (impl_StateOk.j0v a2 true l0_0 l0_1 a0_2 a0_3)))))) else (impl_StateOk.j0v a2 true l0_0 l0_1 a0_2 a0_3)) := by
  show lim impl_StateOk.B (.f l0_0 l0_1 a0_2 a0_3 a1 a2) = _
  rw [lim_eq, impl_StateOk.B]
  simp only [ev_ite, ev_opt, ev_ask, ev_to, ev_ret, ev_bad]
  try rfl
theorem impl_StateOk.j0v_eq (x2 : Int) (x36 : Bool) (x16_0 : List S77) (x16_1 : List S79) (x16_2 : Int) (x16_3 : Int) : impl_StateOk.j0v x2 x36 x16_0 x16_1 x16_2 x16_3 = (if x36 = true then (some false) else (impl_StateOk.l0v x2 x16_1 (x16_1.length : Int) 0 x16_0 x16_1 x16_2 x16_3)) := by
  show lim impl_StateOk.B (.j0 x2 x36 x16_0 x16_1 x16_2 x16_3) = _
  rw [lim_eq, impl_StateOk.B]
  simp only [ev_ite, ev_opt, ev_ask, ev_to, ev_ret, ev_bad]
  try rfl
theorem impl_StateOk.l0v_eq (x2 : Int) (x38 : List S79) (x39 : Int) (x40 : Int) (x16_0 : List S77) (x16_1 : List S79) (x16_2 : Int) (x16_3 : Int) : impl_StateOk.l0v x2 x38 x39 x40 x16_0 x16_1 x16_2 x16_3 = (if x40 < x39 then (if 0 ≤ x40 then (if x40 < (x38.length : Int) then (if (rd_T79 x38 x40).f0 < 0 then (some false) else (if (rd_T79 x38 x40).f0 ≥ x2 then (some false) else (if ((rd_T79 x38 x40).f1.size : Int) > 300 then (some false) else ((impl_ValOk.fv ((rd_T79 x38 x40).f2) ((rd_T79 x38 x40).f3) ((rd_T79 x38 x40).f4)).bind fun t63 => (if t63 = true then (if x40 > 0 then (if 0 ≤ (wrap64 (x40 - 1)) then (if (wrap64 (x40 - 1)) < (x16_1.length : Int) then ((impl_cellBefore.f ((rd_T79 x16_1 (wrap64 (x40 - 1))).f0) ((rd_T79 x16_1 (wrap64 (x40 - 1))).f1) ((rd_T79 x16_1 (wrap64 (x40 - 1))).f2) ((rd_T79 x16_1 (wrap64 (x40 - 1))).f3) ((rd_T79 x16_1 (wrap64 (x40 - 1))).f4) ((rd_T79 x38 x40).f0) ((rd_T79 x38 x40).f1) ((rd_T79 x38 x40).f2) ((rd_T79 x38 x40).f3) ((rd_T79 x38 x40).f4)).bind fun t77 => (if t77 ≥ 0 then (some false) else (impl_StateOk.l0v x2 x38 x39 (wrap64 (x40 + 1)) x16_0 x16_1 x16_2 x16_3))) else (none)) else (none)) else (impl_StateOk.l0v x2 x38 x39 (wrap64 (x40 + 1)) x16_0 x16_1 x16_2 x16_3)) else (some false)))))) else (none)) else (none)) else (some true)) := by
  show lim impl_StateOk.B (.l0 x2 x38 x39 x40 x16_0 x16_1 x16_2 x16_3) = _
  rw [lim_eq, impl_StateOk.B]
  simp only [ev_ite, ev_opt, ev_ask, ev_to, ev_ret, ev_bad]
  try rfl
def impl_MachOk_1.f (a0 : Int) : Option (Bool) := (impl_in.f a0 0 100000).bind fun t4 => (some (!t4))
inductive slices_IndexFunc_int_int__impl_MachOk_1.Q where
  | f (l0 : List Int)
  | l0 (x0 : List Int) (x7 : Int) (x8 : Int)
def slices_IndexFunc_int_int__impl_MachOk_1.B : slices_IndexFunc_int_int__impl_MachOk_1.Q → Pg slices_IndexFunc_int_int__impl_MachOk_1.Q (fun _ => Int) (Int)
  | .f l0 => .to (.l0 l0 (l0.length : Int) 0)
  | .l0 x0 x7 x8 => if x8 < x7 then (if 0 ≤ x8 then (if x8 < (x0.length : Int) then (.opt (impl_MachOk_1.f (rdOf (0 : Int) x0 x8)) fun t16 => (if t16 = true then (.ret x8) else (.to (.l0 x0 x7 (wrap64 (x8 + 1)))))) else (.bad)) else (.bad)) else (.ret (-1))
def slices_IndexFunc_int_int__impl_MachOk_1.fv (l0 : List Int) : Option (Int) := lim slices_IndexFunc_int_int__impl_MachOk_1.B (.f l0)
def slices_IndexFunc_int_int__impl_MachOk_1.l0v (x0 : List Int) (x7 : Int) (x8 : Int) : Option (Int) := lim slices_IndexFunc_int_int__impl_MachOk_1.B (.l0 x0 x7 x8)
theorem slices_IndexFunc_int_int__impl_MachOk_1.fv_eq (l0 : List Int) : slices_IndexFunc_int_int__impl_MachOk_1.fv l0 = (slices_IndexFunc_int_int__impl_MachOk_1.l0v l0 (l0.length : Int) 0) := by
  show lim slices_IndexFunc_int_int__impl_MachOk_1.B (.f l0) = _
  rw [lim_eq, slices_IndexFunc_int_int__impl_MachOk_1.B]
  simp only [ev_ite, ev_opt, ev_ask, ev_to, ev_ret, ev_bad]
  try rfl
theorem slices_IndexFunc_int_int__impl_MachOk_1.l0v_eq (x0 : List Int) (x7 : Int) (x8 : Int) : slices_IndexFunc_int_int__impl_MachOk_1.l0v x0 x7 x8 = (if x8 < x7 then (if 0 ≤ x8 then (if x8 < (x0.length : Int) then ((impl_MachOk_1.f (rdOf (0 : Int) x0 x8)).bind fun t16 => (if t16 = true then (some x8) else (slices_IndexFunc_int_int__impl_MachOk_1.l0v x0 x7 (wrap64 (x8 + 1))))) else (none)) else (none)) else (some (-1))) := by
  show lim slices_IndexFunc_int_int__impl_MachOk_1.B (.l0 x0 x7 x8) = _
  rw [lim_eq, slices_IndexFunc_int_int__impl_MachOk_1.B]
  simp only [ev_ite, ev_opt, ev_ask, ev_to, ev_ret, ev_bad]
  try rfl
def slices_ContainsFunc_int_int__impl_MachOk_1.fv (l0 : List Int) : Option (Bool) := (slices_IndexFunc_int_int__impl_MachOk_1.fv l0).bind fun t7 => (some (decide (t7 ≥ 0)))
theorem slices_ContainsFunc_int_int__impl_MachOk_1.fv_eq (l0 : List Int) : slices_ContainsFunc_int_int__impl_MachOk_1.fv l0 = ((slices_IndexFunc_int_int__impl_MachOk_1.fv l0).bind fun t7 => (some (decide (t7 ≥ 0)))) := by rw [slices_ContainsFunc_int_int__impl_MachOk_1.fv]
def impl_MachOk.fv (l0_0 : List ByteArray) (l0_1 : List ByteArray) (l0_2 : List S81) (l0_3 : List S81) (l1_0 : List S77) (l1_1 : List S79) (a1_2 : Int) (a1_3 : Int) (l1_4 : List Int) (a1_5 : ByteArray) : Option (Bool) := (impl_ProgOk.fv l0_0 l0_1 l0_2 l0_3).bind fun t6 => (if t6 = true then ((impl_StateOk.fv l1_0 l1_1 a1_2 a1_3 (l0_0.length : Int) (l0_1.length : Int)).bind fun t16 => (if t16 = true then (if (l1_4.length : Int) = 3 then ((slices_ContainsFunc_int_int__impl_MachOk_1.fv l1_4).bind fun t27 => (if t27 = true then (some false) else (some (decide ((a1_5.size : Int) ≤ 1500))))) else (some false)) else (some false))) else (some false))
theorem impl_MachOk.fv_eq (l0_0 : List ByteArray) (l0_1 : List ByteArray) (l0_2 : List S81) (l0_3 : List S81) (l1_0 : List S77) (l1_1 : List S79) (a1_2 : Int) (a1_3 : Int) (l1_4 : List Int) (a1_5 : ByteArray) : impl_MachOk.fv l0_0 l0_1 l0_2 l0_3 l1_0 l1_1 a1_2 a1_3 l1_4 a1_5 = ((impl_ProgOk.fv l0_0 l0_1 l0_2 l0_3).bind fun t6 => (if t6 = true then ((impl_StateOk.fv l1_0 l1_1 a1_2 a1_3 (l0_0.length : Int) (l0_1.length : Int)).bind fun t16 => (if t16 = true then (if (l1_4.length : Int) = 3 then ((slices_ContainsFunc_int_int__impl_MachOk_1.fv l1_4).bind fun t27 => (if t27 = true then (some false) else (some (decide ((a1_5.size : Int) ≤ 1500))))) else (some false)) else (some false))) else (some false))) := by rw [impl_MachOk.fv]
inductive laws_eqStringS.Q where
  | f (l0 : List ByteArray) (l1 : List ByteArray)
  | l0 (x0 : List ByteArray) (x1 : List ByteArray) (x5 : Int)
def laws_eqStringS.B : laws_eqStringS.Q → Pg laws_eqStringS.Q (fun _ => Bool) (Bool)
  | .f l0 l1 => if (l0.length : Int) = (l1.length : Int) then (.to (.l0 l0 l1 0)) else (.ret false)
  | .l0 x0 x1 x5 => if x5 < (x0.length : Int) then (if 0 ≤ x5 then (if x5 < (x1.length : Int) then (if (rdOf ByteArray.empty x0 x5).toList = (rdOf ByteArray.empty x1 x5).toList then (.to (.l0 x0 x1 (wrap64 (x5 + 1)))) else (.ret false)) else (.bad)) else (.bad)) else (.ret true)
def laws_eqStringS.fv (l0 : List ByteArray) (l1 : List ByteArray) : Option (Bool) := lim laws_eqStringS.B (.f l0 l1)
def laws_eqStringS.l0v (x0 : List ByteArray) (x1 : List ByteArray) (x5 : Int) : Option (Bool) := lim laws_eqStringS.B (.l0 x0 x1 x5)
theorem laws_eqStringS.fv_eq (l0 : List ByteArray) (l1 : List ByteArray) : laws_eqStringS.fv l0 l1 = (if (l0.length : Int) = (l1.length : Int) then (laws_eqStringS.l0v l0 l1 0) else (some false)) := by
  show lim laws_eqStringS.B (.f l0 l1) = _
  rw [lim_eq, laws_eqStringS.B]
  simp only [ev_ite, ev_opt, ev_ask, ev_to, ev_ret, ev_bad]
  try rfl
theorem laws_eqStringS.l0v_eq (x0 : List ByteArray) (x1 : List ByteArray) (x5 : Int) : laws_eqStringS.l0v x0 x1 x5 = (if x5 < (x0.length : Int) then (if 0 ≤ x5 then (if x5 < (x1.length : Int) then (if (rdOf ByteArray.empty x0 x5).toList = (rdOf ByteArray.empty x1 x5).toList then (laws_eqStringS.l0v x0 x1 (wrap64 (x5 + 1))) else (some false)) else (none)) else (none)) else (some true)) := by
  show lim laws_eqStringS.B (.l0 x0 x1 x5) = _
  rw [lim_eq, laws_eqStringS.B]
  simp only [ev_ite, ev_opt, ev_ask, ev_to, ev_ret, ev_bad]
  try rfl
def laws_eqOp.f (a0_0 : Int) (a0_1 : Int) (a0_2 : ByteArray) (a1_0 : Int) (a1_1 : Int) (a1_2 : ByteArray) : Option (Bool) := if a0_0 = a1_0 then (if a0_1 = a1_1 then (if a0_2.toList = a1_2.toList then (some true) else (some false)) else (some false)) else (some false)
inductive laws_eqOpS.Q where
  | f (l0 : List S81) (l1 : List S81)
  | l0 (x0 : List S81) (x1 : List S81) (x5 : Int)
def laws_eqOpS.B : laws_eqOpS.Q → Pg laws_eqOpS.Q (fun _ => Bool) (Bool)
  | .f l0 l1 => if (l0.length : Int) = (l1.length : Int) then (.to (.l0 l0 l1 0)) else (.ret false)
  | .l0 x0 x1 x5 => if x5 < (x0.length : Int) then (if 0 ≤ x5 then (if x5 < (x1.length : Int) then (.opt (laws_eqOp.f ((rd_T81 x0 x5).f0) ((rd_T81 x0 x5).f1) ((rd_T81 x0 x5).f2) ((rd_T81 x1 x5).f0) ((rd_T81 x1 x5).f1) ((rd_T81 x1 x5).f2)) fun t25 => (if t25 = true then (.to (.l0 x0 x1 (wrap64 (x5 + 1)))) else (.ret false))) else (.bad)) else (.bad)) else (.ret true)
def laws_eqOpS.fv (l0 : List S81) (l1 : List S81) : Option (Bool) := lim laws_eqOpS.B (.f l0 l1)
def laws_eqOpS.l0v (x0 : List S81) (x1 : List S81) (x5 : Int) : Option (Bool) := lim laws_eqOpS.B (.l0 x0 x1 x5)
theorem laws_eqOpS.fv_eq (l0 : List S81) (l1 : List S81) : laws_eqOpS.fv l0 l1 = (if (l0.length : Int) = (l1.length : Int) then (laws_eqOpS.l0v l0 l1 0) else (some false)) := by
  show lim laws_eqOpS.B (.f l0 l1) = _
  rw [lim_eq, laws_eqOpS.B]
  simp only [ev_ite, ev_opt, ev_ask, ev_to, ev_ret, ev_bad]
  try rfl
theorem laws_eqOpS.l0v_eq (x0 : List S81) (x1 : List S81) (x5 : Int) : laws_eqOpS.l0v x0 x1 x5 = (if x5 < (x0.length : Int) then (if 0 ≤ x5 then (if x5 < (x1.length : Int) then ((laws_eqOp.f ((rd_T81 x0 x5).f0) ((rd_T81 x0 x5).f1) ((rd_T81 x0 x5).f2) ((rd_T81 x1 x5).f0) ((rd_T81 x1 x5).f1) ((rd_T81 x1 x5).f2)).bind fun t25 => (if t25 = true then (laws_eqOpS.l0v x0 x1 (wrap64 (x5 + 1))) else (some false))) else (none)) else (none)) else (some true)) := by
  show lim laws_eqOpS.B (.l0 x0 x1 x5) = _
  rw [lim_eq, laws_eqOpS.B]
  simp only [ev_ite, ev_opt, ev_ask, ev_to, ev_ret, ev_bad]
  try rfl
def laws_eqProg.fv (l0_0 : List ByteArray) (l0_1 : List ByteArray) (l0_2 : List S81) (l0_3 : List S81) (l1_0 : List ByteArray) (l1_1 : List ByteArray) (l1_2 : List S81) (l1_3 : List S81) : Option (Bool) := (laws_eqStringS.fv l0_0 l1_0).bind fun t9 => (if t9 = true then ((laws_eqStringS.fv l0_1 l1_1).bind fun t15 => (if t15 = true then ((laws_eqOpS.fv l0_2 l1_2).bind fun t21 => (if t21 = true then ((laws_eqOpS.fv l0_3 l1_3).bind fun t27 => (if t27 = true then (some true) else (some false))) else (some false))) else (some false))) else (some false))
theorem laws_eqProg.fv_eq (l0_0 : List ByteArray) (l0_1 : List ByteArray) (l0_2 : List S81) (l0_3 : List S81) (l1_0 : List ByteArray) (l1_1 : List ByteArray) (l1_2 : List S81) (l1_3 : List S81) : laws_eqProg.fv l0_0 l0_1 l0_2 l0_3 l1_0 l1_1 l1_2 l1_3 = ((laws_eqStringS.fv l0_0 l1_0).bind fun t9 => (if t9 = true then ((laws_eqStringS.fv l0_1 l1_1).bind fun t15 => (if t15 = true then ((laws_eqOpS.fv l0_2 l1_2).bind fun t21 => (if t21 = true then ((laws_eqOpS.fv l0_3 l1_3).bind fun t27 => (if t27 = true then (some true) else (some false))) else (some false))) else (some false))) else (some false))) := by rw [laws_eqProg.fv]
def laws_eqVal.f (a0_0 : Int) (a0_1 : Int) (a0_2 : ByteArray) (a1_0 : Int) (a1_1 : Int) (a1_2 : ByteArray) : Option (Bool) := if a0_0 = a1_0 then (if a0_1 = a1_1 then (if a0_2.toList = a1_2.toList then (some true) else (some false)) else (some false)) else (some false)
inductive laws_eqValS.Q where
  | f (l0 : List S77) (l1 : List S77)
  | l0 (x0 : List S77) (x1 : List S77) (x5 : Int)
def laws_eqValS.B : laws_eqValS.Q → Pg laws_eqValS.Q (fun _ => Bool) (Bool)
  | .f l0 l1 => if (l0.length : Int) = (l1.length : Int) then (.to (.l0 l0 l1 0)) else (.ret false)
  | .l0 x0 x1 x5 => if x5 < (x0.length : Int) then (if 0 ≤ x5 then (if x5 < (x1.length : Int) then (.opt (laws_eqVal.f ((rd_T77 x0 x5).f0) ((rd_T77 x0 x5).f1) ((rd_T77 x0 x5).f2) ((rd_T77 x1 x5).f0) ((rd_T77 x1 x5).f1) ((rd_T77 x1 x5).f2)) fun t25 => (if t25 = true then (.to (.l0 x0 x1 (wrap64 (x5 + 1)))) else (.ret false))) else (.bad)) else (.bad)) else (.ret true)
def laws_eqValS.fv (l0 : List S77) (l1 : List S77) : Option (Bool) := lim laws_eqValS.B (.f l0 l1)
def laws_eqValS.l0v (x0 : List S77) (x1 : List S77) (x5 : Int) : Option (Bool) := lim laws_eqValS.B (.l0 x0 x1 x5)
theorem laws_eqValS.fv_eq (l0 : List S77) (l1 : List S77) : laws_eqValS.fv l0 l1 = (if (l0.length : Int) = (l1.length : Int) then (laws_eqValS.l0v l0 l1 0) else (some false)) := by
  show lim laws_eqValS.B (.f l0 l1) = _
  rw [lim_eq, laws_eqValS.B]
  simp only [ev_ite, ev_opt, ev_ask, ev_to, ev_ret, ev_bad]
  try rfl
theorem laws_eqValS.l0v_eq (x0 : List S77) (x1 : List S77) (x5 : Int) : laws_eqValS.l0v x0 x1 x5 = (if x5 < (x0.length : Int) then (if 0 ≤ x5 then (if x5 < (x1.length : Int) then ((laws_eqVal.f ((rd_T77 x0 x5).f0) ((rd_T77 x0 x5).f1) ((rd_T77 x0 x5).f2) ((rd_T77 x1 x5).f0) ((rd_T77 x1 x5).f1) ((rd_T77 x1 x5).f2)).bind fun t25 => (if t25 = true then (laws_eqValS.l0v x0 x1 (wrap64 (x5 + 1))) else (some false))) else (none)) else (none)) else (some true)) := by
  show lim laws_eqValS.B (.l0 x0 x1 x5) = _
  rw [lim_eq, laws_eqValS.B]
  simp only [ev_ite, ev_opt, ev_ask, ev_to, ev_ret, ev_bad]
  try rfl
def laws_eqCell.f (a0_0 : Int) (a0_1 : ByteArray) (a0_2 : Int) (a0_3 : Int) (a0_4 : ByteArray) (a1_0 : Int) (a1_1 : ByteArray) (a1_2 : Int) (a1_3 : Int) (a1_4 : ByteArray) : Option (Bool) := if a0_0 = a1_0 then (if a0_1.toList = a1_1.toList then ((laws_eqVal.f a0_2 a0_3 a0_4 a1_2 a1_3 a1_4).bind fun t19 => (if t19 = true then (some true) else (some false))) else (some false)) else (some false)
inductive laws_eqCellS.Q where
  | f (l0 : List S79) (l1 : List S79)
  | l0 (x0 : List S79) (x1 : List S79) (x5 : Int)
def laws_eqCellS.B : laws_eqCellS.Q → Pg laws_eqCellS.Q (fun _ => Bool) (Bool)
  | .f l0 l1 => if (l0.length : Int) = (l1.length : Int) then (.to (.l0 l0 l1 0)) else (.ret false)
  | .l0 x0 x1 x5 => if x5 < (x0.length : Int) then (if 0 ≤ x5 then (if x5 < (x1.length : Int) then (.opt (laws_eqCell.f ((rd_T79 x0 x5).f0) ((rd_T79 x0 x5).f1) ((rd_T79 x0 x5).f2) ((rd_T79 x0 x5).f3) ((rd_T79 x0 x5).f4) ((rd_T79 x1 x5).f0) ((rd_T79 x1 x5).f1) ((rd_T79 x1 x5).f2) ((rd_T79 x1 x5).f3) ((rd_T79 x1 x5).f4)) fun t25 => (if t25 = true then (.to (.l0 x0 x1 (wrap64 (x5 + 1)))) else (.ret false))) else (.bad)) else (.bad)) else (.ret true)
def laws_eqCellS.fv (l0 : List S79) (l1 : List S79) : Option (Bool) := lim laws_eqCellS.B (.f l0 l1)
def laws_eqCellS.l0v (x0 : List S79) (x1 : List S79) (x5 : Int) : Option (Bool) := lim laws_eqCellS.B (.l0 x0 x1 x5)
theorem laws_eqCellS.fv_eq (l0 : List S79) (l1 : List S79) : laws_eqCellS.fv l0 l1 = (if (l0.length : Int) = (l1.length : Int) then (laws_eqCellS.l0v l0 l1 0) else (some false)) := by
  show lim laws_eqCellS.B (.f l0 l1) = _
  rw [lim_eq, laws_eqCellS.B]
  simp only [ev_ite, ev_opt, ev_ask, ev_to, ev_ret, ev_bad]
  try rfl
theorem laws_eqCellS.l0v_eq (x0 : List S79) (x1 : List S79) (x5 : Int) : laws_eqCellS.l0v x0 x1 x5 = (if x5 < (x0.length : Int) then (if 0 ≤ x5 then (if x5 < (x1.length : Int) then ((laws_eqCell.f ((rd_T79 x0 x5).f0) ((rd_T79 x0 x5).f1) ((rd_T79 x0 x5).f2) ((rd_T79 x0 x5).f3) ((rd_T79 x0 x5).f4) ((rd_T79 x1 x5).f0) ((rd_T79 x1 x5).f1) ((rd_T79 x1 x5).f2) ((rd_T79 x1 x5).f3) ((rd_T79 x1 x5).f4)).bind fun t25 => (if t25 = true then (laws_eqCellS.l0v x0 x1 (wrap64 (x5 + 1))) else (some false))) else (none)) else (none)) else (some true)) := by
  show lim laws_eqCellS.B (.l0 x0 x1 x5) = _
  rw [lim_eq, laws_eqCellS.B]
  simp only [ev_ite, ev_opt, ev_ask, ev_to, ev_ret, ev_bad]
  try rfl
def laws_eqState.fv (l0_0 : List S77) (l0_1 : List S79) (a0_2 : Int) (a0_3 : Int) (l1_0 : List S77) (l1_1 : List S79) (a1_2 : Int) (a1_3 : Int) : Option (Bool) := (laws_eqValS.fv l0_0 l1_0).bind fun t9 => (if t9 = true then ((laws_eqCellS.fv l0_1 l1_1).bind fun t15 => (if t15 = true then (if a0_2 = a1_2 then (if a0_3 = a1_3 then (some true) else (some false)) else (some false)) else (some false))) else (some false))
theorem laws_eqState.fv_eq (l0_0 : List S77) (l0_1 : List S79) (a0_2 : Int) (a0_3 : Int) (l1_0 : List S77) (l1_1 : List S79) (a1_2 : Int) (a1_3 : Int) : laws_eqState.fv l0_0 l0_1 a0_2 a0_3 l1_0 l1_1 a1_2 a1_3 = ((laws_eqValS.fv l0_0 l1_0).bind fun t9 => (if t9 = true then ((laws_eqCellS.fv l0_1 l1_1).bind fun t15 => (if t15 = true then (if a0_2 = a1_2 then (if a0_3 = a1_3 then (some true) else (some false)) else (some false)) else (some false))) else (some false))) := by rw [laws_eqState.fv]
inductive laws_eqIntS.Q where
  | f (l0 : List Int) (l1 : List Int)
  | l0 (x0 : List Int) (x1 : List Int) (x5 : Int)
def laws_eqIntS.B : laws_eqIntS.Q → Pg laws_eqIntS.Q (fun _ => Bool) (Bool)
  | .f l0 l1 => if (l0.length : Int) = (l1.length : Int) then (.to (.l0 l0 l1 0)) else (.ret false)
  | .l0 x0 x1 x5 => if x5 < (x0.length : Int) then (if 0 ≤ x5 then (if x5 < (x1.length : Int) then (if (rdOf (0 : Int) x0 x5) = (rdOf (0 : Int) x1 x5) then (.to (.l0 x0 x1 (wrap64 (x5 + 1)))) else (.ret false)) else (.bad)) else (.bad)) else (.ret true)
def laws_eqIntS.fv (l0 : List Int) (l1 : List Int) : Option (Bool) := lim laws_eqIntS.B (.f l0 l1)
def laws_eqIntS.l0v (x0 : List Int) (x1 : List Int) (x5 : Int) : Option (Bool) := lim laws_eqIntS.B (.l0 x0 x1 x5)
theorem laws_eqIntS.fv_eq (l0 : List Int) (l1 : List Int) : laws_eqIntS.fv l0 l1 = (if (l0.length : Int) = (l1.length : Int) then (laws_eqIntS.l0v l0 l1 0) else (some false)) := by
  show lim laws_eqIntS.B (.f l0 l1) = _
  rw [lim_eq, laws_eqIntS.B]
  simp only [ev_ite, ev_opt, ev_ask, ev_to, ev_ret, ev_bad]
  try rfl
theorem laws_eqIntS.l0v_eq (x0 : List Int) (x1 : List Int) (x5 : Int) : laws_eqIntS.l0v x0 x1 x5 = (if x5 < (x0.length : Int) then (if 0 ≤ x5 then (if x5 < (x1.length : Int) then (if (rdOf (0 : Int) x0 x5) = (rdOf (0 : Int) x1 x5) then (laws_eqIntS.l0v x0 x1 (wrap64 (x5 + 1))) else (some false)) else (none)) else (none)) else (some true)) := by
  show lim laws_eqIntS.B (.l0 x0 x1 x5) = _
  rw [lim_eq, laws_eqIntS.B]
  simp only [ev_ite, ev_opt, ev_ask, ev_to, ev_ret, ev_bad]
  try rfl
def laws_eqMach.fv (l0_0 : List S77) (l0_1 : List S79) (a0_2 : Int) (a0_3 : Int) (l0_4 : List Int) (a0_5 : ByteArray) (l1_0 : List S77) (l1_1 : List S79) (a1_2 : Int) (a1_3 : Int) (l1_4 : List Int) (a1_5 : ByteArray) : Option (Bool) := (laws_eqState.fv l0_0 l0_1 a0_2 a0_3 l1_0 l1_1 a1_2 a1_3).bind fun t9 => (if t9 = true then ((laws_eqIntS.fv l0_4 l1_4).bind fun t15 => (if t15 = true then (if a0_5.toList = a1_5.toList then (some true) else (some false)) else (some false))) else (some false))
theorem laws_eqMach.fv_eq (l0_0 : List S77) (l0_1 : List S79) (a0_2 : Int) (a0_3 : Int) (l0_4 : List Int) (a0_5 : ByteArray) (l1_0 : List S77) (l1_1 : List S79) (a1_2 : Int) (a1_3 : Int) (l1_4 : List Int) (a1_5 : ByteArray) : laws_eqMach.fv l0_0 l0_1 a0_2 a0_3 l0_4 a0_5 l1_0 l1_1 a1_2 a1_3 l1_4 a1_5 = ((laws_eqState.fv l0_0 l0_1 a0_2 a0_3 l1_0 l1_1 a1_2 a1_3).bind fun t9 => (if t9 = true then ((laws_eqIntS.fv l0_4 l1_4).bind fun t15 => (if t15 = true then (if a0_5.toList = a1_5.toList then (some true) else (some false)) else (some false))) else (some false))) := by rw [laws_eqMach.fv]
def laws_FnExactMachOk.fv (l0_0 : List ByteArray) (l0_1 : List ByteArray) (l0_2 : List S69) (l0_3 : List S69) (l1_0 : List S94) (l1_1 : List S97) (a1_2 : Int) (a1_3 : Int) (l1_4 : List Int) (a1_5 : ByteArray) : Option (Bool) := (laws_szProg.fv l0_0 l0_1 l0_2 l0_3 1048576).bind fun t12 => (if t12 < 0 then (some true) else ((laws_szMach.fv l1_0 l1_1 a1_2 a1_3 l1_4 a1_5 t12).bind fun t17 => (if t17 < 0 then (some true) else ((laws_toProg.fv l0_0 l0_1 l0_2 l0_3).bind fun t21 => ((laws_toMach.fv l1_0 l1_1 a1_2 a1_3 l1_4 a1_5).bind fun t23 => ((spec_MachOk.fv t21.1 t21.2.1 t21.2.2.1 t21.2.2.2 t23.1 t23.2.1 t23.2.2.1 t23.2.2.2.1 t23.2.2.2.2.1 t23.2.2.2.2.2).bind fun t24 => ((laws_toProg.fv l0_0 l0_1 l0_2 l0_3).bind fun t26 => ((laws_toMach.fv l1_0 l1_1 a1_2 a1_3 l1_4 a1_5).bind fun t28 => ((impl_MachOk.fv t26.1 t26.2.1 t26.2.2.1 t26.2.2.2 t28.1 t28.2.1 t28.2.2.1 t28.2.2.2.1 t28.2.2.2.2.1 t28.2.2.2.2.2).bind fun t31 => (if t31 = t24 then ((laws_toProg.fv l0_0 l0_1 l0_2 l0_3).bind fun t37 => ((laws_eqProg.fv t26.1 t26.2.1 t26.2.2.1 t26.2.2.2 t37.1 t37.2.1 t37.2.2.1 t37.2.2.2).bind fun t38 => (if t38 = true then ((laws_toMach.fv l1_0 l1_1 a1_2 a1_3 l1_4 a1_5).bind fun t42 => ((laws_eqMach.fv t28.1 t28.2.1 t28.2.2.1 t28.2.2.2.1 t28.2.2.2.2.1 t28.2.2.2.2.2 t42.1 t42.2.1 t42.2.2.1 t42.2.2.2.1 t42.2.2.2.2.1 t42.2.2.2.2.2).bind fun t43 => (if t43 = true then (some true) else (some false)))) else (some false)))) else (some false)))))))))))
theorem laws_FnExactMachOk.fv_eq (l0_0 : List ByteArray) (l0_1 : List ByteArray) (l0_2 : List S69) (l0_3 : List S69) (l1_0 : List S94) (l1_1 : List S97) (a1_2 : Int) (a1_3 : Int) (l1_4 : List Int) (a1_5 : ByteArray) : laws_FnExactMachOk.fv l0_0 l0_1 l0_2 l0_3 l1_0 l1_1 a1_2 a1_3 l1_4 a1_5 = ((laws_szProg.fv l0_0 l0_1 l0_2 l0_3 1048576).bind fun t12 => (if t12 < 0 then (some true) else ((laws_szMach.fv l1_0 l1_1 a1_2 a1_3 l1_4 a1_5 t12).bind fun t17 => (if t17 < 0 then (some true) else ((laws_toProg.fv l0_0 l0_1 l0_2 l0_3).bind fun t21 => ((laws_toMach.fv l1_0 l1_1 a1_2 a1_3 l1_4 a1_5).bind fun t23 => ((spec_MachOk.fv t21.1 t21.2.1 t21.2.2.1 t21.2.2.2 t23.1 t23.2.1 t23.2.2.1 t23.2.2.2.1 t23.2.2.2.2.1 t23.2.2.2.2.2).bind fun t24 => ((laws_toProg.fv l0_0 l0_1 l0_2 l0_3).bind fun t26 => ((laws_toMach.fv l1_0 l1_1 a1_2 a1_3 l1_4 a1_5).bind fun t28 => ((impl_MachOk.fv t26.1 t26.2.1 t26.2.2.1 t26.2.2.2 t28.1 t28.2.1 t28.2.2.1 t28.2.2.2.1 t28.2.2.2.2.1 t28.2.2.2.2.2).bind fun t31 => (if t31 = t24 then ((laws_toProg.fv l0_0 l0_1 l0_2 l0_3).bind fun t37 => ((laws_eqProg.fv t26.1 t26.2.1 t26.2.2.1 t26.2.2.2 t37.1 t37.2.1 t37.2.2.1 t37.2.2.2).bind fun t38 => (if t38 = true then ((laws_toMach.fv l1_0 l1_1 a1_2 a1_3 l1_4 a1_5).bind fun t42 => ((laws_eqMach.fv t28.1 t28.2.1 t28.2.2.1 t28.2.2.2.1 t28.2.2.2.2.1 t28.2.2.2.2.2 t42.1 t42.2.1 t42.2.2.1 t42.2.2.2.1 t42.2.2.2.2.1 t42.2.2.2.2.2).bind fun t43 => (if t43 = true then (some true) else (some false)))) else (some false)))) else (some false)))))))))))) := by rw [laws_FnExactMachOk.fv]
def Wf69 (x : S69) : Prop := (Lit.int .i64 x.f0).wf = true ∧ (Lit.int .i64 x.f1).wf = true ∧ x.f2.size ≤ maxLen
def Wf25 (x : S25) : Prop := (x.f0.length ≤ maxLen ∧ ∀ x_ ∈ x.f0, (fun s_ : ByteArray => s_.size ≤ maxLen) x_) ∧ (x.f1.length ≤ maxLen ∧ ∀ x_ ∈ x.f1, (fun s_ : ByteArray => s_.size ≤ maxLen) x_) ∧ (x.f2.length ≤ maxLen ∧ ∀ x_ ∈ x.f2, Wf69 x_) ∧ (x.f3.length ≤ maxLen ∧ ∀ x_ ∈ x.f3, Wf69 x_)
def Wf94 (x : S94) : Prop := (Lit.int .i64 x.f0).wf = true ∧ (Lit.int .i64 x.f1).wf = true ∧ x.f2.size ≤ maxLen
def Wf97 (x : S97) : Prop := (Lit.int .i64 x.f0).wf = true ∧ x.f1.size ≤ maxLen ∧ (Lit.int .i64 x.f2).wf = true ∧ (Lit.int .i64 x.f3).wf = true ∧ x.f4.size ≤ maxLen
def Wf29 (x : S29) : Prop := (x.f0.length ≤ maxLen ∧ ∀ x_ ∈ x.f0, Wf94 x_) ∧ (x.f1.length ≤ maxLen ∧ ∀ x_ ∈ x.f1, Wf97 x_) ∧ (Lit.int .i64 x.f2).wf = true ∧ (Lit.int .i64 x.f3).wf = true
def Wf32 (x : S32) : Prop := (x.f0.length ≤ maxLen ∧ ∀ x_ ∈ x.f0, Wf94 x_) ∧ (x.f1.length ≤ maxLen ∧ ∀ x_ ∈ x.f1, Wf97 x_) ∧ (Lit.int .i64 x.f2).wf = true ∧ (Lit.int .i64 x.f3).wf = true ∧ (x.f4.length ≤ maxLen ∧ ∀ x_ ∈ x.f4, (fun n_ : Int => (Lit.int .i64 n_).wf = true) x_) ∧ x.f5.size ≤ maxLen
def laws_FnExactMachOk.Pure : Prop := ∀ (x0 : S25) (x1 : S32), Wf25 x0 → Wf32 x1 → laws_FnExactMachOk.fv x0.f0 x0.f1 x0.f2 x0.f3 x1.f0 x1.f1 x1.f2 x1.f3 x1.f4 x1.f5 = some true
end
end Go.Proofs.YtdpioibndfpjfaaGreatDoor.QFnExactMachOk
