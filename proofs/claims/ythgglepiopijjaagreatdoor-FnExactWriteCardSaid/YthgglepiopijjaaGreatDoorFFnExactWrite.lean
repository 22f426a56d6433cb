/- The functions that FnExactWrite reaches, as they compute. -/
import Derived.Test.YthgglepiopijjaaGreatDoorPg
import Derived.Test.YthgglepiopijjaaGreatDoorMw
import Derived.Lib.Bytealg
import Derived.Lib.Replace
import Derived.Lib.ReplaceLaws
import Derived.Lib.ItoaNum
import Derived.Lib.LaidTab
import Derived.Lib.TrimByte
import Derived.Lib.Join
import Derived.Lib.IndexMore
set_option linter.unusedVariables false
set_option linter.unusedSimpArgs false
set_option maxRecDepth 100000
namespace Go.Proofs.YthgglepiopijjaaGreatDoor.QFnExactWrite
open Go.RowKit Go.Proofs.YthgglepiopijjaaGreatDoorW.PrintWords Go.Proofs.YthgglepiopijjaaGreatDoorW.Pgs
noncomputable section
structure S32 where
  f0 : Int
  f1 : Int
  f2 : ByteArray
  f3 : (List S32)
def z32 : S32 := ⟨(0 : Int), (0 : Int), (⟨#[]⟩ : ByteArray), ([] : List S32)⟩
def rd_T32 (xs : List S32) (i : Int) : S32 := xs.getD i.toNat z32
structure S34 where
  f0 : Int
  f1 : Int
  f2 : Int
  f3 : ByteArray
  f4 : (List S32)
  f5 : Int
  f6 : Int
  f7 : ByteArray
  f8 : (List S32)
def z34 : S34 := ⟨(0 : Int), (0 : Int), (0 : Int), (⟨#[]⟩ : ByteArray), ([] : List S32), (0 : Int), (0 : Int), (⟨#[]⟩ : ByteArray), ([] : List S32)⟩
def rd_T34 (xs : List S34) (i : Int) : S34 := xs.getD i.toNat z34
structure S38 where
  f0 : Int
  f1 : Int
  f2 : ByteArray
  f3 : (List S38)
def z38 : S38 := ⟨(0 : Int), (0 : Int), (⟨#[]⟩ : ByteArray), ([] : List S38)⟩
def rd_T38 (xs : List S38) (i : Int) : S38 := xs.getD i.toNat z38
structure S40 where
  f0 : Int
  f1 : Int
  f2 : Int
  f3 : ByteArray
  f4 : (List S38)
  f5 : Int
  f6 : Int
  f7 : ByteArray
  f8 : (List S38)
def z40 : S40 := ⟨(0 : Int), (0 : Int), (0 : Int), (⟨#[]⟩ : ByteArray), ([] : List S38), (0 : Int), (0 : Int), (⟨#[]⟩ : ByteArray), ([] : List S38)⟩
def rd_T40 (xs : List S40) (i : Int) : S40 := xs.getD i.toNat z40
def strings_ReplaceAll.f (a0 : ByteArray) (a1 : ByteArray) (a2 : ByteArray) : Option (ByteArray) := if a0.size < 4294967281 ∧ 1 ≤ a1.size ∧ a0.size + Lib.countB a0 a1 * a2.size ≤ 140737488355328 then some (⟨(Lib.replaceAll a0.data.toList a1.data.toList a2.data.toList).toArray⟩ : ByteArray) else none
def strconv_Itoa.f (a0 : Int) : Option (ByteArray) := if -9223372036854775808 ≤ a0 ∧ a0 ≤ 9223372036854775807 then some (⟨(Lib.itoa a0).toArray⟩ : ByteArray) else none
def strings_TrimRight.f (a0 : ByteArray) (a1 : ByteArray) : Option (ByteArray) := match a1.data.toList with | [c_] => (if c_.toNat < 128 ∧ a0.size ≤ 9223372036854775807 then some (⟨(Lib.trimRightB a0.data.toList c_).toArray⟩ : ByteArray) else none) | _ => none
def strings_Join.f (a0 : List ByteArray) (a1 : ByteArray) : Option (ByteArray) := if a0.length ≤ 140737488355328 ∧ (Lib.join (a0.map (fun s : ByteArray => s.data.toList)) a1.data.toList).length ≤ 140737488355328 then some (⟨(Lib.join (a0.map (fun s : ByteArray => s.data.toList)) a1.data.toList).toArray⟩ : ByteArray) else none
def strings_Contains.f (a0 : ByteArray) (a1 : ByteArray) : Option (Bool) := if a0.size < 4294967281 then some (Lib.contains a0.data.toList a1.data.toList) else none
inductive laws_szNode.Q where
  | laws_szNode_f (a0_0 : Int) (a0_1 : Int) (a0_2 : ByteArray) (l0_3 : List S32) (a1 : Int)
  | laws_szNodeS_f (l0 : List S32) (a1 : Int)
  | laws_szNodeS_l0 (x0 : List S32) (x1 : Int) (x5 : Int)
def laws_szNode.B : laws_szNode.Q → Pg laws_szNode.Q (fun _ => Int) (Int)
  | .laws_szNode_f a0_0 a0_1 a0_2 l0_3 a1 => if (wrap64 (a1 - (a0_2.size : Int))) < 0 then (.ret (-1)) else (.ask (.laws_szNodeS_f l0_3 ((wrap64 (a1 - (a0_2.size : Int))))) fun (t15 : Int) => (if t15 < 0 then (.ret (-1)) else (.ret t15)))
  | .laws_szNodeS_f l0 a1 => if (wrap64 (a1 - (l0.length : Int))) < 0 then (.ret (-1)) else (.to (.laws_szNodeS_l0 l0 ((wrap64 (a1 - (l0.length : Int)))) 0))
  | .laws_szNodeS_l0 x0 x1 x5 => if x5 < (x0.length : Int) then (if 0 ≤ x5 then (.ask (.laws_szNode_f ((rd_T32 x0 x5).f0) ((rd_T32 x0 x5).f1) ((rd_T32 x0 x5).f2) ((rd_T32 x0 x5).f3) x1) fun (t23 : Int) => (if t23 < 0 then (.ret (-1)) else (.to (.laws_szNodeS_l0 x0 t23 (wrap64 (x5 + 1)))))) else (.bad)) else (.ret x1)
def laws_szNode.fv (a0_0 : Int) (a0_1 : Int) (a0_2 : ByteArray) (l0_3 : List S32) (a1 : Int) : Option (Int) := lim laws_szNode.B (.laws_szNode_f a0_0 a0_1 a0_2 l0_3 a1)
def laws_szNodeS.fv (l0 : List S32) (a1 : Int) : Option (Int) := lim laws_szNode.B (.laws_szNodeS_f l0 a1)
def laws_szNodeS.l0v (x0 : List S32) (x1 : Int) (x5 : Int) : Option (Int) := lim laws_szNode.B (.laws_szNodeS_l0 x0 x1 x5)
theorem laws_szNode.fv_eq (a0_0 : Int) (a0_1 : Int) (a0_2 : ByteArray) (l0_3 : List S32) (a1 : Int) : laws_szNode.fv a0_0 a0_1 a0_2 l0_3 a1 = (if (wrap64 (a1 - (a0_2.size : Int))) < 0 then (some (-1)) else ((laws_szNodeS.fv l0_3 ((wrap64 (a1 - (a0_2.size : Int))))).bind fun t15 => (if t15 < 0 then (some (-1)) else (some t15)))) := by
  show lim laws_szNode.B (.laws_szNode_f a0_0 a0_1 a0_2 l0_3 a1) = _
  rw [lim_eq, laws_szNode.B]
  simp only [ev_ite, ev_opt, ev_ask, ev_to, ev_ret, ev_bad]
  try rfl
theorem laws_szNodeS.fv_eq (l0 : List S32) (a1 : Int) : laws_szNodeS.fv l0 a1 = (if (wrap64 (a1 - (l0.length : Int))) < 0 then (some (-1)) else (laws_szNodeS.l0v l0 ((wrap64 (a1 - (l0.length : Int)))) 0)) := by
  show lim laws_szNode.B (.laws_szNodeS_f l0 a1) = _
  rw [lim_eq, laws_szNode.B]
  simp only [ev_ite, ev_opt, ev_ask, ev_to, ev_ret, ev_bad]
  try rfl
theorem laws_szNodeS.l0v_eq (x0 : List S32) (x1 : Int) (x5 : Int) : laws_szNodeS.l0v x0 x1 x5 = (if x5 < (x0.length : Int) then (if 0 ≤ x5 then ((laws_szNode.fv ((rd_T32 x0 x5).f0) ((rd_T32 x0 x5).f1) ((rd_T32 x0 x5).f2) ((rd_T32 x0 x5).f3) x1).bind fun t23 => (if t23 < 0 then (some (-1)) else (laws_szNodeS.l0v x0 t23 (wrap64 (x5 + 1))))) else (none)) else (some x1)) := by
  show lim laws_szNode.B (.laws_szNodeS_l0 x0 x1 x5) = _
  rw [lim_eq, laws_szNode.B]
  simp only [ev_ite, ev_opt, ev_ask, ev_to, ev_ret, ev_bad]
  try rfl
def laws_szRule.fv (a0_0 : Int) (a0_1 : Int) (a0_2 : Int) (a0_3 : ByteArray) (l0_4 : List S32) (a0_5 : Int) (a0_6 : Int) (a0_7 : ByteArray) (l0_8 : List S32) (a1 : Int) : Option (Int) := (laws_szNode.fv a0_1 a0_2 a0_3 l0_4 a1).bind fun t8 => (if t8 < 0 then (some (-1)) else ((laws_szNode.fv a0_5 a0_6 a0_7 l0_8 t8).bind fun t14 => (if t14 < 0 then (some (-1)) else (some t14))))
theorem laws_szRule.fv_eq (a0_0 : Int) (a0_1 : Int) (a0_2 : Int) (a0_3 : ByteArray) (l0_4 : List S32) (a0_5 : Int) (a0_6 : Int) (a0_7 : ByteArray) (l0_8 : List S32) (a1 : Int) : laws_szRule.fv a0_0 a0_1 a0_2 a0_3 l0_4 a0_5 a0_6 a0_7 l0_8 a1 = ((laws_szNode.fv a0_1 a0_2 a0_3 l0_4 a1).bind fun t8 => (if t8 < 0 then (some (-1)) else ((laws_szNode.fv a0_5 a0_6 a0_7 l0_8 t8).bind fun t14 => (if t14 < 0 then (some (-1)) else (some t14))))) := by rw [laws_szRule.fv]
inductive laws_szRuleS.Q where
  | f (l0 : List S34) (a1 : Int)
  | l0 (x0 : List S34) (x1 : Int) (x5 : Int)
def laws_szRuleS.B : laws_szRuleS.Q → Pg laws_szRuleS.Q (fun _ => Int) (Int)
  | .f l0 a1 => if (wrap64 (a1 - (l0.length : Int))) < 0 then (.ret (-1)) else (.to (.l0 l0 ((wrap64 (a1 - (l0.length : Int)))) 0))
  | .l0 x0 x1 x5 => if x5 < (x0.length : Int) then (if 0 ≤ x5 then (.opt (laws_szRule.fv ((rd_T34 x0 x5).f0) ((rd_T34 x0 x5).f1) ((rd_T34 x0 x5).f2) ((rd_T34 x0 x5).f3) ((rd_T34 x0 x5).f4) ((rd_T34 x0 x5).f5) ((rd_T34 x0 x5).f6) ((rd_T34 x0 x5).f7) ((rd_T34 x0 x5).f8) x1) fun t23 => (if t23 < 0 then (.ret (-1)) else (.to (.l0 x0 t23 (wrap64 (x5 + 1)))))) else (.bad)) else (.ret x1)
def laws_szRuleS.fv (l0 : List S34) (a1 : Int) : Option (Int) := lim laws_szRuleS.B (.f l0 a1)
def laws_szRuleS.l0v (x0 : List S34) (x1 : Int) (x5 : Int) : Option (Int) := lim laws_szRuleS.B (.l0 x0 x1 x5)
theorem laws_szRuleS.fv_eq (l0 : List S34) (a1 : Int) : laws_szRuleS.fv l0 a1 = (if (wrap64 (a1 - (l0.length : Int))) < 0 then (some (-1)) else (laws_szRuleS.l0v l0 ((wrap64 (a1 - (l0.length : Int)))) 0)) := by
  show lim laws_szRuleS.B (.f l0 a1) = _
  rw [lim_eq, laws_szRuleS.B]
  simp only [ev_ite, ev_opt, ev_ask, ev_to, ev_ret, ev_bad]
  try rfl
theorem laws_szRuleS.l0v_eq (x0 : List S34) (x1 : Int) (x5 : Int) : laws_szRuleS.l0v x0 x1 x5 = (if x5 < (x0.length : Int) then (if 0 ≤ x5 then ((laws_szRule.fv ((rd_T34 x0 x5).f0) ((rd_T34 x0 x5).f1) ((rd_T34 x0 x5).f2) ((rd_T34 x0 x5).f3) ((rd_T34 x0 x5).f4) ((rd_T34 x0 x5).f5) ((rd_T34 x0 x5).f6) ((rd_T34 x0 x5).f7) ((rd_T34 x0 x5).f8) x1).bind fun t23 => (if t23 < 0 then (some (-1)) else (laws_szRuleS.l0v x0 t23 (wrap64 (x5 + 1))))) else (none)) else (some x1)) := by
  show lim laws_szRuleS.B (.l0 x0 x1 x5) = _
  rw [lim_eq, laws_szRuleS.B]
  simp only [ev_ite, ev_opt, ev_ask, ev_to, ev_ret, ev_bad]
  try rfl
inductive laws_toNode.Q where
  | laws_toNode_f (a0_0 : Int) (a0_1 : Int) (a0_2 : ByteArray) (l0_3 : List S32)
  | laws_toNodeS_f (l0 : List S32)
  | laws_toNodeS_l0 (x0 : List S32) (x3 : List S38) (x4 : Int)
abbrev laws_toNode.A : laws_toNode.Q → Type
  | .laws_toNode_f _ _ _ _ => Int × Int × ByteArray × (List S38)
  | .laws_toNodeS_f _ => (List S38)
  | .laws_toNodeS_l0 _ _ _ => (List S38)
def laws_toNode.B : (q : laws_toNode.Q) → Pg laws_toNode.Q laws_toNode.A (laws_toNode.A q)
  | .laws_toNode_f a0_0 a0_1 a0_2 l0_3 => .ask (laws_toNode.Q.laws_toNodeS_f l0_3) fun (t15 : (List S38)) => (.ret ((a0_0, a0_1, a0_2, t15) : Int × Int × ByteArray × (List S38)))
  | .laws_toNodeS_f l0 => if 0 ≤ (l0.length : Int) then (if ((l0.length : Int) : Int).toNat ≤ 5026338869833 then (.to (laws_toNode.Q.laws_toNodeS_l0 l0 ((List.replicate ((l0.length : Int) : Int).toNat z38)) 0)) else (.bad)) else (.bad)
  | .laws_toNodeS_l0 x0 x3 x4 => if x4 < (x0.length : Int) then (if 0 ≤ x4 then (.ask (laws_toNode.Q.laws_toNode_f ((rd_T32 x0 x4).f0) ((rd_T32 x0 x4).f1) ((rd_T32 x0 x4).f2) ((rd_T32 x0 x4).f3)) fun (t20 : Int × Int × ByteArray × (List S38)) => (if x4 < (x3.length : Int) then (.to (laws_toNode.Q.laws_toNodeS_l0 x0 (x3.set (x4 : Int).toNat (⟨t20.1, t20.2.1, t20.2.2.1, t20.2.2.2⟩ : S38)) (wrap64 (x4 + 1)))) else (.bad))) else (.bad)) else (.ret (x3 : (List S38)))
def laws_toNode.fv (a0_0 : Int) (a0_1 : Int) (a0_2 : ByteArray) (l0_3 : List S32) : Option (Int × Int × ByteArray × (List S38)) := lim laws_toNode.B (.laws_toNode_f a0_0 a0_1 a0_2 l0_3)
def laws_toNodeS.fv (l0 : List S32) : Option ((List S38)) := lim laws_toNode.B (.laws_toNodeS_f l0)
def laws_toNodeS.l0v (x0 : List S32) (x3 : List S38) (x4 : Int) : Option ((List S38)) := lim laws_toNode.B (.laws_toNodeS_l0 x0 x3 x4)
theorem laws_toNode.fv_eq (a0_0 : Int) (a0_1 : Int) (a0_2 : ByteArray) (l0_3 : List S32) : laws_toNode.fv a0_0 a0_1 a0_2 l0_3 = ((laws_toNodeS.fv l0_3).bind fun t15 => (some (a0_0, a0_1, a0_2, t15))) := by
  show lim laws_toNode.B (.laws_toNode_f a0_0 a0_1 a0_2 l0_3) = _
  rw [lim_eq, laws_toNode.B]
  simp only [ev_ite, ev_opt, ev_ask, ev_to, ev_ret, ev_bad]
  try rfl
theorem laws_toNodeS.fv_eq (l0 : List S32) : laws_toNodeS.fv l0 = (if 0 ≤ (l0.length : Int) then (if ((l0.length : Int) : Int).toNat ≤ 5026338869833 then (laws_toNodeS.l0v l0 ((List.replicate ((l0.length : Int) : Int).toNat z38)) 0) else (none)) else (none)) := by
  show lim laws_toNode.B (.laws_toNodeS_f l0) = _
  rw [lim_eq, laws_toNode.B]
  simp only [ev_ite, ev_opt, ev_ask, ev_to, ev_ret, ev_bad]
  try rfl
theorem laws_toNodeS.l0v_eq (x0 : List S32) (x3 : List S38) (x4 : Int) : laws_toNodeS.l0v x0 x3 x4 = (if x4 < (x0.length : Int) then (if 0 ≤ x4 then ((laws_toNode.fv ((rd_T32 x0 x4).f0) ((rd_T32 x0 x4).f1) ((rd_T32 x0 x4).f2) ((rd_T32 x0 x4).f3)).bind fun t20 => (if x4 < (x3.length : Int) then (laws_toNodeS.l0v x0 (x3.set (x4 : Int).toNat (⟨t20.1, t20.2.1, t20.2.2.1, t20.2.2.2⟩ : S38)) (wrap64 (x4 + 1))) else (none))) else (none)) else (some x3)) := by
  show lim laws_toNode.B (.laws_toNodeS_l0 x0 x3 x4) = _
  rw [lim_eq, laws_toNode.B]
  simp only [ev_ite, ev_opt, ev_ask, ev_to, ev_ret, ev_bad]
  try rfl
def laws_toRule.fv (a0_0 : Int) (a0_1 : Int) (a0_2 : Int) (a0_3 : ByteArray) (l0_4 : List S32) (a0_5 : Int) (a0_6 : Int) (a0_7 : ByteArray) (l0_8 : List S32) : Option (Int × Int × Int × ByteArray × (List S38) × Int × Int × ByteArray × (List S38)) := (laws_toNode.fv a0_1 a0_2 a0_3 l0_4).bind fun t9 => ((laws_toNode.fv a0_5 a0_6 a0_7 l0_8).bind fun t13 => (some (a0_0, t9.1, t9.2.1, t9.2.2.1, t9.2.2.2, t13.1, t13.2.1, t13.2.2.1, t13.2.2.2)))
theorem laws_toRule.fv_eq (a0_0 : Int) (a0_1 : Int) (a0_2 : Int) (a0_3 : ByteArray) (l0_4 : List S32) (a0_5 : Int) (a0_6 : Int) (a0_7 : ByteArray) (l0_8 : List S32) : laws_toRule.fv a0_0 a0_1 a0_2 a0_3 l0_4 a0_5 a0_6 a0_7 l0_8 = ((laws_toNode.fv a0_1 a0_2 a0_3 l0_4).bind fun t9 => ((laws_toNode.fv a0_5 a0_6 a0_7 l0_8).bind fun t13 => (some (a0_0, t9.1, t9.2.1, t9.2.2.1, t9.2.2.2, t13.1, t13.2.1, t13.2.2.1, t13.2.2.2)))) := by rw [laws_toRule.fv]
inductive laws_toRuleS.Q where
  | f (l0 : List S34)
  | l0 (x0 : List S34) (x3 : List S40) (x4 : Int)
def laws_toRuleS.B : laws_toRuleS.Q → Pg laws_toRuleS.Q (fun _ => (List S40)) ((List S40))
  | .f l0 => if 0 ≤ (l0.length : Int) then (if ((l0.length : Int) : Int).toNat ≤ 2345624805922 then (.to (.l0 l0 ((List.replicate ((l0.length : Int) : Int).toNat z40)) 0)) else (.bad)) else (.bad)
  | .l0 x0 x3 x4 => if x4 < (x0.length : Int) then (if 0 ≤ x4 then (.opt (laws_toRule.fv ((rd_T34 x0 x4).f0) ((rd_T34 x0 x4).f1) ((rd_T34 x0 x4).f2) ((rd_T34 x0 x4).f3) ((rd_T34 x0 x4).f4) ((rd_T34 x0 x4).f5) ((rd_T34 x0 x4).f6) ((rd_T34 x0 x4).f7) ((rd_T34 x0 x4).f8)) fun t20 => (if x4 < (x3.length : Int) then (.to (.l0 x0 (x3.set (x4 : Int).toNat (⟨t20.1, t20.2.1, t20.2.2.1, t20.2.2.2.1, t20.2.2.2.2.1, t20.2.2.2.2.2.1, t20.2.2.2.2.2.2.1, t20.2.2.2.2.2.2.2.1, t20.2.2.2.2.2.2.2.2⟩ : S40)) (wrap64 (x4 + 1)))) else (.bad))) else (.bad)) else (.ret x3)
def laws_toRuleS.fv (l0 : List S34) : Option ((List S40)) := lim laws_toRuleS.B (.f l0)
def laws_toRuleS.l0v (x0 : List S34) (x3 : List S40) (x4 : Int) : Option ((List S40)) := lim laws_toRuleS.B (.l0 x0 x3 x4)
theorem laws_toRuleS.fv_eq (l0 : List S34) : laws_toRuleS.fv l0 = (if 0 ≤ (l0.length : Int) then (if ((l0.length : Int) : Int).toNat ≤ 2345624805922 then (laws_toRuleS.l0v l0 ((List.replicate ((l0.length : Int) : Int).toNat z40)) 0) else (none)) else (none)) := by
  show lim laws_toRuleS.B (.f l0) = _
  rw [lim_eq, laws_toRuleS.B]
  simp only [ev_ite, ev_opt, ev_ask, ev_to, ev_ret, ev_bad]
  try rfl
theorem laws_toRuleS.l0v_eq (x0 : List S34) (x3 : List S40) (x4 : Int) : laws_toRuleS.l0v x0 x3 x4 = (if x4 < (x0.length : Int) then (if 0 ≤ x4 then ((laws_toRule.fv ((rd_T34 x0 x4).f0) ((rd_T34 x0 x4).f1) ((rd_T34 x0 x4).f2) ((rd_T34 x0 x4).f3) ((rd_T34 x0 x4).f4) ((rd_T34 x0 x4).f5) ((rd_T34 x0 x4).f6) ((rd_T34 x0 x4).f7) ((rd_T34 x0 x4).f8)).bind fun t20 => (if x4 < (x3.length : Int) then (laws_toRuleS.l0v x0 (x3.set (x4 : Int).toNat (⟨t20.1, t20.2.1, t20.2.2.1, t20.2.2.2.1, t20.2.2.2.2.1, t20.2.2.2.2.2.1, t20.2.2.2.2.2.2.1, t20.2.2.2.2.2.2.2.1, t20.2.2.2.2.2.2.2.2⟩ : S40)) (wrap64 (x4 + 1))) else (none))) else (none)) else (some x3)) := by
  show lim laws_toRuleS.B (.l0 x0 x3 x4) = _
  rw [lim_eq, laws_toRuleS.B]
  simp only [ev_ite, ev_opt, ev_ask, ev_to, ev_ret, ev_bad]
  try rfl
def spec_l1In.f (a0 : Int) (a1 : Int) (a2 : Int) : Option (Bool) := if a0 ≥ a1 then (some (decide (a0 ≤ a2))) else (some false)
def spec_l9IsE.f (a0 : Int) : Option (Bool) := (spec_l1In.f a0 1 28).bind fun t4 => (some t4)
inductive spec_l9Line.Q where
  | f (a0 : ByteArray)
  | l0 (x0 : ByteArray) (x3 : Int)
def spec_l9Line.B : spec_l9Line.Q → Pg spec_l9Line.Q (fun _ => Bool) (Bool)
  | .f a0 => .to (.l0 a0 0)
  | .l0 x0 x3 => if x3 < (x0.size : Int) then (if 0 ≤ x3 then (if (bt x0 x3) = 10 then (.ret false) else (.to (.l0 x0 (wrap64 (x3 + 1))))) else (.bad)) else (.ret true)
def spec_l9Line.fv (a0 : ByteArray) : Option (Bool) := lim spec_l9Line.B (.f a0)
def spec_l9Line.l0v (x0 : ByteArray) (x3 : Int) : Option (Bool) := lim spec_l9Line.B (.l0 x0 x3)
theorem spec_l9Line.fv_eq (a0 : ByteArray) : spec_l9Line.fv a0 = (spec_l9Line.l0v a0 0) := by
  show lim spec_l9Line.B (.f a0) = _
  rw [lim_eq, spec_l9Line.B]
  simp only [ev_ite, ev_opt, ev_ask, ev_to, ev_ret, ev_bad]
  try rfl
theorem spec_l9Line.l0v_eq (x0 : ByteArray) (x3 : Int) : spec_l9Line.l0v x0 x3 = (if x3 < (x0.size : Int) then (if 0 ≤ x3 then (if (bt x0 x3) = 10 then (some false) else (spec_l9Line.l0v x0 (wrap64 (x3 + 1)))) else (none)) else (some true)) := by
  show lim spec_l9Line.B (.l0 x0 x3) = _
  rw [lim_eq, spec_l9Line.B]
  simp only [ev_ite, ev_opt, ev_ask, ev_to, ev_ret, ev_bad]
  try rfl
inductive spec_l9Rex.Q where
  | f (a0 : ByteArray)
  | l0 (x0 : ByteArray) (x3 : Int)
def spec_l9Rex.B : spec_l9Rex.Q → Pg spec_l9Rex.Q (fun _ => Bool) (Bool)
  | .f a0 => .to (.l0 a0 0)
  | .l0 x0 x3 => if x3 < (x0.size : Int) then (if 0 ≤ x3 then (if (bt x0 x3) = 92 then (if (wrap64 (x3 + 1)) = (x0.size : Int) then (.ret false) else (if 0 ≤ (wrap64 (x3 + 1)) then (if (wrap64 (x3 + 1)) < (x0.size : Int) then (if (bt x0 (wrap64 (x3 + 1))) = 47 then (.ret false) else (.to (.l0 x0 ((wrap64 ((wrap64 (x3 + 1)) + 1)))))) else (.bad)) else (.bad))) else (.to (.l0 x0 (wrap64 (x3 + 1))))) else (.bad)) else (.opt (spec_l9Line.fv x0) fun t27 => (.ret t27))
def spec_l9Rex.fv (a0 : ByteArray) : Option (Bool) := lim spec_l9Rex.B (.f a0)
def spec_l9Rex.l0v (x0 : ByteArray) (x3 : Int) : Option (Bool) := lim spec_l9Rex.B (.l0 x0 x3)
theorem spec_l9Rex.fv_eq (a0 : ByteArray) : spec_l9Rex.fv a0 = (spec_l9Rex.l0v a0 0) := by
  show lim spec_l9Rex.B (.f a0) = _
  rw [lim_eq, spec_l9Rex.B]
  simp only [ev_ite, ev_opt, ev_ask, ev_to, ev_ret, ev_bad]
  try rfl
theorem spec_l9Rex.l0v_eq (x0 : ByteArray) (x3 : Int) : spec_l9Rex.l0v x0 x3 = (if x3 < (x0.size : Int) then (if 0 ≤ x3 then (if (bt x0 x3) = 92 then (if (wrap64 (x3 + 1)) = (x0.size : Int) then (some false) else (if 0 ≤ (wrap64 (x3 + 1)) then (if (wrap64 (x3 + 1)) < (x0.size : Int) then (if (bt x0 (wrap64 (x3 + 1))) = 47 then (some false) else (spec_l9Rex.l0v x0 ((wrap64 ((wrap64 (x3 + 1)) + 1))))) else (none)) else (none))) else (spec_l9Rex.l0v x0 (wrap64 (x3 + 1)))) else (none)) else ((spec_l9Line.fv x0).bind fun t27 => (some t27))) := by
  show lim spec_l9Rex.B (.l0 x0 x3) = _
  rw [lim_eq, spec_l9Rex.B]
  simp only [ev_ite, ev_opt, ev_ask, ev_to, ev_ret, ev_bad]
  try rfl
def spec_l7Letter.f (a0 : Int) : Option (Bool) := if a0 ≥ 97 then (if a0 ≤ 122 then (some true) else (if a0 ≥ 65 then (some (decide (a0 ≤ 90))) else (some false))) else (if a0 ≥ 65 then (some (decide (a0 ≤ 90))) else (some false))
inductive spec_l7Within.Q where
  | f (l0 : List ByteArray) (a1 : ByteArray)
  | l0 (x0 : List ByteArray) (x1 : ByteArray) (x5 : Int)
def spec_l7Within.B : spec_l7Within.Q → Pg spec_l7Within.Q (fun _ => Bool) (Bool)
  | .f l0 a1 => .to (.l0 l0 a1 0)
  | .l0 x0 x1 x5 => if x5 < (x0.length : Int) then (if 0 ≤ x5 then (if (rdOf ByteArray.empty x0 x5).toList = x1.toList then (.ret true) else (.to (.l0 x0 x1 (wrap64 (x5 + 1))))) else (.bad)) else (.ret false)
def spec_l7Within.fv (l0 : List ByteArray) (a1 : ByteArray) : Option (Bool) := lim spec_l7Within.B (.f l0 a1)
def spec_l7Within.l0v (x0 : List ByteArray) (x1 : ByteArray) (x5 : Int) : Option (Bool) := lim spec_l7Within.B (.l0 x0 x1 x5)
theorem spec_l7Within.fv_eq (l0 : List ByteArray) (a1 : ByteArray) : spec_l7Within.fv l0 a1 = (spec_l7Within.l0v l0 a1 0) := by
  show lim spec_l7Within.B (.f l0 a1) = _
  rw [lim_eq, spec_l7Within.B]
  simp only [ev_ite, ev_opt, ev_ask, ev_to, ev_ret, ev_bad]
  try rfl
theorem spec_l7Within.l0v_eq (x0 : List ByteArray) (x1 : ByteArray) (x5 : Int) : spec_l7Within.l0v x0 x1 x5 = (if x5 < (x0.length : Int) then (if 0 ≤ x5 then (if (rdOf ByteArray.empty x0 x5).toList = x1.toList then (some true) else (spec_l7Within.l0v x0 x1 (wrap64 (x5 + 1)))) else (none)) else (some false)) := by
  show lim spec_l7Within.B (.l0 x0 x1 x5) = _
  rw [lim_eq, spec_l7Within.B]
  simp only [ev_ite, ev_opt, ev_ask, ev_to, ev_ret, ev_bad]
  try rfl
def spec_l7Calls.f  : Option ((List ByteArray)) := (some ([(⟨#[108, 101, 110, 103, 116, 104]⟩ : ByteArray), (⟨#[115, 117, 98, 115, 116, 114]⟩ : ByteArray), (⟨#[105, 110, 100, 101, 120]⟩ : ByteArray), (⟨#[105, 110, 116]⟩ : ByteArray), (⟨#[117, 112, 112, 101, 114]⟩ : ByteArray), (⟨#[108, 111, 119, 101, 114]⟩ : ByteArray)] : List ByteArray)).bind fun y1_0 => (some y1_0)
def spec_Keyword.fv (a0 : ByteArray) : Option (Bool) := (some ([(⟨#[66, 69, 71, 73, 78]⟩ : ByteArray), (⟨#[112, 114, 105, 110, 116]⟩ : ByteArray), (⟨#[105, 102]⟩ : ByteArray), (⟨#[101, 108, 115, 101]⟩ : ByteArray), (⟨#[119, 104, 105, 108, 101]⟩ : ByteArray), (⟨#[110, 101, 120, 116]⟩ : ByteArray), (⟨#[100, 101, 108, 101, 116, 101]⟩ : ByteArray), (⟨#[78, 82]⟩ : ByteArray), (⟨#[78, 70]⟩ : ByteArray)] : List ByteArray)).bind fun y1_0 => ((spec_l7Within.fv y1_0 a0).bind fun t5 => (if t5 = true then (some true) else ((spec_l7Calls.f).bind fun t7 => ((spec_l7Within.fv t7 a0).bind fun t9 => (some t9)))))
theorem spec_Keyword.fv_eq (a0 : ByteArray) : spec_Keyword.fv a0 = ((some ([(⟨#[66, 69, 71, 73, 78]⟩ : ByteArray), (⟨#[112, 114, 105, 110, 116]⟩ : ByteArray), (⟨#[105, 102]⟩ : ByteArray), (⟨#[101, 108, 115, 101]⟩ : ByteArray), (⟨#[119, 104, 105, 108, 101]⟩ : ByteArray), (⟨#[110, 101, 120, 116]⟩ : ByteArray), (⟨#[100, 101, 108, 101, 116, 101]⟩ : ByteArray), (⟨#[78, 82]⟩ : ByteArray), (⟨#[78, 70]⟩ : ByteArray)] : List ByteArray)).bind fun y1_0 => ((spec_l7Within.fv y1_0 a0).bind fun t5 => (if t5 = true then (some true) else ((spec_l7Calls.f).bind fun t7 => ((spec_l7Within.fv t7 a0).bind fun t9 => (some t9)))))) := by rw [spec_Keyword.fv]
inductive spec_l9Name.Q where
  | f (a0 : ByteArray)
  | l0 (x0 : ByteArray) (x3 : Int)
def spec_l9Name.B : spec_l9Name.Q → Pg spec_l9Name.Q (fun _ => Bool) (Bool)
  | .f a0 => .to (.l0 a0 0)
  | .l0 x0 x3 => if x3 < (x0.size : Int) then (if 0 ≤ x3 then (.opt (spec_l7Letter.f (bt x0 x3)) fun t13 => (if t13 = true then (.to (.l0 x0 (wrap64 (x3 + 1)))) else (.ret false))) else (.bad)) else (.opt (spec_l1In.f (x0.size : Int) 1 8) fun t17 => (if t17 = true then (.opt (spec_Keyword.fv x0) fun t20 => (.ret (!t20))) else (.ret false)))
def spec_l9Name.fv (a0 : ByteArray) : Option (Bool) := lim spec_l9Name.B (.f a0)
def spec_l9Name.l0v (x0 : ByteArray) (x3 : Int) : Option (Bool) := lim spec_l9Name.B (.l0 x0 x3)
theorem spec_l9Name.fv_eq (a0 : ByteArray) : spec_l9Name.fv a0 = (spec_l9Name.l0v a0 0) := by
  show lim spec_l9Name.B (.f a0) = _
  rw [lim_eq, spec_l9Name.B]
  simp only [ev_ite, ev_opt, ev_ask, ev_to, ev_ret, ev_bad]
  try rfl
theorem spec_l9Name.l0v_eq (x0 : ByteArray) (x3 : Int) : spec_l9Name.l0v x0 x3 = (if x3 < (x0.size : Int) then (if 0 ≤ x3 then ((spec_l7Letter.f (bt x0 x3)).bind fun t13 => (if t13 = true then (spec_l9Name.l0v x0 (wrap64 (x3 + 1))) else (some false))) else (none)) else ((spec_l1In.f (x0.size : Int) 1 8).bind fun t17 => (if t17 = true then ((spec_Keyword.fv x0).bind fun t20 => (some (!t20))) else (some false)))) := by
  show lim spec_l9Name.B (.l0 x0 x3) = _
  rw [lim_eq, spec_l9Name.B]
  simp only [ev_ite, ev_opt, ev_ask, ev_to, ev_ret, ev_bad]
  try rfl
inductive spec_l9Node.Q where
  | spec_l9Node_f (a0_0 : Int) (a0_1 : Int) (a0_2 : ByteArray) (l0_3 : List S38)
  | spec_l9Node_j0 (x21 : Bool) (x16_0 : Int) (x16_1 : Int) (x16_2 : ByteArray) (x16_3 : List S38)
  | spec_l9Node_j1 (x23 : Int) (x44 : Bool) (x16_0 : Int) (x16_1 : Int) (x16_2 : ByteArray) (x16_3 : List S38)
  | spec_l9Kids_f (a0_0 : Int) (a0_1 : Int) (a0_2 : ByteArray) (l0_3 : List S38)
  | spec_l9Kids_j0 (x3 : Int) (x9 : Int) (x10 : Bool) (x16_0 : Int) (x16_1 : Int) (x16_2 : ByteArray) (x16_3 : List S38)
  | spec_l9Kids_j1 (x3 : Int) (x9 : Int) (x23 : Bool) (x16_0 : Int) (x16_1 : Int) (x16_2 : ByteArray) (x16_3 : List S38)
  | spec_l9Kids_j2 (x3 : Int) (x9 : Int) (x45 : Bool) (x16_0 : Int) (x16_1 : Int) (x16_2 : ByteArray) (x16_3 : List S38)
  | spec_l9Kids_j3 (x3 : Int) (x9 : Int) (x70 : Bool) (x16_0 : Int) (x16_1 : Int) (x16_2 : ByteArray) (x16_3 : List S38)
  | spec_l9Kids_l0 (x3 : Int) (x4 : Int) (x16_0 : Int) (x16_1 : Int) (x16_2 : ByteArray) (x16_3 : List S38)
  | spec_l9Es_f (a0_0 : Int) (a0_1 : Int) (a0_2 : ByteArray) (l0_3 : List S38) (a1 : Int) (a2 : Int)
  | spec_l9Es_l0 (x2 : Int) (x7 : Int) (x16_0 : Int) (x16_1 : Int) (x16_2 : ByteArray) (x16_3 : List S38)
  | spec_l9Blocks_f (a0_0 : Int) (a0_1 : Int) (a0_2 : ByteArray) (l0_3 : List S38) (a1 : Int)
  | spec_l9Blocks_l0 (x5 : Int) (x16_0 : Int) (x16_1 : Int) (x16_2 : ByteArray) (x16_3 : List S38)
def spec_l9Node.B : spec_l9Node.Q → Pg spec_l9Node.Q (fun _ => Bool) (Bool)
  | .spec_l9Node_f a0_0 a0_1 a0_2 l0_3 => .ask (.spec_l9Kids_f a0_0 a0_1 a0_2 l0_3) fun (t4 : Bool) => (if t4 = true then (.opt (spec_l1In.f a0_0 1 35) fun t9 => (if t9 = true then (if a0_1 = 0 then (.to (.spec_l9Node_j0 false a0_0 a0_1 a0_2 l0_3)) else (.to (.spec_l9Node_j0 (a0_0 != 1) a0_0 a0_1 a0_2 l0_3))) else (.to (.spec_l9Node_j0 true a0_0 a0_1 a0_2 l0_3)))) else (.to (.spec_l9Node_j0 true a0_0 a0_1 a0_2 l0_3)))
  | .spec_l9Node_j0 x21 x16_0 x16_1 x16_2 x16_3 => if x21 = true then (.ret false) else (if x16_0 = 1 then (if x16_2.toList = ([] : List UInt8) then (.opt (spec_l1In.f x16_1 0 9000000000000) fun t32 => (.ret t32)) else (.ret false)) else (if x16_0 = 2 then (.opt (spec_l9Line.fv x16_2) fun t38 => (.ret t38)) else (if x16_0 = 3 then (.opt (spec_l9Rex.fv x16_2) fun t43 => (.ret t43)) else (if x16_0 = 4 then (.to (.spec_l9Node_j1 x16_0 (x16_0 == 4) x16_0 x16_1 x16_2 x16_3)) else (if x16_0 = 5 then (.to (.spec_l9Node_j1 x16_0 (x16_0 == 5) x16_0 x16_1 x16_2 x16_3)) else (.to (.spec_l9Node_j1 x16_0 (x16_0 == 34) x16_0 x16_1 x16_2 x16_3)))))))
  | .spec_l9Node_j1 x23 x44 x16_0 x16_1 x16_2 x16_3 => if x44 = true then (.opt (spec_l9Name.fv x16_2) fun t50 => (.ret t50)) else (if x23 = 28 then (.opt (spec_l7Calls.f) fun t53 => (.opt (spec_l7Within.fv t53 x16_2) fun t56 => (.ret t56))) else (.ret (x16_2.toList == (⟨#[]⟩ : ByteArray).toList)))
  | .spec_l9Kids_f a0_0 a0_1 a0_2 l0_3 => if a0_0 = 5 then (.to (.spec_l9Kids_j0 (l0_3.length : Int) a0_0 (a0_0 == 5) a0_0 a0_1 a0_2 l0_3)) else (if a0_0 = 6 then (.to (.spec_l9Kids_j0 (l0_3.length : Int) a0_0 (a0_0 == 6) a0_0 a0_1 a0_2 l0_3)) else (if a0_0 = 22 then (.to (.spec_l9Kids_j0 (l0_3.length : Int) a0_0 (a0_0 == 22) a0_0 a0_1 a0_2 l0_3)) else (if a0_0 = 23 then (.to (.spec_l9Kids_j0 (l0_3.length : Int) a0_0 (a0_0 == 23) a0_0 a0_1 a0_2 l0_3)) else (if a0_0 = 34 then (.to (.spec_l9Kids_j0 (l0_3.length : Int) a0_0 (a0_0 == 34) a0_0 a0_1 a0_2 l0_3)) else (.to (.spec_l9Kids_j0 (l0_3.length : Int) a0_0 (a0_0 == 35) a0_0 a0_1 a0_2 l0_3))))))
  | .spec_l9Kids_j0 x3 x9 x10 x16_0 x16_1 x16_2 x16_3 => if x10 = true then (if x3 = 1 then (.ask (.spec_l9Es_f x16_0 x16_1 x16_2 x16_3 0 1) fun (t21 : Bool) => (.ret t21)) else (.ret false)) else (if x9 = 9 then (.to (.spec_l9Kids_j1 x3 x9 (x9 == 9) x16_0 x16_1 x16_2 x16_3)) else (if x9 = 10 then (.to (.spec_l9Kids_j1 x3 x9 (x9 == 10) x16_0 x16_1 x16_2 x16_3)) else (if x9 = 11 then (.to (.spec_l9Kids_j1 x3 x9 (x9 == 11) x16_0 x16_1 x16_2 x16_3)) else (if x9 = 12 then (.to (.spec_l9Kids_j1 x3 x9 (x9 == 12) x16_0 x16_1 x16_2 x16_3)) else (if x9 = 13 then (.to (.spec_l9Kids_j1 x3 x9 (x9 == 13) x16_0 x16_1 x16_2 x16_3)) else (if x9 = 14 then (.to (.spec_l9Kids_j1 x3 x9 (x9 == 14) x16_0 x16_1 x16_2 x16_3)) else (if x9 = 15 then (.to (.spec_l9Kids_j1 x3 x9 (x9 == 15) x16_0 x16_1 x16_2 x16_3)) else (if x9 = 16 then (.to (.spec_l9Kids_j1 x3 x9 (x9 == 16) x16_0 x16_1 x16_2 x16_3)) else (if x9 = 17 then (.to (.spec_l9Kids_j1 x3 x9 (x9 == 17) x16_0 x16_1 x16_2 x16_3)) else (if x9 = 18 then (.to (.spec_l9Kids_j1 x3 x9 (x9 == 18) x16_0 x16_1 x16_2 x16_3)) else (if x9 = 19 then (.to (.spec_l9Kids_j1 x3 x9 (x9 == 19) x16_0 x16_1 x16_2 x16_3)) else (if x9 = 20 then (.to (.spec_l9Kids_j1 x3 x9 (x9 == 20) x16_0 x16_1 x16_2 x16_3)) else (if x9 = 21 then (.to (.spec_l9Kids_j1 x3 x9 (x9 == 21) x16_0 x16_1 x16_2 x16_3)) else (if x9 = 24 then (.to (.spec_l9Kids_j1 x3 x9 (x9 == 24) x16_0 x16_1 x16_2 x16_3)) else (.to (.spec_l9Kids_j1 x3 x9 (x9 == 25) x16_0 x16_1 x16_2 x16_3))))))))))))))))
  | .spec_l9Kids_j1 x3 x9 x23 x16_0 x16_1 x16_2 x16_3 => if x23 = true then (if x3 = 2 then (.ask (.spec_l9Es_f x16_0 x16_1 x16_2 x16_3 0 2) fun (t43 : Bool) => (.ret t43)) else (.ret false)) else (if x9 = 26 then (.to (.spec_l9Kids_j2 x3 x9 (x9 == 26) x16_0 x16_1 x16_2 x16_3)) else (.to (.spec_l9Kids_j2 x3 x9 (x9 == 27) x16_0 x16_1 x16_2 x16_3)))
  | .spec_l9Kids_j2 x3 x9 x45 x16_0 x16_1 x16_2 x16_3 => if x45 = true then (if x3 = 2 then (if 0 < (x16_3.length : Int) then (if (rd_T38 x16_3 0).f0 = 4 then (.ask (.spec_l9Es_f x16_0 x16_1 x16_2 x16_3 0 2) fun (t68 : Bool) => (.ret t68)) else (if (rd_T38 x16_3 0).f0 = 5 then (.ask (.spec_l9Es_f x16_0 x16_1 x16_2 x16_3 0 2) fun (t68 : Bool) => (.ret t68)) else (.ret false))) else (.bad)) else (.ret false)) else (if x9 = 28 then (.to (.spec_l9Kids_j3 x3 x9 (x9 == 28) x16_0 x16_1 x16_2 x16_3)) else (.to (.spec_l9Kids_j3 x3 x9 (x9 == 30) x16_0 x16_1 x16_2 x16_3)))
  | .spec_l9Kids_j3 x3 x9 x70 x16_0 x16_1 x16_2 x16_3 => if x70 = true then (.ask (.spec_l9Es_f x16_0 x16_1 x16_2 x16_3 0 x3) fun (t75 : Bool) => (.ret t75)) else (if x9 = 31 then (.opt (spec_l1In.f x3 2 3) fun t79 => (if t79 = true then (.ask (.spec_l9Es_f x16_0 x16_1 x16_2 x16_3 0 1) fun (t82 : Bool) => (if t82 = true then (.ask (.spec_l9Blocks_f x16_0 x16_1 x16_2 x16_3 1) fun (t86 : Bool) => (.ret t86)) else (.ret false))) else (.ret false))) else (if x9 = 32 then (if x3 = 2 then (.ask (.spec_l9Es_f x16_0 x16_1 x16_2 x16_3 0 1) fun (t94 : Bool) => (if t94 = true then (.ask (.spec_l9Blocks_f x16_0 x16_1 x16_2 x16_3 1) fun (t98 : Bool) => (.ret t98)) else (.ret false))) else (.ret false)) else (if x9 = 29 then (.to (.spec_l9Kids_l0 x3 0 x16_0 x16_1 x16_2 x16_3)) else (.ret (x3 == 0)))))
  | .spec_l9Kids_l0 x3 x4 x16_0 x16_1 x16_2 x16_3 => if x4 < x3 then (if 0 ≤ x4 then (if x4 < (x16_3.length : Int) then (.opt (spec_l1In.f ((rd_T38 x16_3 x4).f0) 29 35) fun t113 => (if t113 = true then (.ask (.spec_l9Node_f ((rd_T38 x16_3 x4).f0) ((rd_T38 x16_3 x4).f1) ((rd_T38 x16_3 x4).f2) ((rd_T38 x16_3 x4).f3)) fun (t121 : Bool) => (if t121 = true then (.to (.spec_l9Kids_l0 x3 (wrap64 (x4 + 1)) x16_0 x16_1 x16_2 x16_3)) else (.ret false))) else (.ret false))) else (.bad)) else (.bad)) else (.ret true)
  | .spec_l9Es_f a0_0 a0_1 a0_2 l0_3 a1 a2 => .to (.spec_l9Es_l0 a2 a1 a0_0 a0_1 a0_2 l0_3)
  | .spec_l9Es_l0 x2 x7 x16_0 x16_1 x16_2 x16_3 => if x7 < x2 then (if 0 ≤ x7 then (if x7 < (x16_3.length : Int) then (.opt (spec_l9IsE.f ((rd_T38 x16_3 x7).f0)) fun t20 => (if t20 = true then (.ask (.spec_l9Node_f ((rd_T38 x16_3 x7).f0) ((rd_T38 x16_3 x7).f1) ((rd_T38 x16_3 x7).f2) ((rd_T38 x16_3 x7).f3)) fun (t28 : Bool) => (if t28 = true then (.to (.spec_l9Es_l0 x2 (wrap64 (x7 + 1)) x16_0 x16_1 x16_2 x16_3)) else (.ret false))) else (.ret false))) else (.bad)) else (.bad)) else (.ret true)
  | .spec_l9Blocks_f a0_0 a0_1 a0_2 l0_3 a1 => .to (.spec_l9Blocks_l0 a1 a0_0 a0_1 a0_2 l0_3)
  | .spec_l9Blocks_l0 x5 x16_0 x16_1 x16_2 x16_3 => if x5 < (x16_3.length : Int) then (if 0 ≤ x5 then (if (rd_T38 x16_3 x5).f0 = 29 then (.ask (.spec_l9Node_f ((rd_T38 x16_3 x5).f0) ((rd_T38 x16_3 x5).f1) ((rd_T38 x16_3 x5).f2) ((rd_T38 x16_3 x5).f3)) fun (t27 : Bool) => (if t27 = true then (.to (.spec_l9Blocks_l0 (wrap64 (x5 + 1)) x16_0 x16_1 x16_2 x16_3)) else (.ret false))) else (.ret false)) else (.bad)) else (.ret true)
def spec_l9Node.fv (a0_0 : Int) (a0_1 : Int) (a0_2 : ByteArray) (l0_3 : List S38) : Option (Bool) := lim spec_l9Node.B (.spec_l9Node_f a0_0 a0_1 a0_2 l0_3)
def spec_l9Node.j0v (x21 : Bool) (x16_0 : Int) (x16_1 : Int) (x16_2 : ByteArray) (x16_3 : List S38) : Option (Bool) := lim spec_l9Node.B (.spec_l9Node_j0 x21 x16_0 x16_1 x16_2 x16_3)
def spec_l9Node.j1v (x23 : Int) (x44 : Bool) (x16_0 : Int) (x16_1 : Int) (x16_2 : ByteArray) (x16_3 : List S38) : Option (Bool) := lim spec_l9Node.B (.spec_l9Node_j1 x23 x44 x16_0 x16_1 x16_2 x16_3)
def spec_l9Kids.fv (a0_0 : Int) (a0_1 : Int) (a0_2 : ByteArray) (l0_3 : List S38) : Option (Bool) := lim spec_l9Node.B (.spec_l9Kids_f a0_0 a0_1 a0_2 l0_3)
def spec_l9Kids.j0v (x3 : Int) (x9 : Int) (x10 : Bool) (x16_0 : Int) (x16_1 : Int) (x16_2 : ByteArray) (x16_3 : List S38) : Option (Bool) := lim spec_l9Node.B (.spec_l9Kids_j0 x3 x9 x10 x16_0 x16_1 x16_2 x16_3)
def spec_l9Kids.j1v (x3 : Int) (x9 : Int) (x23 : Bool) (x16_0 : Int) (x16_1 : Int) (x16_2 : ByteArray) (x16_3 : List S38) : Option (Bool) := lim spec_l9Node.B (.spec_l9Kids_j1 x3 x9 x23 x16_0 x16_1 x16_2 x16_3)
def spec_l9Kids.j2v (x3 : Int) (x9 : Int) (x45 : Bool) (x16_0 : Int) (x16_1 : Int) (x16_2 : ByteArray) (x16_3 : List S38) : Option (Bool) := lim spec_l9Node.B (.spec_l9Kids_j2 x3 x9 x45 x16_0 x16_1 x16_2 x16_3)
def spec_l9Kids.j3v (x3 : Int) (x9 : Int) (x70 : Bool) (x16_0 : Int) (x16_1 : Int) (x16_2 : ByteArray) (x16_3 : List S38) : Option (Bool) := lim spec_l9Node.B (.spec_l9Kids_j3 x3 x9 x70 x16_0 x16_1 x16_2 x16_3)
def spec_l9Kids.l0v (x3 : Int) (x4 : Int) (x16_0 : Int) (x16_1 : Int) (x16_2 : ByteArray) (x16_3 : List S38) : Option (Bool) := lim spec_l9Node.B (.spec_l9Kids_l0 x3 x4 x16_0 x16_1 x16_2 x16_3)
def spec_l9Es.fv (a0_0 : Int) (a0_1 : Int) (a0_2 : ByteArray) (l0_3 : List S38) (a1 : Int) (a2 : Int) : Option (Bool) := lim spec_l9Node.B (.spec_l9Es_f a0_0 a0_1 a0_2 l0_3 a1 a2)
def spec_l9Es.l0v (x2 : Int) (x7 : Int) (x16_0 : Int) (x16_1 : Int) (x16_2 : ByteArray) (x16_3 : List S38) : Option (Bool) := lim spec_l9Node.B (.spec_l9Es_l0 x2 x7 x16_0 x16_1 x16_2 x16_3)
def spec_l9Blocks.fv (a0_0 : Int) (a0_1 : Int) (a0_2 : ByteArray) (l0_3 : List S38) (a1 : Int) : Option (Bool) := lim spec_l9Node.B (.spec_l9Blocks_f a0_0 a0_1 a0_2 l0_3 a1)
def spec_l9Blocks.l0v (x5 : Int) (x16_0 : Int) (x16_1 : Int) (x16_2 : ByteArray) (x16_3 : List S38) : Option (Bool) := lim spec_l9Node.B (.spec_l9Blocks_l0 x5 x16_0 x16_1 x16_2 x16_3)
theorem spec_l9Node.fv_eq (a0_0 : Int) (a0_1 : Int) (a0_2 : ByteArray) (l0_3 : List S38) : spec_l9Node.fv a0_0 a0_1 a0_2 l0_3 = ((spec_l9Kids.fv a0_0 a0_1 a0_2 l0_3).bind fun t4 => (if t4 = true then ((spec_l1In.f a0_0 1 35).bind fun t9 => (if t9 = true then (if a0_1 = 0 then (spec_l9Node.j0v false a0_0 a0_1 a0_2 l0_3) else (spec_l9Node.j0v (a0_0 != 1) a0_0 a0_1 a0_2 l0_3)) else (spec_l9Node.j0v true a0_0 a0_1 a0_2 l0_3))) else (spec_l9Node.j0v true a0_0 a0_1 a0_2 l0_3))) := by
  show lim spec_l9Node.B (.spec_l9Node_f a0_0 a0_1 a0_2 l0_3) = _
  rw [lim_eq, spec_l9Node.B]
  simp only [ev_ite, ev_opt, ev_ask, ev_to, ev_ret, ev_bad]
  try rfl
theorem spec_l9Node.j0v_eq (x21 : Bool) (x16_0 : Int) (x16_1 : Int) (x16_2 : ByteArray) (x16_3 : List S38) : spec_l9Node.j0v x21 x16_0 x16_1 x16_2 x16_3 = (if x21 = true then (some false) else (if x16_0 = 1 then (if x16_2.toList = ([] : List UInt8) then ((spec_l1In.f x16_1 0 9000000000000).bind fun t32 => (some t32)) else (some false)) else (if x16_0 = 2 then ((spec_l9Line.fv x16_2).bind fun t38 => (some t38)) else (if x16_0 = 3 then ((spec_l9Rex.fv x16_2).bind fun t43 => (some t43)) else (if x16_0 = 4 then (spec_l9Node.j1v x16_0 (x16_0 == 4) x16_0 x16_1 x16_2 x16_3) else (if x16_0 = 5 then (spec_l9Node.j1v x16_0 (x16_0 == 5) x16_0 x16_1 x16_2 x16_3) else (spec_l9Node.j1v x16_0 (x16_0 == 34) x16_0 x16_1 x16_2 x16_3))))))) := by
  show lim spec_l9Node.B (.spec_l9Node_j0 x21 x16_0 x16_1 x16_2 x16_3) = _
  rw [lim_eq, spec_l9Node.B]
  simp only [ev_ite, ev_opt, ev_ask, ev_to, ev_ret, ev_bad]
  try rfl
theorem spec_l9Node.j1v_eq (x23 : Int) (x44 : Bool) (x16_0 : Int) (x16_1 : Int) (x16_2 : ByteArray) (x16_3 : List S38) : spec_l9Node.j1v x23 x44 x16_0 x16_1 x16_2 x16_3 = (if x44 = true then ((spec_l9Name.fv x16_2).bind fun t50 => (some t50)) else (if x23 = 28 then ((spec_l7Calls.f).bind fun t53 => ((spec_l7Within.fv t53 x16_2).bind fun t56 => (some t56))) else (some (x16_2.toList == (⟨#[]⟩ : ByteArray).toList)))) := by
  show lim spec_l9Node.B (.spec_l9Node_j1 x23 x44 x16_0 x16_1 x16_2 x16_3) = _
  rw [lim_eq, spec_l9Node.B]
  simp only [ev_ite, ev_opt, ev_ask, ev_to, ev_ret, ev_bad]
  try rfl
theorem spec_l9Kids.fv_eq (a0_0 : Int) (a0_1 : Int) (a0_2 : ByteArray) (l0_3 : List S38) : spec_l9Kids.fv a0_0 a0_1 a0_2 l0_3 = (if a0_0 = 5 then (spec_l9Kids.j0v (l0_3.length : Int) a0_0 (a0_0 == 5) a0_0 a0_1 a0_2 l0_3) else (if a0_0 = 6 then (spec_l9Kids.j0v (l0_3.length : Int) a0_0 (a0_0 == 6) a0_0 a0_1 a0_2 l0_3) else (if a0_0 = 22 then (spec_l9Kids.j0v (l0_3.length : Int) a0_0 (a0_0 == 22) a0_0 a0_1 a0_2 l0_3) else (if a0_0 = 23 then (spec_l9Kids.j0v (l0_3.length : Int) a0_0 (a0_0 == 23) a0_0 a0_1 a0_2 l0_3) else (if a0_0 = 34 then (spec_l9Kids.j0v (l0_3.length : Int) a0_0 (a0_0 == 34) a0_0 a0_1 a0_2 l0_3) else (spec_l9Kids.j0v (l0_3.length : Int) a0_0 (a0_0 == 35) a0_0 a0_1 a0_2 l0_3)))))) := by
  show lim spec_l9Node.B (.spec_l9Kids_f a0_0 a0_1 a0_2 l0_3) = _
  rw [lim_eq, spec_l9Node.B]
  simp only [ev_ite, ev_opt, ev_ask, ev_to, ev_ret, ev_bad]
  try rfl
theorem spec_l9Kids.j0v_eq (x3 : Int) (x9 : Int) (x10 : Bool) (x16_0 : Int) (x16_1 : Int) (x16_2 : ByteArray) (x16_3 : List S38) : spec_l9Kids.j0v x3 x9 x10 x16_0 x16_1 x16_2 x16_3 = (if x10 = true then (if x3 = 1 then ((spec_l9Es.fv x16_0 x16_1 x16_2 x16_3 0 1).bind fun t21 => (some t21)) else (some false)) else (if x9 = 9 then (spec_l9Kids.j1v x3 x9 (x9 == 9) x16_0 x16_1 x16_2 x16_3) else (if x9 = 10 then (spec_l9Kids.j1v x3 x9 (x9 == 10) x16_0 x16_1 x16_2 x16_3) else (if x9 = 11 then (spec_l9Kids.j1v x3 x9 (x9 == 11) x16_0 x16_1 x16_2 x16_3) else (if x9 = 12 then (spec_l9Kids.j1v x3 x9 (x9 == 12) x16_0 x16_1 x16_2 x16_3) else (if x9 = 13 then (spec_l9Kids.j1v x3 x9 (x9 == 13) x16_0 x16_1 x16_2 x16_3) else (if x9 = 14 then (spec_l9Kids.j1v x3 x9 (x9 == 14) x16_0 x16_1 x16_2 x16_3) else (if x9 = 15 then (spec_l9Kids.j1v x3 x9 (x9 == 15) x16_0 x16_1 x16_2 x16_3) else (if x9 = 16 then (spec_l9Kids.j1v x3 x9 (x9 == 16) x16_0 x16_1 x16_2 x16_3) else (if x9 = 17 then (spec_l9Kids.j1v x3 x9 (x9 == 17) x16_0 x16_1 x16_2 x16_3) else (if x9 = 18 then (spec_l9Kids.j1v x3 x9 (x9 == 18) x16_0 x16_1 x16_2 x16_3) else (if x9 = 19 then (spec_l9Kids.j1v x3 x9 (x9 == 19) x16_0 x16_1 x16_2 x16_3) else (if x9 = 20 then (spec_l9Kids.j1v x3 x9 (x9 == 20) x16_0 x16_1 x16_2 x16_3) else (if x9 = 21 then (spec_l9Kids.j1v x3 x9 (x9 == 21) x16_0 x16_1 x16_2 x16_3) else (if x9 = 24 then (spec_l9Kids.j1v x3 x9 (x9 == 24) x16_0 x16_1 x16_2 x16_3) else (spec_l9Kids.j1v x3 x9 (x9 == 25) x16_0 x16_1 x16_2 x16_3)))))))))))))))) := by
  show lim spec_l9Node.B (.spec_l9Kids_j0 x3 x9 x10 x16_0 x16_1 x16_2 x16_3) = _
  rw [lim_eq, spec_l9Node.B]
  simp only [ev_ite, ev_opt, ev_ask, ev_to, ev_ret, ev_bad]
  try rfl
theorem spec_l9Kids.j1v_eq (x3 : Int) (x9 : Int) (x23 : Bool) (x16_0 : Int) (x16_1 : Int) (x16_2 : ByteArray) (x16_3 : List S38) : spec_l9Kids.j1v x3 x9 x23 x16_0 x16_1 x16_2 x16_3 = (if x23 = true then (if x3 = 2 then ((spec_l9Es.fv x16_0 x16_1 x16_2 x16_3 0 2).bind fun t43 => (some t43)) else (some false)) else (if x9 = 26 then (spec_l9Kids.j2v x3 x9 (x9 == 26) x16_0 x16_1 x16_2 x16_3) else (spec_l9Kids.j2v x3 x9 (x9 == 27) x16_0 x16_1 x16_2 x16_3))) := by
  show lim spec_l9Node.B (.spec_l9Kids_j1 x3 x9 x23 x16_0 x16_1 x16_2 x16_3) = _
  rw [lim_eq, spec_l9Node.B]
  simp only [ev_ite, ev_opt, ev_ask, ev_to, ev_ret, ev_bad]
  try rfl
theorem spec_l9Kids.j2v_eq (x3 : Int) (x9 : Int) (x45 : Bool) (x16_0 : Int) (x16_1 : Int) (x16_2 : ByteArray) (x16_3 : List S38) : spec_l9Kids.j2v x3 x9 x45 x16_0 x16_1 x16_2 x16_3 = (if x45 = true then (if x3 = 2 then (if 0 < (x16_3.length : Int) then (if (rd_T38 x16_3 0).f0 = 4 then ((spec_l9Es.fv x16_0 x16_1 x16_2 x16_3 0 2).bind fun t68 => (some t68)) else (if (rd_T38 x16_3 0).f0 = 5 then ((spec_l9Es.fv x16_0 x16_1 x16_2 x16_3 0 2).bind fun t68 => (some t68)) else (some false))) else (none)) else (some false)) else (if x9 = 28 then (spec_l9Kids.j3v x3 x9 (x9 == 28) x16_0 x16_1 x16_2 x16_3) else (spec_l9Kids.j3v x3 x9 (x9 == 30) x16_0 x16_1 x16_2 x16_3))) := by
  show lim spec_l9Node.B (.spec_l9Kids_j2 x3 x9 x45 x16_0 x16_1 x16_2 x16_3) = _
  rw [lim_eq, spec_l9Node.B]
  simp only [ev_ite, ev_opt, ev_ask, ev_to, ev_ret, ev_bad]
  try rfl
theorem spec_l9Kids.j3v_eq (x3 : Int) (x9 : Int) (x70 : Bool) (x16_0 : Int) (x16_1 : Int) (x16_2 : ByteArray) (x16_3 : List S38) : spec_l9Kids.j3v x3 x9 x70 x16_0 x16_1 x16_2 x16_3 = (if x70 = true then ((spec_l9Es.fv x16_0 x16_1 x16_2 x16_3 0 x3).bind fun t75 => (some t75)) else (if x9 = 31 then ((spec_l1In.f x3 2 3).bind fun t79 => (if t79 = true then ((spec_l9Es.fv x16_0 x16_1 x16_2 x16_3 0 1).bind fun t82 => (if t82 = true then ((spec_l9Blocks.fv x16_0 x16_1 x16_2 x16_3 1).bind fun t86 => (some t86)) else (some false))) else (some false))) else (if x9 = 32 then (if x3 = 2 then ((spec_l9Es.fv x16_0 x16_1 x16_2 x16_3 0 1).bind fun t94 => (if t94 = true then ((spec_l9Blocks.fv x16_0 x16_1 x16_2 x16_3 1).bind fun t98 => (some t98)) else (some false))) else (some false)) else (if x9 = 29 then (spec_l9Kids.l0v x3 0 x16_0 x16_1 x16_2 x16_3) else (some (x3 == 0)))))) := by
  show lim spec_l9Node.B (.spec_l9Kids_j3 x3 x9 x70 x16_0 x16_1 x16_2 x16_3) = _
  rw [lim_eq, spec_l9Node.B]
  simp only [ev_ite, ev_opt, ev_ask, ev_to, ev_ret, ev_bad]
  try rfl
theorem spec_l9Kids.l0v_eq (x3 : Int) (x4 : Int) (x16_0 : Int) (x16_1 : Int) (x16_2 : ByteArray) (x16_3 : List S38) : spec_l9Kids.l0v x3 x4 x16_0 x16_1 x16_2 x16_3 = (if x4 < x3 then (if 0 ≤ x4 then (if x4 < (x16_3.length : Int) then ((spec_l1In.f ((rd_T38 x16_3 x4).f0) 29 35).bind fun t113 => (if t113 = true then ((spec_l9Node.fv ((rd_T38 x16_3 x4).f0) ((rd_T38 x16_3 x4).f1) ((rd_T38 x16_3 x4).f2) ((rd_T38 x16_3 x4).f3)).bind fun t121 => (if t121 = true then (spec_l9Kids.l0v x3 (wrap64 (x4 + 1)) x16_0 x16_1 x16_2 x16_3) else (some false))) else (some false))) else (none)) else (none)) else (some true)) := by
  show lim spec_l9Node.B (.spec_l9Kids_l0 x3 x4 x16_0 x16_1 x16_2 x16_3) = _
  rw [lim_eq, spec_l9Node.B]
  simp only [ev_ite, ev_opt, ev_ask, ev_to, ev_ret, ev_bad]
  try rfl
theorem spec_l9Es.fv_eq (a0_0 : Int) (a0_1 : Int) (a0_2 : ByteArray) (l0_3 : List S38) (a1 : Int) (a2 : Int) : spec_l9Es.fv a0_0 a0_1 a0_2 l0_3 a1 a2 = (spec_l9Es.l0v a2 a1 a0_0 a0_1 a0_2 l0_3) := by
  show lim spec_l9Node.B (.spec_l9Es_f a0_0 a0_1 a0_2 l0_3 a1 a2) = _
  rw [lim_eq, spec_l9Node.B]
  simp only [ev_ite, ev_opt, ev_ask, ev_to, ev_ret, ev_bad]
  try rfl
theorem spec_l9Es.l0v_eq (x2 : Int) (x7 : Int) (x16_0 : Int) (x16_1 : Int) (x16_2 : ByteArray) (x16_3 : List S38) : spec_l9Es.l0v x2 x7 x16_0 x16_1 x16_2 x16_3 = (if x7 < x2 then (if 0 ≤ x7 then (if x7 < (x16_3.length : Int) then ((spec_l9IsE.f ((rd_T38 x16_3 x7).f0)).bind fun t20 => (if t20 = true then ((spec_l9Node.fv ((rd_T38 x16_3 x7).f0) ((rd_T38 x16_3 x7).f1) ((rd_T38 x16_3 x7).f2) ((rd_T38 x16_3 x7).f3)).bind fun t28 => (if t28 = true then (spec_l9Es.l0v x2 (wrap64 (x7 + 1)) x16_0 x16_1 x16_2 x16_3) else (some false))) else (some false))) else (none)) else (none)) else (some true)) := by
  show lim spec_l9Node.B (.spec_l9Es_l0 x2 x7 x16_0 x16_1 x16_2 x16_3) = _
  rw [lim_eq, spec_l9Node.B]
  simp only [ev_ite, ev_opt, ev_ask, ev_to, ev_ret, ev_bad]
  try rfl
theorem spec_l9Blocks.fv_eq (a0_0 : Int) (a0_1 : Int) (a0_2 : ByteArray) (l0_3 : List S38) (a1 : Int) : spec_l9Blocks.fv a0_0 a0_1 a0_2 l0_3 a1 = (spec_l9Blocks.l0v a1 a0_0 a0_1 a0_2 l0_3) := by
  show lim spec_l9Node.B (.spec_l9Blocks_f a0_0 a0_1 a0_2 l0_3 a1) = _
  rw [lim_eq, spec_l9Node.B]
  simp only [ev_ite, ev_opt, ev_ask, ev_to, ev_ret, ev_bad]
  try rfl
theorem spec_l9Blocks.l0v_eq (x5 : Int) (x16_0 : Int) (x16_1 : Int) (x16_2 : ByteArray) (x16_3 : List S38) : spec_l9Blocks.l0v x5 x16_0 x16_1 x16_2 x16_3 = (if x5 < (x16_3.length : Int) then (if 0 ≤ x5 then (if (rd_T38 x16_3 x5).f0 = 29 then ((spec_l9Node.fv ((rd_T38 x16_3 x5).f0) ((rd_T38 x16_3 x5).f1) ((rd_T38 x16_3 x5).f2) ((rd_T38 x16_3 x5).f3)).bind fun t27 => (if t27 = true then (spec_l9Blocks.l0v (wrap64 (x5 + 1)) x16_0 x16_1 x16_2 x16_3) else (some false))) else (some false)) else (none)) else (some true)) := by
  show lim spec_l9Node.B (.spec_l9Blocks_l0 x5 x16_0 x16_1 x16_2 x16_3) = _
  rw [lim_eq, spec_l9Node.B]
  simp only [ev_ite, ev_opt, ev_ask, ev_to, ev_ret, ev_bad]
  try rfl
def spec_l1Max.f (a0 : Int) (a1 : Int) : Option (Int) := if a0 > a1 then (some a0) else (some a1)
inductive spec_Deep.Q where
  | f (a0_0 : Int) (a0_1 : Int) (a0_2 : ByteArray) (l0_3 : List S38)
  | l0 (x3 : Int) (x4 : Int) (x16_0 : Int) (x16_1 : Int) (x16_2 : ByteArray) (x16_3 : List S38)
def spec_Deep.B : spec_Deep.Q → Pg spec_Deep.Q (fun _ => Int) (Int)
  | .f a0_0 a0_1 a0_2 l0_3 => .to (.l0 0 0 a0_0 a0_1 a0_2 l0_3)
  | .l0 x3 x4 x16_0 x16_1 x16_2 x16_3 => if x4 < (x16_3.length : Int) then (if 0 ≤ x4 then (.ask (.f ((rd_T38 x16_3 x4).f0) ((rd_T38 x16_3 x4).f1) ((rd_T38 x16_3 x4).f2) ((rd_T38 x16_3 x4).f3)) fun (t18 : Int) => (.opt (spec_l1Max.f x3 t18) fun t19 => (.to (.l0 t19 (wrap64 (x4 + 1)) x16_0 x16_1 x16_2 x16_3)))) else (.bad)) else (.ret (wrap64 (x3 + 1)))
def spec_Deep.fv (a0_0 : Int) (a0_1 : Int) (a0_2 : ByteArray) (l0_3 : List S38) : Option (Int) := lim spec_Deep.B (.f a0_0 a0_1 a0_2 l0_3)
def spec_Deep.l0v (x3 : Int) (x4 : Int) (x16_0 : Int) (x16_1 : Int) (x16_2 : ByteArray) (x16_3 : List S38) : Option (Int) := lim spec_Deep.B (.l0 x3 x4 x16_0 x16_1 x16_2 x16_3)
theorem spec_Deep.fv_eq (a0_0 : Int) (a0_1 : Int) (a0_2 : ByteArray) (l0_3 : List S38) : spec_Deep.fv a0_0 a0_1 a0_2 l0_3 = (spec_Deep.l0v 0 0 a0_0 a0_1 a0_2 l0_3) := by
  show lim spec_Deep.B (.f a0_0 a0_1 a0_2 l0_3) = _
  rw [lim_eq, spec_Deep.B]
  simp only [ev_ite, ev_opt, ev_ask, ev_to, ev_ret, ev_bad]
  try rfl
theorem spec_Deep.l0v_eq (x3 : Int) (x4 : Int) (x16_0 : Int) (x16_1 : Int) (x16_2 : ByteArray) (x16_3 : List S38) : spec_Deep.l0v x3 x4 x16_0 x16_1 x16_2 x16_3 = (if x4 < (x16_3.length : Int) then (if 0 ≤ x4 then ((spec_Deep.fv ((rd_T38 x16_3 x4).f0) ((rd_T38 x16_3 x4).f1) ((rd_T38 x16_3 x4).f2) ((rd_T38 x16_3 x4).f3)).bind fun t18 => ((spec_l1Max.f x3 t18).bind fun t19 => (spec_Deep.l0v t19 (wrap64 (x4 + 1)) x16_0 x16_1 x16_2 x16_3))) else (none)) else (some (wrap64 (x3 + 1)))) := by
  show lim spec_Deep.B (.l0 x3 x4 x16_0 x16_1 x16_2 x16_3) = _
  rw [lim_eq, spec_Deep.B]
  simp only [ev_ite, ev_opt, ev_ask, ev_to, ev_ret, ev_bad]
  try rfl
inductive spec_Tidy.Q where
  | f (l0 : List S40)
  | l0 (x0 : List S40) (x3 : Int)
  | j1 (x0 : List S40) (x3 : Int) (x5 : Bool) (x2068_0 : Int) (x2068_1 : Int) (x2068_2 : Int) (x2068_3 : ByteArray) (x2068_4 : List S38) (x2068_5 : Int) (x2068_6 : Int) (x2068_7 : ByteArray) (x2068_8 : List S38)
  | j2 (x0 : List S40) (x3 : Int) (x6 : Bool) (x2068_0 : Int) (x2068_1 : Int) (x2068_2 : Int) (x2068_3 : ByteArray) (x2068_4 : List S38) (x2068_5 : Int) (x2068_6 : Int) (x2068_7 : ByteArray) (x2068_8 : List S38)
def spec_Tidy.B : spec_Tidy.Q → Pg spec_Tidy.Q (fun _ => Bool) (Bool)
  | .f l0 => .to (.l0 l0 0)
  | .l0 x0 x3 => if x3 < (x0.length : Int) then (if 0 ≤ x3 then (if (rd_T40 x0 x3).f1 = 0 then (if (rd_T40 x0 x3).f2 = 0 then (if (rd_T40 x0 x3).f3.toList = ([] : List UInt8) then (.to (.j1 x0 x3 ((((rd_T40 x0 x3).f4.length : Int) == 0)) ((rd_T40 x0 x3).f0) ((rd_T40 x0 x3).f1) ((rd_T40 x0 x3).f2) ((rd_T40 x0 x3).f3) ((rd_T40 x0 x3).f4) ((rd_T40 x0 x3).f5) ((rd_T40 x0 x3).f6) ((rd_T40 x0 x3).f7) ((rd_T40 x0 x3).f8))) else (.to (.j1 x0 x3 false ((rd_T40 x0 x3).f0) ((rd_T40 x0 x3).f1) ((rd_T40 x0 x3).f2) ((rd_T40 x0 x3).f3) ((rd_T40 x0 x3).f4) ((rd_T40 x0 x3).f5) ((rd_T40 x0 x3).f6) ((rd_T40 x0 x3).f7) ((rd_T40 x0 x3).f8)))) else (.to (.j1 x0 x3 false ((rd_T40 x0 x3).f0) ((rd_T40 x0 x3).f1) ((rd_T40 x0 x3).f2) ((rd_T40 x0 x3).f3) ((rd_T40 x0 x3).f4) ((rd_T40 x0 x3).f5) ((rd_T40 x0 x3).f6) ((rd_T40 x0 x3).f7) ((rd_T40 x0 x3).f8)))) else (.to (.j1 x0 x3 false ((rd_T40 x0 x3).f0) ((rd_T40 x0 x3).f1) ((rd_T40 x0 x3).f2) ((rd_T40 x0 x3).f3) ((rd_T40 x0 x3).f4) ((rd_T40 x0 x3).f5) ((rd_T40 x0 x3).f6) ((rd_T40 x0 x3).f7) ((rd_T40 x0 x3).f8)))) else (.bad)) else (.ret true)
  | .j1 x0 x3 x5 x2068_0 x2068_1 x2068_2 x2068_3 x2068_4 x2068_5 x2068_6 x2068_7 x2068_8 => .opt (spec_l1In.f x2068_0 1 2) fun t42 => (if t42 = true then (if x5 = true then (.to (.j2 x0 x3 true x2068_0 x2068_1 x2068_2 x2068_3 x2068_4 x2068_5 x2068_6 x2068_7 x2068_8)) else (if x2068_0 = 3 then (.opt (spec_l9IsE.f x2068_1) fun t54 => (if t54 = true then (.opt (spec_l9Node.fv x2068_1 x2068_2 x2068_3 x2068_4) fun t59 => (if t59 = true then (.opt (spec_Deep.fv x2068_1 x2068_2 x2068_3 x2068_4) fun t64 => (.to (.j2 x0 x3 (decide (t64 ≤ 16)) x2068_0 x2068_1 x2068_2 x2068_3 x2068_4 x2068_5 x2068_6 x2068_7 x2068_8))) else (.to (.j2 x0 x3 false x2068_0 x2068_1 x2068_2 x2068_3 x2068_4 x2068_5 x2068_6 x2068_7 x2068_8)))) else (.to (.j2 x0 x3 false x2068_0 x2068_1 x2068_2 x2068_3 x2068_4 x2068_5 x2068_6 x2068_7 x2068_8)))) else (.to (.j2 x0 x3 false x2068_0 x2068_1 x2068_2 x2068_3 x2068_4 x2068_5 x2068_6 x2068_7 x2068_8)))) else (if x2068_0 = 3 then (.opt (spec_l9IsE.f x2068_1) fun t54 => (if t54 = true then (.opt (spec_l9Node.fv x2068_1 x2068_2 x2068_3 x2068_4) fun t59 => (if t59 = true then (.opt (spec_Deep.fv x2068_1 x2068_2 x2068_3 x2068_4) fun t64 => (.to (.j2 x0 x3 (decide (t64 ≤ 16)) x2068_0 x2068_1 x2068_2 x2068_3 x2068_4 x2068_5 x2068_6 x2068_7 x2068_8))) else (.to (.j2 x0 x3 false x2068_0 x2068_1 x2068_2 x2068_3 x2068_4 x2068_5 x2068_6 x2068_7 x2068_8)))) else (.to (.j2 x0 x3 false x2068_0 x2068_1 x2068_2 x2068_3 x2068_4 x2068_5 x2068_6 x2068_7 x2068_8)))) else (.to (.j2 x0 x3 false x2068_0 x2068_1 x2068_2 x2068_3 x2068_4 x2068_5 x2068_6 x2068_7 x2068_8))))
  | .j2 x0 x3 x6 x2068_0 x2068_1 x2068_2 x2068_3 x2068_4 x2068_5 x2068_6 x2068_7 x2068_8 => if x6 = true then (if x2068_5 = 29 then (.opt (spec_Deep.fv x2068_5 x2068_6 x2068_7 x2068_8) fun t79 => (if t79 > 16 then (.ret false) else (.opt (spec_l9Node.fv x2068_5 x2068_6 x2068_7 x2068_8) fun t85 => (if t85 = true then (.to (.l0 x0 (wrap64 (x3 + 1)))) else (.ret false))))) else (.ret false)) else (.ret false)
def spec_Tidy.fv (l0 : List S40) : Option (Bool) := lim spec_Tidy.B (.f l0)
def spec_Tidy.l0v (x0 : List S40) (x3 : Int) : Option (Bool) := lim spec_Tidy.B (.l0 x0 x3)
def spec_Tidy.j1v (x0 : List S40) (x3 : Int) (x5 : Bool) (x2068_0 : Int) (x2068_1 : Int) (x2068_2 : Int) (x2068_3 : ByteArray) (x2068_4 : List S38) (x2068_5 : Int) (x2068_6 : Int) (x2068_7 : ByteArray) (x2068_8 : List S38) : Option (Bool) := lim spec_Tidy.B (.j1 x0 x3 x5 x2068_0 x2068_1 x2068_2 x2068_3 x2068_4 x2068_5 x2068_6 x2068_7 x2068_8)
def spec_Tidy.j2v (x0 : List S40) (x3 : Int) (x6 : Bool) (x2068_0 : Int) (x2068_1 : Int) (x2068_2 : Int) (x2068_3 : ByteArray) (x2068_4 : List S38) (x2068_5 : Int) (x2068_6 : Int) (x2068_7 : ByteArray) (x2068_8 : List S38) : Option (Bool) := lim spec_Tidy.B (.j2 x0 x3 x6 x2068_0 x2068_1 x2068_2 x2068_3 x2068_4 x2068_5 x2068_6 x2068_7 x2068_8)
theorem spec_Tidy.fv_eq (l0 : List S40) : spec_Tidy.fv l0 = (spec_Tidy.l0v l0 0) := by
  show lim spec_Tidy.B (.f l0) = _
  rw [lim_eq, spec_Tidy.B]
  simp only [ev_ite, ev_opt, ev_ask, ev_to, ev_ret, ev_bad]
  try rfl
theorem spec_Tidy.l0v_eq (x0 : List S40) (x3 : Int) : spec_Tidy.l0v x0 x3 = (if x3 < (x0.length : Int) then (if 0 ≤ x3 then (if (rd_T40 x0 x3).f1 = 0 then (if (rd_T40 x0 x3).f2 = 0 then (if (rd_T40 x0 x3).f3.toList = ([] : List UInt8) then (spec_Tidy.j1v x0 x3 ((((rd_T40 x0 x3).f4.length : Int) == 0)) ((rd_T40 x0 x3).f0) ((rd_T40 x0 x3).f1) ((rd_T40 x0 x3).f2) ((rd_T40 x0 x3).f3) ((rd_T40 x0 x3).f4) ((rd_T40 x0 x3).f5) ((rd_T40 x0 x3).f6) ((rd_T40 x0 x3).f7) ((rd_T40 x0 x3).f8)) else (spec_Tidy.j1v x0 x3 false ((rd_T40 x0 x3).f0) ((rd_T40 x0 x3).f1) ((rd_T40 x0 x3).f2) ((rd_T40 x0 x3).f3) ((rd_T40 x0 x3).f4) ((rd_T40 x0 x3).f5) ((rd_T40 x0 x3).f6) ((rd_T40 x0 x3).f7) ((rd_T40 x0 x3).f8))) else (spec_Tidy.j1v x0 x3 false ((rd_T40 x0 x3).f0) ((rd_T40 x0 x3).f1) ((rd_T40 x0 x3).f2) ((rd_T40 x0 x3).f3) ((rd_T40 x0 x3).f4) ((rd_T40 x0 x3).f5) ((rd_T40 x0 x3).f6) ((rd_T40 x0 x3).f7) ((rd_T40 x0 x3).f8))) else (spec_Tidy.j1v x0 x3 false ((rd_T40 x0 x3).f0) ((rd_T40 x0 x3).f1) ((rd_T40 x0 x3).f2) ((rd_T40 x0 x3).f3) ((rd_T40 x0 x3).f4) ((rd_T40 x0 x3).f5) ((rd_T40 x0 x3).f6) ((rd_T40 x0 x3).f7) ((rd_T40 x0 x3).f8))) else (none)) else (some true)) := by
  show lim spec_Tidy.B (.l0 x0 x3) = _
  rw [lim_eq, spec_Tidy.B]
  simp only [ev_ite, ev_opt, ev_ask, ev_to, ev_ret, ev_bad]
  try rfl
theorem spec_Tidy.j1v_eq (x0 : List S40) (x3 : Int) (x5 : Bool) (x2068_0 : Int) (x2068_1 : Int) (x2068_2 : Int) (x2068_3 : ByteArray) (x2068_4 : List S38) (x2068_5 : Int) (x2068_6 : Int) (x2068_7 : ByteArray) (x2068_8 : List S38) : spec_Tidy.j1v x0 x3 x5 x2068_0 x2068_1 x2068_2 x2068_3 x2068_4 x2068_5 x2068_6 x2068_7 x2068_8 = ((spec_l1In.f x2068_0 1 2).bind fun t42 => (if t42 = true then (if x5 = true then (spec_Tidy.j2v x0 x3 true x2068_0 x2068_1 x2068_2 x2068_3 x2068_4 x2068_5 x2068_6 x2068_7 x2068_8) else (if x2068_0 = 3 then ((spec_l9IsE.f x2068_1).bind fun t54 => (if t54 = true then ((spec_l9Node.fv x2068_1 x2068_2 x2068_3 x2068_4).bind fun t59 => (if t59 = true then ((spec_Deep.fv x2068_1 x2068_2 x2068_3 x2068_4).bind fun t64 => (spec_Tidy.j2v x0 x3 (decide (t64 ≤ 16)) x2068_0 x2068_1 x2068_2 x2068_3 x2068_4 x2068_5 x2068_6 x2068_7 x2068_8)) else (spec_Tidy.j2v x0 x3 false x2068_0 x2068_1 x2068_2 x2068_3 x2068_4 x2068_5 x2068_6 x2068_7 x2068_8))) else (spec_Tidy.j2v x0 x3 false x2068_0 x2068_1 x2068_2 x2068_3 x2068_4 x2068_5 x2068_6 x2068_7 x2068_8))) else (spec_Tidy.j2v x0 x3 false x2068_0 x2068_1 x2068_2 x2068_3 x2068_4 x2068_5 x2068_6 x2068_7 x2068_8))) else (if x2068_0 = 3 then ((spec_l9IsE.f x2068_1).bind fun t54 => (if t54 = true then ((spec_l9Node.fv x2068_1 x2068_2 x2068_3 x2068_4).bind fun t59 => (if t59 = true then ((spec_Deep.fv x2068_1 x2068_2 x2068_3 x2068_4).bind fun t64 => (spec_Tidy.j2v x0 x3 (decide (t64 ≤ 16)) x2068_0 x2068_1 x2068_2 x2068_3 x2068_4 x2068_5 x2068_6 x2068_7 x2068_8)) else (spec_Tidy.j2v x0 x3 false x2068_0 x2068_1 x2068_2 x2068_3 x2068_4 x2068_5 x2068_6 x2068_7 x2068_8))) else (spec_Tidy.j2v x0 x3 false x2068_0 x2068_1 x2068_2 x2068_3 x2068_4 x2068_5 x2068_6 x2068_7 x2068_8))) else (spec_Tidy.j2v x0 x3 false x2068_0 x2068_1 x2068_2 x2068_3 x2068_4 x2068_5 x2068_6 x2068_7 x2068_8)))) := by
  show lim spec_Tidy.B (.j1 x0 x3 x5 x2068_0 x2068_1 x2068_2 x2068_3 x2068_4 x2068_5 x2068_6 x2068_7 x2068_8) = _
  rw [lim_eq, spec_Tidy.B]
  simp only [ev_ite, ev_opt, ev_ask, ev_to, ev_ret, ev_bad]
  try rfl
theorem spec_Tidy.j2v_eq (x0 : List S40) (x3 : Int) (x6 : Bool) (x2068_0 : Int) (x2068_1 : Int) (x2068_2 : Int) (x2068_3 : ByteArray) (x2068_4 : List S38) (x2068_5 : Int) (x2068_6 : Int) (x2068_7 : ByteArray) (x2068_8 : List S38) : spec_Tidy.j2v x0 x3 x6 x2068_0 x2068_1 x2068_2 x2068_3 x2068_4 x2068_5 x2068_6 x2068_7 x2068_8 = (if x6 = true then (if x2068_5 = 29 then ((spec_Deep.fv x2068_5 x2068_6 x2068_7 x2068_8).bind fun t79 => (if t79 > 16 then (some false) else ((spec_l9Node.fv x2068_5 x2068_6 x2068_7 x2068_8).bind fun t85 => (if t85 = true then (spec_Tidy.l0v x0 (wrap64 (x3 + 1))) else (some false))))) else (some false)) else (some false)) := by
  show lim spec_Tidy.B (.j2 x0 x3 x6 x2068_0 x2068_1 x2068_2 x2068_3 x2068_4 x2068_5 x2068_6 x2068_7 x2068_8) = _
  rw [lim_eq, spec_Tidy.B]
  simp only [ev_ite, ev_opt, ev_ask, ev_to, ev_ret, ev_bad]
  try rfl
def spec_DecOk.f (a0 : Int) : Option (Bool) := (spec_l1In.f a0 (-9000000000000) 9000000000000).bind fun t4 => (some t4)
def spec_l1Abs.f (a0 : Int) : Option (Int) := if a0 < 0 then (some (wrap64 (0 - a0))) else (some a0)
inductive spec_l2Digits.Q where
  | f (a0 : Int)
  | l0 (x0 : Int) (x3 : ByteArray)
def spec_l2Digits.B : spec_l2Digits.Q → Pg spec_l2Digits.Q (fun _ => ByteArray) (ByteArray)
  | .f a0 => if a0 ≤ 0 then (.ret (⟨#[48]⟩ : ByteArray)) else (.to (.l0 a0 (⟨#[]⟩ : ByteArray)))
  | .l0 x0 x3 => if x0 > 0 then (if (strOfNums ([(((wrap64 (48 + (Int.tmod x0 10)))) % 256)] : List Int)).size + x3.size ≤ 9223372036854775807 then (.to (.l0 (wrap64 (Int.tdiv x0 10)) (((strOfNums ([(((wrap64 (48 + (Int.tmod x0 10)))) % 256)] : List Int)) ++ x3)))) else (.bad)) else (.ret x3)
def spec_l2Digits.fv (a0 : Int) : Option (ByteArray) := lim spec_l2Digits.B (.f a0)
def spec_l2Digits.l0v (x0 : Int) (x3 : ByteArray) : Option (ByteArray) := lim spec_l2Digits.B (.l0 x0 x3)
theorem spec_l2Digits.fv_eq (a0 : Int) : spec_l2Digits.fv a0 = (if a0 ≤ 0 then (some (⟨#[48]⟩ : ByteArray)) else (spec_l2Digits.l0v a0 (⟨#[]⟩ : ByteArray))) := by
  show lim spec_l2Digits.B (.f a0) = _
  rw [lim_eq, spec_l2Digits.B]
  simp only [ev_ite, ev_opt, ev_ask, ev_to, ev_ret, ev_bad]
  try rfl
theorem spec_l2Digits.l0v_eq (x0 : Int) (x3 : ByteArray) : spec_l2Digits.l0v x0 x3 = (if x0 > 0 then (if (strOfNums ([(((wrap64 (48 + (Int.tmod x0 10)))) % 256)] : List Int)).size + x3.size ≤ 9223372036854775807 then (spec_l2Digits.l0v (wrap64 (Int.tdiv x0 10)) (((strOfNums ([(((wrap64 (48 + (Int.tmod x0 10)))) % 256)] : List Int)) ++ x3))) else (none)) else (some x3)) := by
  show lim spec_l2Digits.B (.l0 x0 x3) = _
  rw [lim_eq, spec_l2Digits.B]
  simp only [ev_ite, ev_opt, ev_ask, ev_to, ev_ret, ev_bad]
  try rfl
inductive spec_DecText.Q where
  | f (a0 : Int)
  | l0 (x0 : Int) (x4 : ByteArray) (x6 : ByteArray)
def spec_DecText.B : spec_DecText.Q → Pg spec_DecText.Q (fun _ => ByteArray) (ByteArray)
  | .f a0 => .opt (spec_DecOk.f a0) fun t8 => (if t8 = true then (.opt (spec_l1Abs.f a0) fun t11 => (.opt (spec_l2Digits.fv (wrap64 (Int.tdiv t11 1000000))) fun t14 => (if (Int.tmod t11 1000000) > 0 then (.opt (spec_l2Digits.fv ((wrap64 (1000000 + (Int.tmod t11 1000000))))) fun t21 => (if 1 ≤ (t21.size : Int) then (.to (.l0 a0 t14 (t21.extract 1 t21.size))) else (.bad))) else (if a0 < 0 then (if (⟨#[45]⟩ : ByteArray).size + t14.size ≤ 9223372036854775807 then (.ret ((⟨#[45]⟩ : ByteArray) ++ t14)) else (.bad)) else (.ret t14))))) else (.ret (⟨#[]⟩ : ByteArray)))
  | .l0 x0 x4 x6 => if 0 ≤ (wrap64 ((x6.size : Int) - 1)) then (if (wrap64 ((x6.size : Int) - 1)) < (x6.size : Int) then (if (bt x6 (wrap64 ((x6.size : Int) - 1))) = 48 then (if (wrap64 ((x6.size : Int) - 1)) ≤ (x6.size : Int) then (.to (.l0 x0 x4 ((x6.extract 0 ((wrap64 ((x6.size : Int) - 1)) : Int).toNat)))) else (.bad)) else (if x4.size + (⟨#[46]⟩ : ByteArray).size ≤ 9223372036854775807 then (if (x4 ++ (⟨#[46]⟩ : ByteArray)).size + x6.size ≤ 9223372036854775807 then (if x0 < 0 then (if (⟨#[45]⟩ : ByteArray).size + ((x4 ++ (⟨#[46]⟩ : ByteArray)) ++ x6).size ≤ 9223372036854775807 then (.ret ((⟨#[45]⟩ : ByteArray) ++ ((x4 ++ (⟨#[46]⟩ : ByteArray)) ++ x6))) else (.bad)) else (.ret ((x4 ++ (⟨#[46]⟩ : ByteArray)) ++ x6))) else (.bad)) else (.bad))) else (.bad)) else (.bad)
def spec_DecText.fv (a0 : Int) : Option (ByteArray) := lim spec_DecText.B (.f a0)
def spec_DecText.l0v (x0 : Int) (x4 : ByteArray) (x6 : ByteArray) : Option (ByteArray) := lim spec_DecText.B (.l0 x0 x4 x6)
theorem spec_DecText.fv_eq (a0 : Int) : spec_DecText.fv a0 = ((spec_DecOk.f a0).bind fun t8 => (if t8 = true then ((spec_l1Abs.f a0).bind fun t11 => ((spec_l2Digits.fv (wrap64 (Int.tdiv t11 1000000))).bind fun t14 => (if (Int.tmod t11 1000000) > 0 then ((spec_l2Digits.fv ((wrap64 (1000000 + (Int.tmod t11 1000000))))).bind fun t21 => (if 1 ≤ (t21.size : Int) then (spec_DecText.l0v a0 t14 (t21.extract 1 t21.size)) else (none))) else (if a0 < 0 then (if (⟨#[45]⟩ : ByteArray).size + t14.size ≤ 9223372036854775807 then (some ((⟨#[45]⟩ : ByteArray) ++ t14)) else (none)) else (some t14))))) else (some (⟨#[]⟩ : ByteArray)))) := by
  show lim spec_DecText.B (.f a0) = _
  rw [lim_eq, spec_DecText.B]
  simp only [ev_ite, ev_opt, ev_ask, ev_to, ev_ret, ev_bad]
  try rfl
theorem spec_DecText.l0v_eq (x0 : Int) (x4 : ByteArray) (x6 : ByteArray) : spec_DecText.l0v x0 x4 x6 = (if 0 ≤ (wrap64 ((x6.size : Int) - 1)) then (if (wrap64 ((x6.size : Int) - 1)) < (x6.size : Int) then (if (bt x6 (wrap64 ((x6.size : Int) - 1))) = 48 then (if (wrap64 ((x6.size : Int) - 1)) ≤ (x6.size : Int) then (spec_DecText.l0v x0 x4 ((x6.extract 0 ((wrap64 ((x6.size : Int) - 1)) : Int).toNat))) else (none)) else (if x4.size + (⟨#[46]⟩ : ByteArray).size ≤ 9223372036854775807 then (if (x4 ++ (⟨#[46]⟩ : ByteArray)).size + x6.size ≤ 9223372036854775807 then (if x0 < 0 then (if (⟨#[45]⟩ : ByteArray).size + ((x4 ++ (⟨#[46]⟩ : ByteArray)) ++ x6).size ≤ 9223372036854775807 then (some ((⟨#[45]⟩ : ByteArray) ++ ((x4 ++ (⟨#[46]⟩ : ByteArray)) ++ x6))) else (none)) else (some ((x4 ++ (⟨#[46]⟩ : ByteArray)) ++ x6))) else (none)) else (none))) else (none)) else (none)) := by
  show lim spec_DecText.B (.l0 x0 x4 x6) = _
  rw [lim_eq, spec_DecText.B]
  simp only [ev_ite, ev_opt, ev_ask, ev_to, ev_ret, ev_bad]
  try rfl
inductive spec_l5In.Q where
  | f (a0 : ByteArray) (a1 : Int)
  | l0 (x0 : ByteArray) (x1 : Int) (x5 : Int)
def spec_l5In.B : spec_l5In.Q → Pg spec_l5In.Q (fun _ => Bool) (Bool)
  | .f a0 a1 => .to (.l0 a0 a1 0)
  | .l0 x0 x1 x5 => if x5 < (x0.size : Int) then (if 0 ≤ x5 then (if (bt x0 x5) = x1 then (.ret true) else (.to (.l0 x0 x1 (wrap64 (x5 + 1))))) else (.bad)) else (.ret false)
def spec_l5In.fv (a0 : ByteArray) (a1 : Int) : Option (Bool) := lim spec_l5In.B (.f a0 a1)
def spec_l5In.l0v (x0 : ByteArray) (x1 : Int) (x5 : Int) : Option (Bool) := lim spec_l5In.B (.l0 x0 x1 x5)
theorem spec_l5In.fv_eq (a0 : ByteArray) (a1 : Int) : spec_l5In.fv a0 a1 = (spec_l5In.l0v a0 a1 0) := by
  show lim spec_l5In.B (.f a0 a1) = _
  rw [lim_eq, spec_l5In.B]
  simp only [ev_ite, ev_opt, ev_ask, ev_to, ev_ret, ev_bad]
  try rfl
theorem spec_l5In.l0v_eq (x0 : ByteArray) (x1 : Int) (x5 : Int) : spec_l5In.l0v x0 x1 x5 = (if x5 < (x0.size : Int) then (if 0 ≤ x5 then (if (bt x0 x5) = x1 then (some true) else (spec_l5In.l0v x0 x1 (wrap64 (x5 + 1)))) else (none)) else (some false)) := by
  show lim spec_l5In.B (.l0 x0 x1 x5) = _
  rw [lim_eq, spec_l5In.B]
  simp only [ev_ite, ev_opt, ev_ask, ev_to, ev_ret, ev_bad]
  try rfl
inductive spec_l9Back.Q where
  | f (a0 : ByteArray) (a1 : ByteArray)
  | l0 (x0 : ByteArray) (x1 : ByteArray) (x5 : List Int) (x6 : Int)
  | j0 (x0 : ByteArray) (x1 : ByteArray) (x5 : List Int) (x6 : Int)
def spec_l9Back.B : spec_l9Back.Q → Pg spec_l9Back.Q (fun _ => ByteArray) (ByteArray)
  | .f a0 a1 => .to (.l0 a0 a1 ([] : List Int) 0)
  | .l0 x0 x1 x5 x6 => if x6 < (x0.size : Int) then (if 0 ≤ x6 then (.opt (spec_l5In.fv x1 (bt x0 x6)) fun t18 => (if t18 = true then (if x5.length < 140737488355328 then (.to (.j0 x0 x1 (x5 ++ [92]) x6)) else (.bad)) else (.to (.j0 x0 x1 x5 x6)))) else (.bad)) else (.ret (strOfNums x5))
  | .j0 x0 x1 x5 x6 => if 0 ≤ x6 then (if x6 < (x0.size : Int) then (if x5.length < 140737488355328 then (.to (.l0 x0 x1 (x5 ++ [(bt x0 x6)]) (wrap64 (x6 + 1)))) else (.bad)) else (.bad)) else (.bad)
def spec_l9Back.fv (a0 : ByteArray) (a1 : ByteArray) : Option (ByteArray) := lim spec_l9Back.B (.f a0 a1)
def spec_l9Back.l0v (x0 : ByteArray) (x1 : ByteArray) (x5 : List Int) (x6 : Int) : Option (ByteArray) := lim spec_l9Back.B (.l0 x0 x1 x5 x6)
def spec_l9Back.j0v (x0 : ByteArray) (x1 : ByteArray) (x5 : List Int) (x6 : Int) : Option (ByteArray) := lim spec_l9Back.B (.j0 x0 x1 x5 x6)
theorem spec_l9Back.fv_eq (a0 : ByteArray) (a1 : ByteArray) : spec_l9Back.fv a0 a1 = (spec_l9Back.l0v a0 a1 ([] : List Int) 0) := by
  show lim spec_l9Back.B (.f a0 a1) = _
  rw [lim_eq, spec_l9Back.B]
  simp only [ev_ite, ev_opt, ev_ask, ev_to, ev_ret, ev_bad]
  try rfl
theorem spec_l9Back.l0v_eq (x0 : ByteArray) (x1 : ByteArray) (x5 : List Int) (x6 : Int) : spec_l9Back.l0v x0 x1 x5 x6 = (if x6 < (x0.size : Int) then (if 0 ≤ x6 then ((spec_l5In.fv x1 (bt x0 x6)).bind fun t18 => (if t18 = true then (if x5.length < 140737488355328 then (spec_l9Back.j0v x0 x1 (x5 ++ [92]) x6) else (none)) else (spec_l9Back.j0v x0 x1 x5 x6))) else (none)) else (some (strOfNums x5))) := by
  show lim spec_l9Back.B (.l0 x0 x1 x5 x6) = _
  rw [lim_eq, spec_l9Back.B]
  simp only [ev_ite, ev_opt, ev_ask, ev_to, ev_ret, ev_bad]
  try rfl
theorem spec_l9Back.j0v_eq (x0 : ByteArray) (x1 : ByteArray) (x5 : List Int) (x6 : Int) : spec_l9Back.j0v x0 x1 x5 x6 = (if 0 ≤ x6 then (if x6 < (x0.size : Int) then (if x5.length < 140737488355328 then (spec_l9Back.l0v x0 x1 (x5 ++ [(bt x0 x6)]) (wrap64 (x6 + 1))) else (none)) else (none)) else (none)) := by
  show lim spec_l9Back.B (.j0 x0 x1 x5 x6) = _
  rw [lim_eq, spec_l9Back.B]
  simp only [ev_ite, ev_opt, ev_ask, ev_to, ev_ret, ev_bad]
  try rfl
inductive spec_l9E.Q where
  | spec_l9E_f (a0_0 : Int) (a0_1 : Int) (a0_2 : ByteArray) (l0_3 : List S38)
  | spec_l9E_j0 (x4 : ByteArray) (x16_0 : Int) (x16_1 : Int) (x16_2 : ByteArray) (x16_3 : List S38)
  | spec_l9Field_f (a0_0 : Int) (a0_1 : Int) (a0_2 : ByteArray) (l0_3 : List S38)
  | spec_l9Field_j0 (x16_0 : Int) (x16_1 : Int) (x16_2 : ByteArray) (x16_3 : List S38)
  | spec_l9Field_j1 (x15 : Bool) (x16_0 : Int) (x16_1 : Int) (x16_2 : ByteArray) (x16_3 : List S38)
  | spec_l9List_f (l0 : List S38)
  | spec_l9List_l0 (x0 : List S38) (x3 : ByteArray) (x4 : Int)
  | spec_l9List_j0 (x0 : List S38) (x3 : ByteArray) (x4 : Int)
def spec_l9E.B : spec_l9E.Q → Pg spec_l9E.Q (fun _ => ByteArray) (ByteArray)
  | .spec_l9E_f a0_0 a0_1 a0_2 l0_3 => .opt (some ([(⟨#[32, 43, 32]⟩ : ByteArray), (⟨#[32, 45, 32]⟩ : ByteArray), (⟨#[32, 42, 32]⟩ : ByteArray), (⟨#[32, 47, 32]⟩ : ByteArray), (⟨#[32, 37, 32]⟩ : ByteArray), (⟨#[32]⟩ : ByteArray), (⟨#[32, 60, 32]⟩ : ByteArray), (⟨#[32, 60, 61, 32]⟩ : ByteArray), (⟨#[32, 62, 32]⟩ : ByteArray), (⟨#[32, 62, 61, 32]⟩ : ByteArray), (⟨#[32, 61, 61, 32]⟩ : ByteArray), (⟨#[32, 33, 61, 32]⟩ : ByteArray), (⟨#[32, 126, 32]⟩ : ByteArray)] : List ByteArray)) fun y1_0 => (if a0_0 = 1 then (.opt (spec_DecText.fv a0_1) fun t12 => (.ret t12)) else (if a0_0 = 2 then (.opt (spec_l9Back.fv a0_2 (⟨#[34, 92]⟩ : ByteArray)) fun t17 => (if (⟨#[34]⟩ : ByteArray).size + t17.size ≤ 9223372036854775807 then (if ((⟨#[34]⟩ : ByteArray) ++ t17).size + (⟨#[34]⟩ : ByteArray).size ≤ 9223372036854775807 then (.ret (((⟨#[34]⟩ : ByteArray) ++ t17) ++ (⟨#[34]⟩ : ByteArray))) else (.bad)) else (.bad))) else (if a0_0 = 3 then (.opt (spec_l9Back.fv a0_2 (⟨#[47]⟩ : ByteArray)) fun t24 => (if (⟨#[40, 47]⟩ : ByteArray).size + t24.size ≤ 9223372036854775807 then (if ((⟨#[40, 47]⟩ : ByteArray) ++ t24).size + (⟨#[47, 41]⟩ : ByteArray).size ≤ 9223372036854775807 then (.ret (((⟨#[40, 47]⟩ : ByteArray) ++ t24) ++ (⟨#[47, 41]⟩ : ByteArray))) else (.bad)) else (.bad))) else (if a0_0 = 4 then (.ret a0_2) else (if a0_0 = 5 then (if a0_2.size + (⟨#[91]⟩ : ByteArray).size ≤ 9223372036854775807 then (if 0 < (l0_3.length : Int) then (.ask (.spec_l9E_f ((rd_T38 l0_3 0).f0) ((rd_T38 l0_3 0).f1) ((rd_T38 l0_3 0).f2) ((rd_T38 l0_3 0).f3)) fun (t40 : ByteArray) => (if (a0_2 ++ (⟨#[91]⟩ : ByteArray)).size + t40.size ≤ 9223372036854775807 then (if ((a0_2 ++ (⟨#[91]⟩ : ByteArray)) ++ t40).size + (⟨#[93]⟩ : ByteArray).size ≤ 9223372036854775807 then (.ret (((a0_2 ++ (⟨#[91]⟩ : ByteArray)) ++ t40) ++ (⟨#[93]⟩ : ByteArray))) else (.bad)) else (.bad))) else (.bad)) else (.bad)) else (if a0_0 = 6 then (if 0 < (l0_3.length : Int) then (.ask (.spec_l9Field_f ((rd_T38 l0_3 0).f0) ((rd_T38 l0_3 0).f1) ((rd_T38 l0_3 0).f2) ((rd_T38 l0_3 0).f3)) fun (t49 : ByteArray) => (.ret t49)) else (.bad)) else (if a0_0 = 7 then (.ret (⟨#[78, 82]⟩ : ByteArray)) else (if a0_0 = 8 then (.ret (⟨#[78, 70]⟩ : ByteArray)) else (if a0_0 = 22 then (if 0 < (l0_3.length : Int) then (.ask (.spec_l9E_f ((rd_T38 l0_3 0).f0) ((rd_T38 l0_3 0).f1) ((rd_T38 l0_3 0).f2) ((rd_T38 l0_3 0).f3)) fun (t60 : ByteArray) => (if (⟨#[40, 33]⟩ : ByteArray).size + t60.size ≤ 9223372036854775807 then (if ((⟨#[40, 33]⟩ : ByteArray) ++ t60).size + (⟨#[41]⟩ : ByteArray).size ≤ 9223372036854775807 then (.ret (((⟨#[40, 33]⟩ : ByteArray) ++ t60) ++ (⟨#[41]⟩ : ByteArray))) else (.bad)) else (.bad))) else (.bad)) else (if a0_0 = 23 then (if 0 < (l0_3.length : Int) then (.ask (.spec_l9E_f ((rd_T38 l0_3 0).f0) ((rd_T38 l0_3 0).f1) ((rd_T38 l0_3 0).f2) ((rd_T38 l0_3 0).f3)) fun (t69 : ByteArray) => (if (⟨#[40, 45]⟩ : ByteArray).size + t69.size ≤ 9223372036854775807 then (if ((⟨#[40, 45]⟩ : ByteArray) ++ t69).size + (⟨#[41]⟩ : ByteArray).size ≤ 9223372036854775807 then (.ret (((⟨#[40, 45]⟩ : ByteArray) ++ t69) ++ (⟨#[41]⟩ : ByteArray))) else (.bad)) else (.bad))) else (.bad)) else (if a0_0 = 28 then (if a0_2.size + (⟨#[40]⟩ : ByteArray).size ≤ 9223372036854775807 then (.ask (.spec_l9List_f l0_3) fun (t79 : ByteArray) => (if (a0_2 ++ (⟨#[40]⟩ : ByteArray)).size + t79.size ≤ 9223372036854775807 then (if ((a0_2 ++ (⟨#[40]⟩ : ByteArray)) ++ t79).size + (⟨#[41]⟩ : ByteArray).size ≤ 9223372036854775807 then (.ret (((a0_2 ++ (⟨#[40]⟩ : ByteArray)) ++ t79) ++ (⟨#[41]⟩ : ByteArray))) else (.bad)) else (.bad))) else (.bad)) else (if a0_0 = 24 then (.to (.spec_l9E_j0 (⟨#[32, 38, 38, 32]⟩ : ByteArray) a0_0 a0_1 a0_2 l0_3)) else (if a0_0 = 25 then (.to (.spec_l9E_j0 (⟨#[32, 124, 124, 32]⟩ : ByteArray) a0_0 a0_1 a0_2 l0_3)) else (if a0_0 = 26 then (.to (.spec_l9E_j0 (⟨#[32, 61, 32]⟩ : ByteArray) a0_0 a0_1 a0_2 l0_3)) else (if a0_0 = 27 then (.to (.spec_l9E_j0 (⟨#[32, 43, 61, 32]⟩ : ByteArray) a0_0 a0_1 a0_2 l0_3)) else (if 0 ≤ (wrap64 (a0_0 - 9)) then (if (wrap64 (a0_0 - 9)) < (y1_0.length : Int) then (.to (.spec_l9E_j0 ((rdOf ByteArray.empty y1_0 (wrap64 (a0_0 - 9)))) a0_0 a0_1 a0_2 l0_3)) else (.bad)) else (.bad)))))))))))))))))
  | .spec_l9E_j0 x4 x16_0 x16_1 x16_2 x16_3 => if 0 < (x16_3.length : Int) then (.ask (.spec_l9E_f ((rd_T38 x16_3 0).f0) ((rd_T38 x16_3 0).f1) ((rd_T38 x16_3 0).f2) ((rd_T38 x16_3 0).f3)) fun (t102 : ByteArray) => (if (⟨#[40]⟩ : ByteArray).size + t102.size ≤ 9223372036854775807 then (if ((⟨#[40]⟩ : ByteArray) ++ t102).size + x4.size ≤ 9223372036854775807 then (if 1 < (x16_3.length : Int) then (.ask (.spec_l9E_f ((rd_T38 x16_3 1).f0) ((rd_T38 x16_3 1).f1) ((rd_T38 x16_3 1).f2) ((rd_T38 x16_3 1).f3)) fun (t110 : ByteArray) => (if (((⟨#[40]⟩ : ByteArray) ++ t102) ++ x4).size + t110.size ≤ 9223372036854775807 then (if ((((⟨#[40]⟩ : ByteArray) ++ t102) ++ x4) ++ t110).size + (⟨#[41]⟩ : ByteArray).size ≤ 9223372036854775807 then (.ret (((((⟨#[40]⟩ : ByteArray) ++ t102) ++ x4) ++ t110) ++ (⟨#[41]⟩ : ByteArray))) else (.bad)) else (.bad))) else (.bad)) else (.bad)) else (.bad))) else (.bad)
  | .spec_l9Field_f a0_0 a0_1 a0_2 l0_3 => if a0_0 = 1 then (.to (.spec_l9Field_j1 true a0_0 a0_1 a0_2 l0_3)) else (if a0_0 = 4 then (.to (.spec_l9Field_j1 true a0_0 a0_1 a0_2 l0_3)) else (.to (.spec_l9Field_j1 (a0_0 == 6) a0_0 a0_1 a0_2 l0_3)))
  | .spec_l9Field_j0 x16_0 x16_1 x16_2 x16_3 => .ask (.spec_l9E_f x16_0 x16_1 x16_2 x16_3) fun (t20 : ByteArray) => (if (⟨#[36, 40]⟩ : ByteArray).size + t20.size ≤ 9223372036854775807 then (if ((⟨#[36, 40]⟩ : ByteArray) ++ t20).size + (⟨#[41]⟩ : ByteArray).size ≤ 9223372036854775807 then (.ret (((⟨#[36, 40]⟩ : ByteArray) ++ t20) ++ (⟨#[41]⟩ : ByteArray))) else (.bad)) else (.bad))
  | .spec_l9Field_j1 x15 x16_0 x16_1 x16_2 x16_3 => if x15 = true then (.ask (.spec_l9E_f x16_0 x16_1 x16_2 x16_3) fun (t17 : ByteArray) => (if (⟨#[36]⟩ : ByteArray).size + t17.size ≤ 9223372036854775807 then (.ret ((⟨#[36]⟩ : ByteArray) ++ t17)) else (.bad))) else (.to (.spec_l9Field_j0 x16_0 x16_1 x16_2 x16_3))
  | .spec_l9List_f l0 => .to (.spec_l9List_l0 l0 (⟨#[]⟩ : ByteArray) 0)
  | .spec_l9List_l0 x0 x3 x4 => if x4 < (x0.length : Int) then (if x4 > 0 then (if x3.size + (⟨#[44, 32]⟩ : ByteArray).size ≤ 9223372036854775807 then (.to (.spec_l9List_j0 x0 (x3 ++ (⟨#[44, 32]⟩ : ByteArray)) x4)) else (.bad)) else (.to (.spec_l9List_j0 x0 x3 x4))) else (.ret x3)
  | .spec_l9List_j0 x0 x3 x4 => if 0 ≤ x4 then (if x4 < (x0.length : Int) then (.ask (.spec_l9E_f ((rd_T38 x0 x4).f0) ((rd_T38 x0 x4).f1) ((rd_T38 x0 x4).f2) ((rd_T38 x0 x4).f3)) fun (t20 : ByteArray) => (if x3.size + t20.size ≤ 9223372036854775807 then (.to (.spec_l9List_l0 x0 (x3 ++ t20) (wrap64 (x4 + 1)))) else (.bad))) else (.bad)) else (.bad)
def spec_l9E.fv (a0_0 : Int) (a0_1 : Int) (a0_2 : ByteArray) (l0_3 : List S38) : Option (ByteArray) := lim spec_l9E.B (.spec_l9E_f a0_0 a0_1 a0_2 l0_3)
def spec_l9E.j0v (x4 : ByteArray) (x16_0 : Int) (x16_1 : Int) (x16_2 : ByteArray) (x16_3 : List S38) : Option (ByteArray) := lim spec_l9E.B (.spec_l9E_j0 x4 x16_0 x16_1 x16_2 x16_3)
def spec_l9Field.fv (a0_0 : Int) (a0_1 : Int) (a0_2 : ByteArray) (l0_3 : List S38) : Option (ByteArray) := lim spec_l9E.B (.spec_l9Field_f a0_0 a0_1 a0_2 l0_3)
def spec_l9Field.j0v (x16_0 : Int) (x16_1 : Int) (x16_2 : ByteArray) (x16_3 : List S38) : Option (ByteArray) := lim spec_l9E.B (.spec_l9Field_j0 x16_0 x16_1 x16_2 x16_3)
def spec_l9Field.j1v (x15 : Bool) (x16_0 : Int) (x16_1 : Int) (x16_2 : ByteArray) (x16_3 : List S38) : Option (ByteArray) := lim spec_l9E.B (.spec_l9Field_j1 x15 x16_0 x16_1 x16_2 x16_3)
def spec_l9List.fv (l0 : List S38) : Option (ByteArray) := lim spec_l9E.B (.spec_l9List_f l0)
def spec_l9List.l0v (x0 : List S38) (x3 : ByteArray) (x4 : Int) : Option (ByteArray) := lim spec_l9E.B (.spec_l9List_l0 x0 x3 x4)
def spec_l9List.j0v (x0 : List S38) (x3 : ByteArray) (x4 : Int) : Option (ByteArray) := lim spec_l9E.B (.spec_l9List_j0 x0 x3 x4)
theorem spec_l9E.fv_eq (a0_0 : Int) (a0_1 : Int) (a0_2 : ByteArray) (l0_3 : List S38) : spec_l9E.fv a0_0 a0_1 a0_2 l0_3 = ((some ([(⟨#[32, 43, 32]⟩ : ByteArray), (⟨#[32, 45, 32]⟩ : ByteArray), (⟨#[32, 42, 32]⟩ : ByteArray), (⟨#[32, 47, 32]⟩ : ByteArray), (⟨#[32, 37, 32]⟩ : ByteArray), (⟨#[32]⟩ : ByteArray), (⟨#[32, 60, 32]⟩ : ByteArray), (⟨#[32, 60, 61, 32]⟩ : ByteArray), (⟨#[32, 62, 32]⟩ : ByteArray), (⟨#[32, 62, 61, 32]⟩ : ByteArray), (⟨#[32, 61, 61, 32]⟩ : ByteArray), (⟨#[32, 33, 61, 32]⟩ : ByteArray), (⟨#[32, 126, 32]⟩ : ByteArray)] : List ByteArray)).bind fun y1_0 => (if a0_0 = 1 then ((spec_DecText.fv a0_1).bind fun t12 => (some t12)) else (if a0_0 = 2 then ((spec_l9Back.fv a0_2 (⟨#[34, 92]⟩ : ByteArray)).bind fun t17 => (if (⟨#[34]⟩ : ByteArray).size + t17.size ≤ 9223372036854775807 then (if ((⟨#[34]⟩ : ByteArray) ++ t17).size + (⟨#[34]⟩ : ByteArray).size ≤ 9223372036854775807 then (some (((⟨#[34]⟩ : ByteArray) ++ t17) ++ (⟨#[34]⟩ : ByteArray))) else (none)) else (none))) else (if a0_0 = 3 then ((spec_l9Back.fv a0_2 (⟨#[47]⟩ : ByteArray)).bind fun t24 => (if (⟨#[40, 47]⟩ : ByteArray).size + t24.size ≤ 9223372036854775807 then (if ((⟨#[40, 47]⟩ : ByteArray) ++ t24).size + (⟨#[47, 41]⟩ : ByteArray).size ≤ 9223372036854775807 then (some (((⟨#[40, 47]⟩ : ByteArray) ++ t24) ++ (⟨#[47, 41]⟩ : ByteArray))) else (none)) else (none))) else (if a0_0 = 4 then (some a0_2) else (if a0_0 = 5 then (if a0_2.size + (⟨#[91]⟩ : ByteArray).size ≤ 9223372036854775807 then (if 0 < (l0_3.length : Int) then ((spec_l9E.fv ((rd_T38 l0_3 0).f0) ((rd_T38 l0_3 0).f1) ((rd_T38 l0_3 0).f2) ((rd_T38 l0_3 0).f3)).bind fun t40 => (if (a0_2 ++ (⟨#[91]⟩ : ByteArray)).size + t40.size ≤ 9223372036854775807 then (if ((a0_2 ++ (⟨#[91]⟩ : ByteArray)) ++ t40).size + (⟨#[93]⟩ : ByteArray).size ≤ 9223372036854775807 then (some (((a0_2 ++ (⟨#[91]⟩ : ByteArray)) ++ t40) ++ (⟨#[93]⟩ : ByteArray))) else (none)) else (none))) else (none)) else (none)) else (if a0_0 = 6 then (if 0 < (l0_3.length : Int) then ((spec_l9Field.fv ((rd_T38 l0_3 0).f0) ((rd_T38 l0_3 0).f1) ((rd_T38 l0_3 0).f2) ((rd_T38 l0_3 0).f3)).bind fun t49 => (some t49)) else (none)) else (if a0_0 = 7 then (some (⟨#[78, 82]⟩ : ByteArray)) else (if a0_0 = 8 then (some (⟨#[78, 70]⟩ : ByteArray)) else (if a0_0 = 22 then (if 0 < (l0_3.length : Int) then ((spec_l9E.fv ((rd_T38 l0_3 0).f0) ((rd_T38 l0_3 0).f1) ((rd_T38 l0_3 0).f2) ((rd_T38 l0_3 0).f3)).bind fun t60 => (if (⟨#[40, 33]⟩ : ByteArray).size + t60.size ≤ 9223372036854775807 then (if ((⟨#[40, 33]⟩ : ByteArray) ++ t60).size + (⟨#[41]⟩ : ByteArray).size ≤ 9223372036854775807 then (some (((⟨#[40, 33]⟩ : ByteArray) ++ t60) ++ (⟨#[41]⟩ : ByteArray))) else (none)) else (none))) else (none)) else (if a0_0 = 23 then (if 0 < (l0_3.length : Int) then ((spec_l9E.fv ((rd_T38 l0_3 0).f0) ((rd_T38 l0_3 0).f1) ((rd_T38 l0_3 0).f2) ((rd_T38 l0_3 0).f3)).bind fun t69 => (if (⟨#[40, 45]⟩ : ByteArray).size + t69.size ≤ 9223372036854775807 then (if ((⟨#[40, 45]⟩ : ByteArray) ++ t69).size + (⟨#[41]⟩ : ByteArray).size ≤ 9223372036854775807 then (some (((⟨#[40, 45]⟩ : ByteArray) ++ t69) ++ (⟨#[41]⟩ : ByteArray))) else (none)) else (none))) else (none)) else (if a0_0 = 28 then (if a0_2.size + (⟨#[40]⟩ : ByteArray).size ≤ 9223372036854775807 then ((spec_l9List.fv l0_3).bind fun t79 => (if (a0_2 ++ (⟨#[40]⟩ : ByteArray)).size + t79.size ≤ 9223372036854775807 then (if ((a0_2 ++ (⟨#[40]⟩ : ByteArray)) ++ t79).size + (⟨#[41]⟩ : ByteArray).size ≤ 9223372036854775807 then (some (((a0_2 ++ (⟨#[40]⟩ : ByteArray)) ++ t79) ++ (⟨#[41]⟩ : ByteArray))) else (none)) else (none))) else (none)) else (if a0_0 = 24 then (spec_l9E.j0v (⟨#[32, 38, 38, 32]⟩ : ByteArray) a0_0 a0_1 a0_2 l0_3) else (if a0_0 = 25 then (spec_l9E.j0v (⟨#[32, 124, 124, 32]⟩ : ByteArray) a0_0 a0_1 a0_2 l0_3) else (if a0_0 = 26 then (spec_l9E.j0v (⟨#[32, 61, 32]⟩ : ByteArray) a0_0 a0_1 a0_2 l0_3) else (if a0_0 = 27 then (spec_l9E.j0v (⟨#[32, 43, 61, 32]⟩ : ByteArray) a0_0 a0_1 a0_2 l0_3) else (if 0 ≤ (wrap64 (a0_0 - 9)) then (if (wrap64 (a0_0 - 9)) < (y1_0.length : Int) then (spec_l9E.j0v ((rdOf ByteArray.empty y1_0 (wrap64 (a0_0 - 9)))) a0_0 a0_1 a0_2 l0_3) else (none)) else (none)))))))))))))))))) := by
  show lim spec_l9E.B (.spec_l9E_f a0_0 a0_1 a0_2 l0_3) = _
  rw [lim_eq, spec_l9E.B]
  simp only [ev_ite, ev_opt, ev_ask, ev_to, ev_ret, ev_bad]
  try rfl
theorem spec_l9E.j0v_eq (x4 : ByteArray) (x16_0 : Int) (x16_1 : Int) (x16_2 : ByteArray) (x16_3 : List S38) : spec_l9E.j0v x4 x16_0 x16_1 x16_2 x16_3 = (if 0 < (x16_3.length : Int) then ((spec_l9E.fv ((rd_T38 x16_3 0).f0) ((rd_T38 x16_3 0).f1) ((rd_T38 x16_3 0).f2) ((rd_T38 x16_3 0).f3)).bind fun t102 => (if (⟨#[40]⟩ : ByteArray).size + t102.size ≤ 9223372036854775807 then (if ((⟨#[40]⟩ : ByteArray) ++ t102).size + x4.size ≤ 9223372036854775807 then (if 1 < (x16_3.length : Int) then ((spec_l9E.fv ((rd_T38 x16_3 1).f0) ((rd_T38 x16_3 1).f1) ((rd_T38 x16_3 1).f2) ((rd_T38 x16_3 1).f3)).bind fun t110 => (if (((⟨#[40]⟩ : ByteArray) ++ t102) ++ x4).size + t110.size ≤ 9223372036854775807 then (if ((((⟨#[40]⟩ : ByteArray) ++ t102) ++ x4) ++ t110).size + (⟨#[41]⟩ : ByteArray).size ≤ 9223372036854775807 then (some (((((⟨#[40]⟩ : ByteArray) ++ t102) ++ x4) ++ t110) ++ (⟨#[41]⟩ : ByteArray))) else (none)) else (none))) else (none)) else (none)) else (none))) else (none)) := by
  show lim spec_l9E.B (.spec_l9E_j0 x4 x16_0 x16_1 x16_2 x16_3) = _
  rw [lim_eq, spec_l9E.B]
  simp only [ev_ite, ev_opt, ev_ask, ev_to, ev_ret, ev_bad]
  try rfl
theorem spec_l9Field.fv_eq (a0_0 : Int) (a0_1 : Int) (a0_2 : ByteArray) (l0_3 : List S38) : spec_l9Field.fv a0_0 a0_1 a0_2 l0_3 = (if a0_0 = 1 then (spec_l9Field.j1v true a0_0 a0_1 a0_2 l0_3) else (if a0_0 = 4 then (spec_l9Field.j1v true a0_0 a0_1 a0_2 l0_3) else (spec_l9Field.j1v (a0_0 == 6) a0_0 a0_1 a0_2 l0_3))) := by
  show lim spec_l9E.B (.spec_l9Field_f a0_0 a0_1 a0_2 l0_3) = _
  rw [lim_eq, spec_l9E.B]
  simp only [ev_ite, ev_opt, ev_ask, ev_to, ev_ret, ev_bad]
  try rfl
theorem spec_l9Field.j0v_eq (x16_0 : Int) (x16_1 : Int) (x16_2 : ByteArray) (x16_3 : List S38) : spec_l9Field.j0v x16_0 x16_1 x16_2 x16_3 = ((spec_l9E.fv x16_0 x16_1 x16_2 x16_3).bind fun t20 => (if (⟨#[36, 40]⟩ : ByteArray).size + t20.size ≤ 9223372036854775807 then (if ((⟨#[36, 40]⟩ : ByteArray) ++ t20).size + (⟨#[41]⟩ : ByteArray).size ≤ 9223372036854775807 then (some (((⟨#[36, 40]⟩ : ByteArray) ++ t20) ++ (⟨#[41]⟩ : ByteArray))) else (none)) else (none))) := by
  show lim spec_l9E.B (.spec_l9Field_j0 x16_0 x16_1 x16_2 x16_3) = _
  rw [lim_eq, spec_l9E.B]
  simp only [ev_ite, ev_opt, ev_ask, ev_to, ev_ret, ev_bad]
  try rfl
theorem spec_l9Field.j1v_eq (x15 : Bool) (x16_0 : Int) (x16_1 : Int) (x16_2 : ByteArray) (x16_3 : List S38) : spec_l9Field.j1v x15 x16_0 x16_1 x16_2 x16_3 = (if x15 = true then ((spec_l9E.fv x16_0 x16_1 x16_2 x16_3).bind fun t17 => (if (⟨#[36]⟩ : ByteArray).size + t17.size ≤ 9223372036854775807 then (some ((⟨#[36]⟩ : ByteArray) ++ t17)) else (none))) else (spec_l9Field.j0v x16_0 x16_1 x16_2 x16_3)) := by
  show lim spec_l9E.B (.spec_l9Field_j1 x15 x16_0 x16_1 x16_2 x16_3) = _
  rw [lim_eq, spec_l9E.B]
  simp only [ev_ite, ev_opt, ev_ask, ev_to, ev_ret, ev_bad]
  try rfl
theorem spec_l9List.fv_eq (l0 : List S38) : spec_l9List.fv l0 = (spec_l9List.l0v l0 (⟨#[]⟩ : ByteArray) 0) := by
  show lim spec_l9E.B (.spec_l9List_f l0) = _
  rw [lim_eq, spec_l9E.B]
  simp only [ev_ite, ev_opt, ev_ask, ev_to, ev_ret, ev_bad]
  try rfl
theorem spec_l9List.l0v_eq (x0 : List S38) (x3 : ByteArray) (x4 : Int) : spec_l9List.l0v x0 x3 x4 = (if x4 < (x0.length : Int) then (if x4 > 0 then (if x3.size + (⟨#[44, 32]⟩ : ByteArray).size ≤ 9223372036854775807 then (spec_l9List.j0v x0 (x3 ++ (⟨#[44, 32]⟩ : ByteArray)) x4) else (none)) else (spec_l9List.j0v x0 x3 x4)) else (some x3)) := by
  show lim spec_l9E.B (.spec_l9List_l0 x0 x3 x4) = _
  rw [lim_eq, spec_l9E.B]
  simp only [ev_ite, ev_opt, ev_ask, ev_to, ev_ret, ev_bad]
  try rfl
theorem spec_l9List.j0v_eq (x0 : List S38) (x3 : ByteArray) (x4 : Int) : spec_l9List.j0v x0 x3 x4 = (if 0 ≤ x4 then (if x4 < (x0.length : Int) then ((spec_l9E.fv ((rd_T38 x0 x4).f0) ((rd_T38 x0 x4).f1) ((rd_T38 x0 x4).f2) ((rd_T38 x0 x4).f3)).bind fun t20 => (if x3.size + t20.size ≤ 9223372036854775807 then (spec_l9List.l0v x0 (x3 ++ t20) (wrap64 (x4 + 1))) else (none))) else (none)) else (none)) := by
  show lim spec_l9E.B (.spec_l9List_j0 x0 x3 x4) = _
  rw [lim_eq, spec_l9E.B]
  simp only [ev_ite, ev_opt, ev_ask, ev_to, ev_ret, ev_bad]
  try rfl
inductive spec_l9Block.Q where
  | spec_l9Block_f (a0_0 : Int) (a0_1 : Int) (a0_2 : ByteArray) (l0_3 : List S38)
  | spec_l9Block_l0 (x3 : ByteArray) (x4 : Int) (x16_0 : Int) (x16_1 : Int) (x16_2 : ByteArray) (x16_3 : List S38)
  | spec_l9Stmt_f (a0_0 : Int) (a0_1 : Int) (a0_2 : ByteArray) (l0_3 : List S38)
  | spec_l9Stmt_j0 (x3 : ByteArray)
def spec_l9Block.B : spec_l9Block.Q → Pg spec_l9Block.Q (fun _ => ByteArray) (ByteArray)
  | .spec_l9Block_f a0_0 a0_1 a0_2 l0_3 => .to (.spec_l9Block_l0 (⟨#[123, 10]⟩ : ByteArray) 0 a0_0 a0_1 a0_2 l0_3)
  | .spec_l9Block_l0 x3 x4 x16_0 x16_1 x16_2 x16_3 => if x4 < (x16_3.length : Int) then (if 0 ≤ x4 then (.ask (.spec_l9Stmt_f ((rd_T38 x16_3 x4).f0) ((rd_T38 x16_3 x4).f1) ((rd_T38 x16_3 x4).f2) ((rd_T38 x16_3 x4).f3)) fun (t18 : ByteArray) => (if x3.size + t18.size ≤ 9223372036854775807 then (if (x3 ++ t18).size + (⟨#[10]⟩ : ByteArray).size ≤ 9223372036854775807 then (.to (.spec_l9Block_l0 ((x3 ++ t18) ++ (⟨#[10]⟩ : ByteArray)) (wrap64 (x4 + 1)) x16_0 x16_1 x16_2 x16_3)) else (.bad)) else (.bad))) else (.bad)) else (if x3.size + (⟨#[125]⟩ : ByteArray).size ≤ 9223372036854775807 then (.ret (x3 ++ (⟨#[125]⟩ : ByteArray))) else (.bad))
  | .spec_l9Stmt_f a0_0 a0_1 a0_2 l0_3 => if a0_0 = 30 then (if (l0_3.length : Int) = 0 then (.ret (⟨#[112, 114, 105, 110, 116, 59]⟩ : ByteArray)) else (.opt (spec_l9List.fv l0_3) fun t14 => (if (⟨#[112, 114, 105, 110, 116, 32]⟩ : ByteArray).size + t14.size ≤ 9223372036854775807 then (if ((⟨#[112, 114, 105, 110, 116, 32]⟩ : ByteArray) ++ t14).size + (⟨#[59]⟩ : ByteArray).size ≤ 9223372036854775807 then (.ret (((⟨#[112, 114, 105, 110, 116, 32]⟩ : ByteArray) ++ t14) ++ (⟨#[59]⟩ : ByteArray))) else (.bad)) else (.bad)))) else (if a0_0 = 31 then (if 0 < (l0_3.length : Int) then (.opt (spec_l9E.fv ((rd_T38 l0_3 0).f0) ((rd_T38 l0_3 0).f1) ((rd_T38 l0_3 0).f2) ((rd_T38 l0_3 0).f3)) fun t23 => (if (⟨#[105, 102, 32, 40]⟩ : ByteArray).size + t23.size ≤ 9223372036854775807 then (if ((⟨#[105, 102, 32, 40]⟩ : ByteArray) ++ t23).size + (⟨#[41, 32]⟩ : ByteArray).size ≤ 9223372036854775807 then (if 1 < (l0_3.length : Int) then (.ask (.spec_l9Block_f ((rd_T38 l0_3 1).f0) ((rd_T38 l0_3 1).f1) ((rd_T38 l0_3 1).f2) ((rd_T38 l0_3 1).f3)) fun (t30 : ByteArray) => (if (((⟨#[105, 102, 32, 40]⟩ : ByteArray) ++ t23) ++ (⟨#[41, 32]⟩ : ByteArray)).size + t30.size ≤ 9223372036854775807 then (if (l0_3.length : Int) = 3 then (if ((((⟨#[105, 102, 32, 40]⟩ : ByteArray) ++ t23) ++ (⟨#[41, 32]⟩ : ByteArray)) ++ t30).size + (⟨#[32, 101, 108, 115, 101, 32]⟩ : ByteArray).size ≤ 9223372036854775807 then (if 2 < (l0_3.length : Int) then (.ask (.spec_l9Block_f ((rd_T38 l0_3 2).f0) ((rd_T38 l0_3 2).f1) ((rd_T38 l0_3 2).f2) ((rd_T38 l0_3 2).f3)) fun (t42 : ByteArray) => (if (((((⟨#[105, 102, 32, 40]⟩ : ByteArray) ++ t23) ++ (⟨#[41, 32]⟩ : ByteArray)) ++ t30) ++ (⟨#[32, 101, 108, 115, 101, 32]⟩ : ByteArray)).size + t42.size ≤ 9223372036854775807 then (.to (.spec_l9Stmt_j0 (((((((⟨#[105, 102, 32, 40]⟩ : ByteArray) ++ t23) ++ (⟨#[41, 32]⟩ : ByteArray)) ++ t30) ++ (⟨#[32, 101, 108, 115, 101, 32]⟩ : ByteArray)) ++ t42)))) else (.bad))) else (.bad)) else (.bad)) else (.to (.spec_l9Stmt_j0 (((((⟨#[105, 102, 32, 40]⟩ : ByteArray) ++ t23) ++ (⟨#[41, 32]⟩ : ByteArray)) ++ t30))))) else (.bad))) else (.bad)) else (.bad)) else (.bad))) else (.bad)) else (if a0_0 = 32 then (if 0 < (l0_3.length : Int) then (.opt (spec_l9E.fv ((rd_T38 l0_3 0).f0) ((rd_T38 l0_3 0).f1) ((rd_T38 l0_3 0).f2) ((rd_T38 l0_3 0).f3)) fun t51 => (if (⟨#[119, 104, 105, 108, 101, 32, 40]⟩ : ByteArray).size + t51.size ≤ 9223372036854775807 then (if ((⟨#[119, 104, 105, 108, 101, 32, 40]⟩ : ByteArray) ++ t51).size + (⟨#[41, 32]⟩ : ByteArray).size ≤ 9223372036854775807 then (if 1 < (l0_3.length : Int) then (.ask (.spec_l9Block_f ((rd_T38 l0_3 1).f0) ((rd_T38 l0_3 1).f1) ((rd_T38 l0_3 1).f2) ((rd_T38 l0_3 1).f3)) fun (t58 : ByteArray) => (if (((⟨#[119, 104, 105, 108, 101, 32, 40]⟩ : ByteArray) ++ t51) ++ (⟨#[41, 32]⟩ : ByteArray)).size + t58.size ≤ 9223372036854775807 then (.ret ((((⟨#[119, 104, 105, 108, 101, 32, 40]⟩ : ByteArray) ++ t51) ++ (⟨#[41, 32]⟩ : ByteArray)) ++ t58)) else (.bad))) else (.bad)) else (.bad)) else (.bad))) else (.bad)) else (if a0_0 = 33 then (.ret (⟨#[110, 101, 120, 116, 59]⟩ : ByteArray)) else (if a0_0 = 34 then (if (⟨#[100, 101, 108, 101, 116, 101, 32]⟩ : ByteArray).size + a0_2.size ≤ 9223372036854775807 then (if ((⟨#[100, 101, 108, 101, 116, 101, 32]⟩ : ByteArray) ++ a0_2).size + (⟨#[91]⟩ : ByteArray).size ≤ 9223372036854775807 then (if 0 < (l0_3.length : Int) then (.opt (spec_l9E.fv ((rd_T38 l0_3 0).f0) ((rd_T38 l0_3 0).f1) ((rd_T38 l0_3 0).f2) ((rd_T38 l0_3 0).f3)) fun t72 => (if (((⟨#[100, 101, 108, 101, 116, 101, 32]⟩ : ByteArray) ++ a0_2) ++ (⟨#[91]⟩ : ByteArray)).size + t72.size ≤ 9223372036854775807 then (if ((((⟨#[100, 101, 108, 101, 116, 101, 32]⟩ : ByteArray) ++ a0_2) ++ (⟨#[91]⟩ : ByteArray)) ++ t72).size + (⟨#[93, 59]⟩ : ByteArray).size ≤ 9223372036854775807 then (.ret (((((⟨#[100, 101, 108, 101, 116, 101, 32]⟩ : ByteArray) ++ a0_2) ++ (⟨#[91]⟩ : ByteArray)) ++ t72) ++ (⟨#[93, 59]⟩ : ByteArray))) else (.bad)) else (.bad))) else (.bad)) else (.bad)) else (.bad)) else (if a0_0 = 29 then (.ask (.spec_l9Block_f a0_0 a0_1 a0_2 l0_3) fun (t78 : ByteArray) => (.ret t78)) else (if 0 < (l0_3.length : Int) then (.opt (spec_l9E.fv ((rd_T38 l0_3 0).f0) ((rd_T38 l0_3 0).f1) ((rd_T38 l0_3 0).f2) ((rd_T38 l0_3 0).f3)) fun t83 => (if t83.size + (⟨#[59]⟩ : ByteArray).size ≤ 9223372036854775807 then (.ret (t83 ++ (⟨#[59]⟩ : ByteArray))) else (.bad))) else (.bad)))))))
  | .spec_l9Stmt_j0 x3 => .ret x3
def spec_l9Block.fv (a0_0 : Int) (a0_1 : Int) (a0_2 : ByteArray) (l0_3 : List S38) : Option (ByteArray) := lim spec_l9Block.B (.spec_l9Block_f a0_0 a0_1 a0_2 l0_3)
def spec_l9Block.l0v (x3 : ByteArray) (x4 : Int) (x16_0 : Int) (x16_1 : Int) (x16_2 : ByteArray) (x16_3 : List S38) : Option (ByteArray) := lim spec_l9Block.B (.spec_l9Block_l0 x3 x4 x16_0 x16_1 x16_2 x16_3)
def spec_l9Stmt.fv (a0_0 : Int) (a0_1 : Int) (a0_2 : ByteArray) (l0_3 : List S38) : Option (ByteArray) := lim spec_l9Block.B (.spec_l9Stmt_f a0_0 a0_1 a0_2 l0_3)
def spec_l9Stmt.j0v (x3 : ByteArray) : Option (ByteArray) := lim spec_l9Block.B (.spec_l9Stmt_j0 x3)
theorem spec_l9Block.fv_eq (a0_0 : Int) (a0_1 : Int) (a0_2 : ByteArray) (l0_3 : List S38) : spec_l9Block.fv a0_0 a0_1 a0_2 l0_3 = (spec_l9Block.l0v (⟨#[123, 10]⟩ : ByteArray) 0 a0_0 a0_1 a0_2 l0_3) := by
  show lim spec_l9Block.B (.spec_l9Block_f a0_0 a0_1 a0_2 l0_3) = _
  rw [lim_eq, spec_l9Block.B]
  simp only [ev_ite, ev_opt, ev_ask, ev_to, ev_ret, ev_bad]
  try rfl
theorem spec_l9Block.l0v_eq (x3 : ByteArray) (x4 : Int) (x16_0 : Int) (x16_1 : Int) (x16_2 : ByteArray) (x16_3 : List S38) : spec_l9Block.l0v x3 x4 x16_0 x16_1 x16_2 x16_3 = (if x4 < (x16_3.length : Int) then (if 0 ≤ x4 then ((spec_l9Stmt.fv ((rd_T38 x16_3 x4).f0) ((rd_T38 x16_3 x4).f1) ((rd_T38 x16_3 x4).f2) ((rd_T38 x16_3 x4).f3)).bind fun t18 => (if x3.size + t18.size ≤ 9223372036854775807 then (if (x3 ++ t18).size + (⟨#[10]⟩ : ByteArray).size ≤ 9223372036854775807 then (spec_l9Block.l0v ((x3 ++ t18) ++ (⟨#[10]⟩ : ByteArray)) (wrap64 (x4 + 1)) x16_0 x16_1 x16_2 x16_3) else (none)) else (none))) else (none)) else (if x3.size + (⟨#[125]⟩ : ByteArray).size ≤ 9223372036854775807 then (some (x3 ++ (⟨#[125]⟩ : ByteArray))) else (none))) := by
  show lim spec_l9Block.B (.spec_l9Block_l0 x3 x4 x16_0 x16_1 x16_2 x16_3) = _
  rw [lim_eq, spec_l9Block.B]
  simp only [ev_ite, ev_opt, ev_ask, ev_to, ev_ret, ev_bad]
  try rfl
theorem spec_l9Stmt.fv_eq (a0_0 : Int) (a0_1 : Int) (a0_2 : ByteArray) (l0_3 : List S38) : spec_l9Stmt.fv a0_0 a0_1 a0_2 l0_3 = (if a0_0 = 30 then (if (l0_3.length : Int) = 0 then (some (⟨#[112, 114, 105, 110, 116, 59]⟩ : ByteArray)) else ((spec_l9List.fv l0_3).bind fun t14 => (if (⟨#[112, 114, 105, 110, 116, 32]⟩ : ByteArray).size + t14.size ≤ 9223372036854775807 then (if ((⟨#[112, 114, 105, 110, 116, 32]⟩ : ByteArray) ++ t14).size + (⟨#[59]⟩ : ByteArray).size ≤ 9223372036854775807 then (some (((⟨#[112, 114, 105, 110, 116, 32]⟩ : ByteArray) ++ t14) ++ (⟨#[59]⟩ : ByteArray))) else (none)) else (none)))) else (if a0_0 = 31 then (if 0 < (l0_3.length : Int) then ((spec_l9E.fv ((rd_T38 l0_3 0).f0) ((rd_T38 l0_3 0).f1) ((rd_T38 l0_3 0).f2) ((rd_T38 l0_3 0).f3)).bind fun t23 => (if (⟨#[105, 102, 32, 40]⟩ : ByteArray).size + t23.size ≤ 9223372036854775807 then (if ((⟨#[105, 102, 32, 40]⟩ : ByteArray) ++ t23).size + (⟨#[41, 32]⟩ : ByteArray).size ≤ 9223372036854775807 then (if 1 < (l0_3.length : Int) then ((spec_l9Block.fv ((rd_T38 l0_3 1).f0) ((rd_T38 l0_3 1).f1) ((rd_T38 l0_3 1).f2) ((rd_T38 l0_3 1).f3)).bind fun t30 => (if (((⟨#[105, 102, 32, 40]⟩ : ByteArray) ++ t23) ++ (⟨#[41, 32]⟩ : ByteArray)).size + t30.size ≤ 9223372036854775807 then (if (l0_3.length : Int) = 3 then (if ((((⟨#[105, 102, 32, 40]⟩ : ByteArray) ++ t23) ++ (⟨#[41, 32]⟩ : ByteArray)) ++ t30).size + (⟨#[32, 101, 108, 115, 101, 32]⟩ : ByteArray).size ≤ 9223372036854775807 then (if 2 < (l0_3.length : Int) then ((spec_l9Block.fv ((rd_T38 l0_3 2).f0) ((rd_T38 l0_3 2).f1) ((rd_T38 l0_3 2).f2) ((rd_T38 l0_3 2).f3)).bind fun t42 => (if (((((⟨#[105, 102, 32, 40]⟩ : ByteArray) ++ t23) ++ (⟨#[41, 32]⟩ : ByteArray)) ++ t30) ++ (⟨#[32, 101, 108, 115, 101, 32]⟩ : ByteArray)).size + t42.size ≤ 9223372036854775807 then (spec_l9Stmt.j0v (((((((⟨#[105, 102, 32, 40]⟩ : ByteArray) ++ t23) ++ (⟨#[41, 32]⟩ : ByteArray)) ++ t30) ++ (⟨#[32, 101, 108, 115, 101, 32]⟩ : ByteArray)) ++ t42))) else (none))) else (none)) else (none)) else (spec_l9Stmt.j0v (((((⟨#[105, 102, 32, 40]⟩ : ByteArray) ++ t23) ++ (⟨#[41, 32]⟩ : ByteArray)) ++ t30)))) else (none))) else (none)) else (none)) else (none))) else (none)) else (if a0_0 = 32 then (if 0 < (l0_3.length : Int) then ((spec_l9E.fv ((rd_T38 l0_3 0).f0) ((rd_T38 l0_3 0).f1) ((rd_T38 l0_3 0).f2) ((rd_T38 l0_3 0).f3)).bind fun t51 => (if (⟨#[119, 104, 105, 108, 101, 32, 40]⟩ : ByteArray).size + t51.size ≤ 9223372036854775807 then (if ((⟨#[119, 104, 105, 108, 101, 32, 40]⟩ : ByteArray) ++ t51).size + (⟨#[41, 32]⟩ : ByteArray).size ≤ 9223372036854775807 then (if 1 < (l0_3.length : Int) then ((spec_l9Block.fv ((rd_T38 l0_3 1).f0) ((rd_T38 l0_3 1).f1) ((rd_T38 l0_3 1).f2) ((rd_T38 l0_3 1).f3)).bind fun t58 => (if (((⟨#[119, 104, 105, 108, 101, 32, 40]⟩ : ByteArray) ++ t51) ++ (⟨#[41, 32]⟩ : ByteArray)).size + t58.size ≤ 9223372036854775807 then (some ((((⟨#[119, 104, 105, 108, 101, 32, 40]⟩ : ByteArray) ++ t51) ++ (⟨#[41, 32]⟩ : ByteArray)) ++ t58)) else (none))) else (none)) else (none)) else (none))) else (none)) else (if a0_0 = 33 then (some (⟨#[110, 101, 120, 116, 59]⟩ : ByteArray)) else (if a0_0 = 34 then (if (⟨#[100, 101, 108, 101, 116, 101, 32]⟩ : ByteArray).size + a0_2.size ≤ 9223372036854775807 then (if ((⟨#[100, 101, 108, 101, 116, 101, 32]⟩ : ByteArray) ++ a0_2).size + (⟨#[91]⟩ : ByteArray).size ≤ 9223372036854775807 then (if 0 < (l0_3.length : Int) then ((spec_l9E.fv ((rd_T38 l0_3 0).f0) ((rd_T38 l0_3 0).f1) ((rd_T38 l0_3 0).f2) ((rd_T38 l0_3 0).f3)).bind fun t72 => (if (((⟨#[100, 101, 108, 101, 116, 101, 32]⟩ : ByteArray) ++ a0_2) ++ (⟨#[91]⟩ : ByteArray)).size + t72.size ≤ 9223372036854775807 then (if ((((⟨#[100, 101, 108, 101, 116, 101, 32]⟩ : ByteArray) ++ a0_2) ++ (⟨#[91]⟩ : ByteArray)) ++ t72).size + (⟨#[93, 59]⟩ : ByteArray).size ≤ 9223372036854775807 then (some (((((⟨#[100, 101, 108, 101, 116, 101, 32]⟩ : ByteArray) ++ a0_2) ++ (⟨#[91]⟩ : ByteArray)) ++ t72) ++ (⟨#[93, 59]⟩ : ByteArray))) else (none)) else (none))) else (none)) else (none)) else (none)) else (if a0_0 = 29 then ((spec_l9Block.fv a0_0 a0_1 a0_2 l0_3).bind fun t78 => (some t78)) else (if 0 < (l0_3.length : Int) then ((spec_l9E.fv ((rd_T38 l0_3 0).f0) ((rd_T38 l0_3 0).f1) ((rd_T38 l0_3 0).f2) ((rd_T38 l0_3 0).f3)).bind fun t83 => (if t83.size + (⟨#[59]⟩ : ByteArray).size ≤ 9223372036854775807 then (some (t83 ++ (⟨#[59]⟩ : ByteArray))) else (none))) else (none)))))))) := by
  show lim spec_l9Block.B (.spec_l9Stmt_f a0_0 a0_1 a0_2 l0_3) = _
  rw [lim_eq, spec_l9Block.B]
  simp only [ev_ite, ev_opt, ev_ask, ev_to, ev_ret, ev_bad]
  try rfl
theorem spec_l9Stmt.j0v_eq (x3 : ByteArray) : spec_l9Stmt.j0v x3 = (some x3) := by
  show lim spec_l9Block.B (.spec_l9Stmt_j0 x3) = _
  rw [lim_eq, spec_l9Block.B]
  simp only [ev_ite, ev_opt, ev_ask, ev_to, ev_ret, ev_bad]
  try rfl
inductive spec_Write.Q where
  | f (l0 : List S40)
  | l0 (x0 : List S40) (x3 : ByteArray) (x4 : Int)
  | j0 (x0 : List S40) (x3 : ByteArray) (x4 : Int)
  | j1 (x0 : List S40) (x3 : ByteArray) (x4 : Int) (x13 : Bool)
  | j2 (x0 : List S40) (x3 : ByteArray) (x4 : Int) (x2580_0 : Int) (x2580_1 : Int) (x2580_2 : Int) (x2580_3 : ByteArray) (x2580_4 : List S38) (x2580_5 : Int) (x2580_6 : Int) (x2580_7 : ByteArray) (x2580_8 : List S38)
def spec_Write.B : spec_Write.Q → Pg spec_Write.Q (fun _ => ByteArray) (ByteArray)
  | .f l0 => .to (.l0 l0 (⟨#[]⟩ : ByteArray) 0)
  | .l0 x0 x3 x4 => if x4 < (x0.length : Int) then (.opt (spec_Tidy.fv x0) fun t12 => (.to (.j1 x0 x3 x4 t12))) else (.to (.j1 x0 x3 x4 false))
  | .j0 x0 x3 x4 => if 0 ≤ x4 then (if x4 < (x0.length : Int) then (if (rd_T40 x0 x4).f0 = 1 then (if x3.size + (⟨#[66, 69, 71, 73, 78, 32]⟩ : ByteArray).size ≤ 9223372036854775807 then (.to (.j2 x0 (x3 ++ (⟨#[66, 69, 71, 73, 78, 32]⟩ : ByteArray)) x4 ((rd_T40 x0 x4).f0) ((rd_T40 x0 x4).f1) ((rd_T40 x0 x4).f2) ((rd_T40 x0 x4).f3) ((rd_T40 x0 x4).f4) ((rd_T40 x0 x4).f5) ((rd_T40 x0 x4).f6) ((rd_T40 x0 x4).f7) ((rd_T40 x0 x4).f8))) else (.bad)) else (if (rd_T40 x0 x4).f0 = 3 then (.opt (spec_l9E.fv ((rd_T40 x0 x4).f1) ((rd_T40 x0 x4).f2) ((rd_T40 x0 x4).f3) ((rd_T40 x0 x4).f4)) fun t31 => (if x3.size + t31.size ≤ 9223372036854775807 then (if (x3 ++ t31).size + (⟨#[32]⟩ : ByteArray).size ≤ 9223372036854775807 then (.to (.j2 x0 ((x3 ++ t31) ++ (⟨#[32]⟩ : ByteArray)) x4 ((rd_T40 x0 x4).f0) ((rd_T40 x0 x4).f1) ((rd_T40 x0 x4).f2) ((rd_T40 x0 x4).f3) ((rd_T40 x0 x4).f4) ((rd_T40 x0 x4).f5) ((rd_T40 x0 x4).f6) ((rd_T40 x0 x4).f7) ((rd_T40 x0 x4).f8))) else (.bad)) else (.bad))) else (.to (.j2 x0 x3 x4 ((rd_T40 x0 x4).f0) ((rd_T40 x0 x4).f1) ((rd_T40 x0 x4).f2) ((rd_T40 x0 x4).f3) ((rd_T40 x0 x4).f4) ((rd_T40 x0 x4).f5) ((rd_T40 x0 x4).f6) ((rd_T40 x0 x4).f7) ((rd_T40 x0 x4).f8))))) else (.bad)) else (.bad)
  | .j1 x0 x3 x4 x13 => if x13 = true then (.to (.j0 x0 x3 x4)) else (.ret x3)
  | .j2 x0 x3 x4 x2580_0 x2580_1 x2580_2 x2580_3 x2580_4 x2580_5 x2580_6 x2580_7 x2580_8 => .opt (spec_l9Block.fv x2580_5 x2580_6 x2580_7 x2580_8) fun t37 => (if x3.size + t37.size ≤ 9223372036854775807 then (if (x3 ++ t37).size + (⟨#[10]⟩ : ByteArray).size ≤ 9223372036854775807 then (.to (.l0 x0 ((x3 ++ t37) ++ (⟨#[10]⟩ : ByteArray)) (wrap64 (x4 + 1)))) else (.bad)) else (.bad))
def spec_Write.fv (l0 : List S40) : Option (ByteArray) := lim spec_Write.B (.f l0)
def spec_Write.l0v (x0 : List S40) (x3 : ByteArray) (x4 : Int) : Option (ByteArray) := lim spec_Write.B (.l0 x0 x3 x4)
def spec_Write.j0v (x0 : List S40) (x3 : ByteArray) (x4 : Int) : Option (ByteArray) := lim spec_Write.B (.j0 x0 x3 x4)
def spec_Write.j1v (x0 : List S40) (x3 : ByteArray) (x4 : Int) (x13 : Bool) : Option (ByteArray) := lim spec_Write.B (.j1 x0 x3 x4 x13)
def spec_Write.j2v (x0 : List S40) (x3 : ByteArray) (x4 : Int) (x2580_0 : Int) (x2580_1 : Int) (x2580_2 : Int) (x2580_3 : ByteArray) (x2580_4 : List S38) (x2580_5 : Int) (x2580_6 : Int) (x2580_7 : ByteArray) (x2580_8 : List S38) : Option (ByteArray) := lim spec_Write.B (.j2 x0 x3 x4 x2580_0 x2580_1 x2580_2 x2580_3 x2580_4 x2580_5 x2580_6 x2580_7 x2580_8)
theorem spec_Write.fv_eq (l0 : List S40) : spec_Write.fv l0 = (spec_Write.l0v l0 (⟨#[]⟩ : ByteArray) 0) := by
  show lim spec_Write.B (.f l0) = _
  rw [lim_eq, spec_Write.B]
  simp only [ev_ite, ev_opt, ev_ask, ev_to, ev_ret, ev_bad]
  try rfl
theorem spec_Write.l0v_eq (x0 : List S40) (x3 : ByteArray) (x4 : Int) : spec_Write.l0v x0 x3 x4 = (if x4 < (x0.length : Int) then ((spec_Tidy.fv x0).bind fun t12 => (spec_Write.j1v x0 x3 x4 t12)) else (spec_Write.j1v x0 x3 x4 false)) := by
  show lim spec_Write.B (.l0 x0 x3 x4) = _
  rw [lim_eq, spec_Write.B]
  simp only [ev_ite, ev_opt, ev_ask, ev_to, ev_ret, ev_bad]
  try rfl
theorem spec_Write.j0v_eq (x0 : List S40) (x3 : ByteArray) (x4 : Int) : spec_Write.j0v x0 x3 x4 = (if 0 ≤ x4 then (if x4 < (x0.length : Int) then (if (rd_T40 x0 x4).f0 = 1 then (if x3.size + (⟨#[66, 69, 71, 73, 78, 32]⟩ : ByteArray).size ≤ 9223372036854775807 then (spec_Write.j2v x0 (x3 ++ (⟨#[66, 69, 71, 73, 78, 32]⟩ : ByteArray)) x4 ((rd_T40 x0 x4).f0) ((rd_T40 x0 x4).f1) ((rd_T40 x0 x4).f2) ((rd_T40 x0 x4).f3) ((rd_T40 x0 x4).f4) ((rd_T40 x0 x4).f5) ((rd_T40 x0 x4).f6) ((rd_T40 x0 x4).f7) ((rd_T40 x0 x4).f8)) else (none)) else (if (rd_T40 x0 x4).f0 = 3 then ((spec_l9E.fv ((rd_T40 x0 x4).f1) ((rd_T40 x0 x4).f2) ((rd_T40 x0 x4).f3) ((rd_T40 x0 x4).f4)).bind fun t31 => (if x3.size + t31.size ≤ 9223372036854775807 then (if (x3 ++ t31).size + (⟨#[32]⟩ : ByteArray).size ≤ 9223372036854775807 then (spec_Write.j2v x0 ((x3 ++ t31) ++ (⟨#[32]⟩ : ByteArray)) x4 ((rd_T40 x0 x4).f0) ((rd_T40 x0 x4).f1) ((rd_T40 x0 x4).f2) ((rd_T40 x0 x4).f3) ((rd_T40 x0 x4).f4) ((rd_T40 x0 x4).f5) ((rd_T40 x0 x4).f6) ((rd_T40 x0 x4).f7) ((rd_T40 x0 x4).f8)) else (none)) else (none))) else (spec_Write.j2v x0 x3 x4 ((rd_T40 x0 x4).f0) ((rd_T40 x0 x4).f1) ((rd_T40 x0 x4).f2) ((rd_T40 x0 x4).f3) ((rd_T40 x0 x4).f4) ((rd_T40 x0 x4).f5) ((rd_T40 x0 x4).f6) ((rd_T40 x0 x4).f7) ((rd_T40 x0 x4).f8)))) else (none)) else (none)) := by
  show lim spec_Write.B (.j0 x0 x3 x4) = _
  rw [lim_eq, spec_Write.B]
  simp only [ev_ite, ev_opt, ev_ask, ev_to, ev_ret, ev_bad]
  try rfl
theorem spec_Write.j1v_eq (x0 : List S40) (x3 : ByteArray) (x4 : Int) (x13 : Bool) : spec_Write.j1v x0 x3 x4 x13 = (if x13 = true then (spec_Write.j0v x0 x3 x4) else (some x3)) := by
  show lim spec_Write.B (.j1 x0 x3 x4 x13) = _
  rw [lim_eq, spec_Write.B]
  simp only [ev_ite, ev_opt, ev_ask, ev_to, ev_ret, ev_bad]
  try rfl
theorem spec_Write.j2v_eq (x0 : List S40) (x3 : ByteArray) (x4 : Int) (x2580_0 : Int) (x2580_1 : Int) (x2580_2 : Int) (x2580_3 : ByteArray) (x2580_4 : List S38) (x2580_5 : Int) (x2580_6 : Int) (x2580_7 : ByteArray) (x2580_8 : List S38) : spec_Write.j2v x0 x3 x4 x2580_0 x2580_1 x2580_2 x2580_3 x2580_4 x2580_5 x2580_6 x2580_7 x2580_8 = ((spec_l9Block.fv x2580_5 x2580_6 x2580_7 x2580_8).bind fun t37 => (if x3.size + t37.size ≤ 9223372036854775807 then (if (x3 ++ t37).size + (⟨#[10]⟩ : ByteArray).size ≤ 9223372036854775807 then (spec_Write.l0v x0 ((x3 ++ t37) ++ (⟨#[10]⟩ : ByteArray)) (wrap64 (x4 + 1))) else (none)) else (none))) := by
  show lim spec_Write.B (.j2 x0 x3 x4 x2580_0 x2580_1 x2580_2 x2580_3 x2580_4 x2580_5 x2580_6 x2580_7 x2580_8) = _
  rw [lim_eq, spec_Write.B]
  simp only [ev_ite, ev_opt, ev_ask, ev_to, ev_ret, ev_bad]
  try rfl
inductive impl_Deep.Q where
  | f (a0_0 : Int) (a0_1 : Int) (a0_2 : ByteArray) (l0_3 : List S38)
  | l0 (x3 : Int) (x7 : List S38) (x8 : Int) (x9 : Int)
def impl_Deep.B : impl_Deep.Q → Pg impl_Deep.Q (fun _ => Int) (Int)
  | .f a0_0 a0_1 a0_2 l0_3 => .to (.l0 0 l0_3 (l0_3.length : Int) 0)
  | .l0 x3 x7 x8 x9 => if x9 < x8 then (if 0 ≤ x9 then (if x9 < (x7.length : Int) then (.ask (.f ((rd_T38 x7 x9).f0) ((rd_T38 x7 x9).f1) ((rd_T38 x7 x9).f2) ((rd_T38 x7 x9).f3)) fun (t15 : Int) => (.to (.l0 (mx x3 t15) x7 x8 (wrap64 (x9 + 1))))) else (.bad)) else (.bad)) else (.ret (wrap64 (x3 + 1)))
def impl_Deep.fv (a0_0 : Int) (a0_1 : Int) (a0_2 : ByteArray) (l0_3 : List S38) : Option (Int) := lim impl_Deep.B (.f a0_0 a0_1 a0_2 l0_3)
def impl_Deep.l0v (x3 : Int) (x7 : List S38) (x8 : Int) (x9 : Int) : Option (Int) := lim impl_Deep.B (.l0 x3 x7 x8 x9)
theorem impl_Deep.fv_eq (a0_0 : Int) (a0_1 : Int) (a0_2 : ByteArray) (l0_3 : List S38) : impl_Deep.fv a0_0 a0_1 a0_2 l0_3 = (impl_Deep.l0v 0 l0_3 (l0_3.length : Int) 0) := by
  show lim impl_Deep.B (.f a0_0 a0_1 a0_2 l0_3) = _
  rw [lim_eq, impl_Deep.B]
  simp only [ev_ite, ev_opt, ev_ask, ev_to, ev_ret, ev_bad]
  try rfl
theorem impl_Deep.l0v_eq (x3 : Int) (x7 : List S38) (x8 : Int) (x9 : Int) : impl_Deep.l0v x3 x7 x8 x9 = (if x9 < x8 then (if 0 ≤ x9 then (if x9 < (x7.length : Int) then ((impl_Deep.fv ((rd_T38 x7 x9).f0) ((rd_T38 x7 x9).f1) ((rd_T38 x7 x9).f2) ((rd_T38 x7 x9).f3)).bind fun t15 => (impl_Deep.l0v (mx x3 t15) x7 x8 (wrap64 (x9 + 1)))) else (none)) else (none)) else (some (wrap64 (x3 + 1)))) := by
  show lim impl_Deep.B (.l0 x3 x7 x8 x9) = _
  rw [lim_eq, impl_Deep.B]
  simp only [ev_ite, ev_opt, ev_ask, ev_to, ev_ret, ev_bad]
  try rfl
def impl_plainNode.f (a0_0 : Int) (a0_1 : Int) (a0_2 : ByteArray) (l0_3 : List S38) : Option (Bool) := if a0_1 = 0 then (some (a0_2.toList == (⟨#[]⟩ : ByteArray).toList)) else (some false)
def impl_in.f (a0 : Int) (a1 : Int) (a2 : Int) : Option (Bool) := if a0 ≥ a1 then (some (decide (a0 ≤ a2))) else (some false)
def impl_tokenText.f (a0 : ByteArray) : Option (Bool) := (strings_Contains.f a0 (⟨#[10]⟩ : ByteArray)).bind fun t4 => (some (!t4))
inductive impl_tokenRex.Q where
  | f (a0 : ByteArray)
  | l0 (x0 : ByteArray) (x3 : Int)
def impl_tokenRex.B : impl_tokenRex.Q → Pg impl_tokenRex.Q (fun _ => Bool) (Bool)
  | .f a0 => .to (.l0 a0 0)
  | .l0 x0 x3 => if x3 < (x0.size : Int) then (if 0 ≤ x3 then (if (bt x0 x3) = 92 then (if (wrap64 (x3 + 1)) = (x0.size : Int) then (.ret false) else (if 0 ≤ (wrap64 (x3 + 1)) then (if (wrap64 (x3 + 1)) < (x0.size : Int) then (if (bt x0 (wrap64 (x3 + 1))) = 47 then (.ret false) else (.to (.l0 x0 ((wrap64 ((wrap64 (x3 + 1)) + 1)))))) else (.bad)) else (.bad))) else (.to (.l0 x0 (wrap64 (x3 + 1))))) else (.bad)) else (.opt (impl_tokenText.f x0) fun t27 => (.ret t27))
def impl_tokenRex.fv (a0 : ByteArray) : Option (Bool) := lim impl_tokenRex.B (.f a0)
def impl_tokenRex.l0v (x0 : ByteArray) (x3 : Int) : Option (Bool) := lim impl_tokenRex.B (.l0 x0 x3)
theorem impl_tokenRex.fv_eq (a0 : ByteArray) : impl_tokenRex.fv a0 = (impl_tokenRex.l0v a0 0) := by
  show lim impl_tokenRex.B (.f a0) = _
  rw [lim_eq, impl_tokenRex.B]
  simp only [ev_ite, ev_opt, ev_ask, ev_to, ev_ret, ev_bad]
  try rfl
theorem impl_tokenRex.l0v_eq (x0 : ByteArray) (x3 : Int) : impl_tokenRex.l0v x0 x3 = (if x3 < (x0.size : Int) then (if 0 ≤ x3 then (if (bt x0 x3) = 92 then (if (wrap64 (x3 + 1)) = (x0.size : Int) then (some false) else (if 0 ≤ (wrap64 (x3 + 1)) then (if (wrap64 (x3 + 1)) < (x0.size : Int) then (if (bt x0 (wrap64 (x3 + 1))) = 47 then (some false) else (impl_tokenRex.l0v x0 ((wrap64 ((wrap64 (x3 + 1)) + 1))))) else (none)) else (none))) else (impl_tokenRex.l0v x0 (wrap64 (x3 + 1)))) else (none)) else ((impl_tokenText.f x0).bind fun t27 => (some t27))) := by
  show lim impl_tokenRex.B (.l0 x0 x3) = _
  rw [lim_eq, impl_tokenRex.B]
  simp only [ev_ite, ev_opt, ev_ask, ev_to, ev_ret, ev_bad]
  try rfl
def impl_isLetter.f (a0 : Int) : Option (Bool) := if a0 ≥ 97 then (if a0 ≤ 122 then (some true) else (if a0 ≥ 65 then (some (decide (a0 ≤ 90))) else (some false))) else (if a0 ≥ 65 then (some (decide (a0 ≤ 90))) else (some false))
inductive impl_lettersAt.Q where
  | f (a0 : ByteArray) (a1 : Int)
  | l0 (x0 : ByteArray) (x1 : Int) (x5 : Int)
def impl_lettersAt.B : impl_lettersAt.Q → Pg impl_lettersAt.Q (fun _ => Int) (Int)
  | .f a0 a1 => .to (.l0 a0 a1 0)
  | .l0 x0 x1 x5 => if (wrap64 (x1 + x5)) < (x0.size : Int) then (if 0 ≤ (wrap64 (x1 + x5)) then (.opt (impl_isLetter.f ((bt x0 (wrap64 (x1 + x5))))) fun t18 => (if t18 = true then (.to (.l0 x0 x1 (wrap64 (x5 + 1)))) else (.ret x5))) else (.bad)) else (.ret x5)
def impl_lettersAt.fv (a0 : ByteArray) (a1 : Int) : Option (Int) := lim impl_lettersAt.B (.f a0 a1)
def impl_lettersAt.l0v (x0 : ByteArray) (x1 : Int) (x5 : Int) : Option (Int) := lim impl_lettersAt.B (.l0 x0 x1 x5)
theorem impl_lettersAt.fv_eq (a0 : ByteArray) (a1 : Int) : impl_lettersAt.fv a0 a1 = (impl_lettersAt.l0v a0 a1 0) := by
  show lim impl_lettersAt.B (.f a0 a1) = _
  rw [lim_eq, impl_lettersAt.B]
  simp only [ev_ite, ev_opt, ev_ask, ev_to, ev_ret, ev_bad]
  try rfl
theorem impl_lettersAt.l0v_eq (x0 : ByteArray) (x1 : Int) (x5 : Int) : impl_lettersAt.l0v x0 x1 x5 = (if (wrap64 (x1 + x5)) < (x0.size : Int) then (if 0 ≤ (wrap64 (x1 + x5)) then ((impl_isLetter.f ((bt x0 (wrap64 (x1 + x5))))).bind fun t18 => (if t18 = true then (impl_lettersAt.l0v x0 x1 (wrap64 (x5 + 1))) else (some x5))) else (none)) else (some x5)) := by
  show lim impl_lettersAt.B (.l0 x0 x1 x5) = _
  rw [lim_eq, impl_lettersAt.B]
  simp only [ev_ite, ev_opt, ev_ask, ev_to, ev_ret, ev_bad]
  try rfl
def impl_calls.f  : Option ((List ByteArray)) := (some ([(⟨#[108, 101, 110, 103, 116, 104]⟩ : ByteArray), (⟨#[115, 117, 98, 115, 116, 114]⟩ : ByteArray), (⟨#[105, 110, 100, 101, 120]⟩ : ByteArray), (⟨#[105, 110, 116]⟩ : ByteArray), (⟨#[117, 112, 112, 101, 114]⟩ : ByteArray), (⟨#[108, 111, 119, 101, 114]⟩ : ByteArray)] : List ByteArray)).bind fun y1_0 => (some y1_0)
inductive slices_Index_string_string.Q where
  | f (l0 : List ByteArray) (a1 : ByteArray)
  | l0 (x0 : List ByteArray) (x1 : ByteArray) (x7 : Int) (x8 : Int)
def slices_Index_string_string.B : slices_Index_string_string.Q → Pg slices_Index_string_string.Q (fun _ => Int) (Int)
  | .f l0 a1 => .to (.l0 l0 a1 (l0.length : Int) 0)
  | .l0 x0 x1 x7 x8 => if x8 < x7 then (if 0 ≤ x8 then (if x8 < (x0.length : Int) then (if x1.toList = (rdOf ByteArray.empty x0 x8).toList then (.ret x8) else (.to (.l0 x0 x1 x7 (wrap64 (x8 + 1))))) else (.bad)) else (.bad)) else (.ret (-1))
def slices_Index_string_string.fv (l0 : List ByteArray) (a1 : ByteArray) : Option (Int) := lim slices_Index_string_string.B (.f l0 a1)
def slices_Index_string_string.l0v (x0 : List ByteArray) (x1 : ByteArray) (x7 : Int) (x8 : Int) : Option (Int) := lim slices_Index_string_string.B (.l0 x0 x1 x7 x8)
theorem slices_Index_string_string.fv_eq (l0 : List ByteArray) (a1 : ByteArray) : slices_Index_string_string.fv l0 a1 = (slices_Index_string_string.l0v l0 a1 (l0.length : Int) 0) := by
  show lim slices_Index_string_string.B (.f l0 a1) = _
  rw [lim_eq, slices_Index_string_string.B]
  simp only [ev_ite, ev_opt, ev_ask, ev_to, ev_ret, ev_bad]
  try rfl
theorem slices_Index_string_string.l0v_eq (x0 : List ByteArray) (x1 : ByteArray) (x7 : Int) (x8 : Int) : slices_Index_string_string.l0v x0 x1 x7 x8 = (if x8 < x7 then (if 0 ≤ x8 then (if x8 < (x0.length : Int) then (if x1.toList = (rdOf ByteArray.empty x0 x8).toList then (some x8) else (slices_Index_string_string.l0v x0 x1 x7 (wrap64 (x8 + 1)))) else (none)) else (none)) else (some (-1))) := by
  show lim slices_Index_string_string.B (.l0 x0 x1 x7 x8) = _
  rw [lim_eq, slices_Index_string_string.B]
  simp only [ev_ite, ev_opt, ev_ask, ev_to, ev_ret, ev_bad]
  try rfl
def slices_Contains_string_string.fv (l0 : List ByteArray) (a1 : ByteArray) : Option (Bool) := (slices_Index_string_string.fv l0 a1).bind fun t7 => (some (decide (t7 ≥ 0)))
theorem slices_Contains_string_string.fv_eq (l0 : List ByteArray) (a1 : ByteArray) : slices_Contains_string_string.fv l0 a1 = ((slices_Index_string_string.fv l0 a1).bind fun t7 => (some (decide (t7 ≥ 0)))) := by rw [slices_Contains_string_string.fv]
inductive impl_Keyword.Q where
  | f (a0 : ByteArray)
  | j0 (x0 : ByteArray) (x4 : Bool)
def impl_Keyword.B : impl_Keyword.Q → Pg impl_Keyword.Q (fun _ => Bool) (Bool)
  | .f a0 => if a0.toList = ([66, 69, 71, 73, 78] : List UInt8) then (.to (.j0 a0 (a0.toList == (⟨#[66, 69, 71, 73, 78]⟩ : ByteArray).toList))) else (if a0.toList = ([112, 114, 105, 110, 116] : List UInt8) then (.to (.j0 a0 (a0.toList == (⟨#[112, 114, 105, 110, 116]⟩ : ByteArray).toList))) else (if a0.toList = ([105, 102] : List UInt8) then (.to (.j0 a0 (a0.toList == (⟨#[105, 102]⟩ : ByteArray).toList))) else (if a0.toList = ([101, 108, 115, 101] : List UInt8) then (.to (.j0 a0 (a0.toList == (⟨#[101, 108, 115, 101]⟩ : ByteArray).toList))) else (if a0.toList = ([119, 104, 105, 108, 101] : List UInt8) then (.to (.j0 a0 (a0.toList == (⟨#[119, 104, 105, 108, 101]⟩ : ByteArray).toList))) else (if a0.toList = ([110, 101, 120, 116] : List UInt8) then (.to (.j0 a0 (a0.toList == (⟨#[110, 101, 120, 116]⟩ : ByteArray).toList))) else (if a0.toList = ([100, 101, 108, 101, 116, 101] : List UInt8) then (.to (.j0 a0 (a0.toList == (⟨#[100, 101, 108, 101, 116, 101]⟩ : ByteArray).toList))) else (if a0.toList = ([78, 82] : List UInt8) then (.to (.j0 a0 (a0.toList == (⟨#[78, 82]⟩ : ByteArray).toList))) else (.to (.j0 a0 (a0.toList == (⟨#[78, 70]⟩ : ByteArray).toList))))))))))
  | .j0 x0 x4 => if x4 = true then (.ret true) else (.opt (impl_calls.f) fun t14 => (.opt (slices_Contains_string_string.fv t14 x0) fun t16 => (.ret t16)))
def impl_Keyword.fv (a0 : ByteArray) : Option (Bool) := lim impl_Keyword.B (.f a0)
def impl_Keyword.j0v (x0 : ByteArray) (x4 : Bool) : Option (Bool) := lim impl_Keyword.B (.j0 x0 x4)
theorem impl_Keyword.fv_eq (a0 : ByteArray) : impl_Keyword.fv a0 = (if a0.toList = ([66, 69, 71, 73, 78] : List UInt8) then (impl_Keyword.j0v a0 (a0.toList == (⟨#[66, 69, 71, 73, 78]⟩ : ByteArray).toList)) else (if a0.toList = ([112, 114, 105, 110, 116] : List UInt8) then (impl_Keyword.j0v a0 (a0.toList == (⟨#[112, 114, 105, 110, 116]⟩ : ByteArray).toList)) else (if a0.toList = ([105, 102] : List UInt8) then (impl_Keyword.j0v a0 (a0.toList == (⟨#[105, 102]⟩ : ByteArray).toList)) else (if a0.toList = ([101, 108, 115, 101] : List UInt8) then (impl_Keyword.j0v a0 (a0.toList == (⟨#[101, 108, 115, 101]⟩ : ByteArray).toList)) else (if a0.toList = ([119, 104, 105, 108, 101] : List UInt8) then (impl_Keyword.j0v a0 (a0.toList == (⟨#[119, 104, 105, 108, 101]⟩ : ByteArray).toList)) else (if a0.toList = ([110, 101, 120, 116] : List UInt8) then (impl_Keyword.j0v a0 (a0.toList == (⟨#[110, 101, 120, 116]⟩ : ByteArray).toList)) else (if a0.toList = ([100, 101, 108, 101, 116, 101] : List UInt8) then (impl_Keyword.j0v a0 (a0.toList == (⟨#[100, 101, 108, 101, 116, 101]⟩ : ByteArray).toList)) else (if a0.toList = ([78, 82] : List UInt8) then (impl_Keyword.j0v a0 (a0.toList == (⟨#[78, 82]⟩ : ByteArray).toList)) else (impl_Keyword.j0v a0 (a0.toList == (⟨#[78, 70]⟩ : ByteArray).toList)))))))))) := by
  show lim impl_Keyword.B (.f a0) = _
  rw [lim_eq, impl_Keyword.B]
  simp only [ev_ite, ev_opt, ev_ask, ev_to, ev_ret, ev_bad]
  try rfl
theorem impl_Keyword.j0v_eq (x0 : ByteArray) (x4 : Bool) : impl_Keyword.j0v x0 x4 = (if x4 = true then (some true) else ((impl_calls.f).bind fun t14 => ((slices_Contains_string_string.fv t14 x0).bind fun t16 => (some t16)))) := by
  show lim impl_Keyword.B (.j0 x0 x4) = _
  rw [lim_eq, impl_Keyword.B]
  simp only [ev_ite, ev_opt, ev_ask, ev_to, ev_ret, ev_bad]
  try rfl
def impl_isName.fv (a0 : ByteArray) : Option (Bool) := (impl_in.f (a0.size : Int) 1 8).bind fun t5 => (if t5 = true then ((impl_lettersAt.fv a0 0).bind fun t8 => (if t8 = (a0.size : Int) then ((impl_Keyword.fv a0).bind fun t15 => (some (!t15))) else (some false))) else (some false))
theorem impl_isName.fv_eq (a0 : ByteArray) : impl_isName.fv a0 = ((impl_in.f (a0.size : Int) 1 8).bind fun t5 => (if t5 = true then ((impl_lettersAt.fv a0 0).bind fun t8 => (if t8 = (a0.size : Int) then ((impl_Keyword.fv a0).bind fun t15 => (some (!t15))) else (some false))) else (some false))) := by rw [impl_isName.fv]
inductive impl_allEs.Q where
  | impl_allEs_f (l0 : List S38)
  | slices_ContainsFunc_impl_Node_impl_Node__impl_allEs_1_f (l0 : List S38)
  | slices_IndexFunc_impl_Node_impl_Node__impl_allEs_1_f (l0 : List S38)
  | slices_IndexFunc_impl_Node_impl_Node__impl_allEs_1_l0 (x0 : List S38) (x7 : Int) (x8 : Int)
  | impl_allEs_1_f (a0_0 : Int) (a0_1 : Int) (a0_2 : ByteArray) (l0_3 : List S38)
  | impl_isE_f (a0_0 : Int) (a0_1 : Int) (a0_2 : ByteArray) (l0_3 : List S38)
  | impl_isE_j0 (x3 : Int) (x9 : Int) (x101 : Bool) (x16_0 : Int) (x16_1 : Int) (x16_2 : ByteArray) (x16_3 : List S38)
  | impl_isE_j1 (x3 : Int) (x9 : Int) (x110 : Bool) (x16_0 : Int) (x16_1 : Int) (x16_2 : ByteArray) (x16_3 : List S38)
  | impl_isE_j2 (x3 : Int) (x9 : Int) (x120 : Bool) (x16_0 : Int) (x16_1 : Int) (x16_2 : ByteArray) (x16_3 : List S38)
abbrev impl_allEs.A : impl_allEs.Q → Type
  | .impl_allEs_f _ => Bool
  | .slices_ContainsFunc_impl_Node_impl_Node__impl_allEs_1_f _ => Bool
  | .slices_IndexFunc_impl_Node_impl_Node__impl_allEs_1_f _ => Int
  | .slices_IndexFunc_impl_Node_impl_Node__impl_allEs_1_l0 _ _ _ => Int
  | .impl_allEs_1_f _ _ _ _ => Bool
  | .impl_isE_f _ _ _ _ => Bool
  | .impl_isE_j0 _ _ _ _ _ _ _ => Bool
  | .impl_isE_j1 _ _ _ _ _ _ _ => Bool
  | .impl_isE_j2 _ _ _ _ _ _ _ => Bool
def impl_allEs.B : (q : impl_allEs.Q) → Pg impl_allEs.Q impl_allEs.A (impl_allEs.A q)
  | .impl_allEs_f l0 => .ask (impl_allEs.Q.slices_ContainsFunc_impl_Node_impl_Node__impl_allEs_1_f l0) fun (t4 : Bool) => (.ret ((!t4) : Bool))
  | .slices_ContainsFunc_impl_Node_impl_Node__impl_allEs_1_f l0 => .ask (impl_allEs.Q.slices_IndexFunc_impl_Node_impl_Node__impl_allEs_1_f l0) fun (t7 : Int) => (.ret ((decide (t7 ≥ 0)) : Bool))
  | .slices_IndexFunc_impl_Node_impl_Node__impl_allEs_1_f l0 => .to (impl_allEs.Q.slices_IndexFunc_impl_Node_impl_Node__impl_allEs_1_l0 l0 (l0.length : Int) 0)
  | .slices_IndexFunc_impl_Node_impl_Node__impl_allEs_1_l0 x0 x7 x8 => if x8 < x7 then (if 0 ≤ x8 then (if x8 < (x0.length : Int) then (.ask (impl_allEs.Q.impl_allEs_1_f ((rd_T38 x0 x8).f0) ((rd_T38 x0 x8).f1) ((rd_T38 x0 x8).f2) ((rd_T38 x0 x8).f3)) fun (t16 : Bool) => (if t16 = true then (.ret (x8 : Int)) else (.to (impl_allEs.Q.slices_IndexFunc_impl_Node_impl_Node__impl_allEs_1_l0 x0 x7 (wrap64 (x8 + 1)))))) else (.bad)) else (.bad)) else (.ret ((-1) : Int))
  | .impl_allEs_1_f a0_0 a0_1 a0_2 l0_3 => .ask (impl_allEs.Q.impl_isE_f a0_0 a0_1 a0_2 l0_3) fun (t4 : Bool) => (.ret ((!t4) : Bool))
  | .impl_isE_f a0_0 a0_1 a0_2 l0_3 => if a0_0 = 1 then (.opt (impl_in.f a0_1 0 9000000000000) fun t35 => (if t35 = true then (if a0_2.toList = ([] : List UInt8) then (if (l0_3.length : Int) = 0 then (.ask (impl_allEs.Q.impl_allEs_f l0_3) fun (t160 : Bool) => (.ret (t160 : Bool))) else (.ret (false : Bool))) else (.ret (false : Bool))) else (.ret (false : Bool)))) else (if a0_0 = 2 then (if a0_1 = 0 then (.opt (impl_tokenText.f a0_2) fun t53 => (if t53 = true then (if (l0_3.length : Int) = 0 then (.ask (impl_allEs.Q.impl_allEs_f l0_3) fun (t160 : Bool) => (.ret (t160 : Bool))) else (.ret (false : Bool))) else (.ret (false : Bool)))) else (.ret (false : Bool))) else (if a0_0 = 3 then (if a0_1 = 0 then (.opt (impl_tokenRex.fv a0_2) fun t67 => (if t67 = true then (if (l0_3.length : Int) = 0 then (.ask (impl_allEs.Q.impl_allEs_f l0_3) fun (t160 : Bool) => (.ret (t160 : Bool))) else (.ret (false : Bool))) else (.ret (false : Bool)))) else (.ret (false : Bool))) else (if a0_0 = 4 then (if a0_1 = 0 then (.opt (impl_isName.fv a0_2) fun t81 => (if t81 = true then (if (l0_3.length : Int) = 0 then (.ask (impl_allEs.Q.impl_allEs_f l0_3) fun (t160 : Bool) => (.ret (t160 : Bool))) else (.ret (false : Bool))) else (.ret (false : Bool)))) else (.ret (false : Bool))) else (if a0_0 = 5 then (if a0_1 = 0 then (.opt (impl_isName.fv a0_2) fun t95 => (if t95 = true then (if (l0_3.length : Int) = 1 then (.ask (impl_allEs.Q.impl_allEs_f l0_3) fun (t160 : Bool) => (.ret (t160 : Bool))) else (.ret (false : Bool))) else (.ret (false : Bool)))) else (.ret (false : Bool))) else (if a0_0 = 7 then (.to (impl_allEs.Q.impl_isE_j0 (l0_3.length : Int) a0_0 (a0_0 == 7) a0_0 a0_1 a0_2 l0_3)) else (.to (impl_allEs.Q.impl_isE_j0 (l0_3.length : Int) a0_0 (a0_0 == 8) a0_0 a0_1 a0_2 l0_3)))))))
  | .impl_isE_j0 x3 x9 x101 x16_0 x16_1 x16_2 x16_3 => if x101 = true then (.opt (impl_plainNode.f x16_0 x16_1 x16_2 x16_3) fun t105 => (if t105 = true then (if x3 = 0 then (.ask (impl_allEs.Q.impl_allEs_f x16_3) fun (t160 : Bool) => (.ret (t160 : Bool))) else (.ret (false : Bool))) else (.ret (false : Bool)))) else (if x9 = 6 then (.to (impl_allEs.Q.impl_isE_j1 x3 x9 (x9 == 6) x16_0 x16_1 x16_2 x16_3)) else (if x9 = 22 then (.to (impl_allEs.Q.impl_isE_j1 x3 x9 (x9 == 22) x16_0 x16_1 x16_2 x16_3)) else (.to (impl_allEs.Q.impl_isE_j1 x3 x9 (x9 == 23) x16_0 x16_1 x16_2 x16_3))))
  | .impl_isE_j1 x3 x9 x110 x16_0 x16_1 x16_2 x16_3 => if x110 = true then (.opt (impl_plainNode.f x16_0 x16_1 x16_2 x16_3) fun t115 => (if t115 = true then (if x3 = 1 then (.ask (impl_allEs.Q.impl_allEs_f x16_3) fun (t160 : Bool) => (.ret (t160 : Bool))) else (.ret (false : Bool))) else (.ret (false : Bool)))) else (if x9 = 26 then (.to (impl_allEs.Q.impl_isE_j2 x3 x9 (x9 == 26) x16_0 x16_1 x16_2 x16_3)) else (.to (impl_allEs.Q.impl_isE_j2 x3 x9 (x9 == 27) x16_0 x16_1 x16_2 x16_3)))
  | .impl_isE_j2 x3 x9 x120 x16_0 x16_1 x16_2 x16_3 => if x120 = true then (.opt (impl_plainNode.f x16_0 x16_1 x16_2 x16_3) fun t124 => (if t124 = true then (if x3 = 2 then (if 0 < (x16_3.length : Int) then (if (rd_T38 x16_3 0).f0 = 4 then (.ask (impl_allEs.Q.impl_allEs_f x16_3) fun (t160 : Bool) => (.ret (t160 : Bool))) else (if (rd_T38 x16_3 0).f0 = 5 then (.ask (impl_allEs.Q.impl_allEs_f x16_3) fun (t160 : Bool) => (.ret (t160 : Bool))) else (.ret (false : Bool)))) else (.bad)) else (.ret (false : Bool))) else (.ret (false : Bool)))) else (if x9 = 28 then (if x16_1 = 0 then (.opt (impl_calls.f) fun t151 => (.opt (slices_Contains_string_string.fv t151 x16_2) fun t154 => (if t154 = true then (.ask (impl_allEs.Q.impl_allEs_f x16_3) fun (t160 : Bool) => (.ret (t160 : Bool))) else (.ret (false : Bool))))) else (.ret (false : Bool))) else (.opt (impl_in.f x16_0 9 21) fun t12 => (if t12 = true then (.opt (impl_plainNode.f x16_0 x16_1 x16_2 x16_3) fun t25 => (if t25 = true then (if x3 = 2 then (.ask (impl_allEs.Q.impl_allEs_f x16_3) fun (t160 : Bool) => (.ret (t160 : Bool))) else (.ret (false : Bool))) else (.ret (false : Bool)))) else (if x16_0 = 24 then (.opt (impl_plainNode.f x16_0 x16_1 x16_2 x16_3) fun t25 => (if t25 = true then (if x3 = 2 then (.ask (impl_allEs.Q.impl_allEs_f x16_3) fun (t160 : Bool) => (.ret (t160 : Bool))) else (.ret (false : Bool))) else (.ret (false : Bool)))) else (if x16_0 = 25 then (.opt (impl_plainNode.f x16_0 x16_1 x16_2 x16_3) fun t25 => (if t25 = true then (if x3 = 2 then (.ask (impl_allEs.Q.impl_allEs_f x16_3) fun (t160 : Bool) => (.ret (t160 : Bool))) else (.ret (false : Bool))) else (.ret (false : Bool)))) else (.ret (false : Bool)))))))
def impl_allEs.fv (l0 : List S38) : Option (Bool) := lim impl_allEs.B (.impl_allEs_f l0)
def slices_ContainsFunc_impl_Node_impl_Node__impl_allEs_1.fv (l0 : List S38) : Option (Bool) := lim impl_allEs.B (.slices_ContainsFunc_impl_Node_impl_Node__impl_allEs_1_f l0)
def slices_IndexFunc_impl_Node_impl_Node__impl_allEs_1.fv (l0 : List S38) : Option (Int) := lim impl_allEs.B (.slices_IndexFunc_impl_Node_impl_Node__impl_allEs_1_f l0)
def slices_IndexFunc_impl_Node_impl_Node__impl_allEs_1.l0v (x0 : List S38) (x7 : Int) (x8 : Int) : Option (Int) := lim impl_allEs.B (.slices_IndexFunc_impl_Node_impl_Node__impl_allEs_1_l0 x0 x7 x8)
def impl_allEs_1.fv (a0_0 : Int) (a0_1 : Int) (a0_2 : ByteArray) (l0_3 : List S38) : Option (Bool) := lim impl_allEs.B (.impl_allEs_1_f a0_0 a0_1 a0_2 l0_3)
def impl_isE.fv (a0_0 : Int) (a0_1 : Int) (a0_2 : ByteArray) (l0_3 : List S38) : Option (Bool) := lim impl_allEs.B (.impl_isE_f a0_0 a0_1 a0_2 l0_3)
def impl_isE.j0v (x3 : Int) (x9 : Int) (x101 : Bool) (x16_0 : Int) (x16_1 : Int) (x16_2 : ByteArray) (x16_3 : List S38) : Option (Bool) := lim impl_allEs.B (.impl_isE_j0 x3 x9 x101 x16_0 x16_1 x16_2 x16_3)
def impl_isE.j1v (x3 : Int) (x9 : Int) (x110 : Bool) (x16_0 : Int) (x16_1 : Int) (x16_2 : ByteArray) (x16_3 : List S38) : Option (Bool) := lim impl_allEs.B (.impl_isE_j1 x3 x9 x110 x16_0 x16_1 x16_2 x16_3)
def impl_isE.j2v (x3 : Int) (x9 : Int) (x120 : Bool) (x16_0 : Int) (x16_1 : Int) (x16_2 : ByteArray) (x16_3 : List S38) : Option (Bool) := lim impl_allEs.B (.impl_isE_j2 x3 x9 x120 x16_0 x16_1 x16_2 x16_3)
theorem impl_allEs.fv_eq (l0 : List S38) : impl_allEs.fv l0 = ((slices_ContainsFunc_impl_Node_impl_Node__impl_allEs_1.fv l0).bind fun t4 => (some (!t4))) := by
  show lim impl_allEs.B (.impl_allEs_f l0) = _
  rw [lim_eq, impl_allEs.B]
  simp only [ev_ite, ev_opt, ev_ask, ev_to, ev_ret, ev_bad]
  try rfl
theorem slices_ContainsFunc_impl_Node_impl_Node__impl_allEs_1.fv_eq (l0 : List S38) : slices_ContainsFunc_impl_Node_impl_Node__impl_allEs_1.fv l0 = ((slices_IndexFunc_impl_Node_impl_Node__impl_allEs_1.fv l0).bind fun t7 => (some (decide (t7 ≥ 0)))) := by
  show lim impl_allEs.B (.slices_ContainsFunc_impl_Node_impl_Node__impl_allEs_1_f l0) = _
  rw [lim_eq, impl_allEs.B]
  simp only [ev_ite, ev_opt, ev_ask, ev_to, ev_ret, ev_bad]
  try rfl
theorem slices_IndexFunc_impl_Node_impl_Node__impl_allEs_1.fv_eq (l0 : List S38) : slices_IndexFunc_impl_Node_impl_Node__impl_allEs_1.fv l0 = (slices_IndexFunc_impl_Node_impl_Node__impl_allEs_1.l0v l0 (l0.length : Int) 0) := by
  show lim impl_allEs.B (.slices_IndexFunc_impl_Node_impl_Node__impl_allEs_1_f l0) = _
  rw [lim_eq, impl_allEs.B]
  simp only [ev_ite, ev_opt, ev_ask, ev_to, ev_ret, ev_bad]
  try rfl
theorem slices_IndexFunc_impl_Node_impl_Node__impl_allEs_1.l0v_eq (x0 : List S38) (x7 : Int) (x8 : Int) : slices_IndexFunc_impl_Node_impl_Node__impl_allEs_1.l0v x0 x7 x8 = (if x8 < x7 then (if 0 ≤ x8 then (if x8 < (x0.length : Int) then ((impl_allEs_1.fv ((rd_T38 x0 x8).f0) ((rd_T38 x0 x8).f1) ((rd_T38 x0 x8).f2) ((rd_T38 x0 x8).f3)).bind fun t16 => (if t16 = true then (some x8) else (slices_IndexFunc_impl_Node_impl_Node__impl_allEs_1.l0v x0 x7 (wrap64 (x8 + 1))))) else (none)) else (none)) else (some (-1))) := by
  show lim impl_allEs.B (.slices_IndexFunc_impl_Node_impl_Node__impl_allEs_1_l0 x0 x7 x8) = _
  rw [lim_eq, impl_allEs.B]
  simp only [ev_ite, ev_opt, ev_ask, ev_to, ev_ret, ev_bad]
  try rfl
theorem impl_allEs_1.fv_eq (a0_0 : Int) (a0_1 : Int) (a0_2 : ByteArray) (l0_3 : List S38) : impl_allEs_1.fv a0_0 a0_1 a0_2 l0_3 = ((impl_isE.fv a0_0 a0_1 a0_2 l0_3).bind fun t4 => (some (!t4))) := by
  show lim impl_allEs.B (.impl_allEs_1_f a0_0 a0_1 a0_2 l0_3) = _
  rw [lim_eq, impl_allEs.B]
  simp only [ev_ite, ev_opt, ev_ask, ev_to, ev_ret, ev_bad]
  try rfl
theorem impl_isE.fv_eq (a0_0 : Int) (a0_1 : Int) (a0_2 : ByteArray) (l0_3 : List S38) : impl_isE.fv a0_0 a0_1 a0_2 l0_3 = (if a0_0 = 1 then ((impl_in.f a0_1 0 9000000000000).bind fun t35 => (if t35 = true then (if a0_2.toList = ([] : List UInt8) then (if (l0_3.length : Int) = 0 then ((impl_allEs.fv l0_3).bind fun t160 => (some t160)) else (some false)) else (some false)) else (some false))) else (if a0_0 = 2 then (if a0_1 = 0 then ((impl_tokenText.f a0_2).bind fun t53 => (if t53 = true then (if (l0_3.length : Int) = 0 then ((impl_allEs.fv l0_3).bind fun t160 => (some t160)) else (some false)) else (some false))) else (some false)) else (if a0_0 = 3 then (if a0_1 = 0 then ((impl_tokenRex.fv a0_2).bind fun t67 => (if t67 = true then (if (l0_3.length : Int) = 0 then ((impl_allEs.fv l0_3).bind fun t160 => (some t160)) else (some false)) else (some false))) else (some false)) else (if a0_0 = 4 then (if a0_1 = 0 then ((impl_isName.fv a0_2).bind fun t81 => (if t81 = true then (if (l0_3.length : Int) = 0 then ((impl_allEs.fv l0_3).bind fun t160 => (some t160)) else (some false)) else (some false))) else (some false)) else (if a0_0 = 5 then (if a0_1 = 0 then ((impl_isName.fv a0_2).bind fun t95 => (if t95 = true then (if (l0_3.length : Int) = 1 then ((impl_allEs.fv l0_3).bind fun t160 => (some t160)) else (some false)) else (some false))) else (some false)) else (if a0_0 = 7 then (impl_isE.j0v (l0_3.length : Int) a0_0 (a0_0 == 7) a0_0 a0_1 a0_2 l0_3) else (impl_isE.j0v (l0_3.length : Int) a0_0 (a0_0 == 8) a0_0 a0_1 a0_2 l0_3))))))) := by
  show lim impl_allEs.B (.impl_isE_f a0_0 a0_1 a0_2 l0_3) = _
  rw [lim_eq, impl_allEs.B]
  simp only [ev_ite, ev_opt, ev_ask, ev_to, ev_ret, ev_bad]
  try rfl
theorem impl_isE.j0v_eq (x3 : Int) (x9 : Int) (x101 : Bool) (x16_0 : Int) (x16_1 : Int) (x16_2 : ByteArray) (x16_3 : List S38) : impl_isE.j0v x3 x9 x101 x16_0 x16_1 x16_2 x16_3 = (if x101 = true then ((impl_plainNode.f x16_0 x16_1 x16_2 x16_3).bind fun t105 => (if t105 = true then (if x3 = 0 then ((impl_allEs.fv x16_3).bind fun t160 => (some t160)) else (some false)) else (some false))) else (if x9 = 6 then (impl_isE.j1v x3 x9 (x9 == 6) x16_0 x16_1 x16_2 x16_3) else (if x9 = 22 then (impl_isE.j1v x3 x9 (x9 == 22) x16_0 x16_1 x16_2 x16_3) else (impl_isE.j1v x3 x9 (x9 == 23) x16_0 x16_1 x16_2 x16_3)))) := by
  show lim impl_allEs.B (.impl_isE_j0 x3 x9 x101 x16_0 x16_1 x16_2 x16_3) = _
  rw [lim_eq, impl_allEs.B]
  simp only [ev_ite, ev_opt, ev_ask, ev_to, ev_ret, ev_bad]
  try rfl
theorem impl_isE.j1v_eq (x3 : Int) (x9 : Int) (x110 : Bool) (x16_0 : Int) (x16_1 : Int) (x16_2 : ByteArray) (x16_3 : List S38) : impl_isE.j1v x3 x9 x110 x16_0 x16_1 x16_2 x16_3 = (if x110 = true then ((impl_plainNode.f x16_0 x16_1 x16_2 x16_3).bind fun t115 => (if t115 = true then (if x3 = 1 then ((impl_allEs.fv x16_3).bind fun t160 => (some t160)) else (some false)) else (some false))) else (if x9 = 26 then (impl_isE.j2v x3 x9 (x9 == 26) x16_0 x16_1 x16_2 x16_3) else (impl_isE.j2v x3 x9 (x9 == 27) x16_0 x16_1 x16_2 x16_3))) := by
  show lim impl_allEs.B (.impl_isE_j1 x3 x9 x110 x16_0 x16_1 x16_2 x16_3) = _
  rw [lim_eq, impl_allEs.B]
  simp only [ev_ite, ev_opt, ev_ask, ev_to, ev_ret, ev_bad]
  try rfl
theorem impl_isE.j2v_eq (x3 : Int) (x9 : Int) (x120 : Bool) (x16_0 : Int) (x16_1 : Int) (x16_2 : ByteArray) (x16_3 : List S38) : impl_isE.j2v x3 x9 x120 x16_0 x16_1 x16_2 x16_3 = (if x120 = true then ((impl_plainNode.f x16_0 x16_1 x16_2 x16_3).bind fun t124 => (if t124 = true then (if x3 = 2 then (if 0 < (x16_3.length : Int) then (if (rd_T38 x16_3 0).f0 = 4 then ((impl_allEs.fv x16_3).bind fun t160 => (some t160)) else (if (rd_T38 x16_3 0).f0 = 5 then ((impl_allEs.fv x16_3).bind fun t160 => (some t160)) else (some false))) else (none)) else (some false)) else (some false))) else (if x9 = 28 then (if x16_1 = 0 then ((impl_calls.f).bind fun t151 => ((slices_Contains_string_string.fv t151 x16_2).bind fun t154 => (if t154 = true then ((impl_allEs.fv x16_3).bind fun t160 => (some t160)) else (some false)))) else (some false)) else ((impl_in.f x16_0 9 21).bind fun t12 => (if t12 = true then ((impl_plainNode.f x16_0 x16_1 x16_2 x16_3).bind fun t25 => (if t25 = true then (if x3 = 2 then ((impl_allEs.fv x16_3).bind fun t160 => (some t160)) else (some false)) else (some false))) else (if x16_0 = 24 then ((impl_plainNode.f x16_0 x16_1 x16_2 x16_3).bind fun t25 => (if t25 = true then (if x3 = 2 then ((impl_allEs.fv x16_3).bind fun t160 => (some t160)) else (some false)) else (some false))) else (if x16_0 = 25 then ((impl_plainNode.f x16_0 x16_1 x16_2 x16_3).bind fun t25 => (if t25 = true then (if x3 = 2 then ((impl_allEs.fv x16_3).bind fun t160 => (some t160)) else (some false)) else (some false))) else (some false))))))) := by
  show lim impl_allEs.B (.impl_isE_j2 x3 x9 x120 x16_0 x16_1 x16_2 x16_3) = _
  rw [lim_eq, impl_allEs.B]
  simp only [ev_ite, ev_opt, ev_ask, ev_to, ev_ret, ev_bad]
  try rfl
inductive impl_isBlock.Q where
  | impl_isBlock_f (a0_0 : Int) (a0_1 : Int) (a0_2 : ByteArray) (l0_3 : List S38)
  | slices_ContainsFunc_impl_Node_impl_Node__impl_isBlock_1_f (l0 : List S38)
  | slices_IndexFunc_impl_Node_impl_Node__impl_isBlock_1_f (l0 : List S38)
  | slices_IndexFunc_impl_Node_impl_Node__impl_isBlock_1_l0 (x0 : List S38) (x7 : Int) (x8 : Int)
  | impl_isBlock_1_f (a0_0 : Int) (a0_1 : Int) (a0_2 : ByteArray) (l0_3 : List S38)
  | impl_isStatement_f (a0_0 : Int) (a0_1 : Int) (a0_2 : ByteArray) (l0_3 : List S38)
abbrev impl_isBlock.A : impl_isBlock.Q → Type
  | .impl_isBlock_f _ _ _ _ => Bool
  | .slices_ContainsFunc_impl_Node_impl_Node__impl_isBlock_1_f _ => Bool
  | .slices_IndexFunc_impl_Node_impl_Node__impl_isBlock_1_f _ => Int
  | .slices_IndexFunc_impl_Node_impl_Node__impl_isBlock_1_l0 _ _ _ => Int
  | .impl_isBlock_1_f _ _ _ _ => Bool
  | .impl_isStatement_f _ _ _ _ => Bool
def impl_isBlock.B : (q : impl_isBlock.Q) → Pg impl_isBlock.Q impl_isBlock.A (impl_isBlock.A q)
  | .impl_isBlock_f a0_0 a0_1 a0_2 l0_3 => if a0_0 = 29 then (.opt (impl_plainNode.f a0_0 a0_1 a0_2 l0_3) fun t8 => (if t8 = true then (.ask (impl_isBlock.Q.slices_ContainsFunc_impl_Node_impl_Node__impl_isBlock_1_f l0_3) fun (t13 : Bool) => (.ret ((!t13) : Bool))) else (.ret (false : Bool)))) else (.ret (false : Bool))
  | .slices_ContainsFunc_impl_Node_impl_Node__impl_isBlock_1_f l0 => .ask (impl_isBlock.Q.slices_IndexFunc_impl_Node_impl_Node__impl_isBlock_1_f l0) fun (t7 : Int) => (.ret ((decide (t7 ≥ 0)) : Bool))
  | .slices_IndexFunc_impl_Node_impl_Node__impl_isBlock_1_f l0 => .to (impl_isBlock.Q.slices_IndexFunc_impl_Node_impl_Node__impl_isBlock_1_l0 l0 (l0.length : Int) 0)
  | .slices_IndexFunc_impl_Node_impl_Node__impl_isBlock_1_l0 x0 x7 x8 => if x8 < x7 then (if 0 ≤ x8 then (if x8 < (x0.length : Int) then (.ask (impl_isBlock.Q.impl_isBlock_1_f ((rd_T38 x0 x8).f0) ((rd_T38 x0 x8).f1) ((rd_T38 x0 x8).f2) ((rd_T38 x0 x8).f3)) fun (t16 : Bool) => (if t16 = true then (.ret (x8 : Int)) else (.to (impl_isBlock.Q.slices_IndexFunc_impl_Node_impl_Node__impl_isBlock_1_l0 x0 x7 (wrap64 (x8 + 1)))))) else (.bad)) else (.bad)) else (.ret ((-1) : Int))
  | .impl_isBlock_1_f a0_0 a0_1 a0_2 l0_3 => .ask (impl_isBlock.Q.impl_isStatement_f a0_0 a0_1 a0_2 l0_3) fun (t4 : Bool) => (.ret ((!t4) : Bool))
  | .impl_isStatement_f a0_0 a0_1 a0_2 l0_3 => if a0_0 = 29 then (.ask (impl_isBlock.Q.impl_isBlock_f a0_0 a0_1 a0_2 l0_3) fun (t12 : Bool) => (.ret (t12 : Bool))) else (if a0_0 = 30 then (.opt (impl_plainNode.f a0_0 a0_1 a0_2 l0_3) fun t16 => (if t16 = true then (.opt (impl_allEs.fv l0_3) fun t20 => (.ret (t20 : Bool))) else (.ret (false : Bool)))) else (if a0_0 = 31 then (.opt (impl_plainNode.f a0_0 a0_1 a0_2 l0_3) fun t25 => (if t25 = true then (.opt (impl_in.f (l0_3.length : Int) 2 3) fun t28 => (if t28 = true then (if 0 < (l0_3.length : Int) then (.opt (impl_isE.fv ((rd_T38 l0_3 0).f0) ((rd_T38 l0_3 0).f1) ((rd_T38 l0_3 0).f2) ((rd_T38 l0_3 0).f3)) fun t35 => (if t35 = true then (if 1 < (l0_3.length : Int) then (.ask (impl_isBlock.Q.impl_isBlock_f ((rd_T38 l0_3 1).f0) ((rd_T38 l0_3 1).f1) ((rd_T38 l0_3 1).f2) ((rd_T38 l0_3 1).f3)) fun (t42 : Bool) => (if t42 = true then (if 0 ≤ (wrap64 ((l0_3.length : Int) - 1)) then (if (wrap64 ((l0_3.length : Int) - 1)) < (l0_3.length : Int) then (.ask (impl_isBlock.Q.impl_isBlock_f ((rd_T38 l0_3 (wrap64 ((l0_3.length : Int) - 1))).f0) ((rd_T38 l0_3 (wrap64 ((l0_3.length : Int) - 1))).f1) ((rd_T38 l0_3 (wrap64 ((l0_3.length : Int) - 1))).f2) ((rd_T38 l0_3 (wrap64 ((l0_3.length : Int) - 1))).f3)) fun (t51 : Bool) => (.ret (t51 : Bool))) else (.bad)) else (.bad)) else (.ret (false : Bool)))) else (.bad)) else (.ret (false : Bool)))) else (.bad)) else (.ret (false : Bool)))) else (.ret (false : Bool)))) else (if a0_0 = 32 then (.opt (impl_plainNode.f a0_0 a0_1 a0_2 l0_3) fun t56 => (if t56 = true then (if (l0_3.length : Int) = 2 then (if 0 < (l0_3.length : Int) then (.opt (impl_isE.fv ((rd_T38 l0_3 0).f0) ((rd_T38 l0_3 0).f1) ((rd_T38 l0_3 0).f2) ((rd_T38 l0_3 0).f3)) fun t66 => (if t66 = true then (if 1 < (l0_3.length : Int) then (.ask (impl_isBlock.Q.impl_isBlock_f ((rd_T38 l0_3 1).f0) ((rd_T38 l0_3 1).f1) ((rd_T38 l0_3 1).f2) ((rd_T38 l0_3 1).f3)) fun (t73 : Bool) => (.ret (t73 : Bool))) else (.bad)) else (.ret (false : Bool)))) else (.bad)) else (.ret (false : Bool))) else (.ret (false : Bool)))) else (if a0_0 = 33 then (.opt (impl_plainNode.f a0_0 a0_1 a0_2 l0_3) fun t78 => (if t78 = true then (.ret (((l0_3.length : Int) == 0) : Bool)) else (.ret (false : Bool)))) else (if a0_0 = 34 then (if a0_1 = 0 then (.opt (impl_isName.fv a0_2) fun t91 => (if t91 = true then (if (l0_3.length : Int) = 1 then (if 0 < (l0_3.length : Int) then (.opt (impl_isE.fv ((rd_T38 l0_3 0).f0) ((rd_T38 l0_3 0).f1) ((rd_T38 l0_3 0).f2) ((rd_T38 l0_3 0).f3)) fun t102 => (.ret (t102 : Bool))) else (.bad)) else (.ret (false : Bool))) else (.ret (false : Bool)))) else (.ret (false : Bool))) else (if a0_0 = 35 then (.opt (impl_plainNode.f a0_0 a0_1 a0_2 l0_3) fun t107 => (if t107 = true then (if (l0_3.length : Int) = 1 then (if 0 < (l0_3.length : Int) then (.opt (impl_isE.fv ((rd_T38 l0_3 0).f0) ((rd_T38 l0_3 0).f1) ((rd_T38 l0_3 0).f2) ((rd_T38 l0_3 0).f3)) fun t117 => (.ret (t117 : Bool))) else (.bad)) else (.ret (false : Bool))) else (.ret (false : Bool)))) else (.ret (false : Bool))))))))
def impl_isBlock.fv (a0_0 : Int) (a0_1 : Int) (a0_2 : ByteArray) (l0_3 : List S38) : Option (Bool) := lim impl_isBlock.B (.impl_isBlock_f a0_0 a0_1 a0_2 l0_3)
def slices_ContainsFunc_impl_Node_impl_Node__impl_isBlock_1.fv (l0 : List S38) : Option (Bool) := lim impl_isBlock.B (.slices_ContainsFunc_impl_Node_impl_Node__impl_isBlock_1_f l0)
def slices_IndexFunc_impl_Node_impl_Node__impl_isBlock_1.fv (l0 : List S38) : Option (Int) := lim impl_isBlock.B (.slices_IndexFunc_impl_Node_impl_Node__impl_isBlock_1_f l0)
def slices_IndexFunc_impl_Node_impl_Node__impl_isBlock_1.l0v (x0 : List S38) (x7 : Int) (x8 : Int) : Option (Int) := lim impl_isBlock.B (.slices_IndexFunc_impl_Node_impl_Node__impl_isBlock_1_l0 x0 x7 x8)
def impl_isBlock_1.fv (a0_0 : Int) (a0_1 : Int) (a0_2 : ByteArray) (l0_3 : List S38) : Option (Bool) := lim impl_isBlock.B (.impl_isBlock_1_f a0_0 a0_1 a0_2 l0_3)
def impl_isStatement.fv (a0_0 : Int) (a0_1 : Int) (a0_2 : ByteArray) (l0_3 : List S38) : Option (Bool) := lim impl_isBlock.B (.impl_isStatement_f a0_0 a0_1 a0_2 l0_3)
theorem impl_isBlock.fv_eq (a0_0 : Int) (a0_1 : Int) (a0_2 : ByteArray) (l0_3 : List S38) : impl_isBlock.fv a0_0 a0_1 a0_2 l0_3 = (if a0_0 = 29 then ((impl_plainNode.f a0_0 a0_1 a0_2 l0_3).bind fun t8 => (if t8 = true then ((slices_ContainsFunc_impl_Node_impl_Node__impl_isBlock_1.fv l0_3).bind fun t13 => (some (!t13))) else (some false))) else (some false)) := by
  show lim impl_isBlock.B (.impl_isBlock_f a0_0 a0_1 a0_2 l0_3) = _
  rw [lim_eq, impl_isBlock.B]
  simp only [ev_ite, ev_opt, ev_ask, ev_to, ev_ret, ev_bad]
  try rfl
theorem slices_ContainsFunc_impl_Node_impl_Node__impl_isBlock_1.fv_eq (l0 : List S38) : slices_ContainsFunc_impl_Node_impl_Node__impl_isBlock_1.fv l0 = ((slices_IndexFunc_impl_Node_impl_Node__impl_isBlock_1.fv l0).bind fun t7 => (some (decide (t7 ≥ 0)))) := by
  show lim impl_isBlock.B (.slices_ContainsFunc_impl_Node_impl_Node__impl_isBlock_1_f l0) = _
  rw [lim_eq, impl_isBlock.B]
  simp only [ev_ite, ev_opt, ev_ask, ev_to, ev_ret, ev_bad]
  try rfl
theorem slices_IndexFunc_impl_Node_impl_Node__impl_isBlock_1.fv_eq (l0 : List S38) : slices_IndexFunc_impl_Node_impl_Node__impl_isBlock_1.fv l0 = (slices_IndexFunc_impl_Node_impl_Node__impl_isBlock_1.l0v l0 (l0.length : Int) 0) := by
  show lim impl_isBlock.B (.slices_IndexFunc_impl_Node_impl_Node__impl_isBlock_1_f l0) = _
  rw [lim_eq, impl_isBlock.B]
  simp only [ev_ite, ev_opt, ev_ask, ev_to, ev_ret, ev_bad]
  try rfl
theorem slices_IndexFunc_impl_Node_impl_Node__impl_isBlock_1.l0v_eq (x0 : List S38) (x7 : Int) (x8 : Int) : slices_IndexFunc_impl_Node_impl_Node__impl_isBlock_1.l0v x0 x7 x8 = (if x8 < x7 then (if 0 ≤ x8 then (if x8 < (x0.length : Int) then ((impl_isBlock_1.fv ((rd_T38 x0 x8).f0) ((rd_T38 x0 x8).f1) ((rd_T38 x0 x8).f2) ((rd_T38 x0 x8).f3)).bind fun t16 => (if t16 = true then (some x8) else (slices_IndexFunc_impl_Node_impl_Node__impl_isBlock_1.l0v x0 x7 (wrap64 (x8 + 1))))) else (none)) else (none)) else (some (-1))) := by
  show lim impl_isBlock.B (.slices_IndexFunc_impl_Node_impl_Node__impl_isBlock_1_l0 x0 x7 x8) = _
  rw [lim_eq, impl_isBlock.B]
  simp only [ev_ite, ev_opt, ev_ask, ev_to, ev_ret, ev_bad]
  try rfl
theorem impl_isBlock_1.fv_eq (a0_0 : Int) (a0_1 : Int) (a0_2 : ByteArray) (l0_3 : List S38) : impl_isBlock_1.fv a0_0 a0_1 a0_2 l0_3 = ((impl_isStatement.fv a0_0 a0_1 a0_2 l0_3).bind fun t4 => (some (!t4))) := by
  show lim impl_isBlock.B (.impl_isBlock_1_f a0_0 a0_1 a0_2 l0_3) = _
  rw [lim_eq, impl_isBlock.B]
  simp only [ev_ite, ev_opt, ev_ask, ev_to, ev_ret, ev_bad]
  try rfl
theorem impl_isStatement.fv_eq (a0_0 : Int) (a0_1 : Int) (a0_2 : ByteArray) (l0_3 : List S38) : impl_isStatement.fv a0_0 a0_1 a0_2 l0_3 = (if a0_0 = 29 then ((impl_isBlock.fv a0_0 a0_1 a0_2 l0_3).bind fun t12 => (some t12)) else (if a0_0 = 30 then ((impl_plainNode.f a0_0 a0_1 a0_2 l0_3).bind fun t16 => (if t16 = true then ((impl_allEs.fv l0_3).bind fun t20 => (some t20)) else (some false))) else (if a0_0 = 31 then ((impl_plainNode.f a0_0 a0_1 a0_2 l0_3).bind fun t25 => (if t25 = true then ((impl_in.f (l0_3.length : Int) 2 3).bind fun t28 => (if t28 = true then (if 0 < (l0_3.length : Int) then ((impl_isE.fv ((rd_T38 l0_3 0).f0) ((rd_T38 l0_3 0).f1) ((rd_T38 l0_3 0).f2) ((rd_T38 l0_3 0).f3)).bind fun t35 => (if t35 = true then (if 1 < (l0_3.length : Int) then ((impl_isBlock.fv ((rd_T38 l0_3 1).f0) ((rd_T38 l0_3 1).f1) ((rd_T38 l0_3 1).f2) ((rd_T38 l0_3 1).f3)).bind fun t42 => (if t42 = true then (if 0 ≤ (wrap64 ((l0_3.length : Int) - 1)) then (if (wrap64 ((l0_3.length : Int) - 1)) < (l0_3.length : Int) then ((impl_isBlock.fv ((rd_T38 l0_3 (wrap64 ((l0_3.length : Int) - 1))).f0) ((rd_T38 l0_3 (wrap64 ((l0_3.length : Int) - 1))).f1) ((rd_T38 l0_3 (wrap64 ((l0_3.length : Int) - 1))).f2) ((rd_T38 l0_3 (wrap64 ((l0_3.length : Int) - 1))).f3)).bind fun t51 => (some t51)) else (none)) else (none)) else (some false))) else (none)) else (some false))) else (none)) else (some false))) else (some false))) else (if a0_0 = 32 then ((impl_plainNode.f a0_0 a0_1 a0_2 l0_3).bind fun t56 => (if t56 = true then (if (l0_3.length : Int) = 2 then (if 0 < (l0_3.length : Int) then ((impl_isE.fv ((rd_T38 l0_3 0).f0) ((rd_T38 l0_3 0).f1) ((rd_T38 l0_3 0).f2) ((rd_T38 l0_3 0).f3)).bind fun t66 => (if t66 = true then (if 1 < (l0_3.length : Int) then ((impl_isBlock.fv ((rd_T38 l0_3 1).f0) ((rd_T38 l0_3 1).f1) ((rd_T38 l0_3 1).f2) ((rd_T38 l0_3 1).f3)).bind fun t73 => (some t73)) else (none)) else (some false))) else (none)) else (some false)) else (some false))) else (if a0_0 = 33 then ((impl_plainNode.f a0_0 a0_1 a0_2 l0_3).bind fun t78 => (if t78 = true then (some ((l0_3.length : Int) == 0)) else (some false))) else (if a0_0 = 34 then (if a0_1 = 0 then ((impl_isName.fv a0_2).bind fun t91 => (if t91 = true then (if (l0_3.length : Int) = 1 then (if 0 < (l0_3.length : Int) then ((impl_isE.fv ((rd_T38 l0_3 0).f0) ((rd_T38 l0_3 0).f1) ((rd_T38 l0_3 0).f2) ((rd_T38 l0_3 0).f3)).bind fun t102 => (some t102)) else (none)) else (some false)) else (some false))) else (some false)) else (if a0_0 = 35 then ((impl_plainNode.f a0_0 a0_1 a0_2 l0_3).bind fun t107 => (if t107 = true then (if (l0_3.length : Int) = 1 then (if 0 < (l0_3.length : Int) then ((impl_isE.fv ((rd_T38 l0_3 0).f0) ((rd_T38 l0_3 0).f1) ((rd_T38 l0_3 0).f2) ((rd_T38 l0_3 0).f3)).bind fun t117 => (some t117)) else (none)) else (some false)) else (some false))) else (some false)))))))) := by
  show lim impl_isBlock.B (.impl_isStatement_f a0_0 a0_1 a0_2 l0_3) = _
  rw [lim_eq, impl_isBlock.B]
  simp only [ev_ite, ev_opt, ev_ask, ev_to, ev_ret, ev_bad]
  try rfl
def impl_noNode.f (a0_0 : Int) (a0_1 : Int) (a0_2 : ByteArray) (l0_3 : List S38) : Option (Bool) := if a0_0 = 0 then ((impl_plainNode.f a0_0 a0_1 a0_2 l0_3).bind fun t8 => (if t8 = true then (some ((l0_3.length : Int) == 0)) else (some false))) else (some false)
inductive impl_Tidy_1.Q where
  | f (a0_0 : Int) (a0_1 : Int) (a0_2 : Int) (a0_3 : ByteArray) (l0_4 : List S38) (a0_5 : Int) (a0_6 : Int) (a0_7 : ByteArray) (l0_8 : List S38)
  | j0 (x18 : Bool) (x16_0 : Int) (x16_1 : Int) (x16_2 : Int) (x16_3 : ByteArray) (x16_4 : List S38) (x16_5 : Int) (x16_6 : Int) (x16_7 : ByteArray) (x16_8 : List S38)
  | j1 (x20 : Int) (x21 : Bool) (x16_0 : Int) (x16_1 : Int) (x16_2 : Int) (x16_3 : ByteArray) (x16_4 : List S38) (x16_5 : Int) (x16_6 : Int) (x16_7 : ByteArray) (x16_8 : List S38)
def impl_Tidy_1.B : impl_Tidy_1.Q → Pg impl_Tidy_1.Q (fun _ => Bool) (Bool)
  | .f a0_0 a0_1 a0_2 a0_3 l0_4 a0_5 a0_6 a0_7 l0_8 => .opt (impl_Deep.fv a0_1 a0_2 a0_3 l0_4) fun t5 => (if t5 > 16 then (.to (.j0 true a0_0 a0_1 a0_2 a0_3 l0_4 a0_5 a0_6 a0_7 l0_8)) else (.opt (impl_Deep.fv a0_5 a0_6 a0_7 l0_8) fun t10 => (if t10 > 16 then (.to (.j0 true a0_0 a0_1 a0_2 a0_3 l0_4 a0_5 a0_6 a0_7 l0_8)) else (.opt (impl_isBlock.fv a0_5 a0_6 a0_7 l0_8) fun t16 => (.to (.j0 (!t16) a0_0 a0_1 a0_2 a0_3 l0_4 a0_5 a0_6 a0_7 l0_8))))))
  | .j0 x18 x16_0 x16_1 x16_2 x16_3 x16_4 x16_5 x16_6 x16_7 x16_8 => if x18 = true then (.ret true) else (if x16_0 = 1 then (.to (.j1 x16_0 (x16_0 == 1) x16_0 x16_1 x16_2 x16_3 x16_4 x16_5 x16_6 x16_7 x16_8)) else (.to (.j1 x16_0 (x16_0 == 2) x16_0 x16_1 x16_2 x16_3 x16_4 x16_5 x16_6 x16_7 x16_8)))
  | .j1 x20 x21 x16_0 x16_1 x16_2 x16_3 x16_4 x16_5 x16_6 x16_7 x16_8 => if x21 = true then (.opt (impl_noNode.f x16_1 x16_2 x16_3 x16_4) fun t26 => (.ret (!t26))) else (if x20 = 3 then (.opt (impl_isE.fv x16_1 x16_2 x16_3 x16_4) fun t32 => (.ret (!t32))) else (.ret true))
def impl_Tidy_1.fv (a0_0 : Int) (a0_1 : Int) (a0_2 : Int) (a0_3 : ByteArray) (l0_4 : List S38) (a0_5 : Int) (a0_6 : Int) (a0_7 : ByteArray) (l0_8 : List S38) : Option (Bool) := lim impl_Tidy_1.B (.f a0_0 a0_1 a0_2 a0_3 l0_4 a0_5 a0_6 a0_7 l0_8)
def impl_Tidy_1.j0v (x18 : Bool) (x16_0 : Int) (x16_1 : Int) (x16_2 : Int) (x16_3 : ByteArray) (x16_4 : List S38) (x16_5 : Int) (x16_6 : Int) (x16_7 : ByteArray) (x16_8 : List S38) : Option (Bool) := lim impl_Tidy_1.B (.j0 x18 x16_0 x16_1 x16_2 x16_3 x16_4 x16_5 x16_6 x16_7 x16_8)
def impl_Tidy_1.j1v (x20 : Int) (x21 : Bool) (x16_0 : Int) (x16_1 : Int) (x16_2 : Int) (x16_3 : ByteArray) (x16_4 : List S38) (x16_5 : Int) (x16_6 : Int) (x16_7 : ByteArray) (x16_8 : List S38) : Option (Bool) := lim impl_Tidy_1.B (.j1 x20 x21 x16_0 x16_1 x16_2 x16_3 x16_4 x16_5 x16_6 x16_7 x16_8)
theorem impl_Tidy_1.fv_eq (a0_0 : Int) (a0_1 : Int) (a0_2 : Int) (a0_3 : ByteArray) (l0_4 : List S38) (a0_5 : Int) (a0_6 : Int) (a0_7 : ByteArray) (l0_8 : List S38) : impl_Tidy_1.fv a0_0 a0_1 a0_2 a0_3 l0_4 a0_5 a0_6 a0_7 l0_8 = ((impl_Deep.fv a0_1 a0_2 a0_3 l0_4).bind fun t5 => (if t5 > 16 then (impl_Tidy_1.j0v true a0_0 a0_1 a0_2 a0_3 l0_4 a0_5 a0_6 a0_7 l0_8) else ((impl_Deep.fv a0_5 a0_6 a0_7 l0_8).bind fun t10 => (if t10 > 16 then (impl_Tidy_1.j0v true a0_0 a0_1 a0_2 a0_3 l0_4 a0_5 a0_6 a0_7 l0_8) else ((impl_isBlock.fv a0_5 a0_6 a0_7 l0_8).bind fun t16 => (impl_Tidy_1.j0v (!t16) a0_0 a0_1 a0_2 a0_3 l0_4 a0_5 a0_6 a0_7 l0_8)))))) := by
  show lim impl_Tidy_1.B (.f a0_0 a0_1 a0_2 a0_3 l0_4 a0_5 a0_6 a0_7 l0_8) = _
  rw [lim_eq, impl_Tidy_1.B]
  simp only [ev_ite, ev_opt, ev_ask, ev_to, ev_ret, ev_bad]
  try rfl
theorem impl_Tidy_1.j0v_eq (x18 : Bool) (x16_0 : Int) (x16_1 : Int) (x16_2 : Int) (x16_3 : ByteArray) (x16_4 : List S38) (x16_5 : Int) (x16_6 : Int) (x16_7 : ByteArray) (x16_8 : List S38) : impl_Tidy_1.j0v x18 x16_0 x16_1 x16_2 x16_3 x16_4 x16_5 x16_6 x16_7 x16_8 = (if x18 = true then (some true) else (if x16_0 = 1 then (impl_Tidy_1.j1v x16_0 (x16_0 == 1) x16_0 x16_1 x16_2 x16_3 x16_4 x16_5 x16_6 x16_7 x16_8) else (impl_Tidy_1.j1v x16_0 (x16_0 == 2) x16_0 x16_1 x16_2 x16_3 x16_4 x16_5 x16_6 x16_7 x16_8))) := by
  show lim impl_Tidy_1.B (.j0 x18 x16_0 x16_1 x16_2 x16_3 x16_4 x16_5 x16_6 x16_7 x16_8) = _
  rw [lim_eq, impl_Tidy_1.B]
  simp only [ev_ite, ev_opt, ev_ask, ev_to, ev_ret, ev_bad]
  try rfl
theorem impl_Tidy_1.j1v_eq (x20 : Int) (x21 : Bool) (x16_0 : Int) (x16_1 : Int) (x16_2 : Int) (x16_3 : ByteArray) (x16_4 : List S38) (x16_5 : Int) (x16_6 : Int) (x16_7 : ByteArray) (x16_8 : List S38) : impl_Tidy_1.j1v x20 x21 x16_0 x16_1 x16_2 x16_3 x16_4 x16_5 x16_6 x16_7 x16_8 = (if x21 = true then ((impl_noNode.f x16_1 x16_2 x16_3 x16_4).bind fun t26 => (some (!t26))) else (if x20 = 3 then ((impl_isE.fv x16_1 x16_2 x16_3 x16_4).bind fun t32 => (some (!t32))) else (some true))) := by
  show lim impl_Tidy_1.B (.j1 x20 x21 x16_0 x16_1 x16_2 x16_3 x16_4 x16_5 x16_6 x16_7 x16_8) = _
  rw [lim_eq, impl_Tidy_1.B]
  simp only [ev_ite, ev_opt, ev_ask, ev_to, ev_ret, ev_bad]
  try rfl
inductive slices_IndexFunc_impl_Rule_impl_Rule__impl_Tidy_1.Q where
  | f (l0 : List S40)
  | l0 (x0 : List S40) (x7 : Int) (x8 : Int)
def slices_IndexFunc_impl_Rule_impl_Rule__impl_Tidy_1.B : slices_IndexFunc_impl_Rule_impl_Rule__impl_Tidy_1.Q → Pg slices_IndexFunc_impl_Rule_impl_Rule__impl_Tidy_1.Q (fun _ => Int) (Int)
  | .f l0 => .to (.l0 l0 (l0.length : Int) 0)
  | .l0 x0 x7 x8 => if x8 < x7 then (if 0 ≤ x8 then (if x8 < (x0.length : Int) then (.opt (impl_Tidy_1.fv ((rd_T40 x0 x8).f0) ((rd_T40 x0 x8).f1) ((rd_T40 x0 x8).f2) ((rd_T40 x0 x8).f3) ((rd_T40 x0 x8).f4) ((rd_T40 x0 x8).f5) ((rd_T40 x0 x8).f6) ((rd_T40 x0 x8).f7) ((rd_T40 x0 x8).f8)) fun t16 => (if t16 = true then (.ret x8) else (.to (.l0 x0 x7 (wrap64 (x8 + 1)))))) else (.bad)) else (.bad)) else (.ret (-1))
def slices_IndexFunc_impl_Rule_impl_Rule__impl_Tidy_1.fv (l0 : List S40) : Option (Int) := lim slices_IndexFunc_impl_Rule_impl_Rule__impl_Tidy_1.B (.f l0)
def slices_IndexFunc_impl_Rule_impl_Rule__impl_Tidy_1.l0v (x0 : List S40) (x7 : Int) (x8 : Int) : Option (Int) := lim slices_IndexFunc_impl_Rule_impl_Rule__impl_Tidy_1.B (.l0 x0 x7 x8)
theorem slices_IndexFunc_impl_Rule_impl_Rule__impl_Tidy_1.fv_eq (l0 : List S40) : slices_IndexFunc_impl_Rule_impl_Rule__impl_Tidy_1.fv l0 = (slices_IndexFunc_impl_Rule_impl_Rule__impl_Tidy_1.l0v l0 (l0.length : Int) 0) := by
  show lim slices_IndexFunc_impl_Rule_impl_Rule__impl_Tidy_1.B (.f l0) = _
  rw [lim_eq, slices_IndexFunc_impl_Rule_impl_Rule__impl_Tidy_1.B]
  simp only [ev_ite, ev_opt, ev_ask, ev_to, ev_ret, ev_bad]
  try rfl
theorem slices_IndexFunc_impl_Rule_impl_Rule__impl_Tidy_1.l0v_eq (x0 : List S40) (x7 : Int) (x8 : Int) : slices_IndexFunc_impl_Rule_impl_Rule__impl_Tidy_1.l0v x0 x7 x8 = (if x8 < x7 then (if 0 ≤ x8 then (if x8 < (x0.length : Int) then ((impl_Tidy_1.fv ((rd_T40 x0 x8).f0) ((rd_T40 x0 x8).f1) ((rd_T40 x0 x8).f2) ((rd_T40 x0 x8).f3) ((rd_T40 x0 x8).f4) ((rd_T40 x0 x8).f5) ((rd_T40 x0 x8).f6) ((rd_T40 x0 x8).f7) ((rd_T40 x0 x8).f8)).bind fun t16 => (if t16 = true then (some x8) else (slices_IndexFunc_impl_Rule_impl_Rule__impl_Tidy_1.l0v x0 x7 (wrap64 (x8 + 1))))) else (none)) else (none)) else (some (-1))) := by
  show lim slices_IndexFunc_impl_Rule_impl_Rule__impl_Tidy_1.B (.l0 x0 x7 x8) = _
  rw [lim_eq, slices_IndexFunc_impl_Rule_impl_Rule__impl_Tidy_1.B]
  simp only [ev_ite, ev_opt, ev_ask, ev_to, ev_ret, ev_bad]
  try rfl
def slices_ContainsFunc_impl_Rule_impl_Rule__impl_Tidy_1.fv (l0 : List S40) : Option (Bool) := (slices_IndexFunc_impl_Rule_impl_Rule__impl_Tidy_1.fv l0).bind fun t7 => (some (decide (t7 ≥ 0)))
theorem slices_ContainsFunc_impl_Rule_impl_Rule__impl_Tidy_1.fv_eq (l0 : List S40) : slices_ContainsFunc_impl_Rule_impl_Rule__impl_Tidy_1.fv l0 = ((slices_IndexFunc_impl_Rule_impl_Rule__impl_Tidy_1.fv l0).bind fun t7 => (some (decide (t7 ≥ 0)))) := by rw [slices_ContainsFunc_impl_Rule_impl_Rule__impl_Tidy_1.fv]
def impl_Tidy.fv (l0 : List S40) : Option (Bool) := (slices_ContainsFunc_impl_Rule_impl_Rule__impl_Tidy_1.fv l0).bind fun t4 => (some (!t4))
theorem impl_Tidy.fv_eq (l0 : List S40) : impl_Tidy.fv l0 = ((slices_ContainsFunc_impl_Rule_impl_Rule__impl_Tidy_1.fv l0).bind fun t4 => (some (!t4))) := by rw [impl_Tidy.fv]
def impl_DecOk.f (a0 : Int) : Option (Bool) := (impl_in.f a0 (-9000000000000) 9000000000000).bind fun t4 => (some t4)
inductive impl_DecText.Q where
  | f (a0 : Int)
  | j0 (x0 : Int) (x3 : ByteArray)
def impl_DecText.B : impl_DecText.Q → Pg impl_DecText.Q (fun _ => ByteArray) (ByteArray)
  | .f a0 => .opt (impl_DecOk.f a0) fun t7 => (if t7 = true then (if a0 < 0 then (.to (.j0 (wrap64 (0 - a0)) (⟨#[45]⟩ : ByteArray))) else (.to (.j0 a0 (⟨#[]⟩ : ByteArray)))) else (.ret (⟨#[]⟩ : ByteArray)))
  | .j0 x0 x3 => .opt (strconv_Itoa.f (wrap64 (Int.tdiv x0 1000000))) fun t16 => (if x3.size + t16.size ≤ 9223372036854775807 then (if (Int.tmod x0 1000000) > 0 then (.opt (strconv_Itoa.f (wrap64 (1000000 + (Int.tmod x0 1000000)))) fun t25 => (if 1 ≤ (t25.size : Int) then (.opt (strings_TrimRight.f (t25.extract 1 t25.size) (⟨#[48]⟩ : ByteArray)) fun t27 => (if (⟨#[46]⟩ : ByteArray).size + t27.size ≤ 9223372036854775807 then (if (x3 ++ t16).size + ((⟨#[46]⟩ : ByteArray) ++ t27).size ≤ 9223372036854775807 then (.ret ((x3 ++ t16) ++ ((⟨#[46]⟩ : ByteArray) ++ t27))) else (.bad)) else (.bad))) else (.bad))) else (.ret (x3 ++ t16))) else (.bad))
def impl_DecText.fv (a0 : Int) : Option (ByteArray) := lim impl_DecText.B (.f a0)
def impl_DecText.j0v (x0 : Int) (x3 : ByteArray) : Option (ByteArray) := lim impl_DecText.B (.j0 x0 x3)
theorem impl_DecText.fv_eq (a0 : Int) : impl_DecText.fv a0 = ((impl_DecOk.f a0).bind fun t7 => (if t7 = true then (if a0 < 0 then (impl_DecText.j0v (wrap64 (0 - a0)) (⟨#[45]⟩ : ByteArray)) else (impl_DecText.j0v a0 (⟨#[]⟩ : ByteArray))) else (some (⟨#[]⟩ : ByteArray)))) := by
  show lim impl_DecText.B (.f a0) = _
  rw [lim_eq, impl_DecText.B]
  simp only [ev_ite, ev_opt, ev_ask, ev_to, ev_ret, ev_bad]
  try rfl
theorem impl_DecText.j0v_eq (x0 : Int) (x3 : ByteArray) : impl_DecText.j0v x0 x3 = ((strconv_Itoa.f (wrap64 (Int.tdiv x0 1000000))).bind fun t16 => (if x3.size + t16.size ≤ 9223372036854775807 then (if (Int.tmod x0 1000000) > 0 then ((strconv_Itoa.f (wrap64 (1000000 + (Int.tmod x0 1000000)))).bind fun t25 => (if 1 ≤ (t25.size : Int) then ((strings_TrimRight.f (t25.extract 1 t25.size) (⟨#[48]⟩ : ByteArray)).bind fun t27 => (if (⟨#[46]⟩ : ByteArray).size + t27.size ≤ 9223372036854775807 then (if (x3 ++ t16).size + ((⟨#[46]⟩ : ByteArray) ++ t27).size ≤ 9223372036854775807 then (some ((x3 ++ t16) ++ ((⟨#[46]⟩ : ByteArray) ++ t27))) else (none)) else (none))) else (none))) else (some (x3 ++ t16))) else (none))) := by
  show lim impl_DecText.B (.j0 x0 x3) = _
  rw [lim_eq, impl_DecText.B]
  simp only [ev_ite, ev_opt, ev_ask, ev_to, ev_ret, ev_bad]
  try rfl
inductive impl_quotedText.Q where
  | f (a0 : ByteArray)
  | l0 (x0 : ByteArray) (x3 : List Int) (x7 : Int) (x8 : Int)
  | j0 (x0 : ByteArray) (x3 : List Int) (x4 : Int) (x7 : Int) (x8 : Int)
  | j1 (x0 : ByteArray) (x3 : List Int) (x4 : Int) (x7 : Int) (x8 : Int) (x20 : Bool)
def impl_quotedText.B : impl_quotedText.Q → Pg impl_quotedText.Q (fun _ => ByteArray) (ByteArray)
  | .f a0 => .to (.l0 a0 ([34] : List Int) (a0.size : Int) 0)
  | .l0 x0 x3 x7 x8 => if x8 < x7 then (if 0 ≤ x8 then (if x8 < (x0.size : Int) then (if (bt x0 x8) = 34 then (.to (.j1 x0 x3 x8 x7 x8 true)) else (.to (.j1 x0 x3 x8 x7 x8 ((bt x0 x8) == 92)))) else (.bad)) else (.bad)) else (if x3.length < 140737488355328 then (.ret (strOfNums (x3 ++ [34]))) else (.bad))
  | .j0 x0 x3 x4 x7 x8 => if 0 ≤ x4 then (if x4 < (x0.size : Int) then (if x3.length < 140737488355328 then (.to (.l0 x0 (x3 ++ [(bt x0 x4)]) x7 (wrap64 (x8 + 1)))) else (.bad)) else (.bad)) else (.bad)
  | .j1 x0 x3 x4 x7 x8 x20 => if x20 = true then (if x3.length < 140737488355328 then (.to (.j0 x0 (x3 ++ [92]) x4 x7 x8)) else (.bad)) else (.to (.j0 x0 x3 x4 x7 x8))
def impl_quotedText.fv (a0 : ByteArray) : Option (ByteArray) := lim impl_quotedText.B (.f a0)
def impl_quotedText.l0v (x0 : ByteArray) (x3 : List Int) (x7 : Int) (x8 : Int) : Option (ByteArray) := lim impl_quotedText.B (.l0 x0 x3 x7 x8)
def impl_quotedText.j0v (x0 : ByteArray) (x3 : List Int) (x4 : Int) (x7 : Int) (x8 : Int) : Option (ByteArray) := lim impl_quotedText.B (.j0 x0 x3 x4 x7 x8)
def impl_quotedText.j1v (x0 : ByteArray) (x3 : List Int) (x4 : Int) (x7 : Int) (x8 : Int) (x20 : Bool) : Option (ByteArray) := lim impl_quotedText.B (.j1 x0 x3 x4 x7 x8 x20)
theorem impl_quotedText.fv_eq (a0 : ByteArray) : impl_quotedText.fv a0 = (impl_quotedText.l0v a0 ([34] : List Int) (a0.size : Int) 0) := by
  show lim impl_quotedText.B (.f a0) = _
  rw [lim_eq, impl_quotedText.B]
  simp only [ev_ite, ev_opt, ev_ask, ev_to, ev_ret, ev_bad]
  try rfl
theorem impl_quotedText.l0v_eq (x0 : ByteArray) (x3 : List Int) (x7 : Int) (x8 : Int) : impl_quotedText.l0v x0 x3 x7 x8 = (if x8 < x7 then (if 0 ≤ x8 then (if x8 < (x0.size : Int) then (if (bt x0 x8) = 34 then (impl_quotedText.j1v x0 x3 x8 x7 x8 true) else (impl_quotedText.j1v x0 x3 x8 x7 x8 ((bt x0 x8) == 92))) else (none)) else (none)) else (if x3.length < 140737488355328 then (some (strOfNums (x3 ++ [34]))) else (none))) := by
  show lim impl_quotedText.B (.l0 x0 x3 x7 x8) = _
  rw [lim_eq, impl_quotedText.B]
  simp only [ev_ite, ev_opt, ev_ask, ev_to, ev_ret, ev_bad]
  try rfl
theorem impl_quotedText.j0v_eq (x0 : ByteArray) (x3 : List Int) (x4 : Int) (x7 : Int) (x8 : Int) : impl_quotedText.j0v x0 x3 x4 x7 x8 = (if 0 ≤ x4 then (if x4 < (x0.size : Int) then (if x3.length < 140737488355328 then (impl_quotedText.l0v x0 (x3 ++ [(bt x0 x4)]) x7 (wrap64 (x8 + 1))) else (none)) else (none)) else (none)) := by
  show lim impl_quotedText.B (.j0 x0 x3 x4 x7 x8) = _
  rw [lim_eq, impl_quotedText.B]
  simp only [ev_ite, ev_opt, ev_ask, ev_to, ev_ret, ev_bad]
  try rfl
theorem impl_quotedText.j1v_eq (x0 : ByteArray) (x3 : List Int) (x4 : Int) (x7 : Int) (x8 : Int) (x20 : Bool) : impl_quotedText.j1v x0 x3 x4 x7 x8 x20 = (if x20 = true then (if x3.length < 140737488355328 then (impl_quotedText.j0v x0 (x3 ++ [92]) x4 x7 x8) else (none)) else (impl_quotedText.j0v x0 x3 x4 x7 x8)) := by
  show lim impl_quotedText.B (.j1 x0 x3 x4 x7 x8 x20) = _
  rw [lim_eq, impl_quotedText.B]
  simp only [ev_ite, ev_opt, ev_ask, ev_to, ev_ret, ev_bad]
  try rfl
def impl_signOf.f (a0 : Int) : Option (ByteArray) := if a0 = 9 then (some (⟨#[32, 43, 32]⟩ : ByteArray)) else (if a0 = 10 then (some (⟨#[32, 45, 32]⟩ : ByteArray)) else (if a0 = 11 then (some (⟨#[32, 42, 32]⟩ : ByteArray)) else (if a0 = 12 then (some (⟨#[32, 47, 32]⟩ : ByteArray)) else (if a0 = 13 then (some (⟨#[32, 37, 32]⟩ : ByteArray)) else (if a0 = 15 then (some (⟨#[32, 60, 32]⟩ : ByteArray)) else (if a0 = 16 then (some (⟨#[32, 60, 61, 32]⟩ : ByteArray)) else (if a0 = 17 then (some (⟨#[32, 62, 32]⟩ : ByteArray)) else (if a0 = 18 then (some (⟨#[32, 62, 61, 32]⟩ : ByteArray)) else (if a0 = 19 then (some (⟨#[32, 61, 61, 32]⟩ : ByteArray)) else (if a0 = 20 then (some (⟨#[32, 33, 61, 32]⟩ : ByteArray)) else (if a0 = 21 then (some (⟨#[32, 126, 32]⟩ : ByteArray)) else (if a0 = 24 then (some (⟨#[32, 38, 38, 32]⟩ : ByteArray)) else (if a0 = 25 then (some (⟨#[32, 124, 124, 32]⟩ : ByteArray)) else (if a0 = 26 then (some (⟨#[32, 61, 32]⟩ : ByteArray)) else (if a0 = 27 then (some (⟨#[32, 43, 61, 32]⟩ : ByteArray)) else (some (⟨#[32]⟩ : ByteArray)))))))))))))))))
inductive impl_eText.Q where
  | impl_eText_f (a0_0 : Int) (a0_1 : Int) (a0_2 : ByteArray) (l0_3 : List S38)
  | impl_eText_j0 (x4628_0 : Int) (x4628_1 : Int) (x4628_2 : ByteArray) (x4628_3 : List S38)
  | impl_eText_j1 (x41 : Bool) (x4628_0 : Int) (x4628_1 : Int) (x4628_2 : ByteArray) (x4628_3 : List S38)
  | impl_eTexts_f (l0 : List S38)
  | impl_eTexts_l0 (x3 : List ByteArray) (x7 : List S38) (x8 : Int) (x9 : Int)
def impl_eText.B : impl_eText.Q → Pg impl_eText.Q (fun _ => ByteArray) (ByteArray)
  | .impl_eText_f a0_0 a0_1 a0_2 l0_3 => if a0_0 = 1 then (.opt (impl_DecText.fv a0_1) fun t10 => (.ret t10)) else (if a0_0 = 2 then (.opt (impl_quotedText.fv a0_2) fun t15 => (.ret t15)) else (if a0_0 = 3 then (.opt (strings_ReplaceAll.f a0_2 (⟨#[47]⟩ : ByteArray) (⟨#[92, 47]⟩ : ByteArray)) fun t20 => (if (⟨#[40, 47]⟩ : ByteArray).size + t20.size ≤ 9223372036854775807 then (if ((⟨#[40, 47]⟩ : ByteArray) ++ t20).size + (⟨#[47, 41]⟩ : ByteArray).size ≤ 9223372036854775807 then (.ret (((⟨#[40, 47]⟩ : ByteArray) ++ t20) ++ (⟨#[47, 41]⟩ : ByteArray))) else (.bad)) else (.bad))) else (if a0_0 = 6 then (if 0 < (l0_3.length : Int) then (if (rd_T38 l0_3 0).f0 = 1 then (.to (.impl_eText_j1 true ((rd_T38 l0_3 0).f0) ((rd_T38 l0_3 0).f1) ((rd_T38 l0_3 0).f2) ((rd_T38 l0_3 0).f3))) else (if (rd_T38 l0_3 0).f0 = 4 then (.to (.impl_eText_j1 true ((rd_T38 l0_3 0).f0) ((rd_T38 l0_3 0).f1) ((rd_T38 l0_3 0).f2) ((rd_T38 l0_3 0).f3))) else (.to (.impl_eText_j1 ((rd_T38 l0_3 0).f0 == 6) ((rd_T38 l0_3 0).f0) ((rd_T38 l0_3 0).f1) ((rd_T38 l0_3 0).f2) ((rd_T38 l0_3 0).f3))))) else (.bad)) else (if a0_0 = 7 then (.ret (⟨#[78, 82]⟩ : ByteArray)) else (if a0_0 = 8 then (.ret (⟨#[78, 70]⟩ : ByteArray)) else (if a0_0 = 4 then (.ret a0_2) else (if a0_0 = 5 then (if a0_2.size + (⟨#[91]⟩ : ByteArray).size ≤ 9223372036854775807 then (if 0 < (l0_3.length : Int) then (.ask (.impl_eText_f ((rd_T38 l0_3 0).f0) ((rd_T38 l0_3 0).f1) ((rd_T38 l0_3 0).f2) ((rd_T38 l0_3 0).f3)) fun (t66 : ByteArray) => (if (a0_2 ++ (⟨#[91]⟩ : ByteArray)).size + t66.size ≤ 9223372036854775807 then (if ((a0_2 ++ (⟨#[91]⟩ : ByteArray)) ++ t66).size + (⟨#[93]⟩ : ByteArray).size ≤ 9223372036854775807 then (.ret (((a0_2 ++ (⟨#[91]⟩ : ByteArray)) ++ t66) ++ (⟨#[93]⟩ : ByteArray))) else (.bad)) else (.bad))) else (.bad)) else (.bad)) else (if a0_0 = 28 then (if a0_2.size + (⟨#[40]⟩ : ByteArray).size ≤ 9223372036854775807 then (.ask (.impl_eTexts_f l0_3) fun (t76 : ByteArray) => (if (a0_2 ++ (⟨#[40]⟩ : ByteArray)).size + t76.size ≤ 9223372036854775807 then (if ((a0_2 ++ (⟨#[40]⟩ : ByteArray)) ++ t76).size + (⟨#[41]⟩ : ByteArray).size ≤ 9223372036854775807 then (.ret (((a0_2 ++ (⟨#[40]⟩ : ByteArray)) ++ t76) ++ (⟨#[41]⟩ : ByteArray))) else (.bad)) else (.bad))) else (.bad)) else (if a0_0 = 22 then (if 0 < (l0_3.length : Int) then (.ask (.impl_eText_f ((rd_T38 l0_3 0).f0) ((rd_T38 l0_3 0).f1) ((rd_T38 l0_3 0).f2) ((rd_T38 l0_3 0).f3)) fun (t85 : ByteArray) => (if (⟨#[40, 33]⟩ : ByteArray).size + t85.size ≤ 9223372036854775807 then (if ((⟨#[40, 33]⟩ : ByteArray) ++ t85).size + (⟨#[41]⟩ : ByteArray).size ≤ 9223372036854775807 then (.ret (((⟨#[40, 33]⟩ : ByteArray) ++ t85) ++ (⟨#[41]⟩ : ByteArray))) else (.bad)) else (.bad))) else (.bad)) else (if a0_0 = 23 then (if 0 < (l0_3.length : Int) then (.ask (.impl_eText_f ((rd_T38 l0_3 0).f0) ((rd_T38 l0_3 0).f1) ((rd_T38 l0_3 0).f2) ((rd_T38 l0_3 0).f3)) fun (t94 : ByteArray) => (if (⟨#[40, 45]⟩ : ByteArray).size + t94.size ≤ 9223372036854775807 then (if ((⟨#[40, 45]⟩ : ByteArray) ++ t94).size + (⟨#[41]⟩ : ByteArray).size ≤ 9223372036854775807 then (.ret (((⟨#[40, 45]⟩ : ByteArray) ++ t94) ++ (⟨#[41]⟩ : ByteArray))) else (.bad)) else (.bad))) else (.bad)) else (if 0 < (l0_3.length : Int) then (.ask (.impl_eText_f ((rd_T38 l0_3 0).f0) ((rd_T38 l0_3 0).f1) ((rd_T38 l0_3 0).f2) ((rd_T38 l0_3 0).f3)) fun (t101 : ByteArray) => (if (⟨#[40]⟩ : ByteArray).size + t101.size ≤ 9223372036854775807 then (.opt (impl_signOf.f a0_0) fun t105 => (if ((⟨#[40]⟩ : ByteArray) ++ t101).size + t105.size ≤ 9223372036854775807 then (if 1 < (l0_3.length : Int) then (.ask (.impl_eText_f ((rd_T38 l0_3 1).f0) ((rd_T38 l0_3 1).f1) ((rd_T38 l0_3 1).f2) ((rd_T38 l0_3 1).f3)) fun (t111 : ByteArray) => (if (((⟨#[40]⟩ : ByteArray) ++ t101) ++ t105).size + t111.size ≤ 9223372036854775807 then (if ((((⟨#[40]⟩ : ByteArray) ++ t101) ++ t105) ++ t111).size + (⟨#[41]⟩ : ByteArray).size ≤ 9223372036854775807 then (.ret (((((⟨#[40]⟩ : ByteArray) ++ t101) ++ t105) ++ t111) ++ (⟨#[41]⟩ : ByteArray))) else (.bad)) else (.bad))) else (.bad)) else (.bad))) else (.bad))) else (.bad))))))))))))
  | .impl_eText_j0 x4628_0 x4628_1 x4628_2 x4628_3 => .ask (.impl_eText_f x4628_0 x4628_1 x4628_2 x4628_3) fun (t46 : ByteArray) => (if (⟨#[36, 40]⟩ : ByteArray).size + t46.size ≤ 9223372036854775807 then (if ((⟨#[36, 40]⟩ : ByteArray) ++ t46).size + (⟨#[41]⟩ : ByteArray).size ≤ 9223372036854775807 then (.ret (((⟨#[36, 40]⟩ : ByteArray) ++ t46) ++ (⟨#[41]⟩ : ByteArray))) else (.bad)) else (.bad))
  | .impl_eText_j1 x41 x4628_0 x4628_1 x4628_2 x4628_3 => if x41 = true then (.ask (.impl_eText_f x4628_0 x4628_1 x4628_2 x4628_3) fun (t43 : ByteArray) => (if (⟨#[36]⟩ : ByteArray).size + t43.size ≤ 9223372036854775807 then (.ret ((⟨#[36]⟩ : ByteArray) ++ t43)) else (.bad))) else (.to (.impl_eText_j0 x4628_0 x4628_1 x4628_2 x4628_3))
  | .impl_eTexts_f l0 => .to (.impl_eTexts_l0 ([] : List ByteArray) l0 (l0.length : Int) 0)
  | .impl_eTexts_l0 x3 x7 x8 x9 => if x9 < x8 then (if 0 ≤ x9 then (if x9 < (x7.length : Int) then (.ask (.impl_eText_f ((rd_T38 x7 x9).f0) ((rd_T38 x7 x9).f1) ((rd_T38 x7 x9).f2) ((rd_T38 x7 x9).f3)) fun (t15 : ByteArray) => (if x3.length < 8796093022208 then (.to (.impl_eTexts_l0 (x3 ++ [t15]) x7 x8 (wrap64 (x9 + 1)))) else (.bad))) else (.bad)) else (.bad)) else (.opt (strings_Join.f x3 (⟨#[44, 32]⟩ : ByteArray)) fun t20 => (.ret t20))
def impl_eText.fv (a0_0 : Int) (a0_1 : Int) (a0_2 : ByteArray) (l0_3 : List S38) : Option (ByteArray) := lim impl_eText.B (.impl_eText_f a0_0 a0_1 a0_2 l0_3)
def impl_eText.j0v (x4628_0 : Int) (x4628_1 : Int) (x4628_2 : ByteArray) (x4628_3 : List S38) : Option (ByteArray) := lim impl_eText.B (.impl_eText_j0 x4628_0 x4628_1 x4628_2 x4628_3)
def impl_eText.j1v (x41 : Bool) (x4628_0 : Int) (x4628_1 : Int) (x4628_2 : ByteArray) (x4628_3 : List S38) : Option (ByteArray) := lim impl_eText.B (.impl_eText_j1 x41 x4628_0 x4628_1 x4628_2 x4628_3)
def impl_eTexts.fv (l0 : List S38) : Option (ByteArray) := lim impl_eText.B (.impl_eTexts_f l0)
def impl_eTexts.l0v (x3 : List ByteArray) (x7 : List S38) (x8 : Int) (x9 : Int) : Option (ByteArray) := lim impl_eText.B (.impl_eTexts_l0 x3 x7 x8 x9)
theorem impl_eText.fv_eq (a0_0 : Int) (a0_1 : Int) (a0_2 : ByteArray) (l0_3 : List S38) : impl_eText.fv a0_0 a0_1 a0_2 l0_3 = (if a0_0 = 1 then ((impl_DecText.fv a0_1).bind fun t10 => (some t10)) else (if a0_0 = 2 then ((impl_quotedText.fv a0_2).bind fun t15 => (some t15)) else (if a0_0 = 3 then ((strings_ReplaceAll.f a0_2 (⟨#[47]⟩ : ByteArray) (⟨#[92, 47]⟩ : ByteArray)).bind fun t20 => (if (⟨#[40, 47]⟩ : ByteArray).size + t20.size ≤ 9223372036854775807 then (if ((⟨#[40, 47]⟩ : ByteArray) ++ t20).size + (⟨#[47, 41]⟩ : ByteArray).size ≤ 9223372036854775807 then (some (((⟨#[40, 47]⟩ : ByteArray) ++ t20) ++ (⟨#[47, 41]⟩ : ByteArray))) else (none)) else (none))) else (if a0_0 = 6 then (if 0 < (l0_3.length : Int) then (if (rd_T38 l0_3 0).f0 = 1 then (impl_eText.j1v true ((rd_T38 l0_3 0).f0) ((rd_T38 l0_3 0).f1) ((rd_T38 l0_3 0).f2) ((rd_T38 l0_3 0).f3)) else (if (rd_T38 l0_3 0).f0 = 4 then (impl_eText.j1v true ((rd_T38 l0_3 0).f0) ((rd_T38 l0_3 0).f1) ((rd_T38 l0_3 0).f2) ((rd_T38 l0_3 0).f3)) else (impl_eText.j1v ((rd_T38 l0_3 0).f0 == 6) ((rd_T38 l0_3 0).f0) ((rd_T38 l0_3 0).f1) ((rd_T38 l0_3 0).f2) ((rd_T38 l0_3 0).f3)))) else (none)) else (if a0_0 = 7 then (some (⟨#[78, 82]⟩ : ByteArray)) else (if a0_0 = 8 then (some (⟨#[78, 70]⟩ : ByteArray)) else (if a0_0 = 4 then (some a0_2) else (if a0_0 = 5 then (if a0_2.size + (⟨#[91]⟩ : ByteArray).size ≤ 9223372036854775807 then (if 0 < (l0_3.length : Int) then ((impl_eText.fv ((rd_T38 l0_3 0).f0) ((rd_T38 l0_3 0).f1) ((rd_T38 l0_3 0).f2) ((rd_T38 l0_3 0).f3)).bind fun t66 => (if (a0_2 ++ (⟨#[91]⟩ : ByteArray)).size + t66.size ≤ 9223372036854775807 then (if ((a0_2 ++ (⟨#[91]⟩ : ByteArray)) ++ t66).size + (⟨#[93]⟩ : ByteArray).size ≤ 9223372036854775807 then (some (((a0_2 ++ (⟨#[91]⟩ : ByteArray)) ++ t66) ++ (⟨#[93]⟩ : ByteArray))) else (none)) else (none))) else (none)) else (none)) else (if a0_0 = 28 then (if a0_2.size + (⟨#[40]⟩ : ByteArray).size ≤ 9223372036854775807 then ((impl_eTexts.fv l0_3).bind fun t76 => (if (a0_2 ++ (⟨#[40]⟩ : ByteArray)).size + t76.size ≤ 9223372036854775807 then (if ((a0_2 ++ (⟨#[40]⟩ : ByteArray)) ++ t76).size + (⟨#[41]⟩ : ByteArray).size ≤ 9223372036854775807 then (some (((a0_2 ++ (⟨#[40]⟩ : ByteArray)) ++ t76) ++ (⟨#[41]⟩ : ByteArray))) else (none)) else (none))) else (none)) else (if a0_0 = 22 then (if 0 < (l0_3.length : Int) then ((impl_eText.fv ((rd_T38 l0_3 0).f0) ((rd_T38 l0_3 0).f1) ((rd_T38 l0_3 0).f2) ((rd_T38 l0_3 0).f3)).bind fun t85 => (if (⟨#[40, 33]⟩ : ByteArray).size + t85.size ≤ 9223372036854775807 then (if ((⟨#[40, 33]⟩ : ByteArray) ++ t85).size + (⟨#[41]⟩ : ByteArray).size ≤ 9223372036854775807 then (some (((⟨#[40, 33]⟩ : ByteArray) ++ t85) ++ (⟨#[41]⟩ : ByteArray))) else (none)) else (none))) else (none)) else (if a0_0 = 23 then (if 0 < (l0_3.length : Int) then ((impl_eText.fv ((rd_T38 l0_3 0).f0) ((rd_T38 l0_3 0).f1) ((rd_T38 l0_3 0).f2) ((rd_T38 l0_3 0).f3)).bind fun t94 => (if (⟨#[40, 45]⟩ : ByteArray).size + t94.size ≤ 9223372036854775807 then (if ((⟨#[40, 45]⟩ : ByteArray) ++ t94).size + (⟨#[41]⟩ : ByteArray).size ≤ 9223372036854775807 then (some (((⟨#[40, 45]⟩ : ByteArray) ++ t94) ++ (⟨#[41]⟩ : ByteArray))) else (none)) else (none))) else (none)) else (if 0 < (l0_3.length : Int) then ((impl_eText.fv ((rd_T38 l0_3 0).f0) ((rd_T38 l0_3 0).f1) ((rd_T38 l0_3 0).f2) ((rd_T38 l0_3 0).f3)).bind fun t101 => (if (⟨#[40]⟩ : ByteArray).size + t101.size ≤ 9223372036854775807 then ((impl_signOf.f a0_0).bind fun t105 => (if ((⟨#[40]⟩ : ByteArray) ++ t101).size + t105.size ≤ 9223372036854775807 then (if 1 < (l0_3.length : Int) then ((impl_eText.fv ((rd_T38 l0_3 1).f0) ((rd_T38 l0_3 1).f1) ((rd_T38 l0_3 1).f2) ((rd_T38 l0_3 1).f3)).bind fun t111 => (if (((⟨#[40]⟩ : ByteArray) ++ t101) ++ t105).size + t111.size ≤ 9223372036854775807 then (if ((((⟨#[40]⟩ : ByteArray) ++ t101) ++ t105) ++ t111).size + (⟨#[41]⟩ : ByteArray).size ≤ 9223372036854775807 then (some (((((⟨#[40]⟩ : ByteArray) ++ t101) ++ t105) ++ t111) ++ (⟨#[41]⟩ : ByteArray))) else (none)) else (none))) else (none)) else (none))) else (none))) else (none))))))))))))) := by
  show lim impl_eText.B (.impl_eText_f a0_0 a0_1 a0_2 l0_3) = _
  rw [lim_eq, impl_eText.B]
  simp only [ev_ite, ev_opt, ev_ask, ev_to, ev_ret, ev_bad]
  try rfl
theorem impl_eText.j0v_eq (x4628_0 : Int) (x4628_1 : Int) (x4628_2 : ByteArray) (x4628_3 : List S38) : impl_eText.j0v x4628_0 x4628_1 x4628_2 x4628_3 = ((impl_eText.fv x4628_0 x4628_1 x4628_2 x4628_3).bind fun t46 => (if (⟨#[36, 40]⟩ : ByteArray).size + t46.size ≤ 9223372036854775807 then (if ((⟨#[36, 40]⟩ : ByteArray) ++ t46).size + (⟨#[41]⟩ : ByteArray).size ≤ 9223372036854775807 then (some (((⟨#[36, 40]⟩ : ByteArray) ++ t46) ++ (⟨#[41]⟩ : ByteArray))) else (none)) else (none))) := by
  show lim impl_eText.B (.impl_eText_j0 x4628_0 x4628_1 x4628_2 x4628_3) = _
  rw [lim_eq, impl_eText.B]
  simp only [ev_ite, ev_opt, ev_ask, ev_to, ev_ret, ev_bad]
  try rfl
theorem impl_eText.j1v_eq (x41 : Bool) (x4628_0 : Int) (x4628_1 : Int) (x4628_2 : ByteArray) (x4628_3 : List S38) : impl_eText.j1v x41 x4628_0 x4628_1 x4628_2 x4628_3 = (if x41 = true then ((impl_eText.fv x4628_0 x4628_1 x4628_2 x4628_3).bind fun t43 => (if (⟨#[36]⟩ : ByteArray).size + t43.size ≤ 9223372036854775807 then (some ((⟨#[36]⟩ : ByteArray) ++ t43)) else (none))) else (impl_eText.j0v x4628_0 x4628_1 x4628_2 x4628_3)) := by
  show lim impl_eText.B (.impl_eText_j1 x41 x4628_0 x4628_1 x4628_2 x4628_3) = _
  rw [lim_eq, impl_eText.B]
  simp only [ev_ite, ev_opt, ev_ask, ev_to, ev_ret, ev_bad]
  try rfl
theorem impl_eTexts.fv_eq (l0 : List S38) : impl_eTexts.fv l0 = (impl_eTexts.l0v ([] : List ByteArray) l0 (l0.length : Int) 0) := by
  show lim impl_eText.B (.impl_eTexts_f l0) = _
  rw [lim_eq, impl_eText.B]
  simp only [ev_ite, ev_opt, ev_ask, ev_to, ev_ret, ev_bad]
  try rfl
theorem impl_eTexts.l0v_eq (x3 : List ByteArray) (x7 : List S38) (x8 : Int) (x9 : Int) : impl_eTexts.l0v x3 x7 x8 x9 = (if x9 < x8 then (if 0 ≤ x9 then (if x9 < (x7.length : Int) then ((impl_eText.fv ((rd_T38 x7 x9).f0) ((rd_T38 x7 x9).f1) ((rd_T38 x7 x9).f2) ((rd_T38 x7 x9).f3)).bind fun t15 => (if x3.length < 8796093022208 then (impl_eTexts.l0v (x3 ++ [t15]) x7 x8 (wrap64 (x9 + 1))) else (none))) else (none)) else (none)) else ((strings_Join.f x3 (⟨#[44, 32]⟩ : ByteArray)).bind fun t20 => (some t20))) := by
  show lim impl_eText.B (.impl_eTexts_l0 x3 x7 x8 x9) = _
  rw [lim_eq, impl_eText.B]
  simp only [ev_ite, ev_opt, ev_ask, ev_to, ev_ret, ev_bad]
  try rfl
inductive impl_blockText.Q where
  | impl_blockText_f (a0_0 : Int) (a0_1 : Int) (a0_2 : ByteArray) (l0_3 : List S38)
  | impl_blockText_l0 (x3 : ByteArray) (x7 : List S38) (x8 : Int) (x9 : Int)
  | impl_statementText_f (a0_0 : Int) (a0_1 : Int) (a0_2 : ByteArray) (l0_3 : List S38)
  | impl_statementText_j0 (x3 : ByteArray)
def impl_blockText.B : impl_blockText.Q → Pg impl_blockText.Q (fun _ => ByteArray) (ByteArray)
  | .impl_blockText_f a0_0 a0_1 a0_2 l0_3 => .to (.impl_blockText_l0 (⟨#[123, 10]⟩ : ByteArray) l0_3 (l0_3.length : Int) 0)
  | .impl_blockText_l0 x3 x7 x8 x9 => if x9 < x8 then (if 0 ≤ x9 then (if x9 < (x7.length : Int) then (.ask (.impl_statementText_f ((rd_T38 x7 x9).f0) ((rd_T38 x7 x9).f1) ((rd_T38 x7 x9).f2) ((rd_T38 x7 x9).f3)) fun (t15 : ByteArray) => (if t15.size + (⟨#[10]⟩ : ByteArray).size ≤ 9223372036854775807 then (if x3.size + (t15 ++ (⟨#[10]⟩ : ByteArray)).size ≤ 9223372036854775807 then (.to (.impl_blockText_l0 ((x3 ++ (t15 ++ (⟨#[10]⟩ : ByteArray)))) x7 x8 (wrap64 (x9 + 1)))) else (.bad)) else (.bad))) else (.bad)) else (.bad)) else (if x3.size + (⟨#[125]⟩ : ByteArray).size ≤ 9223372036854775807 then (.ret (x3 ++ (⟨#[125]⟩ : ByteArray))) else (.bad))
  | .impl_statementText_f a0_0 a0_1 a0_2 l0_3 => if a0_0 = 30 then (if (l0_3.length : Int) = 0 then (.ret (⟨#[112, 114, 105, 110, 116, 59]⟩ : ByteArray)) else (.opt (impl_eTexts.fv l0_3) fun t14 => (if (⟨#[112, 114, 105, 110, 116, 32]⟩ : ByteArray).size + t14.size ≤ 9223372036854775807 then (if ((⟨#[112, 114, 105, 110, 116, 32]⟩ : ByteArray) ++ t14).size + (⟨#[59]⟩ : ByteArray).size ≤ 9223372036854775807 then (.ret (((⟨#[112, 114, 105, 110, 116, 32]⟩ : ByteArray) ++ t14) ++ (⟨#[59]⟩ : ByteArray))) else (.bad)) else (.bad)))) else (if a0_0 = 31 then (if 0 < (l0_3.length : Int) then (.opt (impl_eText.fv ((rd_T38 l0_3 0).f0) ((rd_T38 l0_3 0).f1) ((rd_T38 l0_3 0).f2) ((rd_T38 l0_3 0).f3)) fun t23 => (if (⟨#[105, 102, 32, 40]⟩ : ByteArray).size + t23.size ≤ 9223372036854775807 then (if ((⟨#[105, 102, 32, 40]⟩ : ByteArray) ++ t23).size + (⟨#[41, 32]⟩ : ByteArray).size ≤ 9223372036854775807 then (if 1 < (l0_3.length : Int) then (.ask (.impl_blockText_f ((rd_T38 l0_3 1).f0) ((rd_T38 l0_3 1).f1) ((rd_T38 l0_3 1).f2) ((rd_T38 l0_3 1).f3)) fun (t30 : ByteArray) => (if (((⟨#[105, 102, 32, 40]⟩ : ByteArray) ++ t23) ++ (⟨#[41, 32]⟩ : ByteArray)).size + t30.size ≤ 9223372036854775807 then (if (l0_3.length : Int) = 3 then (if 2 < (l0_3.length : Int) then (.ask (.impl_blockText_f ((rd_T38 l0_3 2).f0) ((rd_T38 l0_3 2).f1) ((rd_T38 l0_3 2).f2) ((rd_T38 l0_3 2).f3)) fun (t41 : ByteArray) => (if (⟨#[32, 101, 108, 115, 101, 32]⟩ : ByteArray).size + t41.size ≤ 9223372036854775807 then (if ((((⟨#[105, 102, 32, 40]⟩ : ByteArray) ++ t23) ++ (⟨#[41, 32]⟩ : ByteArray)) ++ t30).size + ((⟨#[32, 101, 108, 115, 101, 32]⟩ : ByteArray) ++ t41).size ≤ 9223372036854775807 then (.to (.impl_statementText_j0 ((((((⟨#[105, 102, 32, 40]⟩ : ByteArray) ++ t23) ++ (⟨#[41, 32]⟩ : ByteArray)) ++ t30) ++ ((⟨#[32, 101, 108, 115, 101, 32]⟩ : ByteArray) ++ t41))))) else (.bad)) else (.bad))) else (.bad)) else (.to (.impl_statementText_j0 (((((⟨#[105, 102, 32, 40]⟩ : ByteArray) ++ t23) ++ (⟨#[41, 32]⟩ : ByteArray)) ++ t30))))) else (.bad))) else (.bad)) else (.bad)) else (.bad))) else (.bad)) else (if a0_0 = 32 then (if 0 < (l0_3.length : Int) then (.opt (impl_eText.fv ((rd_T38 l0_3 0).f0) ((rd_T38 l0_3 0).f1) ((rd_T38 l0_3 0).f2) ((rd_T38 l0_3 0).f3)) fun t51 => (if (⟨#[119, 104, 105, 108, 101, 32, 40]⟩ : ByteArray).size + t51.size ≤ 9223372036854775807 then (if ((⟨#[119, 104, 105, 108, 101, 32, 40]⟩ : ByteArray) ++ t51).size + (⟨#[41, 32]⟩ : ByteArray).size ≤ 9223372036854775807 then (if 1 < (l0_3.length : Int) then (.ask (.impl_blockText_f ((rd_T38 l0_3 1).f0) ((rd_T38 l0_3 1).f1) ((rd_T38 l0_3 1).f2) ((rd_T38 l0_3 1).f3)) fun (t58 : ByteArray) => (if (((⟨#[119, 104, 105, 108, 101, 32, 40]⟩ : ByteArray) ++ t51) ++ (⟨#[41, 32]⟩ : ByteArray)).size + t58.size ≤ 9223372036854775807 then (.ret ((((⟨#[119, 104, 105, 108, 101, 32, 40]⟩ : ByteArray) ++ t51) ++ (⟨#[41, 32]⟩ : ByteArray)) ++ t58)) else (.bad))) else (.bad)) else (.bad)) else (.bad))) else (.bad)) else (if a0_0 = 33 then (.ret (⟨#[110, 101, 120, 116, 59]⟩ : ByteArray)) else (if a0_0 = 34 then (if (⟨#[100, 101, 108, 101, 116, 101, 32]⟩ : ByteArray).size + a0_2.size ≤ 9223372036854775807 then (if ((⟨#[100, 101, 108, 101, 116, 101, 32]⟩ : ByteArray) ++ a0_2).size + (⟨#[91]⟩ : ByteArray).size ≤ 9223372036854775807 then (if 0 < (l0_3.length : Int) then (.opt (impl_eText.fv ((rd_T38 l0_3 0).f0) ((rd_T38 l0_3 0).f1) ((rd_T38 l0_3 0).f2) ((rd_T38 l0_3 0).f3)) fun t72 => (if (((⟨#[100, 101, 108, 101, 116, 101, 32]⟩ : ByteArray) ++ a0_2) ++ (⟨#[91]⟩ : ByteArray)).size + t72.size ≤ 9223372036854775807 then (if ((((⟨#[100, 101, 108, 101, 116, 101, 32]⟩ : ByteArray) ++ a0_2) ++ (⟨#[91]⟩ : ByteArray)) ++ t72).size + (⟨#[93, 59]⟩ : ByteArray).size ≤ 9223372036854775807 then (.ret (((((⟨#[100, 101, 108, 101, 116, 101, 32]⟩ : ByteArray) ++ a0_2) ++ (⟨#[91]⟩ : ByteArray)) ++ t72) ++ (⟨#[93, 59]⟩ : ByteArray))) else (.bad)) else (.bad))) else (.bad)) else (.bad)) else (.bad)) else (if a0_0 = 29 then (.ask (.impl_blockText_f a0_0 a0_1 a0_2 l0_3) fun (t78 : ByteArray) => (.ret t78)) else (if 0 < (l0_3.length : Int) then (.opt (impl_eText.fv ((rd_T38 l0_3 0).f0) ((rd_T38 l0_3 0).f1) ((rd_T38 l0_3 0).f2) ((rd_T38 l0_3 0).f3)) fun t83 => (if t83.size + (⟨#[59]⟩ : ByteArray).size ≤ 9223372036854775807 then (.ret (t83 ++ (⟨#[59]⟩ : ByteArray))) else (.bad))) else (.bad)))))))
  | .impl_statementText_j0 x3 => .ret x3
def impl_blockText.fv (a0_0 : Int) (a0_1 : Int) (a0_2 : ByteArray) (l0_3 : List S38) : Option (ByteArray) := lim impl_blockText.B (.impl_blockText_f a0_0 a0_1 a0_2 l0_3)
def impl_blockText.l0v (x3 : ByteArray) (x7 : List S38) (x8 : Int) (x9 : Int) : Option (ByteArray) := lim impl_blockText.B (.impl_blockText_l0 x3 x7 x8 x9)
def impl_statementText.fv (a0_0 : Int) (a0_1 : Int) (a0_2 : ByteArray) (l0_3 : List S38) : Option (ByteArray) := lim impl_blockText.B (.impl_statementText_f a0_0 a0_1 a0_2 l0_3)
def impl_statementText.j0v (x3 : ByteArray) : Option (ByteArray) := lim impl_blockText.B (.impl_statementText_j0 x3)
theorem impl_blockText.fv_eq (a0_0 : Int) (a0_1 : Int) (a0_2 : ByteArray) (l0_3 : List S38) : impl_blockText.fv a0_0 a0_1 a0_2 l0_3 = (impl_blockText.l0v (⟨#[123, 10]⟩ : ByteArray) l0_3 (l0_3.length : Int) 0) := by
  show lim impl_blockText.B (.impl_blockText_f a0_0 a0_1 a0_2 l0_3) = _
  rw [lim_eq, impl_blockText.B]
  simp only [ev_ite, ev_opt, ev_ask, ev_to, ev_ret, ev_bad]
  try rfl
theorem impl_blockText.l0v_eq (x3 : ByteArray) (x7 : List S38) (x8 : Int) (x9 : Int) : impl_blockText.l0v x3 x7 x8 x9 = (if x9 < x8 then (if 0 ≤ x9 then (if x9 < (x7.length : Int) then ((impl_statementText.fv ((rd_T38 x7 x9).f0) ((rd_T38 x7 x9).f1) ((rd_T38 x7 x9).f2) ((rd_T38 x7 x9).f3)).bind fun t15 => (if t15.size + (⟨#[10]⟩ : ByteArray).size ≤ 9223372036854775807 then (if x3.size + (t15 ++ (⟨#[10]⟩ : ByteArray)).size ≤ 9223372036854775807 then (impl_blockText.l0v ((x3 ++ (t15 ++ (⟨#[10]⟩ : ByteArray)))) x7 x8 (wrap64 (x9 + 1))) else (none)) else (none))) else (none)) else (none)) else (if x3.size + (⟨#[125]⟩ : ByteArray).size ≤ 9223372036854775807 then (some (x3 ++ (⟨#[125]⟩ : ByteArray))) else (none))) := by
  show lim impl_blockText.B (.impl_blockText_l0 x3 x7 x8 x9) = _
  rw [lim_eq, impl_blockText.B]
  simp only [ev_ite, ev_opt, ev_ask, ev_to, ev_ret, ev_bad]
  try rfl
theorem impl_statementText.fv_eq (a0_0 : Int) (a0_1 : Int) (a0_2 : ByteArray) (l0_3 : List S38) : impl_statementText.fv a0_0 a0_1 a0_2 l0_3 = (if a0_0 = 30 then (if (l0_3.length : Int) = 0 then (some (⟨#[112, 114, 105, 110, 116, 59]⟩ : ByteArray)) else ((impl_eTexts.fv l0_3).bind fun t14 => (if (⟨#[112, 114, 105, 110, 116, 32]⟩ : ByteArray).size + t14.size ≤ 9223372036854775807 then (if ((⟨#[112, 114, 105, 110, 116, 32]⟩ : ByteArray) ++ t14).size + (⟨#[59]⟩ : ByteArray).size ≤ 9223372036854775807 then (some (((⟨#[112, 114, 105, 110, 116, 32]⟩ : ByteArray) ++ t14) ++ (⟨#[59]⟩ : ByteArray))) else (none)) else (none)))) else (if a0_0 = 31 then (if 0 < (l0_3.length : Int) then ((impl_eText.fv ((rd_T38 l0_3 0).f0) ((rd_T38 l0_3 0).f1) ((rd_T38 l0_3 0).f2) ((rd_T38 l0_3 0).f3)).bind fun t23 => (if (⟨#[105, 102, 32, 40]⟩ : ByteArray).size + t23.size ≤ 9223372036854775807 then (if ((⟨#[105, 102, 32, 40]⟩ : ByteArray) ++ t23).size + (⟨#[41, 32]⟩ : ByteArray).size ≤ 9223372036854775807 then (if 1 < (l0_3.length : Int) then ((impl_blockText.fv ((rd_T38 l0_3 1).f0) ((rd_T38 l0_3 1).f1) ((rd_T38 l0_3 1).f2) ((rd_T38 l0_3 1).f3)).bind fun t30 => (if (((⟨#[105, 102, 32, 40]⟩ : ByteArray) ++ t23) ++ (⟨#[41, 32]⟩ : ByteArray)).size + t30.size ≤ 9223372036854775807 then (if (l0_3.length : Int) = 3 then (if 2 < (l0_3.length : Int) then ((impl_blockText.fv ((rd_T38 l0_3 2).f0) ((rd_T38 l0_3 2).f1) ((rd_T38 l0_3 2).f2) ((rd_T38 l0_3 2).f3)).bind fun t41 => (if (⟨#[32, 101, 108, 115, 101, 32]⟩ : ByteArray).size + t41.size ≤ 9223372036854775807 then (if ((((⟨#[105, 102, 32, 40]⟩ : ByteArray) ++ t23) ++ (⟨#[41, 32]⟩ : ByteArray)) ++ t30).size + ((⟨#[32, 101, 108, 115, 101, 32]⟩ : ByteArray) ++ t41).size ≤ 9223372036854775807 then (impl_statementText.j0v ((((((⟨#[105, 102, 32, 40]⟩ : ByteArray) ++ t23) ++ (⟨#[41, 32]⟩ : ByteArray)) ++ t30) ++ ((⟨#[32, 101, 108, 115, 101, 32]⟩ : ByteArray) ++ t41)))) else (none)) else (none))) else (none)) else (impl_statementText.j0v (((((⟨#[105, 102, 32, 40]⟩ : ByteArray) ++ t23) ++ (⟨#[41, 32]⟩ : ByteArray)) ++ t30)))) else (none))) else (none)) else (none)) else (none))) else (none)) else (if a0_0 = 32 then (if 0 < (l0_3.length : Int) then ((impl_eText.fv ((rd_T38 l0_3 0).f0) ((rd_T38 l0_3 0).f1) ((rd_T38 l0_3 0).f2) ((rd_T38 l0_3 0).f3)).bind fun t51 => (if (⟨#[119, 104, 105, 108, 101, 32, 40]⟩ : ByteArray).size + t51.size ≤ 9223372036854775807 then (if ((⟨#[119, 104, 105, 108, 101, 32, 40]⟩ : ByteArray) ++ t51).size + (⟨#[41, 32]⟩ : ByteArray).size ≤ 9223372036854775807 then (if 1 < (l0_3.length : Int) then ((impl_blockText.fv ((rd_T38 l0_3 1).f0) ((rd_T38 l0_3 1).f1) ((rd_T38 l0_3 1).f2) ((rd_T38 l0_3 1).f3)).bind fun t58 => (if (((⟨#[119, 104, 105, 108, 101, 32, 40]⟩ : ByteArray) ++ t51) ++ (⟨#[41, 32]⟩ : ByteArray)).size + t58.size ≤ 9223372036854775807 then (some ((((⟨#[119, 104, 105, 108, 101, 32, 40]⟩ : ByteArray) ++ t51) ++ (⟨#[41, 32]⟩ : ByteArray)) ++ t58)) else (none))) else (none)) else (none)) else (none))) else (none)) else (if a0_0 = 33 then (some (⟨#[110, 101, 120, 116, 59]⟩ : ByteArray)) else (if a0_0 = 34 then (if (⟨#[100, 101, 108, 101, 116, 101, 32]⟩ : ByteArray).size + a0_2.size ≤ 9223372036854775807 then (if ((⟨#[100, 101, 108, 101, 116, 101, 32]⟩ : ByteArray) ++ a0_2).size + (⟨#[91]⟩ : ByteArray).size ≤ 9223372036854775807 then (if 0 < (l0_3.length : Int) then ((impl_eText.fv ((rd_T38 l0_3 0).f0) ((rd_T38 l0_3 0).f1) ((rd_T38 l0_3 0).f2) ((rd_T38 l0_3 0).f3)).bind fun t72 => (if (((⟨#[100, 101, 108, 101, 116, 101, 32]⟩ : ByteArray) ++ a0_2) ++ (⟨#[91]⟩ : ByteArray)).size + t72.size ≤ 9223372036854775807 then (if ((((⟨#[100, 101, 108, 101, 116, 101, 32]⟩ : ByteArray) ++ a0_2) ++ (⟨#[91]⟩ : ByteArray)) ++ t72).size + (⟨#[93, 59]⟩ : ByteArray).size ≤ 9223372036854775807 then (some (((((⟨#[100, 101, 108, 101, 116, 101, 32]⟩ : ByteArray) ++ a0_2) ++ (⟨#[91]⟩ : ByteArray)) ++ t72) ++ (⟨#[93, 59]⟩ : ByteArray))) else (none)) else (none))) else (none)) else (none)) else (none)) else (if a0_0 = 29 then ((impl_blockText.fv a0_0 a0_1 a0_2 l0_3).bind fun t78 => (some t78)) else (if 0 < (l0_3.length : Int) then ((impl_eText.fv ((rd_T38 l0_3 0).f0) ((rd_T38 l0_3 0).f1) ((rd_T38 l0_3 0).f2) ((rd_T38 l0_3 0).f3)).bind fun t83 => (if t83.size + (⟨#[59]⟩ : ByteArray).size ≤ 9223372036854775807 then (some (t83 ++ (⟨#[59]⟩ : ByteArray))) else (none))) else (none)))))))) := by
  show lim impl_blockText.B (.impl_statementText_f a0_0 a0_1 a0_2 l0_3) = _
  rw [lim_eq, impl_blockText.B]
  simp only [ev_ite, ev_opt, ev_ask, ev_to, ev_ret, ev_bad]
  try rfl
theorem impl_statementText.j0v_eq (x3 : ByteArray) : impl_statementText.j0v x3 = (some x3) := by
  show lim impl_blockText.B (.impl_statementText_j0 x3) = _
  rw [lim_eq, impl_blockText.B]
  simp only [ev_ite, ev_opt, ev_ask, ev_to, ev_ret, ev_bad]
  try rfl
inductive impl_Write.Q where
  | f (l0 : List S40)
  | l0 (x3 : ByteArray) (x9 : List S40) (x10 : Int) (x11 : Int)
  | j0 (x3 : ByteArray) (x9 : List S40) (x10 : Int) (x11 : Int) (x3090_0 : Int) (x3090_1 : Int) (x3090_2 : Int) (x3090_3 : ByteArray) (x3090_4 : List S38) (x3090_5 : Int) (x3090_6 : Int) (x3090_7 : ByteArray) (x3090_8 : List S38)
def impl_Write.B : impl_Write.Q → Pg impl_Write.Q (fun _ => ByteArray) (ByteArray)
  | .f l0 => .opt (impl_Tidy.fv l0) fun t7 => (if t7 = true then (.to (.l0 (⟨#[]⟩ : ByteArray) l0 (l0.length : Int) 0)) else (.ret (⟨#[]⟩ : ByteArray)))
  | .l0 x3 x9 x10 x11 => if x11 < x10 then (if 0 ≤ x11 then (if x11 < (x9.length : Int) then (if (rd_T40 x9 x11).f0 = 1 then (if x3.size + (⟨#[66, 69, 71, 73, 78, 32]⟩ : ByteArray).size ≤ 9223372036854775807 then (.to (.j0 (x3 ++ (⟨#[66, 69, 71, 73, 78, 32]⟩ : ByteArray)) x9 x10 x11 ((rd_T40 x9 x11).f0) ((rd_T40 x9 x11).f1) ((rd_T40 x9 x11).f2) ((rd_T40 x9 x11).f3) ((rd_T40 x9 x11).f4) ((rd_T40 x9 x11).f5) ((rd_T40 x9 x11).f6) ((rd_T40 x9 x11).f7) ((rd_T40 x9 x11).f8))) else (.bad)) else (if (rd_T40 x9 x11).f0 = 3 then (.opt (impl_eText.fv ((rd_T40 x9 x11).f1) ((rd_T40 x9 x11).f2) ((rd_T40 x9 x11).f3) ((rd_T40 x9 x11).f4)) fun t26 => (if t26.size + (⟨#[32]⟩ : ByteArray).size ≤ 9223372036854775807 then (if x3.size + (t26 ++ (⟨#[32]⟩ : ByteArray)).size ≤ 9223372036854775807 then (.to (.j0 ((x3 ++ (t26 ++ (⟨#[32]⟩ : ByteArray)))) x9 x10 x11 ((rd_T40 x9 x11).f0) ((rd_T40 x9 x11).f1) ((rd_T40 x9 x11).f2) ((rd_T40 x9 x11).f3) ((rd_T40 x9 x11).f4) ((rd_T40 x9 x11).f5) ((rd_T40 x9 x11).f6) ((rd_T40 x9 x11).f7) ((rd_T40 x9 x11).f8))) else (.bad)) else (.bad))) else (.to (.j0 x3 x9 x10 x11 ((rd_T40 x9 x11).f0) ((rd_T40 x9 x11).f1) ((rd_T40 x9 x11).f2) ((rd_T40 x9 x11).f3) ((rd_T40 x9 x11).f4) ((rd_T40 x9 x11).f5) ((rd_T40 x9 x11).f6) ((rd_T40 x9 x11).f7) ((rd_T40 x9 x11).f8))))) else (.bad)) else (.bad)) else (.ret x3)
  | .j0 x3 x9 x10 x11 x3090_0 x3090_1 x3090_2 x3090_3 x3090_4 x3090_5 x3090_6 x3090_7 x3090_8 => .opt (impl_blockText.fv x3090_5 x3090_6 x3090_7 x3090_8) fun t32 => (if t32.size + (⟨#[10]⟩ : ByteArray).size ≤ 9223372036854775807 then (if x3.size + (t32 ++ (⟨#[10]⟩ : ByteArray)).size ≤ 9223372036854775807 then (.to (.l0 ((x3 ++ (t32 ++ (⟨#[10]⟩ : ByteArray)))) x9 x10 (wrap64 (x11 + 1)))) else (.bad)) else (.bad))
def impl_Write.fv (l0 : List S40) : Option (ByteArray) := lim impl_Write.B (.f l0)
def impl_Write.l0v (x3 : ByteArray) (x9 : List S40) (x10 : Int) (x11 : Int) : Option (ByteArray) := lim impl_Write.B (.l0 x3 x9 x10 x11)
def impl_Write.j0v (x3 : ByteArray) (x9 : List S40) (x10 : Int) (x11 : Int) (x3090_0 : Int) (x3090_1 : Int) (x3090_2 : Int) (x3090_3 : ByteArray) (x3090_4 : List S38) (x3090_5 : Int) (x3090_6 : Int) (x3090_7 : ByteArray) (x3090_8 : List S38) : Option (ByteArray) := lim impl_Write.B (.j0 x3 x9 x10 x11 x3090_0 x3090_1 x3090_2 x3090_3 x3090_4 x3090_5 x3090_6 x3090_7 x3090_8)
theorem impl_Write.fv_eq (l0 : List S40) : impl_Write.fv l0 = ((impl_Tidy.fv l0).bind fun t7 => (if t7 = true then (impl_Write.l0v (⟨#[]⟩ : ByteArray) l0 (l0.length : Int) 0) else (some (⟨#[]⟩ : ByteArray)))) := by
  show lim impl_Write.B (.f l0) = _
  rw [lim_eq, impl_Write.B]
  simp only [ev_ite, ev_opt, ev_ask, ev_to, ev_ret, ev_bad]
  try rfl
theorem impl_Write.l0v_eq (x3 : ByteArray) (x9 : List S40) (x10 : Int) (x11 : Int) : impl_Write.l0v x3 x9 x10 x11 = (if x11 < x10 then (if 0 ≤ x11 then (if x11 < (x9.length : Int) then (if (rd_T40 x9 x11).f0 = 1 then (if x3.size + (⟨#[66, 69, 71, 73, 78, 32]⟩ : ByteArray).size ≤ 9223372036854775807 then (impl_Write.j0v (x3 ++ (⟨#[66, 69, 71, 73, 78, 32]⟩ : ByteArray)) x9 x10 x11 ((rd_T40 x9 x11).f0) ((rd_T40 x9 x11).f1) ((rd_T40 x9 x11).f2) ((rd_T40 x9 x11).f3) ((rd_T40 x9 x11).f4) ((rd_T40 x9 x11).f5) ((rd_T40 x9 x11).f6) ((rd_T40 x9 x11).f7) ((rd_T40 x9 x11).f8)) else (none)) else (if (rd_T40 x9 x11).f0 = 3 then ((impl_eText.fv ((rd_T40 x9 x11).f1) ((rd_T40 x9 x11).f2) ((rd_T40 x9 x11).f3) ((rd_T40 x9 x11).f4)).bind fun t26 => (if t26.size + (⟨#[32]⟩ : ByteArray).size ≤ 9223372036854775807 then (if x3.size + (t26 ++ (⟨#[32]⟩ : ByteArray)).size ≤ 9223372036854775807 then (impl_Write.j0v ((x3 ++ (t26 ++ (⟨#[32]⟩ : ByteArray)))) x9 x10 x11 ((rd_T40 x9 x11).f0) ((rd_T40 x9 x11).f1) ((rd_T40 x9 x11).f2) ((rd_T40 x9 x11).f3) ((rd_T40 x9 x11).f4) ((rd_T40 x9 x11).f5) ((rd_T40 x9 x11).f6) ((rd_T40 x9 x11).f7) ((rd_T40 x9 x11).f8)) else (none)) else (none))) else (impl_Write.j0v x3 x9 x10 x11 ((rd_T40 x9 x11).f0) ((rd_T40 x9 x11).f1) ((rd_T40 x9 x11).f2) ((rd_T40 x9 x11).f3) ((rd_T40 x9 x11).f4) ((rd_T40 x9 x11).f5) ((rd_T40 x9 x11).f6) ((rd_T40 x9 x11).f7) ((rd_T40 x9 x11).f8)))) else (none)) else (none)) else (some x3)) := by
  show lim impl_Write.B (.l0 x3 x9 x10 x11) = _
  rw [lim_eq, impl_Write.B]
  simp only [ev_ite, ev_opt, ev_ask, ev_to, ev_ret, ev_bad]
  try rfl
theorem impl_Write.j0v_eq (x3 : ByteArray) (x9 : List S40) (x10 : Int) (x11 : Int) (x3090_0 : Int) (x3090_1 : Int) (x3090_2 : Int) (x3090_3 : ByteArray) (x3090_4 : List S38) (x3090_5 : Int) (x3090_6 : Int) (x3090_7 : ByteArray) (x3090_8 : List S38) : impl_Write.j0v x3 x9 x10 x11 x3090_0 x3090_1 x3090_2 x3090_3 x3090_4 x3090_5 x3090_6 x3090_7 x3090_8 = ((impl_blockText.fv x3090_5 x3090_6 x3090_7 x3090_8).bind fun t32 => (if t32.size + (⟨#[10]⟩ : ByteArray).size ≤ 9223372036854775807 then (if x3.size + (t32 ++ (⟨#[10]⟩ : ByteArray)).size ≤ 9223372036854775807 then (impl_Write.l0v ((x3 ++ (t32 ++ (⟨#[10]⟩ : ByteArray)))) x9 x10 (wrap64 (x11 + 1))) else (none)) else (none))) := by
  show lim impl_Write.B (.j0 x3 x9 x10 x11 x3090_0 x3090_1 x3090_2 x3090_3 x3090_4 x3090_5 x3090_6 x3090_7 x3090_8) = _
  rw [lim_eq, impl_Write.B]
  simp only [ev_ite, ev_opt, ev_ask, ev_to, ev_ret, ev_bad]
  try rfl
inductive laws_eqNode.Q where
  | laws_eqNode_f (a0_0 : Int) (a0_1 : Int) (a0_2 : ByteArray) (l0_3 : List S38) (a1_0 : Int) (a1_1 : Int) (a1_2 : ByteArray) (l1_3 : List S38)
  | laws_eqNodeS_f (l0 : List S38) (l1 : List S38)
  | laws_eqNodeS_l0 (x0 : List S38) (x1 : List S38) (x5 : Int)
def laws_eqNode.B : laws_eqNode.Q → Pg laws_eqNode.Q (fun _ => Bool) (Bool)
  | .laws_eqNode_f a0_0 a0_1 a0_2 l0_3 a1_0 a1_1 a1_2 l1_3 => if a0_0 = a1_0 then (if a0_1 = a1_1 then (if a0_2.toList = a1_2.toList then (.ask (.laws_eqNodeS_f l0_3 l1_3) fun (t24 : Bool) => (if t24 = true then (.ret true) else (.ret false))) else (.ret false)) else (.ret false)) else (.ret false)
  | .laws_eqNodeS_f l0 l1 => if (l0.length : Int) = (l1.length : Int) then (.to (.laws_eqNodeS_l0 l0 l1 0)) else (.ret false)
  | .laws_eqNodeS_l0 x0 x1 x5 => if x5 < (x0.length : Int) then (if 0 ≤ x5 then (if x5 < (x1.length : Int) then (.ask (.laws_eqNode_f ((rd_T38 x0 x5).f0) ((rd_T38 x0 x5).f1) ((rd_T38 x0 x5).f2) ((rd_T38 x0 x5).f3) ((rd_T38 x1 x5).f0) ((rd_T38 x1 x5).f1) ((rd_T38 x1 x5).f2) ((rd_T38 x1 x5).f3)) fun (t25 : Bool) => (if t25 = true then (.to (.laws_eqNodeS_l0 x0 x1 (wrap64 (x5 + 1)))) else (.ret false))) else (.bad)) else (.bad)) else (.ret true)
def laws_eqNode.fv (a0_0 : Int) (a0_1 : Int) (a0_2 : ByteArray) (l0_3 : List S38) (a1_0 : Int) (a1_1 : Int) (a1_2 : ByteArray) (l1_3 : List S38) : Option (Bool) := lim laws_eqNode.B (.laws_eqNode_f a0_0 a0_1 a0_2 l0_3 a1_0 a1_1 a1_2 l1_3)
def laws_eqNodeS.fv (l0 : List S38) (l1 : List S38) : Option (Bool) := lim laws_eqNode.B (.laws_eqNodeS_f l0 l1)
def laws_eqNodeS.l0v (x0 : List S38) (x1 : List S38) (x5 : Int) : Option (Bool) := lim laws_eqNode.B (.laws_eqNodeS_l0 x0 x1 x5)
theorem laws_eqNode.fv_eq (a0_0 : Int) (a0_1 : Int) (a0_2 : ByteArray) (l0_3 : List S38) (a1_0 : Int) (a1_1 : Int) (a1_2 : ByteArray) (l1_3 : List S38) : laws_eqNode.fv a0_0 a0_1 a0_2 l0_3 a1_0 a1_1 a1_2 l1_3 = (if a0_0 = a1_0 then (if a0_1 = a1_1 then (if a0_2.toList = a1_2.toList then ((laws_eqNodeS.fv l0_3 l1_3).bind fun t24 => (if t24 = true then (some true) else (some false))) else (some false)) else (some false)) else (some false)) := by
  show lim laws_eqNode.B (.laws_eqNode_f a0_0 a0_1 a0_2 l0_3 a1_0 a1_1 a1_2 l1_3) = _
  rw [lim_eq, laws_eqNode.B]
  simp only [ev_ite, ev_opt, ev_ask, ev_to, ev_ret, ev_bad]
  try rfl
theorem laws_eqNodeS.fv_eq (l0 : List S38) (l1 : List S38) : laws_eqNodeS.fv l0 l1 = (if (l0.length : Int) = (l1.length : Int) then (laws_eqNodeS.l0v l0 l1 0) else (some false)) := by
  show lim laws_eqNode.B (.laws_eqNodeS_f l0 l1) = _
  rw [lim_eq, laws_eqNode.B]
  simp only [ev_ite, ev_opt, ev_ask, ev_to, ev_ret, ev_bad]
  try rfl
theorem laws_eqNodeS.l0v_eq (x0 : List S38) (x1 : List S38) (x5 : Int) : laws_eqNodeS.l0v x0 x1 x5 = (if x5 < (x0.length : Int) then (if 0 ≤ x5 then (if x5 < (x1.length : Int) then ((laws_eqNode.fv ((rd_T38 x0 x5).f0) ((rd_T38 x0 x5).f1) ((rd_T38 x0 x5).f2) ((rd_T38 x0 x5).f3) ((rd_T38 x1 x5).f0) ((rd_T38 x1 x5).f1) ((rd_T38 x1 x5).f2) ((rd_T38 x1 x5).f3)).bind fun t25 => (if t25 = true then (laws_eqNodeS.l0v x0 x1 (wrap64 (x5 + 1))) else (some false))) else (none)) else (none)) else (some true)) := by
  show lim laws_eqNode.B (.laws_eqNodeS_l0 x0 x1 x5) = _
  rw [lim_eq, laws_eqNode.B]
  simp only [ev_ite, ev_opt, ev_ask, ev_to, ev_ret, ev_bad]
  try rfl
def laws_eqRule.fv (a0_0 : Int) (a0_1 : Int) (a0_2 : Int) (a0_3 : ByteArray) (l0_4 : List S38) (a0_5 : Int) (a0_6 : Int) (a0_7 : ByteArray) (l0_8 : List S38) (a1_0 : Int) (a1_1 : Int) (a1_2 : Int) (a1_3 : ByteArray) (l1_4 : List S38) (a1_5 : Int) (a1_6 : Int) (a1_7 : ByteArray) (l1_8 : List S38) : Option (Bool) := if a0_0 = a1_0 then ((laws_eqNode.fv a0_1 a0_2 a0_3 l0_4 a1_1 a1_2 a1_3 l1_4).bind fun t14 => (if t14 = true then ((laws_eqNode.fv a0_5 a0_6 a0_7 l0_8 a1_5 a1_6 a1_7 l1_8).bind fun t20 => (if t20 = true then (some true) else (some false))) else (some false))) else (some false)
theorem laws_eqRule.fv_eq (a0_0 : Int) (a0_1 : Int) (a0_2 : Int) (a0_3 : ByteArray) (l0_4 : List S38) (a0_5 : Int) (a0_6 : Int) (a0_7 : ByteArray) (l0_8 : List S38) (a1_0 : Int) (a1_1 : Int) (a1_2 : Int) (a1_3 : ByteArray) (l1_4 : List S38) (a1_5 : Int) (a1_6 : Int) (a1_7 : ByteArray) (l1_8 : List S38) : laws_eqRule.fv a0_0 a0_1 a0_2 a0_3 l0_4 a0_5 a0_6 a0_7 l0_8 a1_0 a1_1 a1_2 a1_3 l1_4 a1_5 a1_6 a1_7 l1_8 = (if a0_0 = a1_0 then ((laws_eqNode.fv a0_1 a0_2 a0_3 l0_4 a1_1 a1_2 a1_3 l1_4).bind fun t14 => (if t14 = true then ((laws_eqNode.fv a0_5 a0_6 a0_7 l0_8 a1_5 a1_6 a1_7 l1_8).bind fun t20 => (if t20 = true then (some true) else (some false))) else (some false))) else (some false)) := by rw [laws_eqRule.fv]
inductive laws_eqRuleS.Q where
  | f (l0 : List S40) (l1 : List S40)
  | l0 (x0 : List S40) (x1 : List S40) (x5 : Int)
def laws_eqRuleS.B : laws_eqRuleS.Q → Pg laws_eqRuleS.Q (fun _ => Bool) (Bool)
  | .f l0 l1 => if (l0.length : Int) = (l1.length : Int) then (.to (.l0 l0 l1 0)) else (.ret false)
  | .l0 x0 x1 x5 => if x5 < (x0.length : Int) then (if 0 ≤ x5 then (if x5 < (x1.length : Int) then (.opt (laws_eqRule.fv ((rd_T40 x0 x5).f0) ((rd_T40 x0 x5).f1) ((rd_T40 x0 x5).f2) ((rd_T40 x0 x5).f3) ((rd_T40 x0 x5).f4) ((rd_T40 x0 x5).f5) ((rd_T40 x0 x5).f6) ((rd_T40 x0 x5).f7) ((rd_T40 x0 x5).f8) ((rd_T40 x1 x5).f0) ((rd_T40 x1 x5).f1) ((rd_T40 x1 x5).f2) ((rd_T40 x1 x5).f3) ((rd_T40 x1 x5).f4) ((rd_T40 x1 x5).f5) ((rd_T40 x1 x5).f6) ((rd_T40 x1 x5).f7) ((rd_T40 x1 x5).f8)) fun t25 => (if t25 = true then (.to (.l0 x0 x1 (wrap64 (x5 + 1)))) else (.ret false))) else (.bad)) else (.bad)) else (.ret true)
def laws_eqRuleS.fv (l0 : List S40) (l1 : List S40) : Option (Bool) := lim laws_eqRuleS.B (.f l0 l1)
def laws_eqRuleS.l0v (x0 : List S40) (x1 : List S40) (x5 : Int) : Option (Bool) := lim laws_eqRuleS.B (.l0 x0 x1 x5)
theorem laws_eqRuleS.fv_eq (l0 : List S40) (l1 : List S40) : laws_eqRuleS.fv l0 l1 = (if (l0.length : Int) = (l1.length : Int) then (laws_eqRuleS.l0v l0 l1 0) else (some false)) := by
  show lim laws_eqRuleS.B (.f l0 l1) = _
  rw [lim_eq, laws_eqRuleS.B]
  simp only [ev_ite, ev_opt, ev_ask, ev_to, ev_ret, ev_bad]
  try rfl
theorem laws_eqRuleS.l0v_eq (x0 : List S40) (x1 : List S40) (x5 : Int) : laws_eqRuleS.l0v x0 x1 x5 = (if x5 < (x0.length : Int) then (if 0 ≤ x5 then (if x5 < (x1.length : Int) then ((laws_eqRule.fv ((rd_T40 x0 x5).f0) ((rd_T40 x0 x5).f1) ((rd_T40 x0 x5).f2) ((rd_T40 x0 x5).f3) ((rd_T40 x0 x5).f4) ((rd_T40 x0 x5).f5) ((rd_T40 x0 x5).f6) ((rd_T40 x0 x5).f7) ((rd_T40 x0 x5).f8) ((rd_T40 x1 x5).f0) ((rd_T40 x1 x5).f1) ((rd_T40 x1 x5).f2) ((rd_T40 x1 x5).f3) ((rd_T40 x1 x5).f4) ((rd_T40 x1 x5).f5) ((rd_T40 x1 x5).f6) ((rd_T40 x1 x5).f7) ((rd_T40 x1 x5).f8)).bind fun t25 => (if t25 = true then (laws_eqRuleS.l0v x0 x1 (wrap64 (x5 + 1))) else (some false))) else (none)) else (none)) else (some true)) := by
  show lim laws_eqRuleS.B (.l0 x0 x1 x5) = _
  rw [lim_eq, laws_eqRuleS.B]
  simp only [ev_ite, ev_opt, ev_ask, ev_to, ev_ret, ev_bad]
  try rfl
def laws_FnExactWrite.fv (l0 : List S34) : Option (Bool) := (laws_szRuleS.fv l0 1048576).bind fun t9 => (if t9 < 0 then (some true) else ((laws_toRuleS.fv l0).bind fun t13 => ((spec_Write.fv t13).bind fun t14 => ((laws_toRuleS.fv l0).bind fun t16 => ((impl_Write.fv t16).bind fun t18 => (if t18.toList = t14.toList then ((laws_toRuleS.fv l0).bind fun t24 => ((laws_eqRuleS.fv t16 t24).bind fun t25 => (if t25 = true then (some true) else (some false)))) else (some false)))))))
theorem laws_FnExactWrite.fv_eq (l0 : List S34) : laws_FnExactWrite.fv l0 = ((laws_szRuleS.fv l0 1048576).bind fun t9 => (if t9 < 0 then (some true) else ((laws_toRuleS.fv l0).bind fun t13 => ((spec_Write.fv t13).bind fun t14 => ((laws_toRuleS.fv l0).bind fun t16 => ((impl_Write.fv t16).bind fun t18 => (if t18.toList = t14.toList then ((laws_toRuleS.fv l0).bind fun t24 => ((laws_eqRuleS.fv t16 t24).bind fun t25 => (if t25 = true then (some true) else (some false)))) else (some false)))))))) := by rw [laws_FnExactWrite.fv]
inductive Wf32 : S32 → Prop
  | mk (x : S32) (h0 : (Lit.int .i64 x.f0).wf = true) (h1 : (Lit.int .i64 x.f1).wf = true) (h2 : x.f2.size ≤ maxLen) (h3 : x.f3.length ≤ maxLen) (g3 : ∀ y, y ∈ x.f3 → Wf32 y) : Wf32 x
def Wf34 (x : S34) : Prop := (Lit.int .i64 x.f0).wf = true ∧ (Lit.int .i64 x.f1).wf = true ∧ (Lit.int .i64 x.f2).wf = true ∧ x.f3.size ≤ maxLen ∧ (x.f4.length ≤ maxLen ∧ ∀ x_ ∈ x.f4, Wf32 x_) ∧ (Lit.int .i64 x.f5).wf = true ∧ (Lit.int .i64 x.f6).wf = true ∧ x.f7.size ≤ maxLen ∧ (x.f8.length ≤ maxLen ∧ ∀ x_ ∈ x.f8, Wf32 x_)
def laws_FnExactWrite.Pure : Prop := ∀ (x0 : List S34), (x0.length ≤ maxLen ∧ ∀ x_ ∈ x0, Wf34 x_) → laws_FnExactWrite.fv x0 = some true
end
end Go.Proofs.YthgglepiopijjaaGreatDoor.QFnExactWrite
