/- The functions that FnExactCheck reaches, as they compute. -/
import Derived.Test.YthgglepiopijjaaGreatPg
import Derived.Test.YthgglepiopijjaaGreatMw
import Derived.Lib.Bytealg
import Derived.Lib.IndexMore
import Derived.Lib.SlicesCompact
set_option linter.unusedVariables false
set_option linter.unusedSimpArgs false
set_option maxRecDepth 100000
namespace Go.Proofs.YthgglepiopijjaaGreat.QFnExactCheck
open Go.RowKit Go.Proofs.YthgglepiopijjaaGreatW.PrintWords Go.Proofs.YthgglepiopijjaaGreatW.Pgs
noncomputable section
structure S32 where
  f0 : Int
  f1 : Int
  f2 : ByteArray
  f3 : (List S32)
def z32 : S32 := ⟨(0 : Int), (0 : Int), (⟨#[]⟩ : ByteArray), ([] : List S32)⟩
def rd_T32 (xs : List S32) (i : Int) : S32 := xs.getD i.toNat z32
structure S34 where
  f0 : Int
  f1 : Int
  f2 : Int
  f3 : ByteArray
  f4 : (List S32)
  f5 : Int
  f6 : Int
  f7 : ByteArray
  f8 : (List S32)
def z34 : S34 := ⟨(0 : Int), (0 : Int), (0 : Int), (⟨#[]⟩ : ByteArray), ([] : List S32), (0 : Int), (0 : Int), (⟨#[]⟩ : ByteArray), ([] : List S32)⟩
def rd_T34 (xs : List S34) (i : Int) : S34 := xs.getD i.toNat z34
structure S38 where
  f0 : Int
  f1 : Int
  f2 : ByteArray
  f3 : (List S38)
def z38 : S38 := ⟨(0 : Int), (0 : Int), (⟨#[]⟩ : ByteArray), ([] : List S38)⟩
def rd_T38 (xs : List S38) (i : Int) : S38 := xs.getD i.toNat z38
structure S40 where
  f0 : Int
  f1 : Int
  f2 : Int
  f3 : ByteArray
  f4 : (List S38)
  f5 : Int
  f6 : Int
  f7 : ByteArray
  f8 : (List S38)
def z40 : S40 := ⟨(0 : Int), (0 : Int), (0 : Int), (⟨#[]⟩ : ByteArray), ([] : List S38), (0 : Int), (0 : Int), (⟨#[]⟩ : ByteArray), ([] : List S38)⟩
def rd_T40 (xs : List S40) (i : Int) : S40 := xs.getD i.toNat z40
structure S58 where
  f0 : Int
  f1 : Int
  f2 : ByteArray
  f3 : Bool
  f4 : (List S58)
def z58 : S58 := ⟨(0 : Int), (0 : Int), (⟨#[]⟩ : ByteArray), false, ([] : List S58)⟩
def rd_T58 (xs : List S58) (i : Int) : S58 := xs.getD i.toNat z58
def slices_Sort_string.f (l : List ByteArray) : Option (List ByteArray) := if l.length < 4611686018427387904 then some (((l.map fun s => s.data.toList).mergeSort fun x y => decide (x ≤ y)).map fun b => (⟨b.toArray⟩ : ByteArray)) else none
def slices_Compact_string.f (l : List ByteArray) : Option (List ByteArray) := if l.length ≤ 9223372036854775807 then some ((Lib.compact (l.map fun s => s.data.toList)).map fun b => (⟨b.toArray⟩ : ByteArray)) else none
def strings_Contains.f (a0 : ByteArray) (a1 : ByteArray) : Option (Bool) := if a0.size < 4294967281 then some (Lib.contains a0.data.toList a1.data.toList) else none
def strings_IndexByte.f (a0 : ByteArray) (a1 : Int) : Option (Int) := some (Lib.indexByte a0.data.toList a1.toNat.toUInt8)
inductive laws_szNode.Q where
  | laws_szNode_f (a0_0 : Int) (a0_1 : Int) (a0_2 : ByteArray) (l0_3 : List S32) (a1 : Int)
  | laws_szNodeS_f (l0 : List S32) (a1 : Int)
  | laws_szNodeS_l0 (x0 : List S32) (x1 : Int) (x5 : Int)
def laws_szNode.B : laws_szNode.Q → Pg laws_szNode.Q (fun _ => Int) (Int)
  | .laws_szNode_f a0_0 a0_1 a0_2 l0_3 a1 => if (wrap64 (a1 - (a0_2.size : Int))) < 0 then (.ret (-1)) else (.ask (.laws_szNodeS_f l0_3 ((wrap64 (a1 - (a0_2.size : Int))))) fun (t15 : Int) => (if t15 < 0 then (.ret (-1)) else (.ret t15)))
  | .laws_szNodeS_f l0 a1 => if (wrap64 (a1 - (l0.length : Int))) < 0 then (.ret (-1)) else (.to (.laws_szNodeS_l0 l0 ((wrap64 (a1 - (l0.length : Int)))) 0))
  | .laws_szNodeS_l0 x0 x1 x5 => if x5 < (x0.length : Int) then (if 0 ≤ x5 then (.ask (.laws_szNode_f ((rd_T32 x0 x5).f0) ((rd_T32 x0 x5).f1) ((rd_T32 x0 x5).f2) ((rd_T32 x0 x5).f3) x1) fun (t23 : Int) => (if t23 < 0 then (.ret (-1)) else (.to (.laws_szNodeS_l0 x0 t23 (wrap64 (x5 + 1)))))) else (.bad)) else (.ret x1)
def laws_szNode.fv (a0_0 : Int) (a0_1 : Int) (a0_2 : ByteArray) (l0_3 : List S32) (a1 : Int) : Option (Int) := lim laws_szNode.B (.laws_szNode_f a0_0 a0_1 a0_2 l0_3 a1)
def laws_szNodeS.fv (l0 : List S32) (a1 : Int) : Option (Int) := lim laws_szNode.B (.laws_szNodeS_f l0 a1)
def laws_szNodeS.l0v (x0 : List S32) (x1 : Int) (x5 : Int) : Option (Int) := lim laws_szNode.B (.laws_szNodeS_l0 x0 x1 x5)
theorem laws_szNode.fv_eq (a0_0 : Int) (a0_1 : Int) (a0_2 : ByteArray) (l0_3 : List S32) (a1 : Int) : laws_szNode.fv a0_0 a0_1 a0_2 l0_3 a1 = (if (wrap64 (a1 - (a0_2.size : Int))) < 0 then (some (-1)) else ((laws_szNodeS.fv l0_3 ((wrap64 (a1 - (a0_2.size : Int))))).bind fun t15 => (if t15 < 0 then (some (-1)) else (some t15)))) := by
  show lim laws_szNode.B (.laws_szNode_f a0_0 a0_1 a0_2 l0_3 a1) = _
  rw [lim_eq, laws_szNode.B]
  simp only [ev_ite, ev_opt, ev_ask, ev_to, ev_ret, ev_bad]
  try rfl
theorem laws_szNodeS.fv_eq (l0 : List S32) (a1 : Int) : laws_szNodeS.fv l0 a1 = (if (wrap64 (a1 - (l0.length : Int))) < 0 then (some (-1)) else (laws_szNodeS.l0v l0 ((wrap64 (a1 - (l0.length : Int)))) 0)) := by
  show lim laws_szNode.B (.laws_szNodeS_f l0 a1) = _
  rw [lim_eq, laws_szNode.B]
  simp only [ev_ite, ev_opt, ev_ask, ev_to, ev_ret, ev_bad]
  try rfl
theorem laws_szNodeS.l0v_eq (x0 : List S32) (x1 : Int) (x5 : Int) : laws_szNodeS.l0v x0 x1 x5 = (if x5 < (x0.length : Int) then (if 0 ≤ x5 then ((laws_szNode.fv ((rd_T32 x0 x5).f0) ((rd_T32 x0 x5).f1) ((rd_T32 x0 x5).f2) ((rd_T32 x0 x5).f3) x1).bind fun t23 => (if t23 < 0 then (some (-1)) else (laws_szNodeS.l0v x0 t23 (wrap64 (x5 + 1))))) else (none)) else (some x1)) := by
  show lim laws_szNode.B (.laws_szNodeS_l0 x0 x1 x5) = _
  rw [lim_eq, laws_szNode.B]
  simp only [ev_ite, ev_opt, ev_ask, ev_to, ev_ret, ev_bad]
  try rfl
def laws_szRule.fv (a0_0 : Int) (a0_1 : Int) (a0_2 : Int) (a0_3 : ByteArray) (l0_4 : List S32) (a0_5 : Int) (a0_6 : Int) (a0_7 : ByteArray) (l0_8 : List S32) (a1 : Int) : Option (Int) := (laws_szNode.fv a0_1 a0_2 a0_3 l0_4 a1).bind fun t8 => (if t8 < 0 then (some (-1)) else ((laws_szNode.fv a0_5 a0_6 a0_7 l0_8 t8).bind fun t14 => (if t14 < 0 then (some (-1)) else (some t14))))
theorem laws_szRule.fv_eq (a0_0 : Int) (a0_1 : Int) (a0_2 : Int) (a0_3 : ByteArray) (l0_4 : List S32) (a0_5 : Int) (a0_6 : Int) (a0_7 : ByteArray) (l0_8 : List S32) (a1 : Int) : laws_szRule.fv a0_0 a0_1 a0_2 a0_3 l0_4 a0_5 a0_6 a0_7 l0_8 a1 = ((laws_szNode.fv a0_1 a0_2 a0_3 l0_4 a1).bind fun t8 => (if t8 < 0 then (some (-1)) else ((laws_szNode.fv a0_5 a0_6 a0_7 l0_8 t8).bind fun t14 => (if t14 < 0 then (some (-1)) else (some t14))))) := by rw [laws_szRule.fv]
inductive laws_szRuleS.Q where
  | f (l0 : List S34) (a1 : Int)
  | l0 (x0 : List S34) (x1 : Int) (x5 : Int)
def laws_szRuleS.B : laws_szRuleS.Q → Pg laws_szRuleS.Q (fun _ => Int) (Int)
  | .f l0 a1 => if (wrap64 (a1 - (l0.length : Int))) < 0 then (.ret (-1)) else (.to (.l0 l0 ((wrap64 (a1 - (l0.length : Int)))) 0))
  | .l0 x0 x1 x5 => if x5 < (x0.length : Int) then (if 0 ≤ x5 then (.opt (laws_szRule.fv ((rd_T34 x0 x5).f0) ((rd_T34 x0 x5).f1) ((rd_T34 x0 x5).f2) ((rd_T34 x0 x5).f3) ((rd_T34 x0 x5).f4) ((rd_T34 x0 x5).f5) ((rd_T34 x0 x5).f6) ((rd_T34 x0 x5).f7) ((rd_T34 x0 x5).f8) x1) fun t23 => (if t23 < 0 then (.ret (-1)) else (.to (.l0 x0 t23 (wrap64 (x5 + 1)))))) else (.bad)) else (.ret x1)
def laws_szRuleS.fv (l0 : List S34) (a1 : Int) : Option (Int) := lim laws_szRuleS.B (.f l0 a1)
def laws_szRuleS.l0v (x0 : List S34) (x1 : Int) (x5 : Int) : Option (Int) := lim laws_szRuleS.B (.l0 x0 x1 x5)
theorem laws_szRuleS.fv_eq (l0 : List S34) (a1 : Int) : laws_szRuleS.fv l0 a1 = (if (wrap64 (a1 - (l0.length : Int))) < 0 then (some (-1)) else (laws_szRuleS.l0v l0 ((wrap64 (a1 - (l0.length : Int)))) 0)) := by
  show lim laws_szRuleS.B (.f l0 a1) = _
  rw [lim_eq, laws_szRuleS.B]
  simp only [ev_ite, ev_opt, ev_ask, ev_to, ev_ret, ev_bad]
  try rfl
theorem laws_szRuleS.l0v_eq (x0 : List S34) (x1 : Int) (x5 : Int) : laws_szRuleS.l0v x0 x1 x5 = (if x5 < (x0.length : Int) then (if 0 ≤ x5 then ((laws_szRule.fv ((rd_T34 x0 x5).f0) ((rd_T34 x0 x5).f1) ((rd_T34 x0 x5).f2) ((rd_T34 x0 x5).f3) ((rd_T34 x0 x5).f4) ((rd_T34 x0 x5).f5) ((rd_T34 x0 x5).f6) ((rd_T34 x0 x5).f7) ((rd_T34 x0 x5).f8) x1).bind fun t23 => (if t23 < 0 then (some (-1)) else (laws_szRuleS.l0v x0 t23 (wrap64 (x5 + 1))))) else (none)) else (some x1)) := by
  show lim laws_szRuleS.B (.l0 x0 x1 x5) = _
  rw [lim_eq, laws_szRuleS.B]
  simp only [ev_ite, ev_opt, ev_ask, ev_to, ev_ret, ev_bad]
  try rfl
inductive laws_toNode.Q where
  | laws_toNode_f (a0_0 : Int) (a0_1 : Int) (a0_2 : ByteArray) (l0_3 : List S32)
  | laws_toNodeS_f (l0 : List S32)
  | laws_toNodeS_l0 (x0 : List S32) (x3 : List S38) (x4 : Int)
abbrev laws_toNode.A : laws_toNode.Q → Type
  | .laws_toNode_f _ _ _ _ => Int × Int × ByteArray × (List S38)
  | .laws_toNodeS_f _ => (List S38)
  | .laws_toNodeS_l0 _ _ _ => (List S38)
def laws_toNode.B : (q : laws_toNode.Q) → Pg laws_toNode.Q laws_toNode.A (laws_toNode.A q)
  | .laws_toNode_f a0_0 a0_1 a0_2 l0_3 => .ask (laws_toNode.Q.laws_toNodeS_f l0_3) fun (t15 : (List S38)) => (.ret ((a0_0, a0_1, a0_2, t15) : Int × Int × ByteArray × (List S38)))
  | .laws_toNodeS_f l0 => if 0 ≤ (l0.length : Int) then (if ((l0.length : Int) : Int).toNat ≤ 5026338869833 then (.to (laws_toNode.Q.laws_toNodeS_l0 l0 ((List.replicate ((l0.length : Int) : Int).toNat z38)) 0)) else (.bad)) else (.bad)
  | .laws_toNodeS_l0 x0 x3 x4 => if x4 < (x0.length : Int) then (if 0 ≤ x4 then (.ask (laws_toNode.Q.laws_toNode_f ((rd_T32 x0 x4).f0) ((rd_T32 x0 x4).f1) ((rd_T32 x0 x4).f2) ((rd_T32 x0 x4).f3)) fun (t20 : Int × Int × ByteArray × (List S38)) => (if x4 < (x3.length : Int) then (.to (laws_toNode.Q.laws_toNodeS_l0 x0 (x3.set (x4 : Int).toNat (⟨t20.1, t20.2.1, t20.2.2.1, t20.2.2.2⟩ : S38)) (wrap64 (x4 + 1)))) else (.bad))) else (.bad)) else (.ret (x3 : (List S38)))
def laws_toNode.fv (a0_0 : Int) (a0_1 : Int) (a0_2 : ByteArray) (l0_3 : List S32) : Option (Int × Int × ByteArray × (List S38)) := lim laws_toNode.B (.laws_toNode_f a0_0 a0_1 a0_2 l0_3)
def laws_toNodeS.fv (l0 : List S32) : Option ((List S38)) := lim laws_toNode.B (.laws_toNodeS_f l0)
def laws_toNodeS.l0v (x0 : List S32) (x3 : List S38) (x4 : Int) : Option ((List S38)) := lim laws_toNode.B (.laws_toNodeS_l0 x0 x3 x4)
theorem laws_toNode.fv_eq (a0_0 : Int) (a0_1 : Int) (a0_2 : ByteArray) (l0_3 : List S32) : laws_toNode.fv a0_0 a0_1 a0_2 l0_3 = ((laws_toNodeS.fv l0_3).bind fun t15 => (some (a0_0, a0_1, a0_2, t15))) := by
  show lim laws_toNode.B (.laws_toNode_f a0_0 a0_1 a0_2 l0_3) = _
  rw [lim_eq, laws_toNode.B]
  simp only [ev_ite, ev_opt, ev_ask, ev_to, ev_ret, ev_bad]
  try rfl
theorem laws_toNodeS.fv_eq (l0 : List S32) : laws_toNodeS.fv l0 = (if 0 ≤ (l0.length : Int) then (if ((l0.length : Int) : Int).toNat ≤ 5026338869833 then (laws_toNodeS.l0v l0 ((List.replicate ((l0.length : Int) : Int).toNat z38)) 0) else (none)) else (none)) := by
  show lim laws_toNode.B (.laws_toNodeS_f l0) = _
  rw [lim_eq, laws_toNode.B]
  simp only [ev_ite, ev_opt, ev_ask, ev_to, ev_ret, ev_bad]
  try rfl
theorem laws_toNodeS.l0v_eq (x0 : List S32) (x3 : List S38) (x4 : Int) : laws_toNodeS.l0v x0 x3 x4 = (if x4 < (x0.length : Int) then (if 0 ≤ x4 then ((laws_toNode.fv ((rd_T32 x0 x4).f0) ((rd_T32 x0 x4).f1) ((rd_T32 x0 x4).f2) ((rd_T32 x0 x4).f3)).bind fun t20 => (if x4 < (x3.length : Int) then (laws_toNodeS.l0v x0 (x3.set (x4 : Int).toNat (⟨t20.1, t20.2.1, t20.2.2.1, t20.2.2.2⟩ : S38)) (wrap64 (x4 + 1))) else (none))) else (none)) else (some x3)) := by
  show lim laws_toNode.B (.laws_toNodeS_l0 x0 x3 x4) = _
  rw [lim_eq, laws_toNode.B]
  simp only [ev_ite, ev_opt, ev_ask, ev_to, ev_ret, ev_bad]
  try rfl
def laws_toRule.fv (a0_0 : Int) (a0_1 : Int) (a0_2 : Int) (a0_3 : ByteArray) (l0_4 : List S32) (a0_5 : Int) (a0_6 : Int) (a0_7 : ByteArray) (l0_8 : List S32) : Option (Int × Int × Int × ByteArray × (List S38) × Int × Int × ByteArray × (List S38)) := (laws_toNode.fv a0_1 a0_2 a0_3 l0_4).bind fun t9 => ((laws_toNode.fv a0_5 a0_6 a0_7 l0_8).bind fun t13 => (some (a0_0, t9.1, t9.2.1, t9.2.2.1, t9.2.2.2, t13.1, t13.2.1, t13.2.2.1, t13.2.2.2)))
theorem laws_toRule.fv_eq (a0_0 : Int) (a0_1 : Int) (a0_2 : Int) (a0_3 : ByteArray) (l0_4 : List S32) (a0_5 : Int) (a0_6 : Int) (a0_7 : ByteArray) (l0_8 : List S32) : laws_toRule.fv a0_0 a0_1 a0_2 a0_3 l0_4 a0_5 a0_6 a0_7 l0_8 = ((laws_toNode.fv a0_1 a0_2 a0_3 l0_4).bind fun t9 => ((laws_toNode.fv a0_5 a0_6 a0_7 l0_8).bind fun t13 => (some (a0_0, t9.1, t9.2.1, t9.2.2.1, t9.2.2.2, t13.1, t13.2.1, t13.2.2.1, t13.2.2.2)))) := by rw [laws_toRule.fv]
inductive laws_toRuleS.Q where
  | f (l0 : List S34)
  | l0 (x0 : List S34) (x3 : List S40) (x4 : Int)
def laws_toRuleS.B : laws_toRuleS.Q → Pg laws_toRuleS.Q (fun _ => (List S40)) ((List S40))
  | .f l0 => if 0 ≤ (l0.length : Int) then (if ((l0.length : Int) : Int).toNat ≤ 2345624805922 then (.to (.l0 l0 ((List.replicate ((l0.length : Int) : Int).toNat z40)) 0)) else (.bad)) else (.bad)
  | .l0 x0 x3 x4 => if x4 < (x0.length : Int) then (if 0 ≤ x4 then (.opt (laws_toRule.fv ((rd_T34 x0 x4).f0) ((rd_T34 x0 x4).f1) ((rd_T34 x0 x4).f2) ((rd_T34 x0 x4).f3) ((rd_T34 x0 x4).f4) ((rd_T34 x0 x4).f5) ((rd_T34 x0 x4).f6) ((rd_T34 x0 x4).f7) ((rd_T34 x0 x4).f8)) fun t20 => (if x4 < (x3.length : Int) then (.to (.l0 x0 (x3.set (x4 : Int).toNat (⟨t20.1, t20.2.1, t20.2.2.1, t20.2.2.2.1, t20.2.2.2.2.1, t20.2.2.2.2.2.1, t20.2.2.2.2.2.2.1, t20.2.2.2.2.2.2.2.1, t20.2.2.2.2.2.2.2.2⟩ : S40)) (wrap64 (x4 + 1)))) else (.bad))) else (.bad)) else (.ret x3)
def laws_toRuleS.fv (l0 : List S34) : Option ((List S40)) := lim laws_toRuleS.B (.f l0)
def laws_toRuleS.l0v (x0 : List S34) (x3 : List S40) (x4 : Int) : Option ((List S40)) := lim laws_toRuleS.B (.l0 x0 x3 x4)
theorem laws_toRuleS.fv_eq (l0 : List S34) : laws_toRuleS.fv l0 = (if 0 ≤ (l0.length : Int) then (if ((l0.length : Int) : Int).toNat ≤ 2345624805922 then (laws_toRuleS.l0v l0 ((List.replicate ((l0.length : Int) : Int).toNat z40)) 0) else (none)) else (none)) := by
  show lim laws_toRuleS.B (.f l0) = _
  rw [lim_eq, laws_toRuleS.B]
  simp only [ev_ite, ev_opt, ev_ask, ev_to, ev_ret, ev_bad]
  try rfl
theorem laws_toRuleS.l0v_eq (x0 : List S34) (x3 : List S40) (x4 : Int) : laws_toRuleS.l0v x0 x3 x4 = (if x4 < (x0.length : Int) then (if 0 ≤ x4 then ((laws_toRule.fv ((rd_T34 x0 x4).f0) ((rd_T34 x0 x4).f1) ((rd_T34 x0 x4).f2) ((rd_T34 x0 x4).f3) ((rd_T34 x0 x4).f4) ((rd_T34 x0 x4).f5) ((rd_T34 x0 x4).f6) ((rd_T34 x0 x4).f7) ((rd_T34 x0 x4).f8)).bind fun t20 => (if x4 < (x3.length : Int) then (laws_toRuleS.l0v x0 (x3.set (x4 : Int).toNat (⟨t20.1, t20.2.1, t20.2.2.1, t20.2.2.2.1, t20.2.2.2.2.1, t20.2.2.2.2.2.1, t20.2.2.2.2.2.2.1, t20.2.2.2.2.2.2.2.1, t20.2.2.2.2.2.2.2.2⟩ : S40)) (wrap64 (x4 + 1))) else (none))) else (none)) else (some x3)) := by
  show lim laws_toRuleS.B (.l0 x0 x3 x4) = _
  rw [lim_eq, laws_toRuleS.B]
  simp only [ev_ite, ev_opt, ev_ask, ev_to, ev_ret, ev_bad]
  try rfl
def spec_l1In.f (a0 : Int) (a1 : Int) (a2 : Int) : Option (Bool) := if a0 ≥ a1 then (some (decide (a0 ≤ a2))) else (some false)
def spec_l9IsE.f (a0 : Int) : Option (Bool) := (spec_l1In.f a0 1 28).bind fun t4 => (some t4)
inductive spec_l9Line.Q where
  | f (a0 : ByteArray)
  | l0 (x0 : ByteArray) (x3 : Int)
def spec_l9Line.B : spec_l9Line.Q → Pg spec_l9Line.Q (fun _ => Bool) (Bool)
  | .f a0 => .to (.l0 a0 0)
  | .l0 x0 x3 => if x3 < (x0.size : Int) then (if 0 ≤ x3 then (if (bt x0 x3) = 10 then (.ret false) else (.to (.l0 x0 (wrap64 (x3 + 1))))) else (.bad)) else (.ret true)
def spec_l9Line.fv (a0 : ByteArray) : Option (Bool) := lim spec_l9Line.B (.f a0)
def spec_l9Line.l0v (x0 : ByteArray) (x3 : Int) : Option (Bool) := lim spec_l9Line.B (.l0 x0 x3)
theorem spec_l9Line.fv_eq (a0 : ByteArray) : spec_l9Line.fv a0 = (spec_l9Line.l0v a0 0) := by
  show lim spec_l9Line.B (.f a0) = _
  rw [lim_eq, spec_l9Line.B]
  simp only [ev_ite, ev_opt, ev_ask, ev_to, ev_ret, ev_bad]
  try rfl
theorem spec_l9Line.l0v_eq (x0 : ByteArray) (x3 : Int) : spec_l9Line.l0v x0 x3 = (if x3 < (x0.size : Int) then (if 0 ≤ x3 then (if (bt x0 x3) = 10 then (some false) else (spec_l9Line.l0v x0 (wrap64 (x3 + 1)))) else (none)) else (some true)) := by
  show lim spec_l9Line.B (.l0 x0 x3) = _
  rw [lim_eq, spec_l9Line.B]
  simp only [ev_ite, ev_opt, ev_ask, ev_to, ev_ret, ev_bad]
  try rfl
inductive spec_l9Rex.Q where
  | f (a0 : ByteArray)
  | l0 (x0 : ByteArray) (x3 : Int)
def spec_l9Rex.B : spec_l9Rex.Q → Pg spec_l9Rex.Q (fun _ => Bool) (Bool)
  | .f a0 => .to (.l0 a0 0)
  | .l0 x0 x3 => if x3 < (x0.size : Int) then (if 0 ≤ x3 then (if (bt x0 x3) = 92 then (if (wrap64 (x3 + 1)) = (x0.size : Int) then (.ret false) else (if 0 ≤ (wrap64 (x3 + 1)) then (if (wrap64 (x3 + 1)) < (x0.size : Int) then (if (bt x0 (wrap64 (x3 + 1))) = 47 then (.ret false) else (.to (.l0 x0 ((wrap64 ((wrap64 (x3 + 1)) + 1)))))) else (.bad)) else (.bad))) else (.to (.l0 x0 (wrap64 (x3 + 1))))) else (.bad)) else (.opt (spec_l9Line.fv x0) fun t27 => (.ret t27))
def spec_l9Rex.fv (a0 : ByteArray) : Option (Bool) := lim spec_l9Rex.B (.f a0)
def spec_l9Rex.l0v (x0 : ByteArray) (x3 : Int) : Option (Bool) := lim spec_l9Rex.B (.l0 x0 x3)
theorem spec_l9Rex.fv_eq (a0 : ByteArray) : spec_l9Rex.fv a0 = (spec_l9Rex.l0v a0 0) := by
  show lim spec_l9Rex.B (.f a0) = _
  rw [lim_eq, spec_l9Rex.B]
  simp only [ev_ite, ev_opt, ev_ask, ev_to, ev_ret, ev_bad]
  try rfl
theorem spec_l9Rex.l0v_eq (x0 : ByteArray) (x3 : Int) : spec_l9Rex.l0v x0 x3 = (if x3 < (x0.size : Int) then (if 0 ≤ x3 then (if (bt x0 x3) = 92 then (if (wrap64 (x3 + 1)) = (x0.size : Int) then (some false) else (if 0 ≤ (wrap64 (x3 + 1)) then (if (wrap64 (x3 + 1)) < (x0.size : Int) then (if (bt x0 (wrap64 (x3 + 1))) = 47 then (some false) else (spec_l9Rex.l0v x0 ((wrap64 ((wrap64 (x3 + 1)) + 1))))) else (none)) else (none))) else (spec_l9Rex.l0v x0 (wrap64 (x3 + 1)))) else (none)) else ((spec_l9Line.fv x0).bind fun t27 => (some t27))) := by
  show lim spec_l9Rex.B (.l0 x0 x3) = _
  rw [lim_eq, spec_l9Rex.B]
  simp only [ev_ite, ev_opt, ev_ask, ev_to, ev_ret, ev_bad]
  try rfl
def spec_l7Letter.f (a0 : Int) : Option (Bool) := if a0 ≥ 97 then (if a0 ≤ 122 then (some true) else (if a0 ≥ 65 then (some (decide (a0 ≤ 90))) else (some false))) else (if a0 ≥ 65 then (some (decide (a0 ≤ 90))) else (some false))
inductive spec_l7Within.Q where
  | f (l0 : List ByteArray) (a1 : ByteArray)
  | l0 (x0 : List ByteArray) (x1 : ByteArray) (x5 : Int)
def spec_l7Within.B : spec_l7Within.Q → Pg spec_l7Within.Q (fun _ => Bool) (Bool)
  | .f l0 a1 => .to (.l0 l0 a1 0)
  | .l0 x0 x1 x5 => if x5 < (x0.length : Int) then (if 0 ≤ x5 then (if (rdOf ByteArray.empty x0 x5).toList = x1.toList then (.ret true) else (.to (.l0 x0 x1 (wrap64 (x5 + 1))))) else (.bad)) else (.ret false)
def spec_l7Within.fv (l0 : List ByteArray) (a1 : ByteArray) : Option (Bool) := lim spec_l7Within.B (.f l0 a1)
def spec_l7Within.l0v (x0 : List ByteArray) (x1 : ByteArray) (x5 : Int) : Option (Bool) := lim spec_l7Within.B (.l0 x0 x1 x5)
theorem spec_l7Within.fv_eq (l0 : List ByteArray) (a1 : ByteArray) : spec_l7Within.fv l0 a1 = (spec_l7Within.l0v l0 a1 0) := by
  show lim spec_l7Within.B (.f l0 a1) = _
  rw [lim_eq, spec_l7Within.B]
  simp only [ev_ite, ev_opt, ev_ask, ev_to, ev_ret, ev_bad]
  try rfl
theorem spec_l7Within.l0v_eq (x0 : List ByteArray) (x1 : ByteArray) (x5 : Int) : spec_l7Within.l0v x0 x1 x5 = (if x5 < (x0.length : Int) then (if 0 ≤ x5 then (if (rdOf ByteArray.empty x0 x5).toList = x1.toList then (some true) else (spec_l7Within.l0v x0 x1 (wrap64 (x5 + 1)))) else (none)) else (some false)) := by
  show lim spec_l7Within.B (.l0 x0 x1 x5) = _
  rw [lim_eq, spec_l7Within.B]
  simp only [ev_ite, ev_opt, ev_ask, ev_to, ev_ret, ev_bad]
  try rfl
def spec_l7Calls.f  : Option ((List ByteArray)) := (some ([(⟨#[108, 101, 110, 103, 116, 104]⟩ : ByteArray), (⟨#[115, 117, 98, 115, 116, 114]⟩ : ByteArray), (⟨#[105, 110, 100, 101, 120]⟩ : ByteArray), (⟨#[105, 110, 116]⟩ : ByteArray), (⟨#[117, 112, 112, 101, 114]⟩ : ByteArray), (⟨#[108, 111, 119, 101, 114]⟩ : ByteArray)] : List ByteArray)).bind fun y1_0 => (some y1_0)
def spec_Keyword.fv (a0 : ByteArray) : Option (Bool) := (some ([(⟨#[66, 69, 71, 73, 78]⟩ : ByteArray), (⟨#[112, 114, 105, 110, 116]⟩ : ByteArray), (⟨#[105, 102]⟩ : ByteArray), (⟨#[101, 108, 115, 101]⟩ : ByteArray), (⟨#[119, 104, 105, 108, 101]⟩ : ByteArray), (⟨#[110, 101, 120, 116]⟩ : ByteArray), (⟨#[100, 101, 108, 101, 116, 101]⟩ : ByteArray), (⟨#[78, 82]⟩ : ByteArray), (⟨#[78, 70]⟩ : ByteArray)] : List ByteArray)).bind fun y1_0 => ((spec_l7Within.fv y1_0 a0).bind fun t5 => (if t5 = true then (some true) else ((spec_l7Calls.f).bind fun t7 => ((spec_l7Within.fv t7 a0).bind fun t9 => (some t9)))))
theorem spec_Keyword.fv_eq (a0 : ByteArray) : spec_Keyword.fv a0 = ((some ([(⟨#[66, 69, 71, 73, 78]⟩ : ByteArray), (⟨#[112, 114, 105, 110, 116]⟩ : ByteArray), (⟨#[105, 102]⟩ : ByteArray), (⟨#[101, 108, 115, 101]⟩ : ByteArray), (⟨#[119, 104, 105, 108, 101]⟩ : ByteArray), (⟨#[110, 101, 120, 116]⟩ : ByteArray), (⟨#[100, 101, 108, 101, 116, 101]⟩ : ByteArray), (⟨#[78, 82]⟩ : ByteArray), (⟨#[78, 70]⟩ : ByteArray)] : List ByteArray)).bind fun y1_0 => ((spec_l7Within.fv y1_0 a0).bind fun t5 => (if t5 = true then (some true) else ((spec_l7Calls.f).bind fun t7 => ((spec_l7Within.fv t7 a0).bind fun t9 => (some t9)))))) := by rw [spec_Keyword.fv]
inductive spec_l9Name.Q where
  | f (a0 : ByteArray)
  | l0 (x0 : ByteArray) (x3 : Int)
def spec_l9Name.B : spec_l9Name.Q → Pg spec_l9Name.Q (fun _ => Bool) (Bool)
  | .f a0 => .to (.l0 a0 0)
  | .l0 x0 x3 => if x3 < (x0.size : Int) then (if 0 ≤ x3 then (.opt (spec_l7Letter.f (bt x0 x3)) fun t13 => (if t13 = true then (.to (.l0 x0 (wrap64 (x3 + 1)))) else (.ret false))) else (.bad)) else (.opt (spec_l1In.f (x0.size : Int) 1 8) fun t17 => (if t17 = true then (.opt (spec_Keyword.fv x0) fun t20 => (.ret (!t20))) else (.ret false)))
def spec_l9Name.fv (a0 : ByteArray) : Option (Bool) := lim spec_l9Name.B (.f a0)
def spec_l9Name.l0v (x0 : ByteArray) (x3 : Int) : Option (Bool) := lim spec_l9Name.B (.l0 x0 x3)
theorem spec_l9Name.fv_eq (a0 : ByteArray) : spec_l9Name.fv a0 = (spec_l9Name.l0v a0 0) := by
  show lim spec_l9Name.B (.f a0) = _
  rw [lim_eq, spec_l9Name.B]
  simp only [ev_ite, ev_opt, ev_ask, ev_to, ev_ret, ev_bad]
  try rfl
theorem spec_l9Name.l0v_eq (x0 : ByteArray) (x3 : Int) : spec_l9Name.l0v x0 x3 = (if x3 < (x0.size : Int) then (if 0 ≤ x3 then ((spec_l7Letter.f (bt x0 x3)).bind fun t13 => (if t13 = true then (spec_l9Name.l0v x0 (wrap64 (x3 + 1))) else (some false))) else (none)) else ((spec_l1In.f (x0.size : Int) 1 8).bind fun t17 => (if t17 = true then ((spec_Keyword.fv x0).bind fun t20 => (some (!t20))) else (some false)))) := by
  show lim spec_l9Name.B (.l0 x0 x3) = _
  rw [lim_eq, spec_l9Name.B]
  simp only [ev_ite, ev_opt, ev_ask, ev_to, ev_ret, ev_bad]
  try rfl
inductive spec_l9Node.Q where
  | spec_l9Node_f (a0_0 : Int) (a0_1 : Int) (a0_2 : ByteArray) (l0_3 : List S38)
  | spec_l9Node_j0 (x21 : Bool) (x16_0 : Int) (x16_1 : Int) (x16_2 : ByteArray) (x16_3 : List S38)
  | spec_l9Node_j1 (x23 : Int) (x44 : Bool) (x16_0 : Int) (x16_1 : Int) (x16_2 : ByteArray) (x16_3 : List S38)
  | spec_l9Kids_f (a0_0 : Int) (a0_1 : Int) (a0_2 : ByteArray) (l0_3 : List S38)
  | spec_l9Kids_j0 (x3 : Int) (x9 : Int) (x10 : Bool) (x16_0 : Int) (x16_1 : Int) (x16_2 : ByteArray) (x16_3 : List S38)
  | spec_l9Kids_j1 (x3 : Int) (x9 : Int) (x23 : Bool) (x16_0 : Int) (x16_1 : Int) (x16_2 : ByteArray) (x16_3 : List S38)
  | spec_l9Kids_j2 (x3 : Int) (x9 : Int) (x45 : Bool) (x16_0 : Int) (x16_1 : Int) (x16_2 : ByteArray) (x16_3 : List S38)
  | spec_l9Kids_j3 (x3 : Int) (x9 : Int) (x70 : Bool) (x16_0 : Int) (x16_1 : Int) (x16_2 : ByteArray) (x16_3 : List S38)
  | spec_l9Kids_l0 (x3 : Int) (x4 : Int) (x16_0 : Int) (x16_1 : Int) (x16_2 : ByteArray) (x16_3 : List S38)
  | spec_l9Es_f (a0_0 : Int) (a0_1 : Int) (a0_2 : ByteArray) (l0_3 : List S38) (a1 : Int) (a2 : Int)
  | spec_l9Es_l0 (x2 : Int) (x7 : Int) (x16_0 : Int) (x16_1 : Int) (x16_2 : ByteArray) (x16_3 : List S38)
  | spec_l9Blocks_f (a0_0 : Int) (a0_1 : Int) (a0_2 : ByteArray) (l0_3 : List S38) (a1 : Int)
  | spec_l9Blocks_l0 (x5 : Int) (x16_0 : Int) (x16_1 : Int) (x16_2 : ByteArray) (x16_3 : List S38)
def spec_l9Node.B : spec_l9Node.Q → Pg spec_l9Node.Q (fun _ => Bool) (Bool)
  | .spec_l9Node_f a0_0 a0_1 a0_2 l0_3 => .ask (.spec_l9Kids_f a0_0 a0_1 a0_2 l0_3) fun (t4 : Bool) => (if t4 = true then (.opt (spec_l1In.f a0_0 1 35) fun t9 => (if t9 = true then (if a0_1 = 0 then (.to (.spec_l9Node_j0 false a0_0 a0_1 a0_2 l0_3)) else (.to (.spec_l9Node_j0 (a0_0 != 1) a0_0 a0_1 a0_2 l0_3))) else (.to (.spec_l9Node_j0 true a0_0 a0_1 a0_2 l0_3)))) else (.to (.spec_l9Node_j0 true a0_0 a0_1 a0_2 l0_3)))
  | .spec_l9Node_j0 x21 x16_0 x16_1 x16_2 x16_3 => if x21 = true then (.ret false) else (if x16_0 = 1 then (if x16_2.toList = ([] : List UInt8) then (.opt (spec_l1In.f x16_1 0 9000000000000) fun t32 => (.ret t32)) else (.ret false)) else (if x16_0 = 2 then (.opt (spec_l9Line.fv x16_2) fun t38 => (.ret t38)) else (if x16_0 = 3 then (.opt (spec_l9Rex.fv x16_2) fun t43 => (.ret t43)) else (if x16_0 = 4 then (.to (.spec_l9Node_j1 x16_0 (x16_0 == 4) x16_0 x16_1 x16_2 x16_3)) else (if x16_0 = 5 then (.to (.spec_l9Node_j1 x16_0 (x16_0 == 5) x16_0 x16_1 x16_2 x16_3)) else (.to (.spec_l9Node_j1 x16_0 (x16_0 == 34) x16_0 x16_1 x16_2 x16_3)))))))
  | .spec_l9Node_j1 x23 x44 x16_0 x16_1 x16_2 x16_3 => if x44 = true then (.opt (spec_l9Name.fv x16_2) fun t50 => (.ret t50)) else (if x23 = 28 then (.opt (spec_l7Calls.f) fun t53 => (.opt (spec_l7Within.fv t53 x16_2) fun t56 => (.ret t56))) else (.ret (x16_2.toList == (⟨#[]⟩ : ByteArray).toList)))
  | .spec_l9Kids_f a0_0 a0_1 a0_2 l0_3 => if a0_0 = 5 then (.to (.spec_l9Kids_j0 (l0_3.length : Int) a0_0 (a0_0 == 5) a0_0 a0_1 a0_2 l0_3)) else (if a0_0 = 6 then (.to (.spec_l9Kids_j0 (l0_3.length : Int) a0_0 (a0_0 == 6) a0_0 a0_1 a0_2 l0_3)) else (if a0_0 = 22 then (.to (.spec_l9Kids_j0 (l0_3.length : Int) a0_0 (a0_0 == 22) a0_0 a0_1 a0_2 l0_3)) else (if a0_0 = 23 then (.to (.spec_l9Kids_j0 (l0_3.length : Int) a0_0 (a0_0 == 23) a0_0 a0_1 a0_2 l0_3)) else (if a0_0 = 34 then (.to (.spec_l9Kids_j0 (l0_3.length : Int) a0_0 (a0_0 == 34) a0_0 a0_1 a0_2 l0_3)) else (.to (.spec_l9Kids_j0 (l0_3.length : Int) a0_0 (a0_0 == 35) a0_0 a0_1 a0_2 l0_3))))))
  | .spec_l9Kids_j0 x3 x9 x10 x16_0 x16_1 x16_2 x16_3 => if x10 = true then (if x3 = 1 then (.ask (.spec_l9Es_f x16_0 x16_1 x16_2 x16_3 0 1) fun (t21 : Bool) => (.ret t21)) else (.ret false)) else (if x9 = 9 then (.to (.spec_l9Kids_j1 x3 x9 (x9 == 9) x16_0 x16_1 x16_2 x16_3)) else (if x9 = 10 then (.to (.spec_l9Kids_j1 x3 x9 (x9 == 10) x16_0 x16_1 x16_2 x16_3)) else (if x9 = 11 then (.to (.spec_l9Kids_j1 x3 x9 (x9 == 11) x16_0 x16_1 x16_2 x16_3)) else (if x9 = 12 then (.to (.spec_l9Kids_j1 x3 x9 (x9 == 12) x16_0 x16_1 x16_2 x16_3)) else (if x9 = 13 then (.to (.spec_l9Kids_j1 x3 x9 (x9 == 13) x16_0 x16_1 x16_2 x16_3)) else (if x9 = 14 then (.to (.spec_l9Kids_j1 x3 x9 (x9 == 14) x16_0 x16_1 x16_2 x16_3)) else (if x9 = 15 then (.to (.spec_l9Kids_j1 x3 x9 (x9 == 15) x16_0 x16_1 x16_2 x16_3)) else (if x9 = 16 then (.to (.spec_l9Kids_j1 x3 x9 (x9 == 16) x16_0 x16_1 x16_2 x16_3)) else (if x9 = 17 then (.to (.spec_l9Kids_j1 x3 x9 (x9 == 17) x16_0 x16_1 x16_2 x16_3)) else (if x9 = 18 then (.to (.spec_l9Kids_j1 x3 x9 (x9 == 18) x16_0 x16_1 x16_2 x16_3)) else (if x9 = 19 then (.to (.spec_l9Kids_j1 x3 x9 (x9 == 19) x16_0 x16_1 x16_2 x16_3)) else (if x9 = 20 then (.to (.spec_l9Kids_j1 x3 x9 (x9 == 20) x16_0 x16_1 x16_2 x16_3)) else (if x9 = 21 then (.to (.spec_l9Kids_j1 x3 x9 (x9 == 21) x16_0 x16_1 x16_2 x16_3)) else (if x9 = 24 then (.to (.spec_l9Kids_j1 x3 x9 (x9 == 24) x16_0 x16_1 x16_2 x16_3)) else (.to (.spec_l9Kids_j1 x3 x9 (x9 == 25) x16_0 x16_1 x16_2 x16_3))))))))))))))))
  | .spec_l9Kids_j1 x3 x9 x23 x16_0 x16_1 x16_2 x16_3 => if x23 = true then (if x3 = 2 then (.ask (.spec_l9Es_f x16_0 x16_1 x16_2 x16_3 0 2) fun (t43 : Bool) => (.ret t43)) else (.ret false)) else (if x9 = 26 then (.to (.spec_l9Kids_j2 x3 x9 (x9 == 26) x16_0 x16_1 x16_2 x16_3)) else (.to (.spec_l9Kids_j2 x3 x9 (x9 == 27) x16_0 x16_1 x16_2 x16_3)))
  | .spec_l9Kids_j2 x3 x9 x45 x16_0 x16_1 x16_2 x16_3 => if x45 = true then (if x3 = 2 then (if 0 < (x16_3.length : Int) then (if (rd_T38 x16_3 0).f0 = 4 then (.ask (.spec_l9Es_f x16_0 x16_1 x16_2 x16_3 0 2) fun (t68 : Bool) => (.ret t68)) else (if (rd_T38 x16_3 0).f0 = 5 then (.ask (.spec_l9Es_f x16_0 x16_1 x16_2 x16_3 0 2) fun (t68 : Bool) => (.ret t68)) else (.ret false))) else (.bad)) else (.ret false)) else (if x9 = 28 then (.to (.spec_l9Kids_j3 x3 x9 (x9 == 28) x16_0 x16_1 x16_2 x16_3)) else (.to (.spec_l9Kids_j3 x3 x9 (x9 == 30) x16_0 x16_1 x16_2 x16_3)))
  | .spec_l9Kids_j3 x3 x9 x70 x16_0 x16_1 x16_2 x16_3 => if x70 = true then (.ask (.spec_l9Es_f x16_0 x16_1 x16_2 x16_3 0 x3) fun (t75 : Bool) => (.ret t75)) else (if x9 = 31 then (.opt (spec_l1In.f x3 2 3) fun t79 => (if t79 = true then (.ask (.spec_l9Es_f x16_0 x16_1 x16_2 x16_3 0 1) fun (t82 : Bool) => (if t82 = true then (.ask (.spec_l9Blocks_f x16_0 x16_1 x16_2 x16_3 1) fun (t86 : Bool) => (.ret t86)) else (.ret false))) else (.ret false))) else (if x9 = 32 then (if x3 = 2 then (.ask (.spec_l9Es_f x16_0 x16_1 x16_2 x16_3 0 1) fun (t94 : Bool) => (if t94 = true then (.ask (.spec_l9Blocks_f x16_0 x16_1 x16_2 x16_3 1) fun (t98 : Bool) => (.ret t98)) else (.ret false))) else (.ret false)) else (if x9 = 29 then (.to (.spec_l9Kids_l0 x3 0 x16_0 x16_1 x16_2 x16_3)) else (.ret (x3 == 0)))))
  | .spec_l9Kids_l0 x3 x4 x16_0 x16_1 x16_2 x16_3 => if x4 < x3 then (if 0 ≤ x4 then (if x4 < (x16_3.length : Int) then (.opt (spec_l1In.f ((rd_T38 x16_3 x4).f0) 29 35) fun t113 => (if t113 = true then (.ask (.spec_l9Node_f ((rd_T38 x16_3 x4).f0) ((rd_T38 x16_3 x4).f1) ((rd_T38 x16_3 x4).f2) ((rd_T38 x16_3 x4).f3)) fun (t121 : Bool) => (if t121 = true then (.to (.spec_l9Kids_l0 x3 (wrap64 (x4 + 1)) x16_0 x16_1 x16_2 x16_3)) else (.ret false))) else (.ret false))) else (.bad)) else (.bad)) else (.ret true)
  | .spec_l9Es_f a0_0 a0_1 a0_2 l0_3 a1 a2 => .to (.spec_l9Es_l0 a2 a1 a0_0 a0_1 a0_2 l0_3)
  | .spec_l9Es_l0 x2 x7 x16_0 x16_1 x16_2 x16_3 => if x7 < x2 then (if 0 ≤ x7 then (if x7 < (x16_3.length : Int) then (.opt (spec_l9IsE.f ((rd_T38 x16_3 x7).f0)) fun t20 => (if t20 = true then (.ask (.spec_l9Node_f ((rd_T38 x16_3 x7).f0) ((rd_T38 x16_3 x7).f1) ((rd_T38 x16_3 x7).f2) ((rd_T38 x16_3 x7).f3)) fun (t28 : Bool) => (if t28 = true then (.to (.spec_l9Es_l0 x2 (wrap64 (x7 + 1)) x16_0 x16_1 x16_2 x16_3)) else (.ret false))) else (.ret false))) else (.bad)) else (.bad)) else (.ret true)
  | .spec_l9Blocks_f a0_0 a0_1 a0_2 l0_3 a1 => .to (.spec_l9Blocks_l0 a1 a0_0 a0_1 a0_2 l0_3)
  | .spec_l9Blocks_l0 x5 x16_0 x16_1 x16_2 x16_3 => if x5 < (x16_3.length : Int) then (if 0 ≤ x5 then (if (rd_T38 x16_3 x5).f0 = 29 then (.ask (.spec_l9Node_f ((rd_T38 x16_3 x5).f0) ((rd_T38 x16_3 x5).f1) ((rd_T38 x16_3 x5).f2) ((rd_T38 x16_3 x5).f3)) fun (t27 : Bool) => (if t27 = true then (.to (.spec_l9Blocks_l0 (wrap64 (x5 + 1)) x16_0 x16_1 x16_2 x16_3)) else (.ret false))) else (.ret false)) else (.bad)) else (.ret true)
def spec_l9Node.fv (a0_0 : Int) (a0_1 : Int) (a0_2 : ByteArray) (l0_3 : List S38) : Option (Bool) := lim spec_l9Node.B (.spec_l9Node_f a0_0 a0_1 a0_2 l0_3)
def spec_l9Node.j0v (x21 : Bool) (x16_0 : Int) (x16_1 : Int) (x16_2 : ByteArray) (x16_3 : List S38) : Option (Bool) := lim spec_l9Node.B (.spec_l9Node_j0 x21 x16_0 x16_1 x16_2 x16_3)
def spec_l9Node.j1v (x23 : Int) (x44 : Bool) (x16_0 : Int) (x16_1 : Int) (x16_2 : ByteArray) (x16_3 : List S38) : Option (Bool) := lim spec_l9Node.B (.spec_l9Node_j1 x23 x44 x16_0 x16_1 x16_2 x16_3)
def spec_l9Kids.fv (a0_0 : Int) (a0_1 : Int) (a0_2 : ByteArray) (l0_3 : List S38) : Option (Bool) := lim spec_l9Node.B (.spec_l9Kids_f a0_0 a0_1 a0_2 l0_3)
def spec_l9Kids.j0v (x3 : Int) (x9 : Int) (x10 : Bool) (x16_0 : Int) (x16_1 : Int) (x16_2 : ByteArray) (x16_3 : List S38) : Option (Bool) := lim spec_l9Node.B (.spec_l9Kids_j0 x3 x9 x10 x16_0 x16_1 x16_2 x16_3)
def spec_l9Kids.j1v (x3 : Int) (x9 : Int) (x23 : Bool) (x16_0 : Int) (x16_1 : Int) (x16_2 : ByteArray) (x16_3 : List S38) : Option (Bool) := lim spec_l9Node.B (.spec_l9Kids_j1 x3 x9 x23 x16_0 x16_1 x16_2 x16_3)
def spec_l9Kids.j2v (x3 : Int) (x9 : Int) (x45 : Bool) (x16_0 : Int) (x16_1 : Int) (x16_2 : ByteArray) (x16_3 : List S38) : Option (Bool) := lim spec_l9Node.B (.spec_l9Kids_j2 x3 x9 x45 x16_0 x16_1 x16_2 x16_3)
def spec_l9Kids.j3v (x3 : Int) (x9 : Int) (x70 : Bool) (x16_0 : Int) (x16_1 : Int) (x16_2 : ByteArray) (x16_3 : List S38) : Option (Bool) := lim spec_l9Node.B (.spec_l9Kids_j3 x3 x9 x70 x16_0 x16_1 x16_2 x16_3)
def spec_l9Kids.l0v (x3 : Int) (x4 : Int) (x16_0 : Int) (x16_1 : Int) (x16_2 : ByteArray) (x16_3 : List S38) : Option (Bool) := lim spec_l9Node.B (.spec_l9Kids_l0 x3 x4 x16_0 x16_1 x16_2 x16_3)
def spec_l9Es.fv (a0_0 : Int) (a0_1 : Int) (a0_2 : ByteArray) (l0_3 : List S38) (a1 : Int) (a2 : Int) : Option (Bool) := lim spec_l9Node.B (.spec_l9Es_f a0_0 a0_1 a0_2 l0_3 a1 a2)
def spec_l9Es.l0v (x2 : Int) (x7 : Int) (x16_0 : Int) (x16_1 : Int) (x16_2 : ByteArray) (x16_3 : List S38) : Option (Bool) := lim spec_l9Node.B (.spec_l9Es_l0 x2 x7 x16_0 x16_1 x16_2 x16_3)
def spec_l9Blocks.fv (a0_0 : Int) (a0_1 : Int) (a0_2 : ByteArray) (l0_3 : List S38) (a1 : Int) : Option (Bool) := lim spec_l9Node.B (.spec_l9Blocks_f a0_0 a0_1 a0_2 l0_3 a1)
def spec_l9Blocks.l0v (x5 : Int) (x16_0 : Int) (x16_1 : Int) (x16_2 : ByteArray) (x16_3 : List S38) : Option (Bool) := lim spec_l9Node.B (.spec_l9Blocks_l0 x5 x16_0 x16_1 x16_2 x16_3)
theorem spec_l9Node.fv_eq (a0_0 : Int) (a0_1 : Int) (a0_2 : ByteArray) (l0_3 : List S38) : spec_l9Node.fv a0_0 a0_1 a0_2 l0_3 = ((spec_l9Kids.fv a0_0 a0_1 a0_2 l0_3).bind fun t4 => (if t4 = true then ((spec_l1In.f a0_0 1 35).bind fun t9 => (if t9 = true then (if a0_1 = 0 then (spec_l9Node.j0v false a0_0 a0_1 a0_2 l0_3) else (spec_l9Node.j0v (a0_0 != 1) a0_0 a0_1 a0_2 l0_3)) else (spec_l9Node.j0v true a0_0 a0_1 a0_2 l0_3))) else (spec_l9Node.j0v true a0_0 a0_1 a0_2 l0_3))) := by
  show lim spec_l9Node.B (.spec_l9Node_f a0_0 a0_1 a0_2 l0_3) = _
  rw [lim_eq, spec_l9Node.B]
  simp only [ev_ite, ev_opt, ev_ask, ev_to, ev_ret, ev_bad]
  try rfl
theorem spec_l9Node.j0v_eq (x21 : Bool) (x16_0 : Int) (x16_1 : Int) (x16_2 : ByteArray) (x16_3 : List S38) : spec_l9Node.j0v x21 x16_0 x16_1 x16_2 x16_3 = (if x21 = true then (some false) else (if x16_0 = 1 then (if x16_2.toList = ([] : List UInt8) then ((spec_l1In.f x16_1 0 9000000000000).bind fun t32 => (some t32)) else (some false)) else (if x16_0 = 2 then ((spec_l9Line.fv x16_2).bind fun t38 => (some t38)) else (if x16_0 = 3 then ((spec_l9Rex.fv x16_2).bind fun t43 => (some t43)) else (if x16_0 = 4 then (spec_l9Node.j1v x16_0 (x16_0 == 4) x16_0 x16_1 x16_2 x16_3) else (if x16_0 = 5 then (spec_l9Node.j1v x16_0 (x16_0 == 5) x16_0 x16_1 x16_2 x16_3) else (spec_l9Node.j1v x16_0 (x16_0 == 34) x16_0 x16_1 x16_2 x16_3))))))) := by
  show lim spec_l9Node.B (.spec_l9Node_j0 x21 x16_0 x16_1 x16_2 x16_3) = _
  rw [lim_eq, spec_l9Node.B]
  simp only [ev_ite, ev_opt, ev_ask, ev_to, ev_ret, ev_bad]
  try rfl
theorem spec_l9Node.j1v_eq (x23 : Int) (x44 : Bool) (x16_0 : Int) (x16_1 : Int) (x16_2 : ByteArray) (x16_3 : List S38) : spec_l9Node.j1v x23 x44 x16_0 x16_1 x16_2 x16_3 = (if x44 = true then ((spec_l9Name.fv x16_2).bind fun t50 => (some t50)) else (if x23 = 28 then ((spec_l7Calls.f).bind fun t53 => ((spec_l7Within.fv t53 x16_2).bind fun t56 => (some t56))) else (some (x16_2.toList == (⟨#[]⟩ : ByteArray).toList)))) := by
  show lim spec_l9Node.B (.spec_l9Node_j1 x23 x44 x16_0 x16_1 x16_2 x16_3) = _
  rw [lim_eq, spec_l9Node.B]
  simp only [ev_ite, ev_opt, ev_ask, ev_to, ev_ret, ev_bad]
  try rfl
theorem spec_l9Kids.fv_eq (a0_0 : Int) (a0_1 : Int) (a0_2 : ByteArray) (l0_3 : List S38) : spec_l9Kids.fv a0_0 a0_1 a0_2 l0_3 = (if a0_0 = 5 then (spec_l9Kids.j0v (l0_3.length : Int) a0_0 (a0_0 == 5) a0_0 a0_1 a0_2 l0_3) else (if a0_0 = 6 then (spec_l9Kids.j0v (l0_3.length : Int) a0_0 (a0_0 == 6) a0_0 a0_1 a0_2 l0_3) else (if a0_0 = 22 then (spec_l9Kids.j0v (l0_3.length : Int) a0_0 (a0_0 == 22) a0_0 a0_1 a0_2 l0_3) else (if a0_0 = 23 then (spec_l9Kids.j0v (l0_3.length : Int) a0_0 (a0_0 == 23) a0_0 a0_1 a0_2 l0_3) else (if a0_0 = 34 then (spec_l9Kids.j0v (l0_3.length : Int) a0_0 (a0_0 == 34) a0_0 a0_1 a0_2 l0_3) else (spec_l9Kids.j0v (l0_3.length : Int) a0_0 (a0_0 == 35) a0_0 a0_1 a0_2 l0_3)))))) := by
  show lim spec_l9Node.B (.spec_l9Kids_f a0_0 a0_1 a0_2 l0_3) = _
  rw [lim_eq, spec_l9Node.B]
  simp only [ev_ite, ev_opt, ev_ask, ev_to, ev_ret, ev_bad]
  try rfl
theorem spec_l9Kids.j0v_eq (x3 : Int) (x9 : Int) (x10 : Bool) (x16_0 : Int) (x16_1 : Int) (x16_2 : ByteArray) (x16_3 : List S38) : spec_l9Kids.j0v x3 x9 x10 x16_0 x16_1 x16_2 x16_3 = (if x10 = true then (if x3 = 1 then ((spec_l9Es.fv x16_0 x16_1 x16_2 x16_3 0 1).bind fun t21 => (some t21)) else (some false)) else (if x9 = 9 then (spec_l9Kids.j1v x3 x9 (x9 == 9) x16_0 x16_1 x16_2 x16_3) else (if x9 = 10 then (spec_l9Kids.j1v x3 x9 (x9 == 10) x16_0 x16_1 x16_2 x16_3) else (if x9 = 11 then (spec_l9Kids.j1v x3 x9 (x9 == 11) x16_0 x16_1 x16_2 x16_3) else (if x9 = 12 then (spec_l9Kids.j1v x3 x9 (x9 == 12) x16_0 x16_1 x16_2 x16_3) else (if x9 = 13 then (spec_l9Kids.j1v x3 x9 (x9 == 13) x16_0 x16_1 x16_2 x16_3) else (if x9 = 14 then (spec_l9Kids.j1v x3 x9 (x9 == 14) x16_0 x16_1 x16_2 x16_3) else (if x9 = 15 then (spec_l9Kids.j1v x3 x9 (x9 == 15) x16_0 x16_1 x16_2 x16_3) else (if x9 = 16 then (spec_l9Kids.j1v x3 x9 (x9 == 16) x16_0 x16_1 x16_2 x16_3) else (if x9 = 17 then (spec_l9Kids.j1v x3 x9 (x9 == 17) x16_0 x16_1 x16_2 x16_3) else (if x9 = 18 then (spec_l9Kids.j1v x3 x9 (x9 == 18) x16_0 x16_1 x16_2 x16_3) else (if x9 = 19 then (spec_l9Kids.j1v x3 x9 (x9 == 19) x16_0 x16_1 x16_2 x16_3) else (if x9 = 20 then (spec_l9Kids.j1v x3 x9 (x9 == 20) x16_0 x16_1 x16_2 x16_3) else (if x9 = 21 then (spec_l9Kids.j1v x3 x9 (x9 == 21) x16_0 x16_1 x16_2 x16_3) else (if x9 = 24 then (spec_l9Kids.j1v x3 x9 (x9 == 24) x16_0 x16_1 x16_2 x16_3) else (spec_l9Kids.j1v x3 x9 (x9 == 25) x16_0 x16_1 x16_2 x16_3)))))))))))))))) := by
  show lim spec_l9Node.B (.spec_l9Kids_j0 x3 x9 x10 x16_0 x16_1 x16_2 x16_3) = _
  rw [lim_eq, spec_l9Node.B]
  simp only [ev_ite, ev_opt, ev_ask, ev_to, ev_ret, ev_bad]
  try rfl
theorem spec_l9Kids.j1v_eq (x3 : Int) (x9 : Int) (x23 : Bool) (x16_0 : Int) (x16_1 : Int) (x16_2 : ByteArray) (x16_3 : List S38) : spec_l9Kids.j1v x3 x9 x23 x16_0 x16_1 x16_2 x16_3 = (if x23 = true then (if x3 = 2 then ((spec_l9Es.fv x16_0 x16_1 x16_2 x16_3 0 2).bind fun t43 => (some t43)) else (some false)) else (if x9 = 26 then (spec_l9Kids.j2v x3 x9 (x9 == 26) x16_0 x16_1 x16_2 x16_3) else (spec_l9Kids.j2v x3 x9 (x9 == 27) x16_0 x16_1 x16_2 x16_3))) := by
  show lim spec_l9Node.B (.spec_l9Kids_j1 x3 x9 x23 x16_0 x16_1 x16_2 x16_3) = _
  rw [lim_eq, spec_l9Node.B]
  simp only [ev_ite, ev_opt, ev_ask, ev_to, ev_ret, ev_bad]
  try rfl
theorem spec_l9Kids.j2v_eq (x3 : Int) (x9 : Int) (x45 : Bool) (x16_0 : Int) (x16_1 : Int) (x16_2 : ByteArray) (x16_3 : List S38) : spec_l9Kids.j2v x3 x9 x45 x16_0 x16_1 x16_2 x16_3 = (if x45 = true then (if x3 = 2 then (if 0 < (x16_3.length : Int) then (if (rd_T38 x16_3 0).f0 = 4 then ((spec_l9Es.fv x16_0 x16_1 x16_2 x16_3 0 2).bind fun t68 => (some t68)) else (if (rd_T38 x16_3 0).f0 = 5 then ((spec_l9Es.fv x16_0 x16_1 x16_2 x16_3 0 2).bind fun t68 => (some t68)) else (some false))) else (none)) else (some false)) else (if x9 = 28 then (spec_l9Kids.j3v x3 x9 (x9 == 28) x16_0 x16_1 x16_2 x16_3) else (spec_l9Kids.j3v x3 x9 (x9 == 30) x16_0 x16_1 x16_2 x16_3))) := by
  show lim spec_l9Node.B (.spec_l9Kids_j2 x3 x9 x45 x16_0 x16_1 x16_2 x16_3) = _
  rw [lim_eq, spec_l9Node.B]
  simp only [ev_ite, ev_opt, ev_ask, ev_to, ev_ret, ev_bad]
  try rfl
theorem spec_l9Kids.j3v_eq (x3 : Int) (x9 : Int) (x70 : Bool) (x16_0 : Int) (x16_1 : Int) (x16_2 : ByteArray) (x16_3 : List S38) : spec_l9Kids.j3v x3 x9 x70 x16_0 x16_1 x16_2 x16_3 = (if x70 = true then ((spec_l9Es.fv x16_0 x16_1 x16_2 x16_3 0 x3).bind fun t75 => (some t75)) else (if x9 = 31 then ((spec_l1In.f x3 2 3).bind fun t79 => (if t79 = true then ((spec_l9Es.fv x16_0 x16_1 x16_2 x16_3 0 1).bind fun t82 => (if t82 = true then ((spec_l9Blocks.fv x16_0 x16_1 x16_2 x16_3 1).bind fun t86 => (some t86)) else (some false))) else (some false))) else (if x9 = 32 then (if x3 = 2 then ((spec_l9Es.fv x16_0 x16_1 x16_2 x16_3 0 1).bind fun t94 => (if t94 = true then ((spec_l9Blocks.fv x16_0 x16_1 x16_2 x16_3 1).bind fun t98 => (some t98)) else (some false))) else (some false)) else (if x9 = 29 then (spec_l9Kids.l0v x3 0 x16_0 x16_1 x16_2 x16_3) else (some (x3 == 0)))))) := by
  show lim spec_l9Node.B (.spec_l9Kids_j3 x3 x9 x70 x16_0 x16_1 x16_2 x16_3) = _
  rw [lim_eq, spec_l9Node.B]
  simp only [ev_ite, ev_opt, ev_ask, ev_to, ev_ret, ev_bad]
  try rfl
theorem spec_l9Kids.l0v_eq (x3 : Int) (x4 : Int) (x16_0 : Int) (x16_1 : Int) (x16_2 : ByteArray) (x16_3 : List S38) : spec_l9Kids.l0v x3 x4 x16_0 x16_1 x16_2 x16_3 = (if x4 < x3 then (if 0 ≤ x4 then (if x4 < (x16_3.length : Int) then ((spec_l1In.f ((rd_T38 x16_3 x4).f0) 29 35).bind fun t113 => (if t113 = true then ((spec_l9Node.fv ((rd_T38 x16_3 x4).f0) ((rd_T38 x16_3 x4).f1) ((rd_T38 x16_3 x4).f2) ((rd_T38 x16_3 x4).f3)).bind fun t121 => (if t121 = true then (spec_l9Kids.l0v x3 (wrap64 (x4 + 1)) x16_0 x16_1 x16_2 x16_3) else (some false))) else (some false))) else (none)) else (none)) else (some true)) := by
  show lim spec_l9Node.B (.spec_l9Kids_l0 x3 x4 x16_0 x16_1 x16_2 x16_3) = _
  rw [lim_eq, spec_l9Node.B]
  simp only [ev_ite, ev_opt, ev_ask, ev_to, ev_ret, ev_bad]
  try rfl
theorem spec_l9Es.fv_eq (a0_0 : Int) (a0_1 : Int) (a0_2 : ByteArray) (l0_3 : List S38) (a1 : Int) (a2 : Int) : spec_l9Es.fv a0_0 a0_1 a0_2 l0_3 a1 a2 = (spec_l9Es.l0v a2 a1 a0_0 a0_1 a0_2 l0_3) := by
  show lim spec_l9Node.B (.spec_l9Es_f a0_0 a0_1 a0_2 l0_3 a1 a2) = _
  rw [lim_eq, spec_l9Node.B]
  simp only [ev_ite, ev_opt, ev_ask, ev_to, ev_ret, ev_bad]
  try rfl
theorem spec_l9Es.l0v_eq (x2 : Int) (x7 : Int) (x16_0 : Int) (x16_1 : Int) (x16_2 : ByteArray) (x16_3 : List S38) : spec_l9Es.l0v x2 x7 x16_0 x16_1 x16_2 x16_3 = (if x7 < x2 then (if 0 ≤ x7 then (if x7 < (x16_3.length : Int) then ((spec_l9IsE.f ((rd_T38 x16_3 x7).f0)).bind fun t20 => (if t20 = true then ((spec_l9Node.fv ((rd_T38 x16_3 x7).f0) ((rd_T38 x16_3 x7).f1) ((rd_T38 x16_3 x7).f2) ((rd_T38 x16_3 x7).f3)).bind fun t28 => (if t28 = true then (spec_l9Es.l0v x2 (wrap64 (x7 + 1)) x16_0 x16_1 x16_2 x16_3) else (some false))) else (some false))) else (none)) else (none)) else (some true)) := by
  show lim spec_l9Node.B (.spec_l9Es_l0 x2 x7 x16_0 x16_1 x16_2 x16_3) = _
  rw [lim_eq, spec_l9Node.B]
  simp only [ev_ite, ev_opt, ev_ask, ev_to, ev_ret, ev_bad]
  try rfl
theorem spec_l9Blocks.fv_eq (a0_0 : Int) (a0_1 : Int) (a0_2 : ByteArray) (l0_3 : List S38) (a1 : Int) : spec_l9Blocks.fv a0_0 a0_1 a0_2 l0_3 a1 = (spec_l9Blocks.l0v a1 a0_0 a0_1 a0_2 l0_3) := by
  show lim spec_l9Node.B (.spec_l9Blocks_f a0_0 a0_1 a0_2 l0_3 a1) = _
  rw [lim_eq, spec_l9Node.B]
  simp only [ev_ite, ev_opt, ev_ask, ev_to, ev_ret, ev_bad]
  try rfl
theorem spec_l9Blocks.l0v_eq (x5 : Int) (x16_0 : Int) (x16_1 : Int) (x16_2 : ByteArray) (x16_3 : List S38) : spec_l9Blocks.l0v x5 x16_0 x16_1 x16_2 x16_3 = (if x5 < (x16_3.length : Int) then (if 0 ≤ x5 then (if (rd_T38 x16_3 x5).f0 = 29 then ((spec_l9Node.fv ((rd_T38 x16_3 x5).f0) ((rd_T38 x16_3 x5).f1) ((rd_T38 x16_3 x5).f2) ((rd_T38 x16_3 x5).f3)).bind fun t27 => (if t27 = true then (spec_l9Blocks.l0v (wrap64 (x5 + 1)) x16_0 x16_1 x16_2 x16_3) else (some false))) else (some false)) else (none)) else (some true)) := by
  show lim spec_l9Node.B (.spec_l9Blocks_l0 x5 x16_0 x16_1 x16_2 x16_3) = _
  rw [lim_eq, spec_l9Node.B]
  simp only [ev_ite, ev_opt, ev_ask, ev_to, ev_ret, ev_bad]
  try rfl
def spec_l1Max.f (a0 : Int) (a1 : Int) : Option (Int) := if a0 > a1 then (some a0) else (some a1)
inductive spec_Deep.Q where
  | f (a0_0 : Int) (a0_1 : Int) (a0_2 : ByteArray) (l0_3 : List S38)
  | l0 (x3 : Int) (x4 : Int) (x16_0 : Int) (x16_1 : Int) (x16_2 : ByteArray) (x16_3 : List S38)
def spec_Deep.B : spec_Deep.Q → Pg spec_Deep.Q (fun _ => Int) (Int)
  | .f a0_0 a0_1 a0_2 l0_3 => .to (.l0 0 0 a0_0 a0_1 a0_2 l0_3)
  | .l0 x3 x4 x16_0 x16_1 x16_2 x16_3 => if x4 < (x16_3.length : Int) then (if 0 ≤ x4 then (.ask (.f ((rd_T38 x16_3 x4).f0) ((rd_T38 x16_3 x4).f1) ((rd_T38 x16_3 x4).f2) ((rd_T38 x16_3 x4).f3)) fun (t18 : Int) => (.opt (spec_l1Max.f x3 t18) fun t19 => (.to (.l0 t19 (wrap64 (x4 + 1)) x16_0 x16_1 x16_2 x16_3)))) else (.bad)) else (.ret (wrap64 (x3 + 1)))
def spec_Deep.fv (a0_0 : Int) (a0_1 : Int) (a0_2 : ByteArray) (l0_3 : List S38) : Option (Int) := lim spec_Deep.B (.f a0_0 a0_1 a0_2 l0_3)
def spec_Deep.l0v (x3 : Int) (x4 : Int) (x16_0 : Int) (x16_1 : Int) (x16_2 : ByteArray) (x16_3 : List S38) : Option (Int) := lim spec_Deep.B (.l0 x3 x4 x16_0 x16_1 x16_2 x16_3)
theorem spec_Deep.fv_eq (a0_0 : Int) (a0_1 : Int) (a0_2 : ByteArray) (l0_3 : List S38) : spec_Deep.fv a0_0 a0_1 a0_2 l0_3 = (spec_Deep.l0v 0 0 a0_0 a0_1 a0_2 l0_3) := by
  show lim spec_Deep.B (.f a0_0 a0_1 a0_2 l0_3) = _
  rw [lim_eq, spec_Deep.B]
  simp only [ev_ite, ev_opt, ev_ask, ev_to, ev_ret, ev_bad]
  try rfl
theorem spec_Deep.l0v_eq (x3 : Int) (x4 : Int) (x16_0 : Int) (x16_1 : Int) (x16_2 : ByteArray) (x16_3 : List S38) : spec_Deep.l0v x3 x4 x16_0 x16_1 x16_2 x16_3 = (if x4 < (x16_3.length : Int) then (if 0 ≤ x4 then ((spec_Deep.fv ((rd_T38 x16_3 x4).f0) ((rd_T38 x16_3 x4).f1) ((rd_T38 x16_3 x4).f2) ((rd_T38 x16_3 x4).f3)).bind fun t18 => ((spec_l1Max.f x3 t18).bind fun t19 => (spec_Deep.l0v t19 (wrap64 (x4 + 1)) x16_0 x16_1 x16_2 x16_3))) else (none)) else (some (wrap64 (x3 + 1)))) := by
  show lim spec_Deep.B (.l0 x3 x4 x16_0 x16_1 x16_2 x16_3) = _
  rw [lim_eq, spec_Deep.B]
  simp only [ev_ite, ev_opt, ev_ask, ev_to, ev_ret, ev_bad]
  try rfl
inductive spec_Tidy.Q where
  | f (l0 : List S40)
  | l0 (x0 : List S40) (x3 : Int)
  | j1 (x0 : List S40) (x3 : Int) (x5 : Bool) (x2068_0 : Int) (x2068_1 : Int) (x2068_2 : Int) (x2068_3 : ByteArray) (x2068_4 : List S38) (x2068_5 : Int) (x2068_6 : Int) (x2068_7 : ByteArray) (x2068_8 : List S38)
  | j2 (x0 : List S40) (x3 : Int) (x6 : Bool) (x2068_0 : Int) (x2068_1 : Int) (x2068_2 : Int) (x2068_3 : ByteArray) (x2068_4 : List S38) (x2068_5 : Int) (x2068_6 : Int) (x2068_7 : ByteArray) (x2068_8 : List S38)
def spec_Tidy.B : spec_Tidy.Q → Pg spec_Tidy.Q (fun _ => Bool) (Bool)
  | .f l0 => .to (.l0 l0 0)
  | .l0 x0 x3 => if x3 < (x0.length : Int) then (if 0 ≤ x3 then (if (rd_T40 x0 x3).f1 = 0 then (if (rd_T40 x0 x3).f2 = 0 then (if (rd_T40 x0 x3).f3.toList = ([] : List UInt8) then (.to (.j1 x0 x3 ((((rd_T40 x0 x3).f4.length : Int) == 0)) ((rd_T40 x0 x3).f0) ((rd_T40 x0 x3).f1) ((rd_T40 x0 x3).f2) ((rd_T40 x0 x3).f3) ((rd_T40 x0 x3).f4) ((rd_T40 x0 x3).f5) ((rd_T40 x0 x3).f6) ((rd_T40 x0 x3).f7) ((rd_T40 x0 x3).f8))) else (.to (.j1 x0 x3 false ((rd_T40 x0 x3).f0) ((rd_T40 x0 x3).f1) ((rd_T40 x0 x3).f2) ((rd_T40 x0 x3).f3) ((rd_T40 x0 x3).f4) ((rd_T40 x0 x3).f5) ((rd_T40 x0 x3).f6) ((rd_T40 x0 x3).f7) ((rd_T40 x0 x3).f8)))) else (.to (.j1 x0 x3 false ((rd_T40 x0 x3).f0) ((rd_T40 x0 x3).f1) ((rd_T40 x0 x3).f2) ((rd_T40 x0 x3).f3) ((rd_T40 x0 x3).f4) ((rd_T40 x0 x3).f5) ((rd_T40 x0 x3).f6) ((rd_T40 x0 x3).f7) ((rd_T40 x0 x3).f8)))) else (.to (.j1 x0 x3 false ((rd_T40 x0 x3).f0) ((rd_T40 x0 x3).f1) ((rd_T40 x0 x3).f2) ((rd_T40 x0 x3).f3) ((rd_T40 x0 x3).f4) ((rd_T40 x0 x3).f5) ((rd_T40 x0 x3).f6) ((rd_T40 x0 x3).f7) ((rd_T40 x0 x3).f8)))) else (.bad)) else (.ret true)
  | .j1 x0 x3 x5 x2068_0 x2068_1 x2068_2 x2068_3 x2068_4 x2068_5 x2068_6 x2068_7 x2068_8 => .opt (spec_l1In.f x2068_0 1 2) fun t42 => (if t42 = true then (if x5 = true then (.to (.j2 x0 x3 true x2068_0 x2068_1 x2068_2 x2068_3 x2068_4 x2068_5 x2068_6 x2068_7 x2068_8)) else (if x2068_0 = 3 then (.opt (spec_l9IsE.f x2068_1) fun t54 => (if t54 = true then (.opt (spec_l9Node.fv x2068_1 x2068_2 x2068_3 x2068_4) fun t59 => (if t59 = true then (.opt (spec_Deep.fv x2068_1 x2068_2 x2068_3 x2068_4) fun t64 => (.to (.j2 x0 x3 (decide (t64 ≤ 16)) x2068_0 x2068_1 x2068_2 x2068_3 x2068_4 x2068_5 x2068_6 x2068_7 x2068_8))) else (.to (.j2 x0 x3 false x2068_0 x2068_1 x2068_2 x2068_3 x2068_4 x2068_5 x2068_6 x2068_7 x2068_8)))) else (.to (.j2 x0 x3 false x2068_0 x2068_1 x2068_2 x2068_3 x2068_4 x2068_5 x2068_6 x2068_7 x2068_8)))) else (.to (.j2 x0 x3 false x2068_0 x2068_1 x2068_2 x2068_3 x2068_4 x2068_5 x2068_6 x2068_7 x2068_8)))) else (if x2068_0 = 3 then (.opt (spec_l9IsE.f x2068_1) fun t54 => (if t54 = true then (.opt (spec_l9Node.fv x2068_1 x2068_2 x2068_3 x2068_4) fun t59 => (if t59 = true then (.opt (spec_Deep.fv x2068_1 x2068_2 x2068_3 x2068_4) fun t64 => (.to (.j2 x0 x3 (decide (t64 ≤ 16)) x2068_0 x2068_1 x2068_2 x2068_3 x2068_4 x2068_5 x2068_6 x2068_7 x2068_8))) else (.to (.j2 x0 x3 false x2068_0 x2068_1 x2068_2 x2068_3 x2068_4 x2068_5 x2068_6 x2068_7 x2068_8)))) else (.to (.j2 x0 x3 false x2068_0 x2068_1 x2068_2 x2068_3 x2068_4 x2068_5 x2068_6 x2068_7 x2068_8)))) else (.to (.j2 x0 x3 false x2068_0 x2068_1 x2068_2 x2068_3 x2068_4 x2068_5 x2068_6 x2068_7 x2068_8))))
  | .j2 x0 x3 x6 x2068_0 x2068_1 x2068_2 x2068_3 x2068_4 x2068_5 x2068_6 x2068_7 x2068_8 => if x6 = true then (if x2068_5 = 29 then (.opt (spec_Deep.fv x2068_5 x2068_6 x2068_7 x2068_8) fun t79 => (if t79 > 16 then (.ret false) else (.opt (spec_l9Node.fv x2068_5 x2068_6 x2068_7 x2068_8) fun t85 => (if t85 = true then (.to (.l0 x0 (wrap64 (x3 + 1)))) else (.ret false))))) else (.ret false)) else (.ret false)
def spec_Tidy.fv (l0 : List S40) : Option (Bool) := lim spec_Tidy.B (.f l0)
def spec_Tidy.l0v (x0 : List S40) (x3 : Int) : Option (Bool) := lim spec_Tidy.B (.l0 x0 x3)
def spec_Tidy.j1v (x0 : List S40) (x3 : Int) (x5 : Bool) (x2068_0 : Int) (x2068_1 : Int) (x2068_2 : Int) (x2068_3 : ByteArray) (x2068_4 : List S38) (x2068_5 : Int) (x2068_6 : Int) (x2068_7 : ByteArray) (x2068_8 : List S38) : Option (Bool) := lim spec_Tidy.B (.j1 x0 x3 x5 x2068_0 x2068_1 x2068_2 x2068_3 x2068_4 x2068_5 x2068_6 x2068_7 x2068_8)
def spec_Tidy.j2v (x0 : List S40) (x3 : Int) (x6 : Bool) (x2068_0 : Int) (x2068_1 : Int) (x2068_2 : Int) (x2068_3 : ByteArray) (x2068_4 : List S38) (x2068_5 : Int) (x2068_6 : Int) (x2068_7 : ByteArray) (x2068_8 : List S38) : Option (Bool) := lim spec_Tidy.B (.j2 x0 x3 x6 x2068_0 x2068_1 x2068_2 x2068_3 x2068_4 x2068_5 x2068_6 x2068_7 x2068_8)
theorem spec_Tidy.fv_eq (l0 : List S40) : spec_Tidy.fv l0 = (spec_Tidy.l0v l0 0) := by
  show lim spec_Tidy.B (.f l0) = _
  rw [lim_eq, spec_Tidy.B]
  simp only [ev_ite, ev_opt, ev_ask, ev_to, ev_ret, ev_bad]
  try rfl
theorem spec_Tidy.l0v_eq (x0 : List S40) (x3 : Int) : spec_Tidy.l0v x0 x3 = (if x3 < (x0.length : Int) then (if 0 ≤ x3 then (if (rd_T40 x0 x3).f1 = 0 then (if (rd_T40 x0 x3).f2 = 0 then (if (rd_T40 x0 x3).f3.toList = ([] : List UInt8) then (spec_Tidy.j1v x0 x3 ((((rd_T40 x0 x3).f4.length : Int) == 0)) ((rd_T40 x0 x3).f0) ((rd_T40 x0 x3).f1) ((rd_T40 x0 x3).f2) ((rd_T40 x0 x3).f3) ((rd_T40 x0 x3).f4) ((rd_T40 x0 x3).f5) ((rd_T40 x0 x3).f6) ((rd_T40 x0 x3).f7) ((rd_T40 x0 x3).f8)) else (spec_Tidy.j1v x0 x3 false ((rd_T40 x0 x3).f0) ((rd_T40 x0 x3).f1) ((rd_T40 x0 x3).f2) ((rd_T40 x0 x3).f3) ((rd_T40 x0 x3).f4) ((rd_T40 x0 x3).f5) ((rd_T40 x0 x3).f6) ((rd_T40 x0 x3).f7) ((rd_T40 x0 x3).f8))) else (spec_Tidy.j1v x0 x3 false ((rd_T40 x0 x3).f0) ((rd_T40 x0 x3).f1) ((rd_T40 x0 x3).f2) ((rd_T40 x0 x3).f3) ((rd_T40 x0 x3).f4) ((rd_T40 x0 x3).f5) ((rd_T40 x0 x3).f6) ((rd_T40 x0 x3).f7) ((rd_T40 x0 x3).f8))) else (spec_Tidy.j1v x0 x3 false ((rd_T40 x0 x3).f0) ((rd_T40 x0 x3).f1) ((rd_T40 x0 x3).f2) ((rd_T40 x0 x3).f3) ((rd_T40 x0 x3).f4) ((rd_T40 x0 x3).f5) ((rd_T40 x0 x3).f6) ((rd_T40 x0 x3).f7) ((rd_T40 x0 x3).f8))) else (none)) else (some true)) := by
  show lim spec_Tidy.B (.l0 x0 x3) = _
  rw [lim_eq, spec_Tidy.B]
  simp only [ev_ite, ev_opt, ev_ask, ev_to, ev_ret, ev_bad]
  try rfl
theorem spec_Tidy.j1v_eq (x0 : List S40) (x3 : Int) (x5 : Bool) (x2068_0 : Int) (x2068_1 : Int) (x2068_2 : Int) (x2068_3 : ByteArray) (x2068_4 : List S38) (x2068_5 : Int) (x2068_6 : Int) (x2068_7 : ByteArray) (x2068_8 : List S38) : spec_Tidy.j1v x0 x3 x5 x2068_0 x2068_1 x2068_2 x2068_3 x2068_4 x2068_5 x2068_6 x2068_7 x2068_8 = ((spec_l1In.f x2068_0 1 2).bind fun t42 => (if t42 = true then (if x5 = true then (spec_Tidy.j2v x0 x3 true x2068_0 x2068_1 x2068_2 x2068_3 x2068_4 x2068_5 x2068_6 x2068_7 x2068_8) else (if x2068_0 = 3 then ((spec_l9IsE.f x2068_1).bind fun t54 => (if t54 = true then ((spec_l9Node.fv x2068_1 x2068_2 x2068_3 x2068_4).bind fun t59 => (if t59 = true then ((spec_Deep.fv x2068_1 x2068_2 x2068_3 x2068_4).bind fun t64 => (spec_Tidy.j2v x0 x3 (decide (t64 ≤ 16)) x2068_0 x2068_1 x2068_2 x2068_3 x2068_4 x2068_5 x2068_6 x2068_7 x2068_8)) else (spec_Tidy.j2v x0 x3 false x2068_0 x2068_1 x2068_2 x2068_3 x2068_4 x2068_5 x2068_6 x2068_7 x2068_8))) else (spec_Tidy.j2v x0 x3 false x2068_0 x2068_1 x2068_2 x2068_3 x2068_4 x2068_5 x2068_6 x2068_7 x2068_8))) else (spec_Tidy.j2v x0 x3 false x2068_0 x2068_1 x2068_2 x2068_3 x2068_4 x2068_5 x2068_6 x2068_7 x2068_8))) else (if x2068_0 = 3 then ((spec_l9IsE.f x2068_1).bind fun t54 => (if t54 = true then ((spec_l9Node.fv x2068_1 x2068_2 x2068_3 x2068_4).bind fun t59 => (if t59 = true then ((spec_Deep.fv x2068_1 x2068_2 x2068_3 x2068_4).bind fun t64 => (spec_Tidy.j2v x0 x3 (decide (t64 ≤ 16)) x2068_0 x2068_1 x2068_2 x2068_3 x2068_4 x2068_5 x2068_6 x2068_7 x2068_8)) else (spec_Tidy.j2v x0 x3 false x2068_0 x2068_1 x2068_2 x2068_3 x2068_4 x2068_5 x2068_6 x2068_7 x2068_8))) else (spec_Tidy.j2v x0 x3 false x2068_0 x2068_1 x2068_2 x2068_3 x2068_4 x2068_5 x2068_6 x2068_7 x2068_8))) else (spec_Tidy.j2v x0 x3 false x2068_0 x2068_1 x2068_2 x2068_3 x2068_4 x2068_5 x2068_6 x2068_7 x2068_8)))) := by
  show lim spec_Tidy.B (.j1 x0 x3 x5 x2068_0 x2068_1 x2068_2 x2068_3 x2068_4 x2068_5 x2068_6 x2068_7 x2068_8) = _
  rw [lim_eq, spec_Tidy.B]
  simp only [ev_ite, ev_opt, ev_ask, ev_to, ev_ret, ev_bad]
  try rfl
theorem spec_Tidy.j2v_eq (x0 : List S40) (x3 : Int) (x6 : Bool) (x2068_0 : Int) (x2068_1 : Int) (x2068_2 : Int) (x2068_3 : ByteArray) (x2068_4 : List S38) (x2068_5 : Int) (x2068_6 : Int) (x2068_7 : ByteArray) (x2068_8 : List S38) : spec_Tidy.j2v x0 x3 x6 x2068_0 x2068_1 x2068_2 x2068_3 x2068_4 x2068_5 x2068_6 x2068_7 x2068_8 = (if x6 = true then (if x2068_5 = 29 then ((spec_Deep.fv x2068_5 x2068_6 x2068_7 x2068_8).bind fun t79 => (if t79 > 16 then (some false) else ((spec_l9Node.fv x2068_5 x2068_6 x2068_7 x2068_8).bind fun t85 => (if t85 = true then (spec_Tidy.l0v x0 (wrap64 (x3 + 1))) else (some false))))) else (some false)) else (some false)) := by
  show lim spec_Tidy.B (.j2 x0 x3 x6 x2068_0 x2068_1 x2068_2 x2068_3 x2068_4 x2068_5 x2068_6 x2068_7 x2068_8) = _
  rw [lim_eq, spec_Tidy.B]
  simp only [ev_ite, ev_opt, ev_ask, ev_to, ev_ret, ev_bad]
  try rfl
inductive spec_l10Line.Q where
  | f (a0_0 : Int) (a0_1 : Int) (a0_2 : ByteArray) (l0_3 : List S38)
  | j0 (x16_0 : Int) (x16_1 : Int) (x16_2 : ByteArray) (x16_3 : List S38)
  | j1 (x26 : Bool) (x16_0 : Int) (x16_1 : Int) (x16_2 : ByteArray) (x16_3 : List S38)
  | l0 (x3 : Int) (x16_0 : Int) (x16_1 : Int) (x16_2 : ByteArray) (x16_3 : List S38)
  | j2 (x3 : Int) (x16_0 : Int) (x16_1 : Int) (x16_2 : ByteArray) (x16_3 : List S38)
  | j3 (x3 : Int) (x49 : Bool) (x16_0 : Int) (x16_1 : Int) (x16_2 : ByteArray) (x16_3 : List S38)
def spec_l10Line.B : spec_l10Line.Q → Pg spec_l10Line.Q (fun _ => Bool) (Bool)
  | .f a0_0 a0_1 a0_2 l0_3 => if a0_0 = 6 then (.to (.j1 true a0_0 a0_1 a0_2 l0_3)) else (if a0_0 = 7 then (.to (.j1 true a0_0 a0_1 a0_2 l0_3)) else (if a0_0 = 8 then (.to (.j1 true a0_0 a0_1 a0_2 l0_3)) else (if a0_0 = 33 then (.to (.j1 true a0_0 a0_1 a0_2 l0_3)) else (.to (.j1 (a0_0 == 3) a0_0 a0_1 a0_2 l0_3)))))
  | .j0 x16_0 x16_1 x16_2 x16_3 => .to (.l0 0 x16_0 x16_1 x16_2 x16_3)
  | .j1 x26 x16_0 x16_1 x16_2 x16_3 => if x26 = true then (.ret true) else (.to (.j0 x16_0 x16_1 x16_2 x16_3))
  | .l0 x3 x16_0 x16_1 x16_2 x16_3 => if x3 < (x16_3.length : Int) then (if x16_0 = 21 then (if x3 = 1 then (if 0 ≤ x3 then (.to (.j3 x3 ((rd_T38 x16_3 x3).f0 == 3) x16_0 x16_1 x16_2 x16_3)) else (.bad)) else (.to (.j3 x3 false x16_0 x16_1 x16_2 x16_3))) else (.to (.j3 x3 false x16_0 x16_1 x16_2 x16_3))) else (.ret false)
  | .j2 x3 x16_0 x16_1 x16_2 x16_3 => if 0 ≤ x3 then (if x3 < (x16_3.length : Int) then (.ask (.f ((rd_T38 x16_3 x3).f0) ((rd_T38 x16_3 x3).f1) ((rd_T38 x16_3 x3).f2) ((rd_T38 x16_3 x3).f3)) fun (t55 : Bool) => (if t55 = true then (.ret true) else (.to (.l0 (wrap64 (x3 + 1)) x16_0 x16_1 x16_2 x16_3)))) else (.bad)) else (.bad)
  | .j3 x3 x49 x16_0 x16_1 x16_2 x16_3 => if x49 = true then (.to (.l0 (wrap64 (x3 + 1)) x16_0 x16_1 x16_2 x16_3)) else (.to (.j2 x3 x16_0 x16_1 x16_2 x16_3))
def spec_l10Line.fv (a0_0 : Int) (a0_1 : Int) (a0_2 : ByteArray) (l0_3 : List S38) : Option (Bool) := lim spec_l10Line.B (.f a0_0 a0_1 a0_2 l0_3)
def spec_l10Line.j0v (x16_0 : Int) (x16_1 : Int) (x16_2 : ByteArray) (x16_3 : List S38) : Option (Bool) := lim spec_l10Line.B (.j0 x16_0 x16_1 x16_2 x16_3)
def spec_l10Line.j1v (x26 : Bool) (x16_0 : Int) (x16_1 : Int) (x16_2 : ByteArray) (x16_3 : List S38) : Option (Bool) := lim spec_l10Line.B (.j1 x26 x16_0 x16_1 x16_2 x16_3)
def spec_l10Line.l0v (x3 : Int) (x16_0 : Int) (x16_1 : Int) (x16_2 : ByteArray) (x16_3 : List S38) : Option (Bool) := lim spec_l10Line.B (.l0 x3 x16_0 x16_1 x16_2 x16_3)
def spec_l10Line.j2v (x3 : Int) (x16_0 : Int) (x16_1 : Int) (x16_2 : ByteArray) (x16_3 : List S38) : Option (Bool) := lim spec_l10Line.B (.j2 x3 x16_0 x16_1 x16_2 x16_3)
def spec_l10Line.j3v (x3 : Int) (x49 : Bool) (x16_0 : Int) (x16_1 : Int) (x16_2 : ByteArray) (x16_3 : List S38) : Option (Bool) := lim spec_l10Line.B (.j3 x3 x49 x16_0 x16_1 x16_2 x16_3)
theorem spec_l10Line.fv_eq (a0_0 : Int) (a0_1 : Int) (a0_2 : ByteArray) (l0_3 : List S38) : spec_l10Line.fv a0_0 a0_1 a0_2 l0_3 = (if a0_0 = 6 then (spec_l10Line.j1v true a0_0 a0_1 a0_2 l0_3) else (if a0_0 = 7 then (spec_l10Line.j1v true a0_0 a0_1 a0_2 l0_3) else (if a0_0 = 8 then (spec_l10Line.j1v true a0_0 a0_1 a0_2 l0_3) else (if a0_0 = 33 then (spec_l10Line.j1v true a0_0 a0_1 a0_2 l0_3) else (spec_l10Line.j1v (a0_0 == 3) a0_0 a0_1 a0_2 l0_3))))) := by
  show lim spec_l10Line.B (.f a0_0 a0_1 a0_2 l0_3) = _
  rw [lim_eq, spec_l10Line.B]
  simp only [ev_ite, ev_opt, ev_ask, ev_to, ev_ret, ev_bad]
  try rfl
theorem spec_l10Line.j0v_eq (x16_0 : Int) (x16_1 : Int) (x16_2 : ByteArray) (x16_3 : List S38) : spec_l10Line.j0v x16_0 x16_1 x16_2 x16_3 = (spec_l10Line.l0v 0 x16_0 x16_1 x16_2 x16_3) := by
  show lim spec_l10Line.B (.j0 x16_0 x16_1 x16_2 x16_3) = _
  rw [lim_eq, spec_l10Line.B]
  simp only [ev_ite, ev_opt, ev_ask, ev_to, ev_ret, ev_bad]
  try rfl
theorem spec_l10Line.j1v_eq (x26 : Bool) (x16_0 : Int) (x16_1 : Int) (x16_2 : ByteArray) (x16_3 : List S38) : spec_l10Line.j1v x26 x16_0 x16_1 x16_2 x16_3 = (if x26 = true then (some true) else (spec_l10Line.j0v x16_0 x16_1 x16_2 x16_3)) := by
  show lim spec_l10Line.B (.j1 x26 x16_0 x16_1 x16_2 x16_3) = _
  rw [lim_eq, spec_l10Line.B]
  simp only [ev_ite, ev_opt, ev_ask, ev_to, ev_ret, ev_bad]
  try rfl
theorem spec_l10Line.l0v_eq (x3 : Int) (x16_0 : Int) (x16_1 : Int) (x16_2 : ByteArray) (x16_3 : List S38) : spec_l10Line.l0v x3 x16_0 x16_1 x16_2 x16_3 = (if x3 < (x16_3.length : Int) then (if x16_0 = 21 then (if x3 = 1 then (if 0 ≤ x3 then (spec_l10Line.j3v x3 ((rd_T38 x16_3 x3).f0 == 3) x16_0 x16_1 x16_2 x16_3) else (none)) else (spec_l10Line.j3v x3 false x16_0 x16_1 x16_2 x16_3)) else (spec_l10Line.j3v x3 false x16_0 x16_1 x16_2 x16_3)) else (some false)) := by
  show lim spec_l10Line.B (.l0 x3 x16_0 x16_1 x16_2 x16_3) = _
  rw [lim_eq, spec_l10Line.B]
  simp only [ev_ite, ev_opt, ev_ask, ev_to, ev_ret, ev_bad]
  try rfl
theorem spec_l10Line.j2v_eq (x3 : Int) (x16_0 : Int) (x16_1 : Int) (x16_2 : ByteArray) (x16_3 : List S38) : spec_l10Line.j2v x3 x16_0 x16_1 x16_2 x16_3 = (if 0 ≤ x3 then (if x3 < (x16_3.length : Int) then ((spec_l10Line.fv ((rd_T38 x16_3 x3).f0) ((rd_T38 x16_3 x3).f1) ((rd_T38 x16_3 x3).f2) ((rd_T38 x16_3 x3).f3)).bind fun t55 => (if t55 = true then (some true) else (spec_l10Line.l0v (wrap64 (x3 + 1)) x16_0 x16_1 x16_2 x16_3))) else (none)) else (none)) := by
  show lim spec_l10Line.B (.j2 x3 x16_0 x16_1 x16_2 x16_3) = _
  rw [lim_eq, spec_l10Line.B]
  simp only [ev_ite, ev_opt, ev_ask, ev_to, ev_ret, ev_bad]
  try rfl
theorem spec_l10Line.j3v_eq (x3 : Int) (x49 : Bool) (x16_0 : Int) (x16_1 : Int) (x16_2 : ByteArray) (x16_3 : List S38) : spec_l10Line.j3v x3 x49 x16_0 x16_1 x16_2 x16_3 = (if x49 = true then (spec_l10Line.l0v (wrap64 (x3 + 1)) x16_0 x16_1 x16_2 x16_3) else (spec_l10Line.j2v x3 x16_0 x16_1 x16_2 x16_3)) := by
  show lim spec_l10Line.B (.j3 x3 x49 x16_0 x16_1 x16_2 x16_3) = _
  rw [lim_eq, spec_l10Line.B]
  simp only [ev_ite, ev_opt, ev_ask, ev_to, ev_ret, ev_bad]
  try rfl
inductive spec_l10Put.Q where
  | f (l0 : List ByteArray) (a1 : ByteArray)
  | j0 (x0 : List ByteArray) (x1 : ByteArray) (x5 : Int)
  | l0 (x0 : List ByteArray) (x1 : ByteArray) (x5 : Int)
def spec_l10Put.B : spec_l10Put.Q → Pg spec_l10Put.Q (fun _ => (List ByteArray)) ((List ByteArray))
  | .f l0 a1 => .opt (spec_l7Within.fv l0 a1) fun t9 => (if t9 = true then (.ret l0) else (.to (.l0 l0 a1 0)))
  | .j0 x0 x1 x5 => if 0 ≤ x5 then (if x5 ≤ (x0.length : Int) then (if ([] : List ByteArray).length + (x0.take (x5 : Int).toNat).length ≤ 8796093022208 then (if (([] : List ByteArray) ++ (x0.take (x5 : Int).toNat)).length < 8796093022208 then (if ((([] : List ByteArray) ++ (x0.take (x5 : Int).toNat)) ++ [x1]).length + (x0.drop (x5 : Int).toNat).length ≤ 8796093022208 then (.ret (((([] : List ByteArray) ++ (x0.take (x5 : Int).toNat)) ++ [x1]) ++ (x0.drop (x5 : Int).toNat))) else (.bad)) else (.bad)) else (.bad)) else (.bad)) else (.bad)
  | .l0 x0 x1 x5 => if x5 < (x0.length : Int) then (if 0 ≤ x5 then (if (Op.bytesLess (rdOf ByteArray.empty x0 x5).toList x1.toList) = true then (.to (.l0 x0 x1 (wrap64 (x5 + 1)))) else (.to (.j0 x0 x1 x5))) else (.bad)) else (.to (.j0 x0 x1 x5))
def spec_l10Put.fv (l0 : List ByteArray) (a1 : ByteArray) : Option ((List ByteArray)) := lim spec_l10Put.B (.f l0 a1)
def spec_l10Put.j0v (x0 : List ByteArray) (x1 : ByteArray) (x5 : Int) : Option ((List ByteArray)) := lim spec_l10Put.B (.j0 x0 x1 x5)
def spec_l10Put.l0v (x0 : List ByteArray) (x1 : ByteArray) (x5 : Int) : Option ((List ByteArray)) := lim spec_l10Put.B (.l0 x0 x1 x5)
theorem spec_l10Put.fv_eq (l0 : List ByteArray) (a1 : ByteArray) : spec_l10Put.fv l0 a1 = ((spec_l7Within.fv l0 a1).bind fun t9 => (if t9 = true then (some l0) else (spec_l10Put.l0v l0 a1 0))) := by
  show lim spec_l10Put.B (.f l0 a1) = _
  rw [lim_eq, spec_l10Put.B]
  simp only [ev_ite, ev_opt, ev_ask, ev_to, ev_ret, ev_bad]
  try rfl
theorem spec_l10Put.j0v_eq (x0 : List ByteArray) (x1 : ByteArray) (x5 : Int) : spec_l10Put.j0v x0 x1 x5 = (if 0 ≤ x5 then (if x5 ≤ (x0.length : Int) then (if ([] : List ByteArray).length + (x0.take (x5 : Int).toNat).length ≤ 8796093022208 then (if (([] : List ByteArray) ++ (x0.take (x5 : Int).toNat)).length < 8796093022208 then (if ((([] : List ByteArray) ++ (x0.take (x5 : Int).toNat)) ++ [x1]).length + (x0.drop (x5 : Int).toNat).length ≤ 8796093022208 then (some (((([] : List ByteArray) ++ (x0.take (x5 : Int).toNat)) ++ [x1]) ++ (x0.drop (x5 : Int).toNat))) else (none)) else (none)) else (none)) else (none)) else (none)) := by
  show lim spec_l10Put.B (.j0 x0 x1 x5) = _
  rw [lim_eq, spec_l10Put.B]
  simp only [ev_ite, ev_opt, ev_ask, ev_to, ev_ret, ev_bad]
  try rfl
theorem spec_l10Put.l0v_eq (x0 : List ByteArray) (x1 : ByteArray) (x5 : Int) : spec_l10Put.l0v x0 x1 x5 = (if x5 < (x0.length : Int) then (if 0 ≤ x5 then (if (Op.bytesLess (rdOf ByteArray.empty x0 x5).toList x1.toList) = true then (spec_l10Put.l0v x0 x1 (wrap64 (x5 + 1))) else (spec_l10Put.j0v x0 x1 x5)) else (none)) else (spec_l10Put.j0v x0 x1 x5)) := by
  show lim spec_l10Put.B (.l0 x0 x1 x5) = _
  rw [lim_eq, spec_l10Put.B]
  simp only [ev_ite, ev_opt, ev_ask, ev_to, ev_ret, ev_bad]
  try rfl
inductive spec_l10Names.Q where
  | f (a0_0 : Int) (a0_1 : Int) (a0_2 : ByteArray) (l0_3 : List S38) (l1 : List ByteArray) (l2 : List ByteArray)
  | j0 (x1 : List ByteArray) (x2 : List ByteArray) (x16_0 : Int) (x16_1 : Int) (x16_2 : ByteArray) (x16_3 : List S38)
  | j1 (x1 : List ByteArray) (x2 : List ByteArray) (x17 : Bool) (x16_0 : Int) (x16_1 : Int) (x16_2 : ByteArray) (x16_3 : List S38)
  | l0 (x1 : List ByteArray) (x2 : List ByteArray) (x8 : Int) (x16_0 : Int) (x16_1 : Int) (x16_2 : ByteArray) (x16_3 : List S38)
def spec_l10Names.B : spec_l10Names.Q → Pg spec_l10Names.Q (fun _ => (List ByteArray) × (List ByteArray)) ((List ByteArray) × (List ByteArray))
  | .f a0_0 a0_1 a0_2 l0_3 l1 l2 => if a0_0 = 4 then (.opt (spec_l10Put.fv l1 a0_2) fun t16 => (.to (.j0 t16 l2 a0_0 a0_1 a0_2 l0_3))) else (if a0_0 = 5 then (.to (.j1 l1 l2 (a0_0 == 5) a0_0 a0_1 a0_2 l0_3)) else (.to (.j1 l1 l2 (a0_0 == 34) a0_0 a0_1 a0_2 l0_3)))
  | .j0 x1 x2 x16_0 x16_1 x16_2 x16_3 => .to (.l0 x1 x2 0 x16_0 x16_1 x16_2 x16_3)
  | .j1 x1 x2 x17 x16_0 x16_1 x16_2 x16_3 => if x17 = true then (.opt (spec_l10Put.fv x2 x16_2) fun t23 => (.to (.j0 x1 t23 x16_0 x16_1 x16_2 x16_3))) else (.to (.j0 x1 x2 x16_0 x16_1 x16_2 x16_3))
  | .l0 x1 x2 x8 x16_0 x16_1 x16_2 x16_3 => if x8 < (x16_3.length : Int) then (if 0 ≤ x8 then (.ask (.f ((rd_T38 x16_3 x8).f0) ((rd_T38 x16_3 x8).f1) ((rd_T38 x16_3 x8).f2) ((rd_T38 x16_3 x8).f3) x1 x2) fun (t39 : (List ByteArray) × (List ByteArray)) => (.to (.l0 t39.1 t39.2 (wrap64 (x8 + 1)) x16_0 x16_1 x16_2 x16_3))) else (.bad)) else (.ret (x1, x2))
def spec_l10Names.fv (a0_0 : Int) (a0_1 : Int) (a0_2 : ByteArray) (l0_3 : List S38) (l1 : List ByteArray) (l2 : List ByteArray) : Option ((List ByteArray) × (List ByteArray)) := lim spec_l10Names.B (.f a0_0 a0_1 a0_2 l0_3 l1 l2)
def spec_l10Names.j0v (x1 : List ByteArray) (x2 : List ByteArray) (x16_0 : Int) (x16_1 : Int) (x16_2 : ByteArray) (x16_3 : List S38) : Option ((List ByteArray) × (List ByteArray)) := lim spec_l10Names.B (.j0 x1 x2 x16_0 x16_1 x16_2 x16_3)
def spec_l10Names.j1v (x1 : List ByteArray) (x2 : List ByteArray) (x17 : Bool) (x16_0 : Int) (x16_1 : Int) (x16_2 : ByteArray) (x16_3 : List S38) : Option ((List ByteArray) × (List ByteArray)) := lim spec_l10Names.B (.j1 x1 x2 x17 x16_0 x16_1 x16_2 x16_3)
def spec_l10Names.l0v (x1 : List ByteArray) (x2 : List ByteArray) (x8 : Int) (x16_0 : Int) (x16_1 : Int) (x16_2 : ByteArray) (x16_3 : List S38) : Option ((List ByteArray) × (List ByteArray)) := lim spec_l10Names.B (.l0 x1 x2 x8 x16_0 x16_1 x16_2 x16_3)
theorem spec_l10Names.fv_eq (a0_0 : Int) (a0_1 : Int) (a0_2 : ByteArray) (l0_3 : List S38) (l1 : List ByteArray) (l2 : List ByteArray) : spec_l10Names.fv a0_0 a0_1 a0_2 l0_3 l1 l2 = (if a0_0 = 4 then ((spec_l10Put.fv l1 a0_2).bind fun t16 => (spec_l10Names.j0v t16 l2 a0_0 a0_1 a0_2 l0_3)) else (if a0_0 = 5 then (spec_l10Names.j1v l1 l2 (a0_0 == 5) a0_0 a0_1 a0_2 l0_3) else (spec_l10Names.j1v l1 l2 (a0_0 == 34) a0_0 a0_1 a0_2 l0_3))) := by
  show lim spec_l10Names.B (.f a0_0 a0_1 a0_2 l0_3 l1 l2) = _
  rw [lim_eq, spec_l10Names.B]
  simp only [ev_ite, ev_opt, ev_ask, ev_to, ev_ret, ev_bad]
  try rfl
theorem spec_l10Names.j0v_eq (x1 : List ByteArray) (x2 : List ByteArray) (x16_0 : Int) (x16_1 : Int) (x16_2 : ByteArray) (x16_3 : List S38) : spec_l10Names.j0v x1 x2 x16_0 x16_1 x16_2 x16_3 = (spec_l10Names.l0v x1 x2 0 x16_0 x16_1 x16_2 x16_3) := by
  show lim spec_l10Names.B (.j0 x1 x2 x16_0 x16_1 x16_2 x16_3) = _
  rw [lim_eq, spec_l10Names.B]
  simp only [ev_ite, ev_opt, ev_ask, ev_to, ev_ret, ev_bad]
  try rfl
theorem spec_l10Names.j1v_eq (x1 : List ByteArray) (x2 : List ByteArray) (x17 : Bool) (x16_0 : Int) (x16_1 : Int) (x16_2 : ByteArray) (x16_3 : List S38) : spec_l10Names.j1v x1 x2 x17 x16_0 x16_1 x16_2 x16_3 = (if x17 = true then ((spec_l10Put.fv x2 x16_2).bind fun t23 => (spec_l10Names.j0v x1 t23 x16_0 x16_1 x16_2 x16_3)) else (spec_l10Names.j0v x1 x2 x16_0 x16_1 x16_2 x16_3)) := by
  show lim spec_l10Names.B (.j1 x1 x2 x17 x16_0 x16_1 x16_2 x16_3) = _
  rw [lim_eq, spec_l10Names.B]
  simp only [ev_ite, ev_opt, ev_ask, ev_to, ev_ret, ev_bad]
  try rfl
theorem spec_l10Names.l0v_eq (x1 : List ByteArray) (x2 : List ByteArray) (x8 : Int) (x16_0 : Int) (x16_1 : Int) (x16_2 : ByteArray) (x16_3 : List S38) : spec_l10Names.l0v x1 x2 x8 x16_0 x16_1 x16_2 x16_3 = (if x8 < (x16_3.length : Int) then (if 0 ≤ x8 then ((spec_l10Names.fv ((rd_T38 x16_3 x8).f0) ((rd_T38 x16_3 x8).f1) ((rd_T38 x16_3 x8).f2) ((rd_T38 x16_3 x8).f3) x1 x2).bind fun t39 => (spec_l10Names.l0v t39.1 t39.2 (wrap64 (x8 + 1)) x16_0 x16_1 x16_2 x16_3)) else (none)) else (some (x1, x2))) := by
  show lim spec_l10Names.B (.l0 x1 x2 x8 x16_0 x16_1 x16_2 x16_3) = _
  rw [lim_eq, spec_l10Names.B]
  simp only [ev_ite, ev_opt, ev_ask, ev_to, ev_ret, ev_bad]
  try rfl
inductive spec_Names.Q where
  | f (l0 : List S40)
  | l0 (x0 : List S40) (x4 : List ByteArray) (x5 : List ByteArray) (x6 : Int)
def spec_Names.B : spec_Names.Q → Pg spec_Names.Q (fun _ => (List ByteArray) × (List ByteArray)) ((List ByteArray) × (List ByteArray))
  | .f l0 => .to (.l0 l0 ([] : List ByteArray) ([] : List ByteArray) 0)
  | .l0 x0 x4 x5 x6 => if x6 < (x0.length : Int) then (if 0 ≤ x6 then (.opt (spec_l10Names.fv ((rd_T40 x0 x6).f1) ((rd_T40 x0 x6).f2) ((rd_T40 x0 x6).f3) ((rd_T40 x0 x6).f4) x4 x5) fun t23 => (.opt (spec_l10Names.fv ((rd_T40 x0 x6).f5) ((rd_T40 x0 x6).f6) ((rd_T40 x0 x6).f7) ((rd_T40 x0 x6).f8) t23.1 t23.2) fun t34 => (.to (.l0 x0 t34.1 t34.2 (wrap64 (x6 + 1)))))) else (.bad)) else (.ret (x4, x5))
def spec_Names.fv (l0 : List S40) : Option ((List ByteArray) × (List ByteArray)) := lim spec_Names.B (.f l0)
def spec_Names.l0v (x0 : List S40) (x4 : List ByteArray) (x5 : List ByteArray) (x6 : Int) : Option ((List ByteArray) × (List ByteArray)) := lim spec_Names.B (.l0 x0 x4 x5 x6)
theorem spec_Names.fv_eq (l0 : List S40) : spec_Names.fv l0 = (spec_Names.l0v l0 ([] : List ByteArray) ([] : List ByteArray) 0) := by
  show lim spec_Names.B (.f l0) = _
  rw [lim_eq, spec_Names.B]
  simp only [ev_ite, ev_opt, ev_ask, ev_to, ev_ret, ev_bad]
  try rfl
theorem spec_Names.l0v_eq (x0 : List S40) (x4 : List ByteArray) (x5 : List ByteArray) (x6 : Int) : spec_Names.l0v x0 x4 x5 x6 = (if x6 < (x0.length : Int) then (if 0 ≤ x6 then ((spec_l10Names.fv ((rd_T40 x0 x6).f1) ((rd_T40 x0 x6).f2) ((rd_T40 x0 x6).f3) ((rd_T40 x0 x6).f4) x4 x5).bind fun t23 => ((spec_l10Names.fv ((rd_T40 x0 x6).f5) ((rd_T40 x0 x6).f6) ((rd_T40 x0 x6).f7) ((rd_T40 x0 x6).f8) t23.1 t23.2).bind fun t34 => (spec_Names.l0v x0 t34.1 t34.2 (wrap64 (x6 + 1))))) else (none)) else (some (x4, x5))) := by
  show lim spec_Names.B (.l0 x0 x4 x5 x6) = _
  rw [lim_eq, spec_Names.B]
  simp only [ev_ite, ev_opt, ev_ask, ev_to, ev_ret, ev_bad]
  try rfl
inductive spec_l10Args.Q where
  | f (a0_0 : Int) (a0_1 : Int) (a0_2 : ByteArray) (l0_3 : List S38)
  | j0 (x3 : Int) (x16_0 : Int) (x16_1 : Int) (x16_2 : ByteArray) (x16_3 : List S38)
  | j1 (x3 : Int) (x26 : Bool) (x16_0 : Int) (x16_1 : Int) (x16_2 : ByteArray) (x16_3 : List S38)
  | l0 (x3 : Int) (x4 : Int) (x16_0 : Int) (x16_1 : Int) (x16_2 : ByteArray) (x16_3 : List S38)
def spec_l10Args.B : spec_l10Args.Q → Pg spec_l10Args.Q (fun _ => Bool) (Bool)
  | .f a0_0 a0_1 a0_2 l0_3 => if a0_0 = 28 then (if a0_2.toList = ([105, 110, 100, 101, 120] : List UInt8) then (if (l0_3.length : Int) = 2 then (.to (.j0 (l0_3.length : Int) a0_0 a0_1 a0_2 l0_3)) else (.ret false)) else (if a0_2.toList = ([115, 117, 98, 115, 116, 114] : List UInt8) then (if (l0_3.length : Int) = 2 then (.to (.j1 (l0_3.length : Int) false a0_0 a0_1 a0_2 l0_3)) else (.to (.j1 (l0_3.length : Int) ((l0_3.length : Int) != 3) a0_0 a0_1 a0_2 l0_3))) else (if (l0_3.length : Int) = 1 then (.to (.j0 (l0_3.length : Int) a0_0 a0_1 a0_2 l0_3)) else (.ret false)))) else (.to (.j0 (l0_3.length : Int) a0_0 a0_1 a0_2 l0_3))
  | .j0 x3 x16_0 x16_1 x16_2 x16_3 => .to (.l0 x3 0 x16_0 x16_1 x16_2 x16_3)
  | .j1 x3 x26 x16_0 x16_1 x16_2 x16_3 => if x26 = true then (.ret false) else (.to (.j0 x3 x16_0 x16_1 x16_2 x16_3))
  | .l0 x3 x4 x16_0 x16_1 x16_2 x16_3 => if x4 < x3 then (if 0 ≤ x4 then (if x4 < (x16_3.length : Int) then (.ask (.f ((rd_T38 x16_3 x4).f0) ((rd_T38 x16_3 x4).f1) ((rd_T38 x16_3 x4).f2) ((rd_T38 x16_3 x4).f3)) fun (t37 : Bool) => (if t37 = true then (.to (.l0 x3 (wrap64 (x4 + 1)) x16_0 x16_1 x16_2 x16_3)) else (.ret false))) else (.bad)) else (.bad)) else (.ret true)
def spec_l10Args.fv (a0_0 : Int) (a0_1 : Int) (a0_2 : ByteArray) (l0_3 : List S38) : Option (Bool) := lim spec_l10Args.B (.f a0_0 a0_1 a0_2 l0_3)
def spec_l10Args.j0v (x3 : Int) (x16_0 : Int) (x16_1 : Int) (x16_2 : ByteArray) (x16_3 : List S38) : Option (Bool) := lim spec_l10Args.B (.j0 x3 x16_0 x16_1 x16_2 x16_3)
def spec_l10Args.j1v (x3 : Int) (x26 : Bool) (x16_0 : Int) (x16_1 : Int) (x16_2 : ByteArray) (x16_3 : List S38) : Option (Bool) := lim spec_l10Args.B (.j1 x3 x26 x16_0 x16_1 x16_2 x16_3)
def spec_l10Args.l0v (x3 : Int) (x4 : Int) (x16_0 : Int) (x16_1 : Int) (x16_2 : ByteArray) (x16_3 : List S38) : Option (Bool) := lim spec_l10Args.B (.l0 x3 x4 x16_0 x16_1 x16_2 x16_3)
theorem spec_l10Args.fv_eq (a0_0 : Int) (a0_1 : Int) (a0_2 : ByteArray) (l0_3 : List S38) : spec_l10Args.fv a0_0 a0_1 a0_2 l0_3 = (if a0_0 = 28 then (if a0_2.toList = ([105, 110, 100, 101, 120] : List UInt8) then (if (l0_3.length : Int) = 2 then (spec_l10Args.j0v (l0_3.length : Int) a0_0 a0_1 a0_2 l0_3) else (some false)) else (if a0_2.toList = ([115, 117, 98, 115, 116, 114] : List UInt8) then (if (l0_3.length : Int) = 2 then (spec_l10Args.j1v (l0_3.length : Int) false a0_0 a0_1 a0_2 l0_3) else (spec_l10Args.j1v (l0_3.length : Int) ((l0_3.length : Int) != 3) a0_0 a0_1 a0_2 l0_3)) else (if (l0_3.length : Int) = 1 then (spec_l10Args.j0v (l0_3.length : Int) a0_0 a0_1 a0_2 l0_3) else (some false)))) else (spec_l10Args.j0v (l0_3.length : Int) a0_0 a0_1 a0_2 l0_3)) := by
  show lim spec_l10Args.B (.f a0_0 a0_1 a0_2 l0_3) = _
  rw [lim_eq, spec_l10Args.B]
  simp only [ev_ite, ev_opt, ev_ask, ev_to, ev_ret, ev_bad]
  try rfl
theorem spec_l10Args.j0v_eq (x3 : Int) (x16_0 : Int) (x16_1 : Int) (x16_2 : ByteArray) (x16_3 : List S38) : spec_l10Args.j0v x3 x16_0 x16_1 x16_2 x16_3 = (spec_l10Args.l0v x3 0 x16_0 x16_1 x16_2 x16_3) := by
  show lim spec_l10Args.B (.j0 x3 x16_0 x16_1 x16_2 x16_3) = _
  rw [lim_eq, spec_l10Args.B]
  simp only [ev_ite, ev_opt, ev_ask, ev_to, ev_ret, ev_bad]
  try rfl
theorem spec_l10Args.j1v_eq (x3 : Int) (x26 : Bool) (x16_0 : Int) (x16_1 : Int) (x16_2 : ByteArray) (x16_3 : List S38) : spec_l10Args.j1v x3 x26 x16_0 x16_1 x16_2 x16_3 = (if x26 = true then (some false) else (spec_l10Args.j0v x3 x16_0 x16_1 x16_2 x16_3)) := by
  show lim spec_l10Args.B (.j1 x3 x26 x16_0 x16_1 x16_2 x16_3) = _
  rw [lim_eq, spec_l10Args.B]
  simp only [ev_ite, ev_opt, ev_ask, ev_to, ev_ret, ev_bad]
  try rfl
theorem spec_l10Args.l0v_eq (x3 : Int) (x4 : Int) (x16_0 : Int) (x16_1 : Int) (x16_2 : ByteArray) (x16_3 : List S38) : spec_l10Args.l0v x3 x4 x16_0 x16_1 x16_2 x16_3 = (if x4 < x3 then (if 0 ≤ x4 then (if x4 < (x16_3.length : Int) then ((spec_l10Args.fv ((rd_T38 x16_3 x4).f0) ((rd_T38 x16_3 x4).f1) ((rd_T38 x16_3 x4).f2) ((rd_T38 x16_3 x4).f3)).bind fun t37 => (if t37 = true then (spec_l10Args.l0v x3 (wrap64 (x4 + 1)) x16_0 x16_1 x16_2 x16_3) else (some false))) else (none)) else (none)) else (some true)) := by
  show lim spec_l10Args.B (.l0 x3 x4 x16_0 x16_1 x16_2 x16_3) = _
  rw [lim_eq, spec_l10Args.B]
  simp only [ev_ite, ev_opt, ev_ask, ev_to, ev_ret, ev_bad]
  try rfl
def spec_l3Now.f (s0_0 : ByteArray) (s0_1 : Int) (s0_2 : Bool) (a1 : Int) : Option (Bool × ByteArray × Int × Bool) := if s0_2 = true then (some (false, s0_0, s0_1, s0_2)) else (if s0_1 < (s0_0.size : Int) then (if 0 ≤ s0_1 then (some (((bt s0_0 s0_1) == a1), s0_0, s0_1, s0_2)) else (none)) else (some (false, s0_0, s0_1, s0_2)))
inductive spec_l3Set.Q where
  | f (s0_0 : ByteArray) (s0_1 : Int) (s0_2 : Bool)
  | j0 (x1000 : ByteArray) (x1001 : Int) (x1002 : Bool) (x529_0 : Int) (x529_1 : Int) (x529_2 : ByteArray) (x529_3 : Bool)
  | l0 (x4 : List Bool) (x5 : Int) (x1000 : ByteArray) (x1001 : Int) (x1002 : Bool) (x529_0 : Int) (x529_1 : Int) (x529_2 : ByteArray) (x529_3 : Bool)
  | j2 (x4 : List Bool) (x5 : Int) (x44 : Bool) (x1000 : ByteArray) (x1001 : Int) (x1002 : Bool) (x529_0 : Int) (x529_1 : Int) (x529_2 : ByteArray) (x529_3 : Bool)
  | j4 (x4 : List Bool) (x5 : Int) (x6 : Int) (x7 : Int) (x1000 : ByteArray) (x1001 : Int) (x1002 : Bool) (x529_0 : Int) (x529_1 : Int) (x529_2 : ByteArray) (x529_3 : Bool)
  | j3 (x4 : List Bool) (x5 : Int) (x6 : Int) (x7 : Int) (x98 : Bool) (x1000 : ByteArray) (x1001 : Int) (x1002 : Bool) (x529_0 : Int) (x529_1 : Int) (x529_2 : ByteArray) (x529_3 : Bool)
  | j5 (x4 : List Bool) (x5 : Int) (x6 : Int) (x7 : Int) (x1000 : ByteArray) (x1001 : Int) (x1002 : Bool) (x529_0 : Int) (x529_1 : Int) (x529_2 : ByteArray) (x529_3 : Bool)
  | l1 (x4 : List Bool) (x5 : Int) (x7 : Int) (x8 : Int) (x1000 : ByteArray) (x1001 : Int) (x1002 : Bool) (x529_0 : Int) (x529_1 : Int) (x529_2 : ByteArray) (x529_3 : Bool)
  | j8 (x4 : List Bool) (x1000 : ByteArray) (x1001 : Int) (x1002 : Bool) (x529_0 : Int) (x529_1 : Int) (x529_2 : ByteArray) (x529_3 : Bool)
  | j7 (x4 : List Bool) (x148 : Bool) (x1000 : ByteArray) (x1001 : Int) (x1002 : Bool) (x529_0 : Int) (x529_1 : Int) (x529_2 : ByteArray) (x529_3 : Bool)
  | l2 (x4 : List Bool) (x9 : List Int) (x10 : Int) (x1000 : ByteArray) (x1001 : Int) (x1002 : Bool) (x529_0 : Int) (x529_1 : Int) (x529_2 : ByteArray) (x529_3 : Bool)
def spec_l3Set.B : spec_l3Set.Q → Pg spec_l3Set.Q (fun _ => Int × Int × ByteArray × Bool × (List S58) × ByteArray × Int × Bool) (Int × Int × ByteArray × Bool × (List S58) × ByteArray × Int × Bool)
  | .f s0_0 s0_1 s0_2 => .opt (spec_l3Now.f s0_0 s0_1 s0_2 94) fun t13 => (if t13.1 = true then (.to (.j0 t13.2.1 (wrap64 (t13.2.2.1 + 1)) t13.2.2.2 3 0 (⟨#[]⟩ : ByteArray) true)) else (.to (.j0 t13.2.1 t13.2.2.1 t13.2.2.2 3 0 (⟨#[]⟩ : ByteArray) false)))
  | .j0 x1000 x1001 x1002 x529_0 x529_1 x529_2 x529_3 => if 256 ≤ 281474976710656 then (.to (.l0 (List.replicate 256 false) 0 x1000 x1001 x1002 x529_0 x529_1 x529_2 x529_3)) else (.bad)
  | .l0 x4 x5 x1000 x1001 x1002 x529_0 x529_1 x529_2 x529_3 => if x1001 < (x1000.size : Int) then (if 0 ≤ x1001 then (.to (.j2 x4 x5 ((bt x1000 x1001) != 93) x1000 x1001 x1002 x529_0 x529_1 x529_2 x529_3)) else (.bad)) else (.to (.j2 x4 x5 false x1000 x1001 x1002 x529_0 x529_1 x529_2 x529_3))
  | .j2 x4 x5 x44 x1000 x1001 x1002 x529_0 x529_1 x529_2 x529_3 => if x44 = true then (if 0 ≤ x1001 then (if x1001 < (x1000.size : Int) then (if (wrap64 ((wrap64 (x1001 + 1)) + 1)) < (x1000.size : Int) then (if 0 ≤ (wrap64 (x1001 + 1)) then (if (wrap64 (x1001 + 1)) < (x1000.size : Int) then (if (bt x1000 (wrap64 (x1001 + 1))) = 45 then (if 0 ≤ (wrap64 ((wrap64 (x1001 + 1)) + 1)) then (.to (.j3 x4 x5 (wrap64 (bt x1000 x1001)) (wrap64 (bt x1000 x1001)) (((bt x1000 (wrap64 ((wrap64 (x1001 + 1)) + 1))) != 93)) x1000 (wrap64 (x1001 + 1)) x1002 x529_0 x529_1 x529_2 x529_3)) else (.bad)) else (.to (.j3 x4 x5 (wrap64 (bt x1000 x1001)) (wrap64 (bt x1000 x1001)) false x1000 (wrap64 (x1001 + 1)) x1002 x529_0 x529_1 x529_2 x529_3))) else (.bad)) else (.bad)) else (.to (.j3 x4 x5 (wrap64 (bt x1000 x1001)) (wrap64 (bt x1000 x1001)) false x1000 (wrap64 (x1001 + 1)) x1002 x529_0 x529_1 x529_2 x529_3))) else (.bad)) else (.bad)) else (if x1001 ≥ (x1000.size : Int) then (.to (.j7 x4 true x1000 x1001 x1002 x529_0 x529_1 x529_2 x529_3)) else (.to (.j7 x4 (x5 == 0) x1000 x1001 x1002 x529_0 x529_1 x529_2 x529_3)))
  | .j4 x4 x5 x6 x7 x1000 x1001 x1002 x529_0 x529_1 x529_2 x529_3 => if x7 < x6 then (.to (.j5 x4 x5 x6 x7 x1000 x1001 true x529_0 x529_1 x529_2 x529_3)) else (.to (.j5 x4 x5 x6 x7 x1000 x1001 x1002 x529_0 x529_1 x529_2 x529_3))
  | .j3 x4 x5 x6 x7 x98 x1000 x1001 x1002 x529_0 x529_1 x529_2 x529_3 => if x98 = true then (if 0 ≤ (wrap64 (x1001 + 1)) then (if (wrap64 (x1001 + 1)) < (x1000.size : Int) then (.to (.j4 x4 x5 x6 ((wrap64 (bt x1000 (wrap64 (x1001 + 1))))) x1000 (wrap64 (x1001 + 2)) x1002 x529_0 x529_1 x529_2 x529_3)) else (.bad)) else (.bad)) else (.to (.j4 x4 x5 x6 x7 x1000 x1001 x1002 x529_0 x529_1 x529_2 x529_3))
  | .j5 x4 x5 x6 x7 x1000 x1001 x1002 x529_0 x529_1 x529_2 x529_3 => .to (.l1 x4 x5 x7 x6 x1000 x1001 x1002 x529_0 x529_1 x529_2 x529_3)
  | .l1 x4 x5 x7 x8 x1000 x1001 x1002 x529_0 x529_1 x529_2 x529_3 => if x8 ≤ x7 then (if 0 ≤ x8 then (if x8 < (x4.length : Int) then (.to (.l1 (x4.set (x8 : Int).toNat true) x5 x7 (wrap64 (x8 + 1)) x1000 x1001 x1002 x529_0 x529_1 x529_2 x529_3)) else (.bad)) else (.bad)) else (.to (.l0 x4 (wrap64 (x5 + 1)) x1000 x1001 x1002 x529_0 x529_1 x529_2 x529_3))
  | .j8 x4 x1000 x1001 x1002 x529_0 x529_1 x529_2 x529_3 => .to (.l2 x4 ([] : List Int) 0 x1000 (wrap64 (x1001 + 1)) x1002 x529_0 x529_1 x529_2 x529_3)
  | .j7 x4 x148 x1000 x1001 x1002 x529_0 x529_1 x529_2 x529_3 => if x148 = true then (.to (.j8 x4 x1000 x1001 true x529_0 x529_1 x529_2 x529_3)) else (.to (.j8 x4 x1000 x1001 x1002 x529_0 x529_1 x529_2 x529_3))
  | .l2 x4 x9 x10 x1000 x1001 x1002 x529_0 x529_1 x529_2 x529_3 => if x10 < 256 then (if 0 ≤ x10 then (if x10 < (x4.length : Int) then (if (rdOf false x4 x10) = true then (if x9.length < 140737488355328 then (.to (.l2 x4 ((x9 ++ [((x10) % 256)])) (wrap64 (x10 + 1)) x1000 x1001 x1002 x529_0 x529_1 x529_2 x529_3)) else (.bad)) else (.to (.l2 x4 x9 (wrap64 (x10 + 1)) x1000 x1001 x1002 x529_0 x529_1 x529_2 x529_3))) else (.bad)) else (.bad)) else (.ret (x529_0, x529_1, (strOfNums x9), x529_3, ([] : List S58), x1000, x1001, x1002))
def spec_l3Set.fv (s0_0 : ByteArray) (s0_1 : Int) (s0_2 : Bool) : Option (Int × Int × ByteArray × Bool × (List S58) × ByteArray × Int × Bool) := lim spec_l3Set.B (.f s0_0 s0_1 s0_2)
def spec_l3Set.j0v (x1000 : ByteArray) (x1001 : Int) (x1002 : Bool) (x529_0 : Int) (x529_1 : Int) (x529_2 : ByteArray) (x529_3 : Bool) : Option (Int × Int × ByteArray × Bool × (List S58) × ByteArray × Int × Bool) := lim spec_l3Set.B (.j0 x1000 x1001 x1002 x529_0 x529_1 x529_2 x529_3)
def spec_l3Set.l0v (x4 : List Bool) (x5 : Int) (x1000 : ByteArray) (x1001 : Int) (x1002 : Bool) (x529_0 : Int) (x529_1 : Int) (x529_2 : ByteArray) (x529_3 : Bool) : Option (Int × Int × ByteArray × Bool × (List S58) × ByteArray × Int × Bool) := lim spec_l3Set.B (.l0 x4 x5 x1000 x1001 x1002 x529_0 x529_1 x529_2 x529_3)
def spec_l3Set.j2v (x4 : List Bool) (x5 : Int) (x44 : Bool) (x1000 : ByteArray) (x1001 : Int) (x1002 : Bool) (x529_0 : Int) (x529_1 : Int) (x529_2 : ByteArray) (x529_3 : Bool) : Option (Int × Int × ByteArray × Bool × (List S58) × ByteArray × Int × Bool) := lim spec_l3Set.B (.j2 x4 x5 x44 x1000 x1001 x1002 x529_0 x529_1 x529_2 x529_3)
def spec_l3Set.j4v (x4 : List Bool) (x5 : Int) (x6 : Int) (x7 : Int) (x1000 : ByteArray) (x1001 : Int) (x1002 : Bool) (x529_0 : Int) (x529_1 : Int) (x529_2 : ByteArray) (x529_3 : Bool) : Option (Int × Int × ByteArray × Bool × (List S58) × ByteArray × Int × Bool) := lim spec_l3Set.B (.j4 x4 x5 x6 x7 x1000 x1001 x1002 x529_0 x529_1 x529_2 x529_3)
def spec_l3Set.j3v (x4 : List Bool) (x5 : Int) (x6 : Int) (x7 : Int) (x98 : Bool) (x1000 : ByteArray) (x1001 : Int) (x1002 : Bool) (x529_0 : Int) (x529_1 : Int) (x529_2 : ByteArray) (x529_3 : Bool) : Option (Int × Int × ByteArray × Bool × (List S58) × ByteArray × Int × Bool) := lim spec_l3Set.B (.j3 x4 x5 x6 x7 x98 x1000 x1001 x1002 x529_0 x529_1 x529_2 x529_3)
def spec_l3Set.j5v (x4 : List Bool) (x5 : Int) (x6 : Int) (x7 : Int) (x1000 : ByteArray) (x1001 : Int) (x1002 : Bool) (x529_0 : Int) (x529_1 : Int) (x529_2 : ByteArray) (x529_3 : Bool) : Option (Int × Int × ByteArray × Bool × (List S58) × ByteArray × Int × Bool) := lim spec_l3Set.B (.j5 x4 x5 x6 x7 x1000 x1001 x1002 x529_0 x529_1 x529_2 x529_3)
def spec_l3Set.l1v (x4 : List Bool) (x5 : Int) (x7 : Int) (x8 : Int) (x1000 : ByteArray) (x1001 : Int) (x1002 : Bool) (x529_0 : Int) (x529_1 : Int) (x529_2 : ByteArray) (x529_3 : Bool) : Option (Int × Int × ByteArray × Bool × (List S58) × ByteArray × Int × Bool) := lim spec_l3Set.B (.l1 x4 x5 x7 x8 x1000 x1001 x1002 x529_0 x529_1 x529_2 x529_3)
def spec_l3Set.j8v (x4 : List Bool) (x1000 : ByteArray) (x1001 : Int) (x1002 : Bool) (x529_0 : Int) (x529_1 : Int) (x529_2 : ByteArray) (x529_3 : Bool) : Option (Int × Int × ByteArray × Bool × (List S58) × ByteArray × Int × Bool) := lim spec_l3Set.B (.j8 x4 x1000 x1001 x1002 x529_0 x529_1 x529_2 x529_3)
def spec_l3Set.j7v (x4 : List Bool) (x148 : Bool) (x1000 : ByteArray) (x1001 : Int) (x1002 : Bool) (x529_0 : Int) (x529_1 : Int) (x529_2 : ByteArray) (x529_3 : Bool) : Option (Int × Int × ByteArray × Bool × (List S58) × ByteArray × Int × Bool) := lim spec_l3Set.B (.j7 x4 x148 x1000 x1001 x1002 x529_0 x529_1 x529_2 x529_3)
def spec_l3Set.l2v (x4 : List Bool) (x9 : List Int) (x10 : Int) (x1000 : ByteArray) (x1001 : Int) (x1002 : Bool) (x529_0 : Int) (x529_1 : Int) (x529_2 : ByteArray) (x529_3 : Bool) : Option (Int × Int × ByteArray × Bool × (List S58) × ByteArray × Int × Bool) := lim spec_l3Set.B (.l2 x4 x9 x10 x1000 x1001 x1002 x529_0 x529_1 x529_2 x529_3)
theorem spec_l3Set.fv_eq (s0_0 : ByteArray) (s0_1 : Int) (s0_2 : Bool) : spec_l3Set.fv s0_0 s0_1 s0_2 = ((spec_l3Now.f s0_0 s0_1 s0_2 94).bind fun t13 => (if t13.1 = true then (spec_l3Set.j0v t13.2.1 (wrap64 (t13.2.2.1 + 1)) t13.2.2.2 3 0 (⟨#[]⟩ : ByteArray) true) else (spec_l3Set.j0v t13.2.1 t13.2.2.1 t13.2.2.2 3 0 (⟨#[]⟩ : ByteArray) false))) := by
  show lim spec_l3Set.B (.f s0_0 s0_1 s0_2) = _
  rw [lim_eq, spec_l3Set.B]
  simp only [ev_ite, ev_opt, ev_ask, ev_to, ev_ret, ev_bad]
  try rfl
theorem spec_l3Set.j0v_eq (x1000 : ByteArray) (x1001 : Int) (x1002 : Bool) (x529_0 : Int) (x529_1 : Int) (x529_2 : ByteArray) (x529_3 : Bool) : spec_l3Set.j0v x1000 x1001 x1002 x529_0 x529_1 x529_2 x529_3 = (if 256 ≤ 281474976710656 then (spec_l3Set.l0v (List.replicate 256 false) 0 x1000 x1001 x1002 x529_0 x529_1 x529_2 x529_3) else (none)) := by
  show lim spec_l3Set.B (.j0 x1000 x1001 x1002 x529_0 x529_1 x529_2 x529_3) = _
  rw [lim_eq, spec_l3Set.B]
  simp only [ev_ite, ev_opt, ev_ask, ev_to, ev_ret, ev_bad]
  try rfl
theorem spec_l3Set.l0v_eq (x4 : List Bool) (x5 : Int) (x1000 : ByteArray) (x1001 : Int) (x1002 : Bool) (x529_0 : Int) (x529_1 : Int) (x529_2 : ByteArray) (x529_3 : Bool) : spec_l3Set.l0v x4 x5 x1000 x1001 x1002 x529_0 x529_1 x529_2 x529_3 = (if x1001 < (x1000.size : Int) then (if 0 ≤ x1001 then (spec_l3Set.j2v x4 x5 ((bt x1000 x1001) != 93) x1000 x1001 x1002 x529_0 x529_1 x529_2 x529_3) else (none)) else (spec_l3Set.j2v x4 x5 false x1000 x1001 x1002 x529_0 x529_1 x529_2 x529_3)) := by
  show lim spec_l3Set.B (.l0 x4 x5 x1000 x1001 x1002 x529_0 x529_1 x529_2 x529_3) = _
  rw [lim_eq, spec_l3Set.B]
  simp only [ev_ite, ev_opt, ev_ask, ev_to, ev_ret, ev_bad]
  try rfl
theorem spec_l3Set.j2v_eq (x4 : List Bool) (x5 : Int) (x44 : Bool) (x1000 : ByteArray) (x1001 : Int) (x1002 : Bool) (x529_0 : Int) (x529_1 : Int) (x529_2 : ByteArray) (x529_3 : Bool) : spec_l3Set.j2v x4 x5 x44 x1000 x1001 x1002 x529_0 x529_1 x529_2 x529_3 = (if x44 = true then (if 0 ≤ x1001 then (if x1001 < (x1000.size : Int) then (if (wrap64 ((wrap64 (x1001 + 1)) + 1)) < (x1000.size : Int) then (if 0 ≤ (wrap64 (x1001 + 1)) then (if (wrap64 (x1001 + 1)) < (x1000.size : Int) then (if (bt x1000 (wrap64 (x1001 + 1))) = 45 then (if 0 ≤ (wrap64 ((wrap64 (x1001 + 1)) + 1)) then (spec_l3Set.j3v x4 x5 (wrap64 (bt x1000 x1001)) (wrap64 (bt x1000 x1001)) (((bt x1000 (wrap64 ((wrap64 (x1001 + 1)) + 1))) != 93)) x1000 (wrap64 (x1001 + 1)) x1002 x529_0 x529_1 x529_2 x529_3) else (none)) else (spec_l3Set.j3v x4 x5 (wrap64 (bt x1000 x1001)) (wrap64 (bt x1000 x1001)) false x1000 (wrap64 (x1001 + 1)) x1002 x529_0 x529_1 x529_2 x529_3)) else (none)) else (none)) else (spec_l3Set.j3v x4 x5 (wrap64 (bt x1000 x1001)) (wrap64 (bt x1000 x1001)) false x1000 (wrap64 (x1001 + 1)) x1002 x529_0 x529_1 x529_2 x529_3)) else (none)) else (none)) else (if x1001 ≥ (x1000.size : Int) then (spec_l3Set.j7v x4 true x1000 x1001 x1002 x529_0 x529_1 x529_2 x529_3) else (spec_l3Set.j7v x4 (x5 == 0) x1000 x1001 x1002 x529_0 x529_1 x529_2 x529_3))) := by
  show lim spec_l3Set.B (.j2 x4 x5 x44 x1000 x1001 x1002 x529_0 x529_1 x529_2 x529_3) = _
  rw [lim_eq, spec_l3Set.B]
  simp only [ev_ite, ev_opt, ev_ask, ev_to, ev_ret, ev_bad]
  try rfl
theorem spec_l3Set.j4v_eq (x4 : List Bool) (x5 : Int) (x6 : Int) (x7 : Int) (x1000 : ByteArray) (x1001 : Int) (x1002 : Bool) (x529_0 : Int) (x529_1 : Int) (x529_2 : ByteArray) (x529_3 : Bool) : spec_l3Set.j4v x4 x5 x6 x7 x1000 x1001 x1002 x529_0 x529_1 x529_2 x529_3 = (if x7 < x6 then (spec_l3Set.j5v x4 x5 x6 x7 x1000 x1001 true x529_0 x529_1 x529_2 x529_3) else (spec_l3Set.j5v x4 x5 x6 x7 x1000 x1001 x1002 x529_0 x529_1 x529_2 x529_3)) := by
  show lim spec_l3Set.B (.j4 x4 x5 x6 x7 x1000 x1001 x1002 x529_0 x529_1 x529_2 x529_3) = _
  rw [lim_eq, spec_l3Set.B]
  simp only [ev_ite, ev_opt, ev_ask, ev_to, ev_ret, ev_bad]
  try rfl
theorem spec_l3Set.j3v_eq (x4 : List Bool) (x5 : Int) (x6 : Int) (x7 : Int) (x98 : Bool) (x1000 : ByteArray) (x1001 : Int) (x1002 : Bool) (x529_0 : Int) (x529_1 : Int) (x529_2 : ByteArray) (x529_3 : Bool) : spec_l3Set.j3v x4 x5 x6 x7 x98 x1000 x1001 x1002 x529_0 x529_1 x529_2 x529_3 = (if x98 = true then (if 0 ≤ (wrap64 (x1001 + 1)) then (if (wrap64 (x1001 + 1)) < (x1000.size : Int) then (spec_l3Set.j4v x4 x5 x6 ((wrap64 (bt x1000 (wrap64 (x1001 + 1))))) x1000 (wrap64 (x1001 + 2)) x1002 x529_0 x529_1 x529_2 x529_3) else (none)) else (none)) else (spec_l3Set.j4v x4 x5 x6 x7 x1000 x1001 x1002 x529_0 x529_1 x529_2 x529_3)) := by
  show lim spec_l3Set.B (.j3 x4 x5 x6 x7 x98 x1000 x1001 x1002 x529_0 x529_1 x529_2 x529_3) = _
  rw [lim_eq, spec_l3Set.B]
  simp only [ev_ite, ev_opt, ev_ask, ev_to, ev_ret, ev_bad]
  try rfl
theorem spec_l3Set.j5v_eq (x4 : List Bool) (x5 : Int) (x6 : Int) (x7 : Int) (x1000 : ByteArray) (x1001 : Int) (x1002 : Bool) (x529_0 : Int) (x529_1 : Int) (x529_2 : ByteArray) (x529_3 : Bool) : spec_l3Set.j5v x4 x5 x6 x7 x1000 x1001 x1002 x529_0 x529_1 x529_2 x529_3 = (spec_l3Set.l1v x4 x5 x7 x6 x1000 x1001 x1002 x529_0 x529_1 x529_2 x529_3) := by
  show lim spec_l3Set.B (.j5 x4 x5 x6 x7 x1000 x1001 x1002 x529_0 x529_1 x529_2 x529_3) = _
  rw [lim_eq, spec_l3Set.B]
  simp only [ev_ite, ev_opt, ev_ask, ev_to, ev_ret, ev_bad]
  try rfl
theorem spec_l3Set.l1v_eq (x4 : List Bool) (x5 : Int) (x7 : Int) (x8 : Int) (x1000 : ByteArray) (x1001 : Int) (x1002 : Bool) (x529_0 : Int) (x529_1 : Int) (x529_2 : ByteArray) (x529_3 : Bool) : spec_l3Set.l1v x4 x5 x7 x8 x1000 x1001 x1002 x529_0 x529_1 x529_2 x529_3 = (if x8 ≤ x7 then (if 0 ≤ x8 then (if x8 < (x4.length : Int) then (spec_l3Set.l1v (x4.set (x8 : Int).toNat true) x5 x7 (wrap64 (x8 + 1)) x1000 x1001 x1002 x529_0 x529_1 x529_2 x529_3) else (none)) else (none)) else (spec_l3Set.l0v x4 (wrap64 (x5 + 1)) x1000 x1001 x1002 x529_0 x529_1 x529_2 x529_3)) := by
  show lim spec_l3Set.B (.l1 x4 x5 x7 x8 x1000 x1001 x1002 x529_0 x529_1 x529_2 x529_3) = _
  rw [lim_eq, spec_l3Set.B]
  simp only [ev_ite, ev_opt, ev_ask, ev_to, ev_ret, ev_bad]
  try rfl
theorem spec_l3Set.j8v_eq (x4 : List Bool) (x1000 : ByteArray) (x1001 : Int) (x1002 : Bool) (x529_0 : Int) (x529_1 : Int) (x529_2 : ByteArray) (x529_3 : Bool) : spec_l3Set.j8v x4 x1000 x1001 x1002 x529_0 x529_1 x529_2 x529_3 = (spec_l3Set.l2v x4 ([] : List Int) 0 x1000 (wrap64 (x1001 + 1)) x1002 x529_0 x529_1 x529_2 x529_3) := by
  show lim spec_l3Set.B (.j8 x4 x1000 x1001 x1002 x529_0 x529_1 x529_2 x529_3) = _
  rw [lim_eq, spec_l3Set.B]
  simp only [ev_ite, ev_opt, ev_ask, ev_to, ev_ret, ev_bad]
  try rfl
theorem spec_l3Set.j7v_eq (x4 : List Bool) (x148 : Bool) (x1000 : ByteArray) (x1001 : Int) (x1002 : Bool) (x529_0 : Int) (x529_1 : Int) (x529_2 : ByteArray) (x529_3 : Bool) : spec_l3Set.j7v x4 x148 x1000 x1001 x1002 x529_0 x529_1 x529_2 x529_3 = (if x148 = true then (spec_l3Set.j8v x4 x1000 x1001 true x529_0 x529_1 x529_2 x529_3) else (spec_l3Set.j8v x4 x1000 x1001 x1002 x529_0 x529_1 x529_2 x529_3)) := by
  show lim spec_l3Set.B (.j7 x4 x148 x1000 x1001 x1002 x529_0 x529_1 x529_2 x529_3) = _
  rw [lim_eq, spec_l3Set.B]
  simp only [ev_ite, ev_opt, ev_ask, ev_to, ev_ret, ev_bad]
  try rfl
theorem spec_l3Set.l2v_eq (x4 : List Bool) (x9 : List Int) (x10 : Int) (x1000 : ByteArray) (x1001 : Int) (x1002 : Bool) (x529_0 : Int) (x529_1 : Int) (x529_2 : ByteArray) (x529_3 : Bool) : spec_l3Set.l2v x4 x9 x10 x1000 x1001 x1002 x529_0 x529_1 x529_2 x529_3 = (if x10 < 256 then (if 0 ≤ x10 then (if x10 < (x4.length : Int) then (if (rdOf false x4 x10) = true then (if x9.length < 140737488355328 then (spec_l3Set.l2v x4 ((x9 ++ [((x10) % 256)])) (wrap64 (x10 + 1)) x1000 x1001 x1002 x529_0 x529_1 x529_2 x529_3) else (none)) else (spec_l3Set.l2v x4 x9 (wrap64 (x10 + 1)) x1000 x1001 x1002 x529_0 x529_1 x529_2 x529_3)) else (none)) else (none)) else (some (x529_0, x529_1, (strOfNums x9), x529_3, ([] : List S58), x1000, x1001, x1002))) := by
  show lim spec_l3Set.B (.l2 x4 x9 x10 x1000 x1001 x1002 x529_0 x529_1 x529_2 x529_3) = _
  rw [lim_eq, spec_l3Set.B]
  simp only [ev_ite, ev_opt, ev_ask, ev_to, ev_ret, ev_bad]
  try rfl
inductive spec_l3Pattern.Q where
  | spec_l3Pattern_f (s0_0 : ByteArray) (s0_1 : Int) (s0_2 : Bool) (a1 : Int)
  | spec_l3Pattern_l0 (x1 : Int) (x5 : List S58) (x1000 : ByteArray) (x1001 : Int) (x1002 : Bool)
  | spec_l3Part_f (s0_0 : ByteArray) (s0_1 : Int) (s0_2 : Bool) (a1 : Int)
  | spec_l3Part_j1 (x5 : List S58) (x1000 : ByteArray) (x1001 : Int) (x1002 : Bool)
  | spec_l3Part_l0 (x1 : Int) (x5 : List S58) (x1000 : ByteArray) (x1001 : Int) (x1002 : Bool)
  | spec_l3Piece_f (s0_0 : ByteArray) (s0_1 : Int) (s0_2 : Bool) (a1 : Int)
  | spec_l3Piece_l0 (x1000 : ByteArray) (x1001 : Int) (x1002 : Bool) (x531_0 : Int) (x531_1 : Int) (x531_2 : ByteArray) (x531_3 : Bool) (x531_4 : List S58)
  | spec_l3Atom_f (s0_0 : ByteArray) (s0_1 : Int) (s0_2 : Bool) (a1 : Int)
  | spec_l3Atom_j0 (x1 : Int) (x26 : Bool) (x1000 : ByteArray) (x1001 : Int) (x1002 : Bool)
def spec_l3Pattern.B : spec_l3Pattern.Q → Pg spec_l3Pattern.Q (fun _ => Int × Int × ByteArray × Bool × (List S58) × ByteArray × Int × Bool) (Int × Int × ByteArray × Bool × (List S58) × ByteArray × Int × Bool)
  | .spec_l3Pattern_f s0_0 s0_1 s0_2 a1 => .ask (.spec_l3Part_f s0_0 s0_1 s0_2 a1) fun (t8 : Int × Int × ByteArray × Bool × (List S58) × ByteArray × Int × Bool) => (.to (.spec_l3Pattern_l0 a1 ([(⟨t8.1, t8.2.1, t8.2.2.1, t8.2.2.2.1, t8.2.2.2.2.1⟩ : S58)] : List S58) t8.2.2.2.2.2.1 t8.2.2.2.2.2.2.1 t8.2.2.2.2.2.2.2))
  | .spec_l3Pattern_l0 x1 x5 x1000 x1001 x1002 => .opt (spec_l3Now.f x1000 x1001 x1002 124) fun t11 => (if t11.1 = true then (.ask (.spec_l3Part_f t11.2.1 (wrap64 (t11.2.2.1 + 1)) t11.2.2.2 x1) fun (t22 : Int × Int × ByteArray × Bool × (List S58) × ByteArray × Int × Bool) => (if x5.length < 2199023255552 then (.to (.spec_l3Pattern_l0 x1 (x5 ++ [(⟨t22.1, t22.2.1, t22.2.2.1, t22.2.2.2.1, t22.2.2.2.2.1⟩ : S58)]) t22.2.2.2.2.2.1 t22.2.2.2.2.2.2.1 t22.2.2.2.2.2.2.2)) else (.bad))) else (if (x5.length : Int) = 1 then (if 0 < (x5.length : Int) then (.ret ((rd_T58 x5 0).f0, (rd_T58 x5 0).f1, (rd_T58 x5 0).f2, (rd_T58 x5 0).f3, (rd_T58 x5 0).f4, t11.2.1, t11.2.2.1, t11.2.2.2)) else (.bad)) else (.ret (7, 0, (⟨#[]⟩ : ByteArray), false, x5, t11.2.1, t11.2.2.1, t11.2.2.2))))
  | .spec_l3Part_f s0_0 s0_1 s0_2 a1 => .to (.spec_l3Part_l0 a1 ([] : List S58) s0_0 s0_1 s0_2)
  | .spec_l3Part_j1 x5 x1000 x1001 x1002 => if (x5.length : Int) = 0 then (.ret (11, 0, (⟨#[]⟩ : ByteArray), false, ([] : List S58), x1000, x1001, x1002)) else (if (x5.length : Int) = 1 then (if 0 < (x5.length : Int) then (.ret ((rd_T58 x5 0).f0, (rd_T58 x5 0).f1, (rd_T58 x5 0).f2, (rd_T58 x5 0).f3, (rd_T58 x5 0).f4, x1000, x1001, x1002)) else (.bad)) else (.ret (6, 0, (⟨#[]⟩ : ByteArray), false, x5, x1000, x1001, x1002)))
  | .spec_l3Part_l0 x1 x5 x1000 x1001 x1002 => if x1002 = true then (.to (.spec_l3Part_j1 x5 x1000 x1001 x1002)) else (if x1001 < (x1000.size : Int) then (if 0 ≤ x1001 then (if (bt x1000 x1001) = 124 then (.to (.spec_l3Part_j1 x5 x1000 x1001 x1002)) else (if (bt x1000 x1001) = 41 then (.to (.spec_l3Part_j1 x5 x1000 x1001 x1002)) else (.ask (.spec_l3Piece_f x1000 x1001 x1002 x1) fun (t51 : Int × Int × ByteArray × Bool × (List S58) × ByteArray × Int × Bool) => (if x5.length < 2199023255552 then (.to (.spec_l3Part_l0 x1 (x5 ++ [(⟨t51.1, t51.2.1, t51.2.2.1, t51.2.2.2.1, t51.2.2.2.2.1⟩ : S58)]) t51.2.2.2.2.2.1 t51.2.2.2.2.2.2.1 t51.2.2.2.2.2.2.2)) else (.bad))))) else (.bad)) else (.to (.spec_l3Part_j1 x5 x1000 x1001 x1002)))
  | .spec_l3Piece_f s0_0 s0_1 s0_2 a1 => .ask (.spec_l3Atom_f s0_0 s0_1 s0_2 a1) fun (t10 : Int × Int × ByteArray × Bool × (List S58) × ByteArray × Int × Bool) => (.to (.spec_l3Piece_l0 t10.2.2.2.2.2.1 t10.2.2.2.2.2.2.1 t10.2.2.2.2.2.2.2 t10.1 t10.2.1 t10.2.2.1 t10.2.2.2.1 t10.2.2.2.2.1))
  | .spec_l3Piece_l0 x1000 x1001 x1002 x531_0 x531_1 x531_2 x531_3 x531_4 => if x1002 = true then (.ret (x531_0, x531_1, x531_2, x531_3, x531_4, x1000, x1001, x1002)) else (.opt (spec_l3Now.f x1000 x1001 x1002 42) fun t18 => (if t18.1 = true then (if 8 = 0 then (.ret (x531_0, x531_1, x531_2, x531_3, x531_4, t18.2.1, t18.2.2.1, t18.2.2.2)) else (.to (.spec_l3Piece_l0 t18.2.1 (wrap64 (t18.2.2.1 + 1)) t18.2.2.2 8 0 (⟨#[]⟩ : ByteArray) false ([(⟨x531_0, x531_1, x531_2, x531_3, x531_4⟩ : S58)] : List S58)))) else (.opt (spec_l3Now.f t18.2.1 t18.2.2.1 t18.2.2.2 43) fun t21 => (if t21.1 = true then (if 9 = 0 then (.ret (x531_0, x531_1, x531_2, x531_3, x531_4, t21.2.1, t21.2.2.1, t21.2.2.2)) else (.to (.spec_l3Piece_l0 t21.2.1 (wrap64 (t21.2.2.1 + 1)) t21.2.2.2 9 0 (⟨#[]⟩ : ByteArray) false ([(⟨x531_0, x531_1, x531_2, x531_3, x531_4⟩ : S58)] : List S58)))) else (.opt (spec_l3Now.f t21.2.1 t21.2.2.1 t21.2.2.2 63) fun t24 => (if t24.1 = true then (if 10 = 0 then (.ret (x531_0, x531_1, x531_2, x531_3, x531_4, t24.2.1, t24.2.2.1, t24.2.2.2)) else (.to (.spec_l3Piece_l0 t24.2.1 (wrap64 (t24.2.2.1 + 1)) t24.2.2.2 10 0 (⟨#[]⟩ : ByteArray) false ([(⟨x531_0, x531_1, x531_2, x531_3, x531_4⟩ : S58)] : List S58)))) else (if 0 = 0 then (.ret (x531_0, x531_1, x531_2, x531_3, x531_4, t24.2.1, t24.2.2.1, t24.2.2.2)) else (.to (.spec_l3Piece_l0 t24.2.1 (wrap64 (t24.2.2.1 + 1)) t24.2.2.2 0 0 (⟨#[]⟩ : ByteArray) false ([(⟨x531_0, x531_1, x531_2, x531_3, x531_4⟩ : S58)] : List S58))))))))))
  | .spec_l3Atom_f s0_0 s0_1 s0_2 a1 => if s0_2 = true then (.to (.spec_l3Atom_j0 a1 true s0_0 s0_1 s0_2)) else (if s0_1 ≥ (s0_0.size : Int) then (.to (.spec_l3Atom_j0 a1 true s0_0 s0_1 s0_2)) else (.to (.spec_l3Atom_j0 a1 (decide (a1 > 40)) s0_0 s0_1 s0_2)))
  | .spec_l3Atom_j0 x1 x26 x1000 x1001 x1002 => if x26 = true then (.ret (0, 0, (⟨#[]⟩ : ByteArray), false, ([] : List S58), x1000, x1001, true)) else (if 0 ≤ x1001 then (if x1001 < (x1000.size : Int) then (if (bt x1000 x1001) = 40 then (.ask (.spec_l3Pattern_f x1000 (wrap64 (x1001 + 1)) x1002 (wrap64 (x1 + 1))) fun (t53 : Int × Int × ByteArray × Bool × (List S58) × ByteArray × Int × Bool) => (.opt (spec_l3Now.f t53.2.2.2.2.2.1 t53.2.2.2.2.2.2.1 t53.2.2.2.2.2.2.2 41) fun t55 => (if t55.1 = true then (.ret (t53.1, t53.2.1, t53.2.2.1, t53.2.2.2.1, t53.2.2.2.2.1, t55.2.1, (wrap64 (t55.2.2.1 + 1)), t55.2.2.2)) else (.ret (t53.1, t53.2.1, t53.2.2.1, t53.2.2.2.1, t53.2.2.2.2.1, t55.2.1, (wrap64 (t55.2.2.1 + 1)), true))))) else (if (bt x1000 x1001) = 46 then (.ret (2, 0, (⟨#[]⟩ : ByteArray), false, ([] : List S58), x1000, (wrap64 (x1001 + 1)), x1002)) else (if (bt x1000 x1001) = 94 then (.ret (4, 0, (⟨#[]⟩ : ByteArray), false, ([] : List S58), x1000, (wrap64 (x1001 + 1)), x1002)) else (if (bt x1000 x1001) = 36 then (.ret (5, 0, (⟨#[]⟩ : ByteArray), false, ([] : List S58), x1000, (wrap64 (x1001 + 1)), x1002)) else (if (bt x1000 x1001) = 91 then (.opt (spec_l3Set.fv x1000 (wrap64 (x1001 + 1)) x1002) fun t80 => (.ret (t80.1, t80.2.1, t80.2.2.1, t80.2.2.2.1, t80.2.2.2.2.1, t80.2.2.2.2.2.1, t80.2.2.2.2.2.2.1, t80.2.2.2.2.2.2.2))) else (if (bt x1000 x1001) = 92 then (if (wrap64 (x1001 + 1)) ≥ (x1000.size : Int) then (.ret (0, 0, (⟨#[]⟩ : ByteArray), false, ([] : List S58), x1000, (wrap64 (x1001 + 1)), true)) else (if 0 ≤ (wrap64 (x1001 + 1)) then (if (wrap64 (x1001 + 1)) < (x1000.size : Int) then (.ret (1, (wrap64 (bt x1000 (wrap64 (x1001 + 1)))), (⟨#[]⟩ : ByteArray), false, ([] : List S58), x1000, (wrap64 ((wrap64 (x1001 + 1)) + 1)), x1002)) else (.bad)) else (.bad))) else (if (bt x1000 x1001) = 42 then (.ret (1, (wrap64 (bt x1000 x1001)), (⟨#[]⟩ : ByteArray), false, ([] : List S58), x1000, (wrap64 (x1001 + 1)), true)) else (if (bt x1000 x1001) = 43 then (.ret (1, (wrap64 (bt x1000 x1001)), (⟨#[]⟩ : ByteArray), false, ([] : List S58), x1000, (wrap64 (x1001 + 1)), true)) else (if (bt x1000 x1001) = 63 then (.ret (1, (wrap64 (bt x1000 x1001)), (⟨#[]⟩ : ByteArray), false, ([] : List S58), x1000, (wrap64 (x1001 + 1)), true)) else (.ret (1, (wrap64 (bt x1000 x1001)), (⟨#[]⟩ : ByteArray), false, ([] : List S58), x1000, (wrap64 (x1001 + 1)), x1002))))))))))) else (.bad)) else (.bad))
def spec_l3Pattern.fv (s0_0 : ByteArray) (s0_1 : Int) (s0_2 : Bool) (a1 : Int) : Option (Int × Int × ByteArray × Bool × (List S58) × ByteArray × Int × Bool) := lim spec_l3Pattern.B (.spec_l3Pattern_f s0_0 s0_1 s0_2 a1)
def spec_l3Pattern.l0v (x1 : Int) (x5 : List S58) (x1000 : ByteArray) (x1001 : Int) (x1002 : Bool) : Option (Int × Int × ByteArray × Bool × (List S58) × ByteArray × Int × Bool) := lim spec_l3Pattern.B (.spec_l3Pattern_l0 x1 x5 x1000 x1001 x1002)
def spec_l3Part.fv (s0_0 : ByteArray) (s0_1 : Int) (s0_2 : Bool) (a1 : Int) : Option (Int × Int × ByteArray × Bool × (List S58) × ByteArray × Int × Bool) := lim spec_l3Pattern.B (.spec_l3Part_f s0_0 s0_1 s0_2 a1)
def spec_l3Part.j1v (x5 : List S58) (x1000 : ByteArray) (x1001 : Int) (x1002 : Bool) : Option (Int × Int × ByteArray × Bool × (List S58) × ByteArray × Int × Bool) := lim spec_l3Pattern.B (.spec_l3Part_j1 x5 x1000 x1001 x1002)
def spec_l3Part.l0v (x1 : Int) (x5 : List S58) (x1000 : ByteArray) (x1001 : Int) (x1002 : Bool) : Option (Int × Int × ByteArray × Bool × (List S58) × ByteArray × Int × Bool) := lim spec_l3Pattern.B (.spec_l3Part_l0 x1 x5 x1000 x1001 x1002)
def spec_l3Piece.fv (s0_0 : ByteArray) (s0_1 : Int) (s0_2 : Bool) (a1 : Int) : Option (Int × Int × ByteArray × Bool × (List S58) × ByteArray × Int × Bool) := lim spec_l3Pattern.B (.spec_l3Piece_f s0_0 s0_1 s0_2 a1)
def spec_l3Piece.l0v (x1000 : ByteArray) (x1001 : Int) (x1002 : Bool) (x531_0 : Int) (x531_1 : Int) (x531_2 : ByteArray) (x531_3 : Bool) (x531_4 : List S58) : Option (Int × Int × ByteArray × Bool × (List S58) × ByteArray × Int × Bool) := lim spec_l3Pattern.B (.spec_l3Piece_l0 x1000 x1001 x1002 x531_0 x531_1 x531_2 x531_3 x531_4)
def spec_l3Atom.fv (s0_0 : ByteArray) (s0_1 : Int) (s0_2 : Bool) (a1 : Int) : Option (Int × Int × ByteArray × Bool × (List S58) × ByteArray × Int × Bool) := lim spec_l3Pattern.B (.spec_l3Atom_f s0_0 s0_1 s0_2 a1)
def spec_l3Atom.j0v (x1 : Int) (x26 : Bool) (x1000 : ByteArray) (x1001 : Int) (x1002 : Bool) : Option (Int × Int × ByteArray × Bool × (List S58) × ByteArray × Int × Bool) := lim spec_l3Pattern.B (.spec_l3Atom_j0 x1 x26 x1000 x1001 x1002)
theorem spec_l3Pattern.fv_eq (s0_0 : ByteArray) (s0_1 : Int) (s0_2 : Bool) (a1 : Int) : spec_l3Pattern.fv s0_0 s0_1 s0_2 a1 = ((spec_l3Part.fv s0_0 s0_1 s0_2 a1).bind fun t8 => (spec_l3Pattern.l0v a1 ([(⟨t8.1, t8.2.1, t8.2.2.1, t8.2.2.2.1, t8.2.2.2.2.1⟩ : S58)] : List S58) t8.2.2.2.2.2.1 t8.2.2.2.2.2.2.1 t8.2.2.2.2.2.2.2)) := by
  show lim spec_l3Pattern.B (.spec_l3Pattern_f s0_0 s0_1 s0_2 a1) = _
  rw [lim_eq, spec_l3Pattern.B]
  simp only [ev_ite, ev_opt, ev_ask, ev_to, ev_ret, ev_bad]
  try rfl
theorem spec_l3Pattern.l0v_eq (x1 : Int) (x5 : List S58) (x1000 : ByteArray) (x1001 : Int) (x1002 : Bool) : spec_l3Pattern.l0v x1 x5 x1000 x1001 x1002 = ((spec_l3Now.f x1000 x1001 x1002 124).bind fun t11 => (if t11.1 = true then ((spec_l3Part.fv t11.2.1 (wrap64 (t11.2.2.1 + 1)) t11.2.2.2 x1).bind fun t22 => (if x5.length < 2199023255552 then (spec_l3Pattern.l0v x1 (x5 ++ [(⟨t22.1, t22.2.1, t22.2.2.1, t22.2.2.2.1, t22.2.2.2.2.1⟩ : S58)]) t22.2.2.2.2.2.1 t22.2.2.2.2.2.2.1 t22.2.2.2.2.2.2.2) else (none))) else (if (x5.length : Int) = 1 then (if 0 < (x5.length : Int) then (some ((rd_T58 x5 0).f0, (rd_T58 x5 0).f1, (rd_T58 x5 0).f2, (rd_T58 x5 0).f3, (rd_T58 x5 0).f4, t11.2.1, t11.2.2.1, t11.2.2.2)) else (none)) else (some (7, 0, (⟨#[]⟩ : ByteArray), false, x5, t11.2.1, t11.2.2.1, t11.2.2.2))))) := by
  show lim spec_l3Pattern.B (.spec_l3Pattern_l0 x1 x5 x1000 x1001 x1002) = _
  rw [lim_eq, spec_l3Pattern.B]
  simp only [ev_ite, ev_opt, ev_ask, ev_to, ev_ret, ev_bad]
  try rfl
theorem spec_l3Part.fv_eq (s0_0 : ByteArray) (s0_1 : Int) (s0_2 : Bool) (a1 : Int) : spec_l3Part.fv s0_0 s0_1 s0_2 a1 = (spec_l3Part.l0v a1 ([] : List S58) s0_0 s0_1 s0_2) := by
  show lim spec_l3Pattern.B (.spec_l3Part_f s0_0 s0_1 s0_2 a1) = _
  rw [lim_eq, spec_l3Pattern.B]
  simp only [ev_ite, ev_opt, ev_ask, ev_to, ev_ret, ev_bad]
  try rfl
theorem spec_l3Part.j1v_eq (x5 : List S58) (x1000 : ByteArray) (x1001 : Int) (x1002 : Bool) : spec_l3Part.j1v x5 x1000 x1001 x1002 = (if (x5.length : Int) = 0 then (some (11, 0, (⟨#[]⟩ : ByteArray), false, ([] : List S58), x1000, x1001, x1002)) else (if (x5.length : Int) = 1 then (if 0 < (x5.length : Int) then (some ((rd_T58 x5 0).f0, (rd_T58 x5 0).f1, (rd_T58 x5 0).f2, (rd_T58 x5 0).f3, (rd_T58 x5 0).f4, x1000, x1001, x1002)) else (none)) else (some (6, 0, (⟨#[]⟩ : ByteArray), false, x5, x1000, x1001, x1002)))) := by
  show lim spec_l3Pattern.B (.spec_l3Part_j1 x5 x1000 x1001 x1002) = _
  rw [lim_eq, spec_l3Pattern.B]
  simp only [ev_ite, ev_opt, ev_ask, ev_to, ev_ret, ev_bad]
  try rfl
theorem spec_l3Part.l0v_eq (x1 : Int) (x5 : List S58) (x1000 : ByteArray) (x1001 : Int) (x1002 : Bool) : spec_l3Part.l0v x1 x5 x1000 x1001 x1002 = (if x1002 = true then (spec_l3Part.j1v x5 x1000 x1001 x1002) else (if x1001 < (x1000.size : Int) then (if 0 ≤ x1001 then (if (bt x1000 x1001) = 124 then (spec_l3Part.j1v x5 x1000 x1001 x1002) else (if (bt x1000 x1001) = 41 then (spec_l3Part.j1v x5 x1000 x1001 x1002) else ((spec_l3Piece.fv x1000 x1001 x1002 x1).bind fun t51 => (if x5.length < 2199023255552 then (spec_l3Part.l0v x1 (x5 ++ [(⟨t51.1, t51.2.1, t51.2.2.1, t51.2.2.2.1, t51.2.2.2.2.1⟩ : S58)]) t51.2.2.2.2.2.1 t51.2.2.2.2.2.2.1 t51.2.2.2.2.2.2.2) else (none))))) else (none)) else (spec_l3Part.j1v x5 x1000 x1001 x1002))) := by
  show lim spec_l3Pattern.B (.spec_l3Part_l0 x1 x5 x1000 x1001 x1002) = _
  rw [lim_eq, spec_l3Pattern.B]
  simp only [ev_ite, ev_opt, ev_ask, ev_to, ev_ret, ev_bad]
  try rfl
theorem spec_l3Piece.fv_eq (s0_0 : ByteArray) (s0_1 : Int) (s0_2 : Bool) (a1 : Int) : spec_l3Piece.fv s0_0 s0_1 s0_2 a1 = ((spec_l3Atom.fv s0_0 s0_1 s0_2 a1).bind fun t10 => (spec_l3Piece.l0v t10.2.2.2.2.2.1 t10.2.2.2.2.2.2.1 t10.2.2.2.2.2.2.2 t10.1 t10.2.1 t10.2.2.1 t10.2.2.2.1 t10.2.2.2.2.1)) := by
  show lim spec_l3Pattern.B (.spec_l3Piece_f s0_0 s0_1 s0_2 a1) = _
  rw [lim_eq, spec_l3Pattern.B]
  simp only [ev_ite, ev_opt, ev_ask, ev_to, ev_ret, ev_bad]
  try rfl
theorem spec_l3Piece.l0v_eq (x1000 : ByteArray) (x1001 : Int) (x1002 : Bool) (x531_0 : Int) (x531_1 : Int) (x531_2 : ByteArray) (x531_3 : Bool) (x531_4 : List S58) : spec_l3Piece.l0v x1000 x1001 x1002 x531_0 x531_1 x531_2 x531_3 x531_4 = (if x1002 = true then (some (x531_0, x531_1, x531_2, x531_3, x531_4, x1000, x1001, x1002)) else ((spec_l3Now.f x1000 x1001 x1002 42).bind fun t18 => (if t18.1 = true then (if 8 = 0 then (some (x531_0, x531_1, x531_2, x531_3, x531_4, t18.2.1, t18.2.2.1, t18.2.2.2)) else (spec_l3Piece.l0v t18.2.1 (wrap64 (t18.2.2.1 + 1)) t18.2.2.2 8 0 (⟨#[]⟩ : ByteArray) false ([(⟨x531_0, x531_1, x531_2, x531_3, x531_4⟩ : S58)] : List S58))) else ((spec_l3Now.f t18.2.1 t18.2.2.1 t18.2.2.2 43).bind fun t21 => (if t21.1 = true then (if 9 = 0 then (some (x531_0, x531_1, x531_2, x531_3, x531_4, t21.2.1, t21.2.2.1, t21.2.2.2)) else (spec_l3Piece.l0v t21.2.1 (wrap64 (t21.2.2.1 + 1)) t21.2.2.2 9 0 (⟨#[]⟩ : ByteArray) false ([(⟨x531_0, x531_1, x531_2, x531_3, x531_4⟩ : S58)] : List S58))) else ((spec_l3Now.f t21.2.1 t21.2.2.1 t21.2.2.2 63).bind fun t24 => (if t24.1 = true then (if 10 = 0 then (some (x531_0, x531_1, x531_2, x531_3, x531_4, t24.2.1, t24.2.2.1, t24.2.2.2)) else (spec_l3Piece.l0v t24.2.1 (wrap64 (t24.2.2.1 + 1)) t24.2.2.2 10 0 (⟨#[]⟩ : ByteArray) false ([(⟨x531_0, x531_1, x531_2, x531_3, x531_4⟩ : S58)] : List S58))) else (if 0 = 0 then (some (x531_0, x531_1, x531_2, x531_3, x531_4, t24.2.1, t24.2.2.1, t24.2.2.2)) else (spec_l3Piece.l0v t24.2.1 (wrap64 (t24.2.2.1 + 1)) t24.2.2.2 0 0 (⟨#[]⟩ : ByteArray) false ([(⟨x531_0, x531_1, x531_2, x531_3, x531_4⟩ : S58)] : List S58)))))))))) := by
  show lim spec_l3Pattern.B (.spec_l3Piece_l0 x1000 x1001 x1002 x531_0 x531_1 x531_2 x531_3 x531_4) = _
  rw [lim_eq, spec_l3Pattern.B]
  simp only [ev_ite, ev_opt, ev_ask, ev_to, ev_ret, ev_bad]
  try rfl
theorem spec_l3Atom.fv_eq (s0_0 : ByteArray) (s0_1 : Int) (s0_2 : Bool) (a1 : Int) : spec_l3Atom.fv s0_0 s0_1 s0_2 a1 = (if s0_2 = true then (spec_l3Atom.j0v a1 true s0_0 s0_1 s0_2) else (if s0_1 ≥ (s0_0.size : Int) then (spec_l3Atom.j0v a1 true s0_0 s0_1 s0_2) else (spec_l3Atom.j0v a1 (decide (a1 > 40)) s0_0 s0_1 s0_2))) := by
  show lim spec_l3Pattern.B (.spec_l3Atom_f s0_0 s0_1 s0_2 a1) = _
  rw [lim_eq, spec_l3Pattern.B]
  simp only [ev_ite, ev_opt, ev_ask, ev_to, ev_ret, ev_bad]
  try rfl
theorem spec_l3Atom.j0v_eq (x1 : Int) (x26 : Bool) (x1000 : ByteArray) (x1001 : Int) (x1002 : Bool) : spec_l3Atom.j0v x1 x26 x1000 x1001 x1002 = (if x26 = true then (some (0, 0, (⟨#[]⟩ : ByteArray), false, ([] : List S58), x1000, x1001, true)) else (if 0 ≤ x1001 then (if x1001 < (x1000.size : Int) then (if (bt x1000 x1001) = 40 then ((spec_l3Pattern.fv x1000 (wrap64 (x1001 + 1)) x1002 (wrap64 (x1 + 1))).bind fun t53 => ((spec_l3Now.f t53.2.2.2.2.2.1 t53.2.2.2.2.2.2.1 t53.2.2.2.2.2.2.2 41).bind fun t55 => (if t55.1 = true then (some (t53.1, t53.2.1, t53.2.2.1, t53.2.2.2.1, t53.2.2.2.2.1, t55.2.1, (wrap64 (t55.2.2.1 + 1)), t55.2.2.2)) else (some (t53.1, t53.2.1, t53.2.2.1, t53.2.2.2.1, t53.2.2.2.2.1, t55.2.1, (wrap64 (t55.2.2.1 + 1)), true))))) else (if (bt x1000 x1001) = 46 then (some (2, 0, (⟨#[]⟩ : ByteArray), false, ([] : List S58), x1000, (wrap64 (x1001 + 1)), x1002)) else (if (bt x1000 x1001) = 94 then (some (4, 0, (⟨#[]⟩ : ByteArray), false, ([] : List S58), x1000, (wrap64 (x1001 + 1)), x1002)) else (if (bt x1000 x1001) = 36 then (some (5, 0, (⟨#[]⟩ : ByteArray), false, ([] : List S58), x1000, (wrap64 (x1001 + 1)), x1002)) else (if (bt x1000 x1001) = 91 then ((spec_l3Set.fv x1000 (wrap64 (x1001 + 1)) x1002).bind fun t80 => (some (t80.1, t80.2.1, t80.2.2.1, t80.2.2.2.1, t80.2.2.2.2.1, t80.2.2.2.2.2.1, t80.2.2.2.2.2.2.1, t80.2.2.2.2.2.2.2))) else (if (bt x1000 x1001) = 92 then (if (wrap64 (x1001 + 1)) ≥ (x1000.size : Int) then (some (0, 0, (⟨#[]⟩ : ByteArray), false, ([] : List S58), x1000, (wrap64 (x1001 + 1)), true)) else (if 0 ≤ (wrap64 (x1001 + 1)) then (if (wrap64 (x1001 + 1)) < (x1000.size : Int) then (some (1, (wrap64 (bt x1000 (wrap64 (x1001 + 1)))), (⟨#[]⟩ : ByteArray), false, ([] : List S58), x1000, (wrap64 ((wrap64 (x1001 + 1)) + 1)), x1002)) else (none)) else (none))) else (if (bt x1000 x1001) = 42 then (some (1, (wrap64 (bt x1000 x1001)), (⟨#[]⟩ : ByteArray), false, ([] : List S58), x1000, (wrap64 (x1001 + 1)), true)) else (if (bt x1000 x1001) = 43 then (some (1, (wrap64 (bt x1000 x1001)), (⟨#[]⟩ : ByteArray), false, ([] : List S58), x1000, (wrap64 (x1001 + 1)), true)) else (if (bt x1000 x1001) = 63 then (some (1, (wrap64 (bt x1000 x1001)), (⟨#[]⟩ : ByteArray), false, ([] : List S58), x1000, (wrap64 (x1001 + 1)), true)) else (some (1, (wrap64 (bt x1000 x1001)), (⟨#[]⟩ : ByteArray), false, ([] : List S58), x1000, (wrap64 (x1001 + 1)), x1002))))))))))) else (none)) else (none))) := by
  show lim spec_l3Pattern.B (.spec_l3Atom_j0 x1 x26 x1000 x1001 x1002) = _
  rw [lim_eq, spec_l3Pattern.B]
  simp only [ev_ite, ev_opt, ev_ask, ev_to, ev_ret, ev_bad]
  try rfl
inductive spec_l3Deep.Q where
  | f (a0_0 : Int) (a0_1 : Int) (a0_2 : ByteArray) (a0_3 : Bool) (l0_4 : List S58)
  | l0 (x3 : Int) (x4 : Int) (x16_0 : Int) (x16_1 : Int) (x16_2 : ByteArray) (x16_3 : Bool) (x16_4 : List S58)
def spec_l3Deep.B : spec_l3Deep.Q → Pg spec_l3Deep.Q (fun _ => Int) (Int)
  | .f a0_0 a0_1 a0_2 a0_3 l0_4 => .to (.l0 0 0 a0_0 a0_1 a0_2 a0_3 l0_4)
  | .l0 x3 x4 x16_0 x16_1 x16_2 x16_3 x16_4 => if x4 < (x16_4.length : Int) then (if 0 ≤ x4 then (.ask (.f ((rd_T58 x16_4 x4).f0) ((rd_T58 x16_4 x4).f1) ((rd_T58 x16_4 x4).f2) ((rd_T58 x16_4 x4).f3) ((rd_T58 x16_4 x4).f4)) fun (t18 : Int) => (.opt (spec_l1Max.f x3 t18) fun t19 => (.to (.l0 t19 (wrap64 (x4 + 1)) x16_0 x16_1 x16_2 x16_3 x16_4)))) else (.bad)) else (.ret (wrap64 (x3 + 1)))
def spec_l3Deep.fv (a0_0 : Int) (a0_1 : Int) (a0_2 : ByteArray) (a0_3 : Bool) (l0_4 : List S58) : Option (Int) := lim spec_l3Deep.B (.f a0_0 a0_1 a0_2 a0_3 l0_4)
def spec_l3Deep.l0v (x3 : Int) (x4 : Int) (x16_0 : Int) (x16_1 : Int) (x16_2 : ByteArray) (x16_3 : Bool) (x16_4 : List S58) : Option (Int) := lim spec_l3Deep.B (.l0 x3 x4 x16_0 x16_1 x16_2 x16_3 x16_4)
theorem spec_l3Deep.fv_eq (a0_0 : Int) (a0_1 : Int) (a0_2 : ByteArray) (a0_3 : Bool) (l0_4 : List S58) : spec_l3Deep.fv a0_0 a0_1 a0_2 a0_3 l0_4 = (spec_l3Deep.l0v 0 0 a0_0 a0_1 a0_2 a0_3 l0_4) := by
  show lim spec_l3Deep.B (.f a0_0 a0_1 a0_2 a0_3 l0_4) = _
  rw [lim_eq, spec_l3Deep.B]
  simp only [ev_ite, ev_opt, ev_ask, ev_to, ev_ret, ev_bad]
  try rfl
theorem spec_l3Deep.l0v_eq (x3 : Int) (x4 : Int) (x16_0 : Int) (x16_1 : Int) (x16_2 : ByteArray) (x16_3 : Bool) (x16_4 : List S58) : spec_l3Deep.l0v x3 x4 x16_0 x16_1 x16_2 x16_3 x16_4 = (if x4 < (x16_4.length : Int) then (if 0 ≤ x4 then ((spec_l3Deep.fv ((rd_T58 x16_4 x4).f0) ((rd_T58 x16_4 x4).f1) ((rd_T58 x16_4 x4).f2) ((rd_T58 x16_4 x4).f3) ((rd_T58 x16_4 x4).f4)).bind fun t18 => ((spec_l1Max.f x3 t18).bind fun t19 => (spec_l3Deep.l0v t19 (wrap64 (x4 + 1)) x16_0 x16_1 x16_2 x16_3 x16_4))) else (none)) else (some (wrap64 (x3 + 1)))) := by
  show lim spec_l3Deep.B (.l0 x3 x4 x16_0 x16_1 x16_2 x16_3 x16_4) = _
  rw [lim_eq, spec_l3Deep.B]
  simp only [ev_ite, ev_opt, ev_ask, ev_to, ev_ret, ev_bad]
  try rfl
def spec_RexParse.fv (a0 : ByteArray) : Option (Int × Int × ByteArray × Bool × (List S58) × Bool) := if (a0.size : Int) > 60 then (some (0, 0, (⟨#[]⟩ : ByteArray), false, ([] : List S58), false)) else ((spec_l3Pattern.fv a0 0 false 0).bind fun t14 => (if t14.2.2.2.2.2.2.2 = true then (some (0, 0, (⟨#[]⟩ : ByteArray), false, ([] : List S58), false)) else (if t14.2.2.2.2.2.2.1 = (a0.size : Int) then ((spec_l3Deep.fv t14.1 t14.2.1 t14.2.2.1 t14.2.2.2.1 t14.2.2.2.2.1).bind fun t30 => (if t30 > 12 then (some (0, 0, (⟨#[]⟩ : ByteArray), false, ([] : List S58), false)) else (some (t14.1, t14.2.1, t14.2.2.1, t14.2.2.2.1, t14.2.2.2.2.1, true)))) else (some (0, 0, (⟨#[]⟩ : ByteArray), false, ([] : List S58), false)))))
theorem spec_RexParse.fv_eq (a0 : ByteArray) : spec_RexParse.fv a0 = (if (a0.size : Int) > 60 then (some (0, 0, (⟨#[]⟩ : ByteArray), false, ([] : List S58), false)) else ((spec_l3Pattern.fv a0 0 false 0).bind fun t14 => (if t14.2.2.2.2.2.2.2 = true then (some (0, 0, (⟨#[]⟩ : ByteArray), false, ([] : List S58), false)) else (if t14.2.2.2.2.2.2.1 = (a0.size : Int) then ((spec_l3Deep.fv t14.1 t14.2.1 t14.2.2.1 t14.2.2.2.1 t14.2.2.2.2.1).bind fun t30 => (if t30 > 12 then (some (0, 0, (⟨#[]⟩ : ByteArray), false, ([] : List S58), false)) else (some (t14.1, t14.2.1, t14.2.2.1, t14.2.2.2.1, t14.2.2.2.2.1, true)))) else (some (0, 0, (⟨#[]⟩ : ByteArray), false, ([] : List S58), false)))))) := by rw [spec_RexParse.fv]
inductive spec_l10Rexes.Q where
  | f (a0_0 : Int) (a0_1 : Int) (a0_2 : ByteArray) (l0_3 : List S38)
  | j0 (x16_0 : Int) (x16_1 : Int) (x16_2 : ByteArray) (x16_3 : List S38)
  | j1 (x26 : Bool) (x16_0 : Int) (x16_1 : Int) (x16_2 : ByteArray) (x16_3 : List S38)
  | l0 (x5 : Int) (x16_0 : Int) (x16_1 : Int) (x16_2 : ByteArray) (x16_3 : List S38)
def spec_l10Rexes.B : spec_l10Rexes.Q → Pg spec_l10Rexes.Q (fun _ => Bool) (Bool)
  | .f a0_0 a0_1 a0_2 l0_3 => if a0_0 = 3 then (.opt (spec_RexParse.fv a0_2) fun t12 => (.ret t12.2.2.2.2.2)) else (if a0_0 = 21 then (if 1 < (l0_3.length : Int) then (.to (.j1 ((rd_T38 l0_3 1).f0 != 3) a0_0 a0_1 a0_2 l0_3)) else (.bad)) else (.to (.j1 false a0_0 a0_1 a0_2 l0_3)))
  | .j0 x16_0 x16_1 x16_2 x16_3 => .to (.l0 0 x16_0 x16_1 x16_2 x16_3)
  | .j1 x26 x16_0 x16_1 x16_2 x16_3 => if x26 = true then (.ret false) else (.to (.j0 x16_0 x16_1 x16_2 x16_3))
  | .l0 x5 x16_0 x16_1 x16_2 x16_3 => if x5 < (x16_3.length : Int) then (if 0 ≤ x5 then (.ask (.f ((rd_T38 x16_3 x5).f0) ((rd_T38 x16_3 x5).f1) ((rd_T38 x16_3 x5).f2) ((rd_T38 x16_3 x5).f3)) fun (t39 : Bool) => (if t39 = true then (.to (.l0 (wrap64 (x5 + 1)) x16_0 x16_1 x16_2 x16_3)) else (.ret false))) else (.bad)) else (.ret true)
def spec_l10Rexes.fv (a0_0 : Int) (a0_1 : Int) (a0_2 : ByteArray) (l0_3 : List S38) : Option (Bool) := lim spec_l10Rexes.B (.f a0_0 a0_1 a0_2 l0_3)
def spec_l10Rexes.j0v (x16_0 : Int) (x16_1 : Int) (x16_2 : ByteArray) (x16_3 : List S38) : Option (Bool) := lim spec_l10Rexes.B (.j0 x16_0 x16_1 x16_2 x16_3)
def spec_l10Rexes.j1v (x26 : Bool) (x16_0 : Int) (x16_1 : Int) (x16_2 : ByteArray) (x16_3 : List S38) : Option (Bool) := lim spec_l10Rexes.B (.j1 x26 x16_0 x16_1 x16_2 x16_3)
def spec_l10Rexes.l0v (x5 : Int) (x16_0 : Int) (x16_1 : Int) (x16_2 : ByteArray) (x16_3 : List S38) : Option (Bool) := lim spec_l10Rexes.B (.l0 x5 x16_0 x16_1 x16_2 x16_3)
theorem spec_l10Rexes.fv_eq (a0_0 : Int) (a0_1 : Int) (a0_2 : ByteArray) (l0_3 : List S38) : spec_l10Rexes.fv a0_0 a0_1 a0_2 l0_3 = (if a0_0 = 3 then ((spec_RexParse.fv a0_2).bind fun t12 => (some t12.2.2.2.2.2)) else (if a0_0 = 21 then (if 1 < (l0_3.length : Int) then (spec_l10Rexes.j1v ((rd_T38 l0_3 1).f0 != 3) a0_0 a0_1 a0_2 l0_3) else (none)) else (spec_l10Rexes.j1v false a0_0 a0_1 a0_2 l0_3))) := by
  show lim spec_l10Rexes.B (.f a0_0 a0_1 a0_2 l0_3) = _
  rw [lim_eq, spec_l10Rexes.B]
  simp only [ev_ite, ev_opt, ev_ask, ev_to, ev_ret, ev_bad]
  try rfl
theorem spec_l10Rexes.j0v_eq (x16_0 : Int) (x16_1 : Int) (x16_2 : ByteArray) (x16_3 : List S38) : spec_l10Rexes.j0v x16_0 x16_1 x16_2 x16_3 = (spec_l10Rexes.l0v 0 x16_0 x16_1 x16_2 x16_3) := by
  show lim spec_l10Rexes.B (.j0 x16_0 x16_1 x16_2 x16_3) = _
  rw [lim_eq, spec_l10Rexes.B]
  simp only [ev_ite, ev_opt, ev_ask, ev_to, ev_ret, ev_bad]
  try rfl
theorem spec_l10Rexes.j1v_eq (x26 : Bool) (x16_0 : Int) (x16_1 : Int) (x16_2 : ByteArray) (x16_3 : List S38) : spec_l10Rexes.j1v x26 x16_0 x16_1 x16_2 x16_3 = (if x26 = true then (some false) else (spec_l10Rexes.j0v x16_0 x16_1 x16_2 x16_3)) := by
  show lim spec_l10Rexes.B (.j1 x26 x16_0 x16_1 x16_2 x16_3) = _
  rw [lim_eq, spec_l10Rexes.B]
  simp only [ev_ite, ev_opt, ev_ask, ev_to, ev_ret, ev_bad]
  try rfl
theorem spec_l10Rexes.l0v_eq (x5 : Int) (x16_0 : Int) (x16_1 : Int) (x16_2 : ByteArray) (x16_3 : List S38) : spec_l10Rexes.l0v x5 x16_0 x16_1 x16_2 x16_3 = (if x5 < (x16_3.length : Int) then (if 0 ≤ x5 then ((spec_l10Rexes.fv ((rd_T38 x16_3 x5).f0) ((rd_T38 x16_3 x5).f1) ((rd_T38 x16_3 x5).f2) ((rd_T38 x16_3 x5).f3)).bind fun t39 => (if t39 = true then (spec_l10Rexes.l0v (wrap64 (x5 + 1)) x16_0 x16_1 x16_2 x16_3) else (some false))) else (none)) else (some true)) := by
  show lim spec_l10Rexes.B (.l0 x5 x16_0 x16_1 x16_2 x16_3) = _
  rw [lim_eq, spec_l10Rexes.B]
  simp only [ev_ite, ev_opt, ev_ask, ev_to, ev_ret, ev_bad]
  try rfl
inductive spec_Check.Q where
  | f (l0 : List S40)
  | l0 (x0 : List S40) (x3 : Int)
  | j0 (x0 : List S40) (x3 : Int) (x35 : Bool)
  | j1 (x0 : List S40) (x4 : List ByteArray) (x5 : List ByteArray)
  | j2 (x0 : List S40) (x4 : List ByteArray) (x5 : List ByteArray) (x48 : Bool)
  | l1 (x0 : List S40) (x4 : List ByteArray) (x5 : List ByteArray) (x6 : Int)
  | l2 (x0 : List S40) (x7 : Int)
  | j3 (x0 : List S40) (x7 : Int) (x82 : Bool)
  | l3 (x0 : List S40) (x8 : Int)
  | j4 (x0 : List S40) (x8 : Int) (x104 : Bool)
def spec_Check.B : spec_Check.Q → Pg spec_Check.Q (fun _ => Int) (Int)
  | .f l0 => .opt (spec_Tidy.fv l0) fun t10 => (if t10 = true then (.to (.l0 l0 0)) else (.ret 1))
  | .l0 x0 x3 => if x3 < (x0.length : Int) then (if 0 ≤ x3 then (if (rd_T40 x0 x3).f0 = 1 then (if x3 > 0 then (.to (.j0 x0 x3 true)) else (.opt (spec_l10Line.fv ((rd_T40 x0 x3).f5) ((rd_T40 x0 x3).f6) ((rd_T40 x0 x3).f7) ((rd_T40 x0 x3).f8)) fun t33 => (.to (.j0 x0 x3 t33)))) else (.to (.j0 x0 x3 false))) else (.bad)) else (.opt (spec_Names.fv x0) fun t38 => (if (t38.1.length : Int) > 8 then (.to (.j2 x0 t38.1 t38.2 true)) else (.to (.j2 x0 t38.1 t38.2 ((decide ((t38.2.length : Int) > 8)))))))
  | .j0 x0 x3 x35 => if x35 = true then (.ret 2) else (.to (.l0 x0 (wrap64 (x3 + 1))))
  | .j1 x0 x4 x5 => .to (.l1 x0 x4 x5 0)
  | .j2 x0 x4 x5 x48 => if x48 = true then (.ret 3) else (.to (.j1 x0 x4 x5))
  | .l1 x0 x4 x5 x6 => if x6 < (x4.length : Int) then (if 0 ≤ x6 then (.opt (spec_l7Within.fv x5 (rdOf ByteArray.empty x4 x6)) fun t60 => (if t60 = true then (.ret 4) else (.to (.l1 x0 x4 x5 (wrap64 (x6 + 1)))))) else (.bad)) else (.to (.l2 x0 0))
  | .l2 x0 x7 => if x7 < (x0.length : Int) then (if 0 ≤ x7 then (.opt (spec_l10Args.fv ((rd_T40 x0 x7).f1) ((rd_T40 x0 x7).f2) ((rd_T40 x0 x7).f3) ((rd_T40 x0 x7).f4)) fun t72 => (if t72 = true then (.opt (spec_l10Args.fv ((rd_T40 x0 x7).f5) ((rd_T40 x0 x7).f6) ((rd_T40 x0 x7).f7) ((rd_T40 x0 x7).f8)) fun t80 => (.to (.j3 x0 x7 (!t80)))) else (.to (.j3 x0 x7 true)))) else (.bad)) else (.to (.l3 x0 0))
  | .j3 x0 x7 x82 => if x82 = true then (.ret 5) else (.to (.l2 x0 (wrap64 (x7 + 1))))
  | .l3 x0 x8 => if x8 < (x0.length : Int) then (if 0 ≤ x8 then (.opt (spec_l10Rexes.fv ((rd_T40 x0 x8).f1) ((rd_T40 x0 x8).f2) ((rd_T40 x0 x8).f3) ((rd_T40 x0 x8).f4)) fun t94 => (if t94 = true then (.opt (spec_l10Rexes.fv ((rd_T40 x0 x8).f5) ((rd_T40 x0 x8).f6) ((rd_T40 x0 x8).f7) ((rd_T40 x0 x8).f8)) fun t102 => (.to (.j4 x0 x8 (!t102)))) else (.to (.j4 x0 x8 true)))) else (.bad)) else (.ret 0)
  | .j4 x0 x8 x104 => if x104 = true then (.ret 6) else (.to (.l3 x0 (wrap64 (x8 + 1))))
def spec_Check.fv (l0 : List S40) : Option (Int) := lim spec_Check.B (.f l0)
def spec_Check.l0v (x0 : List S40) (x3 : Int) : Option (Int) := lim spec_Check.B (.l0 x0 x3)
def spec_Check.j0v (x0 : List S40) (x3 : Int) (x35 : Bool) : Option (Int) := lim spec_Check.B (.j0 x0 x3 x35)
def spec_Check.j1v (x0 : List S40) (x4 : List ByteArray) (x5 : List ByteArray) : Option (Int) := lim spec_Check.B (.j1 x0 x4 x5)
def spec_Check.j2v (x0 : List S40) (x4 : List ByteArray) (x5 : List ByteArray) (x48 : Bool) : Option (Int) := lim spec_Check.B (.j2 x0 x4 x5 x48)
def spec_Check.l1v (x0 : List S40) (x4 : List ByteArray) (x5 : List ByteArray) (x6 : Int) : Option (Int) := lim spec_Check.B (.l1 x0 x4 x5 x6)
def spec_Check.l2v (x0 : List S40) (x7 : Int) : Option (Int) := lim spec_Check.B (.l2 x0 x7)
def spec_Check.j3v (x0 : List S40) (x7 : Int) (x82 : Bool) : Option (Int) := lim spec_Check.B (.j3 x0 x7 x82)
def spec_Check.l3v (x0 : List S40) (x8 : Int) : Option (Int) := lim spec_Check.B (.l3 x0 x8)
def spec_Check.j4v (x0 : List S40) (x8 : Int) (x104 : Bool) : Option (Int) := lim spec_Check.B (.j4 x0 x8 x104)
theorem spec_Check.fv_eq (l0 : List S40) : spec_Check.fv l0 = ((spec_Tidy.fv l0).bind fun t10 => (if t10 = true then (spec_Check.l0v l0 0) else (some 1))) := by
  show lim spec_Check.B (.f l0) = _
  rw [lim_eq, spec_Check.B]
  simp only [ev_ite, ev_opt, ev_ask, ev_to, ev_ret, ev_bad]
  try rfl
theorem spec_Check.l0v_eq (x0 : List S40) (x3 : Int) : spec_Check.l0v x0 x3 = (if x3 < (x0.length : Int) then (if 0 ≤ x3 then (if (rd_T40 x0 x3).f0 = 1 then (if x3 > 0 then (spec_Check.j0v x0 x3 true) else ((spec_l10Line.fv ((rd_T40 x0 x3).f5) ((rd_T40 x0 x3).f6) ((rd_T40 x0 x3).f7) ((rd_T40 x0 x3).f8)).bind fun t33 => (spec_Check.j0v x0 x3 t33))) else (spec_Check.j0v x0 x3 false)) else (none)) else ((spec_Names.fv x0).bind fun t38 => (if (t38.1.length : Int) > 8 then (spec_Check.j2v x0 t38.1 t38.2 true) else (spec_Check.j2v x0 t38.1 t38.2 ((decide ((t38.2.length : Int) > 8))))))) := by
  show lim spec_Check.B (.l0 x0 x3) = _
  rw [lim_eq, spec_Check.B]
  simp only [ev_ite, ev_opt, ev_ask, ev_to, ev_ret, ev_bad]
  try rfl
theorem spec_Check.j0v_eq (x0 : List S40) (x3 : Int) (x35 : Bool) : spec_Check.j0v x0 x3 x35 = (if x35 = true then (some 2) else (spec_Check.l0v x0 (wrap64 (x3 + 1)))) := by
  show lim spec_Check.B (.j0 x0 x3 x35) = _
  rw [lim_eq, spec_Check.B]
  simp only [ev_ite, ev_opt, ev_ask, ev_to, ev_ret, ev_bad]
  try rfl
theorem spec_Check.j1v_eq (x0 : List S40) (x4 : List ByteArray) (x5 : List ByteArray) : spec_Check.j1v x0 x4 x5 = (spec_Check.l1v x0 x4 x5 0) := by
  show lim spec_Check.B (.j1 x0 x4 x5) = _
  rw [lim_eq, spec_Check.B]
  simp only [ev_ite, ev_opt, ev_ask, ev_to, ev_ret, ev_bad]
  try rfl
theorem spec_Check.j2v_eq (x0 : List S40) (x4 : List ByteArray) (x5 : List ByteArray) (x48 : Bool) : spec_Check.j2v x0 x4 x5 x48 = (if x48 = true then (some 3) else (spec_Check.j1v x0 x4 x5)) := by
  show lim spec_Check.B (.j2 x0 x4 x5 x48) = _
  rw [lim_eq, spec_Check.B]
  simp only [ev_ite, ev_opt, ev_ask, ev_to, ev_ret, ev_bad]
  try rfl
theorem spec_Check.l1v_eq (x0 : List S40) (x4 : List ByteArray) (x5 : List ByteArray) (x6 : Int) : spec_Check.l1v x0 x4 x5 x6 = (if x6 < (x4.length : Int) then (if 0 ≤ x6 then ((spec_l7Within.fv x5 (rdOf ByteArray.empty x4 x6)).bind fun t60 => (if t60 = true then (some 4) else (spec_Check.l1v x0 x4 x5 (wrap64 (x6 + 1))))) else (none)) else (spec_Check.l2v x0 0)) := by
  show lim spec_Check.B (.l1 x0 x4 x5 x6) = _
  rw [lim_eq, spec_Check.B]
  simp only [ev_ite, ev_opt, ev_ask, ev_to, ev_ret, ev_bad]
  try rfl
theorem spec_Check.l2v_eq (x0 : List S40) (x7 : Int) : spec_Check.l2v x0 x7 = (if x7 < (x0.length : Int) then (if 0 ≤ x7 then ((spec_l10Args.fv ((rd_T40 x0 x7).f1) ((rd_T40 x0 x7).f2) ((rd_T40 x0 x7).f3) ((rd_T40 x0 x7).f4)).bind fun t72 => (if t72 = true then ((spec_l10Args.fv ((rd_T40 x0 x7).f5) ((rd_T40 x0 x7).f6) ((rd_T40 x0 x7).f7) ((rd_T40 x0 x7).f8)).bind fun t80 => (spec_Check.j3v x0 x7 (!t80))) else (spec_Check.j3v x0 x7 true))) else (none)) else (spec_Check.l3v x0 0)) := by
  show lim spec_Check.B (.l2 x0 x7) = _
  rw [lim_eq, spec_Check.B]
  simp only [ev_ite, ev_opt, ev_ask, ev_to, ev_ret, ev_bad]
  try rfl
theorem spec_Check.j3v_eq (x0 : List S40) (x7 : Int) (x82 : Bool) : spec_Check.j3v x0 x7 x82 = (if x82 = true then (some 5) else (spec_Check.l2v x0 (wrap64 (x7 + 1)))) := by
  show lim spec_Check.B (.j3 x0 x7 x82) = _
  rw [lim_eq, spec_Check.B]
  simp only [ev_ite, ev_opt, ev_ask, ev_to, ev_ret, ev_bad]
  try rfl
theorem spec_Check.l3v_eq (x0 : List S40) (x8 : Int) : spec_Check.l3v x0 x8 = (if x8 < (x0.length : Int) then (if 0 ≤ x8 then ((spec_l10Rexes.fv ((rd_T40 x0 x8).f1) ((rd_T40 x0 x8).f2) ((rd_T40 x0 x8).f3) ((rd_T40 x0 x8).f4)).bind fun t94 => (if t94 = true then ((spec_l10Rexes.fv ((rd_T40 x0 x8).f5) ((rd_T40 x0 x8).f6) ((rd_T40 x0 x8).f7) ((rd_T40 x0 x8).f8)).bind fun t102 => (spec_Check.j4v x0 x8 (!t102))) else (spec_Check.j4v x0 x8 true))) else (none)) else (some 0)) := by
  show lim spec_Check.B (.l3 x0 x8) = _
  rw [lim_eq, spec_Check.B]
  simp only [ev_ite, ev_opt, ev_ask, ev_to, ev_ret, ev_bad]
  try rfl
theorem spec_Check.j4v_eq (x0 : List S40) (x8 : Int) (x104 : Bool) : spec_Check.j4v x0 x8 x104 = (if x104 = true then (some 6) else (spec_Check.l3v x0 (wrap64 (x8 + 1)))) := by
  show lim spec_Check.B (.j4 x0 x8 x104) = _
  rw [lim_eq, spec_Check.B]
  simp only [ev_ite, ev_opt, ev_ask, ev_to, ev_ret, ev_bad]
  try rfl
inductive impl_Names_1.Q where
  | f (a0_0 : Int) (a0_1 : Int) (a0_2 : ByteArray) (l0_3 : List S38) (l1_0 : List ByteArray) (l2_0 : List ByteArray)
  | j0 (x13 : Bool) (y0 : List ByteArray) (y1 : List ByteArray) (x16_0 : Int) (x16_1 : Int) (x16_2 : ByteArray) (x16_3 : List S38)
def impl_Names_1.B : impl_Names_1.Q → Pg impl_Names_1.Q (fun _ => (List ByteArray) × (List ByteArray)) ((List ByteArray) × (List ByteArray))
  | .f a0_0 a0_1 a0_2 l0_3 l1_0 l2_0 => if a0_0 = 4 then (if l1_0.length < 8796093022208 then (.ret ((l1_0 ++ [a0_2]), l2_0)) else (.bad)) else (if a0_0 = 5 then (.to (.j0 (a0_0 == 5) l1_0 l2_0 a0_0 a0_1 a0_2 l0_3)) else (.to (.j0 (a0_0 == 34) l1_0 l2_0 a0_0 a0_1 a0_2 l0_3)))
  | .j0 x13 y0 y1 x16_0 x16_1 x16_2 x16_3 => if x13 = true then (if y1.length < 8796093022208 then (.ret (y0, (y1 ++ [x16_2]))) else (.bad)) else (.ret (y0, y1))
def impl_Names_1.fv (a0_0 : Int) (a0_1 : Int) (a0_2 : ByteArray) (l0_3 : List S38) (l1_0 : List ByteArray) (l2_0 : List ByteArray) : Option ((List ByteArray) × (List ByteArray)) := lim impl_Names_1.B (.f a0_0 a0_1 a0_2 l0_3 l1_0 l2_0)
def impl_Names_1.j0v (x13 : Bool) (y0 : List ByteArray) (y1 : List ByteArray) (x16_0 : Int) (x16_1 : Int) (x16_2 : ByteArray) (x16_3 : List S38) : Option ((List ByteArray) × (List ByteArray)) := lim impl_Names_1.B (.j0 x13 y0 y1 x16_0 x16_1 x16_2 x16_3)
theorem impl_Names_1.fv_eq (a0_0 : Int) (a0_1 : Int) (a0_2 : ByteArray) (l0_3 : List S38) (l1_0 : List ByteArray) (l2_0 : List ByteArray) : impl_Names_1.fv a0_0 a0_1 a0_2 l0_3 l1_0 l2_0 = (if a0_0 = 4 then (if l1_0.length < 8796093022208 then (some ((l1_0 ++ [a0_2]), l2_0)) else (none)) else (if a0_0 = 5 then (impl_Names_1.j0v (a0_0 == 5) l1_0 l2_0 a0_0 a0_1 a0_2 l0_3) else (impl_Names_1.j0v (a0_0 == 34) l1_0 l2_0 a0_0 a0_1 a0_2 l0_3))) := by
  show lim impl_Names_1.B (.f a0_0 a0_1 a0_2 l0_3 l1_0 l2_0) = _
  rw [lim_eq, impl_Names_1.B]
  simp only [ev_ite, ev_opt, ev_ask, ev_to, ev_ret, ev_bad]
  try rfl
theorem impl_Names_1.j0v_eq (x13 : Bool) (y0 : List ByteArray) (y1 : List ByteArray) (x16_0 : Int) (x16_1 : Int) (x16_2 : ByteArray) (x16_3 : List S38) : impl_Names_1.j0v x13 y0 y1 x16_0 x16_1 x16_2 x16_3 = (if x13 = true then (if y1.length < 8796093022208 then (some (y0, (y1 ++ [x16_2]))) else (none)) else (some (y0, y1))) := by
  show lim impl_Names_1.B (.j0 x13 y0 y1 x16_0 x16_1 x16_2 x16_3) = _
  rw [lim_eq, impl_Names_1.B]
  simp only [ev_ite, ev_opt, ev_ask, ev_to, ev_ret, ev_bad]
  try rfl
inductive impl_each__impl_Names_1.Q where
  | f (a0_0 : Int) (a0_1 : Int) (a0_2 : ByteArray) (l0_3 : List S38) (l1q0_0 : List ByteArray) (l1q1_0 : List ByteArray)
  | l0 (x10 : List S38) (x11 : Int) (x12 : Int) (y0 : List ByteArray) (y1 : List ByteArray)
def impl_each__impl_Names_1.B : impl_each__impl_Names_1.Q → Pg impl_each__impl_Names_1.Q (fun _ => (List ByteArray) × (List ByteArray)) ((List ByteArray) × (List ByteArray))
  | .f a0_0 a0_1 a0_2 l0_3 l1q0_0 l1q1_0 => .opt (impl_Names_1.fv a0_0 a0_1 a0_2 l0_3 l1q0_0 l1q1_0) fun t8 => (.to (.l0 l0_3 (l0_3.length : Int) 0 t8.1 t8.2))
  | .l0 x10 x11 x12 y0 y1 => if x12 < x11 then (if 0 ≤ x12 then (if x12 < (x10.length : Int) then (.ask (.f ((rd_T38 x10 x12).f0) ((rd_T38 x10 x12).f1) ((rd_T38 x10 x12).f2) ((rd_T38 x10 x12).f3) y0 y1) fun (t18 : (List ByteArray) × (List ByteArray)) => (.to (.l0 x10 x11 (wrap64 (x12 + 1)) t18.1 t18.2))) else (.bad)) else (.bad)) else (.ret (y0, y1))
def impl_each__impl_Names_1.fv (a0_0 : Int) (a0_1 : Int) (a0_2 : ByteArray) (l0_3 : List S38) (l1q0_0 : List ByteArray) (l1q1_0 : List ByteArray) : Option ((List ByteArray) × (List ByteArray)) := lim impl_each__impl_Names_1.B (.f a0_0 a0_1 a0_2 l0_3 l1q0_0 l1q1_0)
def impl_each__impl_Names_1.l0v (x10 : List S38) (x11 : Int) (x12 : Int) (y0 : List ByteArray) (y1 : List ByteArray) : Option ((List ByteArray) × (List ByteArray)) := lim impl_each__impl_Names_1.B (.l0 x10 x11 x12 y0 y1)
theorem impl_each__impl_Names_1.fv_eq (a0_0 : Int) (a0_1 : Int) (a0_2 : ByteArray) (l0_3 : List S38) (l1q0_0 : List ByteArray) (l1q1_0 : List ByteArray) : impl_each__impl_Names_1.fv a0_0 a0_1 a0_2 l0_3 l1q0_0 l1q1_0 = ((impl_Names_1.fv a0_0 a0_1 a0_2 l0_3 l1q0_0 l1q1_0).bind fun t8 => (impl_each__impl_Names_1.l0v l0_3 (l0_3.length : Int) 0 t8.1 t8.2)) := by
  show lim impl_each__impl_Names_1.B (.f a0_0 a0_1 a0_2 l0_3 l1q0_0 l1q1_0) = _
  rw [lim_eq, impl_each__impl_Names_1.B]
  simp only [ev_ite, ev_opt, ev_ask, ev_to, ev_ret, ev_bad]
  try rfl
theorem impl_each__impl_Names_1.l0v_eq (x10 : List S38) (x11 : Int) (x12 : Int) (y0 : List ByteArray) (y1 : List ByteArray) : impl_each__impl_Names_1.l0v x10 x11 x12 y0 y1 = (if x12 < x11 then (if 0 ≤ x12 then (if x12 < (x10.length : Int) then ((impl_each__impl_Names_1.fv ((rd_T38 x10 x12).f0) ((rd_T38 x10 x12).f1) ((rd_T38 x10 x12).f2) ((rd_T38 x10 x12).f3) y0 y1).bind fun t18 => (impl_each__impl_Names_1.l0v x10 x11 (wrap64 (x12 + 1)) t18.1 t18.2)) else (none)) else (none)) else (some (y0, y1))) := by
  show lim impl_each__impl_Names_1.B (.l0 x10 x11 x12 y0 y1) = _
  rw [lim_eq, impl_each__impl_Names_1.B]
  simp only [ev_ite, ev_opt, ev_ask, ev_to, ev_ret, ev_bad]
  try rfl
inductive impl_eachNode__impl_Names_1.Q where
  | f (l0 : List S40) (l1q0_0 : List ByteArray) (l1q1_0 : List ByteArray)
  | l0 (x6 : List S40) (x7 : Int) (x8 : Int) (y0 : List ByteArray) (y1 : List ByteArray)
def impl_eachNode__impl_Names_1.B : impl_eachNode__impl_Names_1.Q → Pg impl_eachNode__impl_Names_1.Q (fun _ => (List ByteArray) × (List ByteArray)) ((List ByteArray) × (List ByteArray))
  | .f l0 l1q0_0 l1q1_0 => .to (.l0 l0 (l0.length : Int) 0 l1q0_0 l1q1_0)
  | .l0 x6 x7 x8 y0 y1 => if x8 < x7 then (if 0 ≤ x8 then (if x8 < (x6.length : Int) then (.opt (impl_each__impl_Names_1.fv ((rd_T40 x6 x8).f1) ((rd_T40 x6 x8).f2) ((rd_T40 x6 x8).f3) ((rd_T40 x6 x8).f4) y0 y1) fun t15 => (.opt (impl_each__impl_Names_1.fv ((rd_T40 x6 x8).f5) ((rd_T40 x6 x8).f6) ((rd_T40 x6 x8).f7) ((rd_T40 x6 x8).f8) t15.1 t15.2) fun t19 => (.to (.l0 x6 x7 (wrap64 (x8 + 1)) t19.1 t19.2)))) else (.bad)) else (.bad)) else (.ret (y0, y1))
def impl_eachNode__impl_Names_1.fv (l0 : List S40) (l1q0_0 : List ByteArray) (l1q1_0 : List ByteArray) : Option ((List ByteArray) × (List ByteArray)) := lim impl_eachNode__impl_Names_1.B (.f l0 l1q0_0 l1q1_0)
def impl_eachNode__impl_Names_1.l0v (x6 : List S40) (x7 : Int) (x8 : Int) (y0 : List ByteArray) (y1 : List ByteArray) : Option ((List ByteArray) × (List ByteArray)) := lim impl_eachNode__impl_Names_1.B (.l0 x6 x7 x8 y0 y1)
theorem impl_eachNode__impl_Names_1.fv_eq (l0 : List S40) (l1q0_0 : List ByteArray) (l1q1_0 : List ByteArray) : impl_eachNode__impl_Names_1.fv l0 l1q0_0 l1q1_0 = (impl_eachNode__impl_Names_1.l0v l0 (l0.length : Int) 0 l1q0_0 l1q1_0) := by
  show lim impl_eachNode__impl_Names_1.B (.f l0 l1q0_0 l1q1_0) = _
  rw [lim_eq, impl_eachNode__impl_Names_1.B]
  simp only [ev_ite, ev_opt, ev_ask, ev_to, ev_ret, ev_bad]
  try rfl
theorem impl_eachNode__impl_Names_1.l0v_eq (x6 : List S40) (x7 : Int) (x8 : Int) (y0 : List ByteArray) (y1 : List ByteArray) : impl_eachNode__impl_Names_1.l0v x6 x7 x8 y0 y1 = (if x8 < x7 then (if 0 ≤ x8 then (if x8 < (x6.length : Int) then ((impl_each__impl_Names_1.fv ((rd_T40 x6 x8).f1) ((rd_T40 x6 x8).f2) ((rd_T40 x6 x8).f3) ((rd_T40 x6 x8).f4) y0 y1).bind fun t15 => ((impl_each__impl_Names_1.fv ((rd_T40 x6 x8).f5) ((rd_T40 x6 x8).f6) ((rd_T40 x6 x8).f7) ((rd_T40 x6 x8).f8) t15.1 t15.2).bind fun t19 => (impl_eachNode__impl_Names_1.l0v x6 x7 (wrap64 (x8 + 1)) t19.1 t19.2))) else (none)) else (none)) else (some (y0, y1))) := by
  show lim impl_eachNode__impl_Names_1.B (.l0 x6 x7 x8 y0 y1) = _
  rw [lim_eq, impl_eachNode__impl_Names_1.B]
  simp only [ev_ite, ev_opt, ev_ask, ev_to, ev_ret, ev_bad]
  try rfl
def impl_sorted.f (l0 : List ByteArray) : Option ((List ByteArray)) := (slices_Sort_string.f l0).bind fun t4 => ((slices_Compact_string.f t4).bind fun t6 => (some t6))
def impl_Names.fv (l0 : List S40) : Option ((List ByteArray) × (List ByteArray)) := (impl_eachNode__impl_Names_1.fv l0 ([] : List ByteArray) ([] : List ByteArray)).bind fun t10 => ((impl_sorted.f t10.1).bind fun t12 => ((impl_sorted.f t10.2).bind fun t14 => (some (t12, t14))))
theorem impl_Names.fv_eq (l0 : List S40) : impl_Names.fv l0 = ((impl_eachNode__impl_Names_1.fv l0 ([] : List ByteArray) ([] : List ByteArray)).bind fun t10 => ((impl_sorted.f t10.1).bind fun t12 => ((impl_sorted.f t10.2).bind fun t14 => (some (t12, t14))))) := by rw [impl_Names.fv]
inductive impl_Deep.Q where
  | f (a0_0 : Int) (a0_1 : Int) (a0_2 : ByteArray) (l0_3 : List S38)
  | l0 (x3 : Int) (x7 : List S38) (x8 : Int) (x9 : Int)
def impl_Deep.B : impl_Deep.Q → Pg impl_Deep.Q (fun _ => Int) (Int)
  | .f a0_0 a0_1 a0_2 l0_3 => .to (.l0 0 l0_3 (l0_3.length : Int) 0)
  | .l0 x3 x7 x8 x9 => if x9 < x8 then (if 0 ≤ x9 then (if x9 < (x7.length : Int) then (.ask (.f ((rd_T38 x7 x9).f0) ((rd_T38 x7 x9).f1) ((rd_T38 x7 x9).f2) ((rd_T38 x7 x9).f3)) fun (t15 : Int) => (.to (.l0 (mx x3 t15) x7 x8 (wrap64 (x9 + 1))))) else (.bad)) else (.bad)) else (.ret (wrap64 (x3 + 1)))
def impl_Deep.fv (a0_0 : Int) (a0_1 : Int) (a0_2 : ByteArray) (l0_3 : List S38) : Option (Int) := lim impl_Deep.B (.f a0_0 a0_1 a0_2 l0_3)
def impl_Deep.l0v (x3 : Int) (x7 : List S38) (x8 : Int) (x9 : Int) : Option (Int) := lim impl_Deep.B (.l0 x3 x7 x8 x9)
theorem impl_Deep.fv_eq (a0_0 : Int) (a0_1 : Int) (a0_2 : ByteArray) (l0_3 : List S38) : impl_Deep.fv a0_0 a0_1 a0_2 l0_3 = (impl_Deep.l0v 0 l0_3 (l0_3.length : Int) 0) := by
  show lim impl_Deep.B (.f a0_0 a0_1 a0_2 l0_3) = _
  rw [lim_eq, impl_Deep.B]
  simp only [ev_ite, ev_opt, ev_ask, ev_to, ev_ret, ev_bad]
  try rfl
theorem impl_Deep.l0v_eq (x3 : Int) (x7 : List S38) (x8 : Int) (x9 : Int) : impl_Deep.l0v x3 x7 x8 x9 = (if x9 < x8 then (if 0 ≤ x9 then (if x9 < (x7.length : Int) then ((impl_Deep.fv ((rd_T38 x7 x9).f0) ((rd_T38 x7 x9).f1) ((rd_T38 x7 x9).f2) ((rd_T38 x7 x9).f3)).bind fun t15 => (impl_Deep.l0v (mx x3 t15) x7 x8 (wrap64 (x9 + 1)))) else (none)) else (none)) else (some (wrap64 (x3 + 1)))) := by
  show lim impl_Deep.B (.l0 x3 x7 x8 x9) = _
  rw [lim_eq, impl_Deep.B]
  simp only [ev_ite, ev_opt, ev_ask, ev_to, ev_ret, ev_bad]
  try rfl
def impl_plainNode.f (a0_0 : Int) (a0_1 : Int) (a0_2 : ByteArray) (l0_3 : List S38) : Option (Bool) := if a0_1 = 0 then (some (a0_2.toList == (⟨#[]⟩ : ByteArray).toList)) else (some false)
def impl_in.f (a0 : Int) (a1 : Int) (a2 : Int) : Option (Bool) := if a0 ≥ a1 then (some (decide (a0 ≤ a2))) else (some false)
def impl_tokenText.f (a0 : ByteArray) : Option (Bool) := (strings_Contains.f a0 (⟨#[10]⟩ : ByteArray)).bind fun t4 => (some (!t4))
inductive impl_tokenRex.Q where
  | f (a0 : ByteArray)
  | l0 (x0 : ByteArray) (x3 : Int)
def impl_tokenRex.B : impl_tokenRex.Q → Pg impl_tokenRex.Q (fun _ => Bool) (Bool)
  | .f a0 => .to (.l0 a0 0)
  | .l0 x0 x3 => if x3 < (x0.size : Int) then (if 0 ≤ x3 then (if (bt x0 x3) = 92 then (if (wrap64 (x3 + 1)) = (x0.size : Int) then (.ret false) else (if 0 ≤ (wrap64 (x3 + 1)) then (if (wrap64 (x3 + 1)) < (x0.size : Int) then (if (bt x0 (wrap64 (x3 + 1))) = 47 then (.ret false) else (.to (.l0 x0 ((wrap64 ((wrap64 (x3 + 1)) + 1)))))) else (.bad)) else (.bad))) else (.to (.l0 x0 (wrap64 (x3 + 1))))) else (.bad)) else (.opt (impl_tokenText.f x0) fun t27 => (.ret t27))
def impl_tokenRex.fv (a0 : ByteArray) : Option (Bool) := lim impl_tokenRex.B (.f a0)
def impl_tokenRex.l0v (x0 : ByteArray) (x3 : Int) : Option (Bool) := lim impl_tokenRex.B (.l0 x0 x3)
theorem impl_tokenRex.fv_eq (a0 : ByteArray) : impl_tokenRex.fv a0 = (impl_tokenRex.l0v a0 0) := by
  show lim impl_tokenRex.B (.f a0) = _
  rw [lim_eq, impl_tokenRex.B]
  simp only [ev_ite, ev_opt, ev_ask, ev_to, ev_ret, ev_bad]
  try rfl
theorem impl_tokenRex.l0v_eq (x0 : ByteArray) (x3 : Int) : impl_tokenRex.l0v x0 x3 = (if x3 < (x0.size : Int) then (if 0 ≤ x3 then (if (bt x0 x3) = 92 then (if (wrap64 (x3 + 1)) = (x0.size : Int) then (some false) else (if 0 ≤ (wrap64 (x3 + 1)) then (if (wrap64 (x3 + 1)) < (x0.size : Int) then (if (bt x0 (wrap64 (x3 + 1))) = 47 then (some false) else (impl_tokenRex.l0v x0 ((wrap64 ((wrap64 (x3 + 1)) + 1))))) else (none)) else (none))) else (impl_tokenRex.l0v x0 (wrap64 (x3 + 1)))) else (none)) else ((impl_tokenText.f x0).bind fun t27 => (some t27))) := by
  show lim impl_tokenRex.B (.l0 x0 x3) = _
  rw [lim_eq, impl_tokenRex.B]
  simp only [ev_ite, ev_opt, ev_ask, ev_to, ev_ret, ev_bad]
  try rfl
def impl_isLetter.f (a0 : Int) : Option (Bool) := if a0 ≥ 97 then (if a0 ≤ 122 then (some true) else (if a0 ≥ 65 then (some (decide (a0 ≤ 90))) else (some false))) else (if a0 ≥ 65 then (some (decide (a0 ≤ 90))) else (some false))
inductive impl_lettersAt.Q where
  | f (a0 : ByteArray) (a1 : Int)
  | l0 (x0 : ByteArray) (x1 : Int) (x5 : Int)
def impl_lettersAt.B : impl_lettersAt.Q → Pg impl_lettersAt.Q (fun _ => Int) (Int)
  | .f a0 a1 => .to (.l0 a0 a1 0)
  | .l0 x0 x1 x5 => if (wrap64 (x1 + x5)) < (x0.size : Int) then (if 0 ≤ (wrap64 (x1 + x5)) then (.opt (impl_isLetter.f ((bt x0 (wrap64 (x1 + x5))))) fun t18 => (if t18 = true then (.to (.l0 x0 x1 (wrap64 (x5 + 1)))) else (.ret x5))) else (.bad)) else (.ret x5)
def impl_lettersAt.fv (a0 : ByteArray) (a1 : Int) : Option (Int) := lim impl_lettersAt.B (.f a0 a1)
def impl_lettersAt.l0v (x0 : ByteArray) (x1 : Int) (x5 : Int) : Option (Int) := lim impl_lettersAt.B (.l0 x0 x1 x5)
theorem impl_lettersAt.fv_eq (a0 : ByteArray) (a1 : Int) : impl_lettersAt.fv a0 a1 = (impl_lettersAt.l0v a0 a1 0) := by
  show lim impl_lettersAt.B (.f a0 a1) = _
  rw [lim_eq, impl_lettersAt.B]
  simp only [ev_ite, ev_opt, ev_ask, ev_to, ev_ret, ev_bad]
  try rfl
theorem impl_lettersAt.l0v_eq (x0 : ByteArray) (x1 : Int) (x5 : Int) : impl_lettersAt.l0v x0 x1 x5 = (if (wrap64 (x1 + x5)) < (x0.size : Int) then (if 0 ≤ (wrap64 (x1 + x5)) then ((impl_isLetter.f ((bt x0 (wrap64 (x1 + x5))))).bind fun t18 => (if t18 = true then (impl_lettersAt.l0v x0 x1 (wrap64 (x5 + 1))) else (some x5))) else (none)) else (some x5)) := by
  show lim impl_lettersAt.B (.l0 x0 x1 x5) = _
  rw [lim_eq, impl_lettersAt.B]
  simp only [ev_ite, ev_opt, ev_ask, ev_to, ev_ret, ev_bad]
  try rfl
def impl_calls.f  : Option ((List ByteArray)) := (some ([(⟨#[108, 101, 110, 103, 116, 104]⟩ : ByteArray), (⟨#[115, 117, 98, 115, 116, 114]⟩ : ByteArray), (⟨#[105, 110, 100, 101, 120]⟩ : ByteArray), (⟨#[105, 110, 116]⟩ : ByteArray), (⟨#[117, 112, 112, 101, 114]⟩ : ByteArray), (⟨#[108, 111, 119, 101, 114]⟩ : ByteArray)] : List ByteArray)).bind fun y1_0 => (some y1_0)
inductive slices_Index_string_string.Q where
  | f (l0 : List ByteArray) (a1 : ByteArray)
  | l0 (x0 : List ByteArray) (x1 : ByteArray) (x7 : Int) (x8 : Int)
def slices_Index_string_string.B : slices_Index_string_string.Q → Pg slices_Index_string_string.Q (fun _ => Int) (Int)
  | .f l0 a1 => .to (.l0 l0 a1 (l0.length : Int) 0)
  | .l0 x0 x1 x7 x8 => if x8 < x7 then (if 0 ≤ x8 then (if x8 < (x0.length : Int) then (if x1.toList = (rdOf ByteArray.empty x0 x8).toList then (.ret x8) else (.to (.l0 x0 x1 x7 (wrap64 (x8 + 1))))) else (.bad)) else (.bad)) else (.ret (-1))
def slices_Index_string_string.fv (l0 : List ByteArray) (a1 : ByteArray) : Option (Int) := lim slices_Index_string_string.B (.f l0 a1)
def slices_Index_string_string.l0v (x0 : List ByteArray) (x1 : ByteArray) (x7 : Int) (x8 : Int) : Option (Int) := lim slices_Index_string_string.B (.l0 x0 x1 x7 x8)
theorem slices_Index_string_string.fv_eq (l0 : List ByteArray) (a1 : ByteArray) : slices_Index_string_string.fv l0 a1 = (slices_Index_string_string.l0v l0 a1 (l0.length : Int) 0) := by
  show lim slices_Index_string_string.B (.f l0 a1) = _
  rw [lim_eq, slices_Index_string_string.B]
  simp only [ev_ite, ev_opt, ev_ask, ev_to, ev_ret, ev_bad]
  try rfl
theorem slices_Index_string_string.l0v_eq (x0 : List ByteArray) (x1 : ByteArray) (x7 : Int) (x8 : Int) : slices_Index_string_string.l0v x0 x1 x7 x8 = (if x8 < x7 then (if 0 ≤ x8 then (if x8 < (x0.length : Int) then (if x1.toList = (rdOf ByteArray.empty x0 x8).toList then (some x8) else (slices_Index_string_string.l0v x0 x1 x7 (wrap64 (x8 + 1)))) else (none)) else (none)) else (some (-1))) := by
  show lim slices_Index_string_string.B (.l0 x0 x1 x7 x8) = _
  rw [lim_eq, slices_Index_string_string.B]
  simp only [ev_ite, ev_opt, ev_ask, ev_to, ev_ret, ev_bad]
  try rfl
def slices_Contains_string_string.fv (l0 : List ByteArray) (a1 : ByteArray) : Option (Bool) := (slices_Index_string_string.fv l0 a1).bind fun t7 => (some (decide (t7 ≥ 0)))
theorem slices_Contains_string_string.fv_eq (l0 : List ByteArray) (a1 : ByteArray) : slices_Contains_string_string.fv l0 a1 = ((slices_Index_string_string.fv l0 a1).bind fun t7 => (some (decide (t7 ≥ 0)))) := by rw [slices_Contains_string_string.fv]
inductive impl_Keyword.Q where
  | f (a0 : ByteArray)
  | j0 (x0 : ByteArray) (x4 : Bool)
def impl_Keyword.B : impl_Keyword.Q → Pg impl_Keyword.Q (fun _ => Bool) (Bool)
  | .f a0 => if a0.toList = ([66, 69, 71, 73, 78] : List UInt8) then (.to (.j0 a0 (a0.toList == (⟨#[66, 69, 71, 73, 78]⟩ : ByteArray).toList))) else (if a0.toList = ([112, 114, 105, 110, 116] : List UInt8) then (.to (.j0 a0 (a0.toList == (⟨#[112, 114, 105, 110, 116]⟩ : ByteArray).toList))) else (if a0.toList = ([105, 102] : List UInt8) then (.to (.j0 a0 (a0.toList == (⟨#[105, 102]⟩ : ByteArray).toList))) else (if a0.toList = ([101, 108, 115, 101] : List UInt8) then (.to (.j0 a0 (a0.toList == (⟨#[101, 108, 115, 101]⟩ : ByteArray).toList))) else (if a0.toList = ([119, 104, 105, 108, 101] : List UInt8) then (.to (.j0 a0 (a0.toList == (⟨#[119, 104, 105, 108, 101]⟩ : ByteArray).toList))) else (if a0.toList = ([110, 101, 120, 116] : List UInt8) then (.to (.j0 a0 (a0.toList == (⟨#[110, 101, 120, 116]⟩ : ByteArray).toList))) else (if a0.toList = ([100, 101, 108, 101, 116, 101] : List UInt8) then (.to (.j0 a0 (a0.toList == (⟨#[100, 101, 108, 101, 116, 101]⟩ : ByteArray).toList))) else (if a0.toList = ([78, 82] : List UInt8) then (.to (.j0 a0 (a0.toList == (⟨#[78, 82]⟩ : ByteArray).toList))) else (.to (.j0 a0 (a0.toList == (⟨#[78, 70]⟩ : ByteArray).toList))))))))))
  | .j0 x0 x4 => if x4 = true then (.ret true) else (.opt (impl_calls.f) fun t14 => (.opt (slices_Contains_string_string.fv t14 x0) fun t16 => (.ret t16)))
def impl_Keyword.fv (a0 : ByteArray) : Option (Bool) := lim impl_Keyword.B (.f a0)
def impl_Keyword.j0v (x0 : ByteArray) (x4 : Bool) : Option (Bool) := lim impl_Keyword.B (.j0 x0 x4)
theorem impl_Keyword.fv_eq (a0 : ByteArray) : impl_Keyword.fv a0 = (if a0.toList = ([66, 69, 71, 73, 78] : List UInt8) then (impl_Keyword.j0v a0 (a0.toList == (⟨#[66, 69, 71, 73, 78]⟩ : ByteArray).toList)) else (if a0.toList = ([112, 114, 105, 110, 116] : List UInt8) then (impl_Keyword.j0v a0 (a0.toList == (⟨#[112, 114, 105, 110, 116]⟩ : ByteArray).toList)) else (if a0.toList = ([105, 102] : List UInt8) then (impl_Keyword.j0v a0 (a0.toList == (⟨#[105, 102]⟩ : ByteArray).toList)) else (if a0.toList = ([101, 108, 115, 101] : List UInt8) then (impl_Keyword.j0v a0 (a0.toList == (⟨#[101, 108, 115, 101]⟩ : ByteArray).toList)) else (if a0.toList = ([119, 104, 105, 108, 101] : List UInt8) then (impl_Keyword.j0v a0 (a0.toList == (⟨#[119, 104, 105, 108, 101]⟩ : ByteArray).toList)) else (if a0.toList = ([110, 101, 120, 116] : List UInt8) then (impl_Keyword.j0v a0 (a0.toList == (⟨#[110, 101, 120, 116]⟩ : ByteArray).toList)) else (if a0.toList = ([100, 101, 108, 101, 116, 101] : List UInt8) then (impl_Keyword.j0v a0 (a0.toList == (⟨#[100, 101, 108, 101, 116, 101]⟩ : ByteArray).toList)) else (if a0.toList = ([78, 82] : List UInt8) then (impl_Keyword.j0v a0 (a0.toList == (⟨#[78, 82]⟩ : ByteArray).toList)) else (impl_Keyword.j0v a0 (a0.toList == (⟨#[78, 70]⟩ : ByteArray).toList)))))))))) := by
  show lim impl_Keyword.B (.f a0) = _
  rw [lim_eq, impl_Keyword.B]
  simp only [ev_ite, ev_opt, ev_ask, ev_to, ev_ret, ev_bad]
  try rfl
theorem impl_Keyword.j0v_eq (x0 : ByteArray) (x4 : Bool) : impl_Keyword.j0v x0 x4 = (if x4 = true then (some true) else ((impl_calls.f).bind fun t14 => ((slices_Contains_string_string.fv t14 x0).bind fun t16 => (some t16)))) := by
  show lim impl_Keyword.B (.j0 x0 x4) = _
  rw [lim_eq, impl_Keyword.B]
  simp only [ev_ite, ev_opt, ev_ask, ev_to, ev_ret, ev_bad]
  try rfl
def impl_isName.fv (a0 : ByteArray) : Option (Bool) := (impl_in.f (a0.size : Int) 1 8).bind fun t5 => (if t5 = true then ((impl_lettersAt.fv a0 0).bind fun t8 => (if t8 = (a0.size : Int) then ((impl_Keyword.fv a0).bind fun t15 => (some (!t15))) else (some false))) else (some false))
theorem impl_isName.fv_eq (a0 : ByteArray) : impl_isName.fv a0 = ((impl_in.f (a0.size : Int) 1 8).bind fun t5 => (if t5 = true then ((impl_lettersAt.fv a0 0).bind fun t8 => (if t8 = (a0.size : Int) then ((impl_Keyword.fv a0).bind fun t15 => (some (!t15))) else (some false))) else (some false))) := by rw [impl_isName.fv]
inductive impl_allEs.Q where
  | impl_allEs_f (l0 : List S38)
  | slices_ContainsFunc_impl_Node_impl_Node__impl_allEs_1_f (l0 : List S38)
  | slices_IndexFunc_impl_Node_impl_Node__impl_allEs_1_f (l0 : List S38)
  | slices_IndexFunc_impl_Node_impl_Node__impl_allEs_1_l0 (x0 : List S38) (x7 : Int) (x8 : Int)
  | impl_allEs_1_f (a0_0 : Int) (a0_1 : Int) (a0_2 : ByteArray) (l0_3 : List S38)
  | impl_isE_f (a0_0 : Int) (a0_1 : Int) (a0_2 : ByteArray) (l0_3 : List S38)
  | impl_isE_j0 (x3 : Int) (x9 : Int) (x101 : Bool) (x16_0 : Int) (x16_1 : Int) (x16_2 : ByteArray) (x16_3 : List S38)
  | impl_isE_j1 (x3 : Int) (x9 : Int) (x110 : Bool) (x16_0 : Int) (x16_1 : Int) (x16_2 : ByteArray) (x16_3 : List S38)
  | impl_isE_j2 (x3 : Int) (x9 : Int) (x120 : Bool) (x16_0 : Int) (x16_1 : Int) (x16_2 : ByteArray) (x16_3 : List S38)
abbrev impl_allEs.A : impl_allEs.Q → Type
  | .impl_allEs_f _ => Bool
  | .slices_ContainsFunc_impl_Node_impl_Node__impl_allEs_1_f _ => Bool
  | .slices_IndexFunc_impl_Node_impl_Node__impl_allEs_1_f _ => Int
  | .slices_IndexFunc_impl_Node_impl_Node__impl_allEs_1_l0 _ _ _ => Int
  | .impl_allEs_1_f _ _ _ _ => Bool
  | .impl_isE_f _ _ _ _ => Bool
  | .impl_isE_j0 _ _ _ _ _ _ _ => Bool
  | .impl_isE_j1 _ _ _ _ _ _ _ => Bool
  | .impl_isE_j2 _ _ _ _ _ _ _ => Bool
def impl_allEs.B : (q : impl_allEs.Q) → Pg impl_allEs.Q impl_allEs.A (impl_allEs.A q)
  | .impl_allEs_f l0 => .ask (impl_allEs.Q.slices_ContainsFunc_impl_Node_impl_Node__impl_allEs_1_f l0) fun (t4 : Bool) => (.ret ((!t4) : Bool))
  | .slices_ContainsFunc_impl_Node_impl_Node__impl_allEs_1_f l0 => .ask (impl_allEs.Q.slices_IndexFunc_impl_Node_impl_Node__impl_allEs_1_f l0) fun (t7 : Int) => (.ret ((decide (t7 ≥ 0)) : Bool))
  | .slices_IndexFunc_impl_Node_impl_Node__impl_allEs_1_f l0 => .to (impl_allEs.Q.slices_IndexFunc_impl_Node_impl_Node__impl_allEs_1_l0 l0 (l0.length : Int) 0)
  | .slices_IndexFunc_impl_Node_impl_Node__impl_allEs_1_l0 x0 x7 x8 => if x8 < x7 then (if 0 ≤ x8 then (if x8 < (x0.length : Int) then (.ask (impl_allEs.Q.impl_allEs_1_f ((rd_T38 x0 x8).f0) ((rd_T38 x0 x8).f1) ((rd_T38 x0 x8).f2) ((rd_T38 x0 x8).f3)) fun (t16 : Bool) => (if t16 = true then (.ret (x8 : Int)) else (.to (impl_allEs.Q.slices_IndexFunc_impl_Node_impl_Node__impl_allEs_1_l0 x0 x7 (wrap64 (x8 + 1)))))) else (.bad)) else (.bad)) else (.ret ((-1) : Int))
  | .impl_allEs_1_f a0_0 a0_1 a0_2 l0_3 => .ask (impl_allEs.Q.impl_isE_f a0_0 a0_1 a0_2 l0_3) fun (t4 : Bool) => (.ret ((!t4) : Bool))
  | .impl_isE_f a0_0 a0_1 a0_2 l0_3 => if a0_0 = 1 then (.opt (impl_in.f a0_1 0 9000000000000) fun t35 => (if t35 = true then (if a0_2.toList = ([] : List UInt8) then (if (l0_3.length : Int) = 0 then (.ask (impl_allEs.Q.impl_allEs_f l0_3) fun (t160 : Bool) => (.ret (t160 : Bool))) else (.ret (false : Bool))) else (.ret (false : Bool))) else (.ret (false : Bool)))) else (if a0_0 = 2 then (if a0_1 = 0 then (.opt (impl_tokenText.f a0_2) fun t53 => (if t53 = true then (if (l0_3.length : Int) = 0 then (.ask (impl_allEs.Q.impl_allEs_f l0_3) fun (t160 : Bool) => (.ret (t160 : Bool))) else (.ret (false : Bool))) else (.ret (false : Bool)))) else (.ret (false : Bool))) else (if a0_0 = 3 then (if a0_1 = 0 then (.opt (impl_tokenRex.fv a0_2) fun t67 => (if t67 = true then (if (l0_3.length : Int) = 0 then (.ask (impl_allEs.Q.impl_allEs_f l0_3) fun (t160 : Bool) => (.ret (t160 : Bool))) else (.ret (false : Bool))) else (.ret (false : Bool)))) else (.ret (false : Bool))) else (if a0_0 = 4 then (if a0_1 = 0 then (.opt (impl_isName.fv a0_2) fun t81 => (if t81 = true then (if (l0_3.length : Int) = 0 then (.ask (impl_allEs.Q.impl_allEs_f l0_3) fun (t160 : Bool) => (.ret (t160 : Bool))) else (.ret (false : Bool))) else (.ret (false : Bool)))) else (.ret (false : Bool))) else (if a0_0 = 5 then (if a0_1 = 0 then (.opt (impl_isName.fv a0_2) fun t95 => (if t95 = true then (if (l0_3.length : Int) = 1 then (.ask (impl_allEs.Q.impl_allEs_f l0_3) fun (t160 : Bool) => (.ret (t160 : Bool))) else (.ret (false : Bool))) else (.ret (false : Bool)))) else (.ret (false : Bool))) else (if a0_0 = 7 then (.to (impl_allEs.Q.impl_isE_j0 (l0_3.length : Int) a0_0 (a0_0 == 7) a0_0 a0_1 a0_2 l0_3)) else (.to (impl_allEs.Q.impl_isE_j0 (l0_3.length : Int) a0_0 (a0_0 == 8) a0_0 a0_1 a0_2 l0_3)))))))
  | .impl_isE_j0 x3 x9 x101 x16_0 x16_1 x16_2 x16_3 => if x101 = true then (.opt (impl_plainNode.f x16_0 x16_1 x16_2 x16_3) fun t105 => (if t105 = true then (if x3 = 0 then (.ask (impl_allEs.Q.impl_allEs_f x16_3) fun (t160 : Bool) => (.ret (t160 : Bool))) else (.ret (false : Bool))) else (.ret (false : Bool)))) else (if x9 = 6 then (.to (impl_allEs.Q.impl_isE_j1 x3 x9 (x9 == 6) x16_0 x16_1 x16_2 x16_3)) else (if x9 = 22 then (.to (impl_allEs.Q.impl_isE_j1 x3 x9 (x9 == 22) x16_0 x16_1 x16_2 x16_3)) else (.to (impl_allEs.Q.impl_isE_j1 x3 x9 (x9 == 23) x16_0 x16_1 x16_2 x16_3))))
  | .impl_isE_j1 x3 x9 x110 x16_0 x16_1 x16_2 x16_3 => if x110 = true then (.opt (impl_plainNode.f x16_0 x16_1 x16_2 x16_3) fun t115 => (if t115 = true then (if x3 = 1 then (.ask (impl_allEs.Q.impl_allEs_f x16_3) fun (t160 : Bool) => (.ret (t160 : Bool))) else (.ret (false : Bool))) else (.ret (false : Bool)))) else (if x9 = 26 then (.to (impl_allEs.Q.impl_isE_j2 x3 x9 (x9 == 26) x16_0 x16_1 x16_2 x16_3)) else (.to (impl_allEs.Q.impl_isE_j2 x3 x9 (x9 == 27) x16_0 x16_1 x16_2 x16_3)))
  | .impl_isE_j2 x3 x9 x120 x16_0 x16_1 x16_2 x16_3 => if x120 = true then (.opt (impl_plainNode.f x16_0 x16_1 x16_2 x16_3) fun t124 => (if t124 = true then (if x3 = 2 then (if 0 < (x16_3.length : Int) then (if (rd_T38 x16_3 0).f0 = 4 then (.ask (impl_allEs.Q.impl_allEs_f x16_3) fun (t160 : Bool) => (.ret (t160 : Bool))) else (if (rd_T38 x16_3 0).f0 = 5 then (.ask (impl_allEs.Q.impl_allEs_f x16_3) fun (t160 : Bool) => (.ret (t160 : Bool))) else (.ret (false : Bool)))) else (.bad)) else (.ret (false : Bool))) else (.ret (false : Bool)))) else (if x9 = 28 then (if x16_1 = 0 then (.opt (impl_calls.f) fun t151 => (.opt (slices_Contains_string_string.fv t151 x16_2) fun t154 => (if t154 = true then (.ask (impl_allEs.Q.impl_allEs_f x16_3) fun (t160 : Bool) => (.ret (t160 : Bool))) else (.ret (false : Bool))))) else (.ret (false : Bool))) else (.opt (impl_in.f x16_0 9 21) fun t12 => (if t12 = true then (.opt (impl_plainNode.f x16_0 x16_1 x16_2 x16_3) fun t25 => (if t25 = true then (if x3 = 2 then (.ask (impl_allEs.Q.impl_allEs_f x16_3) fun (t160 : Bool) => (.ret (t160 : Bool))) else (.ret (false : Bool))) else (.ret (false : Bool)))) else (if x16_0 = 24 then (.opt (impl_plainNode.f x16_0 x16_1 x16_2 x16_3) fun t25 => (if t25 = true then (if x3 = 2 then (.ask (impl_allEs.Q.impl_allEs_f x16_3) fun (t160 : Bool) => (.ret (t160 : Bool))) else (.ret (false : Bool))) else (.ret (false : Bool)))) else (if x16_0 = 25 then (.opt (impl_plainNode.f x16_0 x16_1 x16_2 x16_3) fun t25 => (if t25 = true then (if x3 = 2 then (.ask (impl_allEs.Q.impl_allEs_f x16_3) fun (t160 : Bool) => (.ret (t160 : Bool))) else (.ret (false : Bool))) else (.ret (false : Bool)))) else (.ret (false : Bool)))))))
def impl_allEs.fv (l0 : List S38) : Option (Bool) := lim impl_allEs.B (.impl_allEs_f l0)
def slices_ContainsFunc_impl_Node_impl_Node__impl_allEs_1.fv (l0 : List S38) : Option (Bool) := lim impl_allEs.B (.slices_ContainsFunc_impl_Node_impl_Node__impl_allEs_1_f l0)
def slices_IndexFunc_impl_Node_impl_Node__impl_allEs_1.fv (l0 : List S38) : Option (Int) := lim impl_allEs.B (.slices_IndexFunc_impl_Node_impl_Node__impl_allEs_1_f l0)
def slices_IndexFunc_impl_Node_impl_Node__impl_allEs_1.l0v (x0 : List S38) (x7 : Int) (x8 : Int) : Option (Int) := lim impl_allEs.B (.slices_IndexFunc_impl_Node_impl_Node__impl_allEs_1_l0 x0 x7 x8)
def impl_allEs_1.fv (a0_0 : Int) (a0_1 : Int) (a0_2 : ByteArray) (l0_3 : List S38) : Option (Bool) := lim impl_allEs.B (.impl_allEs_1_f a0_0 a0_1 a0_2 l0_3)
def impl_isE.fv (a0_0 : Int) (a0_1 : Int) (a0_2 : ByteArray) (l0_3 : List S38) : Option (Bool) := lim impl_allEs.B (.impl_isE_f a0_0 a0_1 a0_2 l0_3)
def impl_isE.j0v (x3 : Int) (x9 : Int) (x101 : Bool) (x16_0 : Int) (x16_1 : Int) (x16_2 : ByteArray) (x16_3 : List S38) : Option (Bool) := lim impl_allEs.B (.impl_isE_j0 x3 x9 x101 x16_0 x16_1 x16_2 x16_3)
def impl_isE.j1v (x3 : Int) (x9 : Int) (x110 : Bool) (x16_0 : Int) (x16_1 : Int) (x16_2 : ByteArray) (x16_3 : List S38) : Option (Bool) := lim impl_allEs.B (.impl_isE_j1 x3 x9 x110 x16_0 x16_1 x16_2 x16_3)
def impl_isE.j2v (x3 : Int) (x9 : Int) (x120 : Bool) (x16_0 : Int) (x16_1 : Int) (x16_2 : ByteArray) (x16_3 : List S38) : Option (Bool) := lim impl_allEs.B (.impl_isE_j2 x3 x9 x120 x16_0 x16_1 x16_2 x16_3)
theorem impl_allEs.fv_eq (l0 : List S38) : impl_allEs.fv l0 = ((slices_ContainsFunc_impl_Node_impl_Node__impl_allEs_1.fv l0).bind fun t4 => (some (!t4))) := by
  show lim impl_allEs.B (.impl_allEs_f l0) = _
  rw [lim_eq, impl_allEs.B]
  simp only [ev_ite, ev_opt, ev_ask, ev_to, ev_ret, ev_bad]
  try rfl
theorem slices_ContainsFunc_impl_Node_impl_Node__impl_allEs_1.fv_eq (l0 : List S38) : slices_ContainsFunc_impl_Node_impl_Node__impl_allEs_1.fv l0 = ((slices_IndexFunc_impl_Node_impl_Node__impl_allEs_1.fv l0).bind fun t7 => (some (decide (t7 ≥ 0)))) := by
  show lim impl_allEs.B (.slices_ContainsFunc_impl_Node_impl_Node__impl_allEs_1_f l0) = _
  rw [lim_eq, impl_allEs.B]
  simp only [ev_ite, ev_opt, ev_ask, ev_to, ev_ret, ev_bad]
  try rfl
theorem slices_IndexFunc_impl_Node_impl_Node__impl_allEs_1.fv_eq (l0 : List S38) : slices_IndexFunc_impl_Node_impl_Node__impl_allEs_1.fv l0 = (slices_IndexFunc_impl_Node_impl_Node__impl_allEs_1.l0v l0 (l0.length : Int) 0) := by
  show lim impl_allEs.B (.slices_IndexFunc_impl_Node_impl_Node__impl_allEs_1_f l0) = _
  rw [lim_eq, impl_allEs.B]
  simp only [ev_ite, ev_opt, ev_ask, ev_to, ev_ret, ev_bad]
  try rfl
theorem slices_IndexFunc_impl_Node_impl_Node__impl_allEs_1.l0v_eq (x0 : List S38) (x7 : Int) (x8 : Int) : slices_IndexFunc_impl_Node_impl_Node__impl_allEs_1.l0v x0 x7 x8 = (if x8 < x7 then (if 0 ≤ x8 then (if x8 < (x0.length : Int) then ((impl_allEs_1.fv ((rd_T38 x0 x8).f0) ((rd_T38 x0 x8).f1) ((rd_T38 x0 x8).f2) ((rd_T38 x0 x8).f3)).bind fun t16 => (if t16 = true then (some x8) else (slices_IndexFunc_impl_Node_impl_Node__impl_allEs_1.l0v x0 x7 (wrap64 (x8 + 1))))) else (none)) else (none)) else (some (-1))) := by
  show lim impl_allEs.B (.slices_IndexFunc_impl_Node_impl_Node__impl_allEs_1_l0 x0 x7 x8) = _
  rw [lim_eq, impl_allEs.B]
  simp only [ev_ite, ev_opt, ev_ask, ev_to, ev_ret, ev_bad]
  try rfl
theorem impl_allEs_1.fv_eq (a0_0 : Int) (a0_1 : Int) (a0_2 : ByteArray) (l0_3 : List S38) : impl_allEs_1.fv a0_0 a0_1 a0_2 l0_3 = ((impl_isE.fv a0_0 a0_1 a0_2 l0_3).bind fun t4 => (some (!t4))) := by
  show lim impl_allEs.B (.impl_allEs_1_f a0_0 a0_1 a0_2 l0_3) = _
  rw [lim_eq, impl_allEs.B]
  simp only [ev_ite, ev_opt, ev_ask, ev_to, ev_ret, ev_bad]
  try rfl
theorem impl_isE.fv_eq (a0_0 : Int) (a0_1 : Int) (a0_2 : ByteArray) (l0_3 : List S38) : impl_isE.fv a0_0 a0_1 a0_2 l0_3 = (if a0_0 = 1 then ((impl_in.f a0_1 0 9000000000000).bind fun t35 => (if t35 = true then (if a0_2.toList = ([] : List UInt8) then (if (l0_3.length : Int) = 0 then ((impl_allEs.fv l0_3).bind fun t160 => (some t160)) else (some false)) else (some false)) else (some false))) else (if a0_0 = 2 then (if a0_1 = 0 then ((impl_tokenText.f a0_2).bind fun t53 => (if t53 = true then (if (l0_3.length : Int) = 0 then ((impl_allEs.fv l0_3).bind fun t160 => (some t160)) else (some false)) else (some false))) else (some false)) else (if a0_0 = 3 then (if a0_1 = 0 then ((impl_tokenRex.fv a0_2).bind fun t67 => (if t67 = true then (if (l0_3.length : Int) = 0 then ((impl_allEs.fv l0_3).bind fun t160 => (some t160)) else (some false)) else (some false))) else (some false)) else (if a0_0 = 4 then (if a0_1 = 0 then ((impl_isName.fv a0_2).bind fun t81 => (if t81 = true then (if (l0_3.length : Int) = 0 then ((impl_allEs.fv l0_3).bind fun t160 => (some t160)) else (some false)) else (some false))) else (some false)) else (if a0_0 = 5 then (if a0_1 = 0 then ((impl_isName.fv a0_2).bind fun t95 => (if t95 = true then (if (l0_3.length : Int) = 1 then ((impl_allEs.fv l0_3).bind fun t160 => (some t160)) else (some false)) else (some false))) else (some false)) else (if a0_0 = 7 then (impl_isE.j0v (l0_3.length : Int) a0_0 (a0_0 == 7) a0_0 a0_1 a0_2 l0_3) else (impl_isE.j0v (l0_3.length : Int) a0_0 (a0_0 == 8) a0_0 a0_1 a0_2 l0_3))))))) := by
  show lim impl_allEs.B (.impl_isE_f a0_0 a0_1 a0_2 l0_3) = _
  rw [lim_eq, impl_allEs.B]
  simp only [ev_ite, ev_opt, ev_ask, ev_to, ev_ret, ev_bad]
  try rfl
theorem impl_isE.j0v_eq (x3 : Int) (x9 : Int) (x101 : Bool) (x16_0 : Int) (x16_1 : Int) (x16_2 : ByteArray) (x16_3 : List S38) : impl_isE.j0v x3 x9 x101 x16_0 x16_1 x16_2 x16_3 = (if x101 = true then ((impl_plainNode.f x16_0 x16_1 x16_2 x16_3).bind fun t105 => (if t105 = true then (if x3 = 0 then ((impl_allEs.fv x16_3).bind fun t160 => (some t160)) else (some false)) else (some false))) else (if x9 = 6 then (impl_isE.j1v x3 x9 (x9 == 6) x16_0 x16_1 x16_2 x16_3) else (if x9 = 22 then (impl_isE.j1v x3 x9 (x9 == 22) x16_0 x16_1 x16_2 x16_3) else (impl_isE.j1v x3 x9 (x9 == 23) x16_0 x16_1 x16_2 x16_3)))) := by
  show lim impl_allEs.B (.impl_isE_j0 x3 x9 x101 x16_0 x16_1 x16_2 x16_3) = _
  rw [lim_eq, impl_allEs.B]
  simp only [ev_ite, ev_opt, ev_ask, ev_to, ev_ret, ev_bad]
  try rfl
theorem impl_isE.j1v_eq (x3 : Int) (x9 : Int) (x110 : Bool) (x16_0 : Int) (x16_1 : Int) (x16_2 : ByteArray) (x16_3 : List S38) : impl_isE.j1v x3 x9 x110 x16_0 x16_1 x16_2 x16_3 = (if x110 = true then ((impl_plainNode.f x16_0 x16_1 x16_2 x16_3).bind fun t115 => (if t115 = true then (if x3 = 1 then ((impl_allEs.fv x16_3).bind fun t160 => (some t160)) else (some false)) else (some false))) else (if x9 = 26 then (impl_isE.j2v x3 x9 (x9 == 26) x16_0 x16_1 x16_2 x16_3) else (impl_isE.j2v x3 x9 (x9 == 27) x16_0 x16_1 x16_2 x16_3))) := by
  show lim impl_allEs.B (.impl_isE_j1 x3 x9 x110 x16_0 x16_1 x16_2 x16_3) = _
  rw [lim_eq, impl_allEs.B]
  simp only [ev_ite, ev_opt, ev_ask, ev_to, ev_ret, ev_bad]
  try rfl
theorem impl_isE.j2v_eq (x3 : Int) (x9 : Int) (x120 : Bool) (x16_0 : Int) (x16_1 : Int) (x16_2 : ByteArray) (x16_3 : List S38) : impl_isE.j2v x3 x9 x120 x16_0 x16_1 x16_2 x16_3 = (if x120 = true then ((impl_plainNode.f x16_0 x16_1 x16_2 x16_3).bind fun t124 => (if t124 = true then (if x3 = 2 then (if 0 < (x16_3.length : Int) then (if (rd_T38 x16_3 0).f0 = 4 then ((impl_allEs.fv x16_3).bind fun t160 => (some t160)) else (if (rd_T38 x16_3 0).f0 = 5 then ((impl_allEs.fv x16_3).bind fun t160 => (some t160)) else (some false))) else (none)) else (some false)) else (some false))) else (if x9 = 28 then (if x16_1 = 0 then ((impl_calls.f).bind fun t151 => ((slices_Contains_string_string.fv t151 x16_2).bind fun t154 => (if t154 = true then ((impl_allEs.fv x16_3).bind fun t160 => (some t160)) else (some false)))) else (some false)) else ((impl_in.f x16_0 9 21).bind fun t12 => (if t12 = true then ((impl_plainNode.f x16_0 x16_1 x16_2 x16_3).bind fun t25 => (if t25 = true then (if x3 = 2 then ((impl_allEs.fv x16_3).bind fun t160 => (some t160)) else (some false)) else (some false))) else (if x16_0 = 24 then ((impl_plainNode.f x16_0 x16_1 x16_2 x16_3).bind fun t25 => (if t25 = true then (if x3 = 2 then ((impl_allEs.fv x16_3).bind fun t160 => (some t160)) else (some false)) else (some false))) else (if x16_0 = 25 then ((impl_plainNode.f x16_0 x16_1 x16_2 x16_3).bind fun t25 => (if t25 = true then (if x3 = 2 then ((impl_allEs.fv x16_3).bind fun t160 => (some t160)) else (some false)) else (some false))) else (some false))))))) := by
  show lim impl_allEs.B (.impl_isE_j2 x3 x9 x120 x16_0 x16_1 x16_2 x16_3) = _
  rw [lim_eq, impl_allEs.B]
  simp only [ev_ite, ev_opt, ev_ask, ev_to, ev_ret, ev_bad]
  try rfl
inductive impl_isBlock.Q where
  | impl_isBlock_f (a0_0 : Int) (a0_1 : Int) (a0_2 : ByteArray) (l0_3 : List S38)
  | slices_ContainsFunc_impl_Node_impl_Node__impl_isBlock_1_f (l0 : List S38)
  | slices_IndexFunc_impl_Node_impl_Node__impl_isBlock_1_f (l0 : List S38)
  | slices_IndexFunc_impl_Node_impl_Node__impl_isBlock_1_l0 (x0 : List S38) (x7 : Int) (x8 : Int)
  | impl_isBlock_1_f (a0_0 : Int) (a0_1 : Int) (a0_2 : ByteArray) (l0_3 : List S38)
  | impl_isStatement_f (a0_0 : Int) (a0_1 : Int) (a0_2 : ByteArray) (l0_3 : List S38)
abbrev impl_isBlock.A : impl_isBlock.Q → Type
  | .impl_isBlock_f _ _ _ _ => Bool
  | .slices_ContainsFunc_impl_Node_impl_Node__impl_isBlock_1_f _ => Bool
  | .slices_IndexFunc_impl_Node_impl_Node__impl_isBlock_1_f _ => Int
  | .slices_IndexFunc_impl_Node_impl_Node__impl_isBlock_1_l0 _ _ _ => Int
  | .impl_isBlock_1_f _ _ _ _ => Bool
  | .impl_isStatement_f _ _ _ _ => Bool
def impl_isBlock.B : (q : impl_isBlock.Q) → Pg impl_isBlock.Q impl_isBlock.A (impl_isBlock.A q)
  | .impl_isBlock_f a0_0 a0_1 a0_2 l0_3 => if a0_0 = 29 then (.opt (impl_plainNode.f a0_0 a0_1 a0_2 l0_3) fun t8 => (if t8 = true then (.ask (impl_isBlock.Q.slices_ContainsFunc_impl_Node_impl_Node__impl_isBlock_1_f l0_3) fun (t13 : Bool) => (.ret ((!t13) : Bool))) else (.ret (false : Bool)))) else (.ret (false : Bool))
  | .slices_ContainsFunc_impl_Node_impl_Node__impl_isBlock_1_f l0 => .ask (impl_isBlock.Q.slices_IndexFunc_impl_Node_impl_Node__impl_isBlock_1_f l0) fun (t7 : Int) => (.ret ((decide (t7 ≥ 0)) : Bool))
  | .slices_IndexFunc_impl_Node_impl_Node__impl_isBlock_1_f l0 => .to (impl_isBlock.Q.slices_IndexFunc_impl_Node_impl_Node__impl_isBlock_1_l0 l0 (l0.length : Int) 0)
  | .slices_IndexFunc_impl_Node_impl_Node__impl_isBlock_1_l0 x0 x7 x8 => if x8 < x7 then (if 0 ≤ x8 then (if x8 < (x0.length : Int) then (.ask (impl_isBlock.Q.impl_isBlock_1_f ((rd_T38 x0 x8).f0) ((rd_T38 x0 x8).f1) ((rd_T38 x0 x8).f2) ((rd_T38 x0 x8).f3)) fun (t16 : Bool) => (if t16 = true then (.ret (x8 : Int)) else (.to (impl_isBlock.Q.slices_IndexFunc_impl_Node_impl_Node__impl_isBlock_1_l0 x0 x7 (wrap64 (x8 + 1)))))) else (.bad)) else (.bad)) else (.ret ((-1) : Int))
  | .impl_isBlock_1_f a0_0 a0_1 a0_2 l0_3 => .ask (impl_isBlock.Q.impl_isStatement_f a0_0 a0_1 a0_2 l0_3) fun (t4 : Bool) => (.ret ((!t4) : Bool))
  | .impl_isStatement_f a0_0 a0_1 a0_2 l0_3 => if a0_0 = 29 then (.ask (impl_isBlock.Q.impl_isBlock_f a0_0 a0_1 a0_2 l0_3) fun (t12 : Bool) => (.ret (t12 : Bool))) else (if a0_0 = 30 then (.opt (impl_plainNode.f a0_0 a0_1 a0_2 l0_3) fun t16 => (if t16 = true then (.opt (impl_allEs.fv l0_3) fun t20 => (.ret (t20 : Bool))) else (.ret (false : Bool)))) else (if a0_0 = 31 then (.opt (impl_plainNode.f a0_0 a0_1 a0_2 l0_3) fun t25 => (if t25 = true then (.opt (impl_in.f (l0_3.length : Int) 2 3) fun t28 => (if t28 = true then (if 0 < (l0_3.length : Int) then (.opt (impl_isE.fv ((rd_T38 l0_3 0).f0) ((rd_T38 l0_3 0).f1) ((rd_T38 l0_3 0).f2) ((rd_T38 l0_3 0).f3)) fun t35 => (if t35 = true then (if 1 < (l0_3.length : Int) then (.ask (impl_isBlock.Q.impl_isBlock_f ((rd_T38 l0_3 1).f0) ((rd_T38 l0_3 1).f1) ((rd_T38 l0_3 1).f2) ((rd_T38 l0_3 1).f3)) fun (t42 : Bool) => (if t42 = true then (if 0 ≤ (wrap64 ((l0_3.length : Int) - 1)) then (if (wrap64 ((l0_3.length : Int) - 1)) < (l0_3.length : Int) then (.ask (impl_isBlock.Q.impl_isBlock_f ((rd_T38 l0_3 (wrap64 ((l0_3.length : Int) - 1))).f0) ((rd_T38 l0_3 (wrap64 ((l0_3.length : Int) - 1))).f1) ((rd_T38 l0_3 (wrap64 ((l0_3.length : Int) - 1))).f2) ((rd_T38 l0_3 (wrap64 ((l0_3.length : Int) - 1))).f3)) fun (t51 : Bool) => (.ret (t51 : Bool))) else (.bad)) else (.bad)) else (.ret (false : Bool)))) else (.bad)) else (.ret (false : Bool)))) else (.bad)) else (.ret (false : Bool)))) else (.ret (false : Bool)))) else (if a0_0 = 32 then (.opt (impl_plainNode.f a0_0 a0_1 a0_2 l0_3) fun t56 => (if t56 = true then (if (l0_3.length : Int) = 2 then (if 0 < (l0_3.length : Int) then (.opt (impl_isE.fv ((rd_T38 l0_3 0).f0) ((rd_T38 l0_3 0).f1) ((rd_T38 l0_3 0).f2) ((rd_T38 l0_3 0).f3)) fun t66 => (if t66 = true then (if 1 < (l0_3.length : Int) then (.ask (impl_isBlock.Q.impl_isBlock_f ((rd_T38 l0_3 1).f0) ((rd_T38 l0_3 1).f1) ((rd_T38 l0_3 1).f2) ((rd_T38 l0_3 1).f3)) fun (t73 : Bool) => (.ret (t73 : Bool))) else (.bad)) else (.ret (false : Bool)))) else (.bad)) else (.ret (false : Bool))) else (.ret (false : Bool)))) else (if a0_0 = 33 then (.opt (impl_plainNode.f a0_0 a0_1 a0_2 l0_3) fun t78 => (if t78 = true then (.ret (((l0_3.length : Int) == 0) : Bool)) else (.ret (false : Bool)))) else (if a0_0 = 34 then (if a0_1 = 0 then (.opt (impl_isName.fv a0_2) fun t91 => (if t91 = true then (if (l0_3.length : Int) = 1 then (if 0 < (l0_3.length : Int) then (.opt (impl_isE.fv ((rd_T38 l0_3 0).f0) ((rd_T38 l0_3 0).f1) ((rd_T38 l0_3 0).f2) ((rd_T38 l0_3 0).f3)) fun t102 => (.ret (t102 : Bool))) else (.bad)) else (.ret (false : Bool))) else (.ret (false : Bool)))) else (.ret (false : Bool))) else (if a0_0 = 35 then (.opt (impl_plainNode.f a0_0 a0_1 a0_2 l0_3) fun t107 => (if t107 = true then (if (l0_3.length : Int) = 1 then (if 0 < (l0_3.length : Int) then (.opt (impl_isE.fv ((rd_T38 l0_3 0).f0) ((rd_T38 l0_3 0).f1) ((rd_T38 l0_3 0).f2) ((rd_T38 l0_3 0).f3)) fun t117 => (.ret (t117 : Bool))) else (.bad)) else (.ret (false : Bool))) else (.ret (false : Bool)))) else (.ret (false : Bool))))))))
def impl_isBlock.fv (a0_0 : Int) (a0_1 : Int) (a0_2 : ByteArray) (l0_3 : List S38) : Option (Bool) := lim impl_isBlock.B (.impl_isBlock_f a0_0 a0_1 a0_2 l0_3)
def slices_ContainsFunc_impl_Node_impl_Node__impl_isBlock_1.fv (l0 : List S38) : Option (Bool) := lim impl_isBlock.B (.slices_ContainsFunc_impl_Node_impl_Node__impl_isBlock_1_f l0)
def slices_IndexFunc_impl_Node_impl_Node__impl_isBlock_1.fv (l0 : List S38) : Option (Int) := lim impl_isBlock.B (.slices_IndexFunc_impl_Node_impl_Node__impl_isBlock_1_f l0)
def slices_IndexFunc_impl_Node_impl_Node__impl_isBlock_1.l0v (x0 : List S38) (x7 : Int) (x8 : Int) : Option (Int) := lim impl_isBlock.B (.slices_IndexFunc_impl_Node_impl_Node__impl_isBlock_1_l0 x0 x7 x8)
def impl_isBlock_1.fv (a0_0 : Int) (a0_1 : Int) (a0_2 : ByteArray) (l0_3 : List S38) : Option (Bool) := lim impl_isBlock.B (.impl_isBlock_1_f a0_0 a0_1 a0_2 l0_3)
def impl_isStatement.fv (a0_0 : Int) (a0_1 : Int) (a0_2 : ByteArray) (l0_3 : List S38) : Option (Bool) := lim impl_isBlock.B (.impl_isStatement_f a0_0 a0_1 a0_2 l0_3)
theorem impl_isBlock.fv_eq (a0_0 : Int) (a0_1 : Int) (a0_2 : ByteArray) (l0_3 : List S38) : impl_isBlock.fv a0_0 a0_1 a0_2 l0_3 = (if a0_0 = 29 then ((impl_plainNode.f a0_0 a0_1 a0_2 l0_3).bind fun t8 => (if t8 = true then ((slices_ContainsFunc_impl_Node_impl_Node__impl_isBlock_1.fv l0_3).bind fun t13 => (some (!t13))) else (some false))) else (some false)) := by
  show lim impl_isBlock.B (.impl_isBlock_f a0_0 a0_1 a0_2 l0_3) = _
  rw [lim_eq, impl_isBlock.B]
  simp only [ev_ite, ev_opt, ev_ask, ev_to, ev_ret, ev_bad]
  try rfl
theorem slices_ContainsFunc_impl_Node_impl_Node__impl_isBlock_1.fv_eq (l0 : List S38) : slices_ContainsFunc_impl_Node_impl_Node__impl_isBlock_1.fv l0 = ((slices_IndexFunc_impl_Node_impl_Node__impl_isBlock_1.fv l0).bind fun t7 => (some (decide (t7 ≥ 0)))) := by
  show lim impl_isBlock.B (.slices_ContainsFunc_impl_Node_impl_Node__impl_isBlock_1_f l0) = _
  rw [lim_eq, impl_isBlock.B]
  simp only [ev_ite, ev_opt, ev_ask, ev_to, ev_ret, ev_bad]
  try rfl
theorem slices_IndexFunc_impl_Node_impl_Node__impl_isBlock_1.fv_eq (l0 : List S38) : slices_IndexFunc_impl_Node_impl_Node__impl_isBlock_1.fv l0 = (slices_IndexFunc_impl_Node_impl_Node__impl_isBlock_1.l0v l0 (l0.length : Int) 0) := by
  show lim impl_isBlock.B (.slices_IndexFunc_impl_Node_impl_Node__impl_isBlock_1_f l0) = _
  rw [lim_eq, impl_isBlock.B]
  simp only [ev_ite, ev_opt, ev_ask, ev_to, ev_ret, ev_bad]
  try rfl
theorem slices_IndexFunc_impl_Node_impl_Node__impl_isBlock_1.l0v_eq (x0 : List S38) (x7 : Int) (x8 : Int) : slices_IndexFunc_impl_Node_impl_Node__impl_isBlock_1.l0v x0 x7 x8 = (if x8 < x7 then (if 0 ≤ x8 then (if x8 < (x0.length : Int) then ((impl_isBlock_1.fv ((rd_T38 x0 x8).f0) ((rd_T38 x0 x8).f1) ((rd_T38 x0 x8).f2) ((rd_T38 x0 x8).f3)).bind fun t16 => (if t16 = true then (some x8) else (slices_IndexFunc_impl_Node_impl_Node__impl_isBlock_1.l0v x0 x7 (wrap64 (x8 + 1))))) else (none)) else (none)) else (some (-1))) := by
  show lim impl_isBlock.B (.slices_IndexFunc_impl_Node_impl_Node__impl_isBlock_1_l0 x0 x7 x8) = _
  rw [lim_eq, impl_isBlock.B]
  simp only [ev_ite, ev_opt, ev_ask, ev_to, ev_ret, ev_bad]
  try rfl
theorem impl_isBlock_1.fv_eq (a0_0 : Int) (a0_1 : Int) (a0_2 : ByteArray) (l0_3 : List S38) : impl_isBlock_1.fv a0_0 a0_1 a0_2 l0_3 = ((impl_isStatement.fv a0_0 a0_1 a0_2 l0_3).bind fun t4 => (some (!t4))) := by
  show lim impl_isBlock.B (.impl_isBlock_1_f a0_0 a0_1 a0_2 l0_3) = _
  rw [lim_eq, impl_isBlock.B]
  simp only [ev_ite, ev_opt, ev_ask, ev_to, ev_ret, ev_bad]
  try rfl
theorem impl_isStatement.fv_eq (a0_0 : Int) (a0_1 : Int) (a0_2 : ByteArray) (l0_3 : List S38) : impl_isStatement.fv a0_0 a0_1 a0_2 l0_3 = (if a0_0 = 29 then ((impl_isBlock.fv a0_0 a0_1 a0_2 l0_3).bind fun t12 => (some t12)) else (if a0_0 = 30 then ((impl_plainNode.f a0_0 a0_1 a0_2 l0_3).bind fun t16 => (if t16 = true then ((impl_allEs.fv l0_3).bind fun t20 => (some t20)) else (some false))) else (if a0_0 = 31 then ((impl_plainNode.f a0_0 a0_1 a0_2 l0_3).bind fun t25 => (if t25 = true then ((impl_in.f (l0_3.length : Int) 2 3).bind fun t28 => (if t28 = true then (if 0 < (l0_3.length : Int) then ((impl_isE.fv ((rd_T38 l0_3 0).f0) ((rd_T38 l0_3 0).f1) ((rd_T38 l0_3 0).f2) ((rd_T38 l0_3 0).f3)).bind fun t35 => (if t35 = true then (if 1 < (l0_3.length : Int) then ((impl_isBlock.fv ((rd_T38 l0_3 1).f0) ((rd_T38 l0_3 1).f1) ((rd_T38 l0_3 1).f2) ((rd_T38 l0_3 1).f3)).bind fun t42 => (if t42 = true then (if 0 ≤ (wrap64 ((l0_3.length : Int) - 1)) then (if (wrap64 ((l0_3.length : Int) - 1)) < (l0_3.length : Int) then ((impl_isBlock.fv ((rd_T38 l0_3 (wrap64 ((l0_3.length : Int) - 1))).f0) ((rd_T38 l0_3 (wrap64 ((l0_3.length : Int) - 1))).f1) ((rd_T38 l0_3 (wrap64 ((l0_3.length : Int) - 1))).f2) ((rd_T38 l0_3 (wrap64 ((l0_3.length : Int) - 1))).f3)).bind fun t51 => (some t51)) else (none)) else (none)) else (some false))) else (none)) else (some false))) else (none)) else (some false))) else (some false))) else (if a0_0 = 32 then ((impl_plainNode.f a0_0 a0_1 a0_2 l0_3).bind fun t56 => (if t56 = true then (if (l0_3.length : Int) = 2 then (if 0 < (l0_3.length : Int) then ((impl_isE.fv ((rd_T38 l0_3 0).f0) ((rd_T38 l0_3 0).f1) ((rd_T38 l0_3 0).f2) ((rd_T38 l0_3 0).f3)).bind fun t66 => (if t66 = true then (if 1 < (l0_3.length : Int) then ((impl_isBlock.fv ((rd_T38 l0_3 1).f0) ((rd_T38 l0_3 1).f1) ((rd_T38 l0_3 1).f2) ((rd_T38 l0_3 1).f3)).bind fun t73 => (some t73)) else (none)) else (some false))) else (none)) else (some false)) else (some false))) else (if a0_0 = 33 then ((impl_plainNode.f a0_0 a0_1 a0_2 l0_3).bind fun t78 => (if t78 = true then (some ((l0_3.length : Int) == 0)) else (some false))) else (if a0_0 = 34 then (if a0_1 = 0 then ((impl_isName.fv a0_2).bind fun t91 => (if t91 = true then (if (l0_3.length : Int) = 1 then (if 0 < (l0_3.length : Int) then ((impl_isE.fv ((rd_T38 l0_3 0).f0) ((rd_T38 l0_3 0).f1) ((rd_T38 l0_3 0).f2) ((rd_T38 l0_3 0).f3)).bind fun t102 => (some t102)) else (none)) else (some false)) else (some false))) else (some false)) else (if a0_0 = 35 then ((impl_plainNode.f a0_0 a0_1 a0_2 l0_3).bind fun t107 => (if t107 = true then (if (l0_3.length : Int) = 1 then (if 0 < (l0_3.length : Int) then ((impl_isE.fv ((rd_T38 l0_3 0).f0) ((rd_T38 l0_3 0).f1) ((rd_T38 l0_3 0).f2) ((rd_T38 l0_3 0).f3)).bind fun t117 => (some t117)) else (none)) else (some false)) else (some false))) else (some false)))))))) := by
  show lim impl_isBlock.B (.impl_isStatement_f a0_0 a0_1 a0_2 l0_3) = _
  rw [lim_eq, impl_isBlock.B]
  simp only [ev_ite, ev_opt, ev_ask, ev_to, ev_ret, ev_bad]
  try rfl
def impl_noNode.f (a0_0 : Int) (a0_1 : Int) (a0_2 : ByteArray) (l0_3 : List S38) : Option (Bool) := if a0_0 = 0 then ((impl_plainNode.f a0_0 a0_1 a0_2 l0_3).bind fun t8 => (if t8 = true then (some ((l0_3.length : Int) == 0)) else (some false))) else (some false)
inductive impl_Tidy_1.Q where
  | f (a0_0 : Int) (a0_1 : Int) (a0_2 : Int) (a0_3 : ByteArray) (l0_4 : List S38) (a0_5 : Int) (a0_6 : Int) (a0_7 : ByteArray) (l0_8 : List S38)
  | j0 (x18 : Bool) (x16_0 : Int) (x16_1 : Int) (x16_2 : Int) (x16_3 : ByteArray) (x16_4 : List S38) (x16_5 : Int) (x16_6 : Int) (x16_7 : ByteArray) (x16_8 : List S38)
  | j1 (x20 : Int) (x21 : Bool) (x16_0 : Int) (x16_1 : Int) (x16_2 : Int) (x16_3 : ByteArray) (x16_4 : List S38) (x16_5 : Int) (x16_6 : Int) (x16_7 : ByteArray) (x16_8 : List S38)
def impl_Tidy_1.B : impl_Tidy_1.Q → Pg impl_Tidy_1.Q (fun _ => Bool) (Bool)
  | .f a0_0 a0_1 a0_2 a0_3 l0_4 a0_5 a0_6 a0_7 l0_8 => .opt (impl_Deep.fv a0_1 a0_2 a0_3 l0_4) fun t5 => (if t5 > 16 then (.to (.j0 true a0_0 a0_1 a0_2 a0_3 l0_4 a0_5 a0_6 a0_7 l0_8)) else (.opt (impl_Deep.fv a0_5 a0_6 a0_7 l0_8) fun t10 => (if t10 > 16 then (.to (.j0 true a0_0 a0_1 a0_2 a0_3 l0_4 a0_5 a0_6 a0_7 l0_8)) else (.opt (impl_isBlock.fv a0_5 a0_6 a0_7 l0_8) fun t16 => (.to (.j0 (!t16) a0_0 a0_1 a0_2 a0_3 l0_4 a0_5 a0_6 a0_7 l0_8))))))
  | .j0 x18 x16_0 x16_1 x16_2 x16_3 x16_4 x16_5 x16_6 x16_7 x16_8 => if x18 = true then (.ret true) else (if x16_0 = 1 then (.to (.j1 x16_0 (x16_0 == 1) x16_0 x16_1 x16_2 x16_3 x16_4 x16_5 x16_6 x16_7 x16_8)) else (.to (.j1 x16_0 (x16_0 == 2) x16_0 x16_1 x16_2 x16_3 x16_4 x16_5 x16_6 x16_7 x16_8)))
  | .j1 x20 x21 x16_0 x16_1 x16_2 x16_3 x16_4 x16_5 x16_6 x16_7 x16_8 => if x21 = true then (.opt (impl_noNode.f x16_1 x16_2 x16_3 x16_4) fun t26 => (.ret (!t26))) else (if x20 = 3 then (.opt (impl_isE.fv x16_1 x16_2 x16_3 x16_4) fun t32 => (.ret (!t32))) else (.ret true))
def impl_Tidy_1.fv (a0_0 : Int) (a0_1 : Int) (a0_2 : Int) (a0_3 : ByteArray) (l0_4 : List S38) (a0_5 : Int) (a0_6 : Int) (a0_7 : ByteArray) (l0_8 : List S38) : Option (Bool) := lim impl_Tidy_1.B (.f a0_0 a0_1 a0_2 a0_3 l0_4 a0_5 a0_6 a0_7 l0_8)
def impl_Tidy_1.j0v (x18 : Bool) (x16_0 : Int) (x16_1 : Int) (x16_2 : Int) (x16_3 : ByteArray) (x16_4 : List S38) (x16_5 : Int) (x16_6 : Int) (x16_7 : ByteArray) (x16_8 : List S38) : Option (Bool) := lim impl_Tidy_1.B (.j0 x18 x16_0 x16_1 x16_2 x16_3 x16_4 x16_5 x16_6 x16_7 x16_8)
def impl_Tidy_1.j1v (x20 : Int) (x21 : Bool) (x16_0 : Int) (x16_1 : Int) (x16_2 : Int) (x16_3 : ByteArray) (x16_4 : List S38) (x16_5 : Int) (x16_6 : Int) (x16_7 : ByteArray) (x16_8 : List S38) : Option (Bool) := lim impl_Tidy_1.B (.j1 x20 x21 x16_0 x16_1 x16_2 x16_3 x16_4 x16_5 x16_6 x16_7 x16_8)
theorem impl_Tidy_1.fv_eq (a0_0 : Int) (a0_1 : Int) (a0_2 : Int) (a0_3 : ByteArray) (l0_4 : List S38) (a0_5 : Int) (a0_6 : Int) (a0_7 : ByteArray) (l0_8 : List S38) : impl_Tidy_1.fv a0_0 a0_1 a0_2 a0_3 l0_4 a0_5 a0_6 a0_7 l0_8 = ((impl_Deep.fv a0_1 a0_2 a0_3 l0_4).bind fun t5 => (if t5 > 16 then (impl_Tidy_1.j0v true a0_0 a0_1 a0_2 a0_3 l0_4 a0_5 a0_6 a0_7 l0_8) else ((impl_Deep.fv a0_5 a0_6 a0_7 l0_8).bind fun t10 => (if t10 > 16 then (impl_Tidy_1.j0v true a0_0 a0_1 a0_2 a0_3 l0_4 a0_5 a0_6 a0_7 l0_8) else ((impl_isBlock.fv a0_5 a0_6 a0_7 l0_8).bind fun t16 => (impl_Tidy_1.j0v (!t16) a0_0 a0_1 a0_2 a0_3 l0_4 a0_5 a0_6 a0_7 l0_8)))))) := by
  show lim impl_Tidy_1.B (.f a0_0 a0_1 a0_2 a0_3 l0_4 a0_5 a0_6 a0_7 l0_8) = _
  rw [lim_eq, impl_Tidy_1.B]
  simp only [ev_ite, ev_opt, ev_ask, ev_to, ev_ret, ev_bad]
  try rfl
theorem impl_Tidy_1.j0v_eq (x18 : Bool) (x16_0 : Int) (x16_1 : Int) (x16_2 : Int) (x16_3 : ByteArray) (x16_4 : List S38) (x16_5 : Int) (x16_6 : Int) (x16_7 : ByteArray) (x16_8 : List S38) : impl_Tidy_1.j0v x18 x16_0 x16_1 x16_2 x16_3 x16_4 x16_5 x16_6 x16_7 x16_8 = (if x18 = true then (some true) else (if x16_0 = 1 then (impl_Tidy_1.j1v x16_0 (x16_0 == 1) x16_0 x16_1 x16_2 x16_3 x16_4 x16_5 x16_6 x16_7 x16_8) else (impl_Tidy_1.j1v x16_0 (x16_0 == 2) x16_0 x16_1 x16_2 x16_3 x16_4 x16_5 x16_6 x16_7 x16_8))) := by
  show lim impl_Tidy_1.B (.j0 x18 x16_0 x16_1 x16_2 x16_3 x16_4 x16_5 x16_6 x16_7 x16_8) = _
  rw [lim_eq, impl_Tidy_1.B]
  simp only [ev_ite, ev_opt, ev_ask, ev_to, ev_ret, ev_bad]
  try rfl
theorem impl_Tidy_1.j1v_eq (x20 : Int) (x21 : Bool) (x16_0 : Int) (x16_1 : Int) (x16_2 : Int) (x16_3 : ByteArray) (x16_4 : List S38) (x16_5 : Int) (x16_6 : Int) (x16_7 : ByteArray) (x16_8 : List S38) : impl_Tidy_1.j1v x20 x21 x16_0 x16_1 x16_2 x16_3 x16_4 x16_5 x16_6 x16_7 x16_8 = (if x21 = true then ((impl_noNode.f x16_1 x16_2 x16_3 x16_4).bind fun t26 => (some (!t26))) else (if x20 = 3 then ((impl_isE.fv x16_1 x16_2 x16_3 x16_4).bind fun t32 => (some (!t32))) else (some true))) := by
  show lim impl_Tidy_1.B (.j1 x20 x21 x16_0 x16_1 x16_2 x16_3 x16_4 x16_5 x16_6 x16_7 x16_8) = _
  rw [lim_eq, impl_Tidy_1.B]
  simp only [ev_ite, ev_opt, ev_ask, ev_to, ev_ret, ev_bad]
  try rfl
inductive slices_IndexFunc_impl_Rule_impl_Rule__impl_Tidy_1.Q where
  | f (l0 : List S40)
  | l0 (x0 : List S40) (x7 : Int) (x8 : Int)
def slices_IndexFunc_impl_Rule_impl_Rule__impl_Tidy_1.B : slices_IndexFunc_impl_Rule_impl_Rule__impl_Tidy_1.Q → Pg slices_IndexFunc_impl_Rule_impl_Rule__impl_Tidy_1.Q (fun _ => Int) (Int)
  | .f l0 => .to (.l0 l0 (l0.length : Int) 0)
  | .l0 x0 x7 x8 => if x8 < x7 then (if 0 ≤ x8 then (if x8 < (x0.length : Int) then (.opt (impl_Tidy_1.fv ((rd_T40 x0 x8).f0) ((rd_T40 x0 x8).f1) ((rd_T40 x0 x8).f2) ((rd_T40 x0 x8).f3) ((rd_T40 x0 x8).f4) ((rd_T40 x0 x8).f5) ((rd_T40 x0 x8).f6) ((rd_T40 x0 x8).f7) ((rd_T40 x0 x8).f8)) fun t16 => (if t16 = true then (.ret x8) else (.to (.l0 x0 x7 (wrap64 (x8 + 1)))))) else (.bad)) else (.bad)) else (.ret (-1))
def slices_IndexFunc_impl_Rule_impl_Rule__impl_Tidy_1.fv (l0 : List S40) : Option (Int) := lim slices_IndexFunc_impl_Rule_impl_Rule__impl_Tidy_1.B (.f l0)
def slices_IndexFunc_impl_Rule_impl_Rule__impl_Tidy_1.l0v (x0 : List S40) (x7 : Int) (x8 : Int) : Option (Int) := lim slices_IndexFunc_impl_Rule_impl_Rule__impl_Tidy_1.B (.l0 x0 x7 x8)
theorem slices_IndexFunc_impl_Rule_impl_Rule__impl_Tidy_1.fv_eq (l0 : List S40) : slices_IndexFunc_impl_Rule_impl_Rule__impl_Tidy_1.fv l0 = (slices_IndexFunc_impl_Rule_impl_Rule__impl_Tidy_1.l0v l0 (l0.length : Int) 0) := by
  show lim slices_IndexFunc_impl_Rule_impl_Rule__impl_Tidy_1.B (.f l0) = _
  rw [lim_eq, slices_IndexFunc_impl_Rule_impl_Rule__impl_Tidy_1.B]
  simp only [ev_ite, ev_opt, ev_ask, ev_to, ev_ret, ev_bad]
  try rfl
theorem slices_IndexFunc_impl_Rule_impl_Rule__impl_Tidy_1.l0v_eq (x0 : List S40) (x7 : Int) (x8 : Int) : slices_IndexFunc_impl_Rule_impl_Rule__impl_Tidy_1.l0v x0 x7 x8 = (if x8 < x7 then (if 0 ≤ x8 then (if x8 < (x0.length : Int) then ((impl_Tidy_1.fv ((rd_T40 x0 x8).f0) ((rd_T40 x0 x8).f1) ((rd_T40 x0 x8).f2) ((rd_T40 x0 x8).f3) ((rd_T40 x0 x8).f4) ((rd_T40 x0 x8).f5) ((rd_T40 x0 x8).f6) ((rd_T40 x0 x8).f7) ((rd_T40 x0 x8).f8)).bind fun t16 => (if t16 = true then (some x8) else (slices_IndexFunc_impl_Rule_impl_Rule__impl_Tidy_1.l0v x0 x7 (wrap64 (x8 + 1))))) else (none)) else (none)) else (some (-1))) := by
  show lim slices_IndexFunc_impl_Rule_impl_Rule__impl_Tidy_1.B (.l0 x0 x7 x8) = _
  rw [lim_eq, slices_IndexFunc_impl_Rule_impl_Rule__impl_Tidy_1.B]
  simp only [ev_ite, ev_opt, ev_ask, ev_to, ev_ret, ev_bad]
  try rfl
def slices_ContainsFunc_impl_Rule_impl_Rule__impl_Tidy_1.fv (l0 : List S40) : Option (Bool) := (slices_IndexFunc_impl_Rule_impl_Rule__impl_Tidy_1.fv l0).bind fun t7 => (some (decide (t7 ≥ 0)))
theorem slices_ContainsFunc_impl_Rule_impl_Rule__impl_Tidy_1.fv_eq (l0 : List S40) : slices_ContainsFunc_impl_Rule_impl_Rule__impl_Tidy_1.fv l0 = ((slices_IndexFunc_impl_Rule_impl_Rule__impl_Tidy_1.fv l0).bind fun t7 => (some (decide (t7 ≥ 0)))) := by rw [slices_ContainsFunc_impl_Rule_impl_Rule__impl_Tidy_1.fv]
def impl_Tidy.fv (l0 : List S40) : Option (Bool) := (slices_ContainsFunc_impl_Rule_impl_Rule__impl_Tidy_1.fv l0).bind fun t4 => (some (!t4))
theorem impl_Tidy.fv_eq (l0 : List S40) : impl_Tidy.fv l0 = ((slices_ContainsFunc_impl_Rule_impl_Rule__impl_Tidy_1.fv l0).bind fun t4 => (some (!t4))) := by rw [impl_Tidy.fv]
inductive impl_noLine.Q where
  | f (a0_0 : Int) (a0_1 : Int) (a0_2 : ByteArray) (l0_3 : List S38)
  | j0 (x16_0 : Int) (x16_1 : Int) (x16_2 : ByteArray) (x16_3 : List S38)
  | j1 (x7 : Bool) (x16_0 : Int) (x16_1 : Int) (x16_2 : ByteArray) (x16_3 : List S38)
  | l0 (x14 : List S38) (x15 : Int) (x16 : Int) (x16_0 : Int) (x16_1 : Int) (x16_2 : ByteArray) (x16_3 : List S38)
  | j2 (x14 : List S38) (x15 : Int) (x16 : Int) (x16_0 : Int) (x16_1 : Int) (x16_2 : ByteArray) (x16_3 : List S38) (x5139_0 : Int) (x5139_1 : Int) (x5139_2 : ByteArray) (x5139_3 : List S38)
  | j3 (x14 : List S38) (x15 : Int) (x16 : Int) (x32 : Bool) (x16_0 : Int) (x16_1 : Int) (x16_2 : ByteArray) (x16_3 : List S38) (x5139_0 : Int) (x5139_1 : Int) (x5139_2 : ByteArray) (x5139_3 : List S38)
def impl_noLine.B : impl_noLine.Q → Pg impl_noLine.Q (fun _ => Bool) (Bool)
  | .f a0_0 a0_1 a0_2 l0_3 => if a0_0 = 6 then (.to (.j1 (a0_0 == 6) a0_0 a0_1 a0_2 l0_3)) else (if a0_0 = 7 then (.to (.j1 (a0_0 == 7) a0_0 a0_1 a0_2 l0_3)) else (if a0_0 = 8 then (.to (.j1 (a0_0 == 8) a0_0 a0_1 a0_2 l0_3)) else (if a0_0 = 33 then (.to (.j1 (a0_0 == 33) a0_0 a0_1 a0_2 l0_3)) else (.to (.j1 (a0_0 == 3) a0_0 a0_1 a0_2 l0_3)))))
  | .j0 x16_0 x16_1 x16_2 x16_3 => .to (.l0 x16_3 (x16_3.length : Int) 0 x16_0 x16_1 x16_2 x16_3)
  | .j1 x7 x16_0 x16_1 x16_2 x16_3 => if x7 = true then (.ret false) else (.to (.j0 x16_0 x16_1 x16_2 x16_3))
  | .l0 x14 x15 x16 x16_0 x16_1 x16_2 x16_3 => if x16 < x15 then (if 0 ≤ x16 then (if x16 < (x14.length : Int) then (if x16_0 = 21 then (if x16 = 1 then (.to (.j3 x14 x15 x16 ((rd_T38 x14 x16).f0 == 3) x16_0 x16_1 x16_2 x16_3 ((rd_T38 x14 x16).f0) ((rd_T38 x14 x16).f1) ((rd_T38 x14 x16).f2) ((rd_T38 x14 x16).f3))) else (.to (.j3 x14 x15 x16 false x16_0 x16_1 x16_2 x16_3 ((rd_T38 x14 x16).f0) ((rd_T38 x14 x16).f1) ((rd_T38 x14 x16).f2) ((rd_T38 x14 x16).f3)))) else (.to (.j3 x14 x15 x16 false x16_0 x16_1 x16_2 x16_3 ((rd_T38 x14 x16).f0) ((rd_T38 x14 x16).f1) ((rd_T38 x14 x16).f2) ((rd_T38 x14 x16).f3)))) else (.bad)) else (.bad)) else (.ret true)
  | .j2 x14 x15 x16 x16_0 x16_1 x16_2 x16_3 x5139_0 x5139_1 x5139_2 x5139_3 => .ask (.f x5139_0 x5139_1 x5139_2 x5139_3) fun (t34 : Bool) => (if t34 = true then (.to (.l0 x14 x15 (wrap64 (x16 + 1)) x16_0 x16_1 x16_2 x16_3)) else (.ret false))
  | .j3 x14 x15 x16 x32 x16_0 x16_1 x16_2 x16_3 x5139_0 x5139_1 x5139_2 x5139_3 => if x32 = true then (.to (.l0 x14 x15 (wrap64 (x16 + 1)) x16_0 x16_1 x16_2 x16_3)) else (.to (.j2 x14 x15 x16 x16_0 x16_1 x16_2 x16_3 x5139_0 x5139_1 x5139_2 x5139_3))
def impl_noLine.fv (a0_0 : Int) (a0_1 : Int) (a0_2 : ByteArray) (l0_3 : List S38) : Option (Bool) := lim impl_noLine.B (.f a0_0 a0_1 a0_2 l0_3)
def impl_noLine.j0v (x16_0 : Int) (x16_1 : Int) (x16_2 : ByteArray) (x16_3 : List S38) : Option (Bool) := lim impl_noLine.B (.j0 x16_0 x16_1 x16_2 x16_3)
def impl_noLine.j1v (x7 : Bool) (x16_0 : Int) (x16_1 : Int) (x16_2 : ByteArray) (x16_3 : List S38) : Option (Bool) := lim impl_noLine.B (.j1 x7 x16_0 x16_1 x16_2 x16_3)
def impl_noLine.l0v (x14 : List S38) (x15 : Int) (x16 : Int) (x16_0 : Int) (x16_1 : Int) (x16_2 : ByteArray) (x16_3 : List S38) : Option (Bool) := lim impl_noLine.B (.l0 x14 x15 x16 x16_0 x16_1 x16_2 x16_3)
def impl_noLine.j2v (x14 : List S38) (x15 : Int) (x16 : Int) (x16_0 : Int) (x16_1 : Int) (x16_2 : ByteArray) (x16_3 : List S38) (x5139_0 : Int) (x5139_1 : Int) (x5139_2 : ByteArray) (x5139_3 : List S38) : Option (Bool) := lim impl_noLine.B (.j2 x14 x15 x16 x16_0 x16_1 x16_2 x16_3 x5139_0 x5139_1 x5139_2 x5139_3)
def impl_noLine.j3v (x14 : List S38) (x15 : Int) (x16 : Int) (x32 : Bool) (x16_0 : Int) (x16_1 : Int) (x16_2 : ByteArray) (x16_3 : List S38) (x5139_0 : Int) (x5139_1 : Int) (x5139_2 : ByteArray) (x5139_3 : List S38) : Option (Bool) := lim impl_noLine.B (.j3 x14 x15 x16 x32 x16_0 x16_1 x16_2 x16_3 x5139_0 x5139_1 x5139_2 x5139_3)
theorem impl_noLine.fv_eq (a0_0 : Int) (a0_1 : Int) (a0_2 : ByteArray) (l0_3 : List S38) : impl_noLine.fv a0_0 a0_1 a0_2 l0_3 = (if a0_0 = 6 then (impl_noLine.j1v (a0_0 == 6) a0_0 a0_1 a0_2 l0_3) else (if a0_0 = 7 then (impl_noLine.j1v (a0_0 == 7) a0_0 a0_1 a0_2 l0_3) else (if a0_0 = 8 then (impl_noLine.j1v (a0_0 == 8) a0_0 a0_1 a0_2 l0_3) else (if a0_0 = 33 then (impl_noLine.j1v (a0_0 == 33) a0_0 a0_1 a0_2 l0_3) else (impl_noLine.j1v (a0_0 == 3) a0_0 a0_1 a0_2 l0_3))))) := by
  show lim impl_noLine.B (.f a0_0 a0_1 a0_2 l0_3) = _
  rw [lim_eq, impl_noLine.B]
  simp only [ev_ite, ev_opt, ev_ask, ev_to, ev_ret, ev_bad]
  try rfl
theorem impl_noLine.j0v_eq (x16_0 : Int) (x16_1 : Int) (x16_2 : ByteArray) (x16_3 : List S38) : impl_noLine.j0v x16_0 x16_1 x16_2 x16_3 = (impl_noLine.l0v x16_3 (x16_3.length : Int) 0 x16_0 x16_1 x16_2 x16_3) := by
  show lim impl_noLine.B (.j0 x16_0 x16_1 x16_2 x16_3) = _
  rw [lim_eq, impl_noLine.B]
  simp only [ev_ite, ev_opt, ev_ask, ev_to, ev_ret, ev_bad]
  try rfl
theorem impl_noLine.j1v_eq (x7 : Bool) (x16_0 : Int) (x16_1 : Int) (x16_2 : ByteArray) (x16_3 : List S38) : impl_noLine.j1v x7 x16_0 x16_1 x16_2 x16_3 = (if x7 = true then (some false) else (impl_noLine.j0v x16_0 x16_1 x16_2 x16_3)) := by
  show lim impl_noLine.B (.j1 x7 x16_0 x16_1 x16_2 x16_3) = _
  rw [lim_eq, impl_noLine.B]
  simp only [ev_ite, ev_opt, ev_ask, ev_to, ev_ret, ev_bad]
  try rfl
theorem impl_noLine.l0v_eq (x14 : List S38) (x15 : Int) (x16 : Int) (x16_0 : Int) (x16_1 : Int) (x16_2 : ByteArray) (x16_3 : List S38) : impl_noLine.l0v x14 x15 x16 x16_0 x16_1 x16_2 x16_3 = (if x16 < x15 then (if 0 ≤ x16 then (if x16 < (x14.length : Int) then (if x16_0 = 21 then (if x16 = 1 then (impl_noLine.j3v x14 x15 x16 ((rd_T38 x14 x16).f0 == 3) x16_0 x16_1 x16_2 x16_3 ((rd_T38 x14 x16).f0) ((rd_T38 x14 x16).f1) ((rd_T38 x14 x16).f2) ((rd_T38 x14 x16).f3)) else (impl_noLine.j3v x14 x15 x16 false x16_0 x16_1 x16_2 x16_3 ((rd_T38 x14 x16).f0) ((rd_T38 x14 x16).f1) ((rd_T38 x14 x16).f2) ((rd_T38 x14 x16).f3))) else (impl_noLine.j3v x14 x15 x16 false x16_0 x16_1 x16_2 x16_3 ((rd_T38 x14 x16).f0) ((rd_T38 x14 x16).f1) ((rd_T38 x14 x16).f2) ((rd_T38 x14 x16).f3))) else (none)) else (none)) else (some true)) := by
  show lim impl_noLine.B (.l0 x14 x15 x16 x16_0 x16_1 x16_2 x16_3) = _
  rw [lim_eq, impl_noLine.B]
  simp only [ev_ite, ev_opt, ev_ask, ev_to, ev_ret, ev_bad]
  try rfl
theorem impl_noLine.j2v_eq (x14 : List S38) (x15 : Int) (x16 : Int) (x16_0 : Int) (x16_1 : Int) (x16_2 : ByteArray) (x16_3 : List S38) (x5139_0 : Int) (x5139_1 : Int) (x5139_2 : ByteArray) (x5139_3 : List S38) : impl_noLine.j2v x14 x15 x16 x16_0 x16_1 x16_2 x16_3 x5139_0 x5139_1 x5139_2 x5139_3 = ((impl_noLine.fv x5139_0 x5139_1 x5139_2 x5139_3).bind fun t34 => (if t34 = true then (impl_noLine.l0v x14 x15 (wrap64 (x16 + 1)) x16_0 x16_1 x16_2 x16_3) else (some false))) := by
  show lim impl_noLine.B (.j2 x14 x15 x16 x16_0 x16_1 x16_2 x16_3 x5139_0 x5139_1 x5139_2 x5139_3) = _
  rw [lim_eq, impl_noLine.B]
  simp only [ev_ite, ev_opt, ev_ask, ev_to, ev_ret, ev_bad]
  try rfl
theorem impl_noLine.j3v_eq (x14 : List S38) (x15 : Int) (x16 : Int) (x32 : Bool) (x16_0 : Int) (x16_1 : Int) (x16_2 : ByteArray) (x16_3 : List S38) (x5139_0 : Int) (x5139_1 : Int) (x5139_2 : ByteArray) (x5139_3 : List S38) : impl_noLine.j3v x14 x15 x16 x32 x16_0 x16_1 x16_2 x16_3 x5139_0 x5139_1 x5139_2 x5139_3 = (if x32 = true then (impl_noLine.l0v x14 x15 (wrap64 (x16 + 1)) x16_0 x16_1 x16_2 x16_3) else (impl_noLine.j2v x14 x15 x16 x16_0 x16_1 x16_2 x16_3 x5139_0 x5139_1 x5139_2 x5139_3)) := by
  show lim impl_noLine.B (.j3 x14 x15 x16 x32 x16_0 x16_1 x16_2 x16_3 x5139_0 x5139_1 x5139_2 x5139_3) = _
  rw [lim_eq, impl_noLine.B]
  simp only [ev_ite, ev_opt, ev_ask, ev_to, ev_ret, ev_bad]
  try rfl
inductive impl_beginFault.Q where
  | f (l0 : List S40)
  | l0 (x5 : List S40) (x6 : Int) (x7 : Int)
def impl_beginFault.B : impl_beginFault.Q → Pg impl_beginFault.Q (fun _ => Bool) (Bool)
  | .f l0 => .to (.l0 l0 (l0.length : Int) 0)
  | .l0 x5 x6 x7 => if x7 < x6 then (if 0 ≤ x7 then (if x7 < (x5.length : Int) then (if (rd_T40 x5 x7).f0 = 1 then (if x7 > 0 then (.ret true) else (.opt (impl_noLine.fv ((rd_T40 x5 x7).f5) ((rd_T40 x5 x7).f6) ((rd_T40 x5 x7).f7) ((rd_T40 x5 x7).f8)) fun t21 => (if t21 = true then (.to (.l0 x5 x6 (wrap64 (x7 + 1)))) else (.ret true)))) else (.to (.l0 x5 x6 (wrap64 (x7 + 1))))) else (.bad)) else (.bad)) else (.ret false)
def impl_beginFault.fv (l0 : List S40) : Option (Bool) := lim impl_beginFault.B (.f l0)
def impl_beginFault.l0v (x5 : List S40) (x6 : Int) (x7 : Int) : Option (Bool) := lim impl_beginFault.B (.l0 x5 x6 x7)
theorem impl_beginFault.fv_eq (l0 : List S40) : impl_beginFault.fv l0 = (impl_beginFault.l0v l0 (l0.length : Int) 0) := by
  show lim impl_beginFault.B (.f l0) = _
  rw [lim_eq, impl_beginFault.B]
  simp only [ev_ite, ev_opt, ev_ask, ev_to, ev_ret, ev_bad]
  try rfl
theorem impl_beginFault.l0v_eq (x5 : List S40) (x6 : Int) (x7 : Int) : impl_beginFault.l0v x5 x6 x7 = (if x7 < x6 then (if 0 ≤ x7 then (if x7 < (x5.length : Int) then (if (rd_T40 x5 x7).f0 = 1 then (if x7 > 0 then (some true) else ((impl_noLine.fv ((rd_T40 x5 x7).f5) ((rd_T40 x5 x7).f6) ((rd_T40 x5 x7).f7) ((rd_T40 x5 x7).f8)).bind fun t21 => (if t21 = true then (impl_beginFault.l0v x5 x6 (wrap64 (x7 + 1))) else (some true)))) else (impl_beginFault.l0v x5 x6 (wrap64 (x7 + 1)))) else (none)) else (none)) else (some false)) := by
  show lim impl_beginFault.B (.l0 x5 x6 x7) = _
  rw [lim_eq, impl_beginFault.B]
  simp only [ev_ite, ev_opt, ev_ask, ev_to, ev_ret, ev_bad]
  try rfl
def impl_Check_1.fv (a0 : ByteArray) (l1_0 : List ByteArray) : Option (Bool) := (slices_Contains_string_string.fv l1_0 a0).bind fun t6 => (some t6)
theorem impl_Check_1.fv_eq (a0 : ByteArray) (l1_0 : List ByteArray) : impl_Check_1.fv a0 l1_0 = ((slices_Contains_string_string.fv l1_0 a0).bind fun t6 => (some t6)) := by rw [impl_Check_1.fv]
inductive slices_IndexFunc_string_string__impl_Check_1.Q where
  | f (l0 : List ByteArray) (l1q0_0 : List ByteArray)
  | l0 (x0 : List ByteArray) (x7 : Int) (x8 : Int) (l1q0_0 : List ByteArray)
def slices_IndexFunc_string_string__impl_Check_1.B : slices_IndexFunc_string_string__impl_Check_1.Q → Pg slices_IndexFunc_string_string__impl_Check_1.Q (fun _ => Int) (Int)
  | .f l0 l1q0_0 => .to (.l0 l0 (l0.length : Int) 0 l1q0_0)
  | .l0 x0 x7 x8 l1q0_0 => if x8 < x7 then (if 0 ≤ x8 then (if x8 < (x0.length : Int) then (.opt (impl_Check_1.fv (rdOf ByteArray.empty x0 x8) l1q0_0) fun t16 => (if t16 = true then (.ret x8) else (.to (.l0 x0 x7 (wrap64 (x8 + 1)) l1q0_0)))) else (.bad)) else (.bad)) else (.ret (-1))
def slices_IndexFunc_string_string__impl_Check_1.fv (l0 : List ByteArray) (l1q0_0 : List ByteArray) : Option (Int) := lim slices_IndexFunc_string_string__impl_Check_1.B (.f l0 l1q0_0)
def slices_IndexFunc_string_string__impl_Check_1.l0v (x0 : List ByteArray) (x7 : Int) (x8 : Int) (l1q0_0 : List ByteArray) : Option (Int) := lim slices_IndexFunc_string_string__impl_Check_1.B (.l0 x0 x7 x8 l1q0_0)
theorem slices_IndexFunc_string_string__impl_Check_1.fv_eq (l0 : List ByteArray) (l1q0_0 : List ByteArray) : slices_IndexFunc_string_string__impl_Check_1.fv l0 l1q0_0 = (slices_IndexFunc_string_string__impl_Check_1.l0v l0 (l0.length : Int) 0 l1q0_0) := by
  show lim slices_IndexFunc_string_string__impl_Check_1.B (.f l0 l1q0_0) = _
  rw [lim_eq, slices_IndexFunc_string_string__impl_Check_1.B]
  simp only [ev_ite, ev_opt, ev_ask, ev_to, ev_ret, ev_bad]
  try rfl
theorem slices_IndexFunc_string_string__impl_Check_1.l0v_eq (x0 : List ByteArray) (x7 : Int) (x8 : Int) (l1q0_0 : List ByteArray) : slices_IndexFunc_string_string__impl_Check_1.l0v x0 x7 x8 l1q0_0 = (if x8 < x7 then (if 0 ≤ x8 then (if x8 < (x0.length : Int) then ((impl_Check_1.fv (rdOf ByteArray.empty x0 x8) l1q0_0).bind fun t16 => (if t16 = true then (some x8) else (slices_IndexFunc_string_string__impl_Check_1.l0v x0 x7 (wrap64 (x8 + 1)) l1q0_0))) else (none)) else (none)) else (some (-1))) := by
  show lim slices_IndexFunc_string_string__impl_Check_1.B (.l0 x0 x7 x8 l1q0_0) = _
  rw [lim_eq, slices_IndexFunc_string_string__impl_Check_1.B]
  simp only [ev_ite, ev_opt, ev_ask, ev_to, ev_ret, ev_bad]
  try rfl
def slices_ContainsFunc_string_string__impl_Check_1.fv (l0 : List ByteArray) (l1q0_0 : List ByteArray) : Option (Bool) := (slices_IndexFunc_string_string__impl_Check_1.fv l0 l1q0_0).bind fun t7 => (some (decide (t7 ≥ 0)))
theorem slices_ContainsFunc_string_string__impl_Check_1.fv_eq (l0 : List ByteArray) (l1q0_0 : List ByteArray) : slices_ContainsFunc_string_string__impl_Check_1.fv l0 l1q0_0 = ((slices_IndexFunc_string_string__impl_Check_1.fv l0 l1q0_0).bind fun t7 => (some (decide (t7 ≥ 0)))) := by rw [slices_ContainsFunc_string_string__impl_Check_1.fv]
def impl_argsOk.f (a0_0 : Int) (a0_1 : Int) (a0_2 : ByteArray) (l0_3 : List S38) : Option (Bool) := if a0_2.toList = ([105, 110, 100, 101, 120] : List UInt8) then (some ((l0_3.length : Int) == 2)) else (if a0_2.toList = ([115, 117, 98, 115, 116, 114] : List UInt8) then (if (l0_3.length : Int) = 2 then (some true) else (some ((l0_3.length : Int) == 3))) else (some ((l0_3.length : Int) == 1)))
def impl_Check_2.f (a0_0 : Int) (a0_1 : Int) (a0_2 : ByteArray) (l0_3 : List S38) : Option (Bool) := if a0_0 = 28 then ((impl_argsOk.f a0_0 a0_1 a0_2 l0_3).bind fun t8 => (some (!t8))) else (some false)
def impl_anyNode_1.f (a0_0 : Int) (a0_1 : Int) (a0_2 : ByteArray) (l0_3 : List S38) (a2_0 : Bool) : Option (Bool) := (impl_Check_2.f a0_0 a0_1 a0_2 l0_3).bind fun t6 => (if t6 = true then (some true) else (some a2_0))
inductive impl_each__impl_anyNode_1.Q where
  | f (a0_0 : Int) (a0_1 : Int) (a0_2 : ByteArray) (l0_3 : List S38) (a1q1_0 : Bool)
  | l0 (x10 : List S38) (x11 : Int) (x12 : Int) (x2000 : Bool)
def impl_each__impl_anyNode_1.B : impl_each__impl_anyNode_1.Q → Pg impl_each__impl_anyNode_1.Q (fun _ => Bool) (Bool)
  | .f a0_0 a0_1 a0_2 l0_3 a1q1_0 => .opt (impl_anyNode_1.f a0_0 a0_1 a0_2 l0_3 a1q1_0) fun t8 => (.to (.l0 l0_3 (l0_3.length : Int) 0 t8))
  | .l0 x10 x11 x12 x2000 => if x12 < x11 then (if 0 ≤ x12 then (if x12 < (x10.length : Int) then (.ask (.f ((rd_T38 x10 x12).f0) ((rd_T38 x10 x12).f1) ((rd_T38 x10 x12).f2) ((rd_T38 x10 x12).f3) x2000) fun (t18 : Bool) => (.to (.l0 x10 x11 (wrap64 (x12 + 1)) t18))) else (.bad)) else (.bad)) else (.ret x2000)
def impl_each__impl_anyNode_1.fv (a0_0 : Int) (a0_1 : Int) (a0_2 : ByteArray) (l0_3 : List S38) (a1q1_0 : Bool) : Option (Bool) := lim impl_each__impl_anyNode_1.B (.f a0_0 a0_1 a0_2 l0_3 a1q1_0)
def impl_each__impl_anyNode_1.l0v (x10 : List S38) (x11 : Int) (x12 : Int) (x2000 : Bool) : Option (Bool) := lim impl_each__impl_anyNode_1.B (.l0 x10 x11 x12 x2000)
theorem impl_each__impl_anyNode_1.fv_eq (a0_0 : Int) (a0_1 : Int) (a0_2 : ByteArray) (l0_3 : List S38) (a1q1_0 : Bool) : impl_each__impl_anyNode_1.fv a0_0 a0_1 a0_2 l0_3 a1q1_0 = ((impl_anyNode_1.f a0_0 a0_1 a0_2 l0_3 a1q1_0).bind fun t8 => (impl_each__impl_anyNode_1.l0v l0_3 (l0_3.length : Int) 0 t8)) := by
  show lim impl_each__impl_anyNode_1.B (.f a0_0 a0_1 a0_2 l0_3 a1q1_0) = _
  rw [lim_eq, impl_each__impl_anyNode_1.B]
  simp only [ev_ite, ev_opt, ev_ask, ev_to, ev_ret, ev_bad]
  try rfl
theorem impl_each__impl_anyNode_1.l0v_eq (x10 : List S38) (x11 : Int) (x12 : Int) (x2000 : Bool) : impl_each__impl_anyNode_1.l0v x10 x11 x12 x2000 = (if x12 < x11 then (if 0 ≤ x12 then (if x12 < (x10.length : Int) then ((impl_each__impl_anyNode_1.fv ((rd_T38 x10 x12).f0) ((rd_T38 x10 x12).f1) ((rd_T38 x10 x12).f2) ((rd_T38 x10 x12).f3) x2000).bind fun t18 => (impl_each__impl_anyNode_1.l0v x10 x11 (wrap64 (x12 + 1)) t18)) else (none)) else (none)) else (some x2000)) := by
  show lim impl_each__impl_anyNode_1.B (.l0 x10 x11 x12 x2000) = _
  rw [lim_eq, impl_each__impl_anyNode_1.B]
  simp only [ev_ite, ev_opt, ev_ask, ev_to, ev_ret, ev_bad]
  try rfl
inductive impl_eachNode__impl_anyNode_1.Q where
  | f (l0 : List S40) (a1q1_0 : Bool)
  | l0 (x6 : List S40) (x7 : Int) (x8 : Int) (x2000 : Bool)
def impl_eachNode__impl_anyNode_1.B : impl_eachNode__impl_anyNode_1.Q → Pg impl_eachNode__impl_anyNode_1.Q (fun _ => Bool) (Bool)
  | .f l0 a1q1_0 => .to (.l0 l0 (l0.length : Int) 0 a1q1_0)
  | .l0 x6 x7 x8 x2000 => if x8 < x7 then (if 0 ≤ x8 then (if x8 < (x6.length : Int) then (.opt (impl_each__impl_anyNode_1.fv ((rd_T40 x6 x8).f1) ((rd_T40 x6 x8).f2) ((rd_T40 x6 x8).f3) ((rd_T40 x6 x8).f4) x2000) fun t15 => (.opt (impl_each__impl_anyNode_1.fv ((rd_T40 x6 x8).f5) ((rd_T40 x6 x8).f6) ((rd_T40 x6 x8).f7) ((rd_T40 x6 x8).f8) t15) fun t19 => (.to (.l0 x6 x7 (wrap64 (x8 + 1)) t19)))) else (.bad)) else (.bad)) else (.ret x2000)
def impl_eachNode__impl_anyNode_1.fv (l0 : List S40) (a1q1_0 : Bool) : Option (Bool) := lim impl_eachNode__impl_anyNode_1.B (.f l0 a1q1_0)
def impl_eachNode__impl_anyNode_1.l0v (x6 : List S40) (x7 : Int) (x8 : Int) (x2000 : Bool) : Option (Bool) := lim impl_eachNode__impl_anyNode_1.B (.l0 x6 x7 x8 x2000)
theorem impl_eachNode__impl_anyNode_1.fv_eq (l0 : List S40) (a1q1_0 : Bool) : impl_eachNode__impl_anyNode_1.fv l0 a1q1_0 = (impl_eachNode__impl_anyNode_1.l0v l0 (l0.length : Int) 0 a1q1_0) := by
  show lim impl_eachNode__impl_anyNode_1.B (.f l0 a1q1_0) = _
  rw [lim_eq, impl_eachNode__impl_anyNode_1.B]
  simp only [ev_ite, ev_opt, ev_ask, ev_to, ev_ret, ev_bad]
  try rfl
theorem impl_eachNode__impl_anyNode_1.l0v_eq (x6 : List S40) (x7 : Int) (x8 : Int) (x2000 : Bool) : impl_eachNode__impl_anyNode_1.l0v x6 x7 x8 x2000 = (if x8 < x7 then (if 0 ≤ x8 then (if x8 < (x6.length : Int) then ((impl_each__impl_anyNode_1.fv ((rd_T40 x6 x8).f1) ((rd_T40 x6 x8).f2) ((rd_T40 x6 x8).f3) ((rd_T40 x6 x8).f4) x2000).bind fun t15 => ((impl_each__impl_anyNode_1.fv ((rd_T40 x6 x8).f5) ((rd_T40 x6 x8).f6) ((rd_T40 x6 x8).f7) ((rd_T40 x6 x8).f8) t15).bind fun t19 => (impl_eachNode__impl_anyNode_1.l0v x6 x7 (wrap64 (x8 + 1)) t19))) else (none)) else (none)) else (some x2000)) := by
  show lim impl_eachNode__impl_anyNode_1.B (.l0 x6 x7 x8 x2000) = _
  rw [lim_eq, impl_eachNode__impl_anyNode_1.B]
  simp only [ev_ite, ev_opt, ev_ask, ev_to, ev_ret, ev_bad]
  try rfl
def impl_anyNode__impl_Check_2.fv (l0 : List S40) : Option (Bool) := (impl_eachNode__impl_anyNode_1.fv l0 false).bind fun t8 => (some t8)
theorem impl_anyNode__impl_Check_2.fv_eq (l0 : List S40) : impl_anyNode__impl_Check_2.fv l0 = ((impl_eachNode__impl_anyNode_1.fv l0 false).bind fun t8 => (some t8)) := by rw [impl_anyNode__impl_Check_2.fv]
def impl_rexReader_next.f (s0_0 : ByteArray) (s0_1 : Bool) : Option (Int × Bool × ByteArray × Bool) := if s0_0.toList = ([] : List UInt8) then (some (0, false, s0_0, s0_1)) else (if s0_1 = true then (some (0, false, s0_0, s0_1)) else (if 0 < (s0_0.size : Int) then (some ((bt s0_0 0), true, s0_0, s0_1)) else (none)))
def impl_rexReader_take.f (s0_0 : ByteArray) (s0_1 : Bool) (a1 : Int) : Option (Bool × ByteArray × Bool) := (impl_rexReader_next.f s0_0 s0_1).bind fun t9 => (if t9.2.1 = true then (if t9.1 = a1 then (if 1 ≤ (t9.2.2.1.size : Int) then (some (true, (t9.2.2.1.extract 1 t9.2.2.1.size), t9.2.2.2)) else (none)) else (some (false, t9.2.2.1, t9.2.2.2))) else (some (false, t9.2.2.1, t9.2.2.2)))
inductive impl_rexReader_set.Q where
  | f (s0_0 : ByteArray) (s0_1 : Bool)
  | l0 (x5 : ByteArray) (x6 : List Bool) (x7 : Int) (x1000 : ByteArray) (x1001 : Bool) (x531_0 : Int) (x531_1 : Int) (x531_2 : ByteArray) (x531_3 : Bool)
  | j2 (x5 : ByteArray) (x6 : List Bool) (x7 : Int) (x8 : Int) (x9 : Int) (x1000 : ByteArray) (x1001 : Bool) (x531_0 : Int) (x531_1 : Int) (x531_2 : ByteArray) (x531_3 : Bool)
  | j1 (x5 : ByteArray) (x6 : List Bool) (x7 : Int) (x8 : Int) (x9 : Int) (x70 : Bool) (x1000 : ByteArray) (x1001 : Bool) (x531_0 : Int) (x531_1 : Int) (x531_2 : ByteArray) (x531_3 : Bool)
  | l1 (x5 : ByteArray) (x6 : List Bool) (x7 : Int) (x9 : Int) (x10 : Int) (x1000 : ByteArray) (x1001 : Bool) (x531_0 : Int) (x531_1 : Int) (x531_2 : ByteArray) (x531_3 : Bool)
  | l2 (x11 : List Int) (x100 : List Bool) (x101 : Int) (x102 : Int) (x1000 : ByteArray) (x1001 : Bool) (x531_0 : Int) (x531_1 : Int) (x531_2 : ByteArray) (x531_3 : Bool)
def impl_rexReader_set.B : impl_rexReader_set.Q → Pg impl_rexReader_set.Q (fun _ => Int × Int × ByteArray × Bool × (List S58) × ByteArray × Bool) (Int × Int × ByteArray × Bool × (List S58) × ByteArray × Bool)
  | .f s0_0 s0_1 => .opt (impl_rexReader_take.f s0_0 s0_1 94) fun t15 => (.opt (strings_IndexByte.f t15.2.1 93) fun t21 => (if t21 < 1 then (.ret (0, 0, (⟨#[]⟩ : ByteArray), false, ([] : List S58), t15.2.1, true)) else (if 0 ≤ t21 then (if t21 ≤ (t15.2.1.size : Int) then (if 0 ≤ (wrap64 (t21 + 1)) then (if (wrap64 (t21 + 1)) ≤ (t15.2.1.size : Int) then (if 256 ≤ 281474976710656 then (.to (.l0 (t15.2.1.extract 0 (t21 : Int).toNat) (List.replicate 256 false) 0 ((t15.2.1.extract ((wrap64 (t21 + 1)) : Int).toNat t15.2.1.size)) t15.2.2 3 0 (⟨#[]⟩ : ByteArray) t15.1)) else (.bad)) else (.bad)) else (.bad)) else (.bad)) else (.bad))))
  | .l0 x5 x6 x7 x1000 x1001 x531_0 x531_1 x531_2 x531_3 => if x7 < (x5.size : Int) then (if 0 ≤ x7 then (if (wrap64 (x7 + 2)) < (x5.size : Int) then (if 0 ≤ (wrap64 (x7 + 1)) then (if (wrap64 (x7 + 1)) < (x5.size : Int) then (.to (.j1 x5 x6 x7 (wrap64 (bt x5 x7)) (wrap64 (bt x5 x7)) (((bt x5 (wrap64 (x7 + 1))) == 45)) x1000 x1001 x531_0 x531_1 x531_2 x531_3)) else (.bad)) else (.bad)) else (.to (.j1 x5 x6 x7 (wrap64 (bt x5 x7)) (wrap64 (bt x5 x7)) false x1000 x1001 x531_0 x531_1 x531_2 x531_3))) else (.bad)) else (.to (.l2 ([] : List Int) x6 (x6.length : Int) 0 x1000 x1001 x531_0 x531_1 x531_2 x531_3))
  | .j2 x5 x6 x7 x8 x9 x1000 x1001 x531_0 x531_1 x531_2 x531_3 => .to (.l1 x5 x6 x7 x9 x8 x1000 x1001 x531_0 x531_1 x531_2 x531_3)
  | .j1 x5 x6 x7 x8 x9 x70 x1000 x1001 x531_0 x531_1 x531_2 x531_3 => if x70 = true then (if 0 ≤ (wrap64 (x7 + 2)) then (if (wrap64 (x7 + 2)) < (x5.size : Int) then (if x1001 = true then (.to (.j2 x5 x6 (wrap64 (x7 + 2)) x8 ((wrap64 (bt x5 (wrap64 (x7 + 2))))) x1000 true x531_0 x531_1 x531_2 x531_3)) else (.to (.j2 x5 x6 (wrap64 (x7 + 2)) x8 ((wrap64 (bt x5 (wrap64 (x7 + 2))))) x1000 ((decide ((wrap64 (bt x5 (wrap64 (x7 + 2)))) < x8))) x531_0 x531_1 x531_2 x531_3))) else (.bad)) else (.bad)) else (.to (.j2 x5 x6 x7 x8 x9 x1000 x1001 x531_0 x531_1 x531_2 x531_3))
  | .l1 x5 x6 x7 x9 x10 x1000 x1001 x531_0 x531_1 x531_2 x531_3 => if x10 ≤ x9 then (if 0 ≤ x10 then (if x10 < (x6.length : Int) then (.to (.l1 x5 (x6.set (x10 : Int).toNat true) x7 x9 (wrap64 (x10 + 1)) x1000 x1001 x531_0 x531_1 x531_2 x531_3)) else (.bad)) else (.bad)) else (.to (.l0 x5 x6 (wrap64 (x7 + 1)) x1000 x1001 x531_0 x531_1 x531_2 x531_3))
  | .l2 x11 x100 x101 x102 x1000 x1001 x531_0 x531_1 x531_2 x531_3 => if x102 < x101 then (if 0 ≤ x102 then (if x102 < (x100.length : Int) then (if (rdOf false x100 x102) = true then (if x11.length < 140737488355328 then (.to (.l2 ((x11 ++ [((x102) % 256)])) x100 x101 (wrap64 (x102 + 1)) x1000 x1001 x531_0 x531_1 x531_2 x531_3)) else (.bad)) else (.to (.l2 x11 x100 x101 (wrap64 (x102 + 1)) x1000 x1001 x531_0 x531_1 x531_2 x531_3))) else (.bad)) else (.bad)) else (.ret (x531_0, x531_1, (strOfNums x11), x531_3, ([] : List S58), x1000, x1001))
def impl_rexReader_set.fv (s0_0 : ByteArray) (s0_1 : Bool) : Option (Int × Int × ByteArray × Bool × (List S58) × ByteArray × Bool) := lim impl_rexReader_set.B (.f s0_0 s0_1)
def impl_rexReader_set.l0v (x5 : ByteArray) (x6 : List Bool) (x7 : Int) (x1000 : ByteArray) (x1001 : Bool) (x531_0 : Int) (x531_1 : Int) (x531_2 : ByteArray) (x531_3 : Bool) : Option (Int × Int × ByteArray × Bool × (List S58) × ByteArray × Bool) := lim impl_rexReader_set.B (.l0 x5 x6 x7 x1000 x1001 x531_0 x531_1 x531_2 x531_3)
def impl_rexReader_set.j2v (x5 : ByteArray) (x6 : List Bool) (x7 : Int) (x8 : Int) (x9 : Int) (x1000 : ByteArray) (x1001 : Bool) (x531_0 : Int) (x531_1 : Int) (x531_2 : ByteArray) (x531_3 : Bool) : Option (Int × Int × ByteArray × Bool × (List S58) × ByteArray × Bool) := lim impl_rexReader_set.B (.j2 x5 x6 x7 x8 x9 x1000 x1001 x531_0 x531_1 x531_2 x531_3)
def impl_rexReader_set.j1v (x5 : ByteArray) (x6 : List Bool) (x7 : Int) (x8 : Int) (x9 : Int) (x70 : Bool) (x1000 : ByteArray) (x1001 : Bool) (x531_0 : Int) (x531_1 : Int) (x531_2 : ByteArray) (x531_3 : Bool) : Option (Int × Int × ByteArray × Bool × (List S58) × ByteArray × Bool) := lim impl_rexReader_set.B (.j1 x5 x6 x7 x8 x9 x70 x1000 x1001 x531_0 x531_1 x531_2 x531_3)
def impl_rexReader_set.l1v (x5 : ByteArray) (x6 : List Bool) (x7 : Int) (x9 : Int) (x10 : Int) (x1000 : ByteArray) (x1001 : Bool) (x531_0 : Int) (x531_1 : Int) (x531_2 : ByteArray) (x531_3 : Bool) : Option (Int × Int × ByteArray × Bool × (List S58) × ByteArray × Bool) := lim impl_rexReader_set.B (.l1 x5 x6 x7 x9 x10 x1000 x1001 x531_0 x531_1 x531_2 x531_3)
def impl_rexReader_set.l2v (x11 : List Int) (x100 : List Bool) (x101 : Int) (x102 : Int) (x1000 : ByteArray) (x1001 : Bool) (x531_0 : Int) (x531_1 : Int) (x531_2 : ByteArray) (x531_3 : Bool) : Option (Int × Int × ByteArray × Bool × (List S58) × ByteArray × Bool) := lim impl_rexReader_set.B (.l2 x11 x100 x101 x102 x1000 x1001 x531_0 x531_1 x531_2 x531_3)
theorem impl_rexReader_set.fv_eq (s0_0 : ByteArray) (s0_1 : Bool) : impl_rexReader_set.fv s0_0 s0_1 = ((impl_rexReader_take.f s0_0 s0_1 94).bind fun t15 => ((strings_IndexByte.f t15.2.1 93).bind fun t21 => (if t21 < 1 then (some (0, 0, (⟨#[]⟩ : ByteArray), false, ([] : List S58), t15.2.1, true)) else (if 0 ≤ t21 then (if t21 ≤ (t15.2.1.size : Int) then (if 0 ≤ (wrap64 (t21 + 1)) then (if (wrap64 (t21 + 1)) ≤ (t15.2.1.size : Int) then (if 256 ≤ 281474976710656 then (impl_rexReader_set.l0v (t15.2.1.extract 0 (t21 : Int).toNat) (List.replicate 256 false) 0 ((t15.2.1.extract ((wrap64 (t21 + 1)) : Int).toNat t15.2.1.size)) t15.2.2 3 0 (⟨#[]⟩ : ByteArray) t15.1) else (none)) else (none)) else (none)) else (none)) else (none))))) := by
  show lim impl_rexReader_set.B (.f s0_0 s0_1) = _
  rw [lim_eq, impl_rexReader_set.B]
  simp only [ev_ite, ev_opt, ev_ask, ev_to, ev_ret, ev_bad]
  try rfl
theorem impl_rexReader_set.l0v_eq (x5 : ByteArray) (x6 : List Bool) (x7 : Int) (x1000 : ByteArray) (x1001 : Bool) (x531_0 : Int) (x531_1 : Int) (x531_2 : ByteArray) (x531_3 : Bool) : impl_rexReader_set.l0v x5 x6 x7 x1000 x1001 x531_0 x531_1 x531_2 x531_3 = (if x7 < (x5.size : Int) then (if 0 ≤ x7 then (if (wrap64 (x7 + 2)) < (x5.size : Int) then (if 0 ≤ (wrap64 (x7 + 1)) then (if (wrap64 (x7 + 1)) < (x5.size : Int) then (impl_rexReader_set.j1v x5 x6 x7 (wrap64 (bt x5 x7)) (wrap64 (bt x5 x7)) (((bt x5 (wrap64 (x7 + 1))) == 45)) x1000 x1001 x531_0 x531_1 x531_2 x531_3) else (none)) else (none)) else (impl_rexReader_set.j1v x5 x6 x7 (wrap64 (bt x5 x7)) (wrap64 (bt x5 x7)) false x1000 x1001 x531_0 x531_1 x531_2 x531_3)) else (none)) else (impl_rexReader_set.l2v ([] : List Int) x6 (x6.length : Int) 0 x1000 x1001 x531_0 x531_1 x531_2 x531_3)) := by
  show lim impl_rexReader_set.B (.l0 x5 x6 x7 x1000 x1001 x531_0 x531_1 x531_2 x531_3) = _
  rw [lim_eq, impl_rexReader_set.B]
  simp only [ev_ite, ev_opt, ev_ask, ev_to, ev_ret, ev_bad]
  try rfl
theorem impl_rexReader_set.j2v_eq (x5 : ByteArray) (x6 : List Bool) (x7 : Int) (x8 : Int) (x9 : Int) (x1000 : ByteArray) (x1001 : Bool) (x531_0 : Int) (x531_1 : Int) (x531_2 : ByteArray) (x531_3 : Bool) : impl_rexReader_set.j2v x5 x6 x7 x8 x9 x1000 x1001 x531_0 x531_1 x531_2 x531_3 = (impl_rexReader_set.l1v x5 x6 x7 x9 x8 x1000 x1001 x531_0 x531_1 x531_2 x531_3) := by
  show lim impl_rexReader_set.B (.j2 x5 x6 x7 x8 x9 x1000 x1001 x531_0 x531_1 x531_2 x531_3) = _
  rw [lim_eq, impl_rexReader_set.B]
  simp only [ev_ite, ev_opt, ev_ask, ev_to, ev_ret, ev_bad]
  try rfl
theorem impl_rexReader_set.j1v_eq (x5 : ByteArray) (x6 : List Bool) (x7 : Int) (x8 : Int) (x9 : Int) (x70 : Bool) (x1000 : ByteArray) (x1001 : Bool) (x531_0 : Int) (x531_1 : Int) (x531_2 : ByteArray) (x531_3 : Bool) : impl_rexReader_set.j1v x5 x6 x7 x8 x9 x70 x1000 x1001 x531_0 x531_1 x531_2 x531_3 = (if x70 = true then (if 0 ≤ (wrap64 (x7 + 2)) then (if (wrap64 (x7 + 2)) < (x5.size : Int) then (if x1001 = true then (impl_rexReader_set.j2v x5 x6 (wrap64 (x7 + 2)) x8 ((wrap64 (bt x5 (wrap64 (x7 + 2))))) x1000 true x531_0 x531_1 x531_2 x531_3) else (impl_rexReader_set.j2v x5 x6 (wrap64 (x7 + 2)) x8 ((wrap64 (bt x5 (wrap64 (x7 + 2))))) x1000 ((decide ((wrap64 (bt x5 (wrap64 (x7 + 2)))) < x8))) x531_0 x531_1 x531_2 x531_3)) else (none)) else (none)) else (impl_rexReader_set.j2v x5 x6 x7 x8 x9 x1000 x1001 x531_0 x531_1 x531_2 x531_3)) := by
  show lim impl_rexReader_set.B (.j1 x5 x6 x7 x8 x9 x70 x1000 x1001 x531_0 x531_1 x531_2 x531_3) = _
  rw [lim_eq, impl_rexReader_set.B]
  simp only [ev_ite, ev_opt, ev_ask, ev_to, ev_ret, ev_bad]
  try rfl
theorem impl_rexReader_set.l1v_eq (x5 : ByteArray) (x6 : List Bool) (x7 : Int) (x9 : Int) (x10 : Int) (x1000 : ByteArray) (x1001 : Bool) (x531_0 : Int) (x531_1 : Int) (x531_2 : ByteArray) (x531_3 : Bool) : impl_rexReader_set.l1v x5 x6 x7 x9 x10 x1000 x1001 x531_0 x531_1 x531_2 x531_3 = (if x10 ≤ x9 then (if 0 ≤ x10 then (if x10 < (x6.length : Int) then (impl_rexReader_set.l1v x5 (x6.set (x10 : Int).toNat true) x7 x9 (wrap64 (x10 + 1)) x1000 x1001 x531_0 x531_1 x531_2 x531_3) else (none)) else (none)) else (impl_rexReader_set.l0v x5 x6 (wrap64 (x7 + 1)) x1000 x1001 x531_0 x531_1 x531_2 x531_3)) := by
  show lim impl_rexReader_set.B (.l1 x5 x6 x7 x9 x10 x1000 x1001 x531_0 x531_1 x531_2 x531_3) = _
  rw [lim_eq, impl_rexReader_set.B]
  simp only [ev_ite, ev_opt, ev_ask, ev_to, ev_ret, ev_bad]
  try rfl
theorem impl_rexReader_set.l2v_eq (x11 : List Int) (x100 : List Bool) (x101 : Int) (x102 : Int) (x1000 : ByteArray) (x1001 : Bool) (x531_0 : Int) (x531_1 : Int) (x531_2 : ByteArray) (x531_3 : Bool) : impl_rexReader_set.l2v x11 x100 x101 x102 x1000 x1001 x531_0 x531_1 x531_2 x531_3 = (if x102 < x101 then (if 0 ≤ x102 then (if x102 < (x100.length : Int) then (if (rdOf false x100 x102) = true then (if x11.length < 140737488355328 then (impl_rexReader_set.l2v ((x11 ++ [((x102) % 256)])) x100 x101 (wrap64 (x102 + 1)) x1000 x1001 x531_0 x531_1 x531_2 x531_3) else (none)) else (impl_rexReader_set.l2v x11 x100 x101 (wrap64 (x102 + 1)) x1000 x1001 x531_0 x531_1 x531_2 x531_3)) else (none)) else (none)) else (some (x531_0, x531_1, (strOfNums x11), x531_3, ([] : List S58), x1000, x1001))) := by
  show lim impl_rexReader_set.B (.l2 x11 x100 x101 x102 x1000 x1001 x531_0 x531_1 x531_2 x531_3) = _
  rw [lim_eq, impl_rexReader_set.B]
  simp only [ev_ite, ev_opt, ev_ask, ev_to, ev_ret, ev_bad]
  try rfl
def impl_repeatOf.f (a0 : Int) : Option (Int) := if a0 = 42 then (some 8) else (if a0 = 43 then (some 9) else (if a0 = 63 then (some 10) else (some 0)))
inductive impl_rexReader_pattern.Q where
  | impl_rexReader_pattern_f (s0_0 : ByteArray) (s0_1 : Bool)
  | impl_rexReader_pattern_l0 (x3 : List S58) (x1000 : ByteArray) (x1001 : Bool)
  | impl_rexReader_part_f (s0_0 : ByteArray) (s0_1 : Bool)
  | impl_rexReader_part_j1 (x3 : List S58) (x1000 : ByteArray) (x1001 : Bool)
  | impl_rexReader_part_l0 (x3 : List S58) (x1000 : ByteArray) (x1001 : Bool)
  | impl_rexReader_piece_f (s0_0 : ByteArray) (s0_1 : Bool)
  | impl_rexReader_piece_l0 (x1000 : ByteArray) (x1001 : Bool) (x530_0 : Int) (x530_1 : Int) (x530_2 : ByteArray) (x530_3 : Bool) (x530_4 : List S58)
  | impl_rexReader_atom_f (s0_0 : ByteArray) (s0_1 : Bool)
def impl_rexReader_pattern.B : impl_rexReader_pattern.Q → Pg impl_rexReader_pattern.Q (fun _ => Int × Int × ByteArray × Bool × (List S58) × ByteArray × Bool) (Int × Int × ByteArray × Bool × (List S58) × ByteArray × Bool)
  | .impl_rexReader_pattern_f s0_0 s0_1 => .ask (.impl_rexReader_part_f s0_0 s0_1) fun (t5 : Int × Int × ByteArray × Bool × (List S58) × ByteArray × Bool) => (.to (.impl_rexReader_pattern_l0 ([(⟨t5.1, t5.2.1, t5.2.2.1, t5.2.2.2.1, t5.2.2.2.2.1⟩ : S58)] : List S58) t5.2.2.2.2.2.1 t5.2.2.2.2.2.2))
  | .impl_rexReader_pattern_l0 x3 x1000 x1001 => .opt (impl_rexReader_take.f x1000 x1001 124) fun t8 => (if t8.1 = true then (.ask (.impl_rexReader_part_f t8.2.1 t8.2.2) fun (t11 : Int × Int × ByteArray × Bool × (List S58) × ByteArray × Bool) => (if x3.length < 2199023255552 then (.to (.impl_rexReader_pattern_l0 (x3 ++ [(⟨t11.1, t11.2.1, t11.2.2.1, t11.2.2.2.1, t11.2.2.2.2.1⟩ : S58)]) t11.2.2.2.2.2.1 t11.2.2.2.2.2.2)) else (.bad))) else (if (x3.length : Int) = 1 then (if 0 < (x3.length : Int) then (.ret ((rd_T58 x3 0).f0, (rd_T58 x3 0).f1, (rd_T58 x3 0).f2, (rd_T58 x3 0).f3, (rd_T58 x3 0).f4, t8.2.1, t8.2.2)) else (.bad)) else (.ret (7, 0, (⟨#[]⟩ : ByteArray), false, x3, t8.2.1, t8.2.2))))
  | .impl_rexReader_part_f s0_0 s0_1 => .to (.impl_rexReader_part_l0 ([] : List S58) s0_0 s0_1)
  | .impl_rexReader_part_j1 x3 x1000 x1001 => if (x3.length : Int) = 0 then (.ret (11, 0, (⟨#[]⟩ : ByteArray), false, ([] : List S58), x1000, x1001)) else (if (x3.length : Int) = 1 then (if 0 < (x3.length : Int) then (.ret ((rd_T58 x3 0).f0, (rd_T58 x3 0).f1, (rd_T58 x3 0).f2, (rd_T58 x3 0).f3, (rd_T58 x3 0).f4, x1000, x1001)) else (.bad)) else (.ret (6, 0, (⟨#[]⟩ : ByteArray), false, x3, x1000, x1001)))
  | .impl_rexReader_part_l0 x3 x1000 x1001 => .opt (impl_rexReader_next.f x1000 x1001) fun t9 => (if t9.2.1 = true then (if t9.1 = 124 then (.to (.impl_rexReader_part_j1 x3 t9.2.2.1 t9.2.2.2)) else (if t9.1 = 41 then (.to (.impl_rexReader_part_j1 x3 t9.2.2.1 t9.2.2.2)) else (.ask (.impl_rexReader_piece_f t9.2.2.1 t9.2.2.2) fun (t24 : Int × Int × ByteArray × Bool × (List S58) × ByteArray × Bool) => (if x3.length < 2199023255552 then (.to (.impl_rexReader_part_l0 (x3 ++ [(⟨t24.1, t24.2.1, t24.2.2.1, t24.2.2.2.1, t24.2.2.2.2.1⟩ : S58)]) t24.2.2.2.2.2.1 t24.2.2.2.2.2.2)) else (.bad))))) else (.to (.impl_rexReader_part_j1 x3 t9.2.2.1 t9.2.2.2)))
  | .impl_rexReader_piece_f s0_0 s0_1 => .ask (.impl_rexReader_atom_f s0_0 s0_1) fun (t7 : Int × Int × ByteArray × Bool × (List S58) × ByteArray × Bool) => (.to (.impl_rexReader_piece_l0 t7.2.2.2.2.2.1 t7.2.2.2.2.2.2 t7.1 t7.2.1 t7.2.2.1 t7.2.2.2.1 t7.2.2.2.2.1))
  | .impl_rexReader_piece_l0 x1000 x1001 x530_0 x530_1 x530_2 x530_3 x530_4 => .opt (impl_rexReader_next.f x1000 x1001) fun t10 => (if t10.2.1 = true then (.opt (impl_repeatOf.f t10.1) fun t17 => (if t17 = 0 then (.ret (x530_0, x530_1, x530_2, x530_3, x530_4, t10.2.2.1, t10.2.2.2)) else (if 1 ≤ (t10.2.2.1.size : Int) then (.opt (impl_repeatOf.f t10.1) fun t30 => (.to (.impl_rexReader_piece_l0 (t10.2.2.1.extract 1 t10.2.2.1.size) t10.2.2.2 t30 0 (⟨#[]⟩ : ByteArray) false ([(⟨x530_0, x530_1, x530_2, x530_3, x530_4⟩ : S58)] : List S58)))) else (.bad)))) else (.ret (x530_0, x530_1, x530_2, x530_3, x530_4, t10.2.2.1, t10.2.2.2)))
  | .impl_rexReader_atom_f s0_0 s0_1 => .opt (impl_rexReader_next.f s0_0 s0_1) fun t10 => (if 1 ≤ (t10.2.2.1.size : Int) then (if t10.1 = 40 then (.ask (.impl_rexReader_pattern_f (t10.2.2.1.extract 1 t10.2.2.1.size) t10.2.2.2) fun (t25 : Int × Int × ByteArray × Bool × (List S58) × ByteArray × Bool) => (.opt (impl_rexReader_take.f t25.2.2.2.2.2.1 t25.2.2.2.2.2.2 41) fun t27 => (if t27.1 = true then (.ret (t25.1, t25.2.1, t25.2.2.1, t25.2.2.2.1, t25.2.2.2.2.1, t27.2.1, t27.2.2)) else (.ret (t25.1, t25.2.1, t25.2.2.1, t25.2.2.2.1, t25.2.2.2.2.1, t27.2.1, true))))) else (if t10.1 = 46 then (.ret (2, 0, (⟨#[]⟩ : ByteArray), false, ([] : List S58), (t10.2.2.1.extract 1 t10.2.2.1.size), t10.2.2.2)) else (if t10.1 = 94 then (.ret (4, 0, (⟨#[]⟩ : ByteArray), false, ([] : List S58), (t10.2.2.1.extract 1 t10.2.2.1.size), t10.2.2.2)) else (if t10.1 = 36 then (.ret (5, 0, (⟨#[]⟩ : ByteArray), false, ([] : List S58), (t10.2.2.1.extract 1 t10.2.2.1.size), t10.2.2.2)) else (if t10.1 = 91 then (.opt (impl_rexReader_set.fv (t10.2.2.1.extract 1 t10.2.2.1.size) t10.2.2.2) fun t45 => (.ret (t45.1, t45.2.1, t45.2.2.1, t45.2.2.2.1, t45.2.2.2.2.1, t45.2.2.2.2.2.1, t45.2.2.2.2.2.2))) else (if t10.1 = 92 then (.opt (impl_rexReader_next.f (t10.2.2.1.extract 1 t10.2.2.1.size) t10.2.2.2) fun t50 => (if t50.2.1 = true then (if 1 ≤ (t50.2.2.1.size : Int) then (.ret (1, (wrap64 (t50.1)), (⟨#[]⟩ : ByteArray), false, ([] : List S58), (t50.2.2.1.extract 1 t50.2.2.1.size), t50.2.2.2)) else (.bad)) else (.ret (0, 0, (⟨#[]⟩ : ByteArray), false, ([] : List S58), t50.2.2.1, true)))) else (if t10.1 = 42 then (.ret (0, 0, (⟨#[]⟩ : ByteArray), false, ([] : List S58), (t10.2.2.1.extract 1 t10.2.2.1.size), true)) else (if t10.1 = 43 then (.ret (0, 0, (⟨#[]⟩ : ByteArray), false, ([] : List S58), (t10.2.2.1.extract 1 t10.2.2.1.size), true)) else (if t10.1 = 63 then (.ret (0, 0, (⟨#[]⟩ : ByteArray), false, ([] : List S58), (t10.2.2.1.extract 1 t10.2.2.1.size), true)) else (.ret (1, (wrap64 (t10.1)), (⟨#[]⟩ : ByteArray), false, ([] : List S58), (t10.2.2.1.extract 1 t10.2.2.1.size), t10.2.2.2))))))))))) else (.bad))
def impl_rexReader_pattern.fv (s0_0 : ByteArray) (s0_1 : Bool) : Option (Int × Int × ByteArray × Bool × (List S58) × ByteArray × Bool) := lim impl_rexReader_pattern.B (.impl_rexReader_pattern_f s0_0 s0_1)
def impl_rexReader_pattern.l0v (x3 : List S58) (x1000 : ByteArray) (x1001 : Bool) : Option (Int × Int × ByteArray × Bool × (List S58) × ByteArray × Bool) := lim impl_rexReader_pattern.B (.impl_rexReader_pattern_l0 x3 x1000 x1001)
def impl_rexReader_part.fv (s0_0 : ByteArray) (s0_1 : Bool) : Option (Int × Int × ByteArray × Bool × (List S58) × ByteArray × Bool) := lim impl_rexReader_pattern.B (.impl_rexReader_part_f s0_0 s0_1)
def impl_rexReader_part.j1v (x3 : List S58) (x1000 : ByteArray) (x1001 : Bool) : Option (Int × Int × ByteArray × Bool × (List S58) × ByteArray × Bool) := lim impl_rexReader_pattern.B (.impl_rexReader_part_j1 x3 x1000 x1001)
def impl_rexReader_part.l0v (x3 : List S58) (x1000 : ByteArray) (x1001 : Bool) : Option (Int × Int × ByteArray × Bool × (List S58) × ByteArray × Bool) := lim impl_rexReader_pattern.B (.impl_rexReader_part_l0 x3 x1000 x1001)
def impl_rexReader_piece.fv (s0_0 : ByteArray) (s0_1 : Bool) : Option (Int × Int × ByteArray × Bool × (List S58) × ByteArray × Bool) := lim impl_rexReader_pattern.B (.impl_rexReader_piece_f s0_0 s0_1)
def impl_rexReader_piece.l0v (x1000 : ByteArray) (x1001 : Bool) (x530_0 : Int) (x530_1 : Int) (x530_2 : ByteArray) (x530_3 : Bool) (x530_4 : List S58) : Option (Int × Int × ByteArray × Bool × (List S58) × ByteArray × Bool) := lim impl_rexReader_pattern.B (.impl_rexReader_piece_l0 x1000 x1001 x530_0 x530_1 x530_2 x530_3 x530_4)
def impl_rexReader_atom.fv (s0_0 : ByteArray) (s0_1 : Bool) : Option (Int × Int × ByteArray × Bool × (List S58) × ByteArray × Bool) := lim impl_rexReader_pattern.B (.impl_rexReader_atom_f s0_0 s0_1)
theorem impl_rexReader_pattern.fv_eq (s0_0 : ByteArray) (s0_1 : Bool) : impl_rexReader_pattern.fv s0_0 s0_1 = ((impl_rexReader_part.fv s0_0 s0_1).bind fun t5 => (impl_rexReader_pattern.l0v ([(⟨t5.1, t5.2.1, t5.2.2.1, t5.2.2.2.1, t5.2.2.2.2.1⟩ : S58)] : List S58) t5.2.2.2.2.2.1 t5.2.2.2.2.2.2)) := by
  show lim impl_rexReader_pattern.B (.impl_rexReader_pattern_f s0_0 s0_1) = _
  rw [lim_eq, impl_rexReader_pattern.B]
  simp only [ev_ite, ev_opt, ev_ask, ev_to, ev_ret, ev_bad]
  try rfl
theorem impl_rexReader_pattern.l0v_eq (x3 : List S58) (x1000 : ByteArray) (x1001 : Bool) : impl_rexReader_pattern.l0v x3 x1000 x1001 = ((impl_rexReader_take.f x1000 x1001 124).bind fun t8 => (if t8.1 = true then ((impl_rexReader_part.fv t8.2.1 t8.2.2).bind fun t11 => (if x3.length < 2199023255552 then (impl_rexReader_pattern.l0v (x3 ++ [(⟨t11.1, t11.2.1, t11.2.2.1, t11.2.2.2.1, t11.2.2.2.2.1⟩ : S58)]) t11.2.2.2.2.2.1 t11.2.2.2.2.2.2) else (none))) else (if (x3.length : Int) = 1 then (if 0 < (x3.length : Int) then (some ((rd_T58 x3 0).f0, (rd_T58 x3 0).f1, (rd_T58 x3 0).f2, (rd_T58 x3 0).f3, (rd_T58 x3 0).f4, t8.2.1, t8.2.2)) else (none)) else (some (7, 0, (⟨#[]⟩ : ByteArray), false, x3, t8.2.1, t8.2.2))))) := by
  show lim impl_rexReader_pattern.B (.impl_rexReader_pattern_l0 x3 x1000 x1001) = _
  rw [lim_eq, impl_rexReader_pattern.B]
  simp only [ev_ite, ev_opt, ev_ask, ev_to, ev_ret, ev_bad]
  try rfl
theorem impl_rexReader_part.fv_eq (s0_0 : ByteArray) (s0_1 : Bool) : impl_rexReader_part.fv s0_0 s0_1 = (impl_rexReader_part.l0v ([] : List S58) s0_0 s0_1) := by
  show lim impl_rexReader_pattern.B (.impl_rexReader_part_f s0_0 s0_1) = _
  rw [lim_eq, impl_rexReader_pattern.B]
  simp only [ev_ite, ev_opt, ev_ask, ev_to, ev_ret, ev_bad]
  try rfl
theorem impl_rexReader_part.j1v_eq (x3 : List S58) (x1000 : ByteArray) (x1001 : Bool) : impl_rexReader_part.j1v x3 x1000 x1001 = (if (x3.length : Int) = 0 then (some (11, 0, (⟨#[]⟩ : ByteArray), false, ([] : List S58), x1000, x1001)) else (if (x3.length : Int) = 1 then (if 0 < (x3.length : Int) then (some ((rd_T58 x3 0).f0, (rd_T58 x3 0).f1, (rd_T58 x3 0).f2, (rd_T58 x3 0).f3, (rd_T58 x3 0).f4, x1000, x1001)) else (none)) else (some (6, 0, (⟨#[]⟩ : ByteArray), false, x3, x1000, x1001)))) := by
  show lim impl_rexReader_pattern.B (.impl_rexReader_part_j1 x3 x1000 x1001) = _
  rw [lim_eq, impl_rexReader_pattern.B]
  simp only [ev_ite, ev_opt, ev_ask, ev_to, ev_ret, ev_bad]
  try rfl
theorem impl_rexReader_part.l0v_eq (x3 : List S58) (x1000 : ByteArray) (x1001 : Bool) : impl_rexReader_part.l0v x3 x1000 x1001 = ((impl_rexReader_next.f x1000 x1001).bind fun t9 => (if t9.2.1 = true then (if t9.1 = 124 then (impl_rexReader_part.j1v x3 t9.2.2.1 t9.2.2.2) else (if t9.1 = 41 then (impl_rexReader_part.j1v x3 t9.2.2.1 t9.2.2.2) else ((impl_rexReader_piece.fv t9.2.2.1 t9.2.2.2).bind fun t24 => (if x3.length < 2199023255552 then (impl_rexReader_part.l0v (x3 ++ [(⟨t24.1, t24.2.1, t24.2.2.1, t24.2.2.2.1, t24.2.2.2.2.1⟩ : S58)]) t24.2.2.2.2.2.1 t24.2.2.2.2.2.2) else (none))))) else (impl_rexReader_part.j1v x3 t9.2.2.1 t9.2.2.2))) := by
  show lim impl_rexReader_pattern.B (.impl_rexReader_part_l0 x3 x1000 x1001) = _
  rw [lim_eq, impl_rexReader_pattern.B]
  simp only [ev_ite, ev_opt, ev_ask, ev_to, ev_ret, ev_bad]
  try rfl
theorem impl_rexReader_piece.fv_eq (s0_0 : ByteArray) (s0_1 : Bool) : impl_rexReader_piece.fv s0_0 s0_1 = ((impl_rexReader_atom.fv s0_0 s0_1).bind fun t7 => (impl_rexReader_piece.l0v t7.2.2.2.2.2.1 t7.2.2.2.2.2.2 t7.1 t7.2.1 t7.2.2.1 t7.2.2.2.1 t7.2.2.2.2.1)) := by
  show lim impl_rexReader_pattern.B (.impl_rexReader_piece_f s0_0 s0_1) = _
  rw [lim_eq, impl_rexReader_pattern.B]
  simp only [ev_ite, ev_opt, ev_ask, ev_to, ev_ret, ev_bad]
  try rfl
theorem impl_rexReader_piece.l0v_eq (x1000 : ByteArray) (x1001 : Bool) (x530_0 : Int) (x530_1 : Int) (x530_2 : ByteArray) (x530_3 : Bool) (x530_4 : List S58) : impl_rexReader_piece.l0v x1000 x1001 x530_0 x530_1 x530_2 x530_3 x530_4 = ((impl_rexReader_next.f x1000 x1001).bind fun t10 => (if t10.2.1 = true then ((impl_repeatOf.f t10.1).bind fun t17 => (if t17 = 0 then (some (x530_0, x530_1, x530_2, x530_3, x530_4, t10.2.2.1, t10.2.2.2)) else (if 1 ≤ (t10.2.2.1.size : Int) then ((impl_repeatOf.f t10.1).bind fun t30 => (impl_rexReader_piece.l0v (t10.2.2.1.extract 1 t10.2.2.1.size) t10.2.2.2 t30 0 (⟨#[]⟩ : ByteArray) false ([(⟨x530_0, x530_1, x530_2, x530_3, x530_4⟩ : S58)] : List S58))) else (none)))) else (some (x530_0, x530_1, x530_2, x530_3, x530_4, t10.2.2.1, t10.2.2.2)))) := by
  show lim impl_rexReader_pattern.B (.impl_rexReader_piece_l0 x1000 x1001 x530_0 x530_1 x530_2 x530_3 x530_4) = _
  rw [lim_eq, impl_rexReader_pattern.B]
  simp only [ev_ite, ev_opt, ev_ask, ev_to, ev_ret, ev_bad]
  try rfl
theorem impl_rexReader_atom.fv_eq (s0_0 : ByteArray) (s0_1 : Bool) : impl_rexReader_atom.fv s0_0 s0_1 = ((impl_rexReader_next.f s0_0 s0_1).bind fun t10 => (if 1 ≤ (t10.2.2.1.size : Int) then (if t10.1 = 40 then ((impl_rexReader_pattern.fv (t10.2.2.1.extract 1 t10.2.2.1.size) t10.2.2.2).bind fun t25 => ((impl_rexReader_take.f t25.2.2.2.2.2.1 t25.2.2.2.2.2.2 41).bind fun t27 => (if t27.1 = true then (some (t25.1, t25.2.1, t25.2.2.1, t25.2.2.2.1, t25.2.2.2.2.1, t27.2.1, t27.2.2)) else (some (t25.1, t25.2.1, t25.2.2.1, t25.2.2.2.1, t25.2.2.2.2.1, t27.2.1, true))))) else (if t10.1 = 46 then (some (2, 0, (⟨#[]⟩ : ByteArray), false, ([] : List S58), (t10.2.2.1.extract 1 t10.2.2.1.size), t10.2.2.2)) else (if t10.1 = 94 then (some (4, 0, (⟨#[]⟩ : ByteArray), false, ([] : List S58), (t10.2.2.1.extract 1 t10.2.2.1.size), t10.2.2.2)) else (if t10.1 = 36 then (some (5, 0, (⟨#[]⟩ : ByteArray), false, ([] : List S58), (t10.2.2.1.extract 1 t10.2.2.1.size), t10.2.2.2)) else (if t10.1 = 91 then ((impl_rexReader_set.fv (t10.2.2.1.extract 1 t10.2.2.1.size) t10.2.2.2).bind fun t45 => (some (t45.1, t45.2.1, t45.2.2.1, t45.2.2.2.1, t45.2.2.2.2.1, t45.2.2.2.2.2.1, t45.2.2.2.2.2.2))) else (if t10.1 = 92 then ((impl_rexReader_next.f (t10.2.2.1.extract 1 t10.2.2.1.size) t10.2.2.2).bind fun t50 => (if t50.2.1 = true then (if 1 ≤ (t50.2.2.1.size : Int) then (some (1, (wrap64 (t50.1)), (⟨#[]⟩ : ByteArray), false, ([] : List S58), (t50.2.2.1.extract 1 t50.2.2.1.size), t50.2.2.2)) else (none)) else (some (0, 0, (⟨#[]⟩ : ByteArray), false, ([] : List S58), t50.2.2.1, true)))) else (if t10.1 = 42 then (some (0, 0, (⟨#[]⟩ : ByteArray), false, ([] : List S58), (t10.2.2.1.extract 1 t10.2.2.1.size), true)) else (if t10.1 = 43 then (some (0, 0, (⟨#[]⟩ : ByteArray), false, ([] : List S58), (t10.2.2.1.extract 1 t10.2.2.1.size), true)) else (if t10.1 = 63 then (some (0, 0, (⟨#[]⟩ : ByteArray), false, ([] : List S58), (t10.2.2.1.extract 1 t10.2.2.1.size), true)) else (some (1, (wrap64 (t10.1)), (⟨#[]⟩ : ByteArray), false, ([] : List S58), (t10.2.2.1.extract 1 t10.2.2.1.size), t10.2.2.2))))))))))) else (none))) := by
  show lim impl_rexReader_pattern.B (.impl_rexReader_atom_f s0_0 s0_1) = _
  rw [lim_eq, impl_rexReader_pattern.B]
  simp only [ev_ite, ev_opt, ev_ask, ev_to, ev_ret, ev_bad]
  try rfl
inductive impl_rexDeep.Q where
  | f (a0_0 : Int) (a0_1 : Int) (a0_2 : ByteArray) (a0_3 : Bool) (l0_4 : List S58)
  | l0 (x3 : Int) (x7 : List S58) (x8 : Int) (x9 : Int)
def impl_rexDeep.B : impl_rexDeep.Q → Pg impl_rexDeep.Q (fun _ => Int) (Int)
  | .f a0_0 a0_1 a0_2 a0_3 l0_4 => .to (.l0 0 l0_4 (l0_4.length : Int) 0)
  | .l0 x3 x7 x8 x9 => if x9 < x8 then (if 0 ≤ x9 then (if x9 < (x7.length : Int) then (.ask (.f ((rd_T58 x7 x9).f0) ((rd_T58 x7 x9).f1) ((rd_T58 x7 x9).f2) ((rd_T58 x7 x9).f3) ((rd_T58 x7 x9).f4)) fun (t15 : Int) => (.to (.l0 (mx x3 t15) x7 x8 (wrap64 (x9 + 1))))) else (.bad)) else (.bad)) else (.ret (wrap64 (x3 + 1)))
def impl_rexDeep.fv (a0_0 : Int) (a0_1 : Int) (a0_2 : ByteArray) (a0_3 : Bool) (l0_4 : List S58) : Option (Int) := lim impl_rexDeep.B (.f a0_0 a0_1 a0_2 a0_3 l0_4)
def impl_rexDeep.l0v (x3 : Int) (x7 : List S58) (x8 : Int) (x9 : Int) : Option (Int) := lim impl_rexDeep.B (.l0 x3 x7 x8 x9)
theorem impl_rexDeep.fv_eq (a0_0 : Int) (a0_1 : Int) (a0_2 : ByteArray) (a0_3 : Bool) (l0_4 : List S58) : impl_rexDeep.fv a0_0 a0_1 a0_2 a0_3 l0_4 = (impl_rexDeep.l0v 0 l0_4 (l0_4.length : Int) 0) := by
  show lim impl_rexDeep.B (.f a0_0 a0_1 a0_2 a0_3 l0_4) = _
  rw [lim_eq, impl_rexDeep.B]
  simp only [ev_ite, ev_opt, ev_ask, ev_to, ev_ret, ev_bad]
  try rfl
theorem impl_rexDeep.l0v_eq (x3 : Int) (x7 : List S58) (x8 : Int) (x9 : Int) : impl_rexDeep.l0v x3 x7 x8 x9 = (if x9 < x8 then (if 0 ≤ x9 then (if x9 < (x7.length : Int) then ((impl_rexDeep.fv ((rd_T58 x7 x9).f0) ((rd_T58 x7 x9).f1) ((rd_T58 x7 x9).f2) ((rd_T58 x7 x9).f3) ((rd_T58 x7 x9).f4)).bind fun t15 => (impl_rexDeep.l0v (mx x3 t15) x7 x8 (wrap64 (x9 + 1)))) else (none)) else (none)) else (some (wrap64 (x3 + 1)))) := by
  show lim impl_rexDeep.B (.l0 x3 x7 x8 x9) = _
  rw [lim_eq, impl_rexDeep.B]
  simp only [ev_ite, ev_opt, ev_ask, ev_to, ev_ret, ev_bad]
  try rfl
def impl_RexParse.fv (a0 : ByteArray) : Option (Int × Int × ByteArray × Bool × (List S58) × Bool) := if (a0.size : Int) > 60 then (some (0, 0, (⟨#[]⟩ : ByteArray), false, ([] : List S58), false)) else ((impl_rexReader_pattern.fv a0 false).bind fun t14 => (if t14.2.2.2.2.2.2 = true then (some (0, 0, (⟨#[]⟩ : ByteArray), false, ([] : List S58), false)) else (if t14.2.2.2.2.2.1.toList = ([] : List UInt8) then ((impl_rexDeep.fv t14.1 t14.2.1 t14.2.2.1 t14.2.2.2.1 t14.2.2.2.2.1).bind fun t28 => (if t28 > 12 then (some (0, 0, (⟨#[]⟩ : ByteArray), false, ([] : List S58), false)) else (some (t14.1, t14.2.1, t14.2.2.1, t14.2.2.2.1, t14.2.2.2.2.1, true)))) else (some (0, 0, (⟨#[]⟩ : ByteArray), false, ([] : List S58), false)))))
theorem impl_RexParse.fv_eq (a0 : ByteArray) : impl_RexParse.fv a0 = (if (a0.size : Int) > 60 then (some (0, 0, (⟨#[]⟩ : ByteArray), false, ([] : List S58), false)) else ((impl_rexReader_pattern.fv a0 false).bind fun t14 => (if t14.2.2.2.2.2.2 = true then (some (0, 0, (⟨#[]⟩ : ByteArray), false, ([] : List S58), false)) else (if t14.2.2.2.2.2.1.toList = ([] : List UInt8) then ((impl_rexDeep.fv t14.1 t14.2.1 t14.2.2.1 t14.2.2.2.1 t14.2.2.2.2.1).bind fun t28 => (if t28 > 12 then (some (0, 0, (⟨#[]⟩ : ByteArray), false, ([] : List S58), false)) else (some (t14.1, t14.2.1, t14.2.2.1, t14.2.2.2.1, t14.2.2.2.2.1, true)))) else (some (0, 0, (⟨#[]⟩ : ByteArray), false, ([] : List S58), false)))))) := by rw [impl_RexParse.fv]
def impl_rexFault.fv (a0_0 : Int) (a0_1 : Int) (a0_2 : ByteArray) (l0_3 : List S38) : Option (Bool) := if a0_0 = 3 then ((impl_RexParse.fv a0_2).bind fun t12 => (some (!t12.2.2.2.2.2))) else (if a0_0 = 21 then (if 1 < (l0_3.length : Int) then (some ((rd_T38 l0_3 1).f0 != 3)) else (none)) else (some false))
theorem impl_rexFault.fv_eq (a0_0 : Int) (a0_1 : Int) (a0_2 : ByteArray) (l0_3 : List S38) : impl_rexFault.fv a0_0 a0_1 a0_2 l0_3 = (if a0_0 = 3 then ((impl_RexParse.fv a0_2).bind fun t12 => (some (!t12.2.2.2.2.2))) else (if a0_0 = 21 then (if 1 < (l0_3.length : Int) then (some ((rd_T38 l0_3 1).f0 != 3)) else (none)) else (some false))) := by rw [impl_rexFault.fv]
def impl_anyNode_1_2.fv (a0_0 : Int) (a0_1 : Int) (a0_2 : ByteArray) (l0_3 : List S38) (a2_0 : Bool) : Option (Bool) := (impl_rexFault.fv a0_0 a0_1 a0_2 l0_3).bind fun t6 => (if t6 = true then (some true) else (some a2_0))
theorem impl_anyNode_1_2.fv_eq (a0_0 : Int) (a0_1 : Int) (a0_2 : ByteArray) (l0_3 : List S38) (a2_0 : Bool) : impl_anyNode_1_2.fv a0_0 a0_1 a0_2 l0_3 a2_0 = ((impl_rexFault.fv a0_0 a0_1 a0_2 l0_3).bind fun t6 => (if t6 = true then (some true) else (some a2_0))) := by rw [impl_anyNode_1_2.fv]
inductive impl_each__impl_anyNode_1_2.Q where
  | f (a0_0 : Int) (a0_1 : Int) (a0_2 : ByteArray) (l0_3 : List S38) (a1q1_0 : Bool)
  | l0 (x10 : List S38) (x11 : Int) (x12 : Int) (x2000 : Bool)
def impl_each__impl_anyNode_1_2.B : impl_each__impl_anyNode_1_2.Q → Pg impl_each__impl_anyNode_1_2.Q (fun _ => Bool) (Bool)
  | .f a0_0 a0_1 a0_2 l0_3 a1q1_0 => .opt (impl_anyNode_1_2.fv a0_0 a0_1 a0_2 l0_3 a1q1_0) fun t8 => (.to (.l0 l0_3 (l0_3.length : Int) 0 t8))
  | .l0 x10 x11 x12 x2000 => if x12 < x11 then (if 0 ≤ x12 then (if x12 < (x10.length : Int) then (.ask (.f ((rd_T38 x10 x12).f0) ((rd_T38 x10 x12).f1) ((rd_T38 x10 x12).f2) ((rd_T38 x10 x12).f3) x2000) fun (t18 : Bool) => (.to (.l0 x10 x11 (wrap64 (x12 + 1)) t18))) else (.bad)) else (.bad)) else (.ret x2000)
def impl_each__impl_anyNode_1_2.fv (a0_0 : Int) (a0_1 : Int) (a0_2 : ByteArray) (l0_3 : List S38) (a1q1_0 : Bool) : Option (Bool) := lim impl_each__impl_anyNode_1_2.B (.f a0_0 a0_1 a0_2 l0_3 a1q1_0)
def impl_each__impl_anyNode_1_2.l0v (x10 : List S38) (x11 : Int) (x12 : Int) (x2000 : Bool) : Option (Bool) := lim impl_each__impl_anyNode_1_2.B (.l0 x10 x11 x12 x2000)
theorem impl_each__impl_anyNode_1_2.fv_eq (a0_0 : Int) (a0_1 : Int) (a0_2 : ByteArray) (l0_3 : List S38) (a1q1_0 : Bool) : impl_each__impl_anyNode_1_2.fv a0_0 a0_1 a0_2 l0_3 a1q1_0 = ((impl_anyNode_1_2.fv a0_0 a0_1 a0_2 l0_3 a1q1_0).bind fun t8 => (impl_each__impl_anyNode_1_2.l0v l0_3 (l0_3.length : Int) 0 t8)) := by
  show lim impl_each__impl_anyNode_1_2.B (.f a0_0 a0_1 a0_2 l0_3 a1q1_0) = _
  rw [lim_eq, impl_each__impl_anyNode_1_2.B]
  simp only [ev_ite, ev_opt, ev_ask, ev_to, ev_ret, ev_bad]
  try rfl
theorem impl_each__impl_anyNode_1_2.l0v_eq (x10 : List S38) (x11 : Int) (x12 : Int) (x2000 : Bool) : impl_each__impl_anyNode_1_2.l0v x10 x11 x12 x2000 = (if x12 < x11 then (if 0 ≤ x12 then (if x12 < (x10.length : Int) then ((impl_each__impl_anyNode_1_2.fv ((rd_T38 x10 x12).f0) ((rd_T38 x10 x12).f1) ((rd_T38 x10 x12).f2) ((rd_T38 x10 x12).f3) x2000).bind fun t18 => (impl_each__impl_anyNode_1_2.l0v x10 x11 (wrap64 (x12 + 1)) t18)) else (none)) else (none)) else (some x2000)) := by
  show lim impl_each__impl_anyNode_1_2.B (.l0 x10 x11 x12 x2000) = _
  rw [lim_eq, impl_each__impl_anyNode_1_2.B]
  simp only [ev_ite, ev_opt, ev_ask, ev_to, ev_ret, ev_bad]
  try rfl
inductive impl_eachNode__impl_anyNode_1_2.Q where
  | f (l0 : List S40) (a1q1_0 : Bool)
  | l0 (x6 : List S40) (x7 : Int) (x8 : Int) (x2000 : Bool)
def impl_eachNode__impl_anyNode_1_2.B : impl_eachNode__impl_anyNode_1_2.Q → Pg impl_eachNode__impl_anyNode_1_2.Q (fun _ => Bool) (Bool)
  | .f l0 a1q1_0 => .to (.l0 l0 (l0.length : Int) 0 a1q1_0)
  | .l0 x6 x7 x8 x2000 => if x8 < x7 then (if 0 ≤ x8 then (if x8 < (x6.length : Int) then (.opt (impl_each__impl_anyNode_1_2.fv ((rd_T40 x6 x8).f1) ((rd_T40 x6 x8).f2) ((rd_T40 x6 x8).f3) ((rd_T40 x6 x8).f4) x2000) fun t15 => (.opt (impl_each__impl_anyNode_1_2.fv ((rd_T40 x6 x8).f5) ((rd_T40 x6 x8).f6) ((rd_T40 x6 x8).f7) ((rd_T40 x6 x8).f8) t15) fun t19 => (.to (.l0 x6 x7 (wrap64 (x8 + 1)) t19)))) else (.bad)) else (.bad)) else (.ret x2000)
def impl_eachNode__impl_anyNode_1_2.fv (l0 : List S40) (a1q1_0 : Bool) : Option (Bool) := lim impl_eachNode__impl_anyNode_1_2.B (.f l0 a1q1_0)
def impl_eachNode__impl_anyNode_1_2.l0v (x6 : List S40) (x7 : Int) (x8 : Int) (x2000 : Bool) : Option (Bool) := lim impl_eachNode__impl_anyNode_1_2.B (.l0 x6 x7 x8 x2000)
theorem impl_eachNode__impl_anyNode_1_2.fv_eq (l0 : List S40) (a1q1_0 : Bool) : impl_eachNode__impl_anyNode_1_2.fv l0 a1q1_0 = (impl_eachNode__impl_anyNode_1_2.l0v l0 (l0.length : Int) 0 a1q1_0) := by
  show lim impl_eachNode__impl_anyNode_1_2.B (.f l0 a1q1_0) = _
  rw [lim_eq, impl_eachNode__impl_anyNode_1_2.B]
  simp only [ev_ite, ev_opt, ev_ask, ev_to, ev_ret, ev_bad]
  try rfl
theorem impl_eachNode__impl_anyNode_1_2.l0v_eq (x6 : List S40) (x7 : Int) (x8 : Int) (x2000 : Bool) : impl_eachNode__impl_anyNode_1_2.l0v x6 x7 x8 x2000 = (if x8 < x7 then (if 0 ≤ x8 then (if x8 < (x6.length : Int) then ((impl_each__impl_anyNode_1_2.fv ((rd_T40 x6 x8).f1) ((rd_T40 x6 x8).f2) ((rd_T40 x6 x8).f3) ((rd_T40 x6 x8).f4) x2000).bind fun t15 => ((impl_each__impl_anyNode_1_2.fv ((rd_T40 x6 x8).f5) ((rd_T40 x6 x8).f6) ((rd_T40 x6 x8).f7) ((rd_T40 x6 x8).f8) t15).bind fun t19 => (impl_eachNode__impl_anyNode_1_2.l0v x6 x7 (wrap64 (x8 + 1)) t19))) else (none)) else (none)) else (some x2000)) := by
  show lim impl_eachNode__impl_anyNode_1_2.B (.l0 x6 x7 x8 x2000) = _
  rw [lim_eq, impl_eachNode__impl_anyNode_1_2.B]
  simp only [ev_ite, ev_opt, ev_ask, ev_to, ev_ret, ev_bad]
  try rfl
def impl_anyNode__impl_rexFault.fv (l0 : List S40) : Option (Bool) := (impl_eachNode__impl_anyNode_1_2.fv l0 false).bind fun t8 => (some t8)
theorem impl_anyNode__impl_rexFault.fv_eq (l0 : List S40) : impl_anyNode__impl_rexFault.fv l0 = ((impl_eachNode__impl_anyNode_1_2.fv l0 false).bind fun t8 => (some t8)) := by rw [impl_anyNode__impl_rexFault.fv]
inductive impl_Check.Q where
  | f (l0 : List S40)
  | j0 (x0 : List S40) (x3 : List ByteArray) (x17 : Bool) (x533_0 : List ByteArray)
def impl_Check.B : impl_Check.Q → Pg impl_Check.Q (fun _ => Int) (Int)
  | .f l0 => .opt (impl_Names.fv l0) fun t7 => (.opt (impl_Tidy.fv l0) fun t12 => (if t12 = true then (.opt (impl_beginFault.fv l0) fun t16 => (if t16 = true then (.ret 2) else (if (t7.1.length : Int) > 8 then (.to (.j0 l0 t7.1 true t7.2)) else (.to (.j0 l0 t7.1 ((decide ((t7.2.length : Int) > 8))) t7.2))))) else (.ret 1)))
  | .j0 x0 x3 x17 x533_0 => if x17 = true then (.ret 3) else (.opt (slices_ContainsFunc_string_string__impl_Check_1.fv x3 x533_0) fun t29 => (if t29 = true then (.ret 4) else (.opt (impl_anyNode__impl_Check_2.fv x0) fun t32 => (if t32 = true then (.ret 5) else (.opt (impl_anyNode__impl_rexFault.fv x0) fun t35 => (if t35 = true then (.ret 6) else (.ret 0)))))))
def impl_Check.fv (l0 : List S40) : Option (Int) := lim impl_Check.B (.f l0)
def impl_Check.j0v (x0 : List S40) (x3 : List ByteArray) (x17 : Bool) (x533_0 : List ByteArray) : Option (Int) := lim impl_Check.B (.j0 x0 x3 x17 x533_0)
theorem impl_Check.fv_eq (l0 : List S40) : impl_Check.fv l0 = ((impl_Names.fv l0).bind fun t7 => ((impl_Tidy.fv l0).bind fun t12 => (if t12 = true then ((impl_beginFault.fv l0).bind fun t16 => (if t16 = true then (some 2) else (if (t7.1.length : Int) > 8 then (impl_Check.j0v l0 t7.1 true t7.2) else (impl_Check.j0v l0 t7.1 ((decide ((t7.2.length : Int) > 8))) t7.2)))) else (some 1)))) := by
  show lim impl_Check.B (.f l0) = _
  rw [lim_eq, impl_Check.B]
  simp only [ev_ite, ev_opt, ev_ask, ev_to, ev_ret, ev_bad]
  try rfl
theorem impl_Check.j0v_eq (x0 : List S40) (x3 : List ByteArray) (x17 : Bool) (x533_0 : List ByteArray) : impl_Check.j0v x0 x3 x17 x533_0 = (if x17 = true then (some 3) else ((slices_ContainsFunc_string_string__impl_Check_1.fv x3 x533_0).bind fun t29 => (if t29 = true then (some 4) else ((impl_anyNode__impl_Check_2.fv x0).bind fun t32 => (if t32 = true then (some 5) else ((impl_anyNode__impl_rexFault.fv x0).bind fun t35 => (if t35 = true then (some 6) else (some 0)))))))) := by
  show lim impl_Check.B (.j0 x0 x3 x17 x533_0) = _
  rw [lim_eq, impl_Check.B]
  simp only [ev_ite, ev_opt, ev_ask, ev_to, ev_ret, ev_bad]
  try rfl
inductive laws_eqNode.Q where
  | laws_eqNode_f (a0_0 : Int) (a0_1 : Int) (a0_2 : ByteArray) (l0_3 : List S38) (a1_0 : Int) (a1_1 : Int) (a1_2 : ByteArray) (l1_3 : List S38)
  | laws_eqNodeS_f (l0 : List S38) (l1 : List S38)
  | laws_eqNodeS_l0 (x0 : List S38) (x1 : List S38) (x5 : Int)
def laws_eqNode.B : laws_eqNode.Q → Pg laws_eqNode.Q (fun _ => Bool) (Bool)
  | .laws_eqNode_f a0_0 a0_1 a0_2 l0_3 a1_0 a1_1 a1_2 l1_3 => if a0_0 = a1_0 then (if a0_1 = a1_1 then (if a0_2.toList = a1_2.toList then (.ask (.laws_eqNodeS_f l0_3 l1_3) fun (t24 : Bool) => (if t24 = true then (.ret true) else (.ret false))) else (.ret false)) else (.ret false)) else (.ret false)
  | .laws_eqNodeS_f l0 l1 => if (l0.length : Int) = (l1.length : Int) then (.to (.laws_eqNodeS_l0 l0 l1 0)) else (.ret false)
  | .laws_eqNodeS_l0 x0 x1 x5 => if x5 < (x0.length : Int) then (if 0 ≤ x5 then (if x5 < (x1.length : Int) then (.ask (.laws_eqNode_f ((rd_T38 x0 x5).f0) ((rd_T38 x0 x5).f1) ((rd_T38 x0 x5).f2) ((rd_T38 x0 x5).f3) ((rd_T38 x1 x5).f0) ((rd_T38 x1 x5).f1) ((rd_T38 x1 x5).f2) ((rd_T38 x1 x5).f3)) fun (t25 : Bool) => (if t25 = true then (.to (.laws_eqNodeS_l0 x0 x1 (wrap64 (x5 + 1)))) else (.ret false))) else (.bad)) else (.bad)) else (.ret true)
def laws_eqNode.fv (a0_0 : Int) (a0_1 : Int) (a0_2 : ByteArray) (l0_3 : List S38) (a1_0 : Int) (a1_1 : Int) (a1_2 : ByteArray) (l1_3 : List S38) : Option (Bool) := lim laws_eqNode.B (.laws_eqNode_f a0_0 a0_1 a0_2 l0_3 a1_0 a1_1 a1_2 l1_3)
def laws_eqNodeS.fv (l0 : List S38) (l1 : List S38) : Option (Bool) := lim laws_eqNode.B (.laws_eqNodeS_f l0 l1)
def laws_eqNodeS.l0v (x0 : List S38) (x1 : List S38) (x5 : Int) : Option (Bool) := lim laws_eqNode.B (.laws_eqNodeS_l0 x0 x1 x5)
theorem laws_eqNode.fv_eq (a0_0 : Int) (a0_1 : Int) (a0_2 : ByteArray) (l0_3 : List S38) (a1_0 : Int) (a1_1 : Int) (a1_2 : ByteArray) (l1_3 : List S38) : laws_eqNode.fv a0_0 a0_1 a0_2 l0_3 a1_0 a1_1 a1_2 l1_3 = (if a0_0 = a1_0 then (if a0_1 = a1_1 then (if a0_2.toList = a1_2.toList then ((laws_eqNodeS.fv l0_3 l1_3).bind fun t24 => (if t24 = true then (some true) else (some false))) else (some false)) else (some false)) else (some false)) := by
  show lim laws_eqNode.B (.laws_eqNode_f a0_0 a0_1 a0_2 l0_3 a1_0 a1_1 a1_2 l1_3) = _
  rw [lim_eq, laws_eqNode.B]
  simp only [ev_ite, ev_opt, ev_ask, ev_to, ev_ret, ev_bad]
  try rfl
theorem laws_eqNodeS.fv_eq (l0 : List S38) (l1 : List S38) : laws_eqNodeS.fv l0 l1 = (if (l0.length : Int) = (l1.length : Int) then (laws_eqNodeS.l0v l0 l1 0) else (some false)) := by
  show lim laws_eqNode.B (.laws_eqNodeS_f l0 l1) = _
  rw [lim_eq, laws_eqNode.B]
  simp only [ev_ite, ev_opt, ev_ask, ev_to, ev_ret, ev_bad]
  try rfl
theorem laws_eqNodeS.l0v_eq (x0 : List S38) (x1 : List S38) (x5 : Int) : laws_eqNodeS.l0v x0 x1 x5 = (if x5 < (x0.length : Int) then (if 0 ≤ x5 then (if x5 < (x1.length : Int) then ((laws_eqNode.fv ((rd_T38 x0 x5).f0) ((rd_T38 x0 x5).f1) ((rd_T38 x0 x5).f2) ((rd_T38 x0 x5).f3) ((rd_T38 x1 x5).f0) ((rd_T38 x1 x5).f1) ((rd_T38 x1 x5).f2) ((rd_T38 x1 x5).f3)).bind fun t25 => (if t25 = true then (laws_eqNodeS.l0v x0 x1 (wrap64 (x5 + 1))) else (some false))) else (none)) else (none)) else (some true)) := by
  show lim laws_eqNode.B (.laws_eqNodeS_l0 x0 x1 x5) = _
  rw [lim_eq, laws_eqNode.B]
  simp only [ev_ite, ev_opt, ev_ask, ev_to, ev_ret, ev_bad]
  try rfl
def laws_eqRule.fv (a0_0 : Int) (a0_1 : Int) (a0_2 : Int) (a0_3 : ByteArray) (l0_4 : List S38) (a0_5 : Int) (a0_6 : Int) (a0_7 : ByteArray) (l0_8 : List S38) (a1_0 : Int) (a1_1 : Int) (a1_2 : Int) (a1_3 : ByteArray) (l1_4 : List S38) (a1_5 : Int) (a1_6 : Int) (a1_7 : ByteArray) (l1_8 : List S38) : Option (Bool) := if a0_0 = a1_0 then ((laws_eqNode.fv a0_1 a0_2 a0_3 l0_4 a1_1 a1_2 a1_3 l1_4).bind fun t14 => (if t14 = true then ((laws_eqNode.fv a0_5 a0_6 a0_7 l0_8 a1_5 a1_6 a1_7 l1_8).bind fun t20 => (if t20 = true then (some true) else (some false))) else (some false))) else (some false)
theorem laws_eqRule.fv_eq (a0_0 : Int) (a0_1 : Int) (a0_2 : Int) (a0_3 : ByteArray) (l0_4 : List S38) (a0_5 : Int) (a0_6 : Int) (a0_7 : ByteArray) (l0_8 : List S38) (a1_0 : Int) (a1_1 : Int) (a1_2 : Int) (a1_3 : ByteArray) (l1_4 : List S38) (a1_5 : Int) (a1_6 : Int) (a1_7 : ByteArray) (l1_8 : List S38) : laws_eqRule.fv a0_0 a0_1 a0_2 a0_3 l0_4 a0_5 a0_6 a0_7 l0_8 a1_0 a1_1 a1_2 a1_3 l1_4 a1_5 a1_6 a1_7 l1_8 = (if a0_0 = a1_0 then ((laws_eqNode.fv a0_1 a0_2 a0_3 l0_4 a1_1 a1_2 a1_3 l1_4).bind fun t14 => (if t14 = true then ((laws_eqNode.fv a0_5 a0_6 a0_7 l0_8 a1_5 a1_6 a1_7 l1_8).bind fun t20 => (if t20 = true then (some true) else (some false))) else (some false))) else (some false)) := by rw [laws_eqRule.fv]
inductive laws_eqRuleS.Q where
  | f (l0 : List S40) (l1 : List S40)
  | l0 (x0 : List S40) (x1 : List S40) (x5 : Int)
def laws_eqRuleS.B : laws_eqRuleS.Q → Pg laws_eqRuleS.Q (fun _ => Bool) (Bool)
  | .f l0 l1 => if (l0.length : Int) = (l1.length : Int) then (.to (.l0 l0 l1 0)) else (.ret false)
  | .l0 x0 x1 x5 => if x5 < (x0.length : Int) then (if 0 ≤ x5 then (if x5 < (x1.length : Int) then (.opt (laws_eqRule.fv ((rd_T40 x0 x5).f0) ((rd_T40 x0 x5).f1) ((rd_T40 x0 x5).f2) ((rd_T40 x0 x5).f3) ((rd_T40 x0 x5).f4) ((rd_T40 x0 x5).f5) ((rd_T40 x0 x5).f6) ((rd_T40 x0 x5).f7) ((rd_T40 x0 x5).f8) ((rd_T40 x1 x5).f0) ((rd_T40 x1 x5).f1) ((rd_T40 x1 x5).f2) ((rd_T40 x1 x5).f3) ((rd_T40 x1 x5).f4) ((rd_T40 x1 x5).f5) ((rd_T40 x1 x5).f6) ((rd_T40 x1 x5).f7) ((rd_T40 x1 x5).f8)) fun t25 => (if t25 = true then (.to (.l0 x0 x1 (wrap64 (x5 + 1)))) else (.ret false))) else (.bad)) else (.bad)) else (.ret true)
def laws_eqRuleS.fv (l0 : List S40) (l1 : List S40) : Option (Bool) := lim laws_eqRuleS.B (.f l0 l1)
def laws_eqRuleS.l0v (x0 : List S40) (x1 : List S40) (x5 : Int) : Option (Bool) := lim laws_eqRuleS.B (.l0 x0 x1 x5)
theorem laws_eqRuleS.fv_eq (l0 : List S40) (l1 : List S40) : laws_eqRuleS.fv l0 l1 = (if (l0.length : Int) = (l1.length : Int) then (laws_eqRuleS.l0v l0 l1 0) else (some false)) := by
  show lim laws_eqRuleS.B (.f l0 l1) = _
  rw [lim_eq, laws_eqRuleS.B]
  simp only [ev_ite, ev_opt, ev_ask, ev_to, ev_ret, ev_bad]
  try rfl
theorem laws_eqRuleS.l0v_eq (x0 : List S40) (x1 : List S40) (x5 : Int) : laws_eqRuleS.l0v x0 x1 x5 = (if x5 < (x0.length : Int) then (if 0 ≤ x5 then (if x5 < (x1.length : Int) then ((laws_eqRule.fv ((rd_T40 x0 x5).f0) ((rd_T40 x0 x5).f1) ((rd_T40 x0 x5).f2) ((rd_T40 x0 x5).f3) ((rd_T40 x0 x5).f4) ((rd_T40 x0 x5).f5) ((rd_T40 x0 x5).f6) ((rd_T40 x0 x5).f7) ((rd_T40 x0 x5).f8) ((rd_T40 x1 x5).f0) ((rd_T40 x1 x5).f1) ((rd_T40 x1 x5).f2) ((rd_T40 x1 x5).f3) ((rd_T40 x1 x5).f4) ((rd_T40 x1 x5).f5) ((rd_T40 x1 x5).f6) ((rd_T40 x1 x5).f7) ((rd_T40 x1 x5).f8)).bind fun t25 => (if t25 = true then (laws_eqRuleS.l0v x0 x1 (wrap64 (x5 + 1))) else (some false))) else (none)) else (none)) else (some true)) := by
  show lim laws_eqRuleS.B (.l0 x0 x1 x5) = _
  rw [lim_eq, laws_eqRuleS.B]
  simp only [ev_ite, ev_opt, ev_ask, ev_to, ev_ret, ev_bad]
  try rfl
def laws_FnExactCheck.fv (l0 : List S34) : Option (Bool) := (laws_szRuleS.fv l0 1048576).bind fun t9 => (if t9 < 0 then (some true) else ((laws_toRuleS.fv l0).bind fun t13 => ((spec_Check.fv t13).bind fun t14 => ((laws_toRuleS.fv l0).bind fun t16 => ((impl_Check.fv t16).bind fun t18 => (if t18 = t14 then ((laws_toRuleS.fv l0).bind fun t24 => ((laws_eqRuleS.fv t16 t24).bind fun t25 => (if t25 = true then (some true) else (some false)))) else (some false)))))))
theorem laws_FnExactCheck.fv_eq (l0 : List S34) : laws_FnExactCheck.fv l0 = ((laws_szRuleS.fv l0 1048576).bind fun t9 => (if t9 < 0 then (some true) else ((laws_toRuleS.fv l0).bind fun t13 => ((spec_Check.fv t13).bind fun t14 => ((laws_toRuleS.fv l0).bind fun t16 => ((impl_Check.fv t16).bind fun t18 => (if t18 = t14 then ((laws_toRuleS.fv l0).bind fun t24 => ((laws_eqRuleS.fv t16 t24).bind fun t25 => (if t25 = true then (some true) else (some false)))) else (some false)))))))) := by rw [laws_FnExactCheck.fv]
inductive Wf32 : S32 → Prop
  | mk (x : S32) (h0 : (Lit.int .i64 x.f0).wf = true) (h1 : (Lit.int .i64 x.f1).wf = true) (h2 : x.f2.size ≤ maxLen) (h3 : x.f3.length ≤ maxLen) (g3 : ∀ y, y ∈ x.f3 → Wf32 y) : Wf32 x
def Wf34 (x : S34) : Prop := (Lit.int .i64 x.f0).wf = true ∧ (Lit.int .i64 x.f1).wf = true ∧ (Lit.int .i64 x.f2).wf = true ∧ x.f3.size ≤ maxLen ∧ (x.f4.length ≤ maxLen ∧ ∀ x_ ∈ x.f4, Wf32 x_) ∧ (Lit.int .i64 x.f5).wf = true ∧ (Lit.int .i64 x.f6).wf = true ∧ x.f7.size ≤ maxLen ∧ (x.f8.length ≤ maxLen ∧ ∀ x_ ∈ x.f8, Wf32 x_)
def laws_FnExactCheck.Pure : Prop := ∀ (x0 : List S34), (x0.length ≤ maxLen ∧ ∀ x_ ∈ x0, Wf34 x_) → laws_FnExactCheck.fv x0 = some true
end
end Go.Proofs.YthgglepiopijjaaGreat.QFnExactCheck
