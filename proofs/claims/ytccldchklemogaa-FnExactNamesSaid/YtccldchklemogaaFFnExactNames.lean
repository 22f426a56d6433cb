/- The functions that FnExactNames reaches, as they compute. -/
import Derived.Test.YtccldchklemogaaPg
import Derived.Test.YtccldchklemogaaMw
import Derived.Lib.Bytealg
import Derived.Lib.SlicesCompact
set_option linter.unusedVariables false
set_option linter.unusedSimpArgs false
set_option maxRecDepth 100000
namespace Go.Proofs.Ytccldchklemogaa.QFnExactNames
open Go.RowKit Go.Proofs.YtccldchklemogaaW.PrintWords Go.Proofs.YtccldchklemogaaW.Pgs
noncomputable section
structure S56 where
  f0 : Int
  f1 : Int
  f2 : ByteArray
  f3 : (List S56)
def z56 : S56 := ⟨(0 : Int), (0 : Int), (⟨#[]⟩ : ByteArray), ([] : List S56)⟩
def rd_T56 (xs : List S56) (i : Int) : S56 := xs.getD i.toNat z56
structure S58 where
  f0 : Int
  f1 : Int
  f2 : Int
  f3 : ByteArray
  f4 : (List S56)
  f5 : Int
  f6 : Int
  f7 : ByteArray
  f8 : (List S56)
def z58 : S58 := ⟨(0 : Int), (0 : Int), (0 : Int), (⟨#[]⟩ : ByteArray), ([] : List S56), (0 : Int), (0 : Int), (⟨#[]⟩ : ByteArray), ([] : List S56)⟩
def rd_T58 (xs : List S58) (i : Int) : S58 := xs.getD i.toNat z58
structure S62 where
  f0 : Int
  f1 : Int
  f2 : ByteArray
  f3 : (List S62)
def z62 : S62 := ⟨(0 : Int), (0 : Int), (⟨#[]⟩ : ByteArray), ([] : List S62)⟩
def rd_T62 (xs : List S62) (i : Int) : S62 := xs.getD i.toNat z62
structure S64 where
  f0 : Int
  f1 : Int
  f2 : Int
  f3 : ByteArray
  f4 : (List S62)
  f5 : Int
  f6 : Int
  f7 : ByteArray
  f8 : (List S62)
def z64 : S64 := ⟨(0 : Int), (0 : Int), (0 : Int), (⟨#[]⟩ : ByteArray), ([] : List S62), (0 : Int), (0 : Int), (⟨#[]⟩ : ByteArray), ([] : List S62)⟩
def rd_T64 (xs : List S64) (i : Int) : S64 := xs.getD i.toNat z64
def slices_Sort_string.f (l : List ByteArray) : Option (List ByteArray) := if l.length < 4611686018427387904 then some (((l.map fun s => s.data.toList).mergeSort fun x y => decide (x ≤ y)).map fun b => (⟨b.toArray⟩ : ByteArray)) else none
def slices_Compact_string.f (l : List ByteArray) : Option (List ByteArray) := if l.length ≤ 9223372036854775807 then some ((Lib.compact (l.map fun s => s.data.toList)).map fun b => (⟨b.toArray⟩ : ByteArray)) else none
inductive laws_szNode.Q where
  | laws_szNode_f (a0_0 : Int) (a0_1 : Int) (a0_2 : ByteArray) (l0_3 : List S56) (a1 : Int)
  | laws_szNodeS_f (l0 : List S56) (a1 : Int)
  | laws_szNodeS_l0 (x0 : List S56) (x1 : Int) (x5 : Int)
def laws_szNode.B : laws_szNode.Q → Pg laws_szNode.Q (fun _ => Int) (Int)
  | .laws_szNode_f a0_0 a0_1 a0_2 l0_3 a1 => if (wrap64 (a1 - (a0_2.size : Int))) < 0 then (.ret (-1)) else (.ask (.laws_szNodeS_f l0_3 ((wrap64 (a1 - (a0_2.size : Int))))) fun (t15 : Int) => (if t15 < 0 then (.ret (-1)) else (.ret t15)))
  | .laws_szNodeS_f l0 a1 => if (wrap64 (a1 - (l0.length : Int))) < 0 then (.ret (-1)) else (.to (.laws_szNodeS_l0 l0 ((wrap64 (a1 - (l0.length : Int)))) 0))
  | .laws_szNodeS_l0 x0 x1 x5 => if x5 < (x0.length : Int) then (if 0 ≤ x5 then (.ask (.laws_szNode_f ((rd_T56 x0 x5).f0) ((rd_T56 x0 x5).f1) ((rd_T56 x0 x5).f2) ((rd_T56 x0 x5).f3) x1) fun (t23 : Int) => (if t23 < 0 then (.ret (-1)) else (.to (.laws_szNodeS_l0 x0 t23 (wrap64 (x5 + 1)))))) else (.bad)) else (.ret x1)
def laws_szNode.fv (a0_0 : Int) (a0_1 : Int) (a0_2 : ByteArray) (l0_3 : List S56) (a1 : Int) : Option (Int) := lim laws_szNode.B (.laws_szNode_f a0_0 a0_1 a0_2 l0_3 a1)
def laws_szNodeS.fv (l0 : List S56) (a1 : Int) : Option (Int) := lim laws_szNode.B (.laws_szNodeS_f l0 a1)
def laws_szNodeS.l0v (x0 : List S56) (x1 : Int) (x5 : Int) : Option (Int) := lim laws_szNode.B (.laws_szNodeS_l0 x0 x1 x5)
theorem laws_szNode.fv_eq (a0_0 : Int) (a0_1 : Int) (a0_2 : ByteArray) (l0_3 : List S56) (a1 : Int) : laws_szNode.fv a0_0 a0_1 a0_2 l0_3 a1 = (if (wrap64 (a1 - (a0_2.size : Int))) < 0 then (some (-1)) else ((laws_szNodeS.fv l0_3 ((wrap64 (a1 - (a0_2.size : Int))))).bind fun t15 => (if t15 < 0 then (some (-1)) else (some t15)))) := by
  show lim laws_szNode.B (.laws_szNode_f a0_0 a0_1 a0_2 l0_3 a1) = _
  rw [lim_eq, laws_szNode.B]
  simp only [ev_ite, ev_opt, ev_ask, ev_to, ev_ret, ev_bad]
  try rfl
theorem laws_szNodeS.fv_eq (l0 : List S56) (a1 : Int) : laws_szNodeS.fv l0 a1 = (if (wrap64 (a1 - (l0.length : Int))) < 0 then (some (-1)) else (laws_szNodeS.l0v l0 ((wrap64 (a1 - (l0.length : Int)))) 0)) := by
  show lim laws_szNode.B (.laws_szNodeS_f l0 a1) = _
  rw [lim_eq, laws_szNode.B]
  simp only [ev_ite, ev_opt, ev_ask, ev_to, ev_ret, ev_bad]
  try rfl
theorem laws_szNodeS.l0v_eq (x0 : List S56) (x1 : Int) (x5 : Int) : laws_szNodeS.l0v x0 x1 x5 = (if x5 < (x0.length : Int) then (if 0 ≤ x5 then ((laws_szNode.fv ((rd_T56 x0 x5).f0) ((rd_T56 x0 x5).f1) ((rd_T56 x0 x5).f2) ((rd_T56 x0 x5).f3) x1).bind fun t23 => (if t23 < 0 then (some (-1)) else (laws_szNodeS.l0v x0 t23 (wrap64 (x5 + 1))))) else (none)) else (some x1)) := by
  show lim laws_szNode.B (.laws_szNodeS_l0 x0 x1 x5) = _
  rw [lim_eq, laws_szNode.B]
  simp only [ev_ite, ev_opt, ev_ask, ev_to, ev_ret, ev_bad]
  try rfl
def laws_szRule.fv (a0_0 : Int) (a0_1 : Int) (a0_2 : Int) (a0_3 : ByteArray) (l0_4 : List S56) (a0_5 : Int) (a0_6 : Int) (a0_7 : ByteArray) (l0_8 : List S56) (a1 : Int) : Option (Int) := (laws_szNode.fv a0_1 a0_2 a0_3 l0_4 a1).bind fun t8 => (if t8 < 0 then (some (-1)) else ((laws_szNode.fv a0_5 a0_6 a0_7 l0_8 t8).bind fun t14 => (if t14 < 0 then (some (-1)) else (some t14))))
theorem laws_szRule.fv_eq (a0_0 : Int) (a0_1 : Int) (a0_2 : Int) (a0_3 : ByteArray) (l0_4 : List S56) (a0_5 : Int) (a0_6 : Int) (a0_7 : ByteArray) (l0_8 : List S56) (a1 : Int) : laws_szRule.fv a0_0 a0_1 a0_2 a0_3 l0_4 a0_5 a0_6 a0_7 l0_8 a1 = ((laws_szNode.fv a0_1 a0_2 a0_3 l0_4 a1).bind fun t8 => (if t8 < 0 then (some (-1)) else ((laws_szNode.fv a0_5 a0_6 a0_7 l0_8 t8).bind fun t14 => (if t14 < 0 then (some (-1)) else (some t14))))) := by rw [laws_szRule.fv]
inductive laws_szRuleS.Q where
  | f (l0 : List S58) (a1 : Int)
  | l0 (x0 : List S58) (x1 : Int) (x5 : Int)
def laws_szRuleS.B : laws_szRuleS.Q → Pg laws_szRuleS.Q (fun _ => Int) (Int)
  | .f l0 a1 => if (wrap64 (a1 - (l0.length : Int))) < 0 then (.ret (-1)) else (.to (.l0 l0 ((wrap64 (a1 - (l0.length : Int)))) 0))
  | .l0 x0 x1 x5 => if x5 < (x0.length : Int) then (if 0 ≤ x5 then (.opt (laws_szRule.fv ((rd_T58 x0 x5).f0) ((rd_T58 x0 x5).f1) ((rd_T58 x0 x5).f2) ((rd_T58 x0 x5).f3) ((rd_T58 x0 x5).f4) ((rd_T58 x0 x5).f5) ((rd_T58 x0 x5).f6) ((rd_T58 x0 x5).f7) ((rd_T58 x0 x5).f8) x1) fun t23 => (if t23 < 0 then (.ret (-1)) else (.to (.l0 x0 t23 (wrap64 (x5 + 1)))))) else (.bad)) else (.ret x1)
def laws_szRuleS.fv (l0 : List S58) (a1 : Int) : Option (Int) := lim laws_szRuleS.B (.f l0 a1)
def laws_szRuleS.l0v (x0 : List S58) (x1 : Int) (x5 : Int) : Option (Int) := lim laws_szRuleS.B (.l0 x0 x1 x5)
theorem laws_szRuleS.fv_eq (l0 : List S58) (a1 : Int) : laws_szRuleS.fv l0 a1 = (if (wrap64 (a1 - (l0.length : Int))) < 0 then (some (-1)) else (laws_szRuleS.l0v l0 ((wrap64 (a1 - (l0.length : Int)))) 0)) := by
  show lim laws_szRuleS.B (.f l0 a1) = _
  rw [lim_eq, laws_szRuleS.B]
  simp only [ev_ite, ev_opt, ev_ask, ev_to, ev_ret, ev_bad]
  try rfl
theorem laws_szRuleS.l0v_eq (x0 : List S58) (x1 : Int) (x5 : Int) : laws_szRuleS.l0v x0 x1 x5 = (if x5 < (x0.length : Int) then (if 0 ≤ x5 then ((laws_szRule.fv ((rd_T58 x0 x5).f0) ((rd_T58 x0 x5).f1) ((rd_T58 x0 x5).f2) ((rd_T58 x0 x5).f3) ((rd_T58 x0 x5).f4) ((rd_T58 x0 x5).f5) ((rd_T58 x0 x5).f6) ((rd_T58 x0 x5).f7) ((rd_T58 x0 x5).f8) x1).bind fun t23 => (if t23 < 0 then (some (-1)) else (laws_szRuleS.l0v x0 t23 (wrap64 (x5 + 1))))) else (none)) else (some x1)) := by
  show lim laws_szRuleS.B (.l0 x0 x1 x5) = _
  rw [lim_eq, laws_szRuleS.B]
  simp only [ev_ite, ev_opt, ev_ask, ev_to, ev_ret, ev_bad]
  try rfl
inductive laws_toNode.Q where
  | laws_toNode_f (a0_0 : Int) (a0_1 : Int) (a0_2 : ByteArray) (l0_3 : List S56)
  | laws_toNodeS_f (l0 : List S56)
  | laws_toNodeS_l0 (x0 : List S56) (x3 : List S62) (x4 : Int)
abbrev laws_toNode.A : laws_toNode.Q → Type
  | .laws_toNode_f _ _ _ _ => Int × Int × ByteArray × (List S62)
  | .laws_toNodeS_f _ => (List S62)
  | .laws_toNodeS_l0 _ _ _ => (List S62)
def laws_toNode.B : (q : laws_toNode.Q) → Pg laws_toNode.Q laws_toNode.A (laws_toNode.A q)
  | .laws_toNode_f a0_0 a0_1 a0_2 l0_3 => .ask (laws_toNode.Q.laws_toNodeS_f l0_3) fun (t15 : (List S62)) => (.ret ((a0_0, a0_1, a0_2, t15) : Int × Int × ByteArray × (List S62)))
  | .laws_toNodeS_f l0 => if 0 ≤ (l0.length : Int) then (if ((l0.length : Int) : Int).toNat ≤ 5026338869833 then (.to (laws_toNode.Q.laws_toNodeS_l0 l0 ((List.replicate ((l0.length : Int) : Int).toNat z62)) 0)) else (.bad)) else (.bad)
  | .laws_toNodeS_l0 x0 x3 x4 => if x4 < (x0.length : Int) then (if 0 ≤ x4 then (.ask (laws_toNode.Q.laws_toNode_f ((rd_T56 x0 x4).f0) ((rd_T56 x0 x4).f1) ((rd_T56 x0 x4).f2) ((rd_T56 x0 x4).f3)) fun (t20 : Int × Int × ByteArray × (List S62)) => (if x4 < (x3.length : Int) then (.to (laws_toNode.Q.laws_toNodeS_l0 x0 (x3.set (x4 : Int).toNat (⟨t20.1, t20.2.1, t20.2.2.1, t20.2.2.2⟩ : S62)) (wrap64 (x4 + 1)))) else (.bad))) else (.bad)) else (.ret (x3 : (List S62)))
def laws_toNode.fv (a0_0 : Int) (a0_1 : Int) (a0_2 : ByteArray) (l0_3 : List S56) : Option (Int × Int × ByteArray × (List S62)) := lim laws_toNode.B (.laws_toNode_f a0_0 a0_1 a0_2 l0_3)
def laws_toNodeS.fv (l0 : List S56) : Option ((List S62)) := lim laws_toNode.B (.laws_toNodeS_f l0)
def laws_toNodeS.l0v (x0 : List S56) (x3 : List S62) (x4 : Int) : Option ((List S62)) := lim laws_toNode.B (.laws_toNodeS_l0 x0 x3 x4)
theorem laws_toNode.fv_eq (a0_0 : Int) (a0_1 : Int) (a0_2 : ByteArray) (l0_3 : List S56) : laws_toNode.fv a0_0 a0_1 a0_2 l0_3 = ((laws_toNodeS.fv l0_3).bind fun t15 => (some (a0_0, a0_1, a0_2, t15))) := by
  show lim laws_toNode.B (.laws_toNode_f a0_0 a0_1 a0_2 l0_3) = _
  rw [lim_eq, laws_toNode.B]
  simp only [ev_ite, ev_opt, ev_ask, ev_to, ev_ret, ev_bad]
  try rfl
theorem laws_toNodeS.fv_eq (l0 : List S56) : laws_toNodeS.fv l0 = (if 0 ≤ (l0.length : Int) then (if ((l0.length : Int) : Int).toNat ≤ 5026338869833 then (laws_toNodeS.l0v l0 ((List.replicate ((l0.length : Int) : Int).toNat z62)) 0) else (none)) else (none)) := by
  show lim laws_toNode.B (.laws_toNodeS_f l0) = _
  rw [lim_eq, laws_toNode.B]
  simp only [ev_ite, ev_opt, ev_ask, ev_to, ev_ret, ev_bad]
  try rfl
theorem laws_toNodeS.l0v_eq (x0 : List S56) (x3 : List S62) (x4 : Int) : laws_toNodeS.l0v x0 x3 x4 = (if x4 < (x0.length : Int) then (if 0 ≤ x4 then ((laws_toNode.fv ((rd_T56 x0 x4).f0) ((rd_T56 x0 x4).f1) ((rd_T56 x0 x4).f2) ((rd_T56 x0 x4).f3)).bind fun t20 => (if x4 < (x3.length : Int) then (laws_toNodeS.l0v x0 (x3.set (x4 : Int).toNat (⟨t20.1, t20.2.1, t20.2.2.1, t20.2.2.2⟩ : S62)) (wrap64 (x4 + 1))) else (none))) else (none)) else (some x3)) := by
  show lim laws_toNode.B (.laws_toNodeS_l0 x0 x3 x4) = _
  rw [lim_eq, laws_toNode.B]
  simp only [ev_ite, ev_opt, ev_ask, ev_to, ev_ret, ev_bad]
  try rfl
def laws_toRule.fv (a0_0 : Int) (a0_1 : Int) (a0_2 : Int) (a0_3 : ByteArray) (l0_4 : List S56) (a0_5 : Int) (a0_6 : Int) (a0_7 : ByteArray) (l0_8 : List S56) : Option (Int × Int × Int × ByteArray × (List S62) × Int × Int × ByteArray × (List S62)) := (laws_toNode.fv a0_1 a0_2 a0_3 l0_4).bind fun t9 => ((laws_toNode.fv a0_5 a0_6 a0_7 l0_8).bind fun t13 => (some (a0_0, t9.1, t9.2.1, t9.2.2.1, t9.2.2.2, t13.1, t13.2.1, t13.2.2.1, t13.2.2.2)))
theorem laws_toRule.fv_eq (a0_0 : Int) (a0_1 : Int) (a0_2 : Int) (a0_3 : ByteArray) (l0_4 : List S56) (a0_5 : Int) (a0_6 : Int) (a0_7 : ByteArray) (l0_8 : List S56) : laws_toRule.fv a0_0 a0_1 a0_2 a0_3 l0_4 a0_5 a0_6 a0_7 l0_8 = ((laws_toNode.fv a0_1 a0_2 a0_3 l0_4).bind fun t9 => ((laws_toNode.fv a0_5 a0_6 a0_7 l0_8).bind fun t13 => (some (a0_0, t9.1, t9.2.1, t9.2.2.1, t9.2.2.2, t13.1, t13.2.1, t13.2.2.1, t13.2.2.2)))) := by rw [laws_toRule.fv]
inductive laws_toRuleS.Q where
  | f (l0 : List S58)
  | l0 (x0 : List S58) (x3 : List S64) (x4 : Int)
def laws_toRuleS.B : laws_toRuleS.Q → Pg laws_toRuleS.Q (fun _ => (List S64)) ((List S64))
  | .f l0 => if 0 ≤ (l0.length : Int) then (if ((l0.length : Int) : Int).toNat ≤ 2345624805922 then (.to (.l0 l0 ((List.replicate ((l0.length : Int) : Int).toNat z64)) 0)) else (.bad)) else (.bad)
  | .l0 x0 x3 x4 => if x4 < (x0.length : Int) then (if 0 ≤ x4 then (.opt (laws_toRule.fv ((rd_T58 x0 x4).f0) ((rd_T58 x0 x4).f1) ((rd_T58 x0 x4).f2) ((rd_T58 x0 x4).f3) ((rd_T58 x0 x4).f4) ((rd_T58 x0 x4).f5) ((rd_T58 x0 x4).f6) ((rd_T58 x0 x4).f7) ((rd_T58 x0 x4).f8)) fun t20 => (if x4 < (x3.length : Int) then (.to (.l0 x0 (x3.set (x4 : Int).toNat (⟨t20.1, t20.2.1, t20.2.2.1, t20.2.2.2.1, t20.2.2.2.2.1, t20.2.2.2.2.2.1, t20.2.2.2.2.2.2.1, t20.2.2.2.2.2.2.2.1, t20.2.2.2.2.2.2.2.2⟩ : S64)) (wrap64 (x4 + 1)))) else (.bad))) else (.bad)) else (.ret x3)
def laws_toRuleS.fv (l0 : List S58) : Option ((List S64)) := lim laws_toRuleS.B (.f l0)
def laws_toRuleS.l0v (x0 : List S58) (x3 : List S64) (x4 : Int) : Option ((List S64)) := lim laws_toRuleS.B (.l0 x0 x3 x4)
theorem laws_toRuleS.fv_eq (l0 : List S58) : laws_toRuleS.fv l0 = (if 0 ≤ (l0.length : Int) then (if ((l0.length : Int) : Int).toNat ≤ 2345624805922 then (laws_toRuleS.l0v l0 ((List.replicate ((l0.length : Int) : Int).toNat z64)) 0) else (none)) else (none)) := by
  show lim laws_toRuleS.B (.f l0) = _
  rw [lim_eq, laws_toRuleS.B]
  simp only [ev_ite, ev_opt, ev_ask, ev_to, ev_ret, ev_bad]
  try rfl
theorem laws_toRuleS.l0v_eq (x0 : List S58) (x3 : List S64) (x4 : Int) : laws_toRuleS.l0v x0 x3 x4 = (if x4 < (x0.length : Int) then (if 0 ≤ x4 then ((laws_toRule.fv ((rd_T58 x0 x4).f0) ((rd_T58 x0 x4).f1) ((rd_T58 x0 x4).f2) ((rd_T58 x0 x4).f3) ((rd_T58 x0 x4).f4) ((rd_T58 x0 x4).f5) ((rd_T58 x0 x4).f6) ((rd_T58 x0 x4).f7) ((rd_T58 x0 x4).f8)).bind fun t20 => (if x4 < (x3.length : Int) then (laws_toRuleS.l0v x0 (x3.set (x4 : Int).toNat (⟨t20.1, t20.2.1, t20.2.2.1, t20.2.2.2.1, t20.2.2.2.2.1, t20.2.2.2.2.2.1, t20.2.2.2.2.2.2.1, t20.2.2.2.2.2.2.2.1, t20.2.2.2.2.2.2.2.2⟩ : S64)) (wrap64 (x4 + 1))) else (none))) else (none)) else (some x3)) := by
  show lim laws_toRuleS.B (.l0 x0 x3 x4) = _
  rw [lim_eq, laws_toRuleS.B]
  simp only [ev_ite, ev_opt, ev_ask, ev_to, ev_ret, ev_bad]
  try rfl
inductive spec_l7Within.Q where
  | f (l0 : List ByteArray) (a1 : ByteArray)
  | l0 (x0 : List ByteArray) (x1 : ByteArray) (x5 : Int)
def spec_l7Within.B : spec_l7Within.Q → Pg spec_l7Within.Q (fun _ => Bool) (Bool)
  | .f l0 a1 => .to (.l0 l0 a1 0)
  | .l0 x0 x1 x5 => if x5 < (x0.length : Int) then (if 0 ≤ x5 then (if (rdOf ByteArray.empty x0 x5).toList = x1.toList then (.ret true) else (.to (.l0 x0 x1 (wrap64 (x5 + 1))))) else (.bad)) else (.ret false)
def spec_l7Within.fv (l0 : List ByteArray) (a1 : ByteArray) : Option (Bool) := lim spec_l7Within.B (.f l0 a1)
def spec_l7Within.l0v (x0 : List ByteArray) (x1 : ByteArray) (x5 : Int) : Option (Bool) := lim spec_l7Within.B (.l0 x0 x1 x5)
theorem spec_l7Within.fv_eq (l0 : List ByteArray) (a1 : ByteArray) : spec_l7Within.fv l0 a1 = (spec_l7Within.l0v l0 a1 0) := by
  show lim spec_l7Within.B (.f l0 a1) = _
  rw [lim_eq, spec_l7Within.B]
  simp only [ev_ite, ev_opt, ev_ask, ev_to, ev_ret, ev_bad]
  try rfl
theorem spec_l7Within.l0v_eq (x0 : List ByteArray) (x1 : ByteArray) (x5 : Int) : spec_l7Within.l0v x0 x1 x5 = (if x5 < (x0.length : Int) then (if 0 ≤ x5 then (if (rdOf ByteArray.empty x0 x5).toList = x1.toList then (some true) else (spec_l7Within.l0v x0 x1 (wrap64 (x5 + 1)))) else (none)) else (some false)) := by
  show lim spec_l7Within.B (.l0 x0 x1 x5) = _
  rw [lim_eq, spec_l7Within.B]
  simp only [ev_ite, ev_opt, ev_ask, ev_to, ev_ret, ev_bad]
  try rfl
inductive spec_l10Put.Q where
  | f (l0 : List ByteArray) (a1 : ByteArray)
  | j0 (x0 : List ByteArray) (x1 : ByteArray) (x5 : Int)
  | l0 (x0 : List ByteArray) (x1 : ByteArray) (x5 : Int)
def spec_l10Put.B : spec_l10Put.Q → Pg spec_l10Put.Q (fun _ => (List ByteArray)) ((List ByteArray))
  | .f l0 a1 => .opt (spec_l7Within.fv l0 a1) fun t9 => (if t9 = true then (.ret l0) else (.to (.l0 l0 a1 0)))
  | .j0 x0 x1 x5 => if 0 ≤ x5 then (if x5 ≤ (x0.length : Int) then (if ([] : List ByteArray).length + (x0.take (x5 : Int).toNat).length ≤ 8796093022208 then (if (([] : List ByteArray) ++ (x0.take (x5 : Int).toNat)).length < 8796093022208 then (if ((([] : List ByteArray) ++ (x0.take (x5 : Int).toNat)) ++ [x1]).length + (x0.drop (x5 : Int).toNat).length ≤ 8796093022208 then (.ret (((([] : List ByteArray) ++ (x0.take (x5 : Int).toNat)) ++ [x1]) ++ (x0.drop (x5 : Int).toNat))) else (.bad)) else (.bad)) else (.bad)) else (.bad)) else (.bad)
  | .l0 x0 x1 x5 => if x5 < (x0.length : Int) then (if 0 ≤ x5 then (if (Op.bytesLess (rdOf ByteArray.empty x0 x5).toList x1.toList) = true then (.to (.l0 x0 x1 (wrap64 (x5 + 1)))) else (.to (.j0 x0 x1 x5))) else (.bad)) else (.to (.j0 x0 x1 x5))
def spec_l10Put.fv (l0 : List ByteArray) (a1 : ByteArray) : Option ((List ByteArray)) := lim spec_l10Put.B (.f l0 a1)
def spec_l10Put.j0v (x0 : List ByteArray) (x1 : ByteArray) (x5 : Int) : Option ((List ByteArray)) := lim spec_l10Put.B (.j0 x0 x1 x5)
def spec_l10Put.l0v (x0 : List ByteArray) (x1 : ByteArray) (x5 : Int) : Option ((List ByteArray)) := lim spec_l10Put.B (.l0 x0 x1 x5)
theorem spec_l10Put.fv_eq (l0 : List ByteArray) (a1 : ByteArray) : spec_l10Put.fv l0 a1 = ((spec_l7Within.fv l0 a1).bind fun t9 => (if t9 = true then (some l0) else (spec_l10Put.l0v l0 a1 0))) := by
  show lim spec_l10Put.B (.f l0 a1) = _
  rw [lim_eq, spec_l10Put.B]
  simp only [ev_ite, ev_opt, ev_ask, ev_to, ev_ret, ev_bad]
  try rfl
theorem spec_l10Put.j0v_eq (x0 : List ByteArray) (x1 : ByteArray) (x5 : Int) : spec_l10Put.j0v x0 x1 x5 = (if 0 ≤ x5 then (if x5 ≤ (x0.length : Int) then (if ([] : List ByteArray).length + (x0.take (x5 : Int).toNat).length ≤ 8796093022208 then (if (([] : List ByteArray) ++ (x0.take (x5 : Int).toNat)).length < 8796093022208 then (if ((([] : List ByteArray) ++ (x0.take (x5 : Int).toNat)) ++ [x1]).length + (x0.drop (x5 : Int).toNat).length ≤ 8796093022208 then (some (((([] : List ByteArray) ++ (x0.take (x5 : Int).toNat)) ++ [x1]) ++ (x0.drop (x5 : Int).toNat))) else (none)) else (none)) else (none)) else (none)) else (none)) := by
  show lim spec_l10Put.B (.j0 x0 x1 x5) = _
  rw [lim_eq, spec_l10Put.B]
  simp only [ev_ite, ev_opt, ev_ask, ev_to, ev_ret, ev_bad]
  try rfl
theorem spec_l10Put.l0v_eq (x0 : List ByteArray) (x1 : ByteArray) (x5 : Int) : spec_l10Put.l0v x0 x1 x5 = (if x5 < (x0.length : Int) then (if 0 ≤ x5 then (if (Op.bytesLess (rdOf ByteArray.empty x0 x5).toList x1.toList) = true then (spec_l10Put.l0v x0 x1 (wrap64 (x5 + 1))) else (spec_l10Put.j0v x0 x1 x5)) else (none)) else (spec_l10Put.j0v x0 x1 x5)) := by
  show lim spec_l10Put.B (.l0 x0 x1 x5) = _
  rw [lim_eq, spec_l10Put.B]
  simp only [ev_ite, ev_opt, ev_ask, ev_to, ev_ret, ev_bad]
  try rfl
inductive spec_l10Names.Q where
  | f (a0_0 : Int) (a0_1 : Int) (a0_2 : ByteArray) (l0_3 : List S62) (l1 : List ByteArray) (l2 : List ByteArray)
  | j0 (x1 : List ByteArray) (x2 : List ByteArray) (x16_0 : Int) (x16_1 : Int) (x16_2 : ByteArray) (x16_3 : List S62)
  | j1 (x1 : List ByteArray) (x2 : List ByteArray) (x17 : Bool) (x16_0 : Int) (x16_1 : Int) (x16_2 : ByteArray) (x16_3 : List S62)
  | l0 (x1 : List ByteArray) (x2 : List ByteArray) (x8 : Int) (x16_0 : Int) (x16_1 : Int) (x16_2 : ByteArray) (x16_3 : List S62)
def spec_l10Names.B : spec_l10Names.Q → Pg spec_l10Names.Q (fun _ => (List ByteArray) × (List ByteArray)) ((List ByteArray) × (List ByteArray))
  | .f a0_0 a0_1 a0_2 l0_3 l1 l2 => if a0_0 = 4 then (.opt (spec_l10Put.fv l1 a0_2) fun t16 => (.to (.j0 t16 l2 a0_0 a0_1 a0_2 l0_3))) else (if a0_0 = 5 then (.to (.j1 l1 l2 (a0_0 == 5) a0_0 a0_1 a0_2 l0_3)) else (.to (.j1 l1 l2 (a0_0 == 34) a0_0 a0_1 a0_2 l0_3)))
  | .j0 x1 x2 x16_0 x16_1 x16_2 x16_3 => .to (.l0 x1 x2 0 x16_0 x16_1 x16_2 x16_3)
  | .j1 x1 x2 x17 x16_0 x16_1 x16_2 x16_3 => if x17 = true then (.opt (spec_l10Put.fv x2 x16_2) fun t23 => (.to (.j0 x1 t23 x16_0 x16_1 x16_2 x16_3))) else (.to (.j0 x1 x2 x16_0 x16_1 x16_2 x16_3))
  | .l0 x1 x2 x8 x16_0 x16_1 x16_2 x16_3 => if x8 < (x16_3.length : Int) then (if 0 ≤ x8 then (.ask (.f ((rd_T62 x16_3 x8).f0) ((rd_T62 x16_3 x8).f1) ((rd_T62 x16_3 x8).f2) ((rd_T62 x16_3 x8).f3) x1 x2) fun (t39 : (List ByteArray) × (List ByteArray)) => (.to (.l0 t39.1 t39.2 (wrap64 (x8 + 1)) x16_0 x16_1 x16_2 x16_3))) else (.bad)) else (.ret (x1, x2))
def spec_l10Names.fv (a0_0 : Int) (a0_1 : Int) (a0_2 : ByteArray) (l0_3 : List S62) (l1 : List ByteArray) (l2 : List ByteArray) : Option ((List ByteArray) × (List ByteArray)) := lim spec_l10Names.B (.f a0_0 a0_1 a0_2 l0_3 l1 l2)
def spec_l10Names.j0v (x1 : List ByteArray) (x2 : List ByteArray) (x16_0 : Int) (x16_1 : Int) (x16_2 : ByteArray) (x16_3 : List S62) : Option ((List ByteArray) × (List ByteArray)) := lim spec_l10Names.B (.j0 x1 x2 x16_0 x16_1 x16_2 x16_3)
def spec_l10Names.j1v (x1 : List ByteArray) (x2 : List ByteArray) (x17 : Bool) (x16_0 : Int) (x16_1 : Int) (x16_2 : ByteArray) (x16_3 : List S62) : Option ((List ByteArray) × (List ByteArray)) := lim spec_l10Names.B (.j1 x1 x2 x17 x16_0 x16_1 x16_2 x16_3)
def spec_l10Names.l0v (x1 : List ByteArray) (x2 : List ByteArray) (x8 : Int) (x16_0 : Int) (x16_1 : Int) (x16_2 : ByteArray) (x16_3 : List S62) : Option ((List ByteArray) × (List ByteArray)) := lim spec_l10Names.B (.l0 x1 x2 x8 x16_0 x16_1 x16_2 x16_3)
theorem spec_l10Names.fv_eq (a0_0 : Int) (a0_1 : Int) (a0_2 : ByteArray) (l0_3 : List S62) (l1 : List ByteArray) (l2 : List ByteArray) : spec_l10Names.fv a0_0 a0_1 a0_2 l0_3 l1 l2 = (if a0_0 = 4 then ((spec_l10Put.fv l1 a0_2).bind fun t16 => (spec_l10Names.j0v t16 l2 a0_0 a0_1 a0_2 l0_3)) else (if a0_0 = 5 then (spec_l10Names.j1v l1 l2 (a0_0 == 5) a0_0 a0_1 a0_2 l0_3) else (spec_l10Names.j1v l1 l2 (a0_0 == 34) a0_0 a0_1 a0_2 l0_3))) := by
  show lim spec_l10Names.B (.f a0_0 a0_1 a0_2 l0_3 l1 l2) = _
  rw [lim_eq, spec_l10Names.B]
  simp only [ev_ite, ev_opt, ev_ask, ev_to, ev_ret, ev_bad]
  try rfl
theorem spec_l10Names.j0v_eq (x1 : List ByteArray) (x2 : List ByteArray) (x16_0 : Int) (x16_1 : Int) (x16_2 : ByteArray) (x16_3 : List S62) : spec_l10Names.j0v x1 x2 x16_0 x16_1 x16_2 x16_3 = (spec_l10Names.l0v x1 x2 0 x16_0 x16_1 x16_2 x16_3) := by
  show lim spec_l10Names.B (.j0 x1 x2 x16_0 x16_1 x16_2 x16_3) = _
  rw [lim_eq, spec_l10Names.B]
  simp only [ev_ite, ev_opt, ev_ask, ev_to, ev_ret, ev_bad]
  try rfl
theorem spec_l10Names.j1v_eq (x1 : List ByteArray) (x2 : List ByteArray) (x17 : Bool) (x16_0 : Int) (x16_1 : Int) (x16_2 : ByteArray) (x16_3 : List S62) : spec_l10Names.j1v x1 x2 x17 x16_0 x16_1 x16_2 x16_3 = (if x17 = true then ((spec_l10Put.fv x2 x16_2).bind fun t23 => (spec_l10Names.j0v x1 t23 x16_0 x16_1 x16_2 x16_3)) else (spec_l10Names.j0v x1 x2 x16_0 x16_1 x16_2 x16_3)) := by
  show lim spec_l10Names.B (.j1 x1 x2 x17 x16_0 x16_1 x16_2 x16_3) = _
  rw [lim_eq, spec_l10Names.B]
  simp only [ev_ite, ev_opt, ev_ask, ev_to, ev_ret, ev_bad]
  try rfl
theorem spec_l10Names.l0v_eq (x1 : List ByteArray) (x2 : List ByteArray) (x8 : Int) (x16_0 : Int) (x16_1 : Int) (x16_2 : ByteArray) (x16_3 : List S62) : spec_l10Names.l0v x1 x2 x8 x16_0 x16_1 x16_2 x16_3 = (if x8 < (x16_3.length : Int) then (if 0 ≤ x8 then ((spec_l10Names.fv ((rd_T62 x16_3 x8).f0) ((rd_T62 x16_3 x8).f1) ((rd_T62 x16_3 x8).f2) ((rd_T62 x16_3 x8).f3) x1 x2).bind fun t39 => (spec_l10Names.l0v t39.1 t39.2 (wrap64 (x8 + 1)) x16_0 x16_1 x16_2 x16_3)) else (none)) else (some (x1, x2))) := by
  show lim spec_l10Names.B (.l0 x1 x2 x8 x16_0 x16_1 x16_2 x16_3) = _
  rw [lim_eq, spec_l10Names.B]
  simp only [ev_ite, ev_opt, ev_ask, ev_to, ev_ret, ev_bad]
  try rfl
inductive spec_Names.Q where
  | f (l0 : List S64)
  | l0 (x0 : List S64) (x4 : List ByteArray) (x5 : List ByteArray) (x6 : Int)
def spec_Names.B : spec_Names.Q → Pg spec_Names.Q (fun _ => (List ByteArray) × (List ByteArray)) ((List ByteArray) × (List ByteArray))
  | .f l0 => .to (.l0 l0 ([] : List ByteArray) ([] : List ByteArray) 0)
  | .l0 x0 x4 x5 x6 => if x6 < (x0.length : Int) then (if 0 ≤ x6 then (.opt (spec_l10Names.fv ((rd_T64 x0 x6).f1) ((rd_T64 x0 x6).f2) ((rd_T64 x0 x6).f3) ((rd_T64 x0 x6).f4) x4 x5) fun t23 => (.opt (spec_l10Names.fv ((rd_T64 x0 x6).f5) ((rd_T64 x0 x6).f6) ((rd_T64 x0 x6).f7) ((rd_T64 x0 x6).f8) t23.1 t23.2) fun t34 => (.to (.l0 x0 t34.1 t34.2 (wrap64 (x6 + 1)))))) else (.bad)) else (.ret (x4, x5))
def spec_Names.fv (l0 : List S64) : Option ((List ByteArray) × (List ByteArray)) := lim spec_Names.B (.f l0)
def spec_Names.l0v (x0 : List S64) (x4 : List ByteArray) (x5 : List ByteArray) (x6 : Int) : Option ((List ByteArray) × (List ByteArray)) := lim spec_Names.B (.l0 x0 x4 x5 x6)
theorem spec_Names.fv_eq (l0 : List S64) : spec_Names.fv l0 = (spec_Names.l0v l0 ([] : List ByteArray) ([] : List ByteArray) 0) := by
  show lim spec_Names.B (.f l0) = _
  rw [lim_eq, spec_Names.B]
  simp only [ev_ite, ev_opt, ev_ask, ev_to, ev_ret, ev_bad]
  try rfl
theorem spec_Names.l0v_eq (x0 : List S64) (x4 : List ByteArray) (x5 : List ByteArray) (x6 : Int) : spec_Names.l0v x0 x4 x5 x6 = (if x6 < (x0.length : Int) then (if 0 ≤ x6 then ((spec_l10Names.fv ((rd_T64 x0 x6).f1) ((rd_T64 x0 x6).f2) ((rd_T64 x0 x6).f3) ((rd_T64 x0 x6).f4) x4 x5).bind fun t23 => ((spec_l10Names.fv ((rd_T64 x0 x6).f5) ((rd_T64 x0 x6).f6) ((rd_T64 x0 x6).f7) ((rd_T64 x0 x6).f8) t23.1 t23.2).bind fun t34 => (spec_Names.l0v x0 t34.1 t34.2 (wrap64 (x6 + 1))))) else (none)) else (some (x4, x5))) := by
  show lim spec_Names.B (.l0 x0 x4 x5 x6) = _
  rw [lim_eq, spec_Names.B]
  simp only [ev_ite, ev_opt, ev_ask, ev_to, ev_ret, ev_bad]
  try rfl
inductive impl_Names_1.Q where
  | f (a0_0 : Int) (a0_1 : Int) (a0_2 : ByteArray) (l0_3 : List S62) (l1_0 : List ByteArray) (l2_0 : List ByteArray)
  | j0 (x13 : Bool) (y0 : List ByteArray) (y1 : List ByteArray) (x16_0 : Int) (x16_1 : Int) (x16_2 : ByteArray) (x16_3 : List S62)
def impl_Names_1.B : impl_Names_1.Q → Pg impl_Names_1.Q (fun _ => (List ByteArray) × (List ByteArray)) ((List ByteArray) × (List ByteArray))
  | .f a0_0 a0_1 a0_2 l0_3 l1_0 l2_0 => if a0_0 = 4 then (if l1_0.length < 8796093022208 then (.ret ((l1_0 ++ [a0_2]), l2_0)) else (.bad)) else (if a0_0 = 5 then (.to (.j0 (a0_0 == 5) l1_0 l2_0 a0_0 a0_1 a0_2 l0_3)) else (.to (.j0 (a0_0 == 34) l1_0 l2_0 a0_0 a0_1 a0_2 l0_3)))
  | .j0 x13 y0 y1 x16_0 x16_1 x16_2 x16_3 => if x13 = true then (if y1.length < 8796093022208 then (.ret (y0, (y1 ++ [x16_2]))) else (.bad)) else (.ret (y0, y1))
def impl_Names_1.fv (a0_0 : Int) (a0_1 : Int) (a0_2 : ByteArray) (l0_3 : List S62) (l1_0 : List ByteArray) (l2_0 : List ByteArray) : Option ((List ByteArray) × (List ByteArray)) := lim impl_Names_1.B (.f a0_0 a0_1 a0_2 l0_3 l1_0 l2_0)
def impl_Names_1.j0v (x13 : Bool) (y0 : List ByteArray) (y1 : List ByteArray) (x16_0 : Int) (x16_1 : Int) (x16_2 : ByteArray) (x16_3 : List S62) : Option ((List ByteArray) × (List ByteArray)) := lim impl_Names_1.B (.j0 x13 y0 y1 x16_0 x16_1 x16_2 x16_3)
theorem impl_Names_1.fv_eq (a0_0 : Int) (a0_1 : Int) (a0_2 : ByteArray) (l0_3 : List S62) (l1_0 : List ByteArray) (l2_0 : List ByteArray) : impl_Names_1.fv a0_0 a0_1 a0_2 l0_3 l1_0 l2_0 = (if a0_0 = 4 then (if l1_0.length < 8796093022208 then (some ((l1_0 ++ [a0_2]), l2_0)) else (none)) else (if a0_0 = 5 then (impl_Names_1.j0v (a0_0 == 5) l1_0 l2_0 a0_0 a0_1 a0_2 l0_3) else (impl_Names_1.j0v (a0_0 == 34) l1_0 l2_0 a0_0 a0_1 a0_2 l0_3))) := by
  show lim impl_Names_1.B (.f a0_0 a0_1 a0_2 l0_3 l1_0 l2_0) = _
  rw [lim_eq, impl_Names_1.B]
  simp only [ev_ite, ev_opt, ev_ask, ev_to, ev_ret, ev_bad]
  try rfl
theorem impl_Names_1.j0v_eq (x13 : Bool) (y0 : List ByteArray) (y1 : List ByteArray) (x16_0 : Int) (x16_1 : Int) (x16_2 : ByteArray) (x16_3 : List S62) : impl_Names_1.j0v x13 y0 y1 x16_0 x16_1 x16_2 x16_3 = (if x13 = true then (if y1.length < 8796093022208 then (some (y0, (y1 ++ [x16_2]))) else (none)) else (some (y0, y1))) := by
  show lim impl_Names_1.B (.j0 x13 y0 y1 x16_0 x16_1 x16_2 x16_3) = _
  rw [lim_eq, impl_Names_1.B]
  simp only [ev_ite, ev_opt, ev_ask, ev_to, ev_ret, ev_bad]
  try rfl
inductive impl_each__impl_Names_1.Q where
  | f (a0_0 : Int) (a0_1 : Int) (a0_2 : ByteArray) (l0_3 : List S62) (l1q0_0 : List ByteArray) (l1q1_0 : List ByteArray)
  | l0 (x10 : List S62) (x11 : Int) (x12 : Int) (y0 : List ByteArray) (y1 : List ByteArray)
def impl_each__impl_Names_1.B : impl_each__impl_Names_1.Q → Pg impl_each__impl_Names_1.Q (fun _ => (List ByteArray) × (List ByteArray)) ((List ByteArray) × (List ByteArray))
  | .f a0_0 a0_1 a0_2 l0_3 l1q0_0 l1q1_0 => .opt (impl_Names_1.fv a0_0 a0_1 a0_2 l0_3 l1q0_0 l1q1_0) fun t8 => (.to (.l0 l0_3 (l0_3.length : Int) 0 t8.1 t8.2))
  | .l0 x10 x11 x12 y0 y1 => if x12 < x11 then (if 0 ≤ x12 then (if x12 < (x10.length : Int) then (.ask (.f ((rd_T62 x10 x12).f0) ((rd_T62 x10 x12).f1) ((rd_T62 x10 x12).f2) ((rd_T62 x10 x12).f3) y0 y1) fun (t18 : (List ByteArray) × (List ByteArray)) => (.to (.l0 x10 x11 (wrap64 (x12 + 1)) t18.1 t18.2))) else (.bad)) else (.bad)) else (.ret (y0, y1))
def impl_each__impl_Names_1.fv (a0_0 : Int) (a0_1 : Int) (a0_2 : ByteArray) (l0_3 : List S62) (l1q0_0 : List ByteArray) (l1q1_0 : List ByteArray) : Option ((List ByteArray) × (List ByteArray)) := lim impl_each__impl_Names_1.B (.f a0_0 a0_1 a0_2 l0_3 l1q0_0 l1q1_0)
def impl_each__impl_Names_1.l0v (x10 : List S62) (x11 : Int) (x12 : Int) (y0 : List ByteArray) (y1 : List ByteArray) : Option ((List ByteArray) × (List ByteArray)) := lim impl_each__impl_Names_1.B (.l0 x10 x11 x12 y0 y1)
theorem impl_each__impl_Names_1.fv_eq (a0_0 : Int) (a0_1 : Int) (a0_2 : ByteArray) (l0_3 : List S62) (l1q0_0 : List ByteArray) (l1q1_0 : List ByteArray) : impl_each__impl_Names_1.fv a0_0 a0_1 a0_2 l0_3 l1q0_0 l1q1_0 = ((impl_Names_1.fv a0_0 a0_1 a0_2 l0_3 l1q0_0 l1q1_0).bind fun t8 => (impl_each__impl_Names_1.l0v l0_3 (l0_3.length : Int) 0 t8.1 t8.2)) := by
  show lim impl_each__impl_Names_1.B (.f a0_0 a0_1 a0_2 l0_3 l1q0_0 l1q1_0) = _
  rw [lim_eq, impl_each__impl_Names_1.B]
  simp only [ev_ite, ev_opt, ev_ask, ev_to, ev_ret, ev_bad]
  try rfl
theorem impl_each__impl_Names_1.l0v_eq (x10 : List S62) (x11 : Int) (x12 : Int) (y0 : List ByteArray) (y1 : List ByteArray) : impl_each__impl_Names_1.l0v x10 x11 x12 y0 y1 = (if x12 < x11 then (if 0 ≤ x12 then (if x12 < (x10.length : Int) then ((impl_each__impl_Names_1.fv ((rd_T62 x10 x12).f0) ((rd_T62 x10 x12).f1) ((rd_T62 x10 x12).f2) ((rd_T62 x10 x12).f3) y0 y1).bind fun t18 => (impl_each__impl_Names_1.l0v x10 x11 (wrap64 (x12 + 1)) t18.1 t18.2)) else (none)) else (none)) else (some (y0, y1))) := by
  show lim impl_each__impl_Names_1.B (.l0 x10 x11 x12 y0 y1) = _
  rw [lim_eq, impl_each__impl_Names_1.B]
  simp only [ev_ite, ev_opt, ev_ask, ev_to, ev_ret, ev_bad]
  try rfl
inductive impl_eachNode__impl_Names_1.Q where
  | f (l0 : List S64) (l1q0_0 : List ByteArray) (l1q1_0 : List ByteArray)
  | l0 (x6 : List S64) (x7 : Int) (x8 : Int) (y0 : List ByteArray) (y1 : List ByteArray)
def impl_eachNode__impl_Names_1.B : impl_eachNode__impl_Names_1.Q → Pg impl_eachNode__impl_Names_1.Q (fun _ => (List ByteArray) × (List ByteArray)) ((List ByteArray) × (List ByteArray))
  | .f l0 l1q0_0 l1q1_0 => .to (.l0 l0 (l0.length : Int) 0 l1q0_0 l1q1_0)
  | .l0 x6 x7 x8 y0 y1 => if x8 < x7 then (if 0 ≤ x8 then (if x8 < (x6.length : Int) then (.opt (impl_each__impl_Names_1.fv ((rd_T64 x6 x8).f1) ((rd_T64 x6 x8).f2) ((rd_T64 x6 x8).f3) ((rd_T64 x6 x8).f4) y0 y1) fun t15 => (.opt (impl_each__impl_Names_1.fv ((rd_T64 x6 x8).f5) ((rd_T64 x6 x8).f6) ((rd_T64 x6 x8).f7) ((rd_T64 x6 x8).f8) t15.1 t15.2) fun t19 => (.to (.l0 x6 x7 (wrap64 (x8 + 1)) t19.1 t19.2)))) else (.bad)) else (.bad)) else (.ret (y0, y1))
def impl_eachNode__impl_Names_1.fv (l0 : List S64) (l1q0_0 : List ByteArray) (l1q1_0 : List ByteArray) : Option ((List ByteArray) × (List ByteArray)) := lim impl_eachNode__impl_Names_1.B (.f l0 l1q0_0 l1q1_0)
def impl_eachNode__impl_Names_1.l0v (x6 : List S64) (x7 : Int) (x8 : Int) (y0 : List ByteArray) (y1 : List ByteArray) : Option ((List ByteArray) × (List ByteArray)) := lim impl_eachNode__impl_Names_1.B (.l0 x6 x7 x8 y0 y1)
theorem impl_eachNode__impl_Names_1.fv_eq (l0 : List S64) (l1q0_0 : List ByteArray) (l1q1_0 : List ByteArray) : impl_eachNode__impl_Names_1.fv l0 l1q0_0 l1q1_0 = (impl_eachNode__impl_Names_1.l0v l0 (l0.length : Int) 0 l1q0_0 l1q1_0) := by
  show lim impl_eachNode__impl_Names_1.B (.f l0 l1q0_0 l1q1_0) = _
  rw [lim_eq, impl_eachNode__impl_Names_1.B]
  simp only [ev_ite, ev_opt, ev_ask, ev_to, ev_ret, ev_bad]
  try rfl
theorem impl_eachNode__impl_Names_1.l0v_eq (x6 : List S64) (x7 : Int) (x8 : Int) (y0 : List ByteArray) (y1 : List ByteArray) : impl_eachNode__impl_Names_1.l0v x6 x7 x8 y0 y1 = (if x8 < x7 then (if 0 ≤ x8 then (if x8 < (x6.length : Int) then ((impl_each__impl_Names_1.fv ((rd_T64 x6 x8).f1) ((rd_T64 x6 x8).f2) ((rd_T64 x6 x8).f3) ((rd_T64 x6 x8).f4) y0 y1).bind fun t15 => ((impl_each__impl_Names_1.fv ((rd_T64 x6 x8).f5) ((rd_T64 x6 x8).f6) ((rd_T64 x6 x8).f7) ((rd_T64 x6 x8).f8) t15.1 t15.2).bind fun t19 => (impl_eachNode__impl_Names_1.l0v x6 x7 (wrap64 (x8 + 1)) t19.1 t19.2))) else (none)) else (none)) else (some (y0, y1))) := by
  show lim impl_eachNode__impl_Names_1.B (.l0 x6 x7 x8 y0 y1) = _
  rw [lim_eq, impl_eachNode__impl_Names_1.B]
  simp only [ev_ite, ev_opt, ev_ask, ev_to, ev_ret, ev_bad]
  try rfl
def impl_sorted.f (l0 : List ByteArray) : Option ((List ByteArray)) := (slices_Sort_string.f l0).bind fun t4 => ((slices_Compact_string.f t4).bind fun t6 => (some t6))
def impl_Names.fv (l0 : List S64) : Option ((List ByteArray) × (List ByteArray)) := (impl_eachNode__impl_Names_1.fv l0 ([] : List ByteArray) ([] : List ByteArray)).bind fun t10 => ((impl_sorted.f t10.1).bind fun t12 => ((impl_sorted.f t10.2).bind fun t14 => (some (t12, t14))))
theorem impl_Names.fv_eq (l0 : List S64) : impl_Names.fv l0 = ((impl_eachNode__impl_Names_1.fv l0 ([] : List ByteArray) ([] : List ByteArray)).bind fun t10 => ((impl_sorted.f t10.1).bind fun t12 => ((impl_sorted.f t10.2).bind fun t14 => (some (t12, t14))))) := by rw [impl_Names.fv]
inductive laws_eqStringS.Q where
  | f (l0 : List ByteArray) (l1 : List ByteArray)
  | l0 (l0 : List ByteArray) (x1 : List ByteArray) (x5 : Int)
def laws_eqStringS.B : laws_eqStringS.Q → Pg laws_eqStringS.Q (fun _ => Bool) (Bool)
  | .f l0 l1 => if (l0.length : Int) = (l1.length : Int) then (.to (.l0 l0 l1 0)) else (.ret false)
  | .l0 l0 x1 x5 => if x5 < (l0.length : Int) then (if 0 ≤ x5 then (if x5 < (x1.length : Int) then (if (rdOf ByteArray.empty l0 x5).toList = (rdOf ByteArray.empty x1 x5).toList then (.to (.l0 l0 x1 (wrap64 (x5 + 1)))) else (.ret false)) else (.bad)) else (.bad)) else (.ret true)
def laws_eqStringS.fv (l0 : List ByteArray) (l1 : List ByteArray) : Option (Bool) := lim laws_eqStringS.B (.f l0 l1)
def laws_eqStringS.l0v (l0 : List ByteArray) (x1 : List ByteArray) (x5 : Int) : Option (Bool) := lim laws_eqStringS.B (.l0 l0 x1 x5)
theorem laws_eqStringS.fv_eq (l0 : List ByteArray) (l1 : List ByteArray) : laws_eqStringS.fv l0 l1 = (if (l0.length : Int) = (l1.length : Int) then (laws_eqStringS.l0v l0 l1 0) else (some false)) := by
  show lim laws_eqStringS.B (.f l0 l1) = _
  rw [lim_eq, laws_eqStringS.B]
  simp only [ev_ite, ev_opt, ev_ask, ev_to, ev_ret, ev_bad]
  try rfl
theorem laws_eqStringS.l0v_eq (l0 : List ByteArray) (x1 : List ByteArray) (x5 : Int) : laws_eqStringS.l0v l0 x1 x5 = (if x5 < (l0.length : Int) then (if 0 ≤ x5 then (if x5 < (x1.length : Int) then (if (rdOf ByteArray.empty l0 x5).toList = (rdOf ByteArray.empty x1 x5).toList then (laws_eqStringS.l0v l0 x1 (wrap64 (x5 + 1))) else (some false)) else (none)) else (none)) else (some true)) := by
  show lim laws_eqStringS.B (.l0 l0 x1 x5) = _
  rw [lim_eq, laws_eqStringS.B]
  simp only [ev_ite, ev_opt, ev_ask, ev_to, ev_ret, ev_bad]
  try rfl
inductive laws_eqNode.Q where
  | laws_eqNode_f (a0_0 : Int) (a0_1 : Int) (a0_2 : ByteArray) (l0_3 : List S62) (a1_0 : Int) (a1_1 : Int) (a1_2 : ByteArray) (l1_3 : List S62)
  | laws_eqNodeS_f (l0 : List S62) (l1 : List S62)
  | laws_eqNodeS_l0 (x0 : List S62) (x1 : List S62) (x5 : Int)
def laws_eqNode.B : laws_eqNode.Q → Pg laws_eqNode.Q (fun _ => Bool) (Bool)
  | .laws_eqNode_f a0_0 a0_1 a0_2 l0_3 a1_0 a1_1 a1_2 l1_3 => if a0_0 = a1_0 then (if a0_1 = a1_1 then (if a0_2.toList = a1_2.toList then (.ask (.laws_eqNodeS_f l0_3 l1_3) fun (t24 : Bool) => (if t24 = true then (.ret true) else (.ret false))) else (.ret false)) else (.ret false)) else (.ret false)
  | .laws_eqNodeS_f l0 l1 => if (l0.length : Int) = (l1.length : Int) then (.to (.laws_eqNodeS_l0 l0 l1 0)) else (.ret false)
  | .laws_eqNodeS_l0 x0 x1 x5 => if x5 < (x0.length : Int) then (if 0 ≤ x5 then (if x5 < (x1.length : Int) then (.ask (.laws_eqNode_f ((rd_T62 x0 x5).f0) ((rd_T62 x0 x5).f1) ((rd_T62 x0 x5).f2) ((rd_T62 x0 x5).f3) ((rd_T62 x1 x5).f0) ((rd_T62 x1 x5).f1) ((rd_T62 x1 x5).f2) ((rd_T62 x1 x5).f3)) fun (t25 : Bool) => (if t25 = true then (.to (.laws_eqNodeS_l0 x0 x1 (wrap64 (x5 + 1)))) else (.ret false))) else (.bad)) else (.bad)) else (.ret true)
def laws_eqNode.fv (a0_0 : Int) (a0_1 : Int) (a0_2 : ByteArray) (l0_3 : List S62) (a1_0 : Int) (a1_1 : Int) (a1_2 : ByteArray) (l1_3 : List S62) : Option (Bool) := lim laws_eqNode.B (.laws_eqNode_f a0_0 a0_1 a0_2 l0_3 a1_0 a1_1 a1_2 l1_3)
def laws_eqNodeS.fv (l0 : List S62) (l1 : List S62) : Option (Bool) := lim laws_eqNode.B (.laws_eqNodeS_f l0 l1)
def laws_eqNodeS.l0v (x0 : List S62) (x1 : List S62) (x5 : Int) : Option (Bool) := lim laws_eqNode.B (.laws_eqNodeS_l0 x0 x1 x5)
theorem laws_eqNode.fv_eq (a0_0 : Int) (a0_1 : Int) (a0_2 : ByteArray) (l0_3 : List S62) (a1_0 : Int) (a1_1 : Int) (a1_2 : ByteArray) (l1_3 : List S62) : laws_eqNode.fv a0_0 a0_1 a0_2 l0_3 a1_0 a1_1 a1_2 l1_3 = (if a0_0 = a1_0 then (if a0_1 = a1_1 then (if a0_2.toList = a1_2.toList then ((laws_eqNodeS.fv l0_3 l1_3).bind fun t24 => (if t24 = true then (some true) else (some false))) else (some false)) else (some false)) else (some false)) := by
  show lim laws_eqNode.B (.laws_eqNode_f a0_0 a0_1 a0_2 l0_3 a1_0 a1_1 a1_2 l1_3) = _
  rw [lim_eq, laws_eqNode.B]
  simp only [ev_ite, ev_opt, ev_ask, ev_to, ev_ret, ev_bad]
  try rfl
theorem laws_eqNodeS.fv_eq (l0 : List S62) (l1 : List S62) : laws_eqNodeS.fv l0 l1 = (if (l0.length : Int) = (l1.length : Int) then (laws_eqNodeS.l0v l0 l1 0) else (some false)) := by
  show lim laws_eqNode.B (.laws_eqNodeS_f l0 l1) = _
  rw [lim_eq, laws_eqNode.B]
  simp only [ev_ite, ev_opt, ev_ask, ev_to, ev_ret, ev_bad]
  try rfl
theorem laws_eqNodeS.l0v_eq (x0 : List S62) (x1 : List S62) (x5 : Int) : laws_eqNodeS.l0v x0 x1 x5 = (if x5 < (x0.length : Int) then (if 0 ≤ x5 then (if x5 < (x1.length : Int) then ((laws_eqNode.fv ((rd_T62 x0 x5).f0) ((rd_T62 x0 x5).f1) ((rd_T62 x0 x5).f2) ((rd_T62 x0 x5).f3) ((rd_T62 x1 x5).f0) ((rd_T62 x1 x5).f1) ((rd_T62 x1 x5).f2) ((rd_T62 x1 x5).f3)).bind fun t25 => (if t25 = true then (laws_eqNodeS.l0v x0 x1 (wrap64 (x5 + 1))) else (some false))) else (none)) else (none)) else (some true)) := by
  show lim laws_eqNode.B (.laws_eqNodeS_l0 x0 x1 x5) = _
  rw [lim_eq, laws_eqNode.B]
  simp only [ev_ite, ev_opt, ev_ask, ev_to, ev_ret, ev_bad]
  try rfl
def laws_eqRule.fv (a0_0 : Int) (a0_1 : Int) (a0_2 : Int) (a0_3 : ByteArray) (l0_4 : List S62) (a0_5 : Int) (a0_6 : Int) (a0_7 : ByteArray) (l0_8 : List S62) (a1_0 : Int) (a1_1 : Int) (a1_2 : Int) (a1_3 : ByteArray) (l1_4 : List S62) (a1_5 : Int) (a1_6 : Int) (a1_7 : ByteArray) (l1_8 : List S62) : Option (Bool) := if a0_0 = a1_0 then ((laws_eqNode.fv a0_1 a0_2 a0_3 l0_4 a1_1 a1_2 a1_3 l1_4).bind fun t14 => (if t14 = true then ((laws_eqNode.fv a0_5 a0_6 a0_7 l0_8 a1_5 a1_6 a1_7 l1_8).bind fun t20 => (if t20 = true then (some true) else (some false))) else (some false))) else (some false)
theorem laws_eqRule.fv_eq (a0_0 : Int) (a0_1 : Int) (a0_2 : Int) (a0_3 : ByteArray) (l0_4 : List S62) (a0_5 : Int) (a0_6 : Int) (a0_7 : ByteArray) (l0_8 : List S62) (a1_0 : Int) (a1_1 : Int) (a1_2 : Int) (a1_3 : ByteArray) (l1_4 : List S62) (a1_5 : Int) (a1_6 : Int) (a1_7 : ByteArray) (l1_8 : List S62) : laws_eqRule.fv a0_0 a0_1 a0_2 a0_3 l0_4 a0_5 a0_6 a0_7 l0_8 a1_0 a1_1 a1_2 a1_3 l1_4 a1_5 a1_6 a1_7 l1_8 = (if a0_0 = a1_0 then ((laws_eqNode.fv a0_1 a0_2 a0_3 l0_4 a1_1 a1_2 a1_3 l1_4).bind fun t14 => (if t14 = true then ((laws_eqNode.fv a0_5 a0_6 a0_7 l0_8 a1_5 a1_6 a1_7 l1_8).bind fun t20 => (if t20 = true then (some true) else (some false))) else (some false))) else (some false)) := by rw [laws_eqRule.fv]
inductive laws_eqRuleS.Q where
  | f (l0 : List S64) (l1 : List S64)
  | l0 (x0 : List S64) (x1 : List S64) (x5 : Int)
def laws_eqRuleS.B : laws_eqRuleS.Q → Pg laws_eqRuleS.Q (fun _ => Bool) (Bool)
  | .f l0 l1 => if (l0.length : Int) = (l1.length : Int) then (.to (.l0 l0 l1 0)) else (.ret false)
  | .l0 x0 x1 x5 => if x5 < (x0.length : Int) then (if 0 ≤ x5 then (if x5 < (x1.length : Int) then (.opt (laws_eqRule.fv ((rd_T64 x0 x5).f0) ((rd_T64 x0 x5).f1) ((rd_T64 x0 x5).f2) ((rd_T64 x0 x5).f3) ((rd_T64 x0 x5).f4) ((rd_T64 x0 x5).f5) ((rd_T64 x0 x5).f6) ((rd_T64 x0 x5).f7) ((rd_T64 x0 x5).f8) ((rd_T64 x1 x5).f0) ((rd_T64 x1 x5).f1) ((rd_T64 x1 x5).f2) ((rd_T64 x1 x5).f3) ((rd_T64 x1 x5).f4) ((rd_T64 x1 x5).f5) ((rd_T64 x1 x5).f6) ((rd_T64 x1 x5).f7) ((rd_T64 x1 x5).f8)) fun t25 => (if t25 = true then (.to (.l0 x0 x1 (wrap64 (x5 + 1)))) else (.ret false))) else (.bad)) else (.bad)) else (.ret true)
def laws_eqRuleS.fv (l0 : List S64) (l1 : List S64) : Option (Bool) := lim laws_eqRuleS.B (.f l0 l1)
def laws_eqRuleS.l0v (x0 : List S64) (x1 : List S64) (x5 : Int) : Option (Bool) := lim laws_eqRuleS.B (.l0 x0 x1 x5)
theorem laws_eqRuleS.fv_eq (l0 : List S64) (l1 : List S64) : laws_eqRuleS.fv l0 l1 = (if (l0.length : Int) = (l1.length : Int) then (laws_eqRuleS.l0v l0 l1 0) else (some false)) := by
  show lim laws_eqRuleS.B (.f l0 l1) = _
  rw [lim_eq, laws_eqRuleS.B]
  simp only [ev_ite, ev_opt, ev_ask, ev_to, ev_ret, ev_bad]
  try rfl
theorem laws_eqRuleS.l0v_eq (x0 : List S64) (x1 : List S64) (x5 : Int) : laws_eqRuleS.l0v x0 x1 x5 = (if x5 < (x0.length : Int) then (if 0 ≤ x5 then (if x5 < (x1.length : Int) then ((laws_eqRule.fv ((rd_T64 x0 x5).f0) ((rd_T64 x0 x5).f1) ((rd_T64 x0 x5).f2) ((rd_T64 x0 x5).f3) ((rd_T64 x0 x5).f4) ((rd_T64 x0 x5).f5) ((rd_T64 x0 x5).f6) ((rd_T64 x0 x5).f7) ((rd_T64 x0 x5).f8) ((rd_T64 x1 x5).f0) ((rd_T64 x1 x5).f1) ((rd_T64 x1 x5).f2) ((rd_T64 x1 x5).f3) ((rd_T64 x1 x5).f4) ((rd_T64 x1 x5).f5) ((rd_T64 x1 x5).f6) ((rd_T64 x1 x5).f7) ((rd_T64 x1 x5).f8)).bind fun t25 => (if t25 = true then (laws_eqRuleS.l0v x0 x1 (wrap64 (x5 + 1))) else (some false))) else (none)) else (none)) else (some true)) := by
  show lim laws_eqRuleS.B (.l0 x0 x1 x5) = _
  rw [lim_eq, laws_eqRuleS.B]
  simp only [ev_ite, ev_opt, ev_ask, ev_to, ev_ret, ev_bad]
  try rfl
inductive laws_markText.Q where
  | f (a0 : Int)
  | l0 (x0 : Int) (x3 : ByteArray)
def laws_markText.B : laws_markText.Q → Pg laws_markText.Q (fun _ => ByteArray) (ByteArray)
  | .f a0 => if a0 ≤ 0 then (.ret (⟨#[109, 48]⟩ : ByteArray)) else (.to (.l0 a0 (⟨#[]⟩ : ByteArray)))
  | .l0 x0 x3 => if x0 > 0 then (if (strOfNums ([(((wrap64 (48 + (Int.tmod x0 10)))) % 256)] : List Int)).size + x3.size ≤ 9223372036854775807 then (.to (.l0 (wrap64 (Int.tdiv x0 10)) (((strOfNums ([(((wrap64 (48 + (Int.tmod x0 10)))) % 256)] : List Int)) ++ x3)))) else (.bad)) else (if (⟨#[109]⟩ : ByteArray).size + x3.size ≤ 9223372036854775807 then (.ret ((⟨#[109]⟩ : ByteArray) ++ x3)) else (.bad))
def laws_markText.fv (a0 : Int) : Option (ByteArray) := lim laws_markText.B (.f a0)
def laws_markText.l0v (x0 : Int) (x3 : ByteArray) : Option (ByteArray) := lim laws_markText.B (.l0 x0 x3)
theorem laws_markText.fv_eq (a0 : Int) : laws_markText.fv a0 = (if a0 ≤ 0 then (some (⟨#[109, 48]⟩ : ByteArray)) else (laws_markText.l0v a0 (⟨#[]⟩ : ByteArray))) := by
  show lim laws_markText.B (.f a0) = _
  rw [lim_eq, laws_markText.B]
  simp only [ev_ite, ev_opt, ev_ask, ev_to, ev_ret, ev_bad]
  try rfl
theorem laws_markText.l0v_eq (x0 : Int) (x3 : ByteArray) : laws_markText.l0v x0 x3 = (if x0 > 0 then (if (strOfNums ([(((wrap64 (48 + (Int.tmod x0 10)))) % 256)] : List Int)).size + x3.size ≤ 9223372036854775807 then (laws_markText.l0v (wrap64 (Int.tdiv x0 10)) (((strOfNums ([(((wrap64 (48 + (Int.tmod x0 10)))) % 256)] : List Int)) ++ x3))) else (none)) else (if (⟨#[109]⟩ : ByteArray).size + x3.size ≤ 9223372036854775807 then (some ((⟨#[109]⟩ : ByteArray) ++ x3)) else (none))) := by
  show lim laws_markText.B (.l0 x0 x3) = _
  rw [lim_eq, laws_markText.B]
  simp only [ev_ite, ev_opt, ev_ask, ev_to, ev_ret, ev_bad]
  try rfl
inductive laws_markNodeS.Q where
  | f (l0 : List S62) (a1 : Int)
  | l0 (x0 : List S62) (x1 : Int) (x5 : Int)
def laws_markNodeS.B : laws_markNodeS.Q → Pg laws_markNodeS.Q (fun _ => Int × (List S62)) (Int × (List S62))
  | .f l0 a1 => .to (.l0 l0 a1 0)
  | .l0 x0 x1 x5 => if x5 < (x0.length : Int) then (if 0 ≤ x5 then (if x5 < ((x0.set (x5 : Int).toNat (⟨x1, (rd_T62 x0 x5).f1, (rd_T62 x0 x5).f2, (rd_T62 x0 x5).f3⟩ : S62)).length : Int) then (.opt (some ((x0.set (x5 : Int).toNat (⟨x1, (rd_T62 x0 x5).f1, (rd_T62 x0 x5).f2, (rd_T62 x0 x5).f3⟩ : S62)).set (x5 : Int).toNat (⟨(rd_T62 (x0.set (x5 : Int).toNat (⟨x1, (rd_T62 x0 x5).f1, (rd_T62 x0 x5).f2, (rd_T62 x0 x5).f3⟩ : S62)) x5).f0, (wrap64 (x1 + 1)), (rd_T62 (x0.set (x5 : Int).toNat (⟨x1, (rd_T62 x0 x5).f1, (rd_T62 x0 x5).f2, (rd_T62 x0 x5).f3⟩ : S62)) x5).f2, (rd_T62 (x0.set (x5 : Int).toNat (⟨x1, (rd_T62 x0 x5).f1, (rd_T62 x0 x5).f2, (rd_T62 x0 x5).f3⟩ : S62)) x5).f3⟩ : S62))) fun y6_5 => (.opt (laws_markText.fv ((wrap64 ((wrap64 (x1 + 1)) + 1)))) fun t29 => (if x5 < (y6_5.length : Int) then (.opt (some (y6_5.set (x5 : Int).toNat (⟨(rd_T62 y6_5 x5).f0, (rd_T62 y6_5 x5).f1, t29, (rd_T62 y6_5 x5).f3⟩ : S62))) fun y8_6 => (if x5 < (y8_6.length : Int) then (.ask (.f ((rd_T62 y8_6 x5).f3) ((wrap64 ((wrap64 ((wrap64 (x1 + 1)) + 1)) + 1)))) fun (t40 : Int × (List S62)) => (.opt (some (y8_6.set (x5 : Int).toNat (⟨(rd_T62 y8_6 x5).f0, (rd_T62 y8_6 x5).f1, (rd_T62 y8_6 x5).f2, t40.2⟩ : S62))) fun y10_6 => (.to (.l0 y10_6 t40.1 (wrap64 (x5 + 1)))))) else (.bad))) else (.bad)))) else (.bad)) else (.bad)) else (.ret (x1, x0))
def laws_markNodeS.fv (l0 : List S62) (a1 : Int) : Option (Int × (List S62)) := lim laws_markNodeS.B (.f l0 a1)
def laws_markNodeS.l0v (x0 : List S62) (x1 : Int) (x5 : Int) : Option (Int × (List S62)) := lim laws_markNodeS.B (.l0 x0 x1 x5)
theorem laws_markNodeS.fv_eq (l0 : List S62) (a1 : Int) : laws_markNodeS.fv l0 a1 = (laws_markNodeS.l0v l0 a1 0) := by
  show lim laws_markNodeS.B (.f l0 a1) = _
  rw [lim_eq, laws_markNodeS.B]
  simp only [ev_ite, ev_opt, ev_ask, ev_to, ev_ret, ev_bad]
  try rfl
theorem laws_markNodeS.l0v_eq (x0 : List S62) (x1 : Int) (x5 : Int) : laws_markNodeS.l0v x0 x1 x5 = (if x5 < (x0.length : Int) then (if 0 ≤ x5 then (if x5 < ((x0.set (x5 : Int).toNat (⟨x1, (rd_T62 x0 x5).f1, (rd_T62 x0 x5).f2, (rd_T62 x0 x5).f3⟩ : S62)).length : Int) then ((some ((x0.set (x5 : Int).toNat (⟨x1, (rd_T62 x0 x5).f1, (rd_T62 x0 x5).f2, (rd_T62 x0 x5).f3⟩ : S62)).set (x5 : Int).toNat (⟨(rd_T62 (x0.set (x5 : Int).toNat (⟨x1, (rd_T62 x0 x5).f1, (rd_T62 x0 x5).f2, (rd_T62 x0 x5).f3⟩ : S62)) x5).f0, (wrap64 (x1 + 1)), (rd_T62 (x0.set (x5 : Int).toNat (⟨x1, (rd_T62 x0 x5).f1, (rd_T62 x0 x5).f2, (rd_T62 x0 x5).f3⟩ : S62)) x5).f2, (rd_T62 (x0.set (x5 : Int).toNat (⟨x1, (rd_T62 x0 x5).f1, (rd_T62 x0 x5).f2, (rd_T62 x0 x5).f3⟩ : S62)) x5).f3⟩ : S62))).bind fun y6_5 => ((laws_markText.fv ((wrap64 ((wrap64 (x1 + 1)) + 1)))).bind fun t29 => (if x5 < (y6_5.length : Int) then ((some (y6_5.set (x5 : Int).toNat (⟨(rd_T62 y6_5 x5).f0, (rd_T62 y6_5 x5).f1, t29, (rd_T62 y6_5 x5).f3⟩ : S62))).bind fun y8_6 => (if x5 < (y8_6.length : Int) then ((laws_markNodeS.fv ((rd_T62 y8_6 x5).f3) ((wrap64 ((wrap64 ((wrap64 (x1 + 1)) + 1)) + 1)))).bind fun t40 => ((some (y8_6.set (x5 : Int).toNat (⟨(rd_T62 y8_6 x5).f0, (rd_T62 y8_6 x5).f1, (rd_T62 y8_6 x5).f2, t40.2⟩ : S62))).bind fun y10_6 => (laws_markNodeS.l0v y10_6 t40.1 (wrap64 (x5 + 1))))) else (none))) else (none)))) else (none)) else (none)) else (some (x1, x0))) := by
  show lim laws_markNodeS.B (.l0 x0 x1 x5) = _
  rw [lim_eq, laws_markNodeS.B]
  simp only [ev_ite, ev_opt, ev_ask, ev_to, ev_ret, ev_bad]
  try rfl
inductive laws_markRuleS.Q where
  | f (l0 : List S64) (a1 : Int)
  | l0 (x0 : List S64) (x1 : Int) (x5 : Int)
def laws_markRuleS.B : laws_markRuleS.Q → Pg laws_markRuleS.Q (fun _ => Int × (List S64)) (Int × (List S64))
  | .f l0 a1 => .to (.l0 l0 a1 0)
  | .l0 x0 x1 x5 => if x5 < (x0.length : Int) then (if 0 ≤ x5 then (.opt (some (x0.set (x5 : Int).toNat (⟨x1, (rd_T64 x0 x5).f1, (rd_T64 x0 x5).f2, (rd_T64 x0 x5).f3, (rd_T64 x0 x5).f4, (rd_T64 x0 x5).f5, (rd_T64 x0 x5).f6, (rd_T64 x0 x5).f7, (rd_T64 x0 x5).f8⟩ : S64))) fun y4_5 => (if x5 < (y4_5.length : Int) then (.opt (some (y4_5.set (x5 : Int).toNat (⟨(rd_T64 y4_5 x5).f0, (wrap64 (x1 + 1)), (rd_T64 y4_5 x5).f2, (rd_T64 y4_5 x5).f3, (rd_T64 y4_5 x5).f4, (rd_T64 y4_5 x5).f5, (rd_T64 y4_5 x5).f6, (rd_T64 y4_5 x5).f7, (rd_T64 y4_5 x5).f8⟩ : S64))) fun y6_6 => (if x5 < (y6_6.length : Int) then (.opt (some (y6_6.set (x5 : Int).toNat (⟨(rd_T64 y6_6 x5).f0, (rd_T64 y6_6 x5).f1, (wrap64 ((wrap64 (x1 + 1)) + 1)), (rd_T64 y6_6 x5).f3, (rd_T64 y6_6 x5).f4, (rd_T64 y6_6 x5).f5, (rd_T64 y6_6 x5).f6, (rd_T64 y6_6 x5).f7, (rd_T64 y6_6 x5).f8⟩ : S64))) fun y8_6 => (.opt (laws_markText.fv ((wrap64 ((wrap64 ((wrap64 (x1 + 1)) + 1)) + 1)))) fun t38 => (if x5 < (y8_6.length : Int) then (.opt (some (y8_6.set (x5 : Int).toNat (⟨(rd_T64 y8_6 x5).f0, (rd_T64 y8_6 x5).f1, (rd_T64 y8_6 x5).f2, t38, (rd_T64 y8_6 x5).f4, (rd_T64 y8_6 x5).f5, (rd_T64 y8_6 x5).f6, (rd_T64 y8_6 x5).f7, (rd_T64 y8_6 x5).f8⟩ : S64))) fun y10_7 => (if x5 < (y10_7.length : Int) then (.opt (laws_markNodeS.fv ((rd_T64 y10_7 x5).f4) ((wrap64 ((wrap64 ((wrap64 ((wrap64 (x1 + 1)) + 1)) + 1)) + 1)))) fun t51 => (.opt (some (y10_7.set (x5 : Int).toNat (⟨(rd_T64 y10_7 x5).f0, (rd_T64 y10_7 x5).f1, (rd_T64 y10_7 x5).f2, (rd_T64 y10_7 x5).f3, t51.2, (rd_T64 y10_7 x5).f5, (rd_T64 y10_7 x5).f6, (rd_T64 y10_7 x5).f7, (rd_T64 y10_7 x5).f8⟩ : S64))) fun y12_7 => (if x5 < (y12_7.length : Int) then (.opt (some (y12_7.set (x5 : Int).toNat (⟨(rd_T64 y12_7 x5).f0, (rd_T64 y12_7 x5).f1, (rd_T64 y12_7 x5).f2, (rd_T64 y12_7 x5).f3, (rd_T64 y12_7 x5).f4, t51.1, (rd_T64 y12_7 x5).f6, (rd_T64 y12_7 x5).f7, (rd_T64 y12_7 x5).f8⟩ : S64))) fun y13_6 => (if x5 < (y13_6.length : Int) then (.opt (some (y13_6.set (x5 : Int).toNat (⟨(rd_T64 y13_6 x5).f0, (rd_T64 y13_6 x5).f1, (rd_T64 y13_6 x5).f2, (rd_T64 y13_6 x5).f3, (rd_T64 y13_6 x5).f4, (rd_T64 y13_6 x5).f5, (wrap64 (t51.1 + 1)), (rd_T64 y13_6 x5).f7, (rd_T64 y13_6 x5).f8⟩ : S64))) fun y15_6 => (.opt (laws_markText.fv ((wrap64 ((wrap64 (t51.1 + 1)) + 1)))) fun t71 => (if x5 < (y15_6.length : Int) then (.opt (some (y15_6.set (x5 : Int).toNat (⟨(rd_T64 y15_6 x5).f0, (rd_T64 y15_6 x5).f1, (rd_T64 y15_6 x5).f2, (rd_T64 y15_6 x5).f3, (rd_T64 y15_6 x5).f4, (rd_T64 y15_6 x5).f5, (rd_T64 y15_6 x5).f6, t71, (rd_T64 y15_6 x5).f8⟩ : S64))) fun y17_7 => (if x5 < (y17_7.length : Int) then (.opt (laws_markNodeS.fv ((rd_T64 y17_7 x5).f8) ((wrap64 ((wrap64 ((wrap64 (t51.1 + 1)) + 1)) + 1)))) fun t84 => (.opt (some (y17_7.set (x5 : Int).toNat (⟨(rd_T64 y17_7 x5).f0, (rd_T64 y17_7 x5).f1, (rd_T64 y17_7 x5).f2, (rd_T64 y17_7 x5).f3, (rd_T64 y17_7 x5).f4, (rd_T64 y17_7 x5).f5, (rd_T64 y17_7 x5).f6, (rd_T64 y17_7 x5).f7, t84.2⟩ : S64))) fun y19_7 => (.to (.l0 y19_7 t84.1 (wrap64 (x5 + 1)))))) else (.bad))) else (.bad)))) else (.bad))) else (.bad)))) else (.bad))) else (.bad)))) else (.bad))) else (.bad))) else (.bad)) else (.ret (x1, x0))
def laws_markRuleS.fv (l0 : List S64) (a1 : Int) : Option (Int × (List S64)) := lim laws_markRuleS.B (.f l0 a1)
def laws_markRuleS.l0v (x0 : List S64) (x1 : Int) (x5 : Int) : Option (Int × (List S64)) := lim laws_markRuleS.B (.l0 x0 x1 x5)
theorem laws_markRuleS.fv_eq (l0 : List S64) (a1 : Int) : laws_markRuleS.fv l0 a1 = (laws_markRuleS.l0v l0 a1 0) := by
  show lim laws_markRuleS.B (.f l0 a1) = _
  rw [lim_eq, laws_markRuleS.B]
  simp only [ev_ite, ev_opt, ev_ask, ev_to, ev_ret, ev_bad]
  try rfl
theorem laws_markRuleS.l0v_eq (x0 : List S64) (x1 : Int) (x5 : Int) : laws_markRuleS.l0v x0 x1 x5 = (if x5 < (x0.length : Int) then (if 0 ≤ x5 then ((some (x0.set (x5 : Int).toNat (⟨x1, (rd_T64 x0 x5).f1, (rd_T64 x0 x5).f2, (rd_T64 x0 x5).f3, (rd_T64 x0 x5).f4, (rd_T64 x0 x5).f5, (rd_T64 x0 x5).f6, (rd_T64 x0 x5).f7, (rd_T64 x0 x5).f8⟩ : S64))).bind fun y4_5 => (if x5 < (y4_5.length : Int) then ((some (y4_5.set (x5 : Int).toNat (⟨(rd_T64 y4_5 x5).f0, (wrap64 (x1 + 1)), (rd_T64 y4_5 x5).f2, (rd_T64 y4_5 x5).f3, (rd_T64 y4_5 x5).f4, (rd_T64 y4_5 x5).f5, (rd_T64 y4_5 x5).f6, (rd_T64 y4_5 x5).f7, (rd_T64 y4_5 x5).f8⟩ : S64))).bind fun y6_6 => (if x5 < (y6_6.length : Int) then ((some (y6_6.set (x5 : Int).toNat (⟨(rd_T64 y6_6 x5).f0, (rd_T64 y6_6 x5).f1, (wrap64 ((wrap64 (x1 + 1)) + 1)), (rd_T64 y6_6 x5).f3, (rd_T64 y6_6 x5).f4, (rd_T64 y6_6 x5).f5, (rd_T64 y6_6 x5).f6, (rd_T64 y6_6 x5).f7, (rd_T64 y6_6 x5).f8⟩ : S64))).bind fun y8_6 => ((laws_markText.fv ((wrap64 ((wrap64 ((wrap64 (x1 + 1)) + 1)) + 1)))).bind fun t38 => (if x5 < (y8_6.length : Int) then ((some (y8_6.set (x5 : Int).toNat (⟨(rd_T64 y8_6 x5).f0, (rd_T64 y8_6 x5).f1, (rd_T64 y8_6 x5).f2, t38, (rd_T64 y8_6 x5).f4, (rd_T64 y8_6 x5).f5, (rd_T64 y8_6 x5).f6, (rd_T64 y8_6 x5).f7, (rd_T64 y8_6 x5).f8⟩ : S64))).bind fun y10_7 => (if x5 < (y10_7.length : Int) then ((laws_markNodeS.fv ((rd_T64 y10_7 x5).f4) ((wrap64 ((wrap64 ((wrap64 ((wrap64 (x1 + 1)) + 1)) + 1)) + 1)))).bind fun t51 => ((some (y10_7.set (x5 : Int).toNat (⟨(rd_T64 y10_7 x5).f0, (rd_T64 y10_7 x5).f1, (rd_T64 y10_7 x5).f2, (rd_T64 y10_7 x5).f3, t51.2, (rd_T64 y10_7 x5).f5, (rd_T64 y10_7 x5).f6, (rd_T64 y10_7 x5).f7, (rd_T64 y10_7 x5).f8⟩ : S64))).bind fun y12_7 => (if x5 < (y12_7.length : Int) then ((some (y12_7.set (x5 : Int).toNat (⟨(rd_T64 y12_7 x5).f0, (rd_T64 y12_7 x5).f1, (rd_T64 y12_7 x5).f2, (rd_T64 y12_7 x5).f3, (rd_T64 y12_7 x5).f4, t51.1, (rd_T64 y12_7 x5).f6, (rd_T64 y12_7 x5).f7, (rd_T64 y12_7 x5).f8⟩ : S64))).bind fun y13_6 => (if x5 < (y13_6.length : Int) then ((some (y13_6.set (x5 : Int).toNat (⟨(rd_T64 y13_6 x5).f0, (rd_T64 y13_6 x5).f1, (rd_T64 y13_6 x5).f2, (rd_T64 y13_6 x5).f3, (rd_T64 y13_6 x5).f4, (rd_T64 y13_6 x5).f5, (wrap64 (t51.1 + 1)), (rd_T64 y13_6 x5).f7, (rd_T64 y13_6 x5).f8⟩ : S64))).bind fun y15_6 => ((laws_markText.fv ((wrap64 ((wrap64 (t51.1 + 1)) + 1)))).bind fun t71 => (if x5 < (y15_6.length : Int) then ((some (y15_6.set (x5 : Int).toNat (⟨(rd_T64 y15_6 x5).f0, (rd_T64 y15_6 x5).f1, (rd_T64 y15_6 x5).f2, (rd_T64 y15_6 x5).f3, (rd_T64 y15_6 x5).f4, (rd_T64 y15_6 x5).f5, (rd_T64 y15_6 x5).f6, t71, (rd_T64 y15_6 x5).f8⟩ : S64))).bind fun y17_7 => (if x5 < (y17_7.length : Int) then ((laws_markNodeS.fv ((rd_T64 y17_7 x5).f8) ((wrap64 ((wrap64 ((wrap64 (t51.1 + 1)) + 1)) + 1)))).bind fun t84 => ((some (y17_7.set (x5 : Int).toNat (⟨(rd_T64 y17_7 x5).f0, (rd_T64 y17_7 x5).f1, (rd_T64 y17_7 x5).f2, (rd_T64 y17_7 x5).f3, (rd_T64 y17_7 x5).f4, (rd_T64 y17_7 x5).f5, (rd_T64 y17_7 x5).f6, (rd_T64 y17_7 x5).f7, t84.2⟩ : S64))).bind fun y19_7 => (laws_markRuleS.l0v y19_7 t84.1 (wrap64 (x5 + 1))))) else (none))) else (none)))) else (none))) else (none)))) else (none))) else (none)))) else (none))) else (none))) else (none)) else (some (x1, x0))) := by
  show lim laws_markRuleS.B (.l0 x0 x1 x5) = _
  rw [lim_eq, laws_markRuleS.B]
  simp only [ev_ite, ev_opt, ev_ask, ev_to, ev_ret, ev_bad]
  try rfl
inductive laws_markStringS.Q where
  | f (l0 : List ByteArray) (a1 : Int)
  | l0 (x0 : List ByteArray) (x1 : Int) (x5 : Int)
def laws_markStringS.B : laws_markStringS.Q → Pg laws_markStringS.Q (fun _ => Int × (List ByteArray)) (Int × (List ByteArray))
  | .f l0 a1 => .to (.l0 l0 a1 0)
  | .l0 x0 x1 x5 => if x5 < (x0.length : Int) then (.opt (laws_markText.fv x1) fun t15 => (if 0 ≤ x5 then (.to (.l0 (x0.set (x5 : Int).toNat t15) (wrap64 (x1 + 1)) (wrap64 (x5 + 1)))) else (.bad))) else (.ret (x1, x0))
def laws_markStringS.fv (l0 : List ByteArray) (a1 : Int) : Option (Int × (List ByteArray)) := lim laws_markStringS.B (.f l0 a1)
def laws_markStringS.l0v (x0 : List ByteArray) (x1 : Int) (x5 : Int) : Option (Int × (List ByteArray)) := lim laws_markStringS.B (.l0 x0 x1 x5)
theorem laws_markStringS.fv_eq (l0 : List ByteArray) (a1 : Int) : laws_markStringS.fv l0 a1 = (laws_markStringS.l0v l0 a1 0) := by
  show lim laws_markStringS.B (.f l0 a1) = _
  rw [lim_eq, laws_markStringS.B]
  simp only [ev_ite, ev_opt, ev_ask, ev_to, ev_ret, ev_bad]
  try rfl
theorem laws_markStringS.l0v_eq (x0 : List ByteArray) (x1 : Int) (x5 : Int) : laws_markStringS.l0v x0 x1 x5 = (if x5 < (x0.length : Int) then ((laws_markText.fv x1).bind fun t15 => (if 0 ≤ x5 then (laws_markStringS.l0v (x0.set (x5 : Int).toNat t15) (wrap64 (x1 + 1)) (wrap64 (x5 + 1))) else (none))) else (some (x1, x0))) := by
  show lim laws_markStringS.B (.l0 x0 x1 x5) = _
  rw [lim_eq, laws_markStringS.B]
  simp only [ev_ite, ev_opt, ev_ask, ev_to, ev_ret, ev_bad]
  try rfl
inductive laws_heldStringS.Q where
  | f (l0 : List ByteArray) (a1 : Int)
  | l0 (x0 : List ByteArray) (x1 : Int) (x5 : Int)
def laws_heldStringS.B : laws_heldStringS.Q → Pg laws_heldStringS.Q (fun _ => Int) (Int)
  | .f l0 a1 => .to (.l0 l0 a1 0)
  | .l0 x0 x1 x5 => if x5 < (x0.length : Int) then (if 0 ≤ x5 then (.opt (laws_markText.fv x1) fun t17 => (if (rdOf ByteArray.empty x0 x5).toList = t17.toList then (.to (.l0 x0 (wrap64 (x1 + 1)) (wrap64 (x5 + 1)))) else (.ret (-1)))) else (.bad)) else (.ret x1)
def laws_heldStringS.fv (l0 : List ByteArray) (a1 : Int) : Option (Int) := lim laws_heldStringS.B (.f l0 a1)
def laws_heldStringS.l0v (x0 : List ByteArray) (x1 : Int) (x5 : Int) : Option (Int) := lim laws_heldStringS.B (.l0 x0 x1 x5)
theorem laws_heldStringS.fv_eq (l0 : List ByteArray) (a1 : Int) : laws_heldStringS.fv l0 a1 = (laws_heldStringS.l0v l0 a1 0) := by
  show lim laws_heldStringS.B (.f l0 a1) = _
  rw [lim_eq, laws_heldStringS.B]
  simp only [ev_ite, ev_opt, ev_ask, ev_to, ev_ret, ev_bad]
  try rfl
theorem laws_heldStringS.l0v_eq (x0 : List ByteArray) (x1 : Int) (x5 : Int) : laws_heldStringS.l0v x0 x1 x5 = (if x5 < (x0.length : Int) then (if 0 ≤ x5 then ((laws_markText.fv x1).bind fun t17 => (if (rdOf ByteArray.empty x0 x5).toList = t17.toList then (laws_heldStringS.l0v x0 (wrap64 (x1 + 1)) (wrap64 (x5 + 1))) else (some (-1)))) else (none)) else (some x1)) := by
  show lim laws_heldStringS.B (.l0 x0 x1 x5) = _
  rw [lim_eq, laws_heldStringS.B]
  simp only [ev_ite, ev_opt, ev_ask, ev_to, ev_ret, ev_bad]
  try rfl
inductive laws_eqStringS_2.Q where
  | f (l0 : List ByteArray) (l1 : List ByteArray)
  | l0 (x0 : List ByteArray) (x1 : List ByteArray) (x5 : Int)
def laws_eqStringS_2.B : laws_eqStringS_2.Q → Pg laws_eqStringS_2.Q (fun _ => Bool) (Bool)
  | .f l0 l1 => if (l0.length : Int) = (l1.length : Int) then (.to (.l0 l0 l1 0)) else (.ret false)
  | .l0 x0 x1 x5 => if x5 < (x0.length : Int) then (if 0 ≤ x5 then (if x5 < (x1.length : Int) then (if (rdOf ByteArray.empty x0 x5).toList = (rdOf ByteArray.empty x1 x5).toList then (.to (.l0 x0 x1 (wrap64 (x5 + 1)))) else (.ret false)) else (.bad)) else (.bad)) else (.ret true)
def laws_eqStringS_2.fv (l0 : List ByteArray) (l1 : List ByteArray) : Option (Bool) := lim laws_eqStringS_2.B (.f l0 l1)
def laws_eqStringS_2.l0v (x0 : List ByteArray) (x1 : List ByteArray) (x5 : Int) : Option (Bool) := lim laws_eqStringS_2.B (.l0 x0 x1 x5)
theorem laws_eqStringS_2.fv_eq (l0 : List ByteArray) (l1 : List ByteArray) : laws_eqStringS_2.fv l0 l1 = (if (l0.length : Int) = (l1.length : Int) then (laws_eqStringS_2.l0v l0 l1 0) else (some false)) := by
  show lim laws_eqStringS_2.B (.f l0 l1) = _
  rw [lim_eq, laws_eqStringS_2.B]
  simp only [ev_ite, ev_opt, ev_ask, ev_to, ev_ret, ev_bad]
  try rfl
theorem laws_eqStringS_2.l0v_eq (x0 : List ByteArray) (x1 : List ByteArray) (x5 : Int) : laws_eqStringS_2.l0v x0 x1 x5 = (if x5 < (x0.length : Int) then (if 0 ≤ x5 then (if x5 < (x1.length : Int) then (if (rdOf ByteArray.empty x0 x5).toList = (rdOf ByteArray.empty x1 x5).toList then (laws_eqStringS_2.l0v x0 x1 (wrap64 (x5 + 1))) else (some false)) else (none)) else (none)) else (some true)) := by
  show lim laws_eqStringS_2.B (.l0 x0 x1 x5) = _
  rw [lim_eq, laws_eqStringS_2.B]
  simp only [ev_ite, ev_opt, ev_ask, ev_to, ev_ret, ev_bad]
  try rfl
inductive laws_FnExactNames.Q where
  | f (l0 : List S58)
  | j0 (x0 : List S58) (x4 : List ByteArray) (x5 : List ByteArray) (x6 : List S64) (x7 : List ByteArray) (x8 : List ByteArray)
  | j1 (x0 : List S58) (x4 : List ByteArray) (x5 : List ByteArray) (x6 : List S64) (x7 : List ByteArray) (x8 : List ByteArray) (x41 : Bool)
  | j2 (x0 : List S58) (x4 : List ByteArray) (x5 : List ByteArray) (x7 : List ByteArray) (x8 : List ByteArray)
  | j3 (x0 : List S58) (x4 : List ByteArray) (x5 : List ByteArray) (x7 : List ByteArray) (x8 : List ByteArray) (x63 : Bool)
  | j4 (x7 : List ByteArray) (x8 : List ByteArray) (x10 : Int)
  | j5 (x7 : List ByteArray) (x8 : List ByteArray) (x10 : Int) (x98 : Bool)
def laws_FnExactNames.B : laws_FnExactNames.Q → Pg laws_FnExactNames.Q (fun _ => Bool) (Bool)
  | .f l0 => .opt (laws_szRuleS.fv l0 1048576) fun t16 => (if t16 < 0 then (.ret true) else (.opt (laws_toRuleS.fv l0) fun t21 => (.opt (spec_Names.fv t21) fun t22 => (.opt (laws_toRuleS.fv l0) fun t26 => (.opt (impl_Names.fv t26) fun t29 => (.opt (laws_eqStringS.fv t29.1 t22.1) fun t34 => (if t34 = true then (.opt (laws_eqStringS.fv t29.2 t22.2) fun t39 => (.to (.j1 l0 t22.1 t22.2 t26 t29.1 t29.2 (!t39)))) else (.to (.j1 l0 t22.1 t22.2 t26 t29.1 t29.2 true)))))))))
  | .j0 x0 x4 x5 x6 x7 x8 => .opt (laws_toRuleS.fv x0) fun t44 => (.opt (laws_eqRuleS.fv x6 t44) fun t45 => (if t45 = true then (.opt (laws_markRuleS.fv x6 1) fun t49 => (if t49.1 < 0 then (.to (.j3 x0 x4 x5 x7 x8 true)) else (.opt (laws_eqStringS.fv x7 x4) fun t55 => (if t55 = true then (.opt (laws_eqStringS.fv x8 x5) fun t61 => (.to (.j3 x0 x4 x5 x7 x8 (!t61)))) else (.to (.j3 x0 x4 x5 x7 x8 true)))))) else (.ret false)))
  | .j1 x0 x4 x5 x6 x7 x8 x41 => if x41 = true then (.ret false) else (.to (.j0 x0 x4 x5 x6 x7 x8))
  | .j2 x0 x4 x5 x7 x8 => .opt (laws_markStringS.fv x7 1) fun t66 => (.opt (laws_markStringS.fv x8 t66.1) fun t69 => (.opt (laws_heldStringS.fv t66.2 1) fun t72 => (if t72 < 0 then (.ret false) else (.opt (laws_heldStringS.fv t69.2 t72) fun t77 => (if t77 < 0 then (.ret false) else (if t77 = t69.1 then (.opt (laws_toRuleS.fv x0) fun t85 => (.opt (impl_Names.fv t85) fun t86 => (.opt (laws_eqStringS_2.fv t86.1 x4) fun t91 => (if t91 = true then (.opt (laws_eqStringS_2.fv t86.2 x5) fun t96 => (.to (.j5 t66.2 t69.2 t69.1 (!t96)))) else (.to (.j5 t66.2 t69.2 t69.1 true)))))) else (.ret false)))))))
  | .j3 x0 x4 x5 x7 x8 x63 => if x63 = true then (.ret false) else (.to (.j2 x0 x4 x5 x7 x8))
  | .j4 x7 x8 x10 => .opt (laws_heldStringS.fv x7 1) fun t101 => (if t101 < 0 then (.ret false) else (.opt (laws_heldStringS.fv x8 t101) fun t106 => (if t106 < 0 then (.ret false) else (if t106 = x10 then (.ret true) else (.ret false)))))
  | .j5 x7 x8 x10 x98 => if x98 = true then (.ret false) else (.to (.j4 x7 x8 x10))
def laws_FnExactNames.fv (l0 : List S58) : Option (Bool) := lim laws_FnExactNames.B (.f l0)
def laws_FnExactNames.j0v (x0 : List S58) (x4 : List ByteArray) (x5 : List ByteArray) (x6 : List S64) (x7 : List ByteArray) (x8 : List ByteArray) : Option (Bool) := lim laws_FnExactNames.B (.j0 x0 x4 x5 x6 x7 x8)
def laws_FnExactNames.j1v (x0 : List S58) (x4 : List ByteArray) (x5 : List ByteArray) (x6 : List S64) (x7 : List ByteArray) (x8 : List ByteArray) (x41 : Bool) : Option (Bool) := lim laws_FnExactNames.B (.j1 x0 x4 x5 x6 x7 x8 x41)
def laws_FnExactNames.j2v (x0 : List S58) (x4 : List ByteArray) (x5 : List ByteArray) (x7 : List ByteArray) (x8 : List ByteArray) : Option (Bool) := lim laws_FnExactNames.B (.j2 x0 x4 x5 x7 x8)
def laws_FnExactNames.j3v (x0 : List S58) (x4 : List ByteArray) (x5 : List ByteArray) (x7 : List ByteArray) (x8 : List ByteArray) (x63 : Bool) : Option (Bool) := lim laws_FnExactNames.B (.j3 x0 x4 x5 x7 x8 x63)
def laws_FnExactNames.j4v (x7 : List ByteArray) (x8 : List ByteArray) (x10 : Int) : Option (Bool) := lim laws_FnExactNames.B (.j4 x7 x8 x10)
def laws_FnExactNames.j5v (x7 : List ByteArray) (x8 : List ByteArray) (x10 : Int) (x98 : Bool) : Option (Bool) := lim laws_FnExactNames.B (.j5 x7 x8 x10 x98)
theorem laws_FnExactNames.fv_eq (l0 : List S58) : laws_FnExactNames.fv l0 = ((laws_szRuleS.fv l0 1048576).bind fun t16 => (if t16 < 0 then (some true) else ((laws_toRuleS.fv l0).bind fun t21 => ((spec_Names.fv t21).bind fun t22 => ((laws_toRuleS.fv l0).bind fun t26 => ((impl_Names.fv t26).bind fun t29 => ((laws_eqStringS.fv t29.1 t22.1).bind fun t34 => (if t34 = true then ((laws_eqStringS.fv t29.2 t22.2).bind fun t39 => (laws_FnExactNames.j1v l0 t22.1 t22.2 t26 t29.1 t29.2 (!t39))) else (laws_FnExactNames.j1v l0 t22.1 t22.2 t26 t29.1 t29.2 true))))))))) := by
  show lim laws_FnExactNames.B (.f l0) = _
  rw [lim_eq, laws_FnExactNames.B]
  simp only [ev_ite, ev_opt, ev_ask, ev_to, ev_ret, ev_bad]
  try rfl
theorem laws_FnExactNames.j0v_eq (x0 : List S58) (x4 : List ByteArray) (x5 : List ByteArray) (x6 : List S64) (x7 : List ByteArray) (x8 : List ByteArray) : laws_FnExactNames.j0v x0 x4 x5 x6 x7 x8 = ((laws_toRuleS.fv x0).bind fun t44 => ((laws_eqRuleS.fv x6 t44).bind fun t45 => (if t45 = true then ((laws_markRuleS.fv x6 1).bind fun t49 => (if t49.1 < 0 then (laws_FnExactNames.j3v x0 x4 x5 x7 x8 true) else ((laws_eqStringS.fv x7 x4).bind fun t55 => (if t55 = true then ((laws_eqStringS.fv x8 x5).bind fun t61 => (laws_FnExactNames.j3v x0 x4 x5 x7 x8 (!t61))) else (laws_FnExactNames.j3v x0 x4 x5 x7 x8 true))))) else (some false)))) := by
  show lim laws_FnExactNames.B (.j0 x0 x4 x5 x6 x7 x8) = _
  rw [lim_eq, laws_FnExactNames.B]
  simp only [ev_ite, ev_opt, ev_ask, ev_to, ev_ret, ev_bad]
  try rfl
theorem laws_FnExactNames.j1v_eq (x0 : List S58) (x4 : List ByteArray) (x5 : List ByteArray) (x6 : List S64) (x7 : List ByteArray) (x8 : List ByteArray) (x41 : Bool) : laws_FnExactNames.j1v x0 x4 x5 x6 x7 x8 x41 = (if x41 = true then (some false) else (laws_FnExactNames.j0v x0 x4 x5 x6 x7 x8)) := by
  show lim laws_FnExactNames.B (.j1 x0 x4 x5 x6 x7 x8 x41) = _
  rw [lim_eq, laws_FnExactNames.B]
  simp only [ev_ite, ev_opt, ev_ask, ev_to, ev_ret, ev_bad]
  try rfl
theorem laws_FnExactNames.j2v_eq (x0 : List S58) (x4 : List ByteArray) (x5 : List ByteArray) (x7 : List ByteArray) (x8 : List ByteArray) : laws_FnExactNames.j2v x0 x4 x5 x7 x8 = ((laws_markStringS.fv x7 1).bind fun t66 => ((laws_markStringS.fv x8 t66.1).bind fun t69 => ((laws_heldStringS.fv t66.2 1).bind fun t72 => (if t72 < 0 then (some false) else ((laws_heldStringS.fv t69.2 t72).bind fun t77 => (if t77 < 0 then (some false) else (if t77 = t69.1 then ((laws_toRuleS.fv x0).bind fun t85 => ((impl_Names.fv t85).bind fun t86 => ((laws_eqStringS_2.fv t86.1 x4).bind fun t91 => (if t91 = true then ((laws_eqStringS_2.fv t86.2 x5).bind fun t96 => (laws_FnExactNames.j5v t66.2 t69.2 t69.1 (!t96))) else (laws_FnExactNames.j5v t66.2 t69.2 t69.1 true))))) else (some false)))))))) := by
  show lim laws_FnExactNames.B (.j2 x0 x4 x5 x7 x8) = _
  rw [lim_eq, laws_FnExactNames.B]
  simp only [ev_ite, ev_opt, ev_ask, ev_to, ev_ret, ev_bad]
  try rfl
theorem laws_FnExactNames.j3v_eq (x0 : List S58) (x4 : List ByteArray) (x5 : List ByteArray) (x7 : List ByteArray) (x8 : List ByteArray) (x63 : Bool) : laws_FnExactNames.j3v x0 x4 x5 x7 x8 x63 = (if x63 = true then (some false) else (laws_FnExactNames.j2v x0 x4 x5 x7 x8)) := by
  show lim laws_FnExactNames.B (.j3 x0 x4 x5 x7 x8 x63) = _
  rw [lim_eq, laws_FnExactNames.B]
  simp only [ev_ite, ev_opt, ev_ask, ev_to, ev_ret, ev_bad]
  try rfl
theorem laws_FnExactNames.j4v_eq (x7 : List ByteArray) (x8 : List ByteArray) (x10 : Int) : laws_FnExactNames.j4v x7 x8 x10 = ((laws_heldStringS.fv x7 1).bind fun t101 => (if t101 < 0 then (some false) else ((laws_heldStringS.fv x8 t101).bind fun t106 => (if t106 < 0 then (some false) else (if t106 = x10 then (some true) else (some false)))))) := by
  show lim laws_FnExactNames.B (.j4 x7 x8 x10) = _
  rw [lim_eq, laws_FnExactNames.B]
  simp only [ev_ite, ev_opt, ev_ask, ev_to, ev_ret, ev_bad]
  try rfl
theorem laws_FnExactNames.j5v_eq (x7 : List ByteArray) (x8 : List ByteArray) (x10 : Int) (x98 : Bool) : laws_FnExactNames.j5v x7 x8 x10 x98 = (if x98 = true then (some false) else (laws_FnExactNames.j4v x7 x8 x10)) := by
  show lim laws_FnExactNames.B (.j5 x7 x8 x10 x98) = _
  rw [lim_eq, laws_FnExactNames.B]
  simp only [ev_ite, ev_opt, ev_ask, ev_to, ev_ret, ev_bad]
  try rfl
inductive Wf56 : S56 → Prop
  | mk (x : S56) (h0 : (Lit.int .i64 x.f0).wf = true) (h1 : (Lit.int .i64 x.f1).wf = true) (h2 : x.f2.size ≤ maxLen) (h3 : x.f3.length ≤ maxLen) (g3 : ∀ y, y ∈ x.f3 → Wf56 y) : Wf56 x
def Wf58 (x : S58) : Prop := (Lit.int .i64 x.f0).wf = true ∧ (Lit.int .i64 x.f1).wf = true ∧ (Lit.int .i64 x.f2).wf = true ∧ x.f3.size ≤ maxLen ∧ (x.f4.length ≤ maxLen ∧ ∀ x_ ∈ x.f4, Wf56 x_) ∧ (Lit.int .i64 x.f5).wf = true ∧ (Lit.int .i64 x.f6).wf = true ∧ x.f7.size ≤ maxLen ∧ (x.f8.length ≤ maxLen ∧ ∀ x_ ∈ x.f8, Wf56 x_)
def laws_FnExactNames.Pure : Prop := ∀ (x0 : List S58), (x0.length ≤ maxLen ∧ ∀ x_ ∈ x0, Wf58 x_) → laws_FnExactNames.fv x0 = some true
end
end Go.Proofs.Ytccldchklemogaa.QFnExactNames
