/- The functions that FnBrackets reaches, as they compute. -/
import Derived.Test.YtfdpehmefgfjgaaPg
import Derived.Test.YtfdpehmefgfjgaaMw
import Derived.Lib.Bytealg
import Derived.Lib.IndexMore
set_option linter.unusedVariables false
set_option linter.unusedSimpArgs false
set_option maxRecDepth 100000
namespace Go.Proofs.Ytfdpehmefgfjgaa.QFnBrackets
open Go.RowKit Go.Proofs.YtfdpehmefgfjgaaW.PrintWords Go.Proofs.YtfdpehmefgfjgaaW.Pgs
noncomputable section
structure S26 where
  f0 : Int
  f1 : Int
  f2 : ByteArray
  f3 : Bool
  f4 : (List S26)
def z26 : S26 := ⟨(0 : Int), (0 : Int), (⟨#[]⟩ : ByteArray), false, ([] : List S26)⟩
def rd_T26 (xs : List S26) (i : Int) : S26 := xs.getD i.toNat z26
structure S82 where
  f0 : Int
  f1 : Int
  f2 : ByteArray
  f3 : Bool
  f4 : Int
  f5 : Int
def z82 : S82 := ⟨(0 : Int), (0 : Int), (⟨#[]⟩ : ByteArray), false, (0 : Int), (0 : Int)⟩
def rd_T82 (xs : List S82) (i : Int) : S82 := xs.getD i.toNat z82
def strings_IndexByte.f (a0 : ByteArray) (a1 : Int) : Option (Int) := some (Lib.indexByte a0.data.toList a1.toNat.toUInt8)
def strings_Contains.f (a0 : ByteArray) (a1 : ByteArray) : Option (Bool) := if a0.size < 4294967281 then some (Lib.contains a0.data.toList a1.data.toList) else none
def laws_big.f (l0 : List Int) : Option (Bool) := some (decide ((l0.length : Int) > 1048576))
inductive spec_l1New.Q where
  | f (l0 : List Int)
  | l0 (x0 : List Int) (x3 : Int) (x4 : Int)
  | j0 (x0 : List Int) (x3 : Int) (x4 : Int)
  | j1 (x0 : List Int) (x3 : Int) (x4 : Int) (x15 : Bool)
def spec_l1New.B : spec_l1New.Q → Pg spec_l1New.Q (fun _ => (List Int) × Int × Int) ((List Int) × Int × Int)
  | .f l0 => .to (.l0 l0 ((wrap64 (20700 + (l0.length : Int)))) 0)
  | .l0 x0 x3 x4 => if x4 < (x0.length : Int) then (.to (.j1 x0 x3 x4 (decide (x4 < 4000)))) else (.to (.j1 x0 x3 x4 false))
  | .j0 x0 x3 x4 => if 0 ≤ x4 then (if x4 < (x0.length : Int) then (.to (.l0 x0 ((Go.bits .and .i64 (wrap64 ((wrap64 ((wrap64 (x3 * 131)) + (wrap64 (rdOf (0 : Int) x0 x4)))) + 7)) 1073741823)) (wrap64 (x4 + 1)))) else (.bad)) else (.bad)
  | .j1 x0 x3 x4 x15 => if x15 = true then (.to (.j0 x0 x3 x4)) else (.ret (x0, 0, x3))
def spec_l1New.fv (l0 : List Int) : Option ((List Int) × Int × Int) := lim spec_l1New.B (.f l0)
def spec_l1New.l0v (x0 : List Int) (x3 : Int) (x4 : Int) : Option ((List Int) × Int × Int) := lim spec_l1New.B (.l0 x0 x3 x4)
def spec_l1New.j0v (x0 : List Int) (x3 : Int) (x4 : Int) : Option ((List Int) × Int × Int) := lim spec_l1New.B (.j0 x0 x3 x4)
def spec_l1New.j1v (x0 : List Int) (x3 : Int) (x4 : Int) (x15 : Bool) : Option ((List Int) × Int × Int) := lim spec_l1New.B (.j1 x0 x3 x4 x15)
theorem spec_l1New.fv_eq (l0 : List Int) : spec_l1New.fv l0 = (spec_l1New.l0v l0 ((wrap64 (20700 + (l0.length : Int)))) 0) := by
  show lim spec_l1New.B (.f l0) = _
  rw [lim_eq, spec_l1New.B]
  simp only [ev_ite, ev_opt, ev_ask, ev_to, ev_ret, ev_bad]
  try rfl
theorem spec_l1New.l0v_eq (x0 : List Int) (x3 : Int) (x4 : Int) : spec_l1New.l0v x0 x3 x4 = (if x4 < (x0.length : Int) then (spec_l1New.j1v x0 x3 x4 (decide (x4 < 4000))) else (spec_l1New.j1v x0 x3 x4 false)) := by
  show lim spec_l1New.B (.l0 x0 x3 x4) = _
  rw [lim_eq, spec_l1New.B]
  simp only [ev_ite, ev_opt, ev_ask, ev_to, ev_ret, ev_bad]
  try rfl
theorem spec_l1New.j0v_eq (x0 : List Int) (x3 : Int) (x4 : Int) : spec_l1New.j0v x0 x3 x4 = (if 0 ≤ x4 then (if x4 < (x0.length : Int) then (spec_l1New.l0v x0 ((Go.bits .and .i64 (wrap64 ((wrap64 ((wrap64 (x3 * 131)) + (wrap64 (rdOf (0 : Int) x0 x4)))) + 7)) 1073741823)) (wrap64 (x4 + 1))) else (none)) else (none)) := by
  show lim spec_l1New.B (.j0 x0 x3 x4) = _
  rw [lim_eq, spec_l1New.B]
  simp only [ev_ite, ev_opt, ev_ask, ev_to, ev_ret, ev_bad]
  try rfl
theorem spec_l1New.j1v_eq (x0 : List Int) (x3 : Int) (x4 : Int) (x15 : Bool) : spec_l1New.j1v x0 x3 x4 x15 = (if x15 = true then (spec_l1New.j0v x0 x3 x4) else (some (x0, 0, x3))) := by
  show lim spec_l1New.B (.j1 x0 x3 x4 x15) = _
  rw [lim_eq, spec_l1New.B]
  simp only [ev_ite, ev_opt, ev_ask, ev_to, ev_ret, ev_bad]
  try rfl
def spec_l1Byte.f (l0_0 : List Int) (s0_1 : Int) (s0_2 : Int) : Option (Int × (List Int) × Int × Int) := if s0_1 < (l0_0.length : Int) then (if 0 ≤ s0_1 then (some ((Go.bits .and .i64 (wrap64 ((Go.bits .and .i64 (Go.bits .xor .i64 (shr .i64 (wrap64 ((wrap64 (s0_2 * 6364136223846793005)) + 1442695040888963407)) 33) (shr .i64 (wrap64 ((wrap64 (s0_2 * 6364136223846793005)) + 1442695040888963407)) 45)) 255) + (wrap64 (rdOf (0 : Int) l0_0 s0_1)))) 255), l0_0, (wrap64 (s0_1 + 1)), (wrap64 ((wrap64 (s0_2 * 6364136223846793005)) + 1442695040888963407)))) else (none)) else (some ((Go.bits .and .i64 (Go.bits .xor .i64 (shr .i64 (wrap64 ((wrap64 (s0_2 * 6364136223846793005)) + 1442695040888963407)) 33) (shr .i64 (wrap64 ((wrap64 (s0_2 * 6364136223846793005)) + 1442695040888963407)) 45)) 255), l0_0, s0_1, (wrap64 ((wrap64 (s0_2 * 6364136223846793005)) + 1442695040888963407))))
def spec_l1Below.f (l0_0 : List Int) (s0_1 : Int) (s0_2 : Int) (a1 : Int) : Option (Int × (List Int) × Int × Int) := if a1 ≤ 0 then (some (0, l0_0, s0_1, s0_2)) else (if a1 ≤ 256 then ((spec_l1Byte.f l0_0 s0_1 s0_2).bind fun t14 => (if a1 ≠ 0 then (some ((Int.tmod t14.1 a1), t14.2.1, t14.2.2.1, t14.2.2.2)) else (none))) else ((spec_l1Byte.f l0_0 s0_1 s0_2).bind fun t18 => ((spec_l1Byte.f t18.2.1 t18.2.2.1 t18.2.2.2).bind fun t20 => ((spec_l1Byte.f t20.2.1 t20.2.2.1 t20.2.2.2).bind fun t22 => ((spec_l1Byte.f t22.2.1 t22.2.2.1 t22.2.2.2).bind fun t24 => (if a1 ≠ 0 then (some ((Int.tmod (wrap64 ((wrap64 ((wrap64 ((wrap64 (t18.1 * 16777216)) + (wrap64 (t20.1 * 65536)))) + (wrap64 (t22.1 * 256)))) + t24.1)) a1), t24.2.1, t24.2.2.1, t24.2.2.2)) else (none)))))))
def spec_l1Pick.f (l0_0 : List Int) (s0_1 : Int) (s0_2 : Int) (l1 : List ByteArray) : Option (ByteArray × (List Int) × Int × Int) := (spec_l1Below.f l0_0 s0_1 s0_2 (l1.length : Int)).bind fun t9 => (if 0 ≤ t9.1 then (if t9.1 < (l1.length : Int) then (some ((rdOf ByteArray.empty l1 t9.1), t9.2.1, t9.2.2.1, t9.2.2.2)) else (none)) else (none))
def spec_l3DrawText.f (l0_0 : List Int) (s0_1 : Int) (s0_2 : Int) : Option (ByteArray × (List Int) × Int × Int) := (some ([(⟨#[97]⟩ : ByteArray), (⟨#[97, 98, 124, 99]⟩ : ByteArray), (⟨#[40, 97, 98, 41, 42]⟩ : ByteArray), (⟨#[97, 43, 98, 63]⟩ : ByteArray), (⟨#[94, 97]⟩ : ByteArray), (⟨#[98, 36]⟩ : ByteArray), (⟨#[91, 97, 45, 99, 93, 43]⟩ : ByteArray), (⟨#[91, 94, 98, 93]⟩ : ByteArray), (⟨#[46, 42, 98]⟩ : ByteArray), (⟨#[40, 97, 124, 98, 41, 43, 99]⟩ : ByteArray), (⟨#[]⟩ : ByteArray), (⟨#[97, 124, 124, 98]⟩ : ByteArray), (⟨#[40, 97, 42, 41, 42]⟩ : ByteArray), (⟨#[120, 92, 46, 121]⟩ : ByteArray), (⟨#[91, 93, 97, 93]⟩ : ByteArray), (⟨#[97, 40, 98]⟩ : ByteArray), (⟨#[42, 97]⟩ : ByteArray), (⟨#[40, 40, 97, 41, 41]⟩ : ByteArray), (⟨#[94, 36]⟩ : ByteArray), (⟨#[40, 94, 97, 124, 98, 36, 41, 42]⟩ : ByteArray), (⟨#[91, 98, 45, 97, 93]⟩ : ByteArray), (⟨#[97, 92]⟩ : ByteArray)] : List ByteArray)).bind fun y1_1 => ((spec_l1Pick.f l0_0 s0_1 s0_2 y1_1).bind fun t5 => (some (t5.1, t5.2.1, t5.2.2.1, t5.2.2.2)))
def spec_l3Dent.f (l0_0 : List Int) (s0_1 : Int) (s0_2 : Int) (a1 : ByteArray) : Option (ByteArray × (List Int) × Int × Int) := (spec_l1Below.f l0_0 s0_1 s0_2 ((wrap64 ((a1.size : Int) + 1)))).bind fun t10 => ((spec_l1Below.f t10.2.1 t10.2.2.1 t10.2.2.2 4).bind fun t12 => (if t12.1 = 0 then (if 0 ≤ t10.1 then (if t10.1 ≤ (a1.size : Int) then ((some ([(⟨#[97]⟩ : ByteArray), (⟨#[42]⟩ : ByteArray), (⟨#[40]⟩ : ByteArray), (⟨#[41]⟩ : ByteArray), (⟨#[124]⟩ : ByteArray), (⟨#[91]⟩ : ByteArray), (⟨#[93]⟩ : ByteArray), (⟨#[92]⟩ : ByteArray), (⟨#[46]⟩ : ByteArray)] : List ByteArray)).bind fun y4_4 => ((spec_l1Pick.f t12.2.1 t12.2.2.1 t12.2.2.2 y4_4).bind fun t20 => (if (a1.extract 0 (t10.1 : Int).toNat).size + t20.1.size ≤ 9223372036854775807 then (if ((a1.extract 0 (t10.1 : Int).toNat) ++ t20.1).size + (a1.extract (t10.1 : Int).toNat a1.size).size ≤ 9223372036854775807 then (some ((((a1.extract 0 (t10.1 : Int).toNat) ++ t20.1) ++ (a1.extract (t10.1 : Int).toNat a1.size)), t20.2.1, t20.2.2.1, t20.2.2.2)) else (none)) else (none)))) else (none)) else (none)) else (if t12.1 = 1 then ((spec_l3DrawText.f t12.2.1 t12.2.2.1 t12.2.2.2).bind fun t30 => (if a1.size + t30.1.size ≤ 9223372036854775807 then (some ((a1 ++ t30.1), t30.2.1, t30.2.2.1, t30.2.2.2)) else (none))) else (some (a1, t12.2.1, t12.2.2.1, t12.2.2.2)))))
def spec_l1Once.f (l0_0 : List Int) (s0_1 : Int) (s0_2 : Int) (a1 : Int) : Option (Bool × (List Int) × Int × Int) := (spec_l1Below.f l0_0 s0_1 s0_2 a1).bind fun t7 => (some ((t7.1 == 0), t7.2.1, t7.2.2.1, t7.2.2.2))
inductive spec_DrawRexParse.Q where
  | f (l0 : List Int)
  | j0 (x4 : ByteArray) (x1008208_0 : List Int) (x1008208_1 : Int) (x1008208_2 : Int)
  | l0 (x4 : ByteArray) (x1008208_0 : List Int) (x1008208_1 : Int) (x1008208_2 : Int)
def spec_DrawRexParse.B : spec_DrawRexParse.Q → Pg spec_DrawRexParse.Q (fun _ => ByteArray) (ByteArray)
  | .f l0 => .opt (spec_l1New.fv l0) fun t6 => (.opt (spec_l3DrawText.f t6.1 t6.2.1 t6.2.2) fun t9 => (.opt (spec_l3Dent.f t9.2.1 t9.2.2.1 t9.2.2.2 t9.1) fun t10 => (.opt (spec_l1Once.f t10.2.1 t10.2.2.1 t10.2.2.2 30) fun t12 => (if t12.1 = true then (.to (.l0 t10.1 t12.2.1 t12.2.2.1 t12.2.2.2)) else (.to (.j0 t10.1 t12.2.1 t12.2.2.1 t12.2.2.2))))))
  | .j0 x4 x1008208_0 x1008208_1 x1008208_2 => .opt (spec_l1Once.f x1008208_0 x1008208_1 x1008208_2 30) fun t22 => (if t22.1 = true then (.ret (⟨#[40, 40, 40, 40, 40, 40, 40, 40, 40, 40, 40, 40, 97, 42, 41, 42, 41, 42, 41, 42, 41, 42, 41, 42, 41, 42, 41, 42, 41, 42, 41, 42, 41, 42, 41, 42, 41, 42]⟩ : ByteArray)) else (.ret x4))
  | .l0 x4 x1008208_0 x1008208_1 x1008208_2 => .opt (spec_l1Below.f x1008208_0 x1008208_1 x1008208_2 2) fun t16 => (if (x4.size : Int) < (wrap64 (60 + t16.1)) then (if x4.size + (⟨#[97]⟩ : ByteArray).size ≤ 9223372036854775807 then (.to (.l0 (x4 ++ (⟨#[97]⟩ : ByteArray)) t16.2.1 t16.2.2.1 t16.2.2.2)) else (.bad)) else (.to (.j0 x4 t16.2.1 t16.2.2.1 t16.2.2.2)))
def spec_DrawRexParse.fv (l0 : List Int) : Option (ByteArray) := lim spec_DrawRexParse.B (.f l0)
def spec_DrawRexParse.j0v (x4 : ByteArray) (x1008208_0 : List Int) (x1008208_1 : Int) (x1008208_2 : Int) : Option (ByteArray) := lim spec_DrawRexParse.B (.j0 x4 x1008208_0 x1008208_1 x1008208_2)
def spec_DrawRexParse.l0v (x4 : ByteArray) (x1008208_0 : List Int) (x1008208_1 : Int) (x1008208_2 : Int) : Option (ByteArray) := lim spec_DrawRexParse.B (.l0 x4 x1008208_0 x1008208_1 x1008208_2)
theorem spec_DrawRexParse.fv_eq (l0 : List Int) : spec_DrawRexParse.fv l0 = ((spec_l1New.fv l0).bind fun t6 => ((spec_l3DrawText.f t6.1 t6.2.1 t6.2.2).bind fun t9 => ((spec_l3Dent.f t9.2.1 t9.2.2.1 t9.2.2.2 t9.1).bind fun t10 => ((spec_l1Once.f t10.2.1 t10.2.2.1 t10.2.2.2 30).bind fun t12 => (if t12.1 = true then (spec_DrawRexParse.l0v t10.1 t12.2.1 t12.2.2.1 t12.2.2.2) else (spec_DrawRexParse.j0v t10.1 t12.2.1 t12.2.2.1 t12.2.2.2)))))) := by
  show lim spec_DrawRexParse.B (.f l0) = _
  rw [lim_eq, spec_DrawRexParse.B]
  simp only [ev_ite, ev_opt, ev_ask, ev_to, ev_ret, ev_bad]
  try rfl
theorem spec_DrawRexParse.j0v_eq (x4 : ByteArray) (x1008208_0 : List Int) (x1008208_1 : Int) (x1008208_2 : Int) : spec_DrawRexParse.j0v x4 x1008208_0 x1008208_1 x1008208_2 = ((spec_l1Once.f x1008208_0 x1008208_1 x1008208_2 30).bind fun t22 => (if t22.1 = true then (some (⟨#[40, 40, 40, 40, 40, 40, 40, 40, 40, 40, 40, 40, 97, 42, 41, 42, 41, 42, 41, 42, 41, 42, 41, 42, 41, 42, 41, 42, 41, 42, 41, 42, 41, 42, 41, 42, 41, 42]⟩ : ByteArray)) else (some x4))) := by
  show lim spec_DrawRexParse.B (.j0 x4 x1008208_0 x1008208_1 x1008208_2) = _
  rw [lim_eq, spec_DrawRexParse.B]
  simp only [ev_ite, ev_opt, ev_ask, ev_to, ev_ret, ev_bad]
  try rfl
theorem spec_DrawRexParse.l0v_eq (x4 : ByteArray) (x1008208_0 : List Int) (x1008208_1 : Int) (x1008208_2 : Int) : spec_DrawRexParse.l0v x4 x1008208_0 x1008208_1 x1008208_2 = ((spec_l1Below.f x1008208_0 x1008208_1 x1008208_2 2).bind fun t16 => (if (x4.size : Int) < (wrap64 (60 + t16.1)) then (if x4.size + (⟨#[97]⟩ : ByteArray).size ≤ 9223372036854775807 then (spec_DrawRexParse.l0v (x4 ++ (⟨#[97]⟩ : ByteArray)) t16.2.1 t16.2.2.1 t16.2.2.2) else (none)) else (spec_DrawRexParse.j0v x4 t16.2.1 t16.2.2.1 t16.2.2.2))) := by
  show lim spec_DrawRexParse.B (.l0 x4 x1008208_0 x1008208_1 x1008208_2) = _
  rw [lim_eq, spec_DrawRexParse.B]
  simp only [ev_ite, ev_opt, ev_ask, ev_to, ev_ret, ev_bad]
  try rfl
def impl_rexReader_next.f (s0_0 : ByteArray) (s0_1 : Bool) : Option (Int × Bool × ByteArray × Bool) := if s0_0.toList = ([] : List UInt8) then (some (0, false, s0_0, s0_1)) else (if s0_1 = true then (some (0, false, s0_0, s0_1)) else (if 0 < (s0_0.size : Int) then (some ((bt s0_0 0), true, s0_0, s0_1)) else (none)))
def impl_rexReader_take.f (s0_0 : ByteArray) (s0_1 : Bool) (a1 : Int) : Option (Bool × ByteArray × Bool) := (impl_rexReader_next.f s0_0 s0_1).bind fun t9 => (if t9.2.1 = true then (if t9.1 = a1 then (if 1 ≤ (t9.2.2.1.size : Int) then (some (true, (t9.2.2.1.extract 1 t9.2.2.1.size), t9.2.2.2)) else (none)) else (some (false, t9.2.2.1, t9.2.2.2))) else (some (false, t9.2.2.1, t9.2.2.2)))
inductive impl_rexReader_set.Q where
  | f (s0_0 : ByteArray) (s0_1 : Bool)
  | l0 (x5 : ByteArray) (x6 : List Bool) (x7 : Int) (x1000 : ByteArray) (x1001 : Bool) (x531_0 : Int) (x531_1 : Int) (x531_2 : ByteArray) (x531_3 : Bool)
  | j2 (x5 : ByteArray) (x6 : List Bool) (x7 : Int) (x8 : Int) (x9 : Int) (x1000 : ByteArray) (x1001 : Bool) (x531_0 : Int) (x531_1 : Int) (x531_2 : ByteArray) (x531_3 : Bool)
  | j1 (x5 : ByteArray) (x6 : List Bool) (x7 : Int) (x8 : Int) (x9 : Int) (x70 : Bool) (x1000 : ByteArray) (x1001 : Bool) (x531_0 : Int) (x531_1 : Int) (x531_2 : ByteArray) (x531_3 : Bool)
  | l1 (x5 : ByteArray) (x6 : List Bool) (x7 : Int) (x9 : Int) (x10 : Int) (x1000 : ByteArray) (x1001 : Bool) (x531_0 : Int) (x531_1 : Int) (x531_2 : ByteArray) (x531_3 : Bool)
  | l2 (x11 : List Int) (x100 : List Bool) (x101 : Int) (x102 : Int) (x1000 : ByteArray) (x1001 : Bool) (x531_0 : Int) (x531_1 : Int) (x531_2 : ByteArray) (x531_3 : Bool)
def impl_rexReader_set.B : impl_rexReader_set.Q → Pg impl_rexReader_set.Q (fun _ => Int × Int × ByteArray × Bool × (List S26) × ByteArray × Bool) (Int × Int × ByteArray × Bool × (List S26) × ByteArray × Bool)
  | .f s0_0 s0_1 => .opt (impl_rexReader_take.f s0_0 s0_1 94) fun t15 => (.opt (strings_IndexByte.f t15.2.1 93) fun t21 => (if t21 < 1 then (.ret (0, 0, (⟨#[]⟩ : ByteArray), false, ([] : List S26), t15.2.1, true)) else (if 0 ≤ t21 then (if t21 ≤ (t15.2.1.size : Int) then (if 0 ≤ (wrap64 (t21 + 1)) then (if (wrap64 (t21 + 1)) ≤ (t15.2.1.size : Int) then (if 256 ≤ 281474976710656 then (.to (.l0 (t15.2.1.extract 0 (t21 : Int).toNat) (List.replicate 256 false) 0 ((t15.2.1.extract ((wrap64 (t21 + 1)) : Int).toNat t15.2.1.size)) t15.2.2 3 0 (⟨#[]⟩ : ByteArray) t15.1)) else (.bad)) else (.bad)) else (.bad)) else (.bad)) else (.bad))))
  | .l0 x5 x6 x7 x1000 x1001 x531_0 x531_1 x531_2 x531_3 => if x7 < (x5.size : Int) then (if 0 ≤ x7 then (if (wrap64 (x7 + 2)) < (x5.size : Int) then (if 0 ≤ (wrap64 (x7 + 1)) then (if (wrap64 (x7 + 1)) < (x5.size : Int) then (.to (.j1 x5 x6 x7 (wrap64 (bt x5 x7)) (wrap64 (bt x5 x7)) (((bt x5 (wrap64 (x7 + 1))) == 45)) x1000 x1001 x531_0 x531_1 x531_2 x531_3)) else (.bad)) else (.bad)) else (.to (.j1 x5 x6 x7 (wrap64 (bt x5 x7)) (wrap64 (bt x5 x7)) false x1000 x1001 x531_0 x531_1 x531_2 x531_3))) else (.bad)) else (.to (.l2 ([] : List Int) x6 (x6.length : Int) 0 x1000 x1001 x531_0 x531_1 x531_2 x531_3))
  | .j2 x5 x6 x7 x8 x9 x1000 x1001 x531_0 x531_1 x531_2 x531_3 => .to (.l1 x5 x6 x7 x9 x8 x1000 x1001 x531_0 x531_1 x531_2 x531_3)
  | .j1 x5 x6 x7 x8 x9 x70 x1000 x1001 x531_0 x531_1 x531_2 x531_3 => if x70 = true then (if 0 ≤ (wrap64 (x7 + 2)) then (if (wrap64 (x7 + 2)) < (x5.size : Int) then (if x1001 = true then (.to (.j2 x5 x6 (wrap64 (x7 + 2)) x8 ((wrap64 (bt x5 (wrap64 (x7 + 2))))) x1000 true x531_0 x531_1 x531_2 x531_3)) else (.to (.j2 x5 x6 (wrap64 (x7 + 2)) x8 ((wrap64 (bt x5 (wrap64 (x7 + 2))))) x1000 ((decide ((wrap64 (bt x5 (wrap64 (x7 + 2)))) < x8))) x531_0 x531_1 x531_2 x531_3))) else (.bad)) else (.bad)) else (.to (.j2 x5 x6 x7 x8 x9 x1000 x1001 x531_0 x531_1 x531_2 x531_3))
  | .l1 x5 x6 x7 x9 x10 x1000 x1001 x531_0 x531_1 x531_2 x531_3 => if x10 ≤ x9 then (if 0 ≤ x10 then (if x10 < (x6.length : Int) then (.to (.l1 x5 (x6.set (x10 : Int).toNat true) x7 x9 (wrap64 (x10 + 1)) x1000 x1001 x531_0 x531_1 x531_2 x531_3)) else (.bad)) else (.bad)) else (.to (.l0 x5 x6 (wrap64 (x7 + 1)) x1000 x1001 x531_0 x531_1 x531_2 x531_3))
  | .l2 x11 x100 x101 x102 x1000 x1001 x531_0 x531_1 x531_2 x531_3 => if x102 < x101 then (if 0 ≤ x102 then (if x102 < (x100.length : Int) then (if (rdOf false x100 x102) = true then (if x11.length < 140737488355328 then (.to (.l2 ((x11 ++ [((x102) % 256)])) x100 x101 (wrap64 (x102 + 1)) x1000 x1001 x531_0 x531_1 x531_2 x531_3)) else (.bad)) else (.to (.l2 x11 x100 x101 (wrap64 (x102 + 1)) x1000 x1001 x531_0 x531_1 x531_2 x531_3))) else (.bad)) else (.bad)) else (.ret (x531_0, x531_1, (strOfNums x11), x531_3, ([] : List S26), x1000, x1001))
def impl_rexReader_set.fv (s0_0 : ByteArray) (s0_1 : Bool) : Option (Int × Int × ByteArray × Bool × (List S26) × ByteArray × Bool) := lim impl_rexReader_set.B (.f s0_0 s0_1)
def impl_rexReader_set.l0v (x5 : ByteArray) (x6 : List Bool) (x7 : Int) (x1000 : ByteArray) (x1001 : Bool) (x531_0 : Int) (x531_1 : Int) (x531_2 : ByteArray) (x531_3 : Bool) : Option (Int × Int × ByteArray × Bool × (List S26) × ByteArray × Bool) := lim impl_rexReader_set.B (.l0 x5 x6 x7 x1000 x1001 x531_0 x531_1 x531_2 x531_3)
def impl_rexReader_set.j2v (x5 : ByteArray) (x6 : List Bool) (x7 : Int) (x8 : Int) (x9 : Int) (x1000 : ByteArray) (x1001 : Bool) (x531_0 : Int) (x531_1 : Int) (x531_2 : ByteArray) (x531_3 : Bool) : Option (Int × Int × ByteArray × Bool × (List S26) × ByteArray × Bool) := lim impl_rexReader_set.B (.j2 x5 x6 x7 x8 x9 x1000 x1001 x531_0 x531_1 x531_2 x531_3)
def impl_rexReader_set.j1v (x5 : ByteArray) (x6 : List Bool) (x7 : Int) (x8 : Int) (x9 : Int) (x70 : Bool) (x1000 : ByteArray) (x1001 : Bool) (x531_0 : Int) (x531_1 : Int) (x531_2 : ByteArray) (x531_3 : Bool) : Option (Int × Int × ByteArray × Bool × (List S26) × ByteArray × Bool) := lim impl_rexReader_set.B (.j1 x5 x6 x7 x8 x9 x70 x1000 x1001 x531_0 x531_1 x531_2 x531_3)
def impl_rexReader_set.l1v (x5 : ByteArray) (x6 : List Bool) (x7 : Int) (x9 : Int) (x10 : Int) (x1000 : ByteArray) (x1001 : Bool) (x531_0 : Int) (x531_1 : Int) (x531_2 : ByteArray) (x531_3 : Bool) : Option (Int × Int × ByteArray × Bool × (List S26) × ByteArray × Bool) := lim impl_rexReader_set.B (.l1 x5 x6 x7 x9 x10 x1000 x1001 x531_0 x531_1 x531_2 x531_3)
def impl_rexReader_set.l2v (x11 : List Int) (x100 : List Bool) (x101 : Int) (x102 : Int) (x1000 : ByteArray) (x1001 : Bool) (x531_0 : Int) (x531_1 : Int) (x531_2 : ByteArray) (x531_3 : Bool) : Option (Int × Int × ByteArray × Bool × (List S26) × ByteArray × Bool) := lim impl_rexReader_set.B (.l2 x11 x100 x101 x102 x1000 x1001 x531_0 x531_1 x531_2 x531_3)
theorem impl_rexReader_set.fv_eq (s0_0 : ByteArray) (s0_1 : Bool) : impl_rexReader_set.fv s0_0 s0_1 = ((impl_rexReader_take.f s0_0 s0_1 94).bind fun t15 => ((strings_IndexByte.f t15.2.1 93).bind fun t21 => (if t21 < 1 then (some (0, 0, (⟨#[]⟩ : ByteArray), false, ([] : List S26), t15.2.1, true)) else (if 0 ≤ t21 then (if t21 ≤ (t15.2.1.size : Int) then (if 0 ≤ (wrap64 (t21 + 1)) then (if (wrap64 (t21 + 1)) ≤ (t15.2.1.size : Int) then (if 256 ≤ 281474976710656 then (impl_rexReader_set.l0v (t15.2.1.extract 0 (t21 : Int).toNat) (List.replicate 256 false) 0 ((t15.2.1.extract ((wrap64 (t21 + 1)) : Int).toNat t15.2.1.size)) t15.2.2 3 0 (⟨#[]⟩ : ByteArray) t15.1) else (none)) else (none)) else (none)) else (none)) else (none))))) := by
  show lim impl_rexReader_set.B (.f s0_0 s0_1) = _
  rw [lim_eq, impl_rexReader_set.B]
  simp only [ev_ite, ev_opt, ev_ask, ev_to, ev_ret, ev_bad]
  try rfl
theorem impl_rexReader_set.l0v_eq (x5 : ByteArray) (x6 : List Bool) (x7 : Int) (x1000 : ByteArray) (x1001 : Bool) (x531_0 : Int) (x531_1 : Int) (x531_2 : ByteArray) (x531_3 : Bool) : impl_rexReader_set.l0v x5 x6 x7 x1000 x1001 x531_0 x531_1 x531_2 x531_3 = (if x7 < (x5.size : Int) then (if 0 ≤ x7 then (if (wrap64 (x7 + 2)) < (x5.size : Int) then (if 0 ≤ (wrap64 (x7 + 1)) then (if (wrap64 (x7 + 1)) < (x5.size : Int) then (impl_rexReader_set.j1v x5 x6 x7 (wrap64 (bt x5 x7)) (wrap64 (bt x5 x7)) (((bt x5 (wrap64 (x7 + 1))) == 45)) x1000 x1001 x531_0 x531_1 x531_2 x531_3) else (none)) else (none)) else (impl_rexReader_set.j1v x5 x6 x7 (wrap64 (bt x5 x7)) (wrap64 (bt x5 x7)) false x1000 x1001 x531_0 x531_1 x531_2 x531_3)) else (none)) else (impl_rexReader_set.l2v ([] : List Int) x6 (x6.length : Int) 0 x1000 x1001 x531_0 x531_1 x531_2 x531_3)) := by
  show lim impl_rexReader_set.B (.l0 x5 x6 x7 x1000 x1001 x531_0 x531_1 x531_2 x531_3) = _
  rw [lim_eq, impl_rexReader_set.B]
  simp only [ev_ite, ev_opt, ev_ask, ev_to, ev_ret, ev_bad]
  try rfl
theorem impl_rexReader_set.j2v_eq (x5 : ByteArray) (x6 : List Bool) (x7 : Int) (x8 : Int) (x9 : Int) (x1000 : ByteArray) (x1001 : Bool) (x531_0 : Int) (x531_1 : Int) (x531_2 : ByteArray) (x531_3 : Bool) : impl_rexReader_set.j2v x5 x6 x7 x8 x9 x1000 x1001 x531_0 x531_1 x531_2 x531_3 = (impl_rexReader_set.l1v x5 x6 x7 x9 x8 x1000 x1001 x531_0 x531_1 x531_2 x531_3) := by
  show lim impl_rexReader_set.B (.j2 x5 x6 x7 x8 x9 x1000 x1001 x531_0 x531_1 x531_2 x531_3) = _
  rw [lim_eq, impl_rexReader_set.B]
  simp only [ev_ite, ev_opt, ev_ask, ev_to, ev_ret, ev_bad]
  try rfl
theorem impl_rexReader_set.j1v_eq (x5 : ByteArray) (x6 : List Bool) (x7 : Int) (x8 : Int) (x9 : Int) (x70 : Bool) (x1000 : ByteArray) (x1001 : Bool) (x531_0 : Int) (x531_1 : Int) (x531_2 : ByteArray) (x531_3 : Bool) : impl_rexReader_set.j1v x5 x6 x7 x8 x9 x70 x1000 x1001 x531_0 x531_1 x531_2 x531_3 = (if x70 = true then (if 0 ≤ (wrap64 (x7 + 2)) then (if (wrap64 (x7 + 2)) < (x5.size : Int) then (if x1001 = true then (impl_rexReader_set.j2v x5 x6 (wrap64 (x7 + 2)) x8 ((wrap64 (bt x5 (wrap64 (x7 + 2))))) x1000 true x531_0 x531_1 x531_2 x531_3) else (impl_rexReader_set.j2v x5 x6 (wrap64 (x7 + 2)) x8 ((wrap64 (bt x5 (wrap64 (x7 + 2))))) x1000 ((decide ((wrap64 (bt x5 (wrap64 (x7 + 2)))) < x8))) x531_0 x531_1 x531_2 x531_3)) else (none)) else (none)) else (impl_rexReader_set.j2v x5 x6 x7 x8 x9 x1000 x1001 x531_0 x531_1 x531_2 x531_3)) := by
  show lim impl_rexReader_set.B (.j1 x5 x6 x7 x8 x9 x70 x1000 x1001 x531_0 x531_1 x531_2 x531_3) = _
  rw [lim_eq, impl_rexReader_set.B]
  simp only [ev_ite, ev_opt, ev_ask, ev_to, ev_ret, ev_bad]
  try rfl
theorem impl_rexReader_set.l1v_eq (x5 : ByteArray) (x6 : List Bool) (x7 : Int) (x9 : Int) (x10 : Int) (x1000 : ByteArray) (x1001 : Bool) (x531_0 : Int) (x531_1 : Int) (x531_2 : ByteArray) (x531_3 : Bool) : impl_rexReader_set.l1v x5 x6 x7 x9 x10 x1000 x1001 x531_0 x531_1 x531_2 x531_3 = (if x10 ≤ x9 then (if 0 ≤ x10 then (if x10 < (x6.length : Int) then (impl_rexReader_set.l1v x5 (x6.set (x10 : Int).toNat true) x7 x9 (wrap64 (x10 + 1)) x1000 x1001 x531_0 x531_1 x531_2 x531_3) else (none)) else (none)) else (impl_rexReader_set.l0v x5 x6 (wrap64 (x7 + 1)) x1000 x1001 x531_0 x531_1 x531_2 x531_3)) := by
  show lim impl_rexReader_set.B (.l1 x5 x6 x7 x9 x10 x1000 x1001 x531_0 x531_1 x531_2 x531_3) = _
  rw [lim_eq, impl_rexReader_set.B]
  simp only [ev_ite, ev_opt, ev_ask, ev_to, ev_ret, ev_bad]
  try rfl
theorem impl_rexReader_set.l2v_eq (x11 : List Int) (x100 : List Bool) (x101 : Int) (x102 : Int) (x1000 : ByteArray) (x1001 : Bool) (x531_0 : Int) (x531_1 : Int) (x531_2 : ByteArray) (x531_3 : Bool) : impl_rexReader_set.l2v x11 x100 x101 x102 x1000 x1001 x531_0 x531_1 x531_2 x531_3 = (if x102 < x101 then (if 0 ≤ x102 then (if x102 < (x100.length : Int) then (if (rdOf false x100 x102) = true then (if x11.length < 140737488355328 then (impl_rexReader_set.l2v ((x11 ++ [((x102) % 256)])) x100 x101 (wrap64 (x102 + 1)) x1000 x1001 x531_0 x531_1 x531_2 x531_3) else (none)) else (impl_rexReader_set.l2v x11 x100 x101 (wrap64 (x102 + 1)) x1000 x1001 x531_0 x531_1 x531_2 x531_3)) else (none)) else (none)) else (some (x531_0, x531_1, (strOfNums x11), x531_3, ([] : List S26), x1000, x1001))) := by
  show lim impl_rexReader_set.B (.l2 x11 x100 x101 x102 x1000 x1001 x531_0 x531_1 x531_2 x531_3) = _
  rw [lim_eq, impl_rexReader_set.B]
  simp only [ev_ite, ev_opt, ev_ask, ev_to, ev_ret, ev_bad]
  try rfl
def impl_repeatOf.f (a0 : Int) : Option (Int) := if a0 = 42 then (some 8) else (if a0 = 43 then (some 9) else (if a0 = 63 then (some 10) else (some 0)))
inductive impl_rexReader_pattern.Q where
  | impl_rexReader_pattern_f (s0_0 : ByteArray) (s0_1 : Bool)
  | impl_rexReader_pattern_l0 (x3 : List S26) (x1000 : ByteArray) (x1001 : Bool)
  | impl_rexReader_part_f (s0_0 : ByteArray) (s0_1 : Bool)
  | impl_rexReader_part_j1 (x3 : List S26) (x1000 : ByteArray) (x1001 : Bool)
  | impl_rexReader_part_l0 (x3 : List S26) (x1000 : ByteArray) (x1001 : Bool)
  | impl_rexReader_piece_f (s0_0 : ByteArray) (s0_1 : Bool)
  | impl_rexReader_piece_l0 (x1000 : ByteArray) (x1001 : Bool) (x530_0 : Int) (x530_1 : Int) (x530_2 : ByteArray) (x530_3 : Bool) (x530_4 : List S26)
  | impl_rexReader_atom_f (s0_0 : ByteArray) (s0_1 : Bool)
def impl_rexReader_pattern.B : impl_rexReader_pattern.Q → Pg impl_rexReader_pattern.Q (fun _ => Int × Int × ByteArray × Bool × (List S26) × ByteArray × Bool) (Int × Int × ByteArray × Bool × (List S26) × ByteArray × Bool)
  | .impl_rexReader_pattern_f s0_0 s0_1 => .ask (.impl_rexReader_part_f s0_0 s0_1) fun (t5 : Int × Int × ByteArray × Bool × (List S26) × ByteArray × Bool) => (.to (.impl_rexReader_pattern_l0 ([(⟨t5.1, t5.2.1, t5.2.2.1, t5.2.2.2.1, t5.2.2.2.2.1⟩ : S26)] : List S26) t5.2.2.2.2.2.1 t5.2.2.2.2.2.2))
  | .impl_rexReader_pattern_l0 x3 x1000 x1001 => .opt (impl_rexReader_take.f x1000 x1001 124) fun t8 => (if t8.1 = true then (.ask (.impl_rexReader_part_f t8.2.1 t8.2.2) fun (t11 : Int × Int × ByteArray × Bool × (List S26) × ByteArray × Bool) => (if x3.length < 2199023255552 then (.to (.impl_rexReader_pattern_l0 (x3 ++ [(⟨t11.1, t11.2.1, t11.2.2.1, t11.2.2.2.1, t11.2.2.2.2.1⟩ : S26)]) t11.2.2.2.2.2.1 t11.2.2.2.2.2.2)) else (.bad))) else (if (x3.length : Int) = 1 then (if 0 < (x3.length : Int) then (.ret ((rd_T26 x3 0).f0, (rd_T26 x3 0).f1, (rd_T26 x3 0).f2, (rd_T26 x3 0).f3, (rd_T26 x3 0).f4, t8.2.1, t8.2.2)) else (.bad)) else (.ret (7, 0, (⟨#[]⟩ : ByteArray), false, x3, t8.2.1, t8.2.2))))
  | .impl_rexReader_part_f s0_0 s0_1 => .to (.impl_rexReader_part_l0 ([] : List S26) s0_0 s0_1)
  | .impl_rexReader_part_j1 x3 x1000 x1001 => if (x3.length : Int) = 0 then (.ret (11, 0, (⟨#[]⟩ : ByteArray), false, ([] : List S26), x1000, x1001)) else (if (x3.length : Int) = 1 then (if 0 < (x3.length : Int) then (.ret ((rd_T26 x3 0).f0, (rd_T26 x3 0).f1, (rd_T26 x3 0).f2, (rd_T26 x3 0).f3, (rd_T26 x3 0).f4, x1000, x1001)) else (.bad)) else (.ret (6, 0, (⟨#[]⟩ : ByteArray), false, x3, x1000, x1001)))
  | .impl_rexReader_part_l0 x3 x1000 x1001 => .opt (impl_rexReader_next.f x1000 x1001) fun t9 => (if t9.2.1 = true then (if t9.1 = 124 then (.to (.impl_rexReader_part_j1 x3 t9.2.2.1 t9.2.2.2)) else (if t9.1 = 41 then (.to (.impl_rexReader_part_j1 x3 t9.2.2.1 t9.2.2.2)) else (.ask (.impl_rexReader_piece_f t9.2.2.1 t9.2.2.2) fun (t24 : Int × Int × ByteArray × Bool × (List S26) × ByteArray × Bool) => (if x3.length < 2199023255552 then (.to (.impl_rexReader_part_l0 (x3 ++ [(⟨t24.1, t24.2.1, t24.2.2.1, t24.2.2.2.1, t24.2.2.2.2.1⟩ : S26)]) t24.2.2.2.2.2.1 t24.2.2.2.2.2.2)) else (.bad))))) else (.to (.impl_rexReader_part_j1 x3 t9.2.2.1 t9.2.2.2)))
  | .impl_rexReader_piece_f s0_0 s0_1 => .ask (.impl_rexReader_atom_f s0_0 s0_1) fun (t7 : Int × Int × ByteArray × Bool × (List S26) × ByteArray × Bool) => (.to (.impl_rexReader_piece_l0 t7.2.2.2.2.2.1 t7.2.2.2.2.2.2 t7.1 t7.2.1 t7.2.2.1 t7.2.2.2.1 t7.2.2.2.2.1))
  | .impl_rexReader_piece_l0 x1000 x1001 x530_0 x530_1 x530_2 x530_3 x530_4 => .opt (impl_rexReader_next.f x1000 x1001) fun t10 => (if t10.2.1 = true then (.opt (impl_repeatOf.f t10.1) fun t17 => (if t17 = 0 then (.ret (x530_0, x530_1, x530_2, x530_3, x530_4, t10.2.2.1, t10.2.2.2)) else (if 1 ≤ (t10.2.2.1.size : Int) then (.opt (impl_repeatOf.f t10.1) fun t30 => (.to (.impl_rexReader_piece_l0 (t10.2.2.1.extract 1 t10.2.2.1.size) t10.2.2.2 t30 0 (⟨#[]⟩ : ByteArray) false ([(⟨x530_0, x530_1, x530_2, x530_3, x530_4⟩ : S26)] : List S26)))) else (.bad)))) else (.ret (x530_0, x530_1, x530_2, x530_3, x530_4, t10.2.2.1, t10.2.2.2)))
  | .impl_rexReader_atom_f s0_0 s0_1 => .opt (impl_rexReader_next.f s0_0 s0_1) fun t10 => (if 1 ≤ (t10.2.2.1.size : Int) then (if t10.1 = 40 then (.ask (.impl_rexReader_pattern_f (t10.2.2.1.extract 1 t10.2.2.1.size) t10.2.2.2) fun (t25 : Int × Int × ByteArray × Bool × (List S26) × ByteArray × Bool) => (.opt (impl_rexReader_take.f t25.2.2.2.2.2.1 t25.2.2.2.2.2.2 41) fun t27 => (if t27.1 = true then (.ret (t25.1, t25.2.1, t25.2.2.1, t25.2.2.2.1, t25.2.2.2.2.1, t27.2.1, t27.2.2)) else (.ret (t25.1, t25.2.1, t25.2.2.1, t25.2.2.2.1, t25.2.2.2.2.1, t27.2.1, true))))) else (if t10.1 = 46 then (.ret (2, 0, (⟨#[]⟩ : ByteArray), false, ([] : List S26), (t10.2.2.1.extract 1 t10.2.2.1.size), t10.2.2.2)) else (if t10.1 = 94 then (.ret (4, 0, (⟨#[]⟩ : ByteArray), false, ([] : List S26), (t10.2.2.1.extract 1 t10.2.2.1.size), t10.2.2.2)) else (if t10.1 = 36 then (.ret (5, 0, (⟨#[]⟩ : ByteArray), false, ([] : List S26), (t10.2.2.1.extract 1 t10.2.2.1.size), t10.2.2.2)) else (if t10.1 = 91 then (.opt (impl_rexReader_set.fv (t10.2.2.1.extract 1 t10.2.2.1.size) t10.2.2.2) fun t45 => (.ret (t45.1, t45.2.1, t45.2.2.1, t45.2.2.2.1, t45.2.2.2.2.1, t45.2.2.2.2.2.1, t45.2.2.2.2.2.2))) else (if t10.1 = 92 then (.opt (impl_rexReader_next.f (t10.2.2.1.extract 1 t10.2.2.1.size) t10.2.2.2) fun t50 => (if t50.2.1 = true then (if 1 ≤ (t50.2.2.1.size : Int) then (.ret (1, (wrap64 (t50.1)), (⟨#[]⟩ : ByteArray), false, ([] : List S26), (t50.2.2.1.extract 1 t50.2.2.1.size), t50.2.2.2)) else (.bad)) else (.ret (0, 0, (⟨#[]⟩ : ByteArray), false, ([] : List S26), t50.2.2.1, true)))) else (if t10.1 = 42 then (.ret (0, 0, (⟨#[]⟩ : ByteArray), false, ([] : List S26), (t10.2.2.1.extract 1 t10.2.2.1.size), true)) else (if t10.1 = 43 then (.ret (0, 0, (⟨#[]⟩ : ByteArray), false, ([] : List S26), (t10.2.2.1.extract 1 t10.2.2.1.size), true)) else (if t10.1 = 63 then (.ret (0, 0, (⟨#[]⟩ : ByteArray), false, ([] : List S26), (t10.2.2.1.extract 1 t10.2.2.1.size), true)) else (.ret (1, (wrap64 (t10.1)), (⟨#[]⟩ : ByteArray), false, ([] : List S26), (t10.2.2.1.extract 1 t10.2.2.1.size), t10.2.2.2))))))))))) else (.bad))
def impl_rexReader_pattern.fv (s0_0 : ByteArray) (s0_1 : Bool) : Option (Int × Int × ByteArray × Bool × (List S26) × ByteArray × Bool) := lim impl_rexReader_pattern.B (.impl_rexReader_pattern_f s0_0 s0_1)
def impl_rexReader_pattern.l0v (x3 : List S26) (x1000 : ByteArray) (x1001 : Bool) : Option (Int × Int × ByteArray × Bool × (List S26) × ByteArray × Bool) := lim impl_rexReader_pattern.B (.impl_rexReader_pattern_l0 x3 x1000 x1001)
def impl_rexReader_part.fv (s0_0 : ByteArray) (s0_1 : Bool) : Option (Int × Int × ByteArray × Bool × (List S26) × ByteArray × Bool) := lim impl_rexReader_pattern.B (.impl_rexReader_part_f s0_0 s0_1)
def impl_rexReader_part.j1v (x3 : List S26) (x1000 : ByteArray) (x1001 : Bool) : Option (Int × Int × ByteArray × Bool × (List S26) × ByteArray × Bool) := lim impl_rexReader_pattern.B (.impl_rexReader_part_j1 x3 x1000 x1001)
def impl_rexReader_part.l0v (x3 : List S26) (x1000 : ByteArray) (x1001 : Bool) : Option (Int × Int × ByteArray × Bool × (List S26) × ByteArray × Bool) := lim impl_rexReader_pattern.B (.impl_rexReader_part_l0 x3 x1000 x1001)
def impl_rexReader_piece.fv (s0_0 : ByteArray) (s0_1 : Bool) : Option (Int × Int × ByteArray × Bool × (List S26) × ByteArray × Bool) := lim impl_rexReader_pattern.B (.impl_rexReader_piece_f s0_0 s0_1)
def impl_rexReader_piece.l0v (x1000 : ByteArray) (x1001 : Bool) (x530_0 : Int) (x530_1 : Int) (x530_2 : ByteArray) (x530_3 : Bool) (x530_4 : List S26) : Option (Int × Int × ByteArray × Bool × (List S26) × ByteArray × Bool) := lim impl_rexReader_pattern.B (.impl_rexReader_piece_l0 x1000 x1001 x530_0 x530_1 x530_2 x530_3 x530_4)
def impl_rexReader_atom.fv (s0_0 : ByteArray) (s0_1 : Bool) : Option (Int × Int × ByteArray × Bool × (List S26) × ByteArray × Bool) := lim impl_rexReader_pattern.B (.impl_rexReader_atom_f s0_0 s0_1)
theorem impl_rexReader_pattern.fv_eq (s0_0 : ByteArray) (s0_1 : Bool) : impl_rexReader_pattern.fv s0_0 s0_1 = ((impl_rexReader_part.fv s0_0 s0_1).bind fun t5 => (impl_rexReader_pattern.l0v ([(⟨t5.1, t5.2.1, t5.2.2.1, t5.2.2.2.1, t5.2.2.2.2.1⟩ : S26)] : List S26) t5.2.2.2.2.2.1 t5.2.2.2.2.2.2)) := by
  show lim impl_rexReader_pattern.B (.impl_rexReader_pattern_f s0_0 s0_1) = _
  rw [lim_eq, impl_rexReader_pattern.B]
  simp only [ev_ite, ev_opt, ev_ask, ev_to, ev_ret, ev_bad]
  try rfl
theorem impl_rexReader_pattern.l0v_eq (x3 : List S26) (x1000 : ByteArray) (x1001 : Bool) : impl_rexReader_pattern.l0v x3 x1000 x1001 = ((impl_rexReader_take.f x1000 x1001 124).bind fun t8 => (if t8.1 = true then ((impl_rexReader_part.fv t8.2.1 t8.2.2).bind fun t11 => (if x3.length < 2199023255552 then (impl_rexReader_pattern.l0v (x3 ++ [(⟨t11.1, t11.2.1, t11.2.2.1, t11.2.2.2.1, t11.2.2.2.2.1⟩ : S26)]) t11.2.2.2.2.2.1 t11.2.2.2.2.2.2) else (none))) else (if (x3.length : Int) = 1 then (if 0 < (x3.length : Int) then (some ((rd_T26 x3 0).f0, (rd_T26 x3 0).f1, (rd_T26 x3 0).f2, (rd_T26 x3 0).f3, (rd_T26 x3 0).f4, t8.2.1, t8.2.2)) else (none)) else (some (7, 0, (⟨#[]⟩ : ByteArray), false, x3, t8.2.1, t8.2.2))))) := by
  show lim impl_rexReader_pattern.B (.impl_rexReader_pattern_l0 x3 x1000 x1001) = _
  rw [lim_eq, impl_rexReader_pattern.B]
  simp only [ev_ite, ev_opt, ev_ask, ev_to, ev_ret, ev_bad]
  try rfl
theorem impl_rexReader_part.fv_eq (s0_0 : ByteArray) (s0_1 : Bool) : impl_rexReader_part.fv s0_0 s0_1 = (impl_rexReader_part.l0v ([] : List S26) s0_0 s0_1) := by
  show lim impl_rexReader_pattern.B (.impl_rexReader_part_f s0_0 s0_1) = _
  rw [lim_eq, impl_rexReader_pattern.B]
  simp only [ev_ite, ev_opt, ev_ask, ev_to, ev_ret, ev_bad]
  try rfl
theorem impl_rexReader_part.j1v_eq (x3 : List S26) (x1000 : ByteArray) (x1001 : Bool) : impl_rexReader_part.j1v x3 x1000 x1001 = (if (x3.length : Int) = 0 then (some (11, 0, (⟨#[]⟩ : ByteArray), false, ([] : List S26), x1000, x1001)) else (if (x3.length : Int) = 1 then (if 0 < (x3.length : Int) then (some ((rd_T26 x3 0).f0, (rd_T26 x3 0).f1, (rd_T26 x3 0).f2, (rd_T26 x3 0).f3, (rd_T26 x3 0).f4, x1000, x1001)) else (none)) else (some (6, 0, (⟨#[]⟩ : ByteArray), false, x3, x1000, x1001)))) := by
  show lim impl_rexReader_pattern.B (.impl_rexReader_part_j1 x3 x1000 x1001) = _
  rw [lim_eq, impl_rexReader_pattern.B]
  simp only [ev_ite, ev_opt, ev_ask, ev_to, ev_ret, ev_bad]
  try rfl
theorem impl_rexReader_part.l0v_eq (x3 : List S26) (x1000 : ByteArray) (x1001 : Bool) : impl_rexReader_part.l0v x3 x1000 x1001 = ((impl_rexReader_next.f x1000 x1001).bind fun t9 => (if t9.2.1 = true then (if t9.1 = 124 then (impl_rexReader_part.j1v x3 t9.2.2.1 t9.2.2.2) else (if t9.1 = 41 then (impl_rexReader_part.j1v x3 t9.2.2.1 t9.2.2.2) else ((impl_rexReader_piece.fv t9.2.2.1 t9.2.2.2).bind fun t24 => (if x3.length < 2199023255552 then (impl_rexReader_part.l0v (x3 ++ [(⟨t24.1, t24.2.1, t24.2.2.1, t24.2.2.2.1, t24.2.2.2.2.1⟩ : S26)]) t24.2.2.2.2.2.1 t24.2.2.2.2.2.2) else (none))))) else (impl_rexReader_part.j1v x3 t9.2.2.1 t9.2.2.2))) := by
  show lim impl_rexReader_pattern.B (.impl_rexReader_part_l0 x3 x1000 x1001) = _
  rw [lim_eq, impl_rexReader_pattern.B]
  simp only [ev_ite, ev_opt, ev_ask, ev_to, ev_ret, ev_bad]
  try rfl
theorem impl_rexReader_piece.fv_eq (s0_0 : ByteArray) (s0_1 : Bool) : impl_rexReader_piece.fv s0_0 s0_1 = ((impl_rexReader_atom.fv s0_0 s0_1).bind fun t7 => (impl_rexReader_piece.l0v t7.2.2.2.2.2.1 t7.2.2.2.2.2.2 t7.1 t7.2.1 t7.2.2.1 t7.2.2.2.1 t7.2.2.2.2.1)) := by
  show lim impl_rexReader_pattern.B (.impl_rexReader_piece_f s0_0 s0_1) = _
  rw [lim_eq, impl_rexReader_pattern.B]
  simp only [ev_ite, ev_opt, ev_ask, ev_to, ev_ret, ev_bad]
  try rfl
theorem impl_rexReader_piece.l0v_eq (x1000 : ByteArray) (x1001 : Bool) (x530_0 : Int) (x530_1 : Int) (x530_2 : ByteArray) (x530_3 : Bool) (x530_4 : List S26) : impl_rexReader_piece.l0v x1000 x1001 x530_0 x530_1 x530_2 x530_3 x530_4 = ((impl_rexReader_next.f x1000 x1001).bind fun t10 => (if t10.2.1 = true then ((impl_repeatOf.f t10.1).bind fun t17 => (if t17 = 0 then (some (x530_0, x530_1, x530_2, x530_3, x530_4, t10.2.2.1, t10.2.2.2)) else (if 1 ≤ (t10.2.2.1.size : Int) then ((impl_repeatOf.f t10.1).bind fun t30 => (impl_rexReader_piece.l0v (t10.2.2.1.extract 1 t10.2.2.1.size) t10.2.2.2 t30 0 (⟨#[]⟩ : ByteArray) false ([(⟨x530_0, x530_1, x530_2, x530_3, x530_4⟩ : S26)] : List S26))) else (none)))) else (some (x530_0, x530_1, x530_2, x530_3, x530_4, t10.2.2.1, t10.2.2.2)))) := by
  show lim impl_rexReader_pattern.B (.impl_rexReader_piece_l0 x1000 x1001 x530_0 x530_1 x530_2 x530_3 x530_4) = _
  rw [lim_eq, impl_rexReader_pattern.B]
  simp only [ev_ite, ev_opt, ev_ask, ev_to, ev_ret, ev_bad]
  try rfl
theorem impl_rexReader_atom.fv_eq (s0_0 : ByteArray) (s0_1 : Bool) : impl_rexReader_atom.fv s0_0 s0_1 = ((impl_rexReader_next.f s0_0 s0_1).bind fun t10 => (if 1 ≤ (t10.2.2.1.size : Int) then (if t10.1 = 40 then ((impl_rexReader_pattern.fv (t10.2.2.1.extract 1 t10.2.2.1.size) t10.2.2.2).bind fun t25 => ((impl_rexReader_take.f t25.2.2.2.2.2.1 t25.2.2.2.2.2.2 41).bind fun t27 => (if t27.1 = true then (some (t25.1, t25.2.1, t25.2.2.1, t25.2.2.2.1, t25.2.2.2.2.1, t27.2.1, t27.2.2)) else (some (t25.1, t25.2.1, t25.2.2.1, t25.2.2.2.1, t25.2.2.2.2.1, t27.2.1, true))))) else (if t10.1 = 46 then (some (2, 0, (⟨#[]⟩ : ByteArray), false, ([] : List S26), (t10.2.2.1.extract 1 t10.2.2.1.size), t10.2.2.2)) else (if t10.1 = 94 then (some (4, 0, (⟨#[]⟩ : ByteArray), false, ([] : List S26), (t10.2.2.1.extract 1 t10.2.2.1.size), t10.2.2.2)) else (if t10.1 = 36 then (some (5, 0, (⟨#[]⟩ : ByteArray), false, ([] : List S26), (t10.2.2.1.extract 1 t10.2.2.1.size), t10.2.2.2)) else (if t10.1 = 91 then ((impl_rexReader_set.fv (t10.2.2.1.extract 1 t10.2.2.1.size) t10.2.2.2).bind fun t45 => (some (t45.1, t45.2.1, t45.2.2.1, t45.2.2.2.1, t45.2.2.2.2.1, t45.2.2.2.2.2.1, t45.2.2.2.2.2.2))) else (if t10.1 = 92 then ((impl_rexReader_next.f (t10.2.2.1.extract 1 t10.2.2.1.size) t10.2.2.2).bind fun t50 => (if t50.2.1 = true then (if 1 ≤ (t50.2.2.1.size : Int) then (some (1, (wrap64 (t50.1)), (⟨#[]⟩ : ByteArray), false, ([] : List S26), (t50.2.2.1.extract 1 t50.2.2.1.size), t50.2.2.2)) else (none)) else (some (0, 0, (⟨#[]⟩ : ByteArray), false, ([] : List S26), t50.2.2.1, true)))) else (if t10.1 = 42 then (some (0, 0, (⟨#[]⟩ : ByteArray), false, ([] : List S26), (t10.2.2.1.extract 1 t10.2.2.1.size), true)) else (if t10.1 = 43 then (some (0, 0, (⟨#[]⟩ : ByteArray), false, ([] : List S26), (t10.2.2.1.extract 1 t10.2.2.1.size), true)) else (if t10.1 = 63 then (some (0, 0, (⟨#[]⟩ : ByteArray), false, ([] : List S26), (t10.2.2.1.extract 1 t10.2.2.1.size), true)) else (some (1, (wrap64 (t10.1)), (⟨#[]⟩ : ByteArray), false, ([] : List S26), (t10.2.2.1.extract 1 t10.2.2.1.size), t10.2.2.2))))))))))) else (none))) := by
  show lim impl_rexReader_pattern.B (.impl_rexReader_atom_f s0_0 s0_1) = _
  rw [lim_eq, impl_rexReader_pattern.B]
  simp only [ev_ite, ev_opt, ev_ask, ev_to, ev_ret, ev_bad]
  try rfl
inductive impl_rexDeep.Q where
  | f (a0_0 : Int) (a0_1 : Int) (a0_2 : ByteArray) (a0_3 : Bool) (l0_4 : List S26)
  | l0 (x3 : Int) (x7 : List S26) (x8 : Int) (x9 : Int)
def impl_rexDeep.B : impl_rexDeep.Q → Pg impl_rexDeep.Q (fun _ => Int) (Int)
  | .f a0_0 a0_1 a0_2 a0_3 l0_4 => .to (.l0 0 l0_4 (l0_4.length : Int) 0)
  | .l0 x3 x7 x8 x9 => if x9 < x8 then (if 0 ≤ x9 then (if x9 < (x7.length : Int) then (.ask (.f ((rd_T26 x7 x9).f0) ((rd_T26 x7 x9).f1) ((rd_T26 x7 x9).f2) ((rd_T26 x7 x9).f3) ((rd_T26 x7 x9).f4)) fun (t15 : Int) => (.to (.l0 (mx x3 t15) x7 x8 (wrap64 (x9 + 1))))) else (.bad)) else (.bad)) else (.ret (wrap64 (x3 + 1)))
def impl_rexDeep.fv (a0_0 : Int) (a0_1 : Int) (a0_2 : ByteArray) (a0_3 : Bool) (l0_4 : List S26) : Option (Int) := lim impl_rexDeep.B (.f a0_0 a0_1 a0_2 a0_3 l0_4)
def impl_rexDeep.l0v (x3 : Int) (x7 : List S26) (x8 : Int) (x9 : Int) : Option (Int) := lim impl_rexDeep.B (.l0 x3 x7 x8 x9)
theorem impl_rexDeep.fv_eq (a0_0 : Int) (a0_1 : Int) (a0_2 : ByteArray) (a0_3 : Bool) (l0_4 : List S26) : impl_rexDeep.fv a0_0 a0_1 a0_2 a0_3 l0_4 = (impl_rexDeep.l0v 0 l0_4 (l0_4.length : Int) 0) := by
  show lim impl_rexDeep.B (.f a0_0 a0_1 a0_2 a0_3 l0_4) = _
  rw [lim_eq, impl_rexDeep.B]
  simp only [ev_ite, ev_opt, ev_ask, ev_to, ev_ret, ev_bad]
  try rfl
theorem impl_rexDeep.l0v_eq (x3 : Int) (x7 : List S26) (x8 : Int) (x9 : Int) : impl_rexDeep.l0v x3 x7 x8 x9 = (if x9 < x8 then (if 0 ≤ x9 then (if x9 < (x7.length : Int) then ((impl_rexDeep.fv ((rd_T26 x7 x9).f0) ((rd_T26 x7 x9).f1) ((rd_T26 x7 x9).f2) ((rd_T26 x7 x9).f3) ((rd_T26 x7 x9).f4)).bind fun t15 => (impl_rexDeep.l0v (mx x3 t15) x7 x8 (wrap64 (x9 + 1)))) else (none)) else (none)) else (some (wrap64 (x3 + 1)))) := by
  show lim impl_rexDeep.B (.l0 x3 x7 x8 x9) = _
  rw [lim_eq, impl_rexDeep.B]
  simp only [ev_ite, ev_opt, ev_ask, ev_to, ev_ret, ev_bad]
  try rfl
def impl_RexParse.fv (a0 : ByteArray) : Option (Int × Int × ByteArray × Bool × (List S26) × Bool) := if (a0.size : Int) > 60 then (some (0, 0, (⟨#[]⟩ : ByteArray), false, ([] : List S26), false)) else ((impl_rexReader_pattern.fv a0 false).bind fun t14 => (if t14.2.2.2.2.2.2 = true then (some (0, 0, (⟨#[]⟩ : ByteArray), false, ([] : List S26), false)) else (if t14.2.2.2.2.2.1.toList = ([] : List UInt8) then ((impl_rexDeep.fv t14.1 t14.2.1 t14.2.2.1 t14.2.2.2.1 t14.2.2.2.2.1).bind fun t28 => (if t28 > 12 then (some (0, 0, (⟨#[]⟩ : ByteArray), false, ([] : List S26), false)) else (some (t14.1, t14.2.1, t14.2.2.1, t14.2.2.2.1, t14.2.2.2.2.1, true)))) else (some (0, 0, (⟨#[]⟩ : ByteArray), false, ([] : List S26), false)))))
theorem impl_RexParse.fv_eq (a0 : ByteArray) : impl_RexParse.fv a0 = (if (a0.size : Int) > 60 then (some (0, 0, (⟨#[]⟩ : ByteArray), false, ([] : List S26), false)) else ((impl_rexReader_pattern.fv a0 false).bind fun t14 => (if t14.2.2.2.2.2.2 = true then (some (0, 0, (⟨#[]⟩ : ByteArray), false, ([] : List S26), false)) else (if t14.2.2.2.2.2.1.toList = ([] : List UInt8) then ((impl_rexDeep.fv t14.1 t14.2.1 t14.2.2.1 t14.2.2.2.1 t14.2.2.2.2.1).bind fun t28 => (if t28 > 12 then (some (0, 0, (⟨#[]⟩ : ByteArray), false, ([] : List S26), false)) else (some (t14.1, t14.2.1, t14.2.2.1, t14.2.2.2.1, t14.2.2.2.2.1, true)))) else (some (0, 0, (⟨#[]⟩ : ByteArray), false, ([] : List S26), false)))))) := by rw [impl_RexParse.fv]
def spec_l3Now.f (s0_0 : ByteArray) (s0_1 : Int) (s0_2 : Bool) (a1 : Int) : Option (Bool × ByteArray × Int × Bool) := if s0_2 = true then (some (false, s0_0, s0_1, s0_2)) else (if s0_1 < (s0_0.size : Int) then (if 0 ≤ s0_1 then (some (((bt s0_0 s0_1) == a1), s0_0, s0_1, s0_2)) else (none)) else (some (false, s0_0, s0_1, s0_2)))
inductive spec_l3Set.Q where
  | f (s0_0 : ByteArray) (s0_1 : Int) (s0_2 : Bool)
  | j0 (x1000 : ByteArray) (x1001 : Int) (x1002 : Bool) (x529_0 : Int) (x529_1 : Int) (x529_2 : ByteArray) (x529_3 : Bool)
  | l0 (x4 : List Bool) (x5 : Int) (x1000 : ByteArray) (x1001 : Int) (x1002 : Bool) (x529_0 : Int) (x529_1 : Int) (x529_2 : ByteArray) (x529_3 : Bool)
  | j2 (x4 : List Bool) (x5 : Int) (x44 : Bool) (x1000 : ByteArray) (x1001 : Int) (x1002 : Bool) (x529_0 : Int) (x529_1 : Int) (x529_2 : ByteArray) (x529_3 : Bool)
  | j4 (x4 : List Bool) (x5 : Int) (x6 : Int) (x7 : Int) (x1000 : ByteArray) (x1001 : Int) (x1002 : Bool) (x529_0 : Int) (x529_1 : Int) (x529_2 : ByteArray) (x529_3 : Bool)
  | j3 (x4 : List Bool) (x5 : Int) (x6 : Int) (x7 : Int) (x98 : Bool) (x1000 : ByteArray) (x1001 : Int) (x1002 : Bool) (x529_0 : Int) (x529_1 : Int) (x529_2 : ByteArray) (x529_3 : Bool)
  | j5 (x4 : List Bool) (x5 : Int) (x6 : Int) (x7 : Int) (x1000 : ByteArray) (x1001 : Int) (x1002 : Bool) (x529_0 : Int) (x529_1 : Int) (x529_2 : ByteArray) (x529_3 : Bool)
  | l1 (x4 : List Bool) (x5 : Int) (x7 : Int) (x8 : Int) (x1000 : ByteArray) (x1001 : Int) (x1002 : Bool) (x529_0 : Int) (x529_1 : Int) (x529_2 : ByteArray) (x529_3 : Bool)
  | j8 (x4 : List Bool) (x1000 : ByteArray) (x1001 : Int) (x1002 : Bool) (x529_0 : Int) (x529_1 : Int) (x529_2 : ByteArray) (x529_3 : Bool)
  | j7 (x4 : List Bool) (x148 : Bool) (x1000 : ByteArray) (x1001 : Int) (x1002 : Bool) (x529_0 : Int) (x529_1 : Int) (x529_2 : ByteArray) (x529_3 : Bool)
  | l2 (x4 : List Bool) (x9 : List Int) (x10 : Int) (x1000 : ByteArray) (x1001 : Int) (x1002 : Bool) (x529_0 : Int) (x529_1 : Int) (x529_2 : ByteArray) (x529_3 : Bool)
def spec_l3Set.B : spec_l3Set.Q → Pg spec_l3Set.Q (fun _ => Int × Int × ByteArray × Bool × (List S26) × ByteArray × Int × Bool) (Int × Int × ByteArray × Bool × (List S26) × ByteArray × Int × Bool)
  | .f s0_0 s0_1 s0_2 => .opt (spec_l3Now.f s0_0 s0_1 s0_2 94) fun t13 => (if t13.1 = true then (.to (.j0 t13.2.1 (wrap64 (t13.2.2.1 + 1)) t13.2.2.2 3 0 (⟨#[]⟩ : ByteArray) true)) else (.to (.j0 t13.2.1 t13.2.2.1 t13.2.2.2 3 0 (⟨#[]⟩ : ByteArray) false)))
  | .j0 x1000 x1001 x1002 x529_0 x529_1 x529_2 x529_3 => if 256 ≤ 281474976710656 then (.to (.l0 (List.replicate 256 false) 0 x1000 x1001 x1002 x529_0 x529_1 x529_2 x529_3)) else (.bad)
  | .l0 x4 x5 x1000 x1001 x1002 x529_0 x529_1 x529_2 x529_3 => if x1001 < (x1000.size : Int) then (if 0 ≤ x1001 then (.to (.j2 x4 x5 ((bt x1000 x1001) != 93) x1000 x1001 x1002 x529_0 x529_1 x529_2 x529_3)) else (.bad)) else (.to (.j2 x4 x5 false x1000 x1001 x1002 x529_0 x529_1 x529_2 x529_3))
  | .j2 x4 x5 x44 x1000 x1001 x1002 x529_0 x529_1 x529_2 x529_3 => if x44 = true then (if 0 ≤ x1001 then (if x1001 < (x1000.size : Int) then (if (wrap64 ((wrap64 (x1001 + 1)) + 1)) < (x1000.size : Int) then (if 0 ≤ (wrap64 (x1001 + 1)) then (if (wrap64 (x1001 + 1)) < (x1000.size : Int) then (if (bt x1000 (wrap64 (x1001 + 1))) = 45 then (if 0 ≤ (wrap64 ((wrap64 (x1001 + 1)) + 1)) then (.to (.j3 x4 x5 (wrap64 (bt x1000 x1001)) (wrap64 (bt x1000 x1001)) (((bt x1000 (wrap64 ((wrap64 (x1001 + 1)) + 1))) != 93)) x1000 (wrap64 (x1001 + 1)) x1002 x529_0 x529_1 x529_2 x529_3)) else (.bad)) else (.to (.j3 x4 x5 (wrap64 (bt x1000 x1001)) (wrap64 (bt x1000 x1001)) false x1000 (wrap64 (x1001 + 1)) x1002 x529_0 x529_1 x529_2 x529_3))) else (.bad)) else (.bad)) else (.to (.j3 x4 x5 (wrap64 (bt x1000 x1001)) (wrap64 (bt x1000 x1001)) false x1000 (wrap64 (x1001 + 1)) x1002 x529_0 x529_1 x529_2 x529_3))) else (.bad)) else (.bad)) else (if x1001 ≥ (x1000.size : Int) then (.to (.j7 x4 true x1000 x1001 x1002 x529_0 x529_1 x529_2 x529_3)) else (.to (.j7 x4 (x5 == 0) x1000 x1001 x1002 x529_0 x529_1 x529_2 x529_3)))
  | .j4 x4 x5 x6 x7 x1000 x1001 x1002 x529_0 x529_1 x529_2 x529_3 => if x7 < x6 then (.to (.j5 x4 x5 x6 x7 x1000 x1001 true x529_0 x529_1 x529_2 x529_3)) else (.to (.j5 x4 x5 x6 x7 x1000 x1001 x1002 x529_0 x529_1 x529_2 x529_3))
  | .j3 x4 x5 x6 x7 x98 x1000 x1001 x1002 x529_0 x529_1 x529_2 x529_3 => if x98 = true then (if 0 ≤ (wrap64 (x1001 + 1)) then (if (wrap64 (x1001 + 1)) < (x1000.size : Int) then (.to (.j4 x4 x5 x6 ((wrap64 (bt x1000 (wrap64 (x1001 + 1))))) x1000 (wrap64 (x1001 + 2)) x1002 x529_0 x529_1 x529_2 x529_3)) else (.bad)) else (.bad)) else (.to (.j4 x4 x5 x6 x7 x1000 x1001 x1002 x529_0 x529_1 x529_2 x529_3))
  | .j5 x4 x5 x6 x7 x1000 x1001 x1002 x529_0 x529_1 x529_2 x529_3 => .to (.l1 x4 x5 x7 x6 x1000 x1001 x1002 x529_0 x529_1 x529_2 x529_3)
  | .l1 x4 x5 x7 x8 x1000 x1001 x1002 x529_0 x529_1 x529_2 x529_3 => if x8 ≤ x7 then (if 0 ≤ x8 then (if x8 < (x4.length : Int) then (.to (.l1 (x4.set (x8 : Int).toNat true) x5 x7 (wrap64 (x8 + 1)) x1000 x1001 x1002 x529_0 x529_1 x529_2 x529_3)) else (.bad)) else (.bad)) else (.to (.l0 x4 (wrap64 (x5 + 1)) x1000 x1001 x1002 x529_0 x529_1 x529_2 x529_3))
  | .j8 x4 x1000 x1001 x1002 x529_0 x529_1 x529_2 x529_3 => .to (.l2 x4 ([] : List Int) 0 x1000 (wrap64 (x1001 + 1)) x1002 x529_0 x529_1 x529_2 x529_3)
  | .j7 x4 x148 x1000 x1001 x1002 x529_0 x529_1 x529_2 x529_3 => if x148 = true then (.to (.j8 x4 x1000 x1001 true x529_0 x529_1 x529_2 x529_3)) else (.to (.j8 x4 x1000 x1001 x1002 x529_0 x529_1 x529_2 x529_3))
  | .l2 x4 x9 x10 x1000 x1001 x1002 x529_0 x529_1 x529_2 x529_3 => if x10 < 256 then (if 0 ≤ x10 then (if x10 < (x4.length : Int) then (if (rdOf false x4 x10) = true then (if x9.length < 140737488355328 then (.to (.l2 x4 ((x9 ++ [((x10) % 256)])) (wrap64 (x10 + 1)) x1000 x1001 x1002 x529_0 x529_1 x529_2 x529_3)) else (.bad)) else (.to (.l2 x4 x9 (wrap64 (x10 + 1)) x1000 x1001 x1002 x529_0 x529_1 x529_2 x529_3))) else (.bad)) else (.bad)) else (.ret (x529_0, x529_1, (strOfNums x9), x529_3, ([] : List S26), x1000, x1001, x1002))
def spec_l3Set.fv (s0_0 : ByteArray) (s0_1 : Int) (s0_2 : Bool) : Option (Int × Int × ByteArray × Bool × (List S26) × ByteArray × Int × Bool) := lim spec_l3Set.B (.f s0_0 s0_1 s0_2)
def spec_l3Set.j0v (x1000 : ByteArray) (x1001 : Int) (x1002 : Bool) (x529_0 : Int) (x529_1 : Int) (x529_2 : ByteArray) (x529_3 : Bool) : Option (Int × Int × ByteArray × Bool × (List S26) × ByteArray × Int × Bool) := lim spec_l3Set.B (.j0 x1000 x1001 x1002 x529_0 x529_1 x529_2 x529_3)
def spec_l3Set.l0v (x4 : List Bool) (x5 : Int) (x1000 : ByteArray) (x1001 : Int) (x1002 : Bool) (x529_0 : Int) (x529_1 : Int) (x529_2 : ByteArray) (x529_3 : Bool) : Option (Int × Int × ByteArray × Bool × (List S26) × ByteArray × Int × Bool) := lim spec_l3Set.B (.l0 x4 x5 x1000 x1001 x1002 x529_0 x529_1 x529_2 x529_3)
def spec_l3Set.j2v (x4 : List Bool) (x5 : Int) (x44 : Bool) (x1000 : ByteArray) (x1001 : Int) (x1002 : Bool) (x529_0 : Int) (x529_1 : Int) (x529_2 : ByteArray) (x529_3 : Bool) : Option (Int × Int × ByteArray × Bool × (List S26) × ByteArray × Int × Bool) := lim spec_l3Set.B (.j2 x4 x5 x44 x1000 x1001 x1002 x529_0 x529_1 x529_2 x529_3)
def spec_l3Set.j4v (x4 : List Bool) (x5 : Int) (x6 : Int) (x7 : Int) (x1000 : ByteArray) (x1001 : Int) (x1002 : Bool) (x529_0 : Int) (x529_1 : Int) (x529_2 : ByteArray) (x529_3 : Bool) : Option (Int × Int × ByteArray × Bool × (List S26) × ByteArray × Int × Bool) := lim spec_l3Set.B (.j4 x4 x5 x6 x7 x1000 x1001 x1002 x529_0 x529_1 x529_2 x529_3)
def spec_l3Set.j3v (x4 : List Bool) (x5 : Int) (x6 : Int) (x7 : Int) (x98 : Bool) (x1000 : ByteArray) (x1001 : Int) (x1002 : Bool) (x529_0 : Int) (x529_1 : Int) (x529_2 : ByteArray) (x529_3 : Bool) : Option (Int × Int × ByteArray × Bool × (List S26) × ByteArray × Int × Bool) := lim spec_l3Set.B (.j3 x4 x5 x6 x7 x98 x1000 x1001 x1002 x529_0 x529_1 x529_2 x529_3)
def spec_l3Set.j5v (x4 : List Bool) (x5 : Int) (x6 : Int) (x7 : Int) (x1000 : ByteArray) (x1001 : Int) (x1002 : Bool) (x529_0 : Int) (x529_1 : Int) (x529_2 : ByteArray) (x529_3 : Bool) : Option (Int × Int × ByteArray × Bool × (List S26) × ByteArray × Int × Bool) := lim spec_l3Set.B (.j5 x4 x5 x6 x7 x1000 x1001 x1002 x529_0 x529_1 x529_2 x529_3)
def spec_l3Set.l1v (x4 : List Bool) (x5 : Int) (x7 : Int) (x8 : Int) (x1000 : ByteArray) (x1001 : Int) (x1002 : Bool) (x529_0 : Int) (x529_1 : Int) (x529_2 : ByteArray) (x529_3 : Bool) : Option (Int × Int × ByteArray × Bool × (List S26) × ByteArray × Int × Bool) := lim spec_l3Set.B (.l1 x4 x5 x7 x8 x1000 x1001 x1002 x529_0 x529_1 x529_2 x529_3)
def spec_l3Set.j8v (x4 : List Bool) (x1000 : ByteArray) (x1001 : Int) (x1002 : Bool) (x529_0 : Int) (x529_1 : Int) (x529_2 : ByteArray) (x529_3 : Bool) : Option (Int × Int × ByteArray × Bool × (List S26) × ByteArray × Int × Bool) := lim spec_l3Set.B (.j8 x4 x1000 x1001 x1002 x529_0 x529_1 x529_2 x529_3)
def spec_l3Set.j7v (x4 : List Bool) (x148 : Bool) (x1000 : ByteArray) (x1001 : Int) (x1002 : Bool) (x529_0 : Int) (x529_1 : Int) (x529_2 : ByteArray) (x529_3 : Bool) : Option (Int × Int × ByteArray × Bool × (List S26) × ByteArray × Int × Bool) := lim spec_l3Set.B (.j7 x4 x148 x1000 x1001 x1002 x529_0 x529_1 x529_2 x529_3)
def spec_l3Set.l2v (x4 : List Bool) (x9 : List Int) (x10 : Int) (x1000 : ByteArray) (x1001 : Int) (x1002 : Bool) (x529_0 : Int) (x529_1 : Int) (x529_2 : ByteArray) (x529_3 : Bool) : Option (Int × Int × ByteArray × Bool × (List S26) × ByteArray × Int × Bool) := lim spec_l3Set.B (.l2 x4 x9 x10 x1000 x1001 x1002 x529_0 x529_1 x529_2 x529_3)
theorem spec_l3Set.fv_eq (s0_0 : ByteArray) (s0_1 : Int) (s0_2 : Bool) : spec_l3Set.fv s0_0 s0_1 s0_2 = ((spec_l3Now.f s0_0 s0_1 s0_2 94).bind fun t13 => (if t13.1 = true then (spec_l3Set.j0v t13.2.1 (wrap64 (t13.2.2.1 + 1)) t13.2.2.2 3 0 (⟨#[]⟩ : ByteArray) true) else (spec_l3Set.j0v t13.2.1 t13.2.2.1 t13.2.2.2 3 0 (⟨#[]⟩ : ByteArray) false))) := by
  show lim spec_l3Set.B (.f s0_0 s0_1 s0_2) = _
  rw [lim_eq, spec_l3Set.B]
  simp only [ev_ite, ev_opt, ev_ask, ev_to, ev_ret, ev_bad]
  try rfl
theorem spec_l3Set.j0v_eq (x1000 : ByteArray) (x1001 : Int) (x1002 : Bool) (x529_0 : Int) (x529_1 : Int) (x529_2 : ByteArray) (x529_3 : Bool) : spec_l3Set.j0v x1000 x1001 x1002 x529_0 x529_1 x529_2 x529_3 = (if 256 ≤ 281474976710656 then (spec_l3Set.l0v (List.replicate 256 false) 0 x1000 x1001 x1002 x529_0 x529_1 x529_2 x529_3) else (none)) := by
  show lim spec_l3Set.B (.j0 x1000 x1001 x1002 x529_0 x529_1 x529_2 x529_3) = _
  rw [lim_eq, spec_l3Set.B]
  simp only [ev_ite, ev_opt, ev_ask, ev_to, ev_ret, ev_bad]
  try rfl
theorem spec_l3Set.l0v_eq (x4 : List Bool) (x5 : Int) (x1000 : ByteArray) (x1001 : Int) (x1002 : Bool) (x529_0 : Int) (x529_1 : Int) (x529_2 : ByteArray) (x529_3 : Bool) : spec_l3Set.l0v x4 x5 x1000 x1001 x1002 x529_0 x529_1 x529_2 x529_3 = (if x1001 < (x1000.size : Int) then (if 0 ≤ x1001 then (spec_l3Set.j2v x4 x5 ((bt x1000 x1001) != 93) x1000 x1001 x1002 x529_0 x529_1 x529_2 x529_3) else (none)) else (spec_l3Set.j2v x4 x5 false x1000 x1001 x1002 x529_0 x529_1 x529_2 x529_3)) := by
  show lim spec_l3Set.B (.l0 x4 x5 x1000 x1001 x1002 x529_0 x529_1 x529_2 x529_3) = _
  rw [lim_eq, spec_l3Set.B]
  simp only [ev_ite, ev_opt, ev_ask, ev_to, ev_ret, ev_bad]
  try rfl
theorem spec_l3Set.j2v_eq (x4 : List Bool) (x5 : Int) (x44 : Bool) (x1000 : ByteArray) (x1001 : Int) (x1002 : Bool) (x529_0 : Int) (x529_1 : Int) (x529_2 : ByteArray) (x529_3 : Bool) : spec_l3Set.j2v x4 x5 x44 x1000 x1001 x1002 x529_0 x529_1 x529_2 x529_3 = (if x44 = true then (if 0 ≤ x1001 then (if x1001 < (x1000.size : Int) then (if (wrap64 ((wrap64 (x1001 + 1)) + 1)) < (x1000.size : Int) then (if 0 ≤ (wrap64 (x1001 + 1)) then (if (wrap64 (x1001 + 1)) < (x1000.size : Int) then (if (bt x1000 (wrap64 (x1001 + 1))) = 45 then (if 0 ≤ (wrap64 ((wrap64 (x1001 + 1)) + 1)) then (spec_l3Set.j3v x4 x5 (wrap64 (bt x1000 x1001)) (wrap64 (bt x1000 x1001)) (((bt x1000 (wrap64 ((wrap64 (x1001 + 1)) + 1))) != 93)) x1000 (wrap64 (x1001 + 1)) x1002 x529_0 x529_1 x529_2 x529_3) else (none)) else (spec_l3Set.j3v x4 x5 (wrap64 (bt x1000 x1001)) (wrap64 (bt x1000 x1001)) false x1000 (wrap64 (x1001 + 1)) x1002 x529_0 x529_1 x529_2 x529_3)) else (none)) else (none)) else (spec_l3Set.j3v x4 x5 (wrap64 (bt x1000 x1001)) (wrap64 (bt x1000 x1001)) false x1000 (wrap64 (x1001 + 1)) x1002 x529_0 x529_1 x529_2 x529_3)) else (none)) else (none)) else (if x1001 ≥ (x1000.size : Int) then (spec_l3Set.j7v x4 true x1000 x1001 x1002 x529_0 x529_1 x529_2 x529_3) else (spec_l3Set.j7v x4 (x5 == 0) x1000 x1001 x1002 x529_0 x529_1 x529_2 x529_3))) := by
  show lim spec_l3Set.B (.j2 x4 x5 x44 x1000 x1001 x1002 x529_0 x529_1 x529_2 x529_3) = _
  rw [lim_eq, spec_l3Set.B]
  simp only [ev_ite, ev_opt, ev_ask, ev_to, ev_ret, ev_bad]
  try rfl
theorem spec_l3Set.j4v_eq (x4 : List Bool) (x5 : Int) (x6 : Int) (x7 : Int) (x1000 : ByteArray) (x1001 : Int) (x1002 : Bool) (x529_0 : Int) (x529_1 : Int) (x529_2 : ByteArray) (x529_3 : Bool) : spec_l3Set.j4v x4 x5 x6 x7 x1000 x1001 x1002 x529_0 x529_1 x529_2 x529_3 = (if x7 < x6 then (spec_l3Set.j5v x4 x5 x6 x7 x1000 x1001 true x529_0 x529_1 x529_2 x529_3) else (spec_l3Set.j5v x4 x5 x6 x7 x1000 x1001 x1002 x529_0 x529_1 x529_2 x529_3)) := by
  show lim spec_l3Set.B (.j4 x4 x5 x6 x7 x1000 x1001 x1002 x529_0 x529_1 x529_2 x529_3) = _
  rw [lim_eq, spec_l3Set.B]
  simp only [ev_ite, ev_opt, ev_ask, ev_to, ev_ret, ev_bad]
  try rfl
theorem spec_l3Set.j3v_eq (x4 : List Bool) (x5 : Int) (x6 : Int) (x7 : Int) (x98 : Bool) (x1000 : ByteArray) (x1001 : Int) (x1002 : Bool) (x529_0 : Int) (x529_1 : Int) (x529_2 : ByteArray) (x529_3 : Bool) : spec_l3Set.j3v x4 x5 x6 x7 x98 x1000 x1001 x1002 x529_0 x529_1 x529_2 x529_3 = (if x98 = true then (if 0 ≤ (wrap64 (x1001 + 1)) then (if (wrap64 (x1001 + 1)) < (x1000.size : Int) then (spec_l3Set.j4v x4 x5 x6 ((wrap64 (bt x1000 (wrap64 (x1001 + 1))))) x1000 (wrap64 (x1001 + 2)) x1002 x529_0 x529_1 x529_2 x529_3) else (none)) else (none)) else (spec_l3Set.j4v x4 x5 x6 x7 x1000 x1001 x1002 x529_0 x529_1 x529_2 x529_3)) := by
  show lim spec_l3Set.B (.j3 x4 x5 x6 x7 x98 x1000 x1001 x1002 x529_0 x529_1 x529_2 x529_3) = _
  rw [lim_eq, spec_l3Set.B]
  simp only [ev_ite, ev_opt, ev_ask, ev_to, ev_ret, ev_bad]
  try rfl
theorem spec_l3Set.j5v_eq (x4 : List Bool) (x5 : Int) (x6 : Int) (x7 : Int) (x1000 : ByteArray) (x1001 : Int) (x1002 : Bool) (x529_0 : Int) (x529_1 : Int) (x529_2 : ByteArray) (x529_3 : Bool) : spec_l3Set.j5v x4 x5 x6 x7 x1000 x1001 x1002 x529_0 x529_1 x529_2 x529_3 = (spec_l3Set.l1v x4 x5 x7 x6 x1000 x1001 x1002 x529_0 x529_1 x529_2 x529_3) := by
  show lim spec_l3Set.B (.j5 x4 x5 x6 x7 x1000 x1001 x1002 x529_0 x529_1 x529_2 x529_3) = _
  rw [lim_eq, spec_l3Set.B]
  simp only [ev_ite, ev_opt, ev_ask, ev_to, ev_ret, ev_bad]
  try rfl
theorem spec_l3Set.l1v_eq (x4 : List Bool) (x5 : Int) (x7 : Int) (x8 : Int) (x1000 : ByteArray) (x1001 : Int) (x1002 : Bool) (x529_0 : Int) (x529_1 : Int) (x529_2 : ByteArray) (x529_3 : Bool) : spec_l3Set.l1v x4 x5 x7 x8 x1000 x1001 x1002 x529_0 x529_1 x529_2 x529_3 = (if x8 ≤ x7 then (if 0 ≤ x8 then (if x8 < (x4.length : Int) then (spec_l3Set.l1v (x4.set (x8 : Int).toNat true) x5 x7 (wrap64 (x8 + 1)) x1000 x1001 x1002 x529_0 x529_1 x529_2 x529_3) else (none)) else (none)) else (spec_l3Set.l0v x4 (wrap64 (x5 + 1)) x1000 x1001 x1002 x529_0 x529_1 x529_2 x529_3)) := by
  show lim spec_l3Set.B (.l1 x4 x5 x7 x8 x1000 x1001 x1002 x529_0 x529_1 x529_2 x529_3) = _
  rw [lim_eq, spec_l3Set.B]
  simp only [ev_ite, ev_opt, ev_ask, ev_to, ev_ret, ev_bad]
  try rfl
theorem spec_l3Set.j8v_eq (x4 : List Bool) (x1000 : ByteArray) (x1001 : Int) (x1002 : Bool) (x529_0 : Int) (x529_1 : Int) (x529_2 : ByteArray) (x529_3 : Bool) : spec_l3Set.j8v x4 x1000 x1001 x1002 x529_0 x529_1 x529_2 x529_3 = (spec_l3Set.l2v x4 ([] : List Int) 0 x1000 (wrap64 (x1001 + 1)) x1002 x529_0 x529_1 x529_2 x529_3) := by
  show lim spec_l3Set.B (.j8 x4 x1000 x1001 x1002 x529_0 x529_1 x529_2 x529_3) = _
  rw [lim_eq, spec_l3Set.B]
  simp only [ev_ite, ev_opt, ev_ask, ev_to, ev_ret, ev_bad]
  try rfl
theorem spec_l3Set.j7v_eq (x4 : List Bool) (x148 : Bool) (x1000 : ByteArray) (x1001 : Int) (x1002 : Bool) (x529_0 : Int) (x529_1 : Int) (x529_2 : ByteArray) (x529_3 : Bool) : spec_l3Set.j7v x4 x148 x1000 x1001 x1002 x529_0 x529_1 x529_2 x529_3 = (if x148 = true then (spec_l3Set.j8v x4 x1000 x1001 true x529_0 x529_1 x529_2 x529_3) else (spec_l3Set.j8v x4 x1000 x1001 x1002 x529_0 x529_1 x529_2 x529_3)) := by
  show lim spec_l3Set.B (.j7 x4 x148 x1000 x1001 x1002 x529_0 x529_1 x529_2 x529_3) = _
  rw [lim_eq, spec_l3Set.B]
  simp only [ev_ite, ev_opt, ev_ask, ev_to, ev_ret, ev_bad]
  try rfl
theorem spec_l3Set.l2v_eq (x4 : List Bool) (x9 : List Int) (x10 : Int) (x1000 : ByteArray) (x1001 : Int) (x1002 : Bool) (x529_0 : Int) (x529_1 : Int) (x529_2 : ByteArray) (x529_3 : Bool) : spec_l3Set.l2v x4 x9 x10 x1000 x1001 x1002 x529_0 x529_1 x529_2 x529_3 = (if x10 < 256 then (if 0 ≤ x10 then (if x10 < (x4.length : Int) then (if (rdOf false x4 x10) = true then (if x9.length < 140737488355328 then (spec_l3Set.l2v x4 ((x9 ++ [((x10) % 256)])) (wrap64 (x10 + 1)) x1000 x1001 x1002 x529_0 x529_1 x529_2 x529_3) else (none)) else (spec_l3Set.l2v x4 x9 (wrap64 (x10 + 1)) x1000 x1001 x1002 x529_0 x529_1 x529_2 x529_3)) else (none)) else (none)) else (some (x529_0, x529_1, (strOfNums x9), x529_3, ([] : List S26), x1000, x1001, x1002))) := by
  show lim spec_l3Set.B (.l2 x4 x9 x10 x1000 x1001 x1002 x529_0 x529_1 x529_2 x529_3) = _
  rw [lim_eq, spec_l3Set.B]
  simp only [ev_ite, ev_opt, ev_ask, ev_to, ev_ret, ev_bad]
  try rfl
inductive spec_l3Pattern.Q where
  | spec_l3Pattern_f (s0_0 : ByteArray) (s0_1 : Int) (s0_2 : Bool) (a1 : Int)
  | spec_l3Pattern_l0 (x1 : Int) (x5 : List S26) (x1000 : ByteArray) (x1001 : Int) (x1002 : Bool)
  | spec_l3Part_f (s0_0 : ByteArray) (s0_1 : Int) (s0_2 : Bool) (a1 : Int)
  | spec_l3Part_j1 (x5 : List S26) (x1000 : ByteArray) (x1001 : Int) (x1002 : Bool)
  | spec_l3Part_l0 (x1 : Int) (x5 : List S26) (x1000 : ByteArray) (x1001 : Int) (x1002 : Bool)
  | spec_l3Piece_f (s0_0 : ByteArray) (s0_1 : Int) (s0_2 : Bool) (a1 : Int)
  | spec_l3Piece_l0 (x1000 : ByteArray) (x1001 : Int) (x1002 : Bool) (x531_0 : Int) (x531_1 : Int) (x531_2 : ByteArray) (x531_3 : Bool) (x531_4 : List S26)
  | spec_l3Atom_f (s0_0 : ByteArray) (s0_1 : Int) (s0_2 : Bool) (a1 : Int)
  | spec_l3Atom_j0 (x1 : Int) (x26 : Bool) (x1000 : ByteArray) (x1001 : Int) (x1002 : Bool)
def spec_l3Pattern.B : spec_l3Pattern.Q → Pg spec_l3Pattern.Q (fun _ => Int × Int × ByteArray × Bool × (List S26) × ByteArray × Int × Bool) (Int × Int × ByteArray × Bool × (List S26) × ByteArray × Int × Bool)
  | .spec_l3Pattern_f s0_0 s0_1 s0_2 a1 => .ask (.spec_l3Part_f s0_0 s0_1 s0_2 a1) fun (t8 : Int × Int × ByteArray × Bool × (List S26) × ByteArray × Int × Bool) => (.to (.spec_l3Pattern_l0 a1 ([(⟨t8.1, t8.2.1, t8.2.2.1, t8.2.2.2.1, t8.2.2.2.2.1⟩ : S26)] : List S26) t8.2.2.2.2.2.1 t8.2.2.2.2.2.2.1 t8.2.2.2.2.2.2.2))
  | .spec_l3Pattern_l0 x1 x5 x1000 x1001 x1002 => .opt (spec_l3Now.f x1000 x1001 x1002 124) fun t11 => (if t11.1 = true then (.ask (.spec_l3Part_f t11.2.1 (wrap64 (t11.2.2.1 + 1)) t11.2.2.2 x1) fun (t22 : Int × Int × ByteArray × Bool × (List S26) × ByteArray × Int × Bool) => (if x5.length < 2199023255552 then (.to (.spec_l3Pattern_l0 x1 (x5 ++ [(⟨t22.1, t22.2.1, t22.2.2.1, t22.2.2.2.1, t22.2.2.2.2.1⟩ : S26)]) t22.2.2.2.2.2.1 t22.2.2.2.2.2.2.1 t22.2.2.2.2.2.2.2)) else (.bad))) else (if (x5.length : Int) = 1 then (if 0 < (x5.length : Int) then (.ret ((rd_T26 x5 0).f0, (rd_T26 x5 0).f1, (rd_T26 x5 0).f2, (rd_T26 x5 0).f3, (rd_T26 x5 0).f4, t11.2.1, t11.2.2.1, t11.2.2.2)) else (.bad)) else (.ret (7, 0, (⟨#[]⟩ : ByteArray), false, x5, t11.2.1, t11.2.2.1, t11.2.2.2))))
  | .spec_l3Part_f s0_0 s0_1 s0_2 a1 => .to (.spec_l3Part_l0 a1 ([] : List S26) s0_0 s0_1 s0_2)
  | .spec_l3Part_j1 x5 x1000 x1001 x1002 => if (x5.length : Int) = 0 then (.ret (11, 0, (⟨#[]⟩ : ByteArray), false, ([] : List S26), x1000, x1001, x1002)) else (if (x5.length : Int) = 1 then (if 0 < (x5.length : Int) then (.ret ((rd_T26 x5 0).f0, (rd_T26 x5 0).f1, (rd_T26 x5 0).f2, (rd_T26 x5 0).f3, (rd_T26 x5 0).f4, x1000, x1001, x1002)) else (.bad)) else (.ret (6, 0, (⟨#[]⟩ : ByteArray), false, x5, x1000, x1001, x1002)))
  | .spec_l3Part_l0 x1 x5 x1000 x1001 x1002 => if x1002 = true then (.to (.spec_l3Part_j1 x5 x1000 x1001 x1002)) else (if x1001 < (x1000.size : Int) then (if 0 ≤ x1001 then (if (bt x1000 x1001) = 124 then (.to (.spec_l3Part_j1 x5 x1000 x1001 x1002)) else (if (bt x1000 x1001) = 41 then (.to (.spec_l3Part_j1 x5 x1000 x1001 x1002)) else (.ask (.spec_l3Piece_f x1000 x1001 x1002 x1) fun (t51 : Int × Int × ByteArray × Bool × (List S26) × ByteArray × Int × Bool) => (if x5.length < 2199023255552 then (.to (.spec_l3Part_l0 x1 (x5 ++ [(⟨t51.1, t51.2.1, t51.2.2.1, t51.2.2.2.1, t51.2.2.2.2.1⟩ : S26)]) t51.2.2.2.2.2.1 t51.2.2.2.2.2.2.1 t51.2.2.2.2.2.2.2)) else (.bad))))) else (.bad)) else (.to (.spec_l3Part_j1 x5 x1000 x1001 x1002)))
  | .spec_l3Piece_f s0_0 s0_1 s0_2 a1 => .ask (.spec_l3Atom_f s0_0 s0_1 s0_2 a1) fun (t10 : Int × Int × ByteArray × Bool × (List S26) × ByteArray × Int × Bool) => (.to (.spec_l3Piece_l0 t10.2.2.2.2.2.1 t10.2.2.2.2.2.2.1 t10.2.2.2.2.2.2.2 t10.1 t10.2.1 t10.2.2.1 t10.2.2.2.1 t10.2.2.2.2.1))
  | .spec_l3Piece_l0 x1000 x1001 x1002 x531_0 x531_1 x531_2 x531_3 x531_4 => if x1002 = true then (.ret (x531_0, x531_1, x531_2, x531_3, x531_4, x1000, x1001, x1002)) else (.opt (spec_l3Now.f x1000 x1001 x1002 42) fun t18 => (if t18.1 = true then (if 8 = 0 then (.ret (x531_0, x531_1, x531_2, x531_3, x531_4, t18.2.1, t18.2.2.1, t18.2.2.2)) else (.to (.spec_l3Piece_l0 t18.2.1 (wrap64 (t18.2.2.1 + 1)) t18.2.2.2 8 0 (⟨#[]⟩ : ByteArray) false ([(⟨x531_0, x531_1, x531_2, x531_3, x531_4⟩ : S26)] : List S26)))) else (.opt (spec_l3Now.f t18.2.1 t18.2.2.1 t18.2.2.2 43) fun t21 => (if t21.1 = true then (if 9 = 0 then (.ret (x531_0, x531_1, x531_2, x531_3, x531_4, t21.2.1, t21.2.2.1, t21.2.2.2)) else (.to (.spec_l3Piece_l0 t21.2.1 (wrap64 (t21.2.2.1 + 1)) t21.2.2.2 9 0 (⟨#[]⟩ : ByteArray) false ([(⟨x531_0, x531_1, x531_2, x531_3, x531_4⟩ : S26)] : List S26)))) else (.opt (spec_l3Now.f t21.2.1 t21.2.2.1 t21.2.2.2 63) fun t24 => (if t24.1 = true then (if 10 = 0 then (.ret (x531_0, x531_1, x531_2, x531_3, x531_4, t24.2.1, t24.2.2.1, t24.2.2.2)) else (.to (.spec_l3Piece_l0 t24.2.1 (wrap64 (t24.2.2.1 + 1)) t24.2.2.2 10 0 (⟨#[]⟩ : ByteArray) false ([(⟨x531_0, x531_1, x531_2, x531_3, x531_4⟩ : S26)] : List S26)))) else (if 0 = 0 then (.ret (x531_0, x531_1, x531_2, x531_3, x531_4, t24.2.1, t24.2.2.1, t24.2.2.2)) else (.to (.spec_l3Piece_l0 t24.2.1 (wrap64 (t24.2.2.1 + 1)) t24.2.2.2 0 0 (⟨#[]⟩ : ByteArray) false ([(⟨x531_0, x531_1, x531_2, x531_3, x531_4⟩ : S26)] : List S26))))))))))
  | .spec_l3Atom_f s0_0 s0_1 s0_2 a1 => if s0_2 = true then (.to (.spec_l3Atom_j0 a1 true s0_0 s0_1 s0_2)) else (if s0_1 ≥ (s0_0.size : Int) then (.to (.spec_l3Atom_j0 a1 true s0_0 s0_1 s0_2)) else (.to (.spec_l3Atom_j0 a1 (decide (a1 > 40)) s0_0 s0_1 s0_2)))
  | .spec_l3Atom_j0 x1 x26 x1000 x1001 x1002 => if x26 = true then (.ret (0, 0, (⟨#[]⟩ : ByteArray), false, ([] : List S26), x1000, x1001, true)) else (if 0 ≤ x1001 then (if x1001 < (x1000.size : Int) then (if (bt x1000 x1001) = 40 then (.ask (.spec_l3Pattern_f x1000 (wrap64 (x1001 + 1)) x1002 (wrap64 (x1 + 1))) fun (t53 : Int × Int × ByteArray × Bool × (List S26) × ByteArray × Int × Bool) => (.opt (spec_l3Now.f t53.2.2.2.2.2.1 t53.2.2.2.2.2.2.1 t53.2.2.2.2.2.2.2 41) fun t55 => (if t55.1 = true then (.ret (t53.1, t53.2.1, t53.2.2.1, t53.2.2.2.1, t53.2.2.2.2.1, t55.2.1, (wrap64 (t55.2.2.1 + 1)), t55.2.2.2)) else (.ret (t53.1, t53.2.1, t53.2.2.1, t53.2.2.2.1, t53.2.2.2.2.1, t55.2.1, (wrap64 (t55.2.2.1 + 1)), true))))) else (if (bt x1000 x1001) = 46 then (.ret (2, 0, (⟨#[]⟩ : ByteArray), false, ([] : List S26), x1000, (wrap64 (x1001 + 1)), x1002)) else (if (bt x1000 x1001) = 94 then (.ret (4, 0, (⟨#[]⟩ : ByteArray), false, ([] : List S26), x1000, (wrap64 (x1001 + 1)), x1002)) else (if (bt x1000 x1001) = 36 then (.ret (5, 0, (⟨#[]⟩ : ByteArray), false, ([] : List S26), x1000, (wrap64 (x1001 + 1)), x1002)) else (if (bt x1000 x1001) = 91 then (.opt (spec_l3Set.fv x1000 (wrap64 (x1001 + 1)) x1002) fun t80 => (.ret (t80.1, t80.2.1, t80.2.2.1, t80.2.2.2.1, t80.2.2.2.2.1, t80.2.2.2.2.2.1, t80.2.2.2.2.2.2.1, t80.2.2.2.2.2.2.2))) else (if (bt x1000 x1001) = 92 then (if (wrap64 (x1001 + 1)) ≥ (x1000.size : Int) then (.ret (0, 0, (⟨#[]⟩ : ByteArray), false, ([] : List S26), x1000, (wrap64 (x1001 + 1)), true)) else (if 0 ≤ (wrap64 (x1001 + 1)) then (if (wrap64 (x1001 + 1)) < (x1000.size : Int) then (.ret (1, (wrap64 (bt x1000 (wrap64 (x1001 + 1)))), (⟨#[]⟩ : ByteArray), false, ([] : List S26), x1000, (wrap64 ((wrap64 (x1001 + 1)) + 1)), x1002)) else (.bad)) else (.bad))) else (if (bt x1000 x1001) = 42 then (.ret (1, (wrap64 (bt x1000 x1001)), (⟨#[]⟩ : ByteArray), false, ([] : List S26), x1000, (wrap64 (x1001 + 1)), true)) else (if (bt x1000 x1001) = 43 then (.ret (1, (wrap64 (bt x1000 x1001)), (⟨#[]⟩ : ByteArray), false, ([] : List S26), x1000, (wrap64 (x1001 + 1)), true)) else (if (bt x1000 x1001) = 63 then (.ret (1, (wrap64 (bt x1000 x1001)), (⟨#[]⟩ : ByteArray), false, ([] : List S26), x1000, (wrap64 (x1001 + 1)), true)) else (.ret (1, (wrap64 (bt x1000 x1001)), (⟨#[]⟩ : ByteArray), false, ([] : List S26), x1000, (wrap64 (x1001 + 1)), x1002))))))))))) else (.bad)) else (.bad))
def spec_l3Pattern.fv (s0_0 : ByteArray) (s0_1 : Int) (s0_2 : Bool) (a1 : Int) : Option (Int × Int × ByteArray × Bool × (List S26) × ByteArray × Int × Bool) := lim spec_l3Pattern.B (.spec_l3Pattern_f s0_0 s0_1 s0_2 a1)
def spec_l3Pattern.l0v (x1 : Int) (x5 : List S26) (x1000 : ByteArray) (x1001 : Int) (x1002 : Bool) : Option (Int × Int × ByteArray × Bool × (List S26) × ByteArray × Int × Bool) := lim spec_l3Pattern.B (.spec_l3Pattern_l0 x1 x5 x1000 x1001 x1002)
def spec_l3Part.fv (s0_0 : ByteArray) (s0_1 : Int) (s0_2 : Bool) (a1 : Int) : Option (Int × Int × ByteArray × Bool × (List S26) × ByteArray × Int × Bool) := lim spec_l3Pattern.B (.spec_l3Part_f s0_0 s0_1 s0_2 a1)
def spec_l3Part.j1v (x5 : List S26) (x1000 : ByteArray) (x1001 : Int) (x1002 : Bool) : Option (Int × Int × ByteArray × Bool × (List S26) × ByteArray × Int × Bool) := lim spec_l3Pattern.B (.spec_l3Part_j1 x5 x1000 x1001 x1002)
def spec_l3Part.l0v (x1 : Int) (x5 : List S26) (x1000 : ByteArray) (x1001 : Int) (x1002 : Bool) : Option (Int × Int × ByteArray × Bool × (List S26) × ByteArray × Int × Bool) := lim spec_l3Pattern.B (.spec_l3Part_l0 x1 x5 x1000 x1001 x1002)
def spec_l3Piece.fv (s0_0 : ByteArray) (s0_1 : Int) (s0_2 : Bool) (a1 : Int) : Option (Int × Int × ByteArray × Bool × (List S26) × ByteArray × Int × Bool) := lim spec_l3Pattern.B (.spec_l3Piece_f s0_0 s0_1 s0_2 a1)
def spec_l3Piece.l0v (x1000 : ByteArray) (x1001 : Int) (x1002 : Bool) (x531_0 : Int) (x531_1 : Int) (x531_2 : ByteArray) (x531_3 : Bool) (x531_4 : List S26) : Option (Int × Int × ByteArray × Bool × (List S26) × ByteArray × Int × Bool) := lim spec_l3Pattern.B (.spec_l3Piece_l0 x1000 x1001 x1002 x531_0 x531_1 x531_2 x531_3 x531_4)
def spec_l3Atom.fv (s0_0 : ByteArray) (s0_1 : Int) (s0_2 : Bool) (a1 : Int) : Option (Int × Int × ByteArray × Bool × (List S26) × ByteArray × Int × Bool) := lim spec_l3Pattern.B (.spec_l3Atom_f s0_0 s0_1 s0_2 a1)
def spec_l3Atom.j0v (x1 : Int) (x26 : Bool) (x1000 : ByteArray) (x1001 : Int) (x1002 : Bool) : Option (Int × Int × ByteArray × Bool × (List S26) × ByteArray × Int × Bool) := lim spec_l3Pattern.B (.spec_l3Atom_j0 x1 x26 x1000 x1001 x1002)
theorem spec_l3Pattern.fv_eq (s0_0 : ByteArray) (s0_1 : Int) (s0_2 : Bool) (a1 : Int) : spec_l3Pattern.fv s0_0 s0_1 s0_2 a1 = ((spec_l3Part.fv s0_0 s0_1 s0_2 a1).bind fun t8 => (spec_l3Pattern.l0v a1 ([(⟨t8.1, t8.2.1, t8.2.2.1, t8.2.2.2.1, t8.2.2.2.2.1⟩ : S26)] : List S26) t8.2.2.2.2.2.1 t8.2.2.2.2.2.2.1 t8.2.2.2.2.2.2.2)) := by
  show lim spec_l3Pattern.B (.spec_l3Pattern_f s0_0 s0_1 s0_2 a1) = _
  rw [lim_eq, spec_l3Pattern.B]
  simp only [ev_ite, ev_opt, ev_ask, ev_to, ev_ret, ev_bad]
  try rfl
theorem spec_l3Pattern.l0v_eq (x1 : Int) (x5 : List S26) (x1000 : ByteArray) (x1001 : Int) (x1002 : Bool) : spec_l3Pattern.l0v x1 x5 x1000 x1001 x1002 = ((spec_l3Now.f x1000 x1001 x1002 124).bind fun t11 => (if t11.1 = true then ((spec_l3Part.fv t11.2.1 (wrap64 (t11.2.2.1 + 1)) t11.2.2.2 x1).bind fun t22 => (if x5.length < 2199023255552 then (spec_l3Pattern.l0v x1 (x5 ++ [(⟨t22.1, t22.2.1, t22.2.2.1, t22.2.2.2.1, t22.2.2.2.2.1⟩ : S26)]) t22.2.2.2.2.2.1 t22.2.2.2.2.2.2.1 t22.2.2.2.2.2.2.2) else (none))) else (if (x5.length : Int) = 1 then (if 0 < (x5.length : Int) then (some ((rd_T26 x5 0).f0, (rd_T26 x5 0).f1, (rd_T26 x5 0).f2, (rd_T26 x5 0).f3, (rd_T26 x5 0).f4, t11.2.1, t11.2.2.1, t11.2.2.2)) else (none)) else (some (7, 0, (⟨#[]⟩ : ByteArray), false, x5, t11.2.1, t11.2.2.1, t11.2.2.2))))) := by
  show lim spec_l3Pattern.B (.spec_l3Pattern_l0 x1 x5 x1000 x1001 x1002) = _
  rw [lim_eq, spec_l3Pattern.B]
  simp only [ev_ite, ev_opt, ev_ask, ev_to, ev_ret, ev_bad]
  try rfl
theorem spec_l3Part.fv_eq (s0_0 : ByteArray) (s0_1 : Int) (s0_2 : Bool) (a1 : Int) : spec_l3Part.fv s0_0 s0_1 s0_2 a1 = (spec_l3Part.l0v a1 ([] : List S26) s0_0 s0_1 s0_2) := by
  show lim spec_l3Pattern.B (.spec_l3Part_f s0_0 s0_1 s0_2 a1) = _
  rw [lim_eq, spec_l3Pattern.B]
  simp only [ev_ite, ev_opt, ev_ask, ev_to, ev_ret, ev_bad]
  try rfl
theorem spec_l3Part.j1v_eq (x5 : List S26) (x1000 : ByteArray) (x1001 : Int) (x1002 : Bool) : spec_l3Part.j1v x5 x1000 x1001 x1002 = (if (x5.length : Int) = 0 then (some (11, 0, (⟨#[]⟩ : ByteArray), false, ([] : List S26), x1000, x1001, x1002)) else (if (x5.length : Int) = 1 then (if 0 < (x5.length : Int) then (some ((rd_T26 x5 0).f0, (rd_T26 x5 0).f1, (rd_T26 x5 0).f2, (rd_T26 x5 0).f3, (rd_T26 x5 0).f4, x1000, x1001, x1002)) else (none)) else (some (6, 0, (⟨#[]⟩ : ByteArray), false, x5, x1000, x1001, x1002)))) := by
  show lim spec_l3Pattern.B (.spec_l3Part_j1 x5 x1000 x1001 x1002) = _
  rw [lim_eq, spec_l3Pattern.B]
  simp only [ev_ite, ev_opt, ev_ask, ev_to, ev_ret, ev_bad]
  try rfl
theorem spec_l3Part.l0v_eq (x1 : Int) (x5 : List S26) (x1000 : ByteArray) (x1001 : Int) (x1002 : Bool) : spec_l3Part.l0v x1 x5 x1000 x1001 x1002 = (if x1002 = true then (spec_l3Part.j1v x5 x1000 x1001 x1002) else (if x1001 < (x1000.size : Int) then (if 0 ≤ x1001 then (if (bt x1000 x1001) = 124 then (spec_l3Part.j1v x5 x1000 x1001 x1002) else (if (bt x1000 x1001) = 41 then (spec_l3Part.j1v x5 x1000 x1001 x1002) else ((spec_l3Piece.fv x1000 x1001 x1002 x1).bind fun t51 => (if x5.length < 2199023255552 then (spec_l3Part.l0v x1 (x5 ++ [(⟨t51.1, t51.2.1, t51.2.2.1, t51.2.2.2.1, t51.2.2.2.2.1⟩ : S26)]) t51.2.2.2.2.2.1 t51.2.2.2.2.2.2.1 t51.2.2.2.2.2.2.2) else (none))))) else (none)) else (spec_l3Part.j1v x5 x1000 x1001 x1002))) := by
  show lim spec_l3Pattern.B (.spec_l3Part_l0 x1 x5 x1000 x1001 x1002) = _
  rw [lim_eq, spec_l3Pattern.B]
  simp only [ev_ite, ev_opt, ev_ask, ev_to, ev_ret, ev_bad]
  try rfl
theorem spec_l3Piece.fv_eq (s0_0 : ByteArray) (s0_1 : Int) (s0_2 : Bool) (a1 : Int) : spec_l3Piece.fv s0_0 s0_1 s0_2 a1 = ((spec_l3Atom.fv s0_0 s0_1 s0_2 a1).bind fun t10 => (spec_l3Piece.l0v t10.2.2.2.2.2.1 t10.2.2.2.2.2.2.1 t10.2.2.2.2.2.2.2 t10.1 t10.2.1 t10.2.2.1 t10.2.2.2.1 t10.2.2.2.2.1)) := by
  show lim spec_l3Pattern.B (.spec_l3Piece_f s0_0 s0_1 s0_2 a1) = _
  rw [lim_eq, spec_l3Pattern.B]
  simp only [ev_ite, ev_opt, ev_ask, ev_to, ev_ret, ev_bad]
  try rfl
theorem spec_l3Piece.l0v_eq (x1000 : ByteArray) (x1001 : Int) (x1002 : Bool) (x531_0 : Int) (x531_1 : Int) (x531_2 : ByteArray) (x531_3 : Bool) (x531_4 : List S26) : spec_l3Piece.l0v x1000 x1001 x1002 x531_0 x531_1 x531_2 x531_3 x531_4 = (if x1002 = true then (some (x531_0, x531_1, x531_2, x531_3, x531_4, x1000, x1001, x1002)) else ((spec_l3Now.f x1000 x1001 x1002 42).bind fun t18 => (if t18.1 = true then (if 8 = 0 then (some (x531_0, x531_1, x531_2, x531_3, x531_4, t18.2.1, t18.2.2.1, t18.2.2.2)) else (spec_l3Piece.l0v t18.2.1 (wrap64 (t18.2.2.1 + 1)) t18.2.2.2 8 0 (⟨#[]⟩ : ByteArray) false ([(⟨x531_0, x531_1, x531_2, x531_3, x531_4⟩ : S26)] : List S26))) else ((spec_l3Now.f t18.2.1 t18.2.2.1 t18.2.2.2 43).bind fun t21 => (if t21.1 = true then (if 9 = 0 then (some (x531_0, x531_1, x531_2, x531_3, x531_4, t21.2.1, t21.2.2.1, t21.2.2.2)) else (spec_l3Piece.l0v t21.2.1 (wrap64 (t21.2.2.1 + 1)) t21.2.2.2 9 0 (⟨#[]⟩ : ByteArray) false ([(⟨x531_0, x531_1, x531_2, x531_3, x531_4⟩ : S26)] : List S26))) else ((spec_l3Now.f t21.2.1 t21.2.2.1 t21.2.2.2 63).bind fun t24 => (if t24.1 = true then (if 10 = 0 then (some (x531_0, x531_1, x531_2, x531_3, x531_4, t24.2.1, t24.2.2.1, t24.2.2.2)) else (spec_l3Piece.l0v t24.2.1 (wrap64 (t24.2.2.1 + 1)) t24.2.2.2 10 0 (⟨#[]⟩ : ByteArray) false ([(⟨x531_0, x531_1, x531_2, x531_3, x531_4⟩ : S26)] : List S26))) else (if 0 = 0 then (some (x531_0, x531_1, x531_2, x531_3, x531_4, t24.2.1, t24.2.2.1, t24.2.2.2)) else (spec_l3Piece.l0v t24.2.1 (wrap64 (t24.2.2.1 + 1)) t24.2.2.2 0 0 (⟨#[]⟩ : ByteArray) false ([(⟨x531_0, x531_1, x531_2, x531_3, x531_4⟩ : S26)] : List S26)))))))))) := by
  show lim spec_l3Pattern.B (.spec_l3Piece_l0 x1000 x1001 x1002 x531_0 x531_1 x531_2 x531_3 x531_4) = _
  rw [lim_eq, spec_l3Pattern.B]
  simp only [ev_ite, ev_opt, ev_ask, ev_to, ev_ret, ev_bad]
  try rfl
theorem spec_l3Atom.fv_eq (s0_0 : ByteArray) (s0_1 : Int) (s0_2 : Bool) (a1 : Int) : spec_l3Atom.fv s0_0 s0_1 s0_2 a1 = (if s0_2 = true then (spec_l3Atom.j0v a1 true s0_0 s0_1 s0_2) else (if s0_1 ≥ (s0_0.size : Int) then (spec_l3Atom.j0v a1 true s0_0 s0_1 s0_2) else (spec_l3Atom.j0v a1 (decide (a1 > 40)) s0_0 s0_1 s0_2))) := by
  show lim spec_l3Pattern.B (.spec_l3Atom_f s0_0 s0_1 s0_2 a1) = _
  rw [lim_eq, spec_l3Pattern.B]
  simp only [ev_ite, ev_opt, ev_ask, ev_to, ev_ret, ev_bad]
  try rfl
theorem spec_l3Atom.j0v_eq (x1 : Int) (x26 : Bool) (x1000 : ByteArray) (x1001 : Int) (x1002 : Bool) : spec_l3Atom.j0v x1 x26 x1000 x1001 x1002 = (if x26 = true then (some (0, 0, (⟨#[]⟩ : ByteArray), false, ([] : List S26), x1000, x1001, true)) else (if 0 ≤ x1001 then (if x1001 < (x1000.size : Int) then (if (bt x1000 x1001) = 40 then ((spec_l3Pattern.fv x1000 (wrap64 (x1001 + 1)) x1002 (wrap64 (x1 + 1))).bind fun t53 => ((spec_l3Now.f t53.2.2.2.2.2.1 t53.2.2.2.2.2.2.1 t53.2.2.2.2.2.2.2 41).bind fun t55 => (if t55.1 = true then (some (t53.1, t53.2.1, t53.2.2.1, t53.2.2.2.1, t53.2.2.2.2.1, t55.2.1, (wrap64 (t55.2.2.1 + 1)), t55.2.2.2)) else (some (t53.1, t53.2.1, t53.2.2.1, t53.2.2.2.1, t53.2.2.2.2.1, t55.2.1, (wrap64 (t55.2.2.1 + 1)), true))))) else (if (bt x1000 x1001) = 46 then (some (2, 0, (⟨#[]⟩ : ByteArray), false, ([] : List S26), x1000, (wrap64 (x1001 + 1)), x1002)) else (if (bt x1000 x1001) = 94 then (some (4, 0, (⟨#[]⟩ : ByteArray), false, ([] : List S26), x1000, (wrap64 (x1001 + 1)), x1002)) else (if (bt x1000 x1001) = 36 then (some (5, 0, (⟨#[]⟩ : ByteArray), false, ([] : List S26), x1000, (wrap64 (x1001 + 1)), x1002)) else (if (bt x1000 x1001) = 91 then ((spec_l3Set.fv x1000 (wrap64 (x1001 + 1)) x1002).bind fun t80 => (some (t80.1, t80.2.1, t80.2.2.1, t80.2.2.2.1, t80.2.2.2.2.1, t80.2.2.2.2.2.1, t80.2.2.2.2.2.2.1, t80.2.2.2.2.2.2.2))) else (if (bt x1000 x1001) = 92 then (if (wrap64 (x1001 + 1)) ≥ (x1000.size : Int) then (some (0, 0, (⟨#[]⟩ : ByteArray), false, ([] : List S26), x1000, (wrap64 (x1001 + 1)), true)) else (if 0 ≤ (wrap64 (x1001 + 1)) then (if (wrap64 (x1001 + 1)) < (x1000.size : Int) then (some (1, (wrap64 (bt x1000 (wrap64 (x1001 + 1)))), (⟨#[]⟩ : ByteArray), false, ([] : List S26), x1000, (wrap64 ((wrap64 (x1001 + 1)) + 1)), x1002)) else (none)) else (none))) else (if (bt x1000 x1001) = 42 then (some (1, (wrap64 (bt x1000 x1001)), (⟨#[]⟩ : ByteArray), false, ([] : List S26), x1000, (wrap64 (x1001 + 1)), true)) else (if (bt x1000 x1001) = 43 then (some (1, (wrap64 (bt x1000 x1001)), (⟨#[]⟩ : ByteArray), false, ([] : List S26), x1000, (wrap64 (x1001 + 1)), true)) else (if (bt x1000 x1001) = 63 then (some (1, (wrap64 (bt x1000 x1001)), (⟨#[]⟩ : ByteArray), false, ([] : List S26), x1000, (wrap64 (x1001 + 1)), true)) else (some (1, (wrap64 (bt x1000 x1001)), (⟨#[]⟩ : ByteArray), false, ([] : List S26), x1000, (wrap64 (x1001 + 1)), x1002))))))))))) else (none)) else (none))) := by
  show lim spec_l3Pattern.B (.spec_l3Atom_j0 x1 x26 x1000 x1001 x1002) = _
  rw [lim_eq, spec_l3Pattern.B]
  simp only [ev_ite, ev_opt, ev_ask, ev_to, ev_ret, ev_bad]
  try rfl
def spec_l1Max.f (a0 : Int) (a1 : Int) : Option (Int) := if a0 > a1 then (some a0) else (some a1)
inductive spec_l3Deep.Q where
  | f (a0_0 : Int) (a0_1 : Int) (a0_2 : ByteArray) (a0_3 : Bool) (l0_4 : List S26)
  | l0 (x3 : Int) (x4 : Int) (x16_0 : Int) (x16_1 : Int) (x16_2 : ByteArray) (x16_3 : Bool) (x16_4 : List S26)
def spec_l3Deep.B : spec_l3Deep.Q → Pg spec_l3Deep.Q (fun _ => Int) (Int)
  | .f a0_0 a0_1 a0_2 a0_3 l0_4 => .to (.l0 0 0 a0_0 a0_1 a0_2 a0_3 l0_4)
  | .l0 x3 x4 x16_0 x16_1 x16_2 x16_3 x16_4 => if x4 < (x16_4.length : Int) then (if 0 ≤ x4 then (.ask (.f ((rd_T26 x16_4 x4).f0) ((rd_T26 x16_4 x4).f1) ((rd_T26 x16_4 x4).f2) ((rd_T26 x16_4 x4).f3) ((rd_T26 x16_4 x4).f4)) fun (t18 : Int) => (.opt (spec_l1Max.f x3 t18) fun t19 => (.to (.l0 t19 (wrap64 (x4 + 1)) x16_0 x16_1 x16_2 x16_3 x16_4)))) else (.bad)) else (.ret (wrap64 (x3 + 1)))
def spec_l3Deep.fv (a0_0 : Int) (a0_1 : Int) (a0_2 : ByteArray) (a0_3 : Bool) (l0_4 : List S26) : Option (Int) := lim spec_l3Deep.B (.f a0_0 a0_1 a0_2 a0_3 l0_4)
def spec_l3Deep.l0v (x3 : Int) (x4 : Int) (x16_0 : Int) (x16_1 : Int) (x16_2 : ByteArray) (x16_3 : Bool) (x16_4 : List S26) : Option (Int) := lim spec_l3Deep.B (.l0 x3 x4 x16_0 x16_1 x16_2 x16_3 x16_4)
theorem spec_l3Deep.fv_eq (a0_0 : Int) (a0_1 : Int) (a0_2 : ByteArray) (a0_3 : Bool) (l0_4 : List S26) : spec_l3Deep.fv a0_0 a0_1 a0_2 a0_3 l0_4 = (spec_l3Deep.l0v 0 0 a0_0 a0_1 a0_2 a0_3 l0_4) := by
  show lim spec_l3Deep.B (.f a0_0 a0_1 a0_2 a0_3 l0_4) = _
  rw [lim_eq, spec_l3Deep.B]
  simp only [ev_ite, ev_opt, ev_ask, ev_to, ev_ret, ev_bad]
  try rfl
theorem spec_l3Deep.l0v_eq (x3 : Int) (x4 : Int) (x16_0 : Int) (x16_1 : Int) (x16_2 : ByteArray) (x16_3 : Bool) (x16_4 : List S26) : spec_l3Deep.l0v x3 x4 x16_0 x16_1 x16_2 x16_3 x16_4 = (if x4 < (x16_4.length : Int) then (if 0 ≤ x4 then ((spec_l3Deep.fv ((rd_T26 x16_4 x4).f0) ((rd_T26 x16_4 x4).f1) ((rd_T26 x16_4 x4).f2) ((rd_T26 x16_4 x4).f3) ((rd_T26 x16_4 x4).f4)).bind fun t18 => ((spec_l1Max.f x3 t18).bind fun t19 => (spec_l3Deep.l0v t19 (wrap64 (x4 + 1)) x16_0 x16_1 x16_2 x16_3 x16_4))) else (none)) else (some (wrap64 (x3 + 1)))) := by
  show lim spec_l3Deep.B (.l0 x3 x4 x16_0 x16_1 x16_2 x16_3 x16_4) = _
  rw [lim_eq, spec_l3Deep.B]
  simp only [ev_ite, ev_opt, ev_ask, ev_to, ev_ret, ev_bad]
  try rfl
def spec_RexParse.fv (a0 : ByteArray) : Option (Int × Int × ByteArray × Bool × (List S26) × Bool) := if (a0.size : Int) > 60 then (some (0, 0, (⟨#[]⟩ : ByteArray), false, ([] : List S26), false)) else ((spec_l3Pattern.fv a0 0 false 0).bind fun t14 => (if t14.2.2.2.2.2.2.2 = true then (some (0, 0, (⟨#[]⟩ : ByteArray), false, ([] : List S26), false)) else (if t14.2.2.2.2.2.2.1 = (a0.size : Int) then ((spec_l3Deep.fv t14.1 t14.2.1 t14.2.2.1 t14.2.2.2.1 t14.2.2.2.2.1).bind fun t30 => (if t30 > 12 then (some (0, 0, (⟨#[]⟩ : ByteArray), false, ([] : List S26), false)) else (some (t14.1, t14.2.1, t14.2.2.1, t14.2.2.2.1, t14.2.2.2.2.1, true)))) else (some (0, 0, (⟨#[]⟩ : ByteArray), false, ([] : List S26), false)))))
theorem spec_RexParse.fv_eq (a0 : ByteArray) : spec_RexParse.fv a0 = (if (a0.size : Int) > 60 then (some (0, 0, (⟨#[]⟩ : ByteArray), false, ([] : List S26), false)) else ((spec_l3Pattern.fv a0 0 false 0).bind fun t14 => (if t14.2.2.2.2.2.2.2 = true then (some (0, 0, (⟨#[]⟩ : ByteArray), false, ([] : List S26), false)) else (if t14.2.2.2.2.2.2.1 = (a0.size : Int) then ((spec_l3Deep.fv t14.1 t14.2.1 t14.2.2.1 t14.2.2.2.1 t14.2.2.2.2.1).bind fun t30 => (if t30 > 12 then (some (0, 0, (⟨#[]⟩ : ByteArray), false, ([] : List S26), false)) else (some (t14.1, t14.2.1, t14.2.2.1, t14.2.2.2.1, t14.2.2.2.2.1, true)))) else (some (0, 0, (⟨#[]⟩ : ByteArray), false, ([] : List S26), false)))))) := by rw [spec_RexParse.fv]
def impl_in.f (a0 : Int) (a1 : Int) (a2 : Int) : Option (Bool) := if a0 ≥ a1 then (some (decide (a0 ≤ a2))) else (some false)
inductive impl_setRight.Q where
  | f (a0_0 : Int) (a0_1 : Int) (a0_2 : ByteArray) (a0_3 : Bool) (l0_4 : List S26)
  | l0 (x6 : Int) (x7 : Int) (x16_0 : Int) (x16_1 : Int) (x16_2 : ByteArray) (x16_3 : Bool) (x16_4 : List S26)
  | j0 (x16_0 : Int) (x16_1 : Int) (x16_2 : ByteArray) (x16_3 : Bool) (x16_4 : List S26)
  | j1 (x33 : Bool) (x16_0 : Int) (x16_1 : Int) (x16_2 : ByteArray) (x16_3 : Bool) (x16_4 : List S26)
def impl_setRight.B : impl_setRight.Q → Pg impl_setRight.Q (fun _ => Bool) (Bool)
  | .f a0_0 a0_1 a0_2 a0_3 l0_4 => .to (.l0 (a0_2.size : Int) 0 a0_0 a0_1 a0_2 a0_3 l0_4)
  | .l0 x6 x7 x16_0 x16_1 x16_2 x16_3 x16_4 => if x7 < x6 then (if x7 > 0 then (if 0 ≤ (wrap64 (x7 - 1)) then (if (wrap64 (x7 - 1)) < (x16_2.size : Int) then (if 0 ≤ x7 then (if x7 < (x16_2.size : Int) then (if (bt x16_2 (wrap64 (x7 - 1))) ≥ (bt x16_2 x7) then (.ret false) else (.to (.l0 x6 (wrap64 (x7 + 1)) x16_0 x16_1 x16_2 x16_3 x16_4))) else (.bad)) else (.bad)) else (.bad)) else (.bad)) else (.to (.l0 x6 (wrap64 (x7 + 1)) x16_0 x16_1 x16_2 x16_3 x16_4))) else (.opt (strings_Contains.f x16_2 (⟨#[93]⟩ : ByteArray)) fun t27 => (if t27 = true then (.opt (strings_Contains.f x16_2 (⟨#[92, 93, 94]⟩ : ByteArray)) fun t31 => (.to (.j1 (!t31) x16_0 x16_1 x16_2 x16_3 x16_4))) else (.to (.j1 false x16_0 x16_1 x16_2 x16_3 x16_4))))
  | .j0 x16_0 x16_1 x16_2 x16_3 x16_4 => if x16_2.toList = ([] : List UInt8) then (.ret false) else (if x16_3 = true then (.ret true) else (.ret (!(x16_2.toList == (⟨#[94]⟩ : ByteArray).toList))))
  | .j1 x33 x16_0 x16_1 x16_2 x16_3 x16_4 => if x33 = true then (.ret false) else (.to (.j0 x16_0 x16_1 x16_2 x16_3 x16_4))
def impl_setRight.fv (a0_0 : Int) (a0_1 : Int) (a0_2 : ByteArray) (a0_3 : Bool) (l0_4 : List S26) : Option (Bool) := lim impl_setRight.B (.f a0_0 a0_1 a0_2 a0_3 l0_4)
def impl_setRight.l0v (x6 : Int) (x7 : Int) (x16_0 : Int) (x16_1 : Int) (x16_2 : ByteArray) (x16_3 : Bool) (x16_4 : List S26) : Option (Bool) := lim impl_setRight.B (.l0 x6 x7 x16_0 x16_1 x16_2 x16_3 x16_4)
def impl_setRight.j0v (x16_0 : Int) (x16_1 : Int) (x16_2 : ByteArray) (x16_3 : Bool) (x16_4 : List S26) : Option (Bool) := lim impl_setRight.B (.j0 x16_0 x16_1 x16_2 x16_3 x16_4)
def impl_setRight.j1v (x33 : Bool) (x16_0 : Int) (x16_1 : Int) (x16_2 : ByteArray) (x16_3 : Bool) (x16_4 : List S26) : Option (Bool) := lim impl_setRight.B (.j1 x33 x16_0 x16_1 x16_2 x16_3 x16_4)
theorem impl_setRight.fv_eq (a0_0 : Int) (a0_1 : Int) (a0_2 : ByteArray) (a0_3 : Bool) (l0_4 : List S26) : impl_setRight.fv a0_0 a0_1 a0_2 a0_3 l0_4 = (impl_setRight.l0v (a0_2.size : Int) 0 a0_0 a0_1 a0_2 a0_3 l0_4) := by
  show lim impl_setRight.B (.f a0_0 a0_1 a0_2 a0_3 l0_4) = _
  rw [lim_eq, impl_setRight.B]
  simp only [ev_ite, ev_opt, ev_ask, ev_to, ev_ret, ev_bad]
  try rfl
theorem impl_setRight.l0v_eq (x6 : Int) (x7 : Int) (x16_0 : Int) (x16_1 : Int) (x16_2 : ByteArray) (x16_3 : Bool) (x16_4 : List S26) : impl_setRight.l0v x6 x7 x16_0 x16_1 x16_2 x16_3 x16_4 = (if x7 < x6 then (if x7 > 0 then (if 0 ≤ (wrap64 (x7 - 1)) then (if (wrap64 (x7 - 1)) < (x16_2.size : Int) then (if 0 ≤ x7 then (if x7 < (x16_2.size : Int) then (if (bt x16_2 (wrap64 (x7 - 1))) ≥ (bt x16_2 x7) then (some false) else (impl_setRight.l0v x6 (wrap64 (x7 + 1)) x16_0 x16_1 x16_2 x16_3 x16_4)) else (none)) else (none)) else (none)) else (none)) else (impl_setRight.l0v x6 (wrap64 (x7 + 1)) x16_0 x16_1 x16_2 x16_3 x16_4)) else ((strings_Contains.f x16_2 (⟨#[93]⟩ : ByteArray)).bind fun t27 => (if t27 = true then ((strings_Contains.f x16_2 (⟨#[92, 93, 94]⟩ : ByteArray)).bind fun t31 => (impl_setRight.j1v (!t31) x16_0 x16_1 x16_2 x16_3 x16_4)) else (impl_setRight.j1v false x16_0 x16_1 x16_2 x16_3 x16_4)))) := by
  show lim impl_setRight.B (.l0 x6 x7 x16_0 x16_1 x16_2 x16_3 x16_4) = _
  rw [lim_eq, impl_setRight.B]
  simp only [ev_ite, ev_opt, ev_ask, ev_to, ev_ret, ev_bad]
  try rfl
theorem impl_setRight.j0v_eq (x16_0 : Int) (x16_1 : Int) (x16_2 : ByteArray) (x16_3 : Bool) (x16_4 : List S26) : impl_setRight.j0v x16_0 x16_1 x16_2 x16_3 x16_4 = (if x16_2.toList = ([] : List UInt8) then (some false) else (if x16_3 = true then (some true) else (some (!(x16_2.toList == (⟨#[94]⟩ : ByteArray).toList))))) := by
  show lim impl_setRight.B (.j0 x16_0 x16_1 x16_2 x16_3 x16_4) = _
  rw [lim_eq, impl_setRight.B]
  simp only [ev_ite, ev_opt, ev_ask, ev_to, ev_ret, ev_bad]
  try rfl
theorem impl_setRight.j1v_eq (x33 : Bool) (x16_0 : Int) (x16_1 : Int) (x16_2 : ByteArray) (x16_3 : Bool) (x16_4 : List S26) : impl_setRight.j1v x33 x16_0 x16_1 x16_2 x16_3 x16_4 = (if x33 = true then (some false) else (impl_setRight.j0v x16_0 x16_1 x16_2 x16_3 x16_4)) := by
  show lim impl_setRight.B (.j1 x33 x16_0 x16_1 x16_2 x16_3 x16_4) = _
  rw [lim_eq, impl_setRight.B]
  simp only [ev_ite, ev_opt, ev_ask, ev_to, ev_ret, ev_bad]
  try rfl
inductive impl_rexRight.Q where
  | impl_rexRight_f (a0_0 : Int) (a0_1 : Int) (a0_2 : ByteArray) (a0_3 : Bool) (l0_4 : List S26) (a1 : Int)
  | impl_rexRight_j0 (x16_0 : Int) (x16_1 : Int) (x16_2 : ByteArray) (x16_3 : Bool) (x16_4 : List S26) (x17_0 : Int)
  | impl_rexRight_j1 (x31 : Bool) (x16_0 : Int) (x16_1 : Int) (x16_2 : ByteArray) (x16_3 : Bool) (x16_4 : List S26) (x17_0 : Int)
  | impl_rexRight_j2 (x5 : Bool) (x16_0 : Int) (x16_1 : Int) (x16_2 : ByteArray) (x16_3 : Bool) (x16_4 : List S26) (x17_0 : Int)
  | impl_rexRight_j3 (x5 : Bool) (x33 : Int) (x45 : Bool) (x16_0 : Int) (x16_1 : Int) (x16_2 : ByteArray) (x16_3 : Bool) (x16_4 : List S26) (x17_0 : Int)
  | impl_rexRight_j4 (x5 : Bool) (x33 : Int) (x64 : Bool) (x16_0 : Int) (x16_1 : Int) (x16_2 : ByteArray) (x16_3 : Bool) (x16_4 : List S26) (x17_0 : Int)
  | impl_rexRight_j5 (x5 : Bool) (x71 : Bool) (x16_0 : Int) (x16_1 : Int) (x16_2 : ByteArray) (x16_3 : Bool) (x16_4 : List S26) (x17_0 : Int)
  | slices_ContainsFunc_impl_Rex_impl_Rex__impl_rexRight_1_f (l0 : List S26) (a1q0_0 : Int)
  | slices_IndexFunc_impl_Rex_impl_Rex__impl_rexRight_1_f (l0 : List S26) (a1q0_0 : Int)
  | slices_IndexFunc_impl_Rex_impl_Rex__impl_rexRight_1_l0 (x0 : List S26) (x7 : Int) (x8 : Int) (a1q0_0 : Int)
  | impl_rexRight_1_f (a0_0 : Int) (a0_1 : Int) (a0_2 : ByteArray) (a0_3 : Bool) (l0_4 : List S26) (a1_0 : Int)
abbrev impl_rexRight.A : impl_rexRight.Q → Type
  | .impl_rexRight_f _ _ _ _ _ _ => Bool
  | .impl_rexRight_j0 _ _ _ _ _ _ => Bool
  | .impl_rexRight_j1 _ _ _ _ _ _ _ => Bool
  | .impl_rexRight_j2 _ _ _ _ _ _ _ => Bool
  | .impl_rexRight_j3 _ _ _ _ _ _ _ _ _ => Bool
  | .impl_rexRight_j4 _ _ _ _ _ _ _ _ _ => Bool
  | .impl_rexRight_j5 _ _ _ _ _ _ _ _ => Bool
  | .slices_ContainsFunc_impl_Rex_impl_Rex__impl_rexRight_1_f _ _ => Bool
  | .slices_IndexFunc_impl_Rex_impl_Rex__impl_rexRight_1_f _ _ => Int
  | .slices_IndexFunc_impl_Rex_impl_Rex__impl_rexRight_1_l0 _ _ _ _ => Int
  | .impl_rexRight_1_f _ _ _ _ _ _ => Bool
def impl_rexRight.B : (q : impl_rexRight.Q) → Pg impl_rexRight.Q impl_rexRight.A (impl_rexRight.A q)
  | .impl_rexRight_f a0_0 a0_1 a0_2 a0_3 l0_4 a1 => if a1 = 0 then (.to (impl_rexRight.Q.impl_rexRight_j1 true a0_0 a0_1 a0_2 a0_3 l0_4 a1)) else (if a0_0 = 1 then (if a0_0 = 3 then (.to (impl_rexRight.Q.impl_rexRight_j1 false a0_0 a0_1 a0_2 a0_3 l0_4 a1)) else (if a0_2.toList = ([] : List UInt8) then (.to (impl_rexRight.Q.impl_rexRight_j1 a0_3 a0_0 a0_1 a0_2 a0_3 l0_4 a1)) else (.to (impl_rexRight.Q.impl_rexRight_j1 true a0_0 a0_1 a0_2 a0_3 l0_4 a1)))) else (if a0_1 = 0 then (if a0_0 = 3 then (.to (impl_rexRight.Q.impl_rexRight_j1 false a0_0 a0_1 a0_2 a0_3 l0_4 a1)) else (if a0_2.toList = ([] : List UInt8) then (.to (impl_rexRight.Q.impl_rexRight_j1 a0_3 a0_0 a0_1 a0_2 a0_3 l0_4 a1)) else (.to (impl_rexRight.Q.impl_rexRight_j1 true a0_0 a0_1 a0_2 a0_3 l0_4 a1)))) else (.to (impl_rexRight.Q.impl_rexRight_j1 true a0_0 a0_1 a0_2 a0_3 l0_4 a1))))
  | .impl_rexRight_j0 x16_0 x16_1 x16_2 x16_3 x16_4 x17_0 => if x16_0 = 1 then (.opt (impl_in.f x16_1 0 255) fun t38 => (if t38 = true then (.to (impl_rexRight.Q.impl_rexRight_j2 ((x16_4.length : Int) == 0) x16_0 x16_1 x16_2 x16_3 x16_4 x17_0)) else (.to (impl_rexRight.Q.impl_rexRight_j2 false x16_0 x16_1 x16_2 x16_3 x16_4 x17_0)))) else (if x16_0 = 2 then (.to (impl_rexRight.Q.impl_rexRight_j3 false x16_0 (x16_0 == 2) x16_0 x16_1 x16_2 x16_3 x16_4 x17_0)) else (if x16_0 = 4 then (.to (impl_rexRight.Q.impl_rexRight_j3 false x16_0 (x16_0 == 4) x16_0 x16_1 x16_2 x16_3 x16_4 x17_0)) else (if x16_0 = 5 then (.to (impl_rexRight.Q.impl_rexRight_j3 false x16_0 (x16_0 == 5) x16_0 x16_1 x16_2 x16_3 x16_4 x17_0)) else (.to (impl_rexRight.Q.impl_rexRight_j3 false x16_0 (x16_0 == 11) x16_0 x16_1 x16_2 x16_3 x16_4 x17_0)))))
  | .impl_rexRight_j1 x31 x16_0 x16_1 x16_2 x16_3 x16_4 x17_0 => if x31 = true then (.ret (false : Bool)) else (.to (impl_rexRight.Q.impl_rexRight_j0 x16_0 x16_1 x16_2 x16_3 x16_4 x17_0))
  | .impl_rexRight_j2 x5 x16_0 x16_1 x16_2 x16_3 x16_4 x17_0 => if x5 = true then (.ask (impl_rexRight.Q.slices_ContainsFunc_impl_Rex_impl_Rex__impl_rexRight_1_f x16_4 x17_0) fun (t84 : Bool) => (.ret ((!t84) : Bool))) else (.ret (false : Bool))
  | .impl_rexRight_j3 x5 x33 x45 x16_0 x16_1 x16_2 x16_3 x16_4 x17_0 => if x45 = true then (.to (impl_rexRight.Q.impl_rexRight_j2 ((x16_4.length : Int) == 0) x16_0 x16_1 x16_2 x16_3 x16_4 x17_0)) else (if x33 = 3 then (.opt (impl_setRight.fv x16_0 x16_1 x16_2 x16_3 x16_4) fun t57 => (if t57 = true then (.to (impl_rexRight.Q.impl_rexRight_j2 ((x16_4.length : Int) == 0) x16_0 x16_1 x16_2 x16_3 x16_4 x17_0)) else (.to (impl_rexRight.Q.impl_rexRight_j2 false x16_0 x16_1 x16_2 x16_3 x16_4 x17_0)))) else (if x33 = 6 then (.to (impl_rexRight.Q.impl_rexRight_j4 x5 x33 (x33 == 6) x16_0 x16_1 x16_2 x16_3 x16_4 x17_0)) else (.to (impl_rexRight.Q.impl_rexRight_j4 x5 x33 (x33 == 7) x16_0 x16_1 x16_2 x16_3 x16_4 x17_0))))
  | .impl_rexRight_j4 x5 x33 x64 x16_0 x16_1 x16_2 x16_3 x16_4 x17_0 => if x64 = true then (.to (impl_rexRight.Q.impl_rexRight_j2 ((decide ((x16_4.length : Int) > 1))) x16_0 x16_1 x16_2 x16_3 x16_4 x17_0)) else (if x33 = 8 then (.to (impl_rexRight.Q.impl_rexRight_j5 x5 (x33 == 8) x16_0 x16_1 x16_2 x16_3 x16_4 x17_0)) else (if x33 = 9 then (.to (impl_rexRight.Q.impl_rexRight_j5 x5 (x33 == 9) x16_0 x16_1 x16_2 x16_3 x16_4 x17_0)) else (.to (impl_rexRight.Q.impl_rexRight_j5 x5 (x33 == 10) x16_0 x16_1 x16_2 x16_3 x16_4 x17_0))))
  | .impl_rexRight_j5 x5 x71 x16_0 x16_1 x16_2 x16_3 x16_4 x17_0 => if x71 = true then (.to (impl_rexRight.Q.impl_rexRight_j2 ((x16_4.length : Int) == 1) x16_0 x16_1 x16_2 x16_3 x16_4 x17_0)) else (.to (impl_rexRight.Q.impl_rexRight_j2 x5 x16_0 x16_1 x16_2 x16_3 x16_4 x17_0))
  | .slices_ContainsFunc_impl_Rex_impl_Rex__impl_rexRight_1_f l0 a1q0_0 => .ask (impl_rexRight.Q.slices_IndexFunc_impl_Rex_impl_Rex__impl_rexRight_1_f l0 a1q0_0) fun (t7 : Int) => (.ret ((decide (t7 ≥ 0)) : Bool))
  | .slices_IndexFunc_impl_Rex_impl_Rex__impl_rexRight_1_f l0 a1q0_0 => .to (impl_rexRight.Q.slices_IndexFunc_impl_Rex_impl_Rex__impl_rexRight_1_l0 l0 (l0.length : Int) 0 a1q0_0)
  | .slices_IndexFunc_impl_Rex_impl_Rex__impl_rexRight_1_l0 x0 x7 x8 a1q0_0 => if x8 < x7 then (if 0 ≤ x8 then (if x8 < (x0.length : Int) then (.ask (impl_rexRight.Q.impl_rexRight_1_f ((rd_T26 x0 x8).f0) ((rd_T26 x0 x8).f1) ((rd_T26 x0 x8).f2) ((rd_T26 x0 x8).f3) ((rd_T26 x0 x8).f4) a1q0_0) fun (t16 : Bool) => (if t16 = true then (.ret (x8 : Int)) else (.to (impl_rexRight.Q.slices_IndexFunc_impl_Rex_impl_Rex__impl_rexRight_1_l0 x0 x7 (wrap64 (x8 + 1)) a1q0_0)))) else (.bad)) else (.bad)) else (.ret ((-1) : Int))
  | .impl_rexRight_1_f a0_0 a0_1 a0_2 a0_3 l0_4 a1_0 => .ask (impl_rexRight.Q.impl_rexRight_f a0_0 a0_1 a0_2 a0_3 l0_4 (wrap64 (a1_0 - 1))) fun (t7 : Bool) => (.ret ((!t7) : Bool))
def impl_rexRight.fv (a0_0 : Int) (a0_1 : Int) (a0_2 : ByteArray) (a0_3 : Bool) (l0_4 : List S26) (a1 : Int) : Option (Bool) := lim impl_rexRight.B (.impl_rexRight_f a0_0 a0_1 a0_2 a0_3 l0_4 a1)
def impl_rexRight.j0v (x16_0 : Int) (x16_1 : Int) (x16_2 : ByteArray) (x16_3 : Bool) (x16_4 : List S26) (x17_0 : Int) : Option (Bool) := lim impl_rexRight.B (.impl_rexRight_j0 x16_0 x16_1 x16_2 x16_3 x16_4 x17_0)
def impl_rexRight.j1v (x31 : Bool) (x16_0 : Int) (x16_1 : Int) (x16_2 : ByteArray) (x16_3 : Bool) (x16_4 : List S26) (x17_0 : Int) : Option (Bool) := lim impl_rexRight.B (.impl_rexRight_j1 x31 x16_0 x16_1 x16_2 x16_3 x16_4 x17_0)
def impl_rexRight.j2v (x5 : Bool) (x16_0 : Int) (x16_1 : Int) (x16_2 : ByteArray) (x16_3 : Bool) (x16_4 : List S26) (x17_0 : Int) : Option (Bool) := lim impl_rexRight.B (.impl_rexRight_j2 x5 x16_0 x16_1 x16_2 x16_3 x16_4 x17_0)
def impl_rexRight.j3v (x5 : Bool) (x33 : Int) (x45 : Bool) (x16_0 : Int) (x16_1 : Int) (x16_2 : ByteArray) (x16_3 : Bool) (x16_4 : List S26) (x17_0 : Int) : Option (Bool) := lim impl_rexRight.B (.impl_rexRight_j3 x5 x33 x45 x16_0 x16_1 x16_2 x16_3 x16_4 x17_0)
def impl_rexRight.j4v (x5 : Bool) (x33 : Int) (x64 : Bool) (x16_0 : Int) (x16_1 : Int) (x16_2 : ByteArray) (x16_3 : Bool) (x16_4 : List S26) (x17_0 : Int) : Option (Bool) := lim impl_rexRight.B (.impl_rexRight_j4 x5 x33 x64 x16_0 x16_1 x16_2 x16_3 x16_4 x17_0)
def impl_rexRight.j5v (x5 : Bool) (x71 : Bool) (x16_0 : Int) (x16_1 : Int) (x16_2 : ByteArray) (x16_3 : Bool) (x16_4 : List S26) (x17_0 : Int) : Option (Bool) := lim impl_rexRight.B (.impl_rexRight_j5 x5 x71 x16_0 x16_1 x16_2 x16_3 x16_4 x17_0)
def slices_ContainsFunc_impl_Rex_impl_Rex__impl_rexRight_1.fv (l0 : List S26) (a1q0_0 : Int) : Option (Bool) := lim impl_rexRight.B (.slices_ContainsFunc_impl_Rex_impl_Rex__impl_rexRight_1_f l0 a1q0_0)
def slices_IndexFunc_impl_Rex_impl_Rex__impl_rexRight_1.fv (l0 : List S26) (a1q0_0 : Int) : Option (Int) := lim impl_rexRight.B (.slices_IndexFunc_impl_Rex_impl_Rex__impl_rexRight_1_f l0 a1q0_0)
def slices_IndexFunc_impl_Rex_impl_Rex__impl_rexRight_1.l0v (x0 : List S26) (x7 : Int) (x8 : Int) (a1q0_0 : Int) : Option (Int) := lim impl_rexRight.B (.slices_IndexFunc_impl_Rex_impl_Rex__impl_rexRight_1_l0 x0 x7 x8 a1q0_0)
def impl_rexRight_1.fv (a0_0 : Int) (a0_1 : Int) (a0_2 : ByteArray) (a0_3 : Bool) (l0_4 : List S26) (a1_0 : Int) : Option (Bool) := lim impl_rexRight.B (.impl_rexRight_1_f a0_0 a0_1 a0_2 a0_3 l0_4 a1_0)
theorem impl_rexRight.fv_eq (a0_0 : Int) (a0_1 : Int) (a0_2 : ByteArray) (a0_3 : Bool) (l0_4 : List S26) (a1 : Int) : impl_rexRight.fv a0_0 a0_1 a0_2 a0_3 l0_4 a1 = (if a1 = 0 then (impl_rexRight.j1v true a0_0 a0_1 a0_2 a0_3 l0_4 a1) else (if a0_0 = 1 then (if a0_0 = 3 then (impl_rexRight.j1v false a0_0 a0_1 a0_2 a0_3 l0_4 a1) else (if a0_2.toList = ([] : List UInt8) then (impl_rexRight.j1v a0_3 a0_0 a0_1 a0_2 a0_3 l0_4 a1) else (impl_rexRight.j1v true a0_0 a0_1 a0_2 a0_3 l0_4 a1))) else (if a0_1 = 0 then (if a0_0 = 3 then (impl_rexRight.j1v false a0_0 a0_1 a0_2 a0_3 l0_4 a1) else (if a0_2.toList = ([] : List UInt8) then (impl_rexRight.j1v a0_3 a0_0 a0_1 a0_2 a0_3 l0_4 a1) else (impl_rexRight.j1v true a0_0 a0_1 a0_2 a0_3 l0_4 a1))) else (impl_rexRight.j1v true a0_0 a0_1 a0_2 a0_3 l0_4 a1)))) := by
  show lim impl_rexRight.B (.impl_rexRight_f a0_0 a0_1 a0_2 a0_3 l0_4 a1) = _
  rw [lim_eq, impl_rexRight.B]
  simp only [ev_ite, ev_opt, ev_ask, ev_to, ev_ret, ev_bad]
  try rfl
theorem impl_rexRight.j0v_eq (x16_0 : Int) (x16_1 : Int) (x16_2 : ByteArray) (x16_3 : Bool) (x16_4 : List S26) (x17_0 : Int) : impl_rexRight.j0v x16_0 x16_1 x16_2 x16_3 x16_4 x17_0 = (if x16_0 = 1 then ((impl_in.f x16_1 0 255).bind fun t38 => (if t38 = true then (impl_rexRight.j2v ((x16_4.length : Int) == 0) x16_0 x16_1 x16_2 x16_3 x16_4 x17_0) else (impl_rexRight.j2v false x16_0 x16_1 x16_2 x16_3 x16_4 x17_0))) else (if x16_0 = 2 then (impl_rexRight.j3v false x16_0 (x16_0 == 2) x16_0 x16_1 x16_2 x16_3 x16_4 x17_0) else (if x16_0 = 4 then (impl_rexRight.j3v false x16_0 (x16_0 == 4) x16_0 x16_1 x16_2 x16_3 x16_4 x17_0) else (if x16_0 = 5 then (impl_rexRight.j3v false x16_0 (x16_0 == 5) x16_0 x16_1 x16_2 x16_3 x16_4 x17_0) else (impl_rexRight.j3v false x16_0 (x16_0 == 11) x16_0 x16_1 x16_2 x16_3 x16_4 x17_0))))) := by
  show lim impl_rexRight.B (.impl_rexRight_j0 x16_0 x16_1 x16_2 x16_3 x16_4 x17_0) = _
  rw [lim_eq, impl_rexRight.B]
  simp only [ev_ite, ev_opt, ev_ask, ev_to, ev_ret, ev_bad]
  try rfl
theorem impl_rexRight.j1v_eq (x31 : Bool) (x16_0 : Int) (x16_1 : Int) (x16_2 : ByteArray) (x16_3 : Bool) (x16_4 : List S26) (x17_0 : Int) : impl_rexRight.j1v x31 x16_0 x16_1 x16_2 x16_3 x16_4 x17_0 = (if x31 = true then (some false) else (impl_rexRight.j0v x16_0 x16_1 x16_2 x16_3 x16_4 x17_0)) := by
  show lim impl_rexRight.B (.impl_rexRight_j1 x31 x16_0 x16_1 x16_2 x16_3 x16_4 x17_0) = _
  rw [lim_eq, impl_rexRight.B]
  simp only [ev_ite, ev_opt, ev_ask, ev_to, ev_ret, ev_bad]
  try rfl
theorem impl_rexRight.j2v_eq (x5 : Bool) (x16_0 : Int) (x16_1 : Int) (x16_2 : ByteArray) (x16_3 : Bool) (x16_4 : List S26) (x17_0 : Int) : impl_rexRight.j2v x5 x16_0 x16_1 x16_2 x16_3 x16_4 x17_0 = (if x5 = true then ((slices_ContainsFunc_impl_Rex_impl_Rex__impl_rexRight_1.fv x16_4 x17_0).bind fun t84 => (some (!t84))) else (some false)) := by
  show lim impl_rexRight.B (.impl_rexRight_j2 x5 x16_0 x16_1 x16_2 x16_3 x16_4 x17_0) = _
  rw [lim_eq, impl_rexRight.B]
  simp only [ev_ite, ev_opt, ev_ask, ev_to, ev_ret, ev_bad]
  try rfl
theorem impl_rexRight.j3v_eq (x5 : Bool) (x33 : Int) (x45 : Bool) (x16_0 : Int) (x16_1 : Int) (x16_2 : ByteArray) (x16_3 : Bool) (x16_4 : List S26) (x17_0 : Int) : impl_rexRight.j3v x5 x33 x45 x16_0 x16_1 x16_2 x16_3 x16_4 x17_0 = (if x45 = true then (impl_rexRight.j2v ((x16_4.length : Int) == 0) x16_0 x16_1 x16_2 x16_3 x16_4 x17_0) else (if x33 = 3 then ((impl_setRight.fv x16_0 x16_1 x16_2 x16_3 x16_4).bind fun t57 => (if t57 = true then (impl_rexRight.j2v ((x16_4.length : Int) == 0) x16_0 x16_1 x16_2 x16_3 x16_4 x17_0) else (impl_rexRight.j2v false x16_0 x16_1 x16_2 x16_3 x16_4 x17_0))) else (if x33 = 6 then (impl_rexRight.j4v x5 x33 (x33 == 6) x16_0 x16_1 x16_2 x16_3 x16_4 x17_0) else (impl_rexRight.j4v x5 x33 (x33 == 7) x16_0 x16_1 x16_2 x16_3 x16_4 x17_0)))) := by
  show lim impl_rexRight.B (.impl_rexRight_j3 x5 x33 x45 x16_0 x16_1 x16_2 x16_3 x16_4 x17_0) = _
  rw [lim_eq, impl_rexRight.B]
  simp only [ev_ite, ev_opt, ev_ask, ev_to, ev_ret, ev_bad]
  try rfl
theorem impl_rexRight.j4v_eq (x5 : Bool) (x33 : Int) (x64 : Bool) (x16_0 : Int) (x16_1 : Int) (x16_2 : ByteArray) (x16_3 : Bool) (x16_4 : List S26) (x17_0 : Int) : impl_rexRight.j4v x5 x33 x64 x16_0 x16_1 x16_2 x16_3 x16_4 x17_0 = (if x64 = true then (impl_rexRight.j2v ((decide ((x16_4.length : Int) > 1))) x16_0 x16_1 x16_2 x16_3 x16_4 x17_0) else (if x33 = 8 then (impl_rexRight.j5v x5 (x33 == 8) x16_0 x16_1 x16_2 x16_3 x16_4 x17_0) else (if x33 = 9 then (impl_rexRight.j5v x5 (x33 == 9) x16_0 x16_1 x16_2 x16_3 x16_4 x17_0) else (impl_rexRight.j5v x5 (x33 == 10) x16_0 x16_1 x16_2 x16_3 x16_4 x17_0)))) := by
  show lim impl_rexRight.B (.impl_rexRight_j4 x5 x33 x64 x16_0 x16_1 x16_2 x16_3 x16_4 x17_0) = _
  rw [lim_eq, impl_rexRight.B]
  simp only [ev_ite, ev_opt, ev_ask, ev_to, ev_ret, ev_bad]
  try rfl
theorem impl_rexRight.j5v_eq (x5 : Bool) (x71 : Bool) (x16_0 : Int) (x16_1 : Int) (x16_2 : ByteArray) (x16_3 : Bool) (x16_4 : List S26) (x17_0 : Int) : impl_rexRight.j5v x5 x71 x16_0 x16_1 x16_2 x16_3 x16_4 x17_0 = (if x71 = true then (impl_rexRight.j2v ((x16_4.length : Int) == 1) x16_0 x16_1 x16_2 x16_3 x16_4 x17_0) else (impl_rexRight.j2v x5 x16_0 x16_1 x16_2 x16_3 x16_4 x17_0)) := by
  show lim impl_rexRight.B (.impl_rexRight_j5 x5 x71 x16_0 x16_1 x16_2 x16_3 x16_4 x17_0) = _
  rw [lim_eq, impl_rexRight.B]
  simp only [ev_ite, ev_opt, ev_ask, ev_to, ev_ret, ev_bad]
  try rfl
theorem slices_ContainsFunc_impl_Rex_impl_Rex__impl_rexRight_1.fv_eq (l0 : List S26) (a1q0_0 : Int) : slices_ContainsFunc_impl_Rex_impl_Rex__impl_rexRight_1.fv l0 a1q0_0 = ((slices_IndexFunc_impl_Rex_impl_Rex__impl_rexRight_1.fv l0 a1q0_0).bind fun t7 => (some (decide (t7 ≥ 0)))) := by
  show lim impl_rexRight.B (.slices_ContainsFunc_impl_Rex_impl_Rex__impl_rexRight_1_f l0 a1q0_0) = _
  rw [lim_eq, impl_rexRight.B]
  simp only [ev_ite, ev_opt, ev_ask, ev_to, ev_ret, ev_bad]
  try rfl
theorem slices_IndexFunc_impl_Rex_impl_Rex__impl_rexRight_1.fv_eq (l0 : List S26) (a1q0_0 : Int) : slices_IndexFunc_impl_Rex_impl_Rex__impl_rexRight_1.fv l0 a1q0_0 = (slices_IndexFunc_impl_Rex_impl_Rex__impl_rexRight_1.l0v l0 (l0.length : Int) 0 a1q0_0) := by
  show lim impl_rexRight.B (.slices_IndexFunc_impl_Rex_impl_Rex__impl_rexRight_1_f l0 a1q0_0) = _
  rw [lim_eq, impl_rexRight.B]
  simp only [ev_ite, ev_opt, ev_ask, ev_to, ev_ret, ev_bad]
  try rfl
theorem slices_IndexFunc_impl_Rex_impl_Rex__impl_rexRight_1.l0v_eq (x0 : List S26) (x7 : Int) (x8 : Int) (a1q0_0 : Int) : slices_IndexFunc_impl_Rex_impl_Rex__impl_rexRight_1.l0v x0 x7 x8 a1q0_0 = (if x8 < x7 then (if 0 ≤ x8 then (if x8 < (x0.length : Int) then ((impl_rexRight_1.fv ((rd_T26 x0 x8).f0) ((rd_T26 x0 x8).f1) ((rd_T26 x0 x8).f2) ((rd_T26 x0 x8).f3) ((rd_T26 x0 x8).f4) a1q0_0).bind fun t16 => (if t16 = true then (some x8) else (slices_IndexFunc_impl_Rex_impl_Rex__impl_rexRight_1.l0v x0 x7 (wrap64 (x8 + 1)) a1q0_0))) else (none)) else (none)) else (some (-1))) := by
  show lim impl_rexRight.B (.slices_IndexFunc_impl_Rex_impl_Rex__impl_rexRight_1_l0 x0 x7 x8 a1q0_0) = _
  rw [lim_eq, impl_rexRight.B]
  simp only [ev_ite, ev_opt, ev_ask, ev_to, ev_ret, ev_bad]
  try rfl
theorem impl_rexRight_1.fv_eq (a0_0 : Int) (a0_1 : Int) (a0_2 : ByteArray) (a0_3 : Bool) (l0_4 : List S26) (a1_0 : Int) : impl_rexRight_1.fv a0_0 a0_1 a0_2 a0_3 l0_4 a1_0 = ((impl_rexRight.fv a0_0 a0_1 a0_2 a0_3 l0_4 (wrap64 (a1_0 - 1))).bind fun t7 => (some (!t7))) := by
  show lim impl_rexRight.B (.impl_rexRight_1_f a0_0 a0_1 a0_2 a0_3 l0_4 a1_0) = _
  rw [lim_eq, impl_rexRight.B]
  simp only [ev_ite, ev_opt, ev_ask, ev_to, ev_ret, ev_bad]
  try rfl
def impl_RexOk.fv (a0_0 : Int) (a0_1 : Int) (a0_2 : ByteArray) (a0_3 : Bool) (l0_4 : List S26) : Option (Bool) := (impl_rexRight.fv a0_0 a0_1 a0_2 a0_3 l0_4 12).bind fun t4 => (some t4)
theorem impl_RexOk.fv_eq (a0_0 : Int) (a0_1 : Int) (a0_2 : ByteArray) (a0_3 : Bool) (l0_4 : List S26) : impl_RexOk.fv a0_0 a0_1 a0_2 a0_3 l0_4 = ((impl_rexRight.fv a0_0 a0_1 a0_2 a0_3 l0_4 12).bind fun t4 => (some t4)) := by rw [impl_RexOk.fv]
inductive impl_placesOf.Q where
  | impl_placesOf_f (l0 : List S82) (a1_0 : Int) (a1_1 : Int) (a1_2 : ByteArray) (a1_3 : Bool) (l1_4 : List S26)
  | impl_placesOf_l0 (x0 : List S82) (x51 : List S26) (x52 : Int) (x53 : Int)
  | impl_orPlaces_f (l0 : List S82) (l1 : List S26)
  | impl_orPlaces_l0 (x0 : List S82) (x1 : List S26) (x5 : List Int) (x16 : List S26) (x17 : Int) (x18 : Int)
  | impl_orPlaces_l1 (x0 : List S82) (x56 : List Int) (x57 : Int) (x58 : Int)
def impl_placesOf.B : impl_placesOf.Q → Pg impl_placesOf.Q (fun _ => (List S82)) ((List S82))
  | .impl_placesOf_f l0 a1_0 a1_1 a1_2 a1_3 l1_4 => if a1_0 = 1 then (if l0.length + 1 ≤ 2513169434916 then (.ret (l0 ++ [(⟨1, a1_1, (⟨#[]⟩ : ByteArray), false, 0, 0⟩ : S82)])) else (.bad)) else (if a1_0 = 2 then (if l0.length + 1 ≤ 2513169434916 then (.ret (l0 ++ [(⟨2, 0, (⟨#[]⟩ : ByteArray), false, 0, 0⟩ : S82)])) else (.bad)) else (if a1_0 = 3 then (if l0.length < 2513169434916 then (.ret (l0 ++ [(⟨3, 0, a1_2, a1_3, 0, 0⟩ : S82)])) else (.bad)) else (if a1_0 = 4 then (if l0.length + 1 ≤ 2513169434916 then (.ret (l0 ++ [(⟨4, 0, (⟨#[]⟩ : ByteArray), false, 0, 0⟩ : S82)])) else (.bad)) else (if a1_0 = 5 then (if l0.length + 1 ≤ 2513169434916 then (.ret (l0 ++ [(⟨5, 0, (⟨#[]⟩ : ByteArray), false, 0, 0⟩ : S82)])) else (.bad)) else (if a1_0 = 6 then (.to (.impl_placesOf_l0 l0 l1_4 (l1_4.length : Int) 0)) else (if a1_0 = 7 then (.ask (.impl_orPlaces_f l0 l1_4) fun (t66 : (List S82)) => (.ret t66)) else (if a1_0 = 8 then (if l0.length + 1 ≤ 2513169434916 then (if 0 < (l1_4.length : Int) then (.ask (.impl_placesOf_f ((l0 ++ [(⟨7, 0, (⟨#[]⟩ : ByteArray), false, (wrap64 ((l0.length : Int) + 1)), 0⟩ : S82)])) ((rd_T26 l1_4 0).f0) ((rd_T26 l1_4 0).f1) ((rd_T26 l1_4 0).f2) ((rd_T26 l1_4 0).f3) ((rd_T26 l1_4 0).f4)) fun (t79 : (List S82)) => (if t79.length + 1 ≤ 2513169434916 then (if (l0.length : Int) < ((t79 ++ [(⟨6, 0, (⟨#[]⟩ : ByteArray), false, (l0.length : Int), 0⟩ : S82)]).length : Int) then (.opt (some ((t79 ++ [(⟨6, 0, (⟨#[]⟩ : ByteArray), false, (l0.length : Int), 0⟩ : S82)]).set ((l0.length : Int) : Int).toNat (⟨(rd_T82 (t79 ++ [(⟨6, 0, (⟨#[]⟩ : ByteArray), false, (l0.length : Int), 0⟩ : S82)]) (l0.length : Int)).f0, (rd_T82 (t79 ++ [(⟨6, 0, (⟨#[]⟩ : ByteArray), false, (l0.length : Int), 0⟩ : S82)]) (l0.length : Int)).f1, (rd_T82 (t79 ++ [(⟨6, 0, (⟨#[]⟩ : ByteArray), false, (l0.length : Int), 0⟩ : S82)]) (l0.length : Int)).f2, (rd_T82 (t79 ++ [(⟨6, 0, (⟨#[]⟩ : ByteArray), false, (l0.length : Int), 0⟩ : S82)]) (l0.length : Int)).f3, (rd_T82 (t79 ++ [(⟨6, 0, (⟨#[]⟩ : ByteArray), false, (l0.length : Int), 0⟩ : S82)]) (l0.length : Int)).f4, ((t79 ++ [(⟨6, 0, (⟨#[]⟩ : ByteArray), false, (l0.length : Int), 0⟩ : S82)]).length : Int)⟩ : S82))) fun y24_6 => (.ret y24_6)) else (.bad)) else (.bad))) else (.bad)) else (.bad)) else (if a1_0 = 9 then (if 0 < (l1_4.length : Int) then (.ask (.impl_placesOf_f l0 ((rd_T26 l1_4 0).f0) ((rd_T26 l1_4 0).f1) ((rd_T26 l1_4 0).f2) ((rd_T26 l1_4 0).f3) ((rd_T26 l1_4 0).f4)) fun (t98 : (List S82)) => (if t98.length + 1 ≤ 2513169434916 then (.ret (t98 ++ [(⟨7, 0, (⟨#[]⟩ : ByteArray), false, (l0.length : Int), (wrap64 ((t98.length : Int) + 1))⟩ : S82)])) else (.bad))) else (.bad)) else (if a1_0 = 10 then (if l0.length + 1 ≤ 2513169434916 then (if 0 < (l1_4.length : Int) then (.ask (.impl_placesOf_f ((l0 ++ [(⟨7, 0, (⟨#[]⟩ : ByteArray), false, (wrap64 ((l0.length : Int) + 1)), 0⟩ : S82)])) ((rd_T26 l1_4 0).f0) ((rd_T26 l1_4 0).f1) ((rd_T26 l1_4 0).f2) ((rd_T26 l1_4 0).f3) ((rd_T26 l1_4 0).f4)) fun (t119 : (List S82)) => (if (l0.length : Int) < (t119.length : Int) then (.opt (some (t119.set ((l0.length : Int) : Int).toNat (⟨(rd_T82 t119 (l0.length : Int)).f0, (rd_T82 t119 (l0.length : Int)).f1, (rd_T82 t119 (l0.length : Int)).f2, (rd_T82 t119 (l0.length : Int)).f3, (rd_T82 t119 (l0.length : Int)).f4, (t119.length : Int)⟩ : S82))) fun y30_6 => (.ret y30_6)) else (.bad))) else (.bad)) else (.bad)) else (.ret l0))))))))))
  | .impl_placesOf_l0 x0 x51 x52 x53 => if x53 < x52 then (if 0 ≤ x53 then (if x53 < (x51.length : Int) then (.ask (.impl_placesOf_f x0 ((rd_T26 x51 x53).f0) ((rd_T26 x51 x53).f1) ((rd_T26 x51 x53).f2) ((rd_T26 x51 x53).f3) ((rd_T26 x51 x53).f4)) fun (t59 : (List S82)) => (.to (.impl_placesOf_l0 t59 x51 x52 (wrap64 (x53 + 1))))) else (.bad)) else (.bad)) else (.ret x0)
  | .impl_orPlaces_f l0 l1 => if 0 ≤ (wrap64 ((l1.length : Int) - 1)) then (if (wrap64 ((l1.length : Int) - 1)) ≤ (l1.length : Int) then (.to (.impl_orPlaces_l0 l0 l1 ([] : List Int) ((l1.take ((wrap64 ((l1.length : Int) - 1)) : Int).toNat)) (((l1.take ((wrap64 ((l1.length : Int) - 1)) : Int).toNat).length : Int)) 0)) else (.bad)) else (.bad)
  | .impl_orPlaces_l0 x0 x1 x5 x16 x17 x18 => if x18 < x17 then (if 0 ≤ x18 then (if x18 < (x16.length : Int) then (if x0.length + 1 ≤ 2513169434916 then (.ask (.impl_placesOf_f ((x0 ++ [(⟨7, 0, (⟨#[]⟩ : ByteArray), false, (wrap64 ((x0.length : Int) + 1)), 0⟩ : S82)])) ((rd_T26 x16 x18).f0) ((rd_T26 x16 x18).f1) ((rd_T26 x16 x18).f2) ((rd_T26 x16 x18).f3) ((rd_T26 x16 x18).f4)) fun (t31 : (List S82)) => (if x5.length < 17592186044416 then (if t31.length + 1 ≤ 2513169434916 then (if (x0.length : Int) < ((t31 ++ [(⟨6, 0, (⟨#[]⟩ : ByteArray), false, 0, 0⟩ : S82)]).length : Int) then (.opt (some ((t31 ++ [(⟨6, 0, (⟨#[]⟩ : ByteArray), false, 0, 0⟩ : S82)]).set ((x0.length : Int) : Int).toNat (⟨(rd_T82 (t31 ++ [(⟨6, 0, (⟨#[]⟩ : ByteArray), false, 0, 0⟩ : S82)]) (x0.length : Int)).f0, (rd_T82 (t31 ++ [(⟨6, 0, (⟨#[]⟩ : ByteArray), false, 0, 0⟩ : S82)]) (x0.length : Int)).f1, (rd_T82 (t31 ++ [(⟨6, 0, (⟨#[]⟩ : ByteArray), false, 0, 0⟩ : S82)]) (x0.length : Int)).f2, (rd_T82 (t31 ++ [(⟨6, 0, (⟨#[]⟩ : ByteArray), false, 0, 0⟩ : S82)]) (x0.length : Int)).f3, (rd_T82 (t31 ++ [(⟨6, 0, (⟨#[]⟩ : ByteArray), false, 0, 0⟩ : S82)]) (x0.length : Int)).f4, ((t31 ++ [(⟨6, 0, (⟨#[]⟩ : ByteArray), false, 0, 0⟩ : S82)]).length : Int)⟩ : S82))) fun y9_6 => (.to (.impl_orPlaces_l0 y9_6 x1 (x5 ++ [(t31.length : Int)]) x16 x17 (wrap64 (x18 + 1))))) else (.bad)) else (.bad)) else (.bad))) else (.bad)) else (.bad)) else (.bad)) else (if 0 ≤ (wrap64 ((x1.length : Int) - 1)) then (if (wrap64 ((x1.length : Int) - 1)) < (x1.length : Int) then (.ask (.impl_placesOf_f x0 ((rd_T26 x1 (wrap64 ((x1.length : Int) - 1))).f0) ((rd_T26 x1 (wrap64 ((x1.length : Int) - 1))).f1) ((rd_T26 x1 (wrap64 ((x1.length : Int) - 1))).f2) ((rd_T26 x1 (wrap64 ((x1.length : Int) - 1))).f3) ((rd_T26 x1 (wrap64 ((x1.length : Int) - 1))).f4)) fun (t55 : (List S82)) => (.to (.impl_orPlaces_l1 t55 x5 (x5.length : Int) 0))) else (.bad)) else (.bad))
  | .impl_orPlaces_l1 x0 x56 x57 x58 => if x58 < x57 then (if 0 ≤ x58 then (if x58 < (x56.length : Int) then (if 0 ≤ (rdOf (0 : Int) x56 x58) then (if (rdOf (0 : Int) x56 x58) < (x0.length : Int) then (.opt (some (x0.set ((rdOf (0 : Int) x56 x58) : Int).toNat (⟨(rd_T82 x0 (rdOf (0 : Int) x56 x58)).f0, (rd_T82 x0 (rdOf (0 : Int) x56 x58)).f1, (rd_T82 x0 (rdOf (0 : Int) x56 x58)).f2, (rd_T82 x0 (rdOf (0 : Int) x56 x58)).f3, (x0.length : Int), (rd_T82 x0 (rdOf (0 : Int) x56 x58)).f5⟩ : S82))) fun y15_6 => (.to (.impl_orPlaces_l1 y15_6 x56 x57 (wrap64 (x58 + 1))))) else (.bad)) else (.bad)) else (.bad)) else (.bad)) else (.ret x0)
def impl_placesOf.fv (l0 : List S82) (a1_0 : Int) (a1_1 : Int) (a1_2 : ByteArray) (a1_3 : Bool) (l1_4 : List S26) : Option ((List S82)) := lim impl_placesOf.B (.impl_placesOf_f l0 a1_0 a1_1 a1_2 a1_3 l1_4)
def impl_placesOf.l0v (x0 : List S82) (x51 : List S26) (x52 : Int) (x53 : Int) : Option ((List S82)) := lim impl_placesOf.B (.impl_placesOf_l0 x0 x51 x52 x53)
def impl_orPlaces.fv (l0 : List S82) (l1 : List S26) : Option ((List S82)) := lim impl_placesOf.B (.impl_orPlaces_f l0 l1)
def impl_orPlaces.l0v (x0 : List S82) (x1 : List S26) (x5 : List Int) (x16 : List S26) (x17 : Int) (x18 : Int) : Option ((List S82)) := lim impl_placesOf.B (.impl_orPlaces_l0 x0 x1 x5 x16 x17 x18)
def impl_orPlaces.l1v (x0 : List S82) (x56 : List Int) (x57 : Int) (x58 : Int) : Option ((List S82)) := lim impl_placesOf.B (.impl_orPlaces_l1 x0 x56 x57 x58)
theorem impl_placesOf.fv_eq (l0 : List S82) (a1_0 : Int) (a1_1 : Int) (a1_2 : ByteArray) (a1_3 : Bool) (l1_4 : List S26) : impl_placesOf.fv l0 a1_0 a1_1 a1_2 a1_3 l1_4 = (if a1_0 = 1 then (if l0.length + 1 ≤ 2513169434916 then (some (l0 ++ [(⟨1, a1_1, (⟨#[]⟩ : ByteArray), false, 0, 0⟩ : S82)])) else (none)) else (if a1_0 = 2 then (if l0.length + 1 ≤ 2513169434916 then (some (l0 ++ [(⟨2, 0, (⟨#[]⟩ : ByteArray), false, 0, 0⟩ : S82)])) else (none)) else (if a1_0 = 3 then (if l0.length < 2513169434916 then (some (l0 ++ [(⟨3, 0, a1_2, a1_3, 0, 0⟩ : S82)])) else (none)) else (if a1_0 = 4 then (if l0.length + 1 ≤ 2513169434916 then (some (l0 ++ [(⟨4, 0, (⟨#[]⟩ : ByteArray), false, 0, 0⟩ : S82)])) else (none)) else (if a1_0 = 5 then (if l0.length + 1 ≤ 2513169434916 then (some (l0 ++ [(⟨5, 0, (⟨#[]⟩ : ByteArray), false, 0, 0⟩ : S82)])) else (none)) else (if a1_0 = 6 then (impl_placesOf.l0v l0 l1_4 (l1_4.length : Int) 0) else (if a1_0 = 7 then ((impl_orPlaces.fv l0 l1_4).bind fun t66 => (some t66)) else (if a1_0 = 8 then (if l0.length + 1 ≤ 2513169434916 then (if 0 < (l1_4.length : Int) then ((impl_placesOf.fv ((l0 ++ [(⟨7, 0, (⟨#[]⟩ : ByteArray), false, (wrap64 ((l0.length : Int) + 1)), 0⟩ : S82)])) ((rd_T26 l1_4 0).f0) ((rd_T26 l1_4 0).f1) ((rd_T26 l1_4 0).f2) ((rd_T26 l1_4 0).f3) ((rd_T26 l1_4 0).f4)).bind fun t79 => (if t79.length + 1 ≤ 2513169434916 then (if (l0.length : Int) < ((t79 ++ [(⟨6, 0, (⟨#[]⟩ : ByteArray), false, (l0.length : Int), 0⟩ : S82)]).length : Int) then ((some ((t79 ++ [(⟨6, 0, (⟨#[]⟩ : ByteArray), false, (l0.length : Int), 0⟩ : S82)]).set ((l0.length : Int) : Int).toNat (⟨(rd_T82 (t79 ++ [(⟨6, 0, (⟨#[]⟩ : ByteArray), false, (l0.length : Int), 0⟩ : S82)]) (l0.length : Int)).f0, (rd_T82 (t79 ++ [(⟨6, 0, (⟨#[]⟩ : ByteArray), false, (l0.length : Int), 0⟩ : S82)]) (l0.length : Int)).f1, (rd_T82 (t79 ++ [(⟨6, 0, (⟨#[]⟩ : ByteArray), false, (l0.length : Int), 0⟩ : S82)]) (l0.length : Int)).f2, (rd_T82 (t79 ++ [(⟨6, 0, (⟨#[]⟩ : ByteArray), false, (l0.length : Int), 0⟩ : S82)]) (l0.length : Int)).f3, (rd_T82 (t79 ++ [(⟨6, 0, (⟨#[]⟩ : ByteArray), false, (l0.length : Int), 0⟩ : S82)]) (l0.length : Int)).f4, ((t79 ++ [(⟨6, 0, (⟨#[]⟩ : ByteArray), false, (l0.length : Int), 0⟩ : S82)]).length : Int)⟩ : S82))).bind fun y24_6 => (some y24_6)) else (none)) else (none))) else (none)) else (none)) else (if a1_0 = 9 then (if 0 < (l1_4.length : Int) then ((impl_placesOf.fv l0 ((rd_T26 l1_4 0).f0) ((rd_T26 l1_4 0).f1) ((rd_T26 l1_4 0).f2) ((rd_T26 l1_4 0).f3) ((rd_T26 l1_4 0).f4)).bind fun t98 => (if t98.length + 1 ≤ 2513169434916 then (some (t98 ++ [(⟨7, 0, (⟨#[]⟩ : ByteArray), false, (l0.length : Int), (wrap64 ((t98.length : Int) + 1))⟩ : S82)])) else (none))) else (none)) else (if a1_0 = 10 then (if l0.length + 1 ≤ 2513169434916 then (if 0 < (l1_4.length : Int) then ((impl_placesOf.fv ((l0 ++ [(⟨7, 0, (⟨#[]⟩ : ByteArray), false, (wrap64 ((l0.length : Int) + 1)), 0⟩ : S82)])) ((rd_T26 l1_4 0).f0) ((rd_T26 l1_4 0).f1) ((rd_T26 l1_4 0).f2) ((rd_T26 l1_4 0).f3) ((rd_T26 l1_4 0).f4)).bind fun t119 => (if (l0.length : Int) < (t119.length : Int) then ((some (t119.set ((l0.length : Int) : Int).toNat (⟨(rd_T82 t119 (l0.length : Int)).f0, (rd_T82 t119 (l0.length : Int)).f1, (rd_T82 t119 (l0.length : Int)).f2, (rd_T82 t119 (l0.length : Int)).f3, (rd_T82 t119 (l0.length : Int)).f4, (t119.length : Int)⟩ : S82))).bind fun y30_6 => (some y30_6)) else (none))) else (none)) else (none)) else (some l0))))))))))) := by
  show lim impl_placesOf.B (.impl_placesOf_f l0 a1_0 a1_1 a1_2 a1_3 l1_4) = _
  rw [lim_eq, impl_placesOf.B]
  simp only [ev_ite, ev_opt, ev_ask, ev_to, ev_ret, ev_bad]
  try rfl
theorem impl_placesOf.l0v_eq (x0 : List S82) (x51 : List S26) (x52 : Int) (x53 : Int) : impl_placesOf.l0v x0 x51 x52 x53 = (if x53 < x52 then (if 0 ≤ x53 then (if x53 < (x51.length : Int) then ((impl_placesOf.fv x0 ((rd_T26 x51 x53).f0) ((rd_T26 x51 x53).f1) ((rd_T26 x51 x53).f2) ((rd_T26 x51 x53).f3) ((rd_T26 x51 x53).f4)).bind fun t59 => (impl_placesOf.l0v t59 x51 x52 (wrap64 (x53 + 1)))) else (none)) else (none)) else (some x0)) := by
  show lim impl_placesOf.B (.impl_placesOf_l0 x0 x51 x52 x53) = _
  rw [lim_eq, impl_placesOf.B]
  simp only [ev_ite, ev_opt, ev_ask, ev_to, ev_ret, ev_bad]
  try rfl
theorem impl_orPlaces.fv_eq (l0 : List S82) (l1 : List S26) : impl_orPlaces.fv l0 l1 = (if 0 ≤ (wrap64 ((l1.length : Int) - 1)) then (if (wrap64 ((l1.length : Int) - 1)) ≤ (l1.length : Int) then (impl_orPlaces.l0v l0 l1 ([] : List Int) ((l1.take ((wrap64 ((l1.length : Int) - 1)) : Int).toNat)) (((l1.take ((wrap64 ((l1.length : Int) - 1)) : Int).toNat).length : Int)) 0) else (none)) else (none)) := by
  show lim impl_placesOf.B (.impl_orPlaces_f l0 l1) = _
  rw [lim_eq, impl_placesOf.B]
  simp only [ev_ite, ev_opt, ev_ask, ev_to, ev_ret, ev_bad]
  try rfl
theorem impl_orPlaces.l0v_eq (x0 : List S82) (x1 : List S26) (x5 : List Int) (x16 : List S26) (x17 : Int) (x18 : Int) : impl_orPlaces.l0v x0 x1 x5 x16 x17 x18 = (if x18 < x17 then (if 0 ≤ x18 then (if x18 < (x16.length : Int) then (if x0.length + 1 ≤ 2513169434916 then ((impl_placesOf.fv ((x0 ++ [(⟨7, 0, (⟨#[]⟩ : ByteArray), false, (wrap64 ((x0.length : Int) + 1)), 0⟩ : S82)])) ((rd_T26 x16 x18).f0) ((rd_T26 x16 x18).f1) ((rd_T26 x16 x18).f2) ((rd_T26 x16 x18).f3) ((rd_T26 x16 x18).f4)).bind fun t31 => (if x5.length < 17592186044416 then (if t31.length + 1 ≤ 2513169434916 then (if (x0.length : Int) < ((t31 ++ [(⟨6, 0, (⟨#[]⟩ : ByteArray), false, 0, 0⟩ : S82)]).length : Int) then ((some ((t31 ++ [(⟨6, 0, (⟨#[]⟩ : ByteArray), false, 0, 0⟩ : S82)]).set ((x0.length : Int) : Int).toNat (⟨(rd_T82 (t31 ++ [(⟨6, 0, (⟨#[]⟩ : ByteArray), false, 0, 0⟩ : S82)]) (x0.length : Int)).f0, (rd_T82 (t31 ++ [(⟨6, 0, (⟨#[]⟩ : ByteArray), false, 0, 0⟩ : S82)]) (x0.length : Int)).f1, (rd_T82 (t31 ++ [(⟨6, 0, (⟨#[]⟩ : ByteArray), false, 0, 0⟩ : S82)]) (x0.length : Int)).f2, (rd_T82 (t31 ++ [(⟨6, 0, (⟨#[]⟩ : ByteArray), false, 0, 0⟩ : S82)]) (x0.length : Int)).f3, (rd_T82 (t31 ++ [(⟨6, 0, (⟨#[]⟩ : ByteArray), false, 0, 0⟩ : S82)]) (x0.length : Int)).f4, ((t31 ++ [(⟨6, 0, (⟨#[]⟩ : ByteArray), false, 0, 0⟩ : S82)]).length : Int)⟩ : S82))).bind fun y9_6 => (impl_orPlaces.l0v y9_6 x1 (x5 ++ [(t31.length : Int)]) x16 x17 (wrap64 (x18 + 1)))) else (none)) else (none)) else (none))) else (none)) else (none)) else (none)) else (if 0 ≤ (wrap64 ((x1.length : Int) - 1)) then (if (wrap64 ((x1.length : Int) - 1)) < (x1.length : Int) then ((impl_placesOf.fv x0 ((rd_T26 x1 (wrap64 ((x1.length : Int) - 1))).f0) ((rd_T26 x1 (wrap64 ((x1.length : Int) - 1))).f1) ((rd_T26 x1 (wrap64 ((x1.length : Int) - 1))).f2) ((rd_T26 x1 (wrap64 ((x1.length : Int) - 1))).f3) ((rd_T26 x1 (wrap64 ((x1.length : Int) - 1))).f4)).bind fun t55 => (impl_orPlaces.l1v t55 x5 (x5.length : Int) 0)) else (none)) else (none))) := by
  show lim impl_placesOf.B (.impl_orPlaces_l0 x0 x1 x5 x16 x17 x18) = _
  rw [lim_eq, impl_placesOf.B]
  simp only [ev_ite, ev_opt, ev_ask, ev_to, ev_ret, ev_bad]
  try rfl
theorem impl_orPlaces.l1v_eq (x0 : List S82) (x56 : List Int) (x57 : Int) (x58 : Int) : impl_orPlaces.l1v x0 x56 x57 x58 = (if x58 < x57 then (if 0 ≤ x58 then (if x58 < (x56.length : Int) then (if 0 ≤ (rdOf (0 : Int) x56 x58) then (if (rdOf (0 : Int) x56 x58) < (x0.length : Int) then ((some (x0.set ((rdOf (0 : Int) x56 x58) : Int).toNat (⟨(rd_T82 x0 (rdOf (0 : Int) x56 x58)).f0, (rd_T82 x0 (rdOf (0 : Int) x56 x58)).f1, (rd_T82 x0 (rdOf (0 : Int) x56 x58)).f2, (rd_T82 x0 (rdOf (0 : Int) x56 x58)).f3, (x0.length : Int), (rd_T82 x0 (rdOf (0 : Int) x56 x58)).f5⟩ : S82))).bind fun y15_6 => (impl_orPlaces.l1v y15_6 x56 x57 (wrap64 (x58 + 1)))) else (none)) else (none)) else (none)) else (none)) else (some x0)) := by
  show lim impl_placesOf.B (.impl_orPlaces_l1 x0 x56 x57 x58) = _
  rw [lim_eq, impl_placesOf.B]
  simp only [ev_ite, ev_opt, ev_ask, ev_to, ev_ret, ev_bad]
  try rfl
def impl_NfaOf.fv (a0_0 : Int) (a0_1 : Int) (a0_2 : ByteArray) (a0_3 : Bool) (l0_4 : List S26) : Option ((List S82)) := (impl_RexOk.fv a0_0 a0_1 a0_2 a0_3 l0_4).bind fun t4 => (if t4 = true then ((impl_placesOf.fv ([] : List S82) a0_0 a0_1 a0_2 a0_3 l0_4).bind fun t7 => (if t7.length + 1 ≤ 2513169434916 then (some (t7 ++ [(⟨8, 0, (⟨#[]⟩ : ByteArray), false, 0, 0⟩ : S82)])) else (none))) else (some ([] : List S82)))
theorem impl_NfaOf.fv_eq (a0_0 : Int) (a0_1 : Int) (a0_2 : ByteArray) (a0_3 : Bool) (l0_4 : List S26) : impl_NfaOf.fv a0_0 a0_1 a0_2 a0_3 l0_4 = ((impl_RexOk.fv a0_0 a0_1 a0_2 a0_3 l0_4).bind fun t4 => (if t4 = true then ((impl_placesOf.fv ([] : List S82) a0_0 a0_1 a0_2 a0_3 l0_4).bind fun t7 => (if t7.length + 1 ≤ 2513169434916 then (some (t7 ++ [(⟨8, 0, (⟨#[]⟩ : ByteArray), false, 0, 0⟩ : S82)])) else (none))) else (some ([] : List S82)))) := by rw [impl_NfaOf.fv]
inductive laws_FnBrackets.Q where
  | f (l0 : List Int)
  | j0 (x3 : ByteArray) (x5 : Bool) (x2069_0 : Int) (x2069_1 : Int) (x2069_2 : ByteArray) (x2069_3 : Bool) (x2069_4 : List S26)
  | j1 (x3 : ByteArray) (x5 : Bool) (x7 : Bool) (x32 : Bool) (x2069_0 : Int) (x2069_1 : Int) (x2069_2 : ByteArray) (x2069_3 : Bool) (x2069_4 : List S26)
  | j2 (x2 : Bool)
def laws_FnBrackets.B : laws_FnBrackets.Q → Pg laws_FnBrackets.Q (fun _ => Bool) (Bool)
  | .f l0 => .opt (laws_big.f l0) fun t11 => (if t11 = true then (.ret true) else (.opt (spec_DrawRexParse.fv l0) fun t13 => (.opt (impl_RexParse.fv t13) fun t16 => (.opt (spec_RexParse.fv t13) fun t21 => (if t16.2.2.2.2.2 = t21.2.2.2.2.2 then (.to (.j1 t13 t16.2.2.2.2.2 t21.2.2.2.2.2 ((decide ((wrap64 ((t13.size : Int) + 2)) > 60))) t16.1 t16.2.1 t16.2.2.1 t16.2.2.2.1 t16.2.2.2.2.1)) else (.to (.j1 t13 t16.2.2.2.2.2 t21.2.2.2.2.2 true t16.1 t16.2.1 t16.2.2.1 t16.2.2.2.1 t16.2.2.2.2.1)))))))
  | .j0 x3 x5 x2069_0 x2069_1 x2069_2 x2069_3 x2069_4 => if (⟨#[40]⟩ : ByteArray).size + x3.size ≤ 9223372036854775807 then (if ((⟨#[40]⟩ : ByteArray) ++ x3).size + (⟨#[41]⟩ : ByteArray).size ≤ 9223372036854775807 then (.opt (impl_RexParse.fv ((((⟨#[40]⟩ : ByteArray) ++ x3) ++ (⟨#[41]⟩ : ByteArray)))) fun t40 => (if x5 = true then (if t40.2.2.2.2.2 = true then (.opt (impl_NfaOf.fv t40.1 t40.2.1 t40.2.2.1 t40.2.2.2.1 t40.2.2.2.2.1) fun t55 => (.opt (impl_NfaOf.fv x2069_0 x2069_1 x2069_2 x2069_3 x2069_4) fun t58 => (if (t55.length : Int) = (t58.length : Int) then (.ret (t40.1 == x2069_0)) else (.ret false)))) else (.ret false)) else (if t40.2.2.2.2.2 = true then (.to (.j2 ((decide ((x3.size : Int) > 0))))) else (.to (.j2 true))))) else (.bad)) else (.bad)
  | .j1 x3 x5 x7 x32 x2069_0 x2069_1 x2069_2 x2069_3 x2069_4 => if x32 = true then (.ret (x5 == x7)) else (.to (.j0 x3 x5 x2069_0 x2069_1 x2069_2 x2069_3 x2069_4))
  | .j2 x2 => .ret x2
def laws_FnBrackets.fv (l0 : List Int) : Option (Bool) := lim laws_FnBrackets.B (.f l0)
def laws_FnBrackets.j0v (x3 : ByteArray) (x5 : Bool) (x2069_0 : Int) (x2069_1 : Int) (x2069_2 : ByteArray) (x2069_3 : Bool) (x2069_4 : List S26) : Option (Bool) := lim laws_FnBrackets.B (.j0 x3 x5 x2069_0 x2069_1 x2069_2 x2069_3 x2069_4)
def laws_FnBrackets.j1v (x3 : ByteArray) (x5 : Bool) (x7 : Bool) (x32 : Bool) (x2069_0 : Int) (x2069_1 : Int) (x2069_2 : ByteArray) (x2069_3 : Bool) (x2069_4 : List S26) : Option (Bool) := lim laws_FnBrackets.B (.j1 x3 x5 x7 x32 x2069_0 x2069_1 x2069_2 x2069_3 x2069_4)
def laws_FnBrackets.j2v (x2 : Bool) : Option (Bool) := lim laws_FnBrackets.B (.j2 x2)
theorem laws_FnBrackets.fv_eq (l0 : List Int) : laws_FnBrackets.fv l0 = ((laws_big.f l0).bind fun t11 => (if t11 = true then (some true) else ((spec_DrawRexParse.fv l0).bind fun t13 => ((impl_RexParse.fv t13).bind fun t16 => ((spec_RexParse.fv t13).bind fun t21 => (if t16.2.2.2.2.2 = t21.2.2.2.2.2 then (laws_FnBrackets.j1v t13 t16.2.2.2.2.2 t21.2.2.2.2.2 ((decide ((wrap64 ((t13.size : Int) + 2)) > 60))) t16.1 t16.2.1 t16.2.2.1 t16.2.2.2.1 t16.2.2.2.2.1) else (laws_FnBrackets.j1v t13 t16.2.2.2.2.2 t21.2.2.2.2.2 true t16.1 t16.2.1 t16.2.2.1 t16.2.2.2.1 t16.2.2.2.2.1))))))) := by
  show lim laws_FnBrackets.B (.f l0) = _
  rw [lim_eq, laws_FnBrackets.B]
  simp only [ev_ite, ev_opt, ev_ask, ev_to, ev_ret, ev_bad]
  try rfl
theorem laws_FnBrackets.j0v_eq (x3 : ByteArray) (x5 : Bool) (x2069_0 : Int) (x2069_1 : Int) (x2069_2 : ByteArray) (x2069_3 : Bool) (x2069_4 : List S26) : laws_FnBrackets.j0v x3 x5 x2069_0 x2069_1 x2069_2 x2069_3 x2069_4 = (if (⟨#[40]⟩ : ByteArray).size + x3.size ≤ 9223372036854775807 then (if ((⟨#[40]⟩ : ByteArray) ++ x3).size + (⟨#[41]⟩ : ByteArray).size ≤ 9223372036854775807 then ((impl_RexParse.fv ((((⟨#[40]⟩ : ByteArray) ++ x3) ++ (⟨#[41]⟩ : ByteArray)))).bind fun t40 => (if x5 = true then (if t40.2.2.2.2.2 = true then ((impl_NfaOf.fv t40.1 t40.2.1 t40.2.2.1 t40.2.2.2.1 t40.2.2.2.2.1).bind fun t55 => ((impl_NfaOf.fv x2069_0 x2069_1 x2069_2 x2069_3 x2069_4).bind fun t58 => (if (t55.length : Int) = (t58.length : Int) then (some (t40.1 == x2069_0)) else (some false)))) else (some false)) else (if t40.2.2.2.2.2 = true then (laws_FnBrackets.j2v ((decide ((x3.size : Int) > 0)))) else (laws_FnBrackets.j2v true)))) else (none)) else (none)) := by
  show lim laws_FnBrackets.B (.j0 x3 x5 x2069_0 x2069_1 x2069_2 x2069_3 x2069_4) = _
  rw [lim_eq, laws_FnBrackets.B]
  simp only [ev_ite, ev_opt, ev_ask, ev_to, ev_ret, ev_bad]
  try rfl
theorem laws_FnBrackets.j1v_eq (x3 : ByteArray) (x5 : Bool) (x7 : Bool) (x32 : Bool) (x2069_0 : Int) (x2069_1 : Int) (x2069_2 : ByteArray) (x2069_3 : Bool) (x2069_4 : List S26) : laws_FnBrackets.j1v x3 x5 x7 x32 x2069_0 x2069_1 x2069_2 x2069_3 x2069_4 = (if x32 = true then (some (x5 == x7)) else (laws_FnBrackets.j0v x3 x5 x2069_0 x2069_1 x2069_2 x2069_3 x2069_4)) := by
  show lim laws_FnBrackets.B (.j1 x3 x5 x7 x32 x2069_0 x2069_1 x2069_2 x2069_3 x2069_4) = _
  rw [lim_eq, laws_FnBrackets.B]
  simp only [ev_ite, ev_opt, ev_ask, ev_to, ev_ret, ev_bad]
  try rfl
theorem laws_FnBrackets.j2v_eq (x2 : Bool) : laws_FnBrackets.j2v x2 = (some x2) := by
  show lim laws_FnBrackets.B (.j2 x2) = _
  rw [lim_eq, laws_FnBrackets.B]
  simp only [ev_ite, ev_opt, ev_ask, ev_to, ev_ret, ev_bad]
  try rfl
def laws_FnBrackets.Pure : Prop := ∀ (x0 : List Int), (x0.length ≤ maxLen ∧ ∀ x_ ∈ x0, (fun n_ : Int => (Lit.int .u8 n_).wf = true) x_) → laws_FnBrackets.fv x0 = some true
end
end Go.Proofs.Ytfdpehmefgfjgaa.QFnBrackets
