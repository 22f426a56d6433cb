/- Written by wip/pr2, a program of this session. -/
import Derived.Test.YthigelphmjepaaaDoorProg
import Derived.Below
import Derived.Deep.Draws
import Derived.Deep.AppendLies
import Derived.Maps.AppendAt
import Derived.OwnWalk
import Derived.Laws.BytesArg
import Derived.Laws.MakeOwn
import Derived.Laws.OwnMore
import Derived.Deep.OwnRows
import Derived.Tactics
import Derived.Lib.ConvBytes
import Derived.Laws.Slices
import Derived.WalkKit
import Derived.KernelRfl
import Derived.RowKit3
import Derived.Deep.LoopGhost
import Derived.Deep.QuietTactic
import Derived.BigQuiet
import Derived.WideLaws
import Derived.Deep.DeepCutAuto
import Derived.Deep.CutBlock
import Derived.Deep.RegionHeld3
import Derived.Laws.Rows
import Derived.Lib.AppendStr
import Derived.ArgAppend
import Derived.Laws.IdiomCopy
import Derived.OrdersHeld
import Derived.Laws.BitsLemmas
import Derived.RowKit
import Derived.Test.YthigelphmjepaaaDoorExt
import Derived.Test.YthigelphmjepaaaDoorWWords
import Derived.Test.YthigelphmjepaaaDoorWLast
import Derived.Test.YthigelphmjepaaaDoorWTab
import Derived.Test.YthigelphmjepaaaDoorWFour
import Derived.Test.YthigelphmjepaaaDoorWQPut
import Derived.Test.YthigelphmjepaaaDoorWApart
import Derived.Test.YthigelphmjepaaaDoorWArr
import Derived.Test.YthigelphmjepaaaDoorWZeros
import Derived.Test.YthigelphmjepaaaDoorWFoot
import Derived.Test.YthigelphmjepaaaDoorWKept
import Derived.Test.YthigelphmjepaaaDoorWShare
import Derived.Test.YthigelphmjepaaaDoorWN
import Derived.Test.YthigelphmjepaaaDoorWFootNe
import Derived.Test.YthigelphmjepaaaDoorWAt
import Derived.Test.YthigelphmjepaaaDoorWEqStruct
import Derived.Test.YthigelphmjepaaaDoorWRepsOne
import Derived.Test.YthigelphmjepaaaDoorWInv
import Derived.Test.YthigelphmjepaaaDoorWInvWords
import Derived.Test.YthigelphmjepaaaDoorWGuard
import Derived.Test.YthigelphmjepaaaDoorWNEv
import Derived.Test.YthigelphmjepaaaDoorWMore
import Derived.Test.YthigelphmjepaaaDoorVal
namespace Go.Proofs.YthigelphmjepaaaDoor.QFnExactDecLooks
open Go.RowKit Go.Proofs.YthigelphmjepaaaDoorW.PrintWords Go.Proofs.YthigelphmjepaaaDoorW.PrintLast Go.Proofs.YthigelphmjepaaaDoorW.PrintMore
attribute [local go_sem] max2_int min2_int max_two min_two max_three min_three max_four min_four   -- for this text's walks alone
set_option linter.unusedVariables false
set_option linter.unusedSimpArgs false
set_option maxHeartbeats 8000000



def errW : Option Int → Value
  | none => .nilIface
  | some c => .iface 0 (.int .i64 c)
theorem errW_none : errW none = .nilIface := rfl
theorem errW_some (c : Int) : errW (some c) = .iface 0 (.int .i64 c) := rfl

-- the values' own types

end Go.Proofs.YthigelphmjepaaaDoor.QFnExactDecLooks
