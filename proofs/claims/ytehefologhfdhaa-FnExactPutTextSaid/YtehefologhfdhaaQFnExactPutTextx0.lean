/- Written by wip/pr2, a program of this session. -/
import Derived.Test.YtehefologhfdhaaProg
import Derived.Below
import Derived.Deep.Draws
import Derived.Deep.AppendLies
import Derived.Maps.AppendAt
import Derived.OwnWalk
import Derived.Laws.BytesArg
import Derived.Laws.MakeOwn
import Derived.Laws.OwnMore
import Derived.Deep.OwnRows
import Derived.Tactics
import Derived.Lib.ConvBytes
import Derived.Laws.Slices
import Derived.WalkKit
import Derived.KernelRfl
import Derived.RowKit3
import Derived.Deep.LoopGhost
import Derived.Deep.QuietTactic
import Derived.BigQuiet
import Derived.WideLaws
import Derived.Deep.DeepCutAuto
import Derived.Deep.CutBlock
import Derived.Deep.RegionHeld3
import Derived.Laws.Rows
import Derived.Lib.AppendStr
import Derived.ArgAppend
import Derived.Laws.IdiomCopy
import Derived.OrdersHeld
import Derived.Laws.BitsLemmas
import Derived.RowKit
import Derived.Test.YtehefologhfdhaaExt
import Derived.Test.YtehefologhfdhaaWWords
import Derived.Test.YtehefologhfdhaaWLast
import Derived.Test.YtehefologhfdhaaWTab
import Derived.Test.YtehefologhfdhaaWFour
import Derived.Test.YtehefologhfdhaaWQPut
import Derived.Test.YtehefologhfdhaaWApart
import Derived.Test.YtehefologhfdhaaWArr
import Derived.Test.YtehefologhfdhaaWZeros
import Derived.Test.YtehefologhfdhaaWFoot
import Derived.Test.YtehefologhfdhaaWKept
import Derived.Test.YtehefologhfdhaaWShare
import Derived.Test.YtehefologhfdhaaWN
import Derived.Test.YtehefologhfdhaaWFootNe
import Derived.Test.YtehefologhfdhaaWAt
import Derived.Test.YtehefologhfdhaaWEqStruct
import Derived.Test.YtehefologhfdhaaWRepsOne
import Derived.Test.YtehefologhfdhaaWInv
import Derived.Test.YtehefologhfdhaaWInvWords
import Derived.Test.YtehefologhfdhaaWGuard
import Derived.Test.YtehefologhfdhaaWNEv
import Derived.Test.YtehefologhfdhaaWMore
import Derived.Test.YtehefologhfdhaaVal
namespace Go.Proofs.Ytehefologhfdhaa.QFnExactPutText
open Go.RowKit Go.Proofs.YtehefologhfdhaaW.PrintWords Go.Proofs.YtehefologhfdhaaW.PrintLast Go.Proofs.YtehefologhfdhaaW.PrintMore
attribute [local go_sem] max2_int min2_int max_two min_two max_three min_three max_four min_four   -- for this text's walks alone
set_option linter.unusedVariables false
set_option linter.unusedSimpArgs false
set_option maxHeartbeats 8000000



def errW : Option Int → Value
  | none => .nilIface
  | some c => .iface 0 (.int .i64 c)
theorem errW_none : errW none = .nilIface := rfl
theorem errW_some (c : Int) : errW (some c) = .iface 0 (.int .i64 c) := rfl

theorem info5 : (Try.prog.info? 5).map (fun i => (i.zero, i.size, i.bytes)) = some (some (.int .u8 0), 1, 1) := by kernel_rfl
-- the values' own types

end Go.Proofs.Ytehefologhfdhaa.QFnExactPutText
