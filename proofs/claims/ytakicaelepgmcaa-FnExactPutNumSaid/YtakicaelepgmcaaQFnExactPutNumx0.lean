/- Written by wip/pr2, a program of this session. -/
import Derived.Test.YtakicaelepgmcaaProg
import Derived.Below
import Derived.Deep.Draws
import Derived.Deep.AppendLies
import Derived.Maps.AppendAt
import Derived.OwnWalk
import Derived.Laws.BytesArg
import Derived.Laws.MakeOwn
import Derived.Laws.OwnMore
import Derived.Deep.OwnRows
import Derived.Tactics
import Derived.Lib.ConvBytes
import Derived.Laws.Slices
import Derived.WalkKit
import Derived.KernelRfl
import Derived.RowKit3
import Derived.Deep.LoopGhost
import Derived.Deep.QuietTactic
import Derived.BigQuiet
import Derived.WideLaws
import Derived.Deep.DeepCutAuto
import Derived.Deep.CutBlock
import Derived.Deep.RegionHeld3
import Derived.Laws.Rows
import Derived.Lib.AppendStr
import Derived.ArgAppend
import Derived.Laws.IdiomCopy
import Derived.OrdersHeld
import Derived.Laws.BitsLemmas
import Derived.RowKit
import Derived.Test.YtakicaelepgmcaaWWords
import Derived.Test.YtakicaelepgmcaaWLast
import Derived.Test.YtakicaelepgmcaaWTab
import Derived.Test.YtakicaelepgmcaaWFour
import Derived.Test.YtakicaelepgmcaaWQPut
import Derived.Test.YtakicaelepgmcaaWApart
import Derived.Test.YtakicaelepgmcaaWArr
import Derived.Test.YtakicaelepgmcaaWZeros
import Derived.Test.YtakicaelepgmcaaWFoot
import Derived.Test.YtakicaelepgmcaaWKept
import Derived.Test.YtakicaelepgmcaaWShare
import Derived.Test.YtakicaelepgmcaaWN
import Derived.Test.YtakicaelepgmcaaWFootNe
import Derived.Test.YtakicaelepgmcaaWAt
import Derived.Test.YtakicaelepgmcaaWEqStruct
import Derived.Test.YtakicaelepgmcaaWRepsOne
import Derived.Test.YtakicaelepgmcaaWInv
import Derived.Test.YtakicaelepgmcaaWInvWords
import Derived.Test.YtakicaelepgmcaaWGuard
import Derived.Test.YtakicaelepgmcaaWNEv
import Derived.Test.YtakicaelepgmcaaWMore
namespace Go.Proofs.Ytakicaelepgmcaa.QFnExactPutNum
open Go.RowKit Go.Proofs.YtakicaelepgmcaaW.PrintWords Go.Proofs.YtakicaelepgmcaaW.PrintLast Go.Proofs.YtakicaelepgmcaaW.PrintMore
attribute [local go_sem] max2_int min2_int max_two min_two max_three min_three max_four min_four   -- for this text's walks alone
set_option linter.unusedVariables false
set_option linter.unusedSimpArgs false



def errW : Option Int → Value
  | none => .nilIface
  | some c => .iface 0 (.int .i64 c)
theorem errW_none : errW none = .nilIface := rfl
theorem errW_some (c : Int) : errW (some c) = .iface 0 (.int .i64 c) := rfl

theorem info5 : (Try.prog.info? 5).map (fun i => (i.zero, i.size, i.bytes)) = some (some (.int .u8 0), 1, 1) := by kernel_rfl
-- the values' own types

end Go.Proofs.Ytakicaelepgmcaa.QFnExactPutNum
