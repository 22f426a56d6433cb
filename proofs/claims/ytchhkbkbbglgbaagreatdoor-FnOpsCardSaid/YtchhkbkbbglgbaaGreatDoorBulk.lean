/- Lists that come in: how much they hold, their copies, that each is like itself; marks. For functions given by their equations. -/
import Derived.Test.YtchhkbkbbglgbaaGreatDoorLim
set_option linter.unusedVariables false
set_option linter.unusedSimpArgs false
namespace Go.Proofs.YtchhkbkbbglgbaaGreatDoorW.Bulk
open Go.RowKit Go.Proofs.YtchhkbkbbglgbaaGreatDoorW.PrintWords Go.Proofs.YtchhkbkbbglgbaaGreatDoorW.Lims
end Go.Proofs.YtchhkbkbbglgbaaGreatDoorW.Bulk
