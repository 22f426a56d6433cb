/- The program's Constants returns what the reference's returns. -/
import Derived.Test.YtakicaelepgmcaaQFnExactConstantsx2
import Derived.Test.YtakicaelepgmcaaLim
namespace Go.Proofs.Ytakicaelepgmcaa.Pure
open Go.RowKit Go.Proofs.Ytakicaelepgmcaa.QFnExactConstants Go.Proofs.YtakicaelepgmcaaW.PrintWords Go.Proofs.YtakicaelepgmcaaW.PrintLast Go.Proofs.YtakicaelepgmcaaW.PrintMore Go.Proofs.YtakicaelepgmcaaW.Lims
namespace FnExactConstantsAid

theorem none_ : True := trivial
end FnExactConstantsAid
open FnExactConstantsAid

theorem FnExactConstants : laws_FnExactConstants.Pure := rfl

end Go.Proofs.Ytakicaelepgmcaa.Pure
