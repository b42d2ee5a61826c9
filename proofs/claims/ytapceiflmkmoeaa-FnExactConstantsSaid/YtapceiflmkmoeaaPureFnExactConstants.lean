/- The pure statement of the law FnExactConstants: the functions that the program's text comes to answer true at every input. -/
import Derived.Test.YtapceiflmkmoeaaPx8
namespace Go.Proofs.Ytapceiflmkmoeaa.Pure
open Go.RowKit Go.Proofs.Ytapceiflmkmoeaa.P Go.Proofs.YtapceiflmkmoeaaW.PrintWords Go.Proofs.YtapceiflmkmoeaaW.PrintLast Go.Proofs.YtapceiflmkmoeaaW.PrintMore
set_option linter.unusedVariables false
set_option linter.unusedSimpArgs false
theorem FnExactConstants : laws_FnExactConstants.f  = some true := rfl

end Go.Proofs.Ytapceiflmkmoeaa.Pure
