/- What is known: both check it one way. No conditions but lengths. -/
import Derived.Test.YtafahnellnfclaaVLibPool
set_option linter.unusedVariables false
set_option linter.unusedSimpArgs false
namespace Go.Proofs.Ytafahnellnfclaa.Lib
open Go.RowKit Go.Proofs.Ytafahnellnfclaa.K Go.Proofs.YtafahnellnfclaaW.PrintWords Go.Proofs.YtafahnellnfclaaW.PrintLast

end Go.Proofs.Ytafahnellnfclaa.Lib
