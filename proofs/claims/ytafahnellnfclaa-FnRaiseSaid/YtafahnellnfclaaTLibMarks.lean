/- What the laws' own marks come to: a list that is written over, and found as it was written. No conditions but lengths. -/
import Derived.Test.YtafahnellnfclaaTLibPool
set_option linter.unusedVariables false
set_option linter.unusedSimpArgs false
namespace Go.Proofs.Ytafahnellnfclaa.Lib
open Go.RowKit Go.Proofs.Ytafahnellnfclaa.R Go.Proofs.YtafahnellnfclaaW.PrintWords Go.Proofs.YtafahnellnfclaaW.PrintLast

end Go.Proofs.Ytafahnellnfclaa.Lib
