/- What the parts that are told of a term come to. No conditions but lengths. -/
import Derived.Test.YtafahnellnfclaaTLibDeepA
import Derived.Test.YtafahnellnfclaaTLibKnow
set_option linter.unusedVariables false
set_option linter.unusedSimpArgs false
namespace Go.Proofs.Ytafahnellnfclaa.Lib
open Go.RowKit Go.Proofs.Ytafahnellnfclaa.R Go.Proofs.YtafahnellnfclaaW.PrintWords Go.Proofs.YtafahnellnfclaaW.PrintLast
end Go.Proofs.Ytafahnellnfclaa.Lib
