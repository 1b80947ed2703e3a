/- What the laws' own marks come to: a list that is written over, and found as it was written. No conditions but lengths. -/
import Derived.Test.YtgohebghlgamiaaYLibPool
set_option linter.unusedVariables false
set_option linter.unusedSimpArgs false
namespace Go.Proofs.Ytgohebghlgamiaa.Lib
open Go.RowKit Go.Proofs.Ytgohebghlgamiaa.P Go.Proofs.YtgohebghlgamiaaW.PrintWords Go.Proofs.YtgohebghlgamiaaW.PrintLast

end Go.Proofs.Ytgohebghlgamiaa.Lib
