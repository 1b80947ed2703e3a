/- What the laws' own marks come to: a list that is written over, and found as it was written. No conditions but lengths. -/
import Derived.Test.YtobkledmbnacjaaZNLibPool
set_option linter.unusedVariables false
set_option linter.unusedSimpArgs false
namespace Go.Proofs.Ytobkledmbnacjaa.Lib
open Go.RowKit Go.Proofs.Ytobkledmbnacjaa.M Go.Proofs.YtobkledmbnacjaaW.PrintWords Go.Proofs.YtobkledmbnacjaaW.PrintLast

end Go.Proofs.Ytobkledmbnacjaa.Lib
