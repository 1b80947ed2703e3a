/- What the laws' own marks come to: a list that is written over, and found as it was written. No conditions but lengths. -/
import Derived.Test.YtilnfdnigjblcaaVLibPool
set_option linter.unusedVariables false
set_option linter.unusedSimpArgs false
namespace Go.Proofs.Ytilnfdnigjblcaa.Lib
open Go.RowKit Go.Proofs.Ytilnfdnigjblcaa.H Go.Proofs.YtilnfdnigjblcaaW.PrintWords Go.Proofs.YtilnfdnigjblcaaW.PrintLast

end Go.Proofs.Ytilnfdnigjblcaa.Lib
