/- Lists of true and false in the laws: compared, written over, and found as they were written. No conditions but lengths. -/
import Derived.Test.YtilnfdnigjblcaaVLibMarks
set_option linter.unusedVariables false
set_option linter.unusedSimpArgs false
namespace Go.Proofs.Ytilnfdnigjblcaa.Lib
open Go.RowKit Go.Proofs.Ytilnfdnigjblcaa.H Go.Proofs.YtilnfdnigjblcaaW.PrintWords Go.Proofs.YtilnfdnigjblcaaW.PrintLast Go.Proofs.YtilnfdnigjblcaaW.PrintMore

end Go.Proofs.Ytilnfdnigjblcaa.Lib
