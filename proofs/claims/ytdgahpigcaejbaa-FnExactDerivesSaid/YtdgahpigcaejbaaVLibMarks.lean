/- What the laws' own marks come to: a list that is written over, and found as it was written. No conditions but lengths. -/
import Derived.Test.YtdgahpigcaejbaaVLibPool
set_option linter.unusedVariables false
set_option linter.unusedSimpArgs false
namespace Go.Proofs.Ytdgahpigcaejbaa.Lib
open Go.RowKit Go.Proofs.Ytdgahpigcaejbaa.E Go.Proofs.YtdgahpigcaejbaaW.PrintWords Go.Proofs.YtdgahpigcaejbaaW.PrintLast

end Go.Proofs.Ytdgahpigcaejbaa.Lib
