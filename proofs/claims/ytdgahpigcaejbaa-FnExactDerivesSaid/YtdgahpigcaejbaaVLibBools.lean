/- Lists of true and false in the laws: compared, written over, and found as they were written. No conditions but lengths. -/
import Derived.Test.YtdgahpigcaejbaaVLibMarks
set_option linter.unusedVariables false
set_option linter.unusedSimpArgs false
namespace Go.Proofs.Ytdgahpigcaejbaa.Lib
open Go.RowKit Go.Proofs.Ytdgahpigcaejbaa.E Go.Proofs.YtdgahpigcaejbaaW.PrintWords Go.Proofs.YtdgahpigcaejbaaW.PrintLast Go.Proofs.YtdgahpigcaejbaaW.PrintMore

end Go.Proofs.Ytdgahpigcaejbaa.Lib
