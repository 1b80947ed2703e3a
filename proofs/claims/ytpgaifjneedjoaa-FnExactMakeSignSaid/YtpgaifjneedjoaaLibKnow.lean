/- What is known: both check it one way. No conditions but lengths. -/
import Derived.Test.YtpgaifjneedjoaaLibPool
set_option linter.unusedVariables false
set_option linter.unusedSimpArgs false
namespace Go.Proofs.Ytpgaifjneedjoaa.Lib
open Go.RowKit Go.Proofs.Ytpgaifjneedjoaa.B Go.Proofs.YtpgaifjneedjoaaW.PrintWords Go.Proofs.YtpgaifjneedjoaaW.PrintLast

end Go.Proofs.Ytpgaifjneedjoaa.Lib
