/- The constants' law answers true. No conditions. -/
import Derived.Test.YtdeaikmcbcchgaaPFnExactConstantsx1
namespace Go.Proofs.Ytdeaikmcbcchgaa.Pure
open Go.RowKit Go.Proofs.Ytdeaikmcbcchgaa.PFnExactConstants Go.Proofs.YtdeaikmcbcchgaaW.PrintWords Go.Proofs.YtdeaikmcbcchgaaW.PrintLast

theorem FnExactConstants : laws_FnExactConstants.Pure := rfl

end Go.Proofs.Ytdeaikmcbcchgaa.Pure
