import Derived.Test.YtilnfdnigjblcaaVWInv
import Derived.Test.YtilnfdnigjblcaaVWFootNe
namespace Go.Proofs.YtilnfdnigjblcaaW.PrintWords
open Go.RowKit
end Go.Proofs.YtilnfdnigjblcaaW.PrintWords
namespace Go.Proofs.YtilnfdnigjblcaaW.PrintLast
section
variable {ops : Array Oper} {a : Act} {o og : Oper} {g : Nat} {t : Tmp} {u : Bool}
end
end Go.Proofs.YtilnfdnigjblcaaW.PrintLast
