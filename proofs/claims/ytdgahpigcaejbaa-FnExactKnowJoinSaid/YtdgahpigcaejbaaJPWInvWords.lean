import Derived.Test.YtdgahpigcaejbaaJPWInv
import Derived.Test.YtdgahpigcaejbaaJPWFootNe
namespace Go.Proofs.YtdgahpigcaejbaaW.PrintWords
open Go.RowKit
end Go.Proofs.YtdgahpigcaejbaaW.PrintWords
namespace Go.Proofs.YtdgahpigcaejbaaW.PrintLast
section
variable {ops : Array Oper} {a : Act} {o og : Oper} {g : Nat} {t : Tmp} {u : Bool}
end
end Go.Proofs.YtdgahpigcaejbaaW.PrintLast
