import Derived.Test.YtdgahpigcaejbaaVWInv
import Derived.Test.YtdgahpigcaejbaaVWFootNe
namespace Go.Proofs.YtdgahpigcaejbaaW.PrintWords
open Go.RowKit
end Go.Proofs.YtdgahpigcaejbaaW.PrintWords
namespace Go.Proofs.YtdgahpigcaejbaaW.PrintLast
section
variable {ops : Array Oper} {a : Act} {o og : Oper} {g : Nat} {t : Tmp} {u : Bool}
end
end Go.Proofs.YtdgahpigcaejbaaW.PrintLast
