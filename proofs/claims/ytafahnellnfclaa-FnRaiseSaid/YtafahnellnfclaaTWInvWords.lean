import Derived.Test.YtafahnellnfclaaTWInv
import Derived.Test.YtafahnellnfclaaTWFootNe
namespace Go.Proofs.YtafahnellnfclaaW.PrintWords
open Go.RowKit
end Go.Proofs.YtafahnellnfclaaW.PrintWords
namespace Go.Proofs.YtafahnellnfclaaW.PrintLast
section
variable {ops : Array Oper} {a : Act} {o og : Oper} {g : Nat} {t : Tmp} {u : Bool}
end
end Go.Proofs.YtafahnellnfclaaW.PrintLast
