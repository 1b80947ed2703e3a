import Derived.Test.YtgohebghlgamiaaYWInv
import Derived.Test.YtgohebghlgamiaaYWFootNe
namespace Go.Proofs.YtgohebghlgamiaaW.PrintWords
open Go.RowKit
end Go.Proofs.YtgohebghlgamiaaW.PrintWords
namespace Go.Proofs.YtgohebghlgamiaaW.PrintLast
section
variable {ops : Array Oper} {a : Act} {o og : Oper} {g : Nat} {t : Tmp} {u : Bool}
end
end Go.Proofs.YtgohebghlgamiaaW.PrintLast
