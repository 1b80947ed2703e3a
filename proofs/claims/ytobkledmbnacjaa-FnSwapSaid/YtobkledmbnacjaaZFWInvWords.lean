import Derived.Test.YtobkledmbnacjaaZFWInv
import Derived.Test.YtobkledmbnacjaaZFWFootNe
namespace Go.Proofs.YtobkledmbnacjaaW.PrintWords
open Go.RowKit
end Go.Proofs.YtobkledmbnacjaaW.PrintWords
namespace Go.Proofs.YtobkledmbnacjaaW.PrintLast
section
variable {ops : Array Oper} {a : Act} {o og : Oper} {g : Nat} {t : Tmp} {u : Bool}
end
end Go.Proofs.YtobkledmbnacjaaW.PrintLast
