import Derived.Test.YtobkledmbnacjaaZNWInv
import Derived.Test.YtobkledmbnacjaaZNWFootNe
namespace Go.Proofs.YtobkledmbnacjaaW.PrintWords
open Go.RowKit
end Go.Proofs.YtobkledmbnacjaaW.PrintWords
namespace Go.Proofs.YtobkledmbnacjaaW.PrintLast
section
variable {ops : Array Oper} {a : Act} {o og : Oper} {g : Nat} {t : Tmp} {u : Bool}
end
end Go.Proofs.YtobkledmbnacjaaW.PrintLast
