import Derived.Test.YtjcemohmlpgfnaaDoorYWInv
import Derived.Test.YtjcemohmlpgfnaaDoorYWFootNe
namespace Go.Proofs.YtjcemohmlpgfnaaDoorW.PrintWords
open Go.RowKit
end Go.Proofs.YtjcemohmlpgfnaaDoorW.PrintWords
namespace Go.Proofs.YtjcemohmlpgfnaaDoorW.PrintLast
section
variable {ops : Array Oper} {a : Act} {o og : Oper} {g : Nat} {t : Tmp} {u : Bool}
end
end Go.Proofs.YtjcemohmlpgfnaaDoorW.PrintLast
