/- The plain statement of the law FnExactNameOf, over the printed function. -/
import Derived.Test.YtafahnellnfclaaB13
import Derived.Test.YtafahnellnfclaaRowK
set_option linter.unusedVariables false
namespace Go.Proofs.Ytafahnellnfclaa.Stm
open Go.RowKit Go.Proofs.Ytafahnellnfclaa.B
def FnExactNameOf : Prop := ∀ (l0_0 : List S26) (a1 : Int), l0_0.length ≤ maxLen → (∀ x ∈ l0_0, RowK.wf26 x) → (Lit.int .i64 a1).wf = true → ∃ k, laws_FnExactNameOf.f k l0_0 a1 = some true
end Go.Proofs.Ytafahnellnfclaa.Stm
