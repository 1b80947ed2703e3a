/- The plain statement of the law FnExactTermBelow, over the printed function. -/
import Derived.Test.YtafahnellnfclaaQ30
import Derived.Test.YtafahnellnfclaaRowK
set_option linter.unusedVariables false
namespace Go.Proofs.Ytafahnellnfclaa.Stm
open Go.RowKit Go.Proofs.Ytafahnellnfclaa.Q
def FnExactTermBelow : Prop := ∀ (l0_0 : List S26) (a1 : Int), l0_0.length ≤ maxLen → (∀ x ∈ l0_0, RowK.wf26 x) → (Lit.int .i64 a1).wf = true → ∃ k, laws_FnExactTermBelow.f k l0_0 a1 = some true
end Go.Proofs.Ytafahnellnfclaa.Stm
