/- The plain statement of the law FnExactTermHas, over the printed function. -/
import Derived.Test.YtafahnellnfclaaQ28
import Derived.Test.YtafahnellnfclaaRowK
set_option linter.unusedVariables false
namespace Go.Proofs.Ytafahnellnfclaa.Stm
open Go.RowKit Go.Proofs.Ytafahnellnfclaa.Q
def FnExactTermHas : Prop := ∀ (l0_0 : List S26) (a1 : Int) (a2 : Int), l0_0.length ≤ maxLen → (∀ x ∈ l0_0, RowK.wf26 x) → (Lit.int .i64 a1).wf = true → (Lit.int .i64 a2).wf = true → ∃ k, laws_FnExactTermHas.f k l0_0 a1 a2 = some true
end Go.Proofs.Ytafahnellnfclaa.Stm
