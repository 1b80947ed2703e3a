/- The plain statement of the law FnExactRaise, over the printed function. -/
import Derived.Test.YtafahnellnfclaaB15
import Derived.Test.YtafahnellnfclaaRowK
set_option linter.unusedVariables false
namespace Go.Proofs.Ytafahnellnfclaa.Stm
open Go.RowKit Go.Proofs.Ytafahnellnfclaa.B
def FnExactRaise : Prop := ∀ (l0_0 : List S26) (a1 : Int) (a2 : Int), l0_0.length ≤ maxLen → (∀ x ∈ l0_0, RowK.wf26 x) → (Lit.int .i64 a1).wf = true → (Lit.int .i64 a2).wf = true → ∃ k, laws_FnExactRaise.f k l0_0 a1 a2 = some true
end Go.Proofs.Ytafahnellnfclaa.Stm
