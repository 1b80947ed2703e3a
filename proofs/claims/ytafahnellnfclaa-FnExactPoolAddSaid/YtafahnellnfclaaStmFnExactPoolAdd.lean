/- The plain statement of the law FnExactPoolAdd, over the printed function. -/
import Derived.Test.YtafahnellnfclaaB11
import Derived.Test.YtafahnellnfclaaRowK
set_option linter.unusedVariables false
namespace Go.Proofs.Ytafahnellnfclaa.Stm
open Go.RowKit Go.Proofs.Ytafahnellnfclaa.B
def FnExactPoolAdd : Prop := ∀ (l0_0 : List S26) (a1_0 a1_1 a1_2 : Int), l0_0.length ≤ maxLen → (∀ x ∈ l0_0, RowK.wf26 x) → (Lit.int .i64 a1_0).wf = true → (Lit.int .i64 a1_1).wf = true → (Lit.int .i64 a1_2).wf = true → ∃ k, laws_FnExactPoolAdd.f k l0_0 a1_0 a1_1 a1_2 = some true
end Go.Proofs.Ytafahnellnfclaa.Stm
