/- The plain statement of the law FnExactTermDeep, over the printed function. -/
import Derived.Test.YtdeaikmcbcchgaaQ26
import Derived.Test.YtdeaikmcbcchgaaRowK
set_option linter.unusedVariables false
namespace Go.Proofs.Ytdeaikmcbcchgaa.Stm
open Go.RowKit Go.Proofs.Ytdeaikmcbcchgaa.Q
def FnExactTermDeep : Prop := ∀ (l0_0 : List S88) (a1 : Int), l0_0.length ≤ maxLen → (∀ x ∈ l0_0, RowK.wf88 x) → (Lit.int .i64 a1).wf = true → ∃ k, laws_FnExactTermDeep.f k l0_0 a1 = some true
end Go.Proofs.Ytdeaikmcbcchgaa.Stm
