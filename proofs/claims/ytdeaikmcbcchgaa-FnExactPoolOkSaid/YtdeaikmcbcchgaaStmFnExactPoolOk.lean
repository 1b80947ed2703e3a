/- The plain statement of the law FnExactPoolOk, over the printed function. -/
import Derived.Test.YtdeaikmcbcchgaaQ17
import Derived.Test.YtdeaikmcbcchgaaRowK
set_option linter.unusedVariables false
namespace Go.Proofs.Ytdeaikmcbcchgaa.Stm
open Go.RowKit Go.Proofs.Ytdeaikmcbcchgaa.Q
def FnExactPoolOk : Prop := ∀ (l0_0 : List S88), l0_0.length ≤ maxLen → (∀ x ∈ l0_0, RowK.wf88 x) → ∃ k, laws_FnExactPoolOk.f k l0_0 = some true
end Go.Proofs.Ytdeaikmcbcchgaa.Stm
