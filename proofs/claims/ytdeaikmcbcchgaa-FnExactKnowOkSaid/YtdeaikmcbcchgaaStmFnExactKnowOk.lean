/- The plain statement of the law FnExactKnowOk, over the printed function. -/
import Derived.Test.YtdeaikmcbcchgaaQ21
import Derived.Test.YtdeaikmcbcchgaaRowK
set_option linter.unusedVariables false
namespace Go.Proofs.Ytdeaikmcbcchgaa.Stm
open Go.RowKit Go.Proofs.Ytdeaikmcbcchgaa.Q
def FnExactKnowOk : Prop := ∀ (l0_0 : List S88) (l1 : List Int), l0_0.length ≤ maxLen → (∀ x ∈ l0_0, RowK.wf88 x) → l1.length ≤ maxLen → (∀ x ∈ l1, (Lit.int .i64 x).wf = true) → ∃ k, laws_FnExactKnowOk.f k l0_0 l1 = some true
end Go.Proofs.Ytdeaikmcbcchgaa.Stm
