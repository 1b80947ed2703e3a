/- The plain statement of the law FnExactMakesList, over the printed function. -/
import Derived.Test.YtgohebghlgamiaaZMg12
import Derived.Test.YtgohebghlgamiaaZRowK
set_option linter.unusedVariables false
namespace Go.Proofs.Ytgohebghlgamiaa.Stm
open Go.RowKit Go.Proofs.Ytgohebghlgamiaa.M
def FnExactMakesList : Prop := ∀ (l0_0 : List S77) (l1 : List Int), l0_0.length ≤ maxLen → (∀ x ∈ l0_0, RowK.wf77 x) → l1.length ≤ maxLen → (∀ x ∈ l1, (Lit.int .i64 x).wf = true) → ∃ k, laws_FnExactMakesList.f k l0_0 l1 = some true
end Go.Proofs.Ytgohebghlgamiaa.Stm
