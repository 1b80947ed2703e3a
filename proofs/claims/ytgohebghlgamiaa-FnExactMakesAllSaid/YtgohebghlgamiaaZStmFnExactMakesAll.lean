/- The plain statement of the law FnExactMakesAll, over the printed function. -/
import Derived.Test.YtgohebghlgamiaaZMg10
import Derived.Test.YtgohebghlgamiaaZRowK
set_option linter.unusedVariables false
namespace Go.Proofs.Ytgohebghlgamiaa.Stm
open Go.RowKit Go.Proofs.Ytgohebghlgamiaa.M
def FnExactMakesAll : Prop := ∀ (l0_0 : List S77) (l1 : List Int), l0_0.length ≤ maxLen → (∀ x ∈ l0_0, RowK.wf77 x) → l1.length ≤ maxLen → (∀ x ∈ l1, (Lit.int .i64 x).wf = true) → ∃ k, laws_FnExactMakesAll.f k l0_0 l1 = some true
end Go.Proofs.Ytgohebghlgamiaa.Stm
