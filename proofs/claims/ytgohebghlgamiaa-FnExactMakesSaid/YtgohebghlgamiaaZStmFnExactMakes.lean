/- The plain statement of the law FnExactMakes, over the printed function. -/
import Derived.Test.YtgohebghlgamiaaZMg8
import Derived.Test.YtgohebghlgamiaaZRowK
set_option linter.unusedVariables false
namespace Go.Proofs.Ytgohebghlgamiaa.Stm
open Go.RowKit Go.Proofs.Ytgohebghlgamiaa.M
def FnExactMakes : Prop := ∀ (l0_0 : List S77) (l1 : List Int) (a2 : Int), l0_0.length ≤ maxLen → (∀ x ∈ l0_0, RowK.wf77 x) → l1.length ≤ maxLen → (∀ x ∈ l1, (Lit.int .i64 x).wf = true) → (Lit.int .i64 a2).wf = true → ∃ k, laws_FnExactMakes.f k l0_0 l1 a2 = some true
end Go.Proofs.Ytgohebghlgamiaa.Stm
