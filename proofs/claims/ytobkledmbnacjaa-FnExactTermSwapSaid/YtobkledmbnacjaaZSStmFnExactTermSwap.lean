/- The plain statement of the law FnExactTermSwap, over the printed function. -/
import Derived.Test.YtobkledmbnacjaaZSSWg6
import Derived.Test.YtobkledmbnacjaaZSRowK
set_option linter.unusedVariables false
namespace Go.Proofs.Ytobkledmbnacjaa.Stm
open Go.RowKit Go.Proofs.Ytobkledmbnacjaa.SW
def FnExactTermSwap : Prop := ∀ (l0_0 : List S79) (a1 : Int) (a2 : Int) (a3 : Int), l0_0.length ≤ maxLen → (∀ x ∈ l0_0, RowK.wf79 x) → (Lit.int .i64 a1).wf = true → (Lit.int .i64 a2).wf = true → (Lit.int .i64 a3).wf = true → ∃ k, laws_FnExactTermSwap.f k l0_0 a1 a2 a3 = some true
end Go.Proofs.Ytobkledmbnacjaa.Stm
