/- The plain statement of the law FnExactTermMove, over the printed function. -/
import Derived.Test.YtobkledmbnacjaaZMMVg5
import Derived.Test.YtobkledmbnacjaaZMRowK
set_option linter.unusedVariables false
namespace Go.Proofs.Ytobkledmbnacjaa.Stm
open Go.RowKit Go.Proofs.Ytobkledmbnacjaa.MV
def FnExactTermMove : Prop := ∀ (l0_0 : List S79) (a1 : Int) (l2_0 : List S79), l0_0.length ≤ maxLen → (∀ x ∈ l0_0, RowK.wf79 x) → (Lit.int .i64 a1).wf = true → l2_0.length ≤ maxLen → (∀ x ∈ l2_0, RowK.wf79 x) → ∃ k, laws_FnExactTermMove.f k l0_0 a1 l2_0 = some true
end Go.Proofs.Ytobkledmbnacjaa.Stm
