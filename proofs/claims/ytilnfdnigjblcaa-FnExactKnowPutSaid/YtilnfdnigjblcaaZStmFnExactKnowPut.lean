/- The plain statement of the law FnExactKnowPut, over the printed function. -/
import Derived.Test.YtilnfdnigjblcaaZKg7
import Derived.Test.YtilnfdnigjblcaaZRowK
set_option linter.unusedVariables false
namespace Go.Proofs.Ytilnfdnigjblcaa.Stm
open Go.RowKit Go.Proofs.Ytilnfdnigjblcaa.K
def FnExactKnowPut : Prop := ∀ (l0_0 : List S70) (l1 : List Int) (a2 : Int), l0_0.length ≤ maxLen → (∀ x ∈ l0_0, RowK.wf70 x) → l1.length ≤ maxLen → (∀ x ∈ l1, (Lit.int .i64 x).wf = true) → (Lit.int .i64 a2).wf = true → ∃ k, laws_FnExactKnowPut.f k l0_0 l1 a2 = some true
end Go.Proofs.Ytilnfdnigjblcaa.Stm
