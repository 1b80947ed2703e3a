/- The plain statement of the law FnExactKnowJoin, over the printed function. -/
import Derived.Test.YtdgahpigcaejbaaJPJg4
import Derived.Test.YtdgahpigcaejbaaJPRowK
set_option linter.unusedVariables false
namespace Go.Proofs.Ytdgahpigcaejbaa.Stm
open Go.RowKit Go.Proofs.Ytdgahpigcaejbaa.J
def FnExactKnowJoin : Prop := ∀ (l0_0 : List S83) (l1 : List Int) (l2 : List Int), l0_0.length ≤ maxLen → (∀ x ∈ l0_0, RowK.wf83 x) → l1.length ≤ maxLen → (∀ x ∈ l1, (Lit.int .i64 x).wf = true) → l2.length ≤ maxLen → (∀ x ∈ l2, (Lit.int .i64 x).wf = true) → ∃ k, laws_FnExactKnowJoin.f k l0_0 l1 l2 = some true
end Go.Proofs.Ytdgahpigcaejbaa.Stm
