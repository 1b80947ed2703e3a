/- The plain statement of the law FnExactTermNames, over the printed function. -/
import Derived.Test.YtdgahpigcaejbaaZAg6
import Derived.Test.YtdgahpigcaejbaaZRowK
set_option linter.unusedVariables false
namespace Go.Proofs.Ytdgahpigcaejbaa.Stm
open Go.RowKit Go.Proofs.Ytdgahpigcaejbaa.A
def FnExactTermNames : Prop := ∀ (l0_0 : List S83) (a1 : Int), l0_0.length ≤ maxLen → (∀ x ∈ l0_0, RowK.wf83 x) → (Lit.int .i64 a1).wf = true → ∃ k, laws_FnExactTermNames.f k l0_0 a1 = some true
end Go.Proofs.Ytdgahpigcaejbaa.Stm
