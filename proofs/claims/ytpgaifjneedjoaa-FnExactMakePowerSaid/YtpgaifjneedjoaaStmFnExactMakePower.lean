/- The plain statement of the law FnExactMakePower, over the printed function. -/
import Derived.Test.YtpgaifjneedjoaaB18
import Derived.Test.YtpgaifjneedjoaaRowK
set_option linter.unusedVariables false
namespace Go.Proofs.Ytpgaifjneedjoaa.Stm
open Go.RowKit Go.Proofs.Ytpgaifjneedjoaa.B
def FnExactMakePower : Prop := ∀ (l0_0 : List S74) (a1 : Int), l0_0.length ≤ maxLen → (∀ x ∈ l0_0, RowK.wf74 x) → (Lit.int .i64 a1).wf = true → ∃ k, laws_FnExactMakePower.f k l0_0 a1 = some true
end Go.Proofs.Ytpgaifjneedjoaa.Stm
