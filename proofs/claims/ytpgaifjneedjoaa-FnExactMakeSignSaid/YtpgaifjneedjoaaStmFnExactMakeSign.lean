/- The plain statement of the law FnExactMakeSign, over the printed function. -/
import Derived.Test.YtpgaifjneedjoaaB24
import Derived.Test.YtpgaifjneedjoaaRowK
set_option linter.unusedVariables false
namespace Go.Proofs.Ytpgaifjneedjoaa.Stm
open Go.RowKit Go.Proofs.Ytpgaifjneedjoaa.B
def FnExactMakeSign : Prop := ∀ (l0_0 : List S74) (a1 : Int) (a2 : Int), l0_0.length ≤ maxLen → (∀ x ∈ l0_0, RowK.wf74 x) → (Lit.int .i64 a1).wf = true → (Lit.int .i64 a2).wf = true → ∃ k, laws_FnExactMakeSign.f k l0_0 a1 a2 = some true
end Go.Proofs.Ytpgaifjneedjoaa.Stm
