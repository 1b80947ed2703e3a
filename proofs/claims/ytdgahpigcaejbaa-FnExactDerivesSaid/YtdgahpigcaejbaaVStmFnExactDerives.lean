/- The plain statement of the law FnExactDerives, over the printed function. -/
import Derived.Test.YtdgahpigcaejbaaVEg4
import Derived.Test.YtdgahpigcaejbaaVRowK
set_option linter.unusedVariables false
namespace Go.Proofs.Ytdgahpigcaejbaa.Stm
open Go.RowKit Go.Proofs.Ytdgahpigcaejbaa.E
def FnExactDerives : Prop := ∀ (l0_0 : List S83) (l1 : List Int) (a2 : Int), l0_0.length ≤ maxLen → (∀ x ∈ l0_0, RowK.wf83 x) → l1.length ≤ maxLen → (∀ x ∈ l1, (Lit.int .i64 x).wf = true) → (Lit.int .i64 a2).wf = true → ∃ k, laws_FnExactDerives.f k l0_0 l1 a2 = some true
end Go.Proofs.Ytdgahpigcaejbaa.Stm
