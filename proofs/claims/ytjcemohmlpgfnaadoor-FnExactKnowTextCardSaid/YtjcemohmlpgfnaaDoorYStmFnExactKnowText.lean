/- The plain statement of the law FnExactKnowText, over the printed function. -/
import Derived.Test.YtjcemohmlpgfnaaDoorYKg3
import Derived.Test.YtjcemohmlpgfnaaDoorYRowK
set_option linter.unusedVariables false
namespace Go.Proofs.YtjcemohmlpgfnaaDoor.Stm
open Go.RowKit Go.Proofs.YtjcemohmlpgfnaaDoor.K
def FnExactKnowText : Prop := ∀ (l0_0 : List S53) (l1 : List Int), l0_0.length ≤ maxLen → (∀ x ∈ l0_0, RowK.wf53 x) → l1.length ≤ maxLen → (∀ x ∈ l1, (Lit.int .i64 x).wf = true) → ∃ k, laws_FnExactKnowText.f k l0_0 l1 = some true
end Go.Proofs.YtjcemohmlpgfnaaDoor.Stm
