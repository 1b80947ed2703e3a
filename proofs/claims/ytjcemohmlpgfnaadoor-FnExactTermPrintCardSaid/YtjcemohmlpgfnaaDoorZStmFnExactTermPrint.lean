/- The plain statement of the law FnExactTermPrint, over the printed function. -/
import Derived.Test.YtjcemohmlpgfnaaDoorZTg2
import Derived.Test.YtjcemohmlpgfnaaDoorZRowK
set_option linter.unusedVariables false
namespace Go.Proofs.YtjcemohmlpgfnaaDoor.Stm
open Go.RowKit Go.Proofs.YtjcemohmlpgfnaaDoor.T
def FnExactTermPrint : Prop := ∀ (l0_0 : List S53) (a1 : Int), l0_0.length ≤ maxLen → (∀ x ∈ l0_0, RowK.wf53 x) → (Lit.int .i64 a1).wf = true → ∃ k, laws_FnExactTermPrint.f k l0_0 a1 = some true
end Go.Proofs.YtjcemohmlpgfnaaDoor.Stm
