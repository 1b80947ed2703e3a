/- SharedKey of the program answers what the reference's answers, at every two numbers. No conditions. -/
import Derived.Test.YtdeaikmcbcchgaaLibKeys
set_option linter.unusedVariables false
set_option linter.unusedSimpArgs false
namespace Go.Proofs.Ytdeaikmcbcchgaa.Pure
open Go.RowKit Go.Proofs.Ytdeaikmcbcchgaa.Q Go.Proofs.Ytdeaikmcbcchgaa.Lib Go.Proofs.YtdeaikmcbcchgaaW.PrintWords Go.Proofs.YtdeaikmcbcchgaaW.PrintLast

theorem FnExactSharedKey : laws_FnExactSharedKey.Pure := by
  intro a b _ _
  refine ev_rounds ?_
  unfold laws_FnExactSharedKey.f
  refine ev_bind (specShared_ev a b) (ev_bind_const (implShared_eq a b) ?_)
  exact ev_if_pos rfl (ev_some _)

end Go.Proofs.Ytdeaikmcbcchgaa.Pure
