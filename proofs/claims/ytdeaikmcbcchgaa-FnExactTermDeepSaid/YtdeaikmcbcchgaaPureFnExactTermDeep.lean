/- TermDeep of the program answers what the reference's answers, and leaves its pool as it was. No conditions. -/
import Derived.Test.YtdeaikmcbcchgaaLibDeep
import Derived.Test.YtdeaikmcbcchgaaQ26
import Derived.Test.YtdeaikmcbcchgaaStmFnExactTermDeep
set_option linter.unusedVariables false
set_option linter.unusedSimpArgs false
namespace Go.Proofs.Ytdeaikmcbcchgaa.Pure
open Go.RowKit Go.Proofs.Ytdeaikmcbcchgaa.Q Go.Proofs.Ytdeaikmcbcchgaa.Lib Go.Proofs.YtdeaikmcbcchgaaW.PrintWords Go.Proofs.YtdeaikmcbcchgaaW.PrintLast

theorem FnExactTermDeep : Stm.FnExactTermDeep := by
  intro l a hm _ _
  refine ev_rounds ?_
  unfold laws_FnExactTermDeep.f
  refine szPool_ev hm fun hl => ?_
  have hc := toPool_ev l hl
  have hlen : (cp l).length ≤ 9223372036854775806 := by rw [cp_length]; omega
  exact ev_bind hc (ev_bind (specDeep_ev (cp l) a hlen) (ev_bind hc (ev_bind (implDeep_ev (cp l) a hlen) (ev_if_pos rfl (ev_bind hc (ev_bind (eqPool_refl (cp l) hlen) (ev_if_pos rfl (ev_some _))))))))

end Go.Proofs.Ytdeaikmcbcchgaa.Pure
