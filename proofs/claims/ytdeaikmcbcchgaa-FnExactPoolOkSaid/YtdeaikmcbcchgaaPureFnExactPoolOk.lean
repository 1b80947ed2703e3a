/- PoolOk of the program answers what the reference's answers, and leaves its pool as it was. No conditions. -/
import Derived.Test.YtdeaikmcbcchgaaLibPool
import Derived.Test.YtdeaikmcbcchgaaQ17
import Derived.Test.YtdeaikmcbcchgaaStmFnExactPoolOk
set_option linter.unusedVariables false
set_option linter.unusedSimpArgs false
namespace Go.Proofs.Ytdeaikmcbcchgaa.Pure
open Go.RowKit Go.Proofs.Ytdeaikmcbcchgaa.Q Go.Proofs.Ytdeaikmcbcchgaa.Lib Go.Proofs.YtdeaikmcbcchgaaW.PrintWords Go.Proofs.YtdeaikmcbcchgaaW.PrintLast

theorem FnExactPoolOk : Stm.FnExactPoolOk := by
  intro l hm _
  refine ev_rounds ?_
  unfold laws_FnExactPoolOk.f
  refine szPool_ev hm fun hl => ?_
  have hc := toPool_ev l hl
  have hlen : (cp l).length ≤ 9223372036854775806 := by rw [cp_length]; omega
  refine ev_bind hc (ev_bind (specPoolOk_ev (cp l) hlen) (ev_bind hc (ev_bind (implPoolOk_ev (cp l)) (ev_if_neg (by simp) (ev_bind hc (ev_bind (eqPool_refl (cp l) hlen) (ev_if_pos rfl (ev_some _))))))))

end Go.Proofs.Ytdeaikmcbcchgaa.Pure
