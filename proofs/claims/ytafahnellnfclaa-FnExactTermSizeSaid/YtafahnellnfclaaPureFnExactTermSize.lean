/- TermSize of the program answers what the reference's answers, and leaves its pool as it was. No conditions. -/
import Derived.Test.YtafahnellnfclaaLibSize
import Derived.Test.YtafahnellnfclaaQ22
import Derived.Test.YtafahnellnfclaaStmFnExactTermSize
set_option linter.unusedVariables false
set_option linter.unusedSimpArgs false
namespace Go.Proofs.Ytafahnellnfclaa.Pure
open Go.RowKit Go.Proofs.Ytafahnellnfclaa.Q Go.Proofs.Ytafahnellnfclaa.Lib Go.Proofs.YtafahnellnfclaaW.PrintWords Go.Proofs.YtafahnellnfclaaW.PrintLast

theorem FnExactTermSize : Stm.FnExactTermSize := by
  intro l a hm _ _
  refine ev_rounds ?_
  unfold laws_FnExactTermSize.f
  refine szPool_ev hm fun hl => ?_
  have hc := toPool_ev l hl
  have hlen : (cp l).length ≤ 9223372036854775806 := by rw [cp_length]; omega
  exact ev_bind hc (ev_bind (specSize_ev (cp l) a hlen) (ev_bind hc (ev_bind (implSize_ev (cp l) a hlen) (ev_if_pos rfl (ev_bind hc (ev_bind (eqPool_refl (cp l) hlen) (ev_if_pos rfl (ev_some _))))))))

end Go.Proofs.Ytafahnellnfclaa.Pure
