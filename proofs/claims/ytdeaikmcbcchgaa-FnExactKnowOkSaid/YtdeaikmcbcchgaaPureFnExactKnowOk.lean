/- KnowOk of the program answers what the reference's answers, and leaves its arguments as they were. No conditions. -/
import Derived.Test.YtdeaikmcbcchgaaLibKnow
import Derived.Test.YtdeaikmcbcchgaaLibInts
import Derived.Test.YtdeaikmcbcchgaaQ21
import Derived.Test.YtdeaikmcbcchgaaStmFnExactKnowOk
set_option linter.unusedVariables false
set_option linter.unusedSimpArgs false
namespace Go.Proofs.Ytdeaikmcbcchgaa.Pure
open Go.RowKit Go.Proofs.Ytdeaikmcbcchgaa.Q Go.Proofs.Ytdeaikmcbcchgaa.Lib Go.Proofs.YtdeaikmcbcchgaaW.PrintWords Go.Proofs.YtdeaikmcbcchgaaW.PrintLast

theorem FnExactKnowOk : Stm.FnExactKnowOk := by
  intro l t hm _ _ _
  refine ev_rounds ?_
  unfold laws_FnExactKnowOk.f
  by_cases hb : (t.length : Int) > 1048576
  · exact ev_if_pos hb (ev_some _)
  · refine ev_if_neg hb (szPool_ev hm fun hl => ?_)
    have hc := toPool_ev l hl
    have hi := toIntS_ev t (by omega)
    have hlen : (cp l).length ≤ 9223372036854775806 := by rw [cp_length]; omega
    refine ev_bind hc (ev_bind hi (ev_bind (specKnowOk_ev _ _ hlen (by omega)) (ev_bind hc (ev_bind hi (ev_bind (implKnowOk_ev _ _ hlen (by omega)) ?_)))))
    refine ev_if_neg (by simp) (ev_bind hc (ev_bind (eqPool_refl (cp l) hlen) (ev_if_pos rfl (ev_bind hi (ev_bind (eqIntS_ev t t (by omega)) (ev_if_pos (by simp) (ev_some _)))))))

end Go.Proofs.Ytdeaikmcbcchgaa.Pure
