/- KnowHas of the program answers what the reference's answers, and leaves its list as it was. No conditions. -/
import Derived.Test.YtdeaikmcbcchgaaLibInts
set_option linter.unusedVariables false
set_option linter.unusedSimpArgs false
namespace Go.Proofs.Ytdeaikmcbcchgaa.Pure
open Go.RowKit Go.Proofs.Ytdeaikmcbcchgaa.Q Go.Proofs.Ytdeaikmcbcchgaa.Lib Go.Proofs.YtdeaikmcbcchgaaW.PrintWords Go.Proofs.YtdeaikmcbcchgaaW.PrintLast

theorem FnExactKnowHas : laws_FnExactKnowHas.Pure := by
  intro l a hm _ _ _
  refine ev_rounds ?_
  unfold laws_FnExactKnowHas.f
  by_cases hb : (l.length : Int) > 1048576
  · exact ev_if_pos hb (ev_some _)
  · have hl : l.length ≤ 1048576 := by omega
    refine ev_if_neg hb ?_
    refine ev_bind (toIntS_ev l (by omega)) (ev_bind (specKnowHas_ev l a (by omega)) (ev_bind (toIntS_ev l (by omega)) (ev_bind (implKnowHas_ev l a (by omega)) ?_)))
    refine ev_if_neg (by simp) ?_
    refine ev_bind (toIntS_ev l (by omega)) (ev_bind (eqIntS_ev l l (by omega)) ?_)
    exact ev_if_pos (by simp) (ev_some _)

end Go.Proofs.Ytdeaikmcbcchgaa.Pure
