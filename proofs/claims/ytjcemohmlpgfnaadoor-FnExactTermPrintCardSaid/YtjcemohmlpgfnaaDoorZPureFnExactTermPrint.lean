/- TermPrint of the program answers what the reference's answers, and leaves its pool as it was. No conditions. -/
import Derived.Test.YtjcemohmlpgfnaaDoorZLibPrint
import Derived.Test.YtjcemohmlpgfnaaDoorZTg2
import Derived.Test.YtjcemohmlpgfnaaDoorZStmFnExactTermPrint
set_option linter.unusedVariables false
set_option linter.unusedSimpArgs false
namespace Go.Proofs.YtjcemohmlpgfnaaDoor.Pure
open Go.RowKit Go.Proofs.YtjcemohmlpgfnaaDoor.T Go.Proofs.YtjcemohmlpgfnaaDoor.Lib Go.Proofs.YtjcemohmlpgfnaaDoorW.PrintWords Go.Proofs.YtjcemohmlpgfnaaDoorW.PrintLast

theorem FnExactTermPrint : Stm.FnExactTermPrint := by
  intro l t hm _ _
  refine ev_rounds ?_
  unfold laws_FnExactTermPrint.f
  refine szPool_ev hm fun hl => ?_
  have hc := toPool_ev l hl
  have he := eqPool_refl (cp l) (by rw [cp_length]; omega)
  obtain ⟨s, _, h1, h2⟩ := termPrint_both (cp l) t (by rw [cp_length]; omega)
  exact ev_bind hc (ev_bind h1 (ev_bind hc (ev_bind h2 (ev_if_pos rfl (ev_bind hc (ev_bind he (ev_if_pos rfl (ev_some _))))))))

end Go.Proofs.YtjcemohmlpgfnaaDoor.Pure
