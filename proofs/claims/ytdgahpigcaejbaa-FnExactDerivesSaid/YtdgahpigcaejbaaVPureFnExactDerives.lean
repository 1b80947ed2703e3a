/- Derives of the program answers what the reference's answers and leaves its arguments as they were. No conditions. -/
import Derived.Test.YtdgahpigcaejbaaVLibOpen
import Derived.Test.YtdgahpigcaejbaaVEg4
import Derived.Test.YtdgahpigcaejbaaVStmFnExactDerives
set_option linter.unusedVariables false
set_option linter.unusedSimpArgs false
namespace Go.Proofs.Ytdgahpigcaejbaa.Pure
open Go.RowKit Go.Proofs.Ytdgahpigcaejbaa.E Go.Proofs.Ytdgahpigcaejbaa.Lib Go.Proofs.YtdgahpigcaejbaaW.PrintWords Go.Proofs.YtdgahpigcaejbaaW.PrintLast

theorem FnExactDerives : Stm.FnExactDerives := by
  intro l t a hm _ hmt _ _
  refine ev_rounds ?_
  unfold laws_FnExactDerives.f
  by_cases hbig : (t.length : Int) > 1048576
  · exact ev_if_pos hbig (ev_some _)
  refine ev_if_neg hbig (szPool_ev hm fun hl => ?_)
  have hc := toPool_ev l hl
  have hcl := cp_length l
  have htI := toIntS_ev t (by omega)
  obtain ⟨d, him, hsp⟩ := derives_ev (cp l) t a (by omega) (by omega)
  have heI := eqIntS_ev t t (by omega)
  exact ev_bind hc (ev_bind htI (ev_bind hsp (ev_bind hc (ev_bind htI (ev_bind him (ev_if_neg (by simp) (ev_bind hc (ev_bind (eqPool_refl (cp l) (by omega)) (ev_if_pos rfl (ev_bind htI (ev_bind heI (ev_if_pos (by simp) (ev_some _)))))))))))))

end Go.Proofs.Ytdgahpigcaejbaa.Pure
