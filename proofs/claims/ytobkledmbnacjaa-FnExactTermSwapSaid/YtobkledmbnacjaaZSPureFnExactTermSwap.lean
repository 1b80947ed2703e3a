/- TermSwap of the program answers what the reference's answers, leaves its pool as it was, and answers alike when its first answer is written over. No conditions. -/
import Derived.Test.YtobkledmbnacjaaZSLibDeepA
import Derived.Test.YtobkledmbnacjaaZSLibMarks
import Derived.Test.YtobkledmbnacjaaZSLibSwap
import Derived.Test.YtobkledmbnacjaaZSSWg6
import Derived.Test.YtobkledmbnacjaaZSStmFnExactTermSwap
set_option linter.unusedVariables false
set_option linter.unusedSimpArgs false
namespace Go.Proofs.Ytobkledmbnacjaa.Pure
open Go.RowKit Go.Proofs.Ytobkledmbnacjaa.SW Go.Proofs.Ytobkledmbnacjaa.Lib Go.Proofs.YtobkledmbnacjaaW.PrintWords Go.Proofs.YtobkledmbnacjaaW.PrintLast

theorem FnExactTermSwap : Stm.FnExactTermSwap := by
  intro l t a b hm _ _ _ _
  refine ev_rounds ?_
  unfold laws_FnExactTermSwap.f
  refine szPool_ev hm fun hl => ?_
  have hc := toPool_ev l hl
  have hlen : (cp l).length ≤ 9223372036854775806 := by rw [cp_length]; omega
  obtain ⟨ys, hy⟩ := markPool_ev (cp l) (by rw [cp_length]; omega)
  have hsp := specSwap_ev (cp l) t a b (by rw [cp_length]; omega)
  have him := implSwap_ev (cp l) t a b (by rw [cp_length]; omega)
  have hv : (swapL (cp l) t a b).1.length ≤ 500 := swapL_len _ _ _ _
  have hcl := cp_length l
  generalize swapL (cp l) t a b = v at hsp him hv
  have he := eqPool_refl v.1 (by omega)
  have he0 := eqPool_refl (cp l) hlen
  have hmk := markPoolT_ev v.1 (by omega)
  have hh := heldPoolT_ev v.1.length (by omega)
  refine ev_bind hc (ev_bind hsp (ev_bind hc (ev_bind him (ev_bind he (ev_if_pos rfl ?_)))))
  refine Ev.step (fun k => by rw [laws_FnExactTermSwap.j0]) ?_
  refine ev_if_neg (by simp) (ev_bind hc (ev_bind he0 (ev_if_pos rfl (ev_bind hy (ev_if_neg (by show ¬ (3 * ((cp l).length : Int) + 1 < 0); omega) (ev_bind he (ev_if_pos rfl ?_)))))))
  refine Ev.step (fun k => by rw [laws_FnExactTermSwap.j1]) ?_
  refine ev_if_neg (by simp) (ev_bind hmk (ev_bind hh (ev_if_neg (by omega) (ev_if_pos rfl (ev_bind hc (ev_bind him (ev_bind he (ev_if_pos rfl ?_))))))))
  refine Ev.step (fun k => by rw [laws_FnExactTermSwap.j2]) ?_
  exact ev_if_neg (by simp) (ev_bind hh (ev_if_neg (by omega) (ev_if_pos rfl (ev_some _))))

end Go.Proofs.Ytobkledmbnacjaa.Pure
