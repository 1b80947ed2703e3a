/- TermMove of the program answers what the reference's answers, leaves its pools as they were, and answers alike when its first answer is written over. No conditions. -/
import Derived.Test.YtobkledmbnacjaaZMLibDeepA
import Derived.Test.YtobkledmbnacjaaZMLibMarks
import Derived.Test.YtobkledmbnacjaaZMLibMove
import Derived.Test.YtobkledmbnacjaaZMMVg5
import Derived.Test.YtobkledmbnacjaaZMStmFnExactTermMove
set_option linter.unusedVariables false
set_option linter.unusedSimpArgs false
namespace Go.Proofs.Ytobkledmbnacjaa.Pure
open Go.RowKit Go.Proofs.Ytobkledmbnacjaa.MV Go.Proofs.Ytobkledmbnacjaa.Lib Go.Proofs.YtobkledmbnacjaaW.PrintWords Go.Proofs.YtobkledmbnacjaaW.PrintLast

theorem FnExactTermMove : Stm.FnExactTermMove := by
  intro l t m hml _ _ hmm _
  refine ev_rounds ?_
  unfold laws_FnExactTermMove.f
  refine szPool_ev hml fun hl => ?_
  refine szPool_more hmm _ (by omega) (by omega) fun hm => ?_
  have hc := toPool_ev l hl
  have hd := toPool_ev m hm
  have hlen : (cp l).length ≤ 9223372036854775806 := by rw [cp_length]; omega
  have hlem : (cp m).length ≤ 9223372036854775806 := by rw [cp_length]; omega
  obtain ⟨ys, hy⟩ := markPool_ev (cp l) (by rw [cp_length]; omega)
  obtain ⟨zs, hz⟩ := markPool_from (cp m) (by rw [cp_length]; omega) (3 * ((cp l).length : Int) + 1) (by omega) (by rw [cp_length]; omega)
  have hsp := specMove_ev (cp l) t (cp m) (by rw [cp_length]; omega) (by rw [cp_length]; omega)
  have him := implMove_ev (cp l) t (cp m) (by rw [cp_length]; omega) (by rw [cp_length]; omega)
  have hv : (moveL (cp l) t (cp m)).1.length ≤ 500 := moveL_len _ _ _
  have hcl := cp_length l
  have hcm := cp_length m
  generalize moveL (cp l) t (cp m) = v at hsp him hv
  have he := eqPool_refl v.1 (by omega)
  have he0 := eqPool_refl (cp l) hlen
  have he1 := eqPool_refl (cp m) hlem
  have hmk := markPoolT_ev v.1 (by omega)
  have hh := heldPoolT_ev v.1.length (by omega)
  refine ev_bind hc (ev_bind hd (ev_bind hsp (ev_bind hc (ev_bind hd (ev_bind him (ev_bind he (ev_if_pos rfl ?_)))))))
  refine Ev.step (fun k => by rw [laws_FnExactTermMove.j0]) ?_
  refine ev_if_neg (by simp) (ev_bind hc (ev_bind he0 (ev_if_pos rfl (ev_bind hd (ev_bind he1 (ev_if_pos rfl (ev_bind hy (ev_bind hz (ev_if_neg (by show ¬ (3 * ((cp m).length : Int) + (3 * ((cp l).length : Int) + 1) < 0); omega) (ev_bind he (ev_if_pos rfl ?_)))))))))))
  refine Ev.step (fun k => by rw [laws_FnExactTermMove.j1]) ?_
  refine ev_if_neg (by simp) (ev_bind hmk (ev_bind hh (ev_if_neg (by omega) (ev_if_pos rfl (ev_bind hc (ev_bind hd (ev_bind him (ev_bind he (ev_if_pos rfl ?_)))))))))
  refine Ev.step (fun k => by rw [laws_FnExactTermMove.j2]) ?_
  exact ev_if_neg (by simp) (ev_bind hh (ev_if_neg (by omega) (ev_if_pos rfl (ev_some _))))

end Go.Proofs.Ytobkledmbnacjaa.Pure
