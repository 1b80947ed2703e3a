/- impl_MakesAll of the program answers what the reference's answers, leaves its arguments as they were, and answers alike when its first answer is written over. No conditions. -/
import Derived.Test.YtgohebghlgamiaaZLibMakes
import Derived.Test.YtgohebghlgamiaaZLibBools
import Derived.Test.YtgohebghlgamiaaZMg9
import Derived.Test.YtgohebghlgamiaaZMg10
import Derived.Test.YtgohebghlgamiaaZStmFnExactMakesAll
set_option linter.unusedVariables false
set_option linter.unusedSimpArgs false
namespace Go.Proofs.Ytgohebghlgamiaa.Pure
open Go.RowKit Go.Proofs.Ytgohebghlgamiaa.M Go.Proofs.Ytgohebghlgamiaa.Lib Go.Proofs.YtgohebghlgamiaaW.PrintWords Go.Proofs.YtgohebghlgamiaaW.PrintLast

theorem FnExactMakesAll : Stm.FnExactMakesAll := by
  intro l t hm _ hmt _
  refine ev_rounds ?_
  unfold laws_FnExactMakesAll.f
  by_cases hbig : (t.length : Int) > 1048576
  · exact ev_if_pos hbig (ev_some _)
  refine ev_if_neg hbig (szPool_ev hm fun hl => ?_)
  have hc := toPool_ev l hl
  have hcl := cp_length l
  have htI := toIntS_ev t (by omega)
  have hsp := specMakesAll_ev (cp l) t (by omega) (by omega)
  have him := implMakesAll_ev (cp l) t (by omega) (by omega)
  have hv : (allL (cp l) t).length ≤ 500 := allL_len _ _
  generalize (allL (cp l) t) = v at hsp him hv
  have heI := eqIntS_ev t t (by omega)
  have he : Ev (fun k => laws_eqBoolS.f k v v) true := eqBool_refl v (by omega)
  have hmk := markBool_ev v (by omega)
  have hh := heldBool_ev v.length (by omega)
  obtain ⟨ys, hy⟩ := markPool_ev (cp l) (by omega)
  obtain ⟨zs, hz⟩ := markAny_ev t (by omega) (3 * ((cp l).length : Int) + 1) (by omega) (by omega)
  refine ev_bind hc (ev_bind htI (ev_bind hsp (ev_bind hc (ev_bind htI (ev_bind him (ev_bind he (ev_if_pos rfl (ev_bind hc (ev_bind (eqPool_refl (cp l) (by omega)) (ev_if_pos rfl (ev_bind htI (ev_bind heI (ev_if_pos (by simp) (ev_bind hy (ev_bind hz (ev_if_neg (by show ¬ (3 * ((cp l).length : Int) + 1 + t.length < 0); omega) (ev_bind he ?_)))))))))))))))))
  refine Ev.step (fun k => by rw [laws_FnExactMakesAll.j0]) ?_
  exact ev_if_neg (by simp) (ev_bind hmk (ev_bind hh (ev_if_neg (by omega) (ev_if_pos rfl (ev_bind hc (ev_bind htI (ev_bind him (ev_bind he (ev_if_pos rfl (ev_bind hh (ev_if_neg (by omega) (ev_if_pos rfl (ev_some _)))))))))))))

end Go.Proofs.Ytgohebghlgamiaa.Pure
