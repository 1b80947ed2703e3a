/- KnowPut of the program answers what the reference's answers, leaves its arguments as they were, and answers alike when its first answer is written over. No conditions. -/
import Derived.Test.YtilnfdnigjblcaaZLibPutK
import Derived.Test.YtilnfdnigjblcaaZLibMarks
import Derived.Test.YtilnfdnigjblcaaZLibBools
import Derived.Test.YtilnfdnigjblcaaZKg5
import Derived.Test.YtilnfdnigjblcaaZKg7
import Derived.Test.YtilnfdnigjblcaaZStmFnExactKnowPut
set_option linter.unusedVariables false
set_option linter.unusedSimpArgs false
namespace Go.Proofs.Ytilnfdnigjblcaa.Pure
open Go.RowKit Go.Proofs.Ytilnfdnigjblcaa.K Go.Proofs.Ytilnfdnigjblcaa.Lib Go.Proofs.YtilnfdnigjblcaaW.PrintWords Go.Proofs.YtilnfdnigjblcaaW.PrintLast

theorem FnExactKnowPut : Stm.FnExactKnowPut := by
  intro l t a hm _ hmt _ _
  refine ev_rounds ?_
  unfold laws_FnExactKnowPut.f
  by_cases hbig : (t.length : Int) > 1048576
  · exact ev_if_pos hbig (ev_some _)
  refine ev_if_neg hbig (szPool_ev hm fun hl => ?_)
  have hc := toPool_ev l hl
  have hcl := cp_length l
  have htI := toIntS_ev t (by omega)
  have hsp := specKnowPut_ev (cp l) t a (by omega) (by omega)
  have him := implKnowPut_ev (cp l) t a (by omega) (by omega)
  have hv : (kputL (cp l) t a).1.length ≤ t.length + 1 := kputL_len _ _ _
  generalize (kputL (cp l) t a) = vb at hsp him hv
  obtain ⟨v, b⟩ := vb
  simp only at hv
  have heI := eqIntS_ev t t (by omega)
  have he : Ev (fun k => laws_eqIntS.f k v v) true := by simpa using eqIntS_ev v v (by omega)
  have hmk := markIntS_ev v (by omega)
  have hh := heldIntS_ev v.length (by omega)
  obtain ⟨ys, hy⟩ := markPool_ev (cp l) (by omega)
  obtain ⟨zs, hz⟩ := markAny_ev t (by omega) (3 * ((cp l).length : Int) + 1) (by omega) (by omega)
  refine ev_bind hc (ev_bind htI (ev_bind hsp (ev_bind hc (ev_bind htI (ev_bind him (ev_bind he (ev_if_pos rfl ?_)))))))
  refine Ev.step (fun k => by rw [laws_FnExactKnowPut.j0]) ?_
  refine ev_if_neg (by simp) (ev_bind hc (ev_bind (eqPool_refl (cp l) (by omega)) (ev_if_pos rfl (ev_bind htI (ev_bind heI (ev_if_pos (by simp) (ev_bind hy (ev_bind hz (ev_if_neg (by show ¬ (3 * ((cp l).length : Int) + 1 + t.length < 0); omega) (ev_bind he (ev_if_pos rfl ?_)))))))))))
  refine Ev.step (fun k => by rw [laws_FnExactKnowPut.j1]) ?_
  refine ev_if_neg (by simp) (ev_bind hmk (ev_bind hh (ev_if_neg (by omega) (ev_if_pos rfl (ev_bind hc (ev_bind htI (ev_bind him (ev_bind he (ev_if_pos rfl ?_)))))))))
  refine Ev.step (fun k => by rw [laws_FnExactKnowPut.j2]) ?_
  exact ev_if_neg (by simp) (ev_bind hh (ev_if_neg (by omega) (ev_if_pos rfl (ev_some _))))

end Go.Proofs.Ytilnfdnigjblcaa.Pure
