/- KnowJoin of the program answers what the reference's answers, leaves its arguments as they were, and answers alike when its first answer is written over. No conditions. -/
import Derived.Test.YtdgahpigcaejbaaJPLibJoin
import Derived.Test.YtdgahpigcaejbaaJPLibMarks
import Derived.Test.YtdgahpigcaejbaaJPLibBools
import Derived.Test.YtdgahpigcaejbaaJPJg0
import Derived.Test.YtdgahpigcaejbaaJPJg4
import Derived.Test.YtdgahpigcaejbaaJPStmFnExactKnowJoin
set_option linter.unusedVariables false
set_option linter.unusedSimpArgs false
namespace Go.Proofs.Ytdgahpigcaejbaa.Pure
open Go.RowKit Go.Proofs.Ytdgahpigcaejbaa.J Go.Proofs.Ytdgahpigcaejbaa.Lib Go.Proofs.YtdgahpigcaejbaaW.PrintWords Go.Proofs.YtdgahpigcaejbaaW.PrintLast

theorem FnExactKnowJoin : Stm.FnExactKnowJoin := by
  intro l t u hm _ hmt _ hmu _
  refine ev_rounds ?_
  unfold laws_FnExactKnowJoin.f
  by_cases hbig : (t.length : Int) > 1048576
  · exact ev_if_pos hbig (ev_some _)
  refine ev_if_neg hbig ?_
  by_cases hbig2 : (u.length : Int) > 1048576
  · exact ev_if_pos hbig2 (ev_some _)
  refine ev_if_neg hbig2 (szPool_ev hm fun hl => ?_)
  have hc := toPool_ev l hl
  have hcl := cp_length l
  have htI := toIntS_ev t (by omega)
  have huI := toIntS_ev u (by omega)
  have hsp := specJoin_ev (cp l) t u (by omega) (by omega) (by omega)
  have him := implJoin_ev (cp l) t u (by omega) (by omega) (by omega)
  have hv := joinL_len (cp l) t u
  generalize (joinL (cp l) t u) = vb at hsp him hv
  obtain ⟨v, b⟩ := vb
  simp only at hv
  have heI := eqIntS_ev t t (by omega)
  have heU := eqIntS_ev u u (by omega)
  have he : Ev (fun k => laws_eqIntS.f k v v) true := by simpa using eqIntS_ev v v (by omega)
  have hmk := markIntS_ev v (by omega)
  have hh := heldIntS_ev v.length (by omega)
  obtain ⟨ys, hy⟩ := markPool_ev (cp l) (by omega)
  obtain ⟨zs, hz⟩ := markAny_ev t (by omega) (3 * ((cp l).length : Int) + 1) (by omega) (by omega)
  obtain ⟨zs2, hz2⟩ := markAny_ev u (by omega) (3 * ((cp l).length : Int) + 1 + t.length) (by omega) (by omega)
  refine ev_bind hc (ev_bind htI (ev_bind huI (ev_bind hsp (ev_bind hc (ev_bind htI (ev_bind huI (ev_bind him (ev_bind he (ev_if_pos rfl ?_)))))))))
  refine Ev.step (fun k => by rw [laws_FnExactKnowJoin.j0]) ?_
  refine ev_if_neg (by simp) (ev_bind hc (ev_bind (eqPool_refl (cp l) (by omega)) (ev_if_pos rfl (ev_bind htI (ev_bind heI (ev_if_pos (by simp) (ev_bind huI (ev_bind heU (ev_if_pos (by simp) (ev_bind hy (ev_bind hz (ev_bind hz2 (ev_if_neg (by show ¬ (3 * ((cp l).length : Int) + 1 + t.length + u.length < 0); omega) (ev_bind he (ev_if_pos rfl ?_)))))))))))))))
  refine Ev.step (fun k => by rw [laws_FnExactKnowJoin.j1]) ?_
  refine ev_if_neg (by simp) (ev_bind hmk (ev_bind hh (ev_if_neg (by omega) (ev_if_pos rfl (ev_bind hc (ev_bind htI (ev_bind huI (ev_bind him (ev_bind he (ev_if_pos rfl ?_))))))))))
  refine Ev.step (fun k => by rw [laws_FnExactKnowJoin.j2]) ?_
  exact ev_if_neg (by simp) (ev_bind hh (ev_if_neg (by omega) (ev_if_pos rfl (ev_some _))))

end Go.Proofs.Ytdgahpigcaejbaa.Pure
