/- impl_MakeSign of the program answers what the reference's answers, leaves its pool as it was, and answers alike when its first answer is written over. No conditions. -/
import Derived.Test.YtpgaifjneedjoaaLibDeepA
import Derived.Test.YtpgaifjneedjoaaLibMarks
import Derived.Test.YtpgaifjneedjoaaLibPut
import Derived.Test.YtpgaifjneedjoaaB23
import Derived.Test.YtpgaifjneedjoaaB24
import Derived.Test.YtpgaifjneedjoaaStmFnExactMakeSign
set_option linter.unusedVariables false
set_option linter.unusedSimpArgs false
namespace Go.Proofs.Ytpgaifjneedjoaa.Pure
open Go.RowKit Go.Proofs.Ytpgaifjneedjoaa.B Go.Proofs.Ytpgaifjneedjoaa.Lib Go.Proofs.YtpgaifjneedjoaaW.PrintWords Go.Proofs.YtpgaifjneedjoaaW.PrintLast

theorem FnExactMakeSign : Stm.FnExactMakeSign := by
  intro l a b hm _ _ _
  refine ev_rounds ?_
  unfold laws_FnExactMakeSign.f
  refine szPool_ev hm fun hl => ?_
  have hc := toPool_ev l hl
  have hlen : (cp l).length ≤ 9223372036854775806 := by rw [cp_length]; omega
  obtain ⟨ys, hy⟩ := markPool_ev (cp l) (by rw [cp_length]; omega)
  have hsp : Ev (fun k => spec_MakeSign.f k (cp l) a b) (poolAddL (cp l) ⟨4, a, b⟩) := by
    unfold spec_MakeSign.f
    exact ev_bind (specPoolAdd_ev (cp l) 4 a b (by rw [cp_length]; omega)) (ev_some _)
  have him : Ev (fun k => impl_MakeSign.f k (cp l) a b) (poolAddL (cp l) ⟨4, a, b⟩) := by
    unfold impl_MakeSign.f
    exact ev_bind (implPoolAdd_ev (cp l) 4 a b) (ev_some _)
  have hv : (poolAddL (cp l) ⟨4, a, b⟩).1.length ≤ 500 := poolAddL_len _ _
  have hcl := cp_length l
  generalize poolAddL (cp l) ⟨4, a, b⟩ = v at hsp him hv
  have he := eqPool_refl v.1 (by omega)
  have he0 := eqPool_refl (cp l) hlen
  have hmk := markPoolT_ev v.1 (by omega)
  have hh := heldPoolT_ev v.1.length (by omega)
  refine ev_bind hc (ev_bind hsp (ev_bind hc (ev_bind him (ev_bind he (ev_if_pos rfl ?_)))))
  refine Ev.step (fun k => by rw [laws_FnExactMakeSign.j0]) ?_
  refine ev_if_neg (by simp) (ev_bind hc (ev_bind he0 (ev_if_pos rfl (ev_bind hy (ev_if_neg (by show ¬ (3 * ((cp l).length : Int) + 1 < 0); omega) (ev_bind he (ev_if_pos rfl ?_)))))))
  refine Ev.step (fun k => by rw [laws_FnExactMakeSign.j1]) ?_
  refine ev_if_neg (by simp) (ev_bind hmk (ev_bind hh (ev_if_neg (by omega) (ev_if_pos rfl (ev_bind hc (ev_bind him (ev_bind he (ev_if_pos rfl ?_))))))))
  refine Ev.step (fun k => by rw [laws_FnExactMakeSign.j2]) ?_
  exact ev_if_neg (by simp) (ev_bind hh (ev_if_neg (by omega) (ev_if_pos rfl (ev_some _))))

end Go.Proofs.Ytpgaifjneedjoaa.Pure
