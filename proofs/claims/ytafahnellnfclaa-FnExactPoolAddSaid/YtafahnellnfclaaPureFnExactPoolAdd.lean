/- impl_PoolAdd of the program answers what the reference's answers, leaves its pool as it was, and answers alike when its first answer is written over. No conditions. -/
import Derived.Test.YtafahnellnfclaaLibDeepA
import Derived.Test.YtafahnellnfclaaLibMarks
import Derived.Test.YtafahnellnfclaaLibPut
import Derived.Test.YtafahnellnfclaaB4
import Derived.Test.YtafahnellnfclaaB5
import Derived.Test.YtafahnellnfclaaB9
import Derived.Test.YtafahnellnfclaaB11
import Derived.Test.YtafahnellnfclaaStmFnExactPoolAdd
set_option linter.unusedVariables false
set_option linter.unusedSimpArgs false
namespace Go.Proofs.Ytafahnellnfclaa.Pure
open Go.RowKit Go.Proofs.Ytafahnellnfclaa.B Go.Proofs.Ytafahnellnfclaa.Lib Go.Proofs.YtafahnellnfclaaW.PrintWords Go.Proofs.YtafahnellnfclaaW.PrintLast

theorem FnExactPoolAdd : Stm.FnExactPoolAdd := by
  intro l a b c hm _ _ _ _
  refine ev_rounds ?_
  unfold laws_FnExactPoolAdd.f
  refine szPool_ev hm fun hl => ?_
  have hc := toPool_ev l hl
  have hlen : (cp l).length ≤ 9223372036854775806 := by rw [cp_length]; omega
  obtain ⟨ys, hy⟩ := markPool_ev (cp l) (by rw [cp_length]; omega)
  have hsp : Ev (fun k => spec_PoolAdd.f k (cp l) a b c) (poolAddL (cp l) ⟨a, b, c⟩) := specPoolAdd_ev (cp l) a b c (by rw [cp_length]; omega)
  have him : Ev (fun k => impl_PoolAdd.f k (cp l) a b c) (poolAddL (cp l) ⟨a, b, c⟩) := implPoolAdd_ev (cp l) a b c
  have hv : (poolAddL (cp l) ⟨a, b, c⟩).1.length ≤ 500 := poolAddL_len _ _
  have hcl := cp_length l
  generalize poolAddL (cp l) ⟨a, b, c⟩ = v at hsp him hv
  have he := eqPool_refl v.1 (by omega)
  have he0 := eqPool_refl (cp l) hlen
  have hmk := markPoolT_ev v.1 (by omega)
  have hh := heldPoolT_ev v.1.length (by omega)
  refine ev_bind hc (ev_bind_const (show laws_toNode.f a b c = some (a, b, c) from rfl) (ev_bind hsp (ev_bind hc (ev_bind_const (show laws_toNode.f a b c = some (a, b, c) from rfl) (ev_bind him (ev_bind he (ev_if_pos rfl ?_)))))))
  refine Ev.step (fun k => by rw [laws_FnExactPoolAdd.j0]) ?_
  refine ev_if_neg (by simp) (ev_bind hc (ev_bind he0 (ev_if_pos rfl (ev_bind hy (ev_if_neg (by show ¬ (3 * ((cp l).length : Int) + 1 < 0); omega) (ev_bind he (ev_if_pos rfl ?_)))))))
  refine Ev.step (fun k => by rw [laws_FnExactPoolAdd.j1]) ?_
  refine ev_if_neg (by simp) (ev_bind hmk (ev_bind hh (ev_if_neg (by omega) (ev_if_pos rfl (ev_bind hc (ev_bind_const (show laws_toNode.f a b c = some (a, b, c) from rfl) (ev_bind him (ev_bind he (ev_if_pos rfl ?_)))))))))
  refine Ev.step (fun k => by rw [laws_FnExactPoolAdd.j2]) ?_
  exact ev_if_neg (by simp) (ev_bind hh (ev_if_neg (by omega) (ev_if_pos rfl (ev_some _))))

end Go.Proofs.Ytafahnellnfclaa.Pure
