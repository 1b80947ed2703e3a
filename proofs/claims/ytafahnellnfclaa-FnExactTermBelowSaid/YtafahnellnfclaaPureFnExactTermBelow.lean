/- impl_TermBelow of the program answers what the reference's answers, leaves its pool as it was, and answers alike when its first answer is written over. No conditions. -/
import Derived.Test.YtafahnellnfclaaLibBelow
import Derived.Test.YtafahnellnfclaaLibInts
import Derived.Test.YtafahnellnfclaaLibMarks
import Derived.Test.YtafahnellnfclaaQ2
import Derived.Test.YtafahnellnfclaaQ15
import Derived.Test.YtafahnellnfclaaQ16
import Derived.Test.YtafahnellnfclaaQ27
import Derived.Test.YtafahnellnfclaaQ30
import Derived.Test.YtafahnellnfclaaStmFnExactTermBelow
set_option linter.unusedVariables false
set_option linter.unusedSimpArgs false
namespace Go.Proofs.Ytafahnellnfclaa.Lib
open Go.RowKit Go.Proofs.Ytafahnellnfclaa.Q Go.Proofs.YtafahnellnfclaaW.PrintWords Go.Proofs.YtafahnellnfclaaW.PrintLast
theorem belowOf_len (l : List Nd) (a : Int) : (belowOf l a).length ≤ l.length := by
  unfold belowOf belowL
  split
  · rw [List.length_map]
    exact Nat.le_trans (List.length_filter_le _ _) (by simp)
  · simp
end Go.Proofs.Ytafahnellnfclaa.Lib
namespace Go.Proofs.Ytafahnellnfclaa.Pure
open Go.RowKit Go.Proofs.Ytafahnellnfclaa.Q Go.Proofs.Ytafahnellnfclaa.Lib Go.Proofs.YtafahnellnfclaaW.PrintWords Go.Proofs.YtafahnellnfclaaW.PrintLast

theorem FnExactTermBelow : Stm.FnExactTermBelow := by
  intro l a hm _ _
  refine ev_rounds ?_
  unfold laws_FnExactTermBelow.f
  refine szPool_ev hm fun hl => ?_
  have hc := toPool_ev l hl
  have hlen : (cp l).length ≤ 9223372036854775806 := by rw [cp_length]; omega
  obtain ⟨ys, hy⟩ := markPool_ev (cp l) (by rw [cp_length]; omega)
  have hsp := specBelow_ev (cp l) a hlen
  have him := implBelow_ev (cp l) a hlen
  have hv : (belowOf (cp l) a).length ≤ 1048576 := by
    have := belowOf_len (cp l) a
    rw [cp_length] at this
    omega
  have hcl := cp_length l
  generalize belowOf (cp l) a = v at hsp him hv
  have he := eqIntS_ev v v (by omega)
  have hmk := markIntS_ev v (by omega)
  have hh := heldIntS_ev v.length (by omega)
  refine ev_bind hc (ev_bind hsp (ev_bind hc (ev_bind him (ev_bind he (ev_if_pos (by simp) (ev_bind hc (ev_bind (eqPool_refl (cp l) hlen) (ev_if_pos rfl (ev_bind hy (ev_if_neg (by show ¬ (3 * ((cp l).length : Int) + 1 < 0); omega) (ev_bind he ?_)))))))))))
  refine Ev.step (f := fun k => (laws_markIntS.f k v 1).bind fun bt => (laws_heldIntS.f k bt.2 1).bind fun t => if t < 0 then some false else if t = bt.1 then ((laws_toPool.f k l).bind fun t1 => (impl_TermBelow.f k t1 a).bind fun t2 => (laws_eqIntS.f k t2 v).bind fun t3 => if t3 = true then ((laws_heldIntS.f k bt.2 1).bind fun t4 => if t4 < 0 then some false else if t4 = bt.1 then some true else some false) else some false) else some false) (fun k => ?_) ?_
  · simp [laws_FnExactTermBelow.j0]
  · exact ev_bind hmk (ev_bind hh (ev_if_neg (by omega) (ev_if_pos rfl (ev_bind hc (ev_bind him (ev_bind he (ev_if_pos (by simp) (ev_bind hh (ev_if_neg (by omega) (ev_if_pos rfl (ev_some _)))))))))))

end Go.Proofs.Ytafahnellnfclaa.Pure
