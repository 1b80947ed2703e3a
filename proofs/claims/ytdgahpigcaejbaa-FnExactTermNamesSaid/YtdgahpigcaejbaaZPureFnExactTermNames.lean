/- impl_TermNames of the program answers what the reference's answers, leaves its pool as it was, and answers alike when its first answer is written over. No conditions. -/
import Derived.Test.YtdgahpigcaejbaaZLibBelow
import Derived.Test.YtdgahpigcaejbaaZLibInts
import Derived.Test.YtdgahpigcaejbaaZLibMarks
import Derived.Test.YtdgahpigcaejbaaZAg3
import Derived.Test.YtdgahpigcaejbaaZAg5
import Derived.Test.YtdgahpigcaejbaaZAg6
import Derived.Test.YtdgahpigcaejbaaZLibNames
import Derived.Test.YtdgahpigcaejbaaZStmFnExactTermNames
set_option linter.unusedVariables false
set_option linter.unusedSimpArgs false
namespace Go.Proofs.Ytdgahpigcaejbaa.Lib
open Go.RowKit Go.Proofs.Ytdgahpigcaejbaa.A Go.Proofs.YtdgahpigcaejbaaW.PrintWords Go.Proofs.YtdgahpigcaejbaaW.PrintLast
end Go.Proofs.Ytdgahpigcaejbaa.Lib
namespace Go.Proofs.Ytdgahpigcaejbaa.Pure
open Go.RowKit Go.Proofs.Ytdgahpigcaejbaa.A Go.Proofs.Ytdgahpigcaejbaa.Lib Go.Proofs.YtdgahpigcaejbaaW.PrintWords Go.Proofs.YtdgahpigcaejbaaW.PrintLast

theorem FnExactTermNames : Stm.FnExactTermNames := by
  intro l a hm _ _
  refine ev_rounds ?_
  unfold laws_FnExactTermNames.f
  refine szPool_ev hm fun hl => ?_
  have hc := toPool_ev l hl
  have hlen : (cp l).length ≤ 9223372036854775806 := by rw [cp_length]; omega
  obtain ⟨ys, hy⟩ := markPool_ev (cp l) (by rw [cp_length]; omega)
  have hsp := specNames_ev (cp l) a hlen
  have him := implNames_ev (cp l) a hlen
  have hv : (namesOf (cp l) a).length ≤ 1048576 := by
    have := namesOf_len (cp l) a
    omega
  have hcl := cp_length l
  generalize namesOf (cp l) a = v at hsp him hv
  have he := eqIntS_ev v v (by omega)
  have hmk := markIntS_ev v (by omega)
  have hh := heldIntS_ev v.length (by omega)
  refine ev_bind hc (ev_bind hsp (ev_bind hc (ev_bind him (ev_bind he (ev_if_pos (by simp) (ev_bind hc (ev_bind (eqPool_refl (cp l) hlen) (ev_if_pos rfl (ev_bind hy (ev_if_neg (by show ¬ (3 * ((cp l).length : Int) + 1 < 0); omega) (ev_bind he ?_)))))))))))
  refine Ev.step (f := fun k => (laws_markIntS.f k v 1).bind fun bt => (laws_heldIntS.f k bt.2 1).bind fun t => if t < 0 then some false else if t = bt.1 then ((laws_toPool.f k l).bind fun t1 => (impl_TermNames.f k t1 a).bind fun t2 => (laws_eqIntS.f k t2 v).bind fun t3 => if t3 = true then ((laws_heldIntS.f k bt.2 1).bind fun t4 => if t4 < 0 then some false else if t4 = bt.1 then some true else some false) else some false) else some false) (fun k => ?_) ?_
  · simp [laws_FnExactTermNames.j0]
  · exact ev_bind hmk (ev_bind hh (ev_if_neg (by omega) (ev_if_pos rfl (ev_bind hc (ev_bind him (ev_bind he (ev_if_pos (by simp) (ev_bind hh (ev_if_neg (by omega) (ev_if_pos rfl (ev_some _)))))))))))

end Go.Proofs.Ytdgahpigcaejbaa.Pure
