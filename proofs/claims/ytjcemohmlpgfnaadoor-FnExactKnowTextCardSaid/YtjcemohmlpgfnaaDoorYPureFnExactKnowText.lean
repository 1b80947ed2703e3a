/- KnowText of the program answers what the reference's answers, and leaves its arguments as they were. No conditions. -/
import Derived.Test.YtjcemohmlpgfnaaDoorYLibTexts
import Derived.Test.YtjcemohmlpgfnaaDoorYLibInts
import Derived.Test.YtjcemohmlpgfnaaDoorYKg3
import Derived.Test.YtjcemohmlpgfnaaDoorYStmFnExactKnowText
set_option linter.unusedVariables false
set_option linter.unusedSimpArgs false
namespace Go.Proofs.YtjcemohmlpgfnaaDoor.Pure
open Go.RowKit Go.Proofs.YtjcemohmlpgfnaaDoor.K Go.Proofs.YtjcemohmlpgfnaaDoor.Lib Go.Proofs.YtjcemohmlpgfnaaDoorW.PrintWords Go.Proofs.YtjcemohmlpgfnaaDoorW.PrintLast

theorem FnExactKnowText : Stm.FnExactKnowText := by
  intro l t hm _ _ _
  refine ev_rounds ?_
  unfold laws_FnExactKnowText.f
  by_cases hb : (t.length : Int) > 1048576
  · exact ev_if_pos hb (ev_some _)
  · refine ev_if_neg hb (szPool_ev hm fun hl => ?_)
    have hc := toPool_ev l hl
    have hi := toIntS_ev t (by omega)
    have hlen : (cp l).length ≤ 9223372036854775806 := by rw [cp_length]; omega
    obtain ⟨s, h1, h2⟩ := knowText_both (cp l) t hlen (by omega)
    refine ev_bind hc (ev_bind hi (ev_bind h1 (ev_bind hc (ev_bind hi (ev_bind h2 (ev_if_pos rfl ?_))))))
    exact ev_bind hc (ev_bind (eqPool_refl (cp l) hlen) (ev_if_pos rfl (ev_bind hi (ev_bind (eqIntS_ev t t (by omega)) (ev_if_pos (by simp) (ev_some _))))))

end Go.Proofs.YtjcemohmlpgfnaaDoor.Pure
