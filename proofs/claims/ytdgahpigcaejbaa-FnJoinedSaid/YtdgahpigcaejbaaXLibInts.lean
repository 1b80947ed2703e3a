/- What the laws' own functions over lists of whole numbers come to: a copy is the list, a comparison tells whether two lists are one, a search finds what is there. No conditions but lengths. -/
import Derived.Test.YtdgahpigcaejbaaXDg1
import Derived.Test.YtdgahpigcaejbaaXDg4
import Derived.Test.YtdgahpigcaejbaaXLibA
set_option linter.unusedVariables false
set_option linter.unusedSimpArgs false
namespace Go.Proofs.Ytdgahpigcaejbaa.Lib
open Go.RowKit Go.Proofs.Ytdgahpigcaejbaa.D Go.Proofs.YtdgahpigcaejbaaW.PrintWords Go.Proofs.YtdgahpigcaejbaaW.PrintLast

theorem specKnowHas_loop (l : List Int) (a : Int) (hl : l.length ≤ 9223372036854775806) : ∀ (n i : Nat), l.length - i = n → i ≤ l.length →
    Ev (fun k => spec_KnowHas.l0 k l a i) (decide (a ∈ l.drop i))
  | 0, i, hn, hi => by
    have e : i = l.length := by omega
    subst e
    refine Ev.step (f := fun k => some false) (fun k => ?_) (ev_some_of (by rw [List.drop_length]; simp))
    simp only [spec_KnowHas.l0]
    rw [if_neg (by omega)]
  | n + 1, i, hn, hi => by
    have hlt : i < l.length := by omega
    by_cases e : l[i] = a
    · refine Ev.step (f := fun k => some true) (fun k => ?_) (ev_some_of ?_)
      · simp only [spec_KnowHas.l0]
        rw [if_pos (by omega), if_pos (by omega), rd_nat l i hlt, if_pos e]
      · rw [List.drop_eq_getElem_cons hlt, e]
        simp
    · refine Ev.step (f := fun k => spec_KnowHas.l0 k l a (i + 1 : Nat)) (fun k => ?_) ?_
      · simp only [spec_KnowHas.l0]
        rw [if_pos (by omega), if_pos (by omega), rd_nat l i hlt, if_neg e, wrap_succ (by omega)]
      · have := specKnowHas_loop l a hl n (i + 1) (by omega) (by omega)
        rw [List.drop_eq_getElem_cons hlt]
        have e' : ¬ a = l[i] := fun x => e x.symm
        simpa [-List.getElem_cons_drop, e'] using this
theorem specKnowHas_ev (l : List Int) (a : Int) (hl : l.length ≤ 9223372036854775806) : Ev (fun k => spec_KnowHas.f k l a) (decide (a ∈ l)) := by
  unfold spec_KnowHas.f
  simpa using specKnowHas_loop l a hl l.length 0 (by omega) (by omega)

end Go.Proofs.Ytdgahpigcaejbaa.Lib
