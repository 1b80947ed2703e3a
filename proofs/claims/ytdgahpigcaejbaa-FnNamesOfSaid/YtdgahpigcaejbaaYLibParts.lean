/- What the parts that are told of a term come to. No conditions but lengths. -/
import Derived.Test.YtdgahpigcaejbaaYLibDeepA
import Derived.Test.YtdgahpigcaejbaaYLibKnow
import Derived.Test.YtdgahpigcaejbaaYAg9
set_option linter.unusedVariables false
set_option linter.unusedSimpArgs false
namespace Go.Proofs.Ytdgahpigcaejbaa.Lib
open Go.RowKit Go.Proofs.Ytdgahpigcaejbaa.A Go.Proofs.YtdgahpigcaejbaaW.PrintWords Go.Proofs.YtdgahpigcaejbaaW.PrintLast
def partsOfL (l : List Nd) (a : Int) : List Int := if poolOkB l = true ∧ hasB l.length a = true then partsB (l.getD a.toNat zN) else []
theorem partsOfL_len (l : List Nd) (a : Int) : (partsOfL l a).length ≤ 2 + l.length := by
  unfold partsOfL
  split
  · have := parts_len (l.getD a.toNat zN); omega
  · simp
theorem implPartsOfL_ev (l : List Nd) (a : Int) (hl : l.length ≤ 9223372036854775806) : Ev (fun k => impl_PartsOf.f k l a) (partsOfL l a) := by
  unfold impl_PartsOf.f partsOfL
  refine ev_bind_const (isTerm_eq l a (by omega)) ?_
  by_cases hh : hasB l.length a = true
  · refine ev_if_pos hh (ev_bind (implPoolOk_ev l) ?_)
    by_cases hok : poolOkB l = true
    · rw [if_pos ⟨hok, hh⟩]
      refine ev_if_pos hok ?_
      unfold hasB at hh
      simp only [decide_eq_true_eq] at hh
      obtain ⟨n, rfl⟩ : ∃ n : Nat, a = n := ⟨a.toNat, by omega⟩
      rw [Int.toNat_natCast, getD_at l n (by omega)]
      exact ev_bind (implParts_ev l n (by omega)) (ev_some _)
    · rw [if_neg (fun h => hok h.1)]
      exact ev_if_neg hok (ev_some _)
  · rw [if_neg (fun h => hh h.2)]
    exact ev_if_neg hh (ev_some _)
end Go.Proofs.Ytdgahpigcaejbaa.Lib
