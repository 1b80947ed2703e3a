/- What the parts that are told of a term come to. No conditions but lengths. -/
import Derived.Test.YtgohebghlgamiaaYLibDeepA
import Derived.Test.YtgohebghlgamiaaYLibKnow
import Derived.Test.YtgohebghlgamiaaYPg8
set_option linter.unusedVariables false
set_option linter.unusedSimpArgs false
namespace Go.Proofs.Ytgohebghlgamiaa.Lib
open Go.RowKit Go.Proofs.Ytgohebghlgamiaa.P Go.Proofs.YtgohebghlgamiaaW.PrintWords Go.Proofs.YtgohebghlgamiaaW.PrintLast
def partsOfL (l : List Nd) (a : Int) : List Int := if poolOkB l = true ∧ hasB l.length a = true then partsB (l.getD a.toNat zN) else []
theorem implPartsOfL_ev (l : List Nd) (a : Int) (hl : l.length ≤ 9223372036854775806) : Ev (fun k => impl_PartsOf.f k l a) (partsOfL l a) := by
  unfold impl_PartsOf.f partsOfL
  refine ev_bind_const (isTerm_eq l a (by omega)) ?_
  by_cases hh : hasB l.length a = true
  · refine ev_if_pos hh (ev_bind (implPoolOk_ev l) ?_)
    by_cases hok : poolOkB l = true
    · rw [if_pos ⟨hok, hh⟩]
      refine ev_if_pos hok ?_
      unfold hasB at hh
      simp only [decide_eq_true_eq] at hh
      obtain ⟨n, rfl⟩ : ∃ n : Nat, a = n := ⟨a.toNat, by omega⟩
      rw [Int.toNat_natCast, getD_at l n (by omega)]
      exact ev_bind (implParts_ev l n (by omega)) (ev_some _)
    · rw [if_neg (fun h => hok h.1)]
      exact ev_if_neg hok (ev_some _)
  · rw [if_neg (fun h => hh h.2)]
    exact ev_if_neg hh (ev_some _)
end Go.Proofs.Ytgohebghlgamiaa.Lib
