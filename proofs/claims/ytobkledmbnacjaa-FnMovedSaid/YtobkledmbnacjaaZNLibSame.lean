/- The law's own comparison of two lists of numbers. No conditions but a length. -/
import Derived.Test.YtobkledmbnacjaaZNLibA
import Derived.Test.YtobkledmbnacjaaZNMg4
set_option linter.unusedVariables false
set_option linter.unusedSimpArgs false
namespace Go.Proofs.Ytobkledmbnacjaa.Lib
open Go.RowKit Go.Proofs.Ytobkledmbnacjaa.M Go.Proofs.YtobkledmbnacjaaW.PrintWords Go.Proofs.YtobkledmbnacjaaW.PrintLast Go.Proofs.YtobkledmbnacjaaW.PrintMore

theorem same_loop (l : List Int) (hl : l.length ≤ 4611686018427387904) : ∀ (n i : Nat), l.length - i = n → i ≤ l.length → Ev (fun k => laws_sameInts.l0 k l l i) true
  | 0, i, hn, hi => by
    refine Ev.step (fun k => by rw [laws_sameInts.l0]) ?_
    exact ev_if_neg (by omega) (ev_some _)
  | n + 1, i, hn, hi => by
    have nx := same_loop l hl n (i + 1) (by omega) (by omega)
    refine Ev.step (fun k => by rw [laws_sameInts.l0]) ?_
    rw [wrap_succ (by omega)]
    exact ev_if_pos (by omega) (ev_if_pos (by omega) (ev_if_pos (by omega) (ev_if_pos rfl nx)))
theorem same_refl (l : List Int) (hl : l.length ≤ 4611686018427387904) : Ev (fun k => laws_sameInts.f k l l) true := by
  unfold laws_sameInts.f
  exact ev_if_pos rfl (same_loop l hl l.length 0 (by omega) (by omega))
end Go.Proofs.Ytobkledmbnacjaa.Lib
