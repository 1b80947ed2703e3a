/- What is known: both check it one way. No conditions but lengths. -/
import Derived.Test.YtdgahpigcaejbaaWNLibPool
import Derived.Test.YtdgahpigcaejbaaWNBg0
set_option linter.unusedVariables false
set_option linter.unusedSimpArgs false
namespace Go.Proofs.Ytdgahpigcaejbaa.Lib
open Go.RowKit Go.Proofs.Ytdgahpigcaejbaa.B Go.Proofs.YtdgahpigcaejbaaW.PrintWords Go.Proofs.YtdgahpigcaejbaaW.PrintLast

def hasB (n : Nat) (a : Int) : Bool := decide (0 ≤ a ∧ a < n)
theorem le_pred (y : Int) (n : Nat) (hn : n < 9223372036854775808) : (y ≤ wrap64 ((n : Int) - 1)) = (y < (n : Int)) := by
  rw [wrap_id (by omega) (by omega)]
  apply propext
  omega
theorem isTerm_eq (l : List Nd) (a : Int) (hl : l.length < 9223372036854775808) : impl_Pool_isTerm.f l a = some (hasB l.length a) := by
  unfold impl_Pool_isTerm.f hasB
  rw [inRange_eq]
  simp only [le_pred a _ hl, Option.bind_some]
end Go.Proofs.Ytdgahpigcaejbaa.Lib
