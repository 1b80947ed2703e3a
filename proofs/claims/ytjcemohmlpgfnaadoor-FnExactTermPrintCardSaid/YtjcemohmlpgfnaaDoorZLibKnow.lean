/- What is known: both check it one way. No conditions but lengths. -/
import Derived.Test.YtjcemohmlpgfnaaDoorZLibPool
import Derived.Test.YtjcemohmlpgfnaaDoorZTg0
import Derived.Test.YtjcemohmlpgfnaaDoorZTg1
set_option linter.unusedVariables false
set_option linter.unusedSimpArgs false
namespace Go.Proofs.YtjcemohmlpgfnaaDoor.Lib
open Go.RowKit Go.Proofs.YtjcemohmlpgfnaaDoor.T Go.Proofs.YtjcemohmlpgfnaaDoorW.PrintWords Go.Proofs.YtjcemohmlpgfnaaDoorW.PrintLast

def hasB (n : Nat) (a : Int) : Bool := decide (0 ≤ a ∧ a < n)
theorem le_pred (y : Int) (n : Nat) (hn : n < 9223372036854775808) : (y ≤ wrap64 ((n : Int) - 1)) = (y < (n : Int)) := by
  rw [wrap_id (by omega) (by omega)]
  apply propext
  omega
theorem specIn_eq (x a b : Int) : spec_l1In.f x a b = some (decide (a ≤ x ∧ x ≤ b)) := by
  unfold spec_l1In.f
  by_cases h : a ≤ x
  · rw [if_pos (by omega)]; simp [h]
  · rw [if_neg (by omega)]; simp [h]
theorem specHas_eq (l : List Nd) (a : Int) (hl : l.length < 9223372036854775808) : spec_l1Has.f l a = some (hasB l.length a) := by
  unfold spec_l1Has.f hasB
  rw [specIn_eq]
  simp only [le_pred a _ hl, Option.bind_some]
theorem isTerm_eq (l : List Nd) (a : Int) (hl : l.length < 9223372036854775808) : impl_Pool_isTerm.f l a = some (hasB l.length a) := by
  unfold impl_Pool_isTerm.f hasB
  rw [inRange_eq]
  simp only [le_pred a _ hl, Option.bind_some]
end Go.Proofs.YtjcemohmlpgfnaaDoor.Lib
