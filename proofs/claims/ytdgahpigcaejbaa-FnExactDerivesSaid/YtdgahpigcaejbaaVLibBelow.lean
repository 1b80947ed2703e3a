/- What stands below a term: both tell it one way. No conditions but lengths. -/
import Derived.Test.YtdgahpigcaejbaaVLibDeepA
set_option linter.unusedVariables false
set_option linter.unusedSimpArgs false
namespace Go.Proofs.Ytdgahpigcaejbaa.Lib
open Go.RowKit Go.Proofs.Ytdgahpigcaejbaa.E Go.Proofs.YtdgahpigcaejbaaW.PrintWords Go.Proofs.YtdgahpigcaejbaaW.PrintLast

def mk (n : Nat) (f : Nat → Bool) : List Bool := (List.range n).map f
theorem mk_length (n : Nat) (f : Nat → Bool) : (mk n f).length = n := by simp [mk]
theorem mk_rd (n : Nat) (f : Nat → Bool) (i : Nat) (h : i < n) : rdOf false (mk n f) i = f i := by
  unfold rdOf mk
  rw [Int.toNat_natCast, List.getD_eq_getElem?_getD, List.getElem?_map, List.getElem?_range h]
  rfl
def put (f : Nat → Bool) (p : Nat) : Nat → Bool := fun i => f i || decide (i = p)
theorem mk_put (n : Nat) (f : Nat → Bool) (p : Nat) : (mk n f).set p true = mk n (put f p) := by
  apply List.ext_getElem
  · simp [mk]
  · intro i h1 h2
    rw [List.getElem_set]
    simp only [mk, List.getElem_map, List.getElem_range, put]
    by_cases e : p = i
    · rw [if_pos e]; simp [e]
    · rw [if_neg e]
      have : ¬ i = p := fun h => e h.symm
      simp [this]
theorem mk_rep (n : Nat) : List.replicate n false = mk n (fun _ => false) := by
  apply List.ext_getElem
  · simp [mk]
  · intro i h1 h2
    simp [mk]
def putAll (f : Nat → Bool) (ps : List Int) : Nat → Bool := ps.foldl (fun f p => put f p.toNat) f
theorem putAll_eq : ∀ (ps : List Int) (f : Nat → Bool) (y : Nat), putAll f ps y = (f y || decide (∃ p ∈ ps, p.toNat = y))
  | [], f, y => by simp [putAll]
  | p :: ps, f, y => by
    show putAll (put f p.toNat) ps y = _
    rw [putAll_eq ps]
    have e : (∃ q ∈ p :: ps, q.toNat = y) ↔ (y = p.toNat ∨ ∃ q ∈ ps, q.toNat = y) := by
      simp [eq_comm]
    simp only [e, put, Bool.or_assoc, Bool.decide_or]
section
variable {l : List Nd} (hok : poolOkB l = true)
include hok
end
end Go.Proofs.Ytdgahpigcaejbaa.Lib
