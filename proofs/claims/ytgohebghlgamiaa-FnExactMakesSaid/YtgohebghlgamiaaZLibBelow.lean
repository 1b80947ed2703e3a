/- What stands below a term: both tell it one way. No conditions but lengths. -/
import Derived.Test.YtgohebghlgamiaaZLibDeepA
import Derived.Test.YtgohebghlgamiaaZMg11
set_option linter.unusedVariables false
set_option linter.unusedSimpArgs false
namespace Go.Proofs.Ytgohebghlgamiaa.Lib
open Go.RowKit Go.Proofs.Ytgohebghlgamiaa.M Go.Proofs.YtgohebghlgamiaaW.PrintWords Go.Proofs.YtgohebghlgamiaaW.PrintLast

def mk (n : Nat) (f : Nat → Bool) : List Bool := (List.range n).map f
theorem mk_length (n : Nat) (f : Nat → Bool) : (mk n f).length = n := by simp [mk]
theorem mk_rd (n : Nat) (f : Nat → Bool) (i : Nat) (h : i < n) : rdOf false (mk n f) i = f i := by
  unfold rdOf mk
  rw [Int.toNat_natCast, List.getD_eq_getElem?_getD, List.getElem?_map, List.getElem?_range h]
  rfl
def put (f : Nat → Bool) (p : Nat) : Nat → Bool := fun i => f i || decide (i = p)
theorem mk_put (n : Nat) (f : Nat → Bool) (p : Nat) : (mk n f).set p true = mk n (put f p) := by
  apply List.ext_getElem
  · simp [mk]
  · intro i h1 h2
    rw [List.getElem_set]
    simp only [mk, List.getElem_map, List.getElem_range, put]
    by_cases e : p = i
    · rw [if_pos e]; simp [e]
    · rw [if_neg e]
      have : ¬ i = p := fun h => e h.symm
      simp [this]
theorem mk_rep (n : Nat) : List.replicate n false = mk n (fun _ => false) := by
  apply List.ext_getElem
  · simp [mk]
  · intro i h1 h2
    simp [mk]
def putAll (f : Nat → Bool) (ps : List Int) : Nat → Bool := ps.foldl (fun f p => put f p.toNat) f
theorem putAll_eq : ∀ (ps : List Int) (f : Nat → Bool) (y : Nat), putAll f ps y = (f y || decide (∃ p ∈ ps, p.toNat = y))
  | [], f, y => by simp [putAll]
  | p :: ps, f, y => by
    show putAll (put f p.toNat) ps y = _
    rw [putAll_eq ps]
    have e : (∃ q ∈ p :: ps, q.toNat = y) ↔ (y = p.toNat ∨ ∃ q ∈ ps, q.toNat = y) := by
      simp [eq_comm]
    simp only [e, put, Bool.or_assoc, Bool.decide_or]
section
variable {l : List Nd} (hok : poolOkB l = true)
include hok
end
theorem specList_loop (n : Nat) (f : Nat → Bool) (hn : n ≤ 1000000) : ∀ (m i : Nat), n - i = m → i ≤ n →
    Ev (fun k => spec_l1List.l0 k (mk n f) (((List.range i).filter f).map fun (x : Nat) => (x : Int)) i) (((List.range n).filter f).map fun (x : Nat) => (x : Int))
  | 0, i, hm, hi => by
    have e : i = n := by omega
    refine Ev.step (f := fun k => some (((List.range n).filter f).map fun (x : Nat) => (x : Int))) (fun k => ?_) (ev_some _)
    simp only [spec_l1List.l0]
    rw [if_neg (by rw [mk_length]; omega), e]
  | m + 1, i, hm, hi => by
    have hlt : i < n := by omega
    have ih := specList_loop n f hn m (i + 1) (by omega) (by omega)
    have hlen : (((List.range i).filter f).map fun (x : Nat) => (x : Int)).length ≤ i := by
      rw [List.length_map]
      exact Nat.le_trans (List.length_filter_le _ _) (by simp)
    have e : ((List.range (i + 1)).filter f).map (fun (x : Nat) => (x : Int)) = if f i = true then (((List.range i).filter f).map fun (x : Nat) => (x : Int)) ++ [(i : Int)] else ((List.range i).filter f).map fun (x : Nat) => (x : Int) := by
      rw [List.range_succ, List.filter_append, List.map_append]
      by_cases h : f i = true
      · simp [h]
      · simp [h]
    rw [e] at ih
    by_cases h : f i = true
    · rw [if_pos h] at ih
      refine Ev.step (f := fun k => spec_l1List.l0 k (mk n f) ((((List.range i).filter f).map fun (x : Nat) => (x : Int)) ++ [(i : Int)]) (i + 1 : Nat)) (fun k => ?_) ih
      simp only [spec_l1List.l0]
      rw [if_pos (by rw [mk_length]; omega), if_pos (by omega), mk_rd n f i hlt, if_pos h, if_pos (by omega), wrap_succ (by omega)]
    · rw [if_neg h] at ih
      refine Ev.step (f := fun k => spec_l1List.l0 k (mk n f) (((List.range i).filter f).map fun (x : Nat) => (x : Int)) (i + 1 : Nat)) (fun k => ?_) ih
      simp only [spec_l1List.l0]
      rw [if_pos (by rw [mk_length]; omega), if_pos (by omega), mk_rd n f i hlt, if_neg h, wrap_succ (by omega)]
theorem specList_ev (n : Nat) (f : Nat → Bool) (hn : n ≤ 1000000) : Ev (fun k => spec_l1List.f k (mk n f)) (((List.range n).filter f).map fun (x : Nat) => (x : Int)) := by
  unfold spec_l1List.f
  simpa using specList_loop n f hn n 0 (by omega) (by omega)
end Go.Proofs.Ytgohebghlgamiaa.Lib
