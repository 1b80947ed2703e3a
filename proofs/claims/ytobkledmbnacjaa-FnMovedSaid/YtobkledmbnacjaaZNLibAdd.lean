/- What putting a node into a pool comes to. No conditions but lengths. -/
import Derived.Test.YtobkledmbnacjaaZNLibDeepA
import Derived.Test.YtobkledmbnacjaaZNMg0
set_option linter.unusedVariables false
set_option linter.unusedSimpArgs false
namespace Go.Proofs.Ytobkledmbnacjaa.Lib
open Go.RowKit Go.Proofs.Ytobkledmbnacjaa.M Go.Proofs.YtobkledmbnacjaaW.PrintWords Go.Proofs.YtobkledmbnacjaaW.PrintLast

def normN (x : Nd) : Nd := if x.f0 = 8 ∧ x.f1 > x.f2 then ⟨x.f0, x.f2, x.f1⟩ else x
def addN (p : List Nd) (y : Nd) : List Nd × Int :=
  if findN p y ≥ 0 then (p, findN p y) else if nOk y p.length = true then (if p.length = 500 then (p, -1) else (p ++ [y], (p.length : Int))) else (p, -1)
theorem findN_none {p : List Nd} {y : Nd} (h : ¬ findN p y ≥ 0) : y ∉ p := by
  intro hm
  unfold findN at h
  rw [if_pos hm] at h
  omega
theorem findN_mem {p : List Nd} {y : Nd} (h : findN p y ≥ 0) : y ∈ p := by
  unfold findN at h
  by_cases hm : y ∈ p
  · exact hm
  · rw [if_neg hm] at h; omega
theorem findN_at {p : List Nd} {y : Nd} (h : findN p y ≥ 0) : ∃ i : Nat, ∃ hi : i < p.length, findN p y = i ∧ p[i] = y := by
  have hm := findN_mem h
  have hi := List.idxOf_lt_length_of_mem hm
  refine ⟨p.idxOf y, hi, ?_, List.getElem_idxOf hi⟩
  unfold findN
  rw [if_pos hm]
theorem specCopy_eq (p : List Nd) (h : p.length ≤ 1000000) : spec_l1Copy.f p = some p := by
  unfold spec_l1Copy.f
  simp only [Option.bind_some, List.nil_append, List.length_nil]
  rw [if_pos (by omega)]
theorem specAdd_j1 (p : List Nd) (y : Nd) (h : p.length ≤ 1000000) : Ev (fun k => spec_l1Add.j1 k p y.f0 y.f1 y.f2) (addN p y) := by
  refine Ev.step (f := fun k => (spec_l1Find.f k p y.f0 y.f1 y.f2).bind fun t => if t ≥ 0 then some (p, t) else (spec_l1Right.f k y.f0 y.f1 y.f2 (p.length : Int)).bind fun t => if t = true then (if (p.length : Int) = 500 then some (p, -1) else (spec_l1Copy.f p).bind fun q => if q.length < 5864062014805 then some (q ++ [y], (p.length : Int)) else none) else some (p, -1)) (fun k => ?_) ?_
  · simp only [spec_l1Add.j1]
  · refine ev_bind (specFind_ev p y (by omega)) ?_
    unfold addN
    by_cases hf : findN p y ≥ 0
    · rw [if_pos hf]
      exact ev_if_pos hf (ev_some _)
    · rw [if_neg hf]
      refine ev_if_neg hf (ev_bind (specRight_ev y p.length (by omega)) ?_)
      by_cases hr : nOk y p.length = true
      · refine ev_if_pos hr ?_
        rw [if_pos hr]
        by_cases hl : p.length = 500
        · rw [if_pos hl]
          exact ev_if_pos (by omega) (ev_some _)
        · rw [if_neg hl]
          refine ev_if_neg (by omega) (ev_bind_const (specCopy_eq p h) (ev_if_pos (by omega) (ev_some _)))
      · exact ev_if_neg hr (ev_some_of (by rw [if_neg hr]))
theorem specAdd_ev (p : List Nd) (x : Nd) (h : p.length ≤ 1000000) : Ev (fun k => spec_l1Add.f k p x.f0 x.f1 x.f2) (addN p (normN x)) := by
  unfold spec_l1Add.f
  have hj : ∀ b : Bool, Ev (fun k => spec_l1Add.j0 k b p x.f0 x.f1 x.f2) (addN p (if b = true then ⟨x.f0, x.f2, x.f1⟩ else x)) := by
    intro b
    cases b
    · refine Ev.step (f := fun k => spec_l1Add.j1 k p x.f0 x.f1 x.f2) (fun k => ?_) (specAdd_j1 p x h)
      simp only [spec_l1Add.j0]
      rw [if_neg (by simp)]
    · refine Ev.step (f := fun k => spec_l1Add.j1 k p x.f0 x.f2 x.f1) (fun k => ?_) (specAdd_j1 p ⟨x.f0, x.f2, x.f1⟩ h)
      simp only [spec_l1Add.j0, if_true]
  unfold normN
  by_cases h8 : x.f0 = 8
  · refine ev_if_pos h8 ?_
    have := hj (decide (x.f1 > x.f2))
    by_cases hg : x.f1 > x.f2
    · rw [if_pos ⟨h8, hg⟩]
      simpa [hg] using this
    · rw [if_neg (fun h => hg h.2)]
      simpa [hg] using this
  · rw [if_neg (fun h => h8 h.1)]
    refine ev_if_neg h8 ?_
    simpa using hj false
theorem addN_len (p : List Nd) (y : Nd) : (addN p y).1.length ≤ p.length + 1 ∧ p.length ≤ (addN p y).1.length := by
  unfold addN
  repeat' split
  all_goals simp
def rightAll (p : List Nd) : Prop := ∀ i (h : i < p.length), nOk p[i] i = true
end Go.Proofs.Ytobkledmbnacjaa.Lib
