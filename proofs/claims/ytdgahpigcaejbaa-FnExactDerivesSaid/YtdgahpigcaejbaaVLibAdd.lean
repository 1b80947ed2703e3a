/- What putting a node into a pool comes to. No conditions but lengths. -/
import Derived.Test.YtdgahpigcaejbaaVLibDeepA
set_option linter.unusedVariables false
set_option linter.unusedSimpArgs false
namespace Go.Proofs.Ytdgahpigcaejbaa.Lib
open Go.RowKit Go.Proofs.Ytdgahpigcaejbaa.E Go.Proofs.YtdgahpigcaejbaaW.PrintWords Go.Proofs.YtdgahpigcaejbaaW.PrintLast

theorem findN_mem {p : List Nd} {y : Nd} (h : findN p y ≥ 0) : y ∈ p := by
  unfold findN at h
  by_cases hm : y ∈ p
  · exact hm
  · rw [if_neg hm] at h; omega
theorem findN_at {p : List Nd} {y : Nd} (h : findN p y ≥ 0) : ∃ i : Nat, ∃ hi : i < p.length, findN p y = i ∧ p[i] = y := by
  have hm := findN_mem h
  have hi := List.idxOf_lt_length_of_mem hm
  refine ⟨p.idxOf y, hi, ?_, List.getElem_idxOf hi⟩
  unfold findN
  rw [if_pos hm]
end Go.Proofs.Ytdgahpigcaejbaa.Lib
