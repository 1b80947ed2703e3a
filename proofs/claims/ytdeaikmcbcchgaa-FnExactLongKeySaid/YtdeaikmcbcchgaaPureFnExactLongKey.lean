/- LongKey of the program answers what the reference's answers, at every number. No conditions. -/
import Derived.Test.YtdeaikmcbcchgaaPFnExactLongKeyx1
namespace Go.Proofs.Ytdeaikmcbcchgaa.Pure
open Go.RowKit Go.Proofs.Ytdeaikmcbcchgaa.PFnExactLongKey Go.Proofs.YtdeaikmcbcchgaaW.PrintWords Go.Proofs.YtdeaikmcbcchgaaW.PrintLast

theorem FnExactLongKey : laws_FnExactLongKey.Pure := by
  intro a _
  have e : impl_LongKey.f a = spec_LongKey.f a := rfl
  have h : ∃ r, spec_LongKey.f a = some r := by
    unfold spec_LongKey.f spec_l2Agent.f spec_l1In.f
    by_cases h0 : a ≥ 0
    · rw [if_pos h0]
      by_cases h1 : a ≤ 4
      · simp [h1]
      · simp [h1]
    · rw [if_neg h0]; simp
  obtain ⟨r, hr⟩ := h
  unfold laws_FnExactLongKey.f
  rw [e, hr]
  simp

end Go.Proofs.Ytdeaikmcbcchgaa.Pure
