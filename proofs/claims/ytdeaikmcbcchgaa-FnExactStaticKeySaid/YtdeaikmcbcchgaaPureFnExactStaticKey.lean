/- StaticKey of the program answers what the reference's answers, at every number. No conditions. -/
import Derived.Test.YtdeaikmcbcchgaaPFnExactStaticKeyx1
namespace Go.Proofs.Ytdeaikmcbcchgaa.Pure
open Go.RowKit Go.Proofs.Ytdeaikmcbcchgaa.PFnExactStaticKey Go.Proofs.YtdeaikmcbcchgaaW.PrintWords Go.Proofs.YtdeaikmcbcchgaaW.PrintLast

theorem FnExactStaticKey : laws_FnExactStaticKey.Pure := by
  intro a _
  have e : impl_StaticKey.f a = spec_StaticKey.f a := rfl
  have h : ∃ r, spec_StaticKey.f a = some r := by
    unfold spec_StaticKey.f spec_l2Agent.f spec_l1In.f
    by_cases h0 : a ≥ 0
    · rw [if_pos h0]
      by_cases h1 : a ≤ 4
      · simp [h1]
      · simp [h1]
    · rw [if_neg h0]; simp
  obtain ⟨r, hr⟩ := h
  unfold laws_FnExactStaticKey.f
  rw [e, hr]
  simp

end Go.Proofs.Ytdeaikmcbcchgaa.Pure
