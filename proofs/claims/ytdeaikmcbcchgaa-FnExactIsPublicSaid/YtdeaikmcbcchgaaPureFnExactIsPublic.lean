/- IsPublic of the program answers what the reference's answers, at every number. No conditions. -/
import Derived.Test.YtdeaikmcbcchgaaPFnExactIsPublicx1
namespace Go.Proofs.Ytdeaikmcbcchgaa.Pure
open Go.RowKit Go.Proofs.Ytdeaikmcbcchgaa.PFnExactIsPublic Go.Proofs.YtdeaikmcbcchgaaW.PrintWords Go.Proofs.YtdeaikmcbcchgaaW.PrintLast

theorem FnExactIsPublic : laws_FnExactIsPublic.Pure := by
  intro a _
  have e : impl_IsPublic.f a = spec_IsPublic.f a := rfl
  unfold laws_FnExactIsPublic.f
  rw [e]
  unfold spec_IsPublic.f spec_l1In.f
  by_cases h : a ≥ 0
  · rw [if_pos h]; simp
  · rw [if_neg h]; simp

end Go.Proofs.Ytdeaikmcbcchgaa.Pure
