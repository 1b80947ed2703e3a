/- FreshName of the program answers what the reference's answers, at every number. No conditions. -/
import Derived.Test.YtdeaikmcbcchgaaPFnExactFreshNamex1
namespace Go.Proofs.Ytdeaikmcbcchgaa.Pure
open Go.RowKit Go.Proofs.Ytdeaikmcbcchgaa.PFnExactFreshName Go.Proofs.YtdeaikmcbcchgaaW.PrintWords Go.Proofs.YtdeaikmcbcchgaaW.PrintLast

theorem FnExactFreshName : laws_FnExactFreshName.Pure := by
  intro a _
  have e : impl_FreshName.f a = spec_FreshName.f a := rfl
  have h : ∃ r, spec_FreshName.f a = some r := by
    unfold spec_FreshName.f spec_l1In.f
    by_cases h0 : a ≥ 0
    · rw [if_pos h0]
      by_cases h1 : a ≤ 99
      · simp [h1]
      · simp [h1]
    · rw [if_neg h0]; simp
  obtain ⟨r, hr⟩ := h
  unfold laws_FnExactFreshName.f
  rw [e, hr]
  simp

end Go.Proofs.Ytdeaikmcbcchgaa.Pure
