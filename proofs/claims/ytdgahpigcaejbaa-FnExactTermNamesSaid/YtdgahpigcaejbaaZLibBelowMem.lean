/- What stands in a term: it, and what stands in its parts; lists without doubles. No conditions but a right pool. -/
import Derived.Test.YtdgahpigcaejbaaZLibBelow
set_option linter.unusedVariables false
set_option linter.unusedSimpArgs false
namespace Go.Proofs.Ytdgahpigcaejbaa.Lib
open Go.RowKit Go.Proofs.Ytdgahpigcaejbaa.A Go.Proofs.YtdgahpigcaejbaaW.PrintWords Go.Proofs.YtdgahpigcaejbaaW.PrintLast

theorem mem_belowL {l : List Nd} (hok : poolOkB l = true) {t : Nat} (ht : t < l.length) (z : Int) : z ∈ belowL l t ↔ ∃ y : Nat, z = y ∧ ins l t y = true := by
  unfold belowL
  rw [List.mem_map]
  constructor
  · rintro ⟨y, hy, rfl⟩
    exact ⟨y, rfl, (List.mem_filter.1 hy).2⟩
  · rintro ⟨y, rfl, hy⟩
    refine ⟨y, List.mem_filter.2 ⟨List.mem_range.2 ?_, hy⟩, rfl⟩
    by_cases h : t < y
    · rw [ins_far hok ht h] at hy; simp at hy
    · omega
theorem belowL_nodup (l : List Nd) (t : Nat) : (belowL l t).Nodup := by
  unfold belowL
  refine List.Pairwise.map _ (fun a b (h : a ≠ b) => ?_) (List.Pairwise.filter _ List.nodup_range)
  intro e
  exact h (by omega)
end Go.Proofs.Ytdgahpigcaejbaa.Lib
