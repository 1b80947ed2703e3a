/- What KnowOk asks of a list of numbers. No conditions. -/
import Derived.Test.YtdgahpigcaejbaaJPLibKnow
import Derived.Test.YtdgahpigcaejbaaJPLibOrd
set_option linter.unusedVariables false
set_option linter.unusedSimpArgs false
namespace Go.Proofs.Ytdgahpigcaejbaa.Lib
open Go.RowKit Go.Proofs.YtdgahpigcaejbaaW.PrintWords Go.Proofs.YtdgahpigcaejbaaW.PrintLast Go.Proofs.YtdgahpigcaejbaaW.PrintMore

theorem kn_step (n : Nat) (t : List Int) : ∀ (d i : Nat), kFrom n t d i = true → ∀ j, i ≤ j → j < i + d → kStep n t j = true
  | 0, i, _, j, h1, h2 => by omega
  | d + 1, i, h, j, h1, h2 => by
    simp only [kFrom, Bool.and_eq_true] at h
    by_cases e : j = i
    · subst e
      exact h.1
    · exact kn_step n t d (i + 1) h.2 j (by omega) (by omega)
theorem kn_all (n : Nat) (t : List Int) : ∀ (d i : Nat), (∀ j, i ≤ j → j < i + d → kStep n t j = true) → kFrom n t d i = true
  | 0, i, _ => rfl
  | d + 1, i, h => by
    simp only [kFrom, Bool.and_eq_true]
    exact ⟨h i (Nat.le_refl _) (by omega), kn_all n t d (i + 1) fun j h1 h2 => h j (by omega) (by omega)⟩
theorem kn_iff (n : Nat) (t : List Int) : knowB n t = true ↔ t.length ≤ 200 ∧ Str t ∧ ∀ z ∈ t, 0 ≤ z ∧ z < (n : Int) := by
  unfold knowB
  simp only [Bool.and_eq_true, decide_eq_true_eq]
  constructor
  · rintro ⟨h1, h2⟩
    have hs : ∀ j (hj : j < t.length), (0 ≤ t[j] ∧ t[j] < (n : Int)) ∧ (j = 0 ∨ ∃ h : 0 < j, t[j - 1] < t[j]) := by
      intro j hj
      have := kn_step n t t.length 0 h2 j (by omega) (by omega)
      unfold kStep at this
      rw [rd_nat t j hj] at this
      simp only [Bool.and_eq_true, Bool.or_eq_true, decide_eq_true_eq, hasB] at this
      refine ⟨this.1, ?_⟩
      rcases this.2 with e | e
      · exact .inl e
      · by_cases h0 : j = 0
        · exact .inl h0
        · refine .inr ⟨by omega, ?_⟩
          rw [show ((j : Int) - 1) = ((j - 1 : Nat) : Int) by omega, rd_nat t (j - 1) (by omega)] at e
          exact e
    refine ⟨h1, List.pairwise_iff_getElem.2 ?_, ?_⟩
    · have key : ∀ (d i : Nat) (hi : i < t.length) (hj : i + d + 1 < t.length), t[i] < t[i + d + 1] := by
        intro d
        induction d with
        | zero =>
          intro i hi hj
          rcases (hs (i + 0 + 1) hj).2 with e | ⟨_, e⟩
          · omega
          · exact e
        | succ d ih =>
          intro i hi hj
          have h3 := ih i hi (by omega)
          rcases (hs (i + (d + 1) + 1) hj).2 with e | ⟨_, e⟩
          · omega
          · have e' : t[i + (d + 1) + 1 - 1]'(by omega) = t[i + d + 1]'(by omega) := rfl
            rw [e'] at e
            omega
      intro i j hi hj hij
      have := key (j - i - 1) i hi (by omega)
      have e : i + (j - i - 1) + 1 = j := by omega
      simp only [e] at this
      exact this
    · intro z hz
      obtain ⟨j, hj, rfl⟩ := List.getElem_of_mem hz
      exact (hs j hj).1
  · rintro ⟨h1, h2, h3⟩
    refine ⟨h1, kn_all n t _ 0 fun j _ hj => ?_⟩
    have hj' : j < t.length := by omega
    unfold kStep
    rw [rd_nat t j hj']
    simp only [Bool.and_eq_true, Bool.or_eq_true, decide_eq_true_eq, hasB]
    refine ⟨h3 _ (List.getElem_mem hj'), ?_⟩
    by_cases h0 : j = 0
    · exact .inl h0
    · refine .inr ?_
      rw [show ((j : Int) - 1) = ((j - 1 : Nat) : Int) by omega, rd_nat t (j - 1) (by omega)]
      exact str_get h2 (j - 1) j (by omega) hj' (by omega)
end Go.Proofs.Ytdgahpigcaejbaa.Lib
