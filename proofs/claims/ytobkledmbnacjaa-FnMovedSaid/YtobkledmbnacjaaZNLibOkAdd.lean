/- A right pool to which a node is put is right. No conditions. -/
import Derived.Test.YtobkledmbnacjaaZNLibAdd
set_option linter.unusedVariables false
set_option linter.unusedSimpArgs false
namespace Go.Proofs.Ytobkledmbnacjaa.Lib
open Go.RowKit Go.Proofs.Ytobkledmbnacjaa.M Go.Proofs.YtobkledmbnacjaaW.PrintWords Go.Proofs.YtobkledmbnacjaaW.PrintLast

theorem okFrom_of (l : List Nd) : ∀ (n i : Nat), (∀ j, i ≤ j → j < i + n → okStep l j = true) → okFrom l n i = true
  | 0, i, _ => rfl
  | n + 1, i, h => by
    simp only [okFrom, Bool.and_eq_true]
    exact ⟨h i (by omega) (by omega), okFrom_of l n (i + 1) (fun j h1 h2 => h j (by omega) (by omega))⟩
theorem ok_of {l : List Nd} (hl : l.length ≤ 500) (h : ∀ i (hi : i < l.length), l[i] ∉ l.take i ∧ nOk l[i] i = true) : poolOkB l = true := by
  unfold poolOkB
  simp only [Bool.and_eq_true, decide_eq_true_eq]
  refine ⟨hl, okFrom_of l _ _ (fun j _ hj => ?_)⟩
  have hj' : j < l.length := by omega
  rw [okStep_eq l j hj' (by omega)]
  have := h j hj'
  simp [this.1, this.2]
theorem ok_nil : poolOkB [] = true := ok_of (by simp) (fun i h => by simp at h)
theorem ok_right {l : List Nd} (h : poolOkB l = true) : rightAll l := fun i hi => (ok_at h i hi).2
theorem ok_add {p : List Nd} (hp : poolOkB p = true) (y : Nd) : poolOkB (addN p y).1 = true := by
  unfold addN
  by_cases hf : findN p y ≥ 0
  · rw [if_pos hf]; exact hp
  · rw [if_neg hf]
    by_cases hr : nOk y p.length = true
    · rw [if_pos hr]
      by_cases hl : p.length = 500
      · rw [if_pos hl]; exact hp
      · rw [if_neg hl]
        have h5 := ok_len hp
        refine ok_of (by simp; omega) (fun i h => ?_)
        by_cases e : i < p.length
        · rw [List.getElem_append_left e, List.take_append_of_le_length (by omega)]
          exact ok_at hp i e
        · have e' : i = p.length := by simp at h; omega
          subst e'
          rw [List.take_append_of_le_length (by omega), List.take_length]
          simp only [List.getElem_concat_length]
          exact ⟨findN_none hf, hr⟩
    · rw [if_neg hr]; exact hp
end Go.Proofs.Ytobkledmbnacjaa.Lib
