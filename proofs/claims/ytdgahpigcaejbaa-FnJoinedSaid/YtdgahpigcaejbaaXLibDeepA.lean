/- A right pool's nodes and their parts; small words for lists. No conditions but lengths. -/
import Derived.Test.YtdgahpigcaejbaaXLibPool
import Derived.Test.YtdgahpigcaejbaaXLibKnow
import Derived.Test.YtdgahpigcaejbaaXDg7
set_option linter.unusedVariables false
set_option linter.unusedSimpArgs false
namespace Go.Proofs.Ytdgahpigcaejbaa.Lib
open Go.RowKit Go.Proofs.Ytdgahpigcaejbaa.D Go.Proofs.YtdgahpigcaejbaaW.PrintWords Go.Proofs.YtdgahpigcaejbaaW.PrintLast

theorem okFrom_all (l : List Nd) : ∀ (n i : Nat), okFrom l n i = true → ∀ j, i ≤ j → j < i + n → okStep l j = true
  | 0, i, _, j, h1, h2 => by omega
  | n + 1, i, h, j, h1, h2 => by
    simp only [okFrom, Bool.and_eq_true] at h
    by_cases e : j = i
    · rw [e]; exact h.1
    · exact okFrom_all l n (i + 1) h.2 j (by omega) (by omega)
theorem ok_len {l : List Nd} (h : poolOkB l = true) : l.length ≤ 500 := by
  unfold poolOkB at h
  simp only [Bool.and_eq_true, decide_eq_true_eq] at h
  exact h.1
theorem ok_at {l : List Nd} (h : poolOkB l = true) (i : Nat) (hi : i < l.length) : l[i] ∉ l.take i ∧ nOk l[i] i = true := by
  have hl := ok_len h
  unfold poolOkB at h
  simp only [Bool.and_eq_true, decide_eq_true_eq] at h
  have := okFrom_all l l.length 0 h.2 i (by omega) (by omega)
  rw [okStep_eq l i hi (by omega)] at this
  simpa using this
end Go.Proofs.Ytdgahpigcaejbaa.Lib
