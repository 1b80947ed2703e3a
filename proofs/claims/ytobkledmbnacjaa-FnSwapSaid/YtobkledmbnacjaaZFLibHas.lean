/- What slices.Contains and the program's KnowHas come to. No conditions but lengths. -/
import Derived.Test.YtobkledmbnacjaaZFFg4
import Derived.Test.YtobkledmbnacjaaZFLibA
set_option linter.unusedVariables false
set_option linter.unusedSimpArgs false
namespace Go.Proofs.Ytobkledmbnacjaa.Lib
open Go.RowKit Go.Proofs.Ytobkledmbnacjaa.F Go.Proofs.YtobkledmbnacjaaW.PrintWords Go.Proofs.YtobkledmbnacjaaW.PrintLast

theorem index_loop (l : List Int) (a : Int) (hl : l.length ≤ 9223372036854775806) : ∀ (n i : Nat), l.length - i = n → i ≤ l.length →
    ∃ r : Int, Ev (fun k => slices_Index_int_int.l0 k l a l.length i) r ∧ decide (r ≥ 0) = decide (a ∈ l.drop i)
  | 0, i, hn, hi => by
    have e : i = l.length := by omega
    subst e
    refine ⟨-1, Ev.step (f := fun k => some (-1)) (fun k => ?_) (ev_some _), by rw [List.drop_length]; simp⟩
    simp only [slices_Index_int_int.l0]
    rw [if_neg (by omega)]
  | n + 1, i, hn, hi => by
    have hlt : i < l.length := by omega
    by_cases e : a = l[i]
    · refine ⟨i, Ev.step (f := fun k => some (i : Int)) (fun k => ?_) (ev_some _), ?_⟩
      · simp only [slices_Index_int_int.l0]
        rw [if_pos (by omega), if_pos (by omega), if_pos (by omega), rd_nat l i hlt, if_pos e]
      · rw [List.drop_eq_getElem_cons hlt, ← e]
        simp
    · obtain ⟨r, h1, h2⟩ := index_loop l a hl n (i + 1) (by omega) (by omega)
      refine ⟨r, Ev.step (f := fun k => slices_Index_int_int.l0 k l a l.length (i + 1 : Nat)) (fun k => ?_) h1, ?_⟩
      · simp only [slices_Index_int_int.l0]
        rw [if_pos (by omega), if_pos (by omega), if_pos (by omega), rd_nat l i hlt, if_neg e, wrap_succ (by omega)]
      · rw [h2, List.drop_eq_getElem_cons hlt]
        simp [-List.getElem_cons_drop, e]
theorem contains_ev (l : List Int) (a : Int) (hl : l.length ≤ 9223372036854775806) : Ev (fun k => slices_Contains_int_int.f k l a) (decide (a ∈ l)) := by
  unfold slices_Contains_int_int.f slices_Index_int_int.f
  obtain ⟨r, h1, h2⟩ := index_loop l a hl l.length 0 (by omega) (by omega)
  rw [List.drop_zero] at h2
  exact ev_bind h1 (ev_some_of h2)
end Go.Proofs.Ytobkledmbnacjaa.Lib
