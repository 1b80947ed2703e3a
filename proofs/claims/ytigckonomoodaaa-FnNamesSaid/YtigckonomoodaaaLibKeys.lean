/- The shared key of two agents: the program's and the reference's answer are one, whichever stands first. No conditions. -/
import Derived.Test.YtigckonomoodaaaN1
import Derived.Test.YtigckonomoodaaaN2
import Derived.Test.YtigckonomoodaaaLibA
set_option linter.unusedVariables false
set_option linter.unusedSimpArgs false
namespace Go.Proofs.Ytigckonomoodaaa.Lib
open Go.RowKit Go.Proofs.Ytigckonomoodaaa.N Go.Proofs.YtigckonomoodaaaW.PrintWords Go.Proofs.YtigckonomoodaaaW.PrintLast

theorem agent_eq (a : Int) : spec_l2Agent.f a = some (decide (0 ≤ a ∧ a ≤ 4)) := by
  unfold spec_l2Agent.f spec_l1In.f
  by_cases h : a ≥ 0
  · have h' : 0 ≤ a := h
    rw [if_pos h]; simp [h']
  · have h' : ¬ 0 ≤ a := h
    rw [if_neg h]; simp [h']
theorem isAgent_eq (a : Int) : impl_isAgent.f a = some (decide (0 ≤ a ∧ a ≤ 4)) := agent_eq a
def sharedKey (a b : Int) : Int := if (0 ≤ a ∧ a ≤ 4) ∧ (0 ≤ b ∧ b ≤ 4) ∧ a ≠ b then 60 + 5 * mn a b + mx a b else -1
theorem mn_mx (a b : Int) (ha : 0 ≤ a ∧ a ≤ 4) (hb : 0 ≤ b ∧ b ≤ 4) : 0 ≤ mn a b ∧ mn a b ≤ 4 ∧ 0 ≤ mx a b ∧ mx a b ≤ 4 := by
  unfold mn mx
  repeat' split
  all_goals omega
theorem wrap_key (a b : Int) (ha : 0 ≤ a ∧ a ≤ 4) (hb : 0 ≤ b ∧ b ≤ 4) : wrap64 ((wrap64 (60 + (wrap64 (5 * a)))) + b) = 60 + 5 * a + b := by
  rw [wrap_id (i := 5 * a) (by omega) (by omega), wrap_id (i := 60 + 5 * a) (by omega) (by omega), wrap_id (by omega) (by omega)]
theorem implShared_eq (a b : Int) : impl_SharedKey.f a b = some (sharedKey a b) := by
  unfold impl_SharedKey.f sharedKey
  simp only [isAgent_eq, Option.bind_some, decide_eq_true_eq]
  by_cases ha : 0 ≤ a ∧ a ≤ 4
  · by_cases hb : 0 ≤ b ∧ b ≤ 4
    · rw [if_pos ha, if_pos hb]
      by_cases e : a = b
      · rw [if_pos e, if_neg (fun h => h.2.2 e)]
      · have := mn_mx a b ha hb
        rw [if_neg e, if_pos ⟨ha, hb, e⟩, wrap_key _ _ (by omega) (by omega)]
    · rw [if_pos ha, if_neg hb, if_neg (fun h => hb h.2.1)]
  · rw [if_neg ha, if_neg (fun h => ha h.1)]
theorem specMin_eq (a b : Int) : spec_l1Min.f a b = some (mn a b) := by
  unfold spec_l1Min.f mn
  repeat' split
  all_goals first | rfl | (congr 1; omega)
theorem specMax_eq (a b : Int) : spec_l1Max.f a b = some (mx a b) := by
  unfold spec_l1Max.f mx
  repeat' split
  all_goals first | rfl | (congr 1; omega)
theorem specShared_ev (a b : Int) : Ev (fun k => spec_SharedKey.f k a b) (sharedKey a b) := by
  refine ⟨1, fun k hk => ?_⟩
  obtain ⟨k, rfl⟩ : ∃ m, k = m + 1 := ⟨k - 1, by omega⟩
  unfold spec_SharedKey.f sharedKey
  simp only [agent_eq, Option.bind_some, decide_eq_true_eq, spec_SharedKey.j0, specMin_eq, specMax_eq, if_true]
  by_cases ha : 0 ≤ a ∧ a ≤ 4
  · by_cases hb : 0 ≤ b ∧ b ≤ 4
    · rw [if_pos ha, if_pos hb]
      by_cases e : a = b
      · rw [if_pos (by simpa using e), if_neg (fun h => h.2.2 e)]
      · have := mn_mx a b ha hb
        rw [if_neg (by simpa using e), if_pos ⟨ha, hb, e⟩, wrap_key _ _ (by omega) (by omega)]
    · rw [if_pos ha, if_neg hb, if_neg (fun h => hb h.2.1)]
  · rw [if_neg ha, if_neg (fun h => ha h.1)]
theorem sharedKey_comm (a b : Int) : sharedKey a b = sharedKey b a := by
  have h1 : mn a b = mn b a := by unfold mn; repeat' split
                                  all_goals omega
  have h2 : mx a b = mx b a := by unfold mx; repeat' split
                                  all_goals omega
  unfold sharedKey
  rw [h1, h2]
  by_cases h : (0 ≤ a ∧ a ≤ 4) ∧ (0 ≤ b ∧ b ≤ 4) ∧ a ≠ b
  · rw [if_pos h, if_pos ⟨h.2.1, h.1, fun e => h.2.2 e.symm⟩]
  · rw [if_neg h, if_neg (fun g => h ⟨g.2.1, g.1, fun e => g.2.2 e.symm⟩)]

end Go.Proofs.Ytigckonomoodaaa.Lib
