/- A right pool's nodes and their parts; small words for lists. No conditions but lengths. -/
import Derived.Test.YtjcemohmlpgfnaaDoorYLibPool
import Derived.Test.YtjcemohmlpgfnaaDoorYLibKnow
import Derived.Test.YtjcemohmlpgfnaaDoorYKg1
import Derived.Test.YtjcemohmlpgfnaaDoorYKg2
set_option linter.unusedVariables false
set_option linter.unusedSimpArgs false
namespace Go.Proofs.YtjcemohmlpgfnaaDoor.Lib
open Go.RowKit Go.Proofs.YtjcemohmlpgfnaaDoor.K Go.Proofs.YtjcemohmlpgfnaaDoorW.PrintWords Go.Proofs.YtjcemohmlpgfnaaDoorW.PrintLast

theorem okFrom_all (l : List Nd) : ∀ (n i : Nat), okFrom l n i = true → ∀ j, i ≤ j → j < i + n → okStep l j = true
  | 0, i, _, j, h1, h2 => by omega
  | n + 1, i, h, j, h1, h2 => by
    simp only [okFrom, Bool.and_eq_true] at h
    by_cases e : j = i
    · rw [e]; exact h.1
    · exact okFrom_all l n (i + 1) h.2 j (by omega) (by omega)
theorem ok_len {l : List Nd} (h : poolOkB l = true) : l.length ≤ 500 := by
  unfold poolOkB at h
  simp only [Bool.and_eq_true, decide_eq_true_eq] at h
  exact h.1
theorem ok_at {l : List Nd} (h : poolOkB l = true) (i : Nat) (hi : i < l.length) : l[i] ∉ l.take i ∧ nOk l[i] i = true := by
  have hl := ok_len h
  unfold poolOkB at h
  simp only [Bool.and_eq_true, decide_eq_true_eq] at h
  have := okFrom_all l l.length 0 h.2 i (by omega) (by omega)
  rw [okStep_eq l i hi (by omega)] at this
  simpa using this
def partsB (x : Nd) : List Int := if cnt x.f0 = 1 then [x.f1] else if cnt x.f0 = 2 then [x.f1, x.f2] else []
theorem parts_in {x : Nd} {i : Nat} (h : nOk x i = true) : ∀ p ∈ partsB x, 0 ≤ p ∧ p < (i : Int) := by
  intro p hp
  unfold partsB at hp
  unfold nOk at h
  by_cases h1 : cnt x.f0 = 1
  · rw [if_pos h1] at hp
    rw [if_neg (by omega), if_pos h1] at h
    simp at h hp
    subst hp
    exact h.1
  · rw [if_neg h1] at hp
    by_cases h2 : cnt x.f0 = 2
    · rw [if_pos h2] at hp
      rw [if_neg (by omega), if_neg h1, if_pos h2] at h
      simp at h hp
      rcases hp with rfl | rfl
      · exact h.1
      · exact h.2.1
    · rw [if_neg h2] at hp
      simp at hp
theorem parts_len (x : Nd) : (partsB x).length ≤ 2 := by
  unfold partsB
  repeat' split
  all_goals simp
theorem specPartsOf_ev (l : List Nd) (i : Nat) (h : i < l.length) : Ev (fun k => spec_l1PartsOf.f k l i) (partsB l[i]) := by
  unfold spec_l1PartsOf.f
  refine ev_if_pos (by omega) (ev_if_pos (by omega) ?_)
  rw [rdT l i h]
  refine ev_bind (specParts_ev _) ?_
  unfold partsB
  by_cases h1 : cnt l[i].f0 = 1
  · rw [if_pos h1, if_pos h1]; exact ev_some _
  · rw [if_neg h1, if_neg h1]
    by_cases h2 : cnt l[i].f0 = 2
    · rw [if_pos h2, if_pos h2]; exact ev_some _
    · rw [if_neg h2, if_neg h2]; exact ev_some _
theorem implParts_ev (l : List Nd) (i : Nat) (h : i < l.length) : Ev (fun k => impl_Pool_parts.f k l i) (partsB l[i]) := by
  unfold impl_Pool_parts.f
  refine ev_if_pos (by omega) (ev_if_pos (by omega) ?_)
  rw [rdT l i h]
  refine ev_bind (count_ev _) ?_
  unfold partsB
  by_cases h1 : cnt l[i].f0 = 1
  · rw [if_pos h1, if_pos h1]; exact ev_some _
  · rw [if_neg h1, if_neg h1]
    by_cases h2 : cnt l[i].f0 = 2
    · rw [if_pos h2, if_pos h2]; exact ev_some _
    · rw [if_neg h2, if_neg h2]; exact ev_some _
theorem rd_mem (D : List Int) (p : Int) : rd D p = 0 ∨ rd D p ∈ D := by
  unfold rd
  by_cases h : p.toNat < D.length
  · right
    rw [List.getD_eq_getElem?_getD, List.getElem?_eq_getElem h]
    exact List.getElem_mem h
  · left
    rw [List.getD_eq_getElem?_getD, List.getElem?_eq_none (by omega)]
    rfl
theorem getD_at (l : List Nd) (i : Nat) (h : i < l.length) : l.getD i zN = l[i] := by
  rw [List.getD_eq_getElem?_getD, List.getElem?_eq_getElem h]
  rfl
theorem rd_app_left (D R : List Int) (p : Int) (h0 : 0 ≤ p) (h : p < (D.length : Int)) : rd (D ++ R) p = rd D p := by
  unfold rd
  rw [List.getD_eq_getElem?_getD, List.getD_eq_getElem?_getD, List.getElem?_append_left (by omega)]
theorem rd_app_mid (D R : List Int) (v : Int) : rd (D ++ v :: R) (D.length : Int) = v := by
  unfold rd
  simp
theorem set_app_mid (D R : List Int) (u v : Int) : (D ++ v :: R).set D.length u = D ++ u :: R := by
  rw [List.set_append_right _ _ (by omega), Nat.sub_self, List.set_cons_zero]

end Go.Proofs.YtjcemohmlpgfnaaDoor.Lib
