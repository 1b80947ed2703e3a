/- TermHas of the program answers what the reference's answers, and leaves its pool as it was. No conditions. -/
import Derived.Test.YtafahnellnfclaaLibBelow
import Derived.Test.YtafahnellnfclaaLibInts
import Derived.Test.YtafahnellnfclaaQ24
import Derived.Test.YtafahnellnfclaaQ27
import Derived.Test.YtafahnellnfclaaQ28
import Derived.Test.YtafahnellnfclaaStmFnExactTermHas
set_option linter.unusedVariables false
set_option linter.unusedSimpArgs false
namespace Go.Proofs.Ytafahnellnfclaa.Lib
open Go.RowKit Go.Proofs.Ytafahnellnfclaa.Q Go.Proofs.YtafahnellnfclaaW.PrintWords Go.Proofs.YtafahnellnfclaaW.PrintLast
theorem below_len (l : List Nd) (a : Int) : (belowOf l a).length ≤ l.length := by
  unfold belowOf belowL
  split
  · rw [List.length_map]
    exact Nat.le_trans (List.length_filter_le _ _) (by simp)
  · simp
/-- Whether a term stands in another one. -/
def hasOf (l : List Nd) (a b : Int) : Bool := decide (b ∈ belowOf l a)
theorem mem_belowL (l : List Nd) (n : Nat) (b : Int) : b ∈ belowL l n ↔ ∃ y : Nat, y < l.length ∧ ins l n y = true ∧ (y : Int) = b := by
  unfold belowL
  simp only [List.mem_map, List.mem_filter, List.mem_range]
  constructor
  · rintro ⟨y, ⟨h1, h2⟩, e⟩
    exact ⟨y, h1, h2, e⟩
  · rintro ⟨y, h1, h2, e⟩
    exact ⟨y, ⟨h1, h2⟩, e⟩
theorem implHas_ev (l : List Nd) (a b : Int) (hl : l.length ≤ 9223372036854775806) : Ev (fun k => impl_TermHas.f k l a b) (hasOf l a b) := by
  unfold impl_TermHas.f
  exact ev_bind (implBelow_ev l a hl) (ev_bind (contains_ev _ _ (by have := below_len l a; omega)) (ev_some _))
theorem specHasT_ev (l : List Nd) (a b : Int) (hl : l.length ≤ 9223372036854775806) : Ev (fun k => spec_TermHas.f k l a b) (hasOf l a b) := by
  unfold spec_TermHas.f hasOf belowOf
  refine ev_bind (specPoolOk_ev l hl) ?_
  by_cases hok : poolOkB l = true
  · refine ev_if_pos hok (ev_bind_const (specHas_eq l a (by omega)) ?_)
    by_cases hh : hasB l.length a = true
    · rw [if_pos ⟨hok, hh⟩]
      refine ev_if_pos hh (ev_bind_const (specHas_eq l b (by omega)) ?_)
      by_cases hb : hasB l.length b = true
      · refine ev_if_pos hb ?_
        unfold hasB at hh hb
        simp only [decide_eq_true_eq] at hh hb
        obtain ⟨n, rfl⟩ : ∃ n : Nat, a = n := ⟨a.toNat, by omega⟩
        obtain ⟨m, rfl⟩ : ∃ m : Nat, b = m := ⟨b.toNat, by omega⟩
        refine ev_bind (specInside_ev l hok n (by omega)) (ev_if_pos (by omega) (ev_if_pos (by rw [mk_length]; omega) (ev_some_of ?_)))
        rw [mk_rd _ _ _ (by omega), Bool.eq_iff_iff]
        rw [decide_eq_true_eq, mem_belowL, Int.toNat_natCast]
        constructor
        · intro h
          exact ⟨m, by omega, h, rfl⟩
        · rintro ⟨y, _, h, e⟩
          have : y = m := by omega
          rw [← this]; exact h
      · refine ev_if_neg hb (ev_some_of ?_)
        unfold hasB at hb
        simp only [decide_eq_true_eq] at hb
        symm
        rw [decide_eq_false_iff_not, mem_belowL]
        rintro ⟨y, h, _, e⟩
        exact hb (by omega)
    · rw [if_neg (fun h => hh h.2)]
      exact ev_if_neg hh (ev_some_of (by simp))
  · rw [if_neg (fun h => hok h.1)]
    exact ev_if_neg hok (ev_some_of (by simp))
end Go.Proofs.Ytafahnellnfclaa.Lib
namespace Go.Proofs.Ytafahnellnfclaa.Pure
open Go.RowKit Go.Proofs.Ytafahnellnfclaa.Q Go.Proofs.Ytafahnellnfclaa.Lib Go.Proofs.YtafahnellnfclaaW.PrintWords Go.Proofs.YtafahnellnfclaaW.PrintLast

theorem FnExactTermHas : Stm.FnExactTermHas := by
  intro l a b hm _ _ _
  refine ev_rounds ?_
  unfold laws_FnExactTermHas.f
  refine szPool_ev hm fun hl => ?_
  have hc := toPool_ev l hl
  have hlen : (cp l).length ≤ 9223372036854775806 := by rw [cp_length]; omega
  exact ev_bind hc (ev_bind (specHasT_ev (cp l) a b hlen) (ev_bind hc (ev_bind (implHas_ev (cp l) a b hlen) (ev_if_neg (by simp) (ev_bind hc (ev_bind (eqPool_refl (cp l) hlen) (ev_if_pos rfl (ev_some _))))))))

end Go.Proofs.Ytafahnellnfclaa.Pure
