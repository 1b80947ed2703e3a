/- impl_PartsOf of the program answers what the reference's answers, leaves its pool as it was, and answers alike when its first answer is written over. No conditions. -/
import Derived.Test.YtafahnellnfclaaLibDeepA
import Derived.Test.YtafahnellnfclaaLibInts
import Derived.Test.YtafahnellnfclaaLibMarks
import Derived.Test.YtafahnellnfclaaQ2
import Derived.Test.YtafahnellnfclaaQ10
import Derived.Test.YtafahnellnfclaaQ14
import Derived.Test.YtafahnellnfclaaQ15
import Derived.Test.YtafahnellnfclaaQ16
import Derived.Test.YtafahnellnfclaaQ17
import Derived.Test.YtafahnellnfclaaStmFnExactPartsOf
set_option linter.unusedVariables false
set_option linter.unusedSimpArgs false
namespace Go.Proofs.Ytafahnellnfclaa.Lib
open Go.RowKit Go.Proofs.Ytafahnellnfclaa.Q Go.Proofs.YtafahnellnfclaaW.PrintWords Go.Proofs.YtafahnellnfclaaW.PrintLast
/-- The parts that are told of a term. -/
def partsOfL (l : List Nd) (a : Int) : List Int := if poolOkB l = true ∧ hasB l.length a = true then partsB (l.getD a.toNat zN) else []
theorem partsOfL_len (l : List Nd) (a : Int) : (partsOfL l a).length ≤ 2 + l.length := by
  unfold partsOfL
  split
  · have := parts_len (l.getD a.toNat zN); omega
  · simp
theorem specPartsOfL_ev (l : List Nd) (a : Int) (hl : l.length ≤ 9223372036854775806) : Ev (fun k => spec_PartsOf.f k l a) (partsOfL l a) := by
  unfold spec_PartsOf.f partsOfL
  refine ev_bind (specPoolOk_ev l hl) ?_
  by_cases hok : poolOkB l = true
  · refine ev_if_pos hok (ev_bind_const (specHas_eq l a (by omega)) ?_)
    by_cases hh : hasB l.length a = true
    · rw [if_pos ⟨hok, hh⟩]
      refine ev_if_pos hh ?_
      unfold hasB at hh
      simp only [decide_eq_true_eq] at hh
      obtain ⟨n, rfl⟩ : ∃ n : Nat, a = n := ⟨a.toNat, by omega⟩
      rw [Int.toNat_natCast, getD_at l n (by omega)]
      exact ev_bind (specPartsOf_ev l n (by omega)) (ev_some _)
    · rw [if_neg (fun h => hh h.2)]
      exact ev_if_neg hh (ev_some _)
  · rw [if_neg (fun h => hok h.1)]
    exact ev_if_neg hok (ev_some _)
theorem implPartsOfL_ev (l : List Nd) (a : Int) (hl : l.length ≤ 9223372036854775806) : Ev (fun k => impl_PartsOf.f k l a) (partsOfL l a) := by
  unfold impl_PartsOf.f partsOfL
  refine ev_bind_const (isTerm_eq l a (by omega)) ?_
  by_cases hh : hasB l.length a = true
  · refine ev_if_pos hh (ev_bind (implPoolOk_ev l) ?_)
    by_cases hok : poolOkB l = true
    · rw [if_pos ⟨hok, hh⟩]
      refine ev_if_pos hok ?_
      unfold hasB at hh
      simp only [decide_eq_true_eq] at hh
      obtain ⟨n, rfl⟩ : ∃ n : Nat, a = n := ⟨a.toNat, by omega⟩
      rw [Int.toNat_natCast, getD_at l n (by omega)]
      exact ev_bind (implParts_ev l n (by omega)) (ev_some _)
    · rw [if_neg (fun h => hok h.1)]
      exact ev_if_neg hok (ev_some _)
  · rw [if_neg (fun h => hh h.2)]
    exact ev_if_neg hh (ev_some _)
end Go.Proofs.Ytafahnellnfclaa.Lib
namespace Go.Proofs.Ytafahnellnfclaa.Pure
open Go.RowKit Go.Proofs.Ytafahnellnfclaa.Q Go.Proofs.Ytafahnellnfclaa.Lib Go.Proofs.YtafahnellnfclaaW.PrintWords Go.Proofs.YtafahnellnfclaaW.PrintLast

theorem FnExactPartsOf : Stm.FnExactPartsOf := by
  intro l a hm _ _
  refine ev_rounds ?_
  unfold laws_FnExactPartsOf.f
  refine szPool_ev hm fun hl => ?_
  have hc := toPool_ev l hl
  have hlen : (cp l).length ≤ 9223372036854775806 := by rw [cp_length]; omega
  obtain ⟨ys, hy⟩ := markPool_ev (cp l) (by rw [cp_length]; omega)
  have hsp := specPartsOfL_ev (cp l) a hlen
  have him := implPartsOfL_ev (cp l) a hlen
  have hv : (partsOfL (cp l) a).length ≤ 1048576 := by
    have := partsOfL_len (cp l) a
    rw [cp_length] at this
    have h2 : (partsOfL (cp l) a).length ≤ 2 := by unfold partsOfL; split; exact parts_len _; simp
    omega
  have hcl := cp_length l
  generalize partsOfL (cp l) a = v at hsp him hv
  have he := eqIntS_ev v v (by omega)
  have hmk := markIntS_ev v (by omega)
  have hh := heldIntS_ev v.length (by omega)
  refine ev_bind hc (ev_bind hsp (ev_bind hc (ev_bind him (ev_bind he (ev_if_pos (by simp) (ev_bind hc (ev_bind (eqPool_refl (cp l) hlen) (ev_if_pos rfl (ev_bind hy (ev_if_neg (by show ¬ (3 * ((cp l).length : Int) + 1 < 0); omega) (ev_bind he ?_)))))))))))
  refine Ev.step (f := fun k => (laws_markIntS.f k v 1).bind fun bt => (laws_heldIntS.f k bt.2 1).bind fun t => if t < 0 then some false else if t = bt.1 then ((laws_toPool.f k l).bind fun t1 => (impl_PartsOf.f k t1 a).bind fun t2 => (laws_eqIntS.f k t2 v).bind fun t3 => if t3 = true then ((laws_heldIntS.f k bt.2 1).bind fun t4 => if t4 < 0 then some false else if t4 = bt.1 then some true else some false) else some false) else some false) (fun k => ?_) ?_
  · simp [laws_FnExactPartsOf.j0]
  · exact ev_bind hmk (ev_bind hh (ev_if_neg (by omega) (ev_if_pos rfl (ev_bind hc (ev_bind him (ev_bind he (ev_if_pos (by simp) (ev_bind hh (ev_if_neg (by omega) (ev_if_pos rfl (ev_some _)))))))))))

end Go.Proofs.Ytafahnellnfclaa.Pure
