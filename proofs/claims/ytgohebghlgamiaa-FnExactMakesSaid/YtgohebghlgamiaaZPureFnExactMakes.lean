/- impl_Makes of the program answers what the reference's answers and leaves its arguments as they were. No conditions. -/
import Derived.Test.YtgohebghlgamiaaZLibMakes
import Derived.Test.YtgohebghlgamiaaZMg4
import Derived.Test.YtgohebghlgamiaaZMg6
import Derived.Test.YtgohebghlgamiaaZMg8
import Derived.Test.YtgohebghlgamiaaZStmFnExactMakes
set_option linter.unusedVariables false
set_option linter.unusedSimpArgs false
namespace Go.Proofs.Ytgohebghlgamiaa.Lib
open Go.RowKit Go.Proofs.Ytgohebghlgamiaa.M Go.Proofs.YtgohebghlgamiaaW.PrintWords Go.Proofs.YtgohebghlgamiaaW.PrintLast Go.Proofs.YtgohebghlgamiaaW.PrintMore
def makesB (l : List Nd) (t : List Int) (a : Int) : Bool := (poolOkB l && knowB l.length t) && (hasB l.length a && tgt l (kn t) a.toNat)
theorem has_nat {n : Nat} {a : Int} (h : hasB n a = true) : ∃ m : Nat, a = m ∧ m < n := by
  unfold hasB at h
  simp only [decide_eq_true_eq] at h
  exact ⟨a.toNat, by omega, by omega⟩
theorem specMakes_ev (l : List Nd) (t : List Int) (a : Int) (hl : l.length ≤ 1048576) (ht : t.length ≤ 1048576) : Ev (fun k => spec_Makes.f k l t a) (makesB l t a) := by
  unfold spec_Makes.f makesB
  refine ev_bind (specKnowOk_ev l t (by omega) (by omega)) ?_
  by_cases h : (poolOkB l && knowB l.length t) = true
  · rw [h, Bool.true_and]
    have h' := h
    rw [Bool.and_eq_true] at h'
    refine ev_if_pos rfl (ev_bind_const (specHas_eq l a (by omega)) ?_)
    by_cases hh : hasB l.length a = true
    · obtain ⟨m, rfl, hm⟩ := has_nat hh
      rw [hh, Bool.true_and, Int.toNat_natCast]
      refine ev_if_pos rfl (ev_bind (specAll_ev l h'.1 t ht) (ev_if_pos (by omega) (ev_if_pos (by rw [mk_length]; omega) (ev_some_of (mk_rd _ _ m hm)))))
    · rw [Bool.not_eq_true] at hh
      rw [hh, Bool.false_and]
      exact ev_if_neg (by simp) (ev_some _)
  · rw [Bool.not_eq_true] at h
    rw [h, Bool.false_and]
    exact ev_if_neg (by simp) (ev_some _)
theorem implMakes_ev (l : List Nd) (t : List Int) (a : Int) (hl : l.length ≤ 1048576) (ht : t.length ≤ 1048576) : Ev (fun k => impl_Makes.f k l t a) (makesB l t a) := by
  unfold impl_Makes.f makesB
  refine ev_bind_const (isTerm_eq l a (by omega)) ?_
  by_cases hh : hasB l.length a = true
  · refine ev_if_pos hh (ev_bind (implKnowOk_ev l t (by omega) (by omega)) ?_)
    by_cases h : (poolOkB l && knowB l.length t) = true
    · have h' := h
      rw [Bool.and_eq_true] at h'
      obtain ⟨m, rfl, hm⟩ := has_nat hh
      rw [h, hh, Bool.true_and, Bool.true_and, Int.toNat_natCast]
      exact ev_if_pos rfl (ev_bind (makes_ev l h'.1 t ht (know_in h'.2)) (ev_if_pos (by omega) (ev_if_pos (by rw [mk_length]; omega) (ev_some_of (mk_rd _ _ m hm)))))
    · rw [Bool.not_eq_true] at h
      rw [h, Bool.false_and]
      exact ev_if_neg (by simp) (ev_some _)
  · rw [Bool.not_eq_true] at hh
    rw [hh, Bool.false_and, Bool.and_false]
    exact ev_if_neg (by simp) (ev_some _)
end Go.Proofs.Ytgohebghlgamiaa.Lib
namespace Go.Proofs.Ytgohebghlgamiaa.Pure
open Go.RowKit Go.Proofs.Ytgohebghlgamiaa.M Go.Proofs.Ytgohebghlgamiaa.Lib Go.Proofs.YtgohebghlgamiaaW.PrintWords Go.Proofs.YtgohebghlgamiaaW.PrintLast

theorem FnExactMakes : Stm.FnExactMakes := by
  intro l t a hm _ hmt _ _
  refine ev_rounds ?_
  unfold laws_FnExactMakes.f
  by_cases hbig : (t.length : Int) > 1048576
  · exact ev_if_pos hbig (ev_some _)
  refine ev_if_neg hbig (szPool_ev hm fun hl => ?_)
  have hc := toPool_ev l hl
  have hcl := cp_length l
  have htI := toIntS_ev t (by omega)
  have hsp := specMakes_ev (cp l) t a (by omega) (by omega)
  have him := implMakes_ev (cp l) t a (by omega) (by omega)
  have heI := eqIntS_ev t t (by omega)
  exact ev_bind hc (ev_bind htI (ev_bind hsp (ev_bind hc (ev_bind htI (ev_bind him (ev_if_neg (by simp) (ev_bind hc (ev_bind (eqPool_refl (cp l) (by omega)) (ev_if_pos rfl (ev_bind htI (ev_bind heI (ev_if_pos (by simp) (ev_some _)))))))))))))

end Go.Proofs.Ytgohebghlgamiaa.Pure
