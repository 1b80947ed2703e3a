/- What Makes and MakesList answer (the reference's and the program's); more that is known makes no less. No conditions but lengths. -/
import Derived.Test.YtdgahpigcaejbaaVLibMakes
import Derived.Test.YtdgahpigcaejbaaVLibBools
import Derived.Test.YtdgahpigcaejbaaVLibSets
import Derived.Test.YtdgahpigcaejbaaVEg2
set_option linter.unusedVariables false
set_option linter.unusedSimpArgs false
namespace Go.Proofs.Ytdgahpigcaejbaa.Lib
open Go.RowKit Go.Proofs.Ytdgahpigcaejbaa.E Go.Proofs.YtdgahpigcaejbaaW.PrintWords Go.Proofs.YtdgahpigcaejbaaW.PrintLast Go.Proofs.YtdgahpigcaejbaaW.PrintMore
def makesB (l : List Nd) (t : List Int) (a : Int) : Bool := (poolOkB l && knowB l.length t) && (hasB l.length a && tgt l (kn t) a.toNat)
theorem has_nat {n : Nat} {a : Int} (h : hasB n a = true) : ∃ m : Nat, a = m ∧ m < n := by
  unfold hasB at h
  simp only [decide_eq_true_eq] at h
  exact ⟨a.toNat, by omega, by omega⟩
theorem specMakes_ev (l : List Nd) (t : List Int) (a : Int) (hl : l.length ≤ 1048576) (ht : t.length ≤ 1048576) : Ev (fun k => spec_Makes.f k l t a) (makesB l t a) := by
  unfold spec_Makes.f makesB
  refine ev_bind (specKnowOk_ev l t (by omega) (by omega)) ?_
  by_cases h : (poolOkB l && knowB l.length t) = true
  · rw [h, Bool.true_and]
    have h' := h
    rw [Bool.and_eq_true] at h'
    refine ev_if_pos rfl (ev_bind_const (specHas_eq l a (by omega)) ?_)
    by_cases hh : hasB l.length a = true
    · obtain ⟨m, rfl, hm⟩ := has_nat hh
      rw [hh, Bool.true_and, Int.toNat_natCast]
      refine ev_if_pos rfl (ev_bind (specAll_ev l h'.1 t ht) (ev_if_pos (by omega) (ev_if_pos (by rw [mk_length]; omega) (ev_some_of (mk_rd _ _ m hm)))))
    · rw [Bool.not_eq_true] at hh
      rw [hh, Bool.false_and]
      exact ev_if_neg (by simp) (ev_some _)
  · rw [Bool.not_eq_true] at h
    rw [h, Bool.false_and]
    exact ev_if_neg (by simp) (ev_some _)
end Go.Proofs.Ytdgahpigcaejbaa.Lib
