/- A term that is put among drawn ones is there, at its place, and nothing else more; put twice it is put once. No conditions. -/
import Derived.Test.YtilnfdnigjblcaaXLibPutK
import Derived.Test.YtilnfdnigjblcaaXLibDrawKnow
import Derived.Test.YtilnfdnigjblcaaXLibSame
import Derived.Test.YtilnfdnigjblcaaXLibHas
import Derived.Test.YtilnfdnigjblcaaXNg7
import Derived.Test.YtilnfdnigjblcaaXNg9
set_option linter.unusedVariables false
set_option linter.unusedSimpArgs false
namespace Go.Proofs.Ytilnfdnigjblcaa.Pure
open Go.RowKit Go.Proofs.Ytilnfdnigjblcaa.N Go.Proofs.Ytilnfdnigjblcaa.Lib Go.Proofs.YtilnfdnigjblcaaW.PrintWords Go.Proofs.YtilnfdnigjblcaaW.PrintLast

theorem FnKnown : laws_FnKnown.Pure := by
  intro l0 hm _ _
  have hb : l0.length ≤ 9223372036854775806 := by unfold maxLen at hm; omega
  refine ev_rounds ?_
  unfold laws_FnKnown.f
  refine ev_bind_const (a := decide ((l0.length : Int) > 1048576)) rfl ?_
  by_cases hbig : (l0.length : Int) > 1048576
  · exact ev_if_pos (decide_eq_true hbig) (ev_some _)
  refine ev_if_neg (by simpa using hbig) ?_
  obtain ⟨p, t, x, hd, hp, ht⟩ := l6Draw_ok l0 hb
  have hd' : Ev (fun k => spec_DrawKnowPut.f k l0) (p, t, x) := by unfold spec_DrawKnowPut.f; exact ev_bind hd (ev_some _)
  have im := implKnowPut_ev p t x (by omega) (by omega)
  have sm := specKnowPut_ev p t x (by omega) (by omega)
  have sk := specKnowOk_ev p t (by omega) (by omega)
  refine ev_bind hd' (ev_bind im (ev_bind sm (ev_if_neg (by simp) (ev_bind sk ?_))))
  by_cases hk : (poolOkB p && knowB p.length t) = true
  · refine ev_if_pos hk ?_
    have hk' := hk
    rw [Bool.and_eq_true] at hk'
    by_cases hh : hasB p.length x = true
    · have hu : kputL p t x = kput t x := by unfold kputL; rw [if_pos hk, if_pos hh]
      rw [hu]
      have hkn := kput_know hk'.2 hh
      have hul := kput_len t x
      by_cases h2 : (kput t x).2 = true
      · refine ev_if_pos h2 ?_
        have hx : x ∈ (kput t x).1 := by
          unfold kput at h2 ⊢
          by_cases hm : x ∈ t
          · rw [if_pos hm]; exact hm
          · rw [if_neg hm] at h2 ⊢
            by_cases hl : 200 ≤ t.length
            · rw [if_pos hl] at h2; exact absurd h2 (by simp)
            · rw [if_neg hl]; exact (putF_mem t x x).2 (.inl rfl)
        have hlen : ((kput t x).1.length : Int) = (t.length : Int) + (if x ∈ t then 0 else 1) := by
          unfold kput at h2 ⊢
          by_cases hm : x ∈ t
          · rw [if_pos hm, if_pos hm]; simp
          · rw [if_neg hm] at h2
            rw [if_neg hm, if_neg hm]
            by_cases hl : 200 ≤ t.length
            · rw [if_pos hl] at h2; exact absurd h2 (by simp)
            · rw [if_neg hl]
              show ((putF t x false).length : Int) = _
              rw [putF_len]; omega
        generalize (kput t x).1 = u at hkn hul hx hlen
        have ia := implKnowPut_ev p u x (by omega) (by omega)
        have hau : kputL p u x = (u, true) := by
          unfold kputL kput
          rw [if_pos (by rw [hk'.1, hkn]; rfl), if_pos hh, if_pos hx]
        rw [hau] at ia
        have ih := implKnowHas_ev t x (by omega)
        have iu := implKnowHas_ev u x (by omega)
        have io := implKnowOk_ev p u (by omega) (by omega)
        have hou : (poolOkB p && knowB p.length u) = true := by rw [hk'.1, hkn]; rfl
        rw [hou] at io
        have w0 : wrap64 ((t.length : Int) + 0) = (t.length : Int) + 0 := wrap_id (by omega) (by omega)
        have w1 : wrap64 ((t.length : Int) + 1) = (t.length : Int) + 1 := wrap_id (by omega) (by omega)
        refine ev_bind ia (ev_bind ih ?_)
        by_cases hm : x ∈ t
        · rw [if_pos hm] at hlen
          exact ev_if_pos (by simpa using hm) (ev_bind iu (ev_if_pos (by simpa using hx) (ev_if_pos (by rw [w0]; exact hlen) (ev_if_pos rfl (ev_bind (same_refl u (by omega)) (ev_if_pos rfl (ev_bind io (ev_some _))))))))
        · rw [if_neg hm] at hlen
          exact ev_if_neg (by simpa using hm) (ev_bind iu (ev_if_pos (by simpa using hx) (ev_if_pos (by rw [w1]; exact hlen) (ev_if_pos rfl (ev_bind (same_refl u (by omega)) (ev_if_pos rfl (ev_bind io (ev_some _))))))))
      · have h1 : (kput t x).1 = t := by
          unfold kput at h2 ⊢
          by_cases hm : x ∈ t
          · rw [if_pos hm]
          · rw [if_neg hm] at h2 ⊢
            by_cases hl : 200 ≤ t.length
            · rw [if_pos hl]
            · rw [if_neg hl] at h2; exact absurd rfl h2
        rw [h1]
        exact ev_if_neg h2 (ev_bind (same_refl t (by omega)) (ev_some _))
    · have hu : kputL p t x = (t, false) := by unfold kputL; rw [if_pos hk, if_neg hh]
      rw [hu]
      exact ev_if_neg (by simp) (ev_bind (same_refl t (by omega)) (ev_some _))
  · have hu : kputL p t x = ([], false) := by unfold kputL; rw [if_neg hk]
    rw [hu]
    exact ev_if_neg hk (ev_some_of (by simp))

end Go.Proofs.Ytilnfdnigjblcaa.Pure
