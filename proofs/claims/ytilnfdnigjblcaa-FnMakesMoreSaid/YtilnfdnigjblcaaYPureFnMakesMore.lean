/- More that is known of a drawn pool makes no less; MakesList tells what MakesAll tells. No conditions. -/
import Derived.Test.YtilnfdnigjblcaaYLibMakesB
import Derived.Test.YtilnfdnigjblcaaYLibPutK
import Derived.Test.YtilnfdnigjblcaaYLibDrawKnow
import Derived.Test.YtilnfdnigjblcaaYLibWithin
import Derived.Test.YtilnfdnigjblcaaYMg5
import Derived.Test.YtilnfdnigjblcaaYMg7
set_option linter.unusedVariables false
set_option linter.unusedSimpArgs false
namespace Go.Proofs.Ytilnfdnigjblcaa.Lib
open Go.RowKit Go.Proofs.Ytilnfdnigjblcaa.M Go.Proofs.YtilnfdnigjblcaaW.PrintWords Go.Proofs.YtilnfdnigjblcaaW.PrintLast Go.Proofs.YtilnfdnigjblcaaW.PrintMore

theorem more1_ev (l : List Nd) (hl : l.length ≤ 1048576) (T : Int) (u v : List Int) (hu : u.length ≤ 1048576) (hv : v.length ≤ 1000) (hall : ∀ x ∈ v, makesB l u x = true) (x5 : Int) : ∀ (n i : Nat), v.length - i = n → i ≤ v.length →
    Ev (fun k => laws_FnMakesMore.l1 k x5 (decide (x5 ∈ v)) v u i l) true
  | 0, i, hn, hi => by
    refine Ev.step (fun k => by rw [laws_FnMakesMore.l1]) ?_
    exact ev_if_neg (by omega) (ev_bind (within_ev v x5 (by omega)) (ev_some_of (by simp)))
  | n + 1, i, hn, hi => by
    have hlt : i < v.length := by omega
    have nx := more1_ev l hl T u v hu hv hall x5 n (i + 1) (by omega) (by omega)
    have hx := hall v[i] (List.getElem_mem hlt)
    have hm := implMakes_ev l u v[i] hl hu
    rw [hx] at hm
    refine Ev.step (fun k => by rw [laws_FnMakesMore.l1]) ?_
    refine ev_if_pos (by omega) (ev_if_pos (by omega) ?_)
    rw [rd_nat v i hlt, wrap_succ (by omega)]
    exact ev_bind hm (ev_if_pos rfl nx)
theorem more0_ev (b : List Int) (l : List Nd) (hl : l.length ≤ 500) (t : List Int) (ht : t.length ≤ 1000) (x5 : Int) : ∀ (n i : Nat), (allL l t).length - i = n → i ≤ (allL l t).length →
    Ev (fun k => laws_FnMakesMore.l0 k b t x5 (decide (x5 ∈ listL l t)) (listL l t) (allL l t) i l) true
  | 0, i, hn, hi => by
    have h5 := listL_len l t
    have hat : ∃ c, laws_at.f b 1 = some c := by
      unfold laws_at.f
      split
      · exact ⟨_, if_pos (by omega)⟩
      · exact ⟨_, rfl⟩
    obtain ⟨c, hat⟩ := hat
    have hw : wrap64 ((l.length : Int) + 1) = (l.length : Int) + 1 := wrap_id (by omega) (by omega)
    refine Ev.step (fun k => by rw [laws_FnMakesMore.l0]) ?_
    refine ev_if_neg (by omega) (ev_bind_const hat (ev_if_neg (by rw [hw]; omega) ?_))
    generalize Int.tmod c (wrap64 ((l.length : Int) + 1)) = a
    refine ev_bind (implKnowPut_ev l t a (by omega) (by omega)) ?_
    by_cases h : (kputL l t a).2 = true
    · refine ev_if_pos h ?_
      have hkl := kputL_len l t a
      refine more1_ev l (by omega) 0 (kputL l t a).1 (listL l t) (by omega) (by omega) (fun x hx => ?_) x5 _ 0 rfl (by omega)
      rw [mem_listL] at hx
      unfold kputL at h ⊢
      by_cases hk : (poolOkB l && knowB l.length t) = true
      · rw [if_pos hk] at h ⊢
        by_cases hb : hasB l.length a = true
        · rw [if_pos hb] at h ⊢
          rw [Bool.and_eq_true] at hk
          exact makes_more hx (kput_know hk.2 hb) (kput_in t a)
        · rw [if_neg hb] at h
          exact absurd h (by simp)
      · rw [if_neg hk] at h
        exact absurd h (by simp)
    · exact ev_if_neg h (ev_some _)
  | n + 1, i, hn, hi => by
    have hlt : i < (allL l t).length := by omega
    have h5 := listL_len l t
    have h6 := allL_len l t
    have nx := more0_ev b l hl t ht x5 n (i + 1) (by omega) (by omega)
    refine Ev.step (fun k => by rw [laws_FnMakesMore.l0]) ?_
    refine ev_if_pos (by omega) (ev_if_pos (by omega) (ev_bind (within_ev (listL l t) (i : Int) (by omega)) ?_))
    have e : rdOf false (allL l t) (i : Int) = decide ((i : Int) ∈ listL l t) := by
      rw [rdOf_getD, Int.toNat_natCast]
      unfold listL
      generalize allL l t = v at hlt
      by_cases hg : v.getD i false = true
      · rw [hg, eq_comm, decide_eq_true_eq]
        exact List.mem_map.2 ⟨i, List.mem_filter.2 ⟨List.mem_range.2 hlt, hg⟩, rfl⟩
      · rw [Bool.not_eq_true] at hg
        rw [hg, eq_comm, decide_eq_false_iff_not]
        intro hm
        obtain ⟨j, hj, e⟩ := List.mem_map.1 hm
        have : j = i := by omega
        subst this
        have := (List.mem_filter.1 hj).2
        rw [hg] at this
        exact absurd this (by simp)
    rw [e, wrap_succ (by omega)]
    exact ev_if_neg (by simp) nx
end Go.Proofs.Ytilnfdnigjblcaa.Lib
namespace Go.Proofs.Ytilnfdnigjblcaa.Pure
open Go.RowKit Go.Proofs.Ytilnfdnigjblcaa.M Go.Proofs.Ytilnfdnigjblcaa.Lib Go.Proofs.YtilnfdnigjblcaaW.PrintWords Go.Proofs.YtilnfdnigjblcaaW.PrintLast

theorem FnMakesMore : laws_FnMakesMore.Pure := by
  intro l0 hm _ _
  have hb : l0.length ≤ 9223372036854775806 := by unfold maxLen at hm; omega
  refine ev_rounds ?_
  unfold laws_FnMakesMore.f
  refine ev_bind_const (a := decide ((l0.length : Int) > 1048576)) rfl ?_
  by_cases hbig : (l0.length : Int) > 1048576
  · exact ev_if_pos (decide_eq_true hbig) (ev_some _)
  refine ev_if_neg (by simpa using hbig) ?_
  obtain ⟨p, t, x, hd, hp, ht⟩ := l6Draw_ok l0 hb
  have hd' : Ev (fun k => spec_DrawMakes.f k l0) (p, t, x) := by unfold spec_DrawMakes.f; exact ev_bind hd (ev_some _)
  have im := implMakes_ev p t x (by omega) (by omega)
  have sm := specMakes_ev p t x (by omega) (by omega)
  have ia := implMakesAll_ev p t (by omega) (by omega)
  have il := implMakesList_ev p t (by omega) (by omega)
  have e : makesB p t x = decide (x ∈ listL p t) := by
    by_cases h : makesB p t x = true
    · rw [h, eq_comm, decide_eq_true_eq]; exact (mem_listL x).2 h
    · rw [eq_comm, decide_eq_false (fun hm => h ((mem_listL x).1 hm))]; simpa using h
  refine ev_bind hd' (ev_bind im (ev_bind sm (ev_if_neg (by simp) (ev_bind il (ev_bind ia ?_)))))
  rw [e]
  exact more0_ev l0 p hp t ht x _ 0 rfl (by omega)

end Go.Proofs.Ytilnfdnigjblcaa.Pure
