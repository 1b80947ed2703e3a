/- What is joined of drawn lists is in one of both, whichever stands first. No conditions. -/
import Derived.Test.YtdgahpigcaejbaaXLibJoin
import Derived.Test.YtdgahpigcaejbaaXLibDrawKnow
import Derived.Test.YtdgahpigcaejbaaXLibSame
import Derived.Test.YtdgahpigcaejbaaXLibHas
import Derived.Test.YtdgahpigcaejbaaXDg3
import Derived.Test.YtdgahpigcaejbaaXDg4
set_option linter.unusedVariables false
set_option linter.unusedSimpArgs false
namespace Go.Proofs.Ytdgahpigcaejbaa.Lib
open Go.RowKit Go.Proofs.Ytdgahpigcaejbaa.D Go.Proofs.YtdgahpigcaejbaaW.PrintWords Go.Proofs.YtdgahpigcaejbaaW.PrintLast Go.Proofs.YtdgahpigcaejbaaW.PrintMore

theorem drawJoin_ok (b : List Int) (hb : b.length ≤ 1048576) : ∃ q s t, Ev (fun k => spec_DrawKnowJoin.f k b) (q, s, t) ∧ q.length ≤ 500 ∧ s.length ≤ 1000 ∧ t.length ≤ 1000 := by
  unfold spec_DrawKnowJoin.f
  obtain ⟨p, t, x, hd, hp, ht⟩ := l6Draw_ok b (by omega)
  obtain ⟨h, e⟩ := new_ok (([3] : List Int) ++ b) (by simp; omega)
  obtain ⟨r, i', h', e2, hr, _⟩ := drawKnowAny_ok h p (cur_new (([3] : List Int) ++ b) (by simp; omega))
  exact ⟨p, t, r, ev_bind hd (ev_if_pos (by simp; omega) (ev_bind e (ev_bind e2 (ev_some _)))), hp, ht, hr⟩
theorem joined_loop (l : List Nd) (a b : List Int) (ha : a.length ≤ 1000) (hb : b.length ≤ 1000) : ∀ (n i : Nat), (joinL l a b).1.length - i = n → i ≤ (joinL l a b).1.length →
    Ev (fun k => laws_FnJoined.l0 k a b (joinL l a b).1 (joinL l a b).2 i) true
  | 0, i, hn, hi => by
    have hl := joinL_len l a b
    refine Ev.step (fun k => by rw [laws_FnJoined.l0]) (ev_if_neg (by omega) ?_)
    by_cases h : (joinL l a b).2 = true
    · obtain ⟨h1, h2, h3⟩ := joinL_fits h
      refine ev_if_pos h (ev_if_pos (by omega) (ev_if_pos (by omega) (ev_some_of ?_)))
      rw [wrap_id (by omega) (by omega), decide_eq_true_eq]
      omega
    · refine ev_if_neg h (ev_some_of ?_)
      rw [joinL_fails h]
      rfl
  | n + 1, i, hn, hi => by
    have hl := joinL_len l a b
    have hlt : i < (joinL l a b).1.length := by omega
    have nx := joined_loop l a b ha hb n (i + 1) (by omega) (by omega)
    refine Ev.step (fun k => by rw [laws_FnJoined.l0]) ?_
    refine ev_if_pos (by omega) (ev_if_pos (by omega) ?_)
    rw [rd_nat _ i hlt, wrap_succ (by omega)]
    refine ev_bind (implKnowHas_ev a _ (by omega)) ?_
    by_cases h1 : (joinL l a b).1[i] ∈ a
    · exact ev_if_pos (by simpa using h1) nx
    · have h2 := (joinL_mem (List.getElem_mem hlt)).resolve_left h1
      exact ev_if_neg (by simpa using h1) (ev_bind (implKnowHas_ev b _ (by omega)) (ev_if_pos (by simpa using h2) nx))
end Go.Proofs.Ytdgahpigcaejbaa.Lib
namespace Go.Proofs.Ytdgahpigcaejbaa.Pure
open Go.RowKit Go.Proofs.Ytdgahpigcaejbaa.D Go.Proofs.Ytdgahpigcaejbaa.Lib Go.Proofs.YtdgahpigcaejbaaW.PrintWords Go.Proofs.YtdgahpigcaejbaaW.PrintLast

theorem FnJoined : laws_FnJoined.Pure := by
  intro l0 hm _ _
  refine ev_rounds ?_
  unfold laws_FnJoined.f
  refine ev_bind_const (a := decide ((l0.length : Int) > 1048576)) rfl ?_
  by_cases hbig : (l0.length : Int) > 1048576
  · exact ev_if_pos (decide_eq_true hbig) (ev_some _)
  refine ev_if_neg (by simpa using hbig) ?_
  obtain ⟨p, a, b, hd, hp, ha, hb⟩ := drawJoin_ok l0 (by omega)
  have i1 := implJoin_ev p a b (by omega) (by omega) (by omega)
  have i2 := implJoin_ev p b a (by omega) (by omega) (by omega)
  have s1 := specJoin_ev p a b (by omega) (by omega) (by omega)
  rw [← joinL_turn p a b] at i2
  have hl := joinL_len p a b
  refine ev_bind hd (ev_bind i1 (ev_bind s1 (ev_bind i2 (ev_if_neg (by simp) (ev_if_neg (by simp) (ev_bind (same_refl _ (by omega)) ?_))))))
  refine Ev.step (fun k => by rw [laws_FnJoined.j0]) (ev_if_neg (by simp) ?_)
  exact joined_loop p a b ha hb _ 0 rfl (by omega)

end Go.Proofs.Ytdgahpigcaejbaa.Pure
