/- A node that is put into a drawn pool is there once, and all terms stay what they are. No conditions. -/
import Derived.Test.YtafahnellnfclaaVLibPut
import Derived.Test.YtafahnellnfclaaVLibDrawPool
import Derived.Test.YtafahnellnfclaaVKg1
import Derived.Test.YtafahnellnfclaaVKg3
import Derived.Test.YtafahnellnfclaaVKg5
import Derived.Test.YtafahnellnfclaaVKg6
set_option linter.unusedVariables false
set_option linter.unusedSimpArgs false
namespace Go.Proofs.Ytafahnellnfclaa.Lib
open Go.RowKit Go.Proofs.Ytafahnellnfclaa.K Go.Proofs.YtafahnellnfclaaW.PrintWords Go.Proofs.YtafahnellnfclaaW.PrintLast Go.Proofs.YtafahnellnfclaaW.PrintMore

theorem drawPut_ok (b : List Int) (hb : b.length ≤ 9223372036854775806) : ∃ q x y z, Ev (fun k => spec_DrawPoolAdd.f k b) (q, x, y, z) ∧ q.length ≤ 500 := by
  unfold spec_DrawPoolAdd.f
  obtain ⟨h, e⟩ := new_ok b hb
  obtain ⟨q, i1, h1, e1, hq, hc1⟩ := drawAny_ok h (cur_new b hb)
  obtain ⟨x, y, z, i2, h2, e2, hc2⟩ := drawNode_ok h1 (q.length : Int) hc1
  obtain ⟨c, i3, h3, e3, _, _, _, hc3⟩ := below_ok h2 12 hc2
  by_cases c0 : c = 0
  · obtain ⟨w, i4, h4, e4, _, _⟩ := pickInt_ok h3 ([(-1), (q.length : Int), 199, 200] : List Int) (by simp) hc3
    exact ⟨q, x, w, z, ev_bind e (ev_bind e1 (ev_bind e2 (ev_bind_const e3 (ev_if_pos c0 (ev_bind_const e4 (ev_some _)))))), hq⟩
  · by_cases c1 : c = 1
    · obtain ⟨w, i4, h4, e4, _, _, _, _⟩ := below_ok h3 10 hc3
      exact ⟨q, w, y, z, ev_bind e (ev_bind e1 (ev_bind e2 (ev_bind_const e3 (ev_if_neg c0 (ev_if_pos c1 (ev_bind_const e4 (ev_some _))))))), hq⟩
    · by_cases c2 : c = 2
      · exact ⟨q, x, y, wrap64 (z + 1), ev_bind e (ev_bind e1 (ev_bind e2 (ev_bind_const e3 (ev_if_neg c0 (ev_if_neg c1 (ev_if_pos c2 (ev_some _))))))), hq⟩
      · exact ⟨q, x, y, z, ev_bind e (ev_bind e1 (ev_bind e2 (ev_bind_const e3 (ev_if_neg c0 (ev_if_neg c1 (ev_if_neg c2 (ev_some _))))))), hq⟩
theorem specPut_ev (p : List Nd) (a b c : Int) (hp : p.length ≤ 500) : Ev (fun k => spec_PoolAdd.f k p a b c) ((poolAddL p ⟨a, b, c⟩).1, (poolAddL p ⟨a, b, c⟩).2, p) := by
  unfold spec_PoolAdd.f
  refine ev_bind (a := poolAddL p ⟨a, b, c⟩) ?_ (ev_some _)
  unfold spec_PoolAdd.f0 poolAddL
  refine ev_bind (specPoolOk_ev p (by omega)) ?_
  by_cases hok : poolOkB p = true
  · rw [if_pos hok]
    have hl := ok_len hok
    refine ev_if_pos hok (ev_bind (specAdd_ev p ⟨a, b, c⟩ (by omega)) (ev_bind_const (specCopy_eq _ ?_) (ev_some _)))
    have := addN_500 p (normN ⟨a, b, c⟩) hl
    omega
  · rw [if_neg hok]
    exact ev_if_neg hok (ev_some _)
theorem put_pre (p : List Nd) (y : Nd) : p <+: (addN p y).1 := by
  unfold addN
  repeat' split
  all_goals first | exact List.prefix_refl _ | exact List.prefix_append _ _
theorem put_at {p : List Nd} {y : Nd} (h : ¬ (addN p y).2 < 0) : ∃ i : Nat, ∃ hi : i < (addN p y).1.length, (addN p y).2 = i ∧ (addN p y).1[i] = y := by
  by_cases hf : findN p y ≥ 0
  · have e : addN p y = (p, findN p y) := by unfold addN; rw [if_pos hf]
    obtain ⟨i, hi, e1, e2⟩ := findN_at hf
    rw [e]
    exact ⟨i, hi, e1, e2⟩
  · by_cases hr : nOk y p.length = true
    · by_cases h5 : p.length = 500
      · have e : addN p y = (p, -1) := by unfold addN; rw [if_neg hf, if_pos hr, if_pos h5]
        rw [e] at h
        exact absurd (show (-1 : Int) < 0 by omega) h
      · have e : addN p y = (p ++ [y], (p.length : Int)) := by unfold addN; rw [if_neg hf, if_pos hr, if_neg h5]
        rw [e]
        exact ⟨p.length, by simp, rfl, by simp⟩
    · have e : addN p y = (p, -1) := by unfold addN; rw [if_neg hf, if_neg hr]
      rw [e] at h
      exact absurd (show (-1 : Int) < 0 by omega) h
theorem put_not {p : List Nd} {y : Nd} (h : (addN p y).2 < 0) : (addN p y).1 = p := by
  by_cases hf : findN p y ≥ 0
  · have e : addN p y = (p, findN p y) := by unfold addN; rw [if_pos hf]
    rw [e]
  · by_cases hr : nOk y p.length = true
    · by_cases h5 : p.length = 500
      · have e : addN p y = (p, -1) := by unfold addN; rw [if_neg hf, if_pos hr, if_pos h5]
        rw [e]
      · have e : addN p y = (p ++ [y], (p.length : Int)) := by unfold addN; rw [if_neg hf, if_pos hr, if_neg h5]
        rw [e] at h
        have h' : (p.length : Int) < 0 := h
        omega
    · have e : addN p y = (p, -1) := by unfold addN; rw [if_neg hf, if_neg hr]
      rw [e]
theorem put_again {q : List Nd} (hok : poolOkB q = true) {i : Nat} (hi : i < q.length) {y : Nd} (e : q[i] = y) : addN q y = (q, (i : Int)) := by
  have hf : findN q y = i := by
    rw [← e]
    exact (find_at q i hi).2 (ok_at hok i hi).1
  unfold addN
  rw [if_pos (by omega), hf]
theorem normN_kind (x : Nd) : (normN x).f0 = x.f0 := by
  unfold normN
  split <;> rfl
theorem pool_loop (p q : List Nd) (t a b c : Int) (hpq : p <+: q) (hp : p.length ≤ 500) (hend : Ev (fun k => if t < 0 then some ((q.length : Int) == (p.length : Int)) else ((impl_PoolAdd.f k q a b c).bind fun bt => if bt.2 = t then (if (bt.1.length : Int) = (q.length : Int) then (if 0 ≤ t then (if t < (q.length : Int) then some ((rd_T34 q t).f0 == a) else none) else none) else some false) else some false)) true) :
    ∀ (n i : Nat), p.length - i = n → i ≤ p.length → Ev (fun k => laws_FnPool.l0 k t i p a b c q) true
  | 0, i, hn, hi => by
    refine Ev.step (fun k => by rw [laws_FnPool.l0]) ?_
    exact ev_if_neg (by omega) hend
  | n + 1, i, hn, hi => by
    have hlt : i < p.length := by omega
    have ih := pool_loop p q t a b c hpq hp hend n (i + 1) (by omega) (by omega)
    obtain ⟨s, rfl⟩ := hpq
    have hlq : i < (p ++ s).length := by simp; omega
    have e : rd_T34 (p ++ s) (i : Int) = rd_T34 p (i : Int) := by rw [rdT _ i hlq, rdT _ i hlt, List.getElem_append_left hlt]
    refine Ev.step (fun k => by rw [laws_FnPool.l0]) ?_
    refine ev_if_pos (by omega) (ev_if_pos (by omega) (ev_if_pos (by omega) (ev_if_neg (by rw [e]; simp) ?_)))
    rw [wrap_succ (by omega)]
    exact ih
end Go.Proofs.Ytafahnellnfclaa.Lib
namespace Go.Proofs.Ytafahnellnfclaa.Pure
open Go.RowKit Go.Proofs.Ytafahnellnfclaa.K Go.Proofs.Ytafahnellnfclaa.Lib Go.Proofs.YtafahnellnfclaaW.PrintWords Go.Proofs.YtafahnellnfclaaW.PrintLast

theorem FnPool : laws_FnPool.Pure := by
  intro l0 hm _ _
  have hb : l0.length ≤ 9223372036854775806 := by unfold maxLen at hm; omega
  refine ev_rounds ?_
  unfold laws_FnPool.f
  refine ev_bind_const (a := decide ((l0.length : Int) > 1048576)) rfl ?_
  by_cases hbig : (l0.length : Int) > 1048576
  · exact ev_if_pos (decide_eq_true hbig) (ev_some _)
  refine ev_if_neg (by simpa using hbig) ?_
  obtain ⟨p, a, b, c, hd, hp⟩ := drawPut_ok l0 hb
  have im := implPoolAdd_ev p a b c
  have sm := specPut_ev p a b c hp
  refine ev_bind hd (ev_bind im (ev_bind sm (ev_if_pos rfl (ev_bind (specPoolOk_ev p (by omega)) ?_))))
  by_cases hok : poolOkB p = true
  · refine ev_if_pos hok ?_
    have ev : poolAddL p ⟨a, b, c⟩ = addN p (normN ⟨a, b, c⟩) := by unfold poolAddL; rw [if_pos hok]
    rw [ev]
    have hq := ok_add hok (normN ⟨a, b, c⟩)
    have hlen := addN_len p (normN ⟨a, b, c⟩)
    have hpre := put_pre p (normN ⟨a, b, c⟩)
    have hat := fun h => put_at (p := p) (y := normN ⟨a, b, c⟩) h
    have hnot := fun h => put_not (p := p) (y := normN ⟨a, b, c⟩) h
    generalize addN p (normN ⟨a, b, c⟩) = v at hq hlen hpre hat hnot
    obtain ⟨q, t⟩ := v
    simp only at hq hlen hpre hat hnot
    have hq5 := ok_len hq
    refine ev_bind (implPoolOk_ev q) (ev_if_pos hq (ev_if_neg (by show ¬ (q.length : Int) < p.length; omega) ?_))
    have hw : wrap64 ((p.length : Int) + 1) = (p.length : Int) + 1 := wrap_id (by omega) (by omega)
    have hd0 : decide ((q.length : Int) > wrap64 ((p.length : Int) + 1)) = false := by rw [hw]; simp; omega
    show Ev (fun k => laws_FnPool.j0 k t (decide ((q.length : Int) > wrap64 ((p.length : Int) + 1))) p a b c q) true
    rw [hd0]
    refine Ev.step (fun k => by rw [laws_FnPool.j0]) (ev_if_neg (by simp) ?_)
    refine pool_loop p q t a b c hpre hp ?_ p.length 0 (by omega) (by omega)
    by_cases ht : t < 0
    · have e := hnot ht
      subst e
      exact ev_if_pos ht (ev_some_of (by simp))
    · obtain ⟨i, hi, e1, e2⟩ := hat ht
      subst e1
      have ha := implPoolAdd_ev q a b c
      have ep : poolAddL q ⟨a, b, c⟩ = (q, (i : Int)) := by
        unfold poolAddL
        rw [if_pos hq, put_again hq hi e2]
      rw [ep] at ha
      refine ev_if_neg ht (ev_bind ha (ev_if_pos rfl (ev_if_pos rfl (ev_if_pos (by omega) (ev_if_pos (by omega) (ev_some_of ?_))))))
      rw [rdT q i hi, e2, normN_kind]
      simp
  · have ev : poolAddL p ⟨a, b, c⟩ = ([], -1) := by unfold poolAddL; rw [if_neg hok]
    rw [ev]
    exact ev_if_neg hok (ev_if_pos rfl (ev_some _))

end Go.Proofs.Ytafahnellnfclaa.Pure
