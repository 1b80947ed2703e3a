/- A drawn power that is raised by another exponent is that exponent's power raised by its own. No conditions. -/
import Derived.Test.YtafahnellnfclaaTLibRaise
import Derived.Test.YtafahnellnfclaaTLibMade
import Derived.Test.YtafahnellnfclaaTRg2
import Derived.Test.YtafahnellnfclaaTRg4
import Derived.Test.YtafahnellnfclaaTRg7
import Derived.Test.YtafahnellnfclaaTRg8
set_option linter.unusedVariables false
set_option linter.unusedSimpArgs false
namespace Go.Proofs.Ytafahnellnfclaa.Lib
open Go.RowKit Go.Proofs.Ytafahnellnfclaa.R Go.Proofs.YtafahnellnfclaaW.PrintWords Go.Proofs.YtafahnellnfclaaW.PrintLast Go.Proofs.YtafahnellnfclaaW.PrintMore

theorem powers_loop (p : List Nd) (hp : p.length ≤ 500) : ∀ (n i : Nat) (x : List Int), p.length - i = n → i ≤ p.length → x.length + n ≤ 1000 → ∃ r, Ev (fun k => spec_l3Powers.l0 k x i p) r
  | 0, i, x, hn, hi, hx => ⟨x, Ev.step (fun k => by rw [spec_l3Powers.l0]) (ev_if_neg (by omega) (ev_some _))⟩
  | n + 1, i, x, hn, hi, hx => by
    have hlt : i < p.length := by omega
    by_cases h7 : (rd_T34 p (i : Int)).f0 = 7
    · obtain ⟨r, e⟩ := powers_loop p hp n (i + 1) (x ++ [(i : Int)]) (by omega) (by omega) (by simp; omega)
      refine ⟨r, Ev.step (fun k => by rw [spec_l3Powers.l0]) (ev_if_pos (by omega) (ev_if_pos (by omega) (ev_if_pos h7 (ev_if_pos (by omega) ?_))))⟩
      rw [wrap_succ (by omega)]
      exact e
    · obtain ⟨r, e⟩ := powers_loop p hp n (i + 1) x (by omega) (by omega) (by omega)
      refine ⟨r, Ev.step (fun k => by rw [spec_l3Powers.l0]) (ev_if_pos (by omega) (ev_if_pos (by omega) (ev_if_neg h7 ?_)))⟩
      rw [wrap_succ (by omega)]
      exact e
theorem drawRaise_ok (b : List Int) (hb : b.length ≤ 9223372036854775806) : ∃ q x y, Ev (fun k => spec_DrawRaise.f k b) (q, x, y) ∧ q.length ≤ 500 := by
  unfold spec_DrawRaise.f
  obtain ⟨q, x, y, e, hq⟩ := l3Draw_ok b hb
  obtain ⟨h, e1⟩ := new_ok b hb
  obtain ⟨r, e2⟩ := powers_loop q hq q.length 0 [] (by omega) (by omega) (by simp; omega)
  have e2' : Ev (fun k => spec_l3Powers.f k q) r := by unfold spec_l3Powers.f; exact e2
  by_cases hr : (r.length : Int) > 0
  · obtain ⟨c, i1, h1, e3, hc1⟩ := once_ok h 4 (cur_new b hb)
    by_cases hc : c = true
    · exact ⟨q, x, y, ev_bind e (ev_bind e1 (ev_bind e2' (ev_if_pos hr (ev_bind_const e3 (ev_if_pos hc (ev_some _)))))), hq⟩
    · obtain ⟨z, i2, h2, e4, _, _⟩ := pickInt_ok h1 r (by omega) hc1
      exact ⟨q, z, y, ev_bind e (ev_bind e1 (ev_bind e2' (ev_if_pos hr (ev_bind_const e3 (ev_if_neg hc (ev_bind_const e4 (ev_some _))))))), hq⟩
  · exact ⟨q, x, y, ev_bind e (ev_bind e1 (ev_bind e2' (ev_if_neg hr (ev_some _)))), hq⟩
theorem specRz_ev (p : List Nd) (a b : Int) (hp : p.length ≤ 500) : Ev (fun k => spec_Raise.f k p a b) ((raiseL p a b).1, (raiseL p a b).2, p) := by
  unfold spec_Raise.f
  refine ev_bind (a := raiseL p a b) ?_ (ev_some _)
  unfold spec_Raise.f0 raiseL
  refine ev_bind (specPoolOk_ev p (by omega)) ?_
  by_cases hok : poolOkB p = true
  · rw [if_pos hok]
    have hl := ok_len hok
    have hr := raiseN_len p a b hl
    refine ev_if_pos hok (ev_bind (a := raiseN p a b) ?_ (ev_bind_const (specCopy_eq _ (by omega)) (ev_some _)))
    unfold spec_l3Raise.f
    exact raise_tree p a b hl (specHas_eq p a (by omega)) (specHas_eq p b (by omega)) (fun z => ev_bind (specAdd_ev p ⟨8, b, z⟩ (by omega)) (ev_some _))
  · rw [if_neg hok]
    exact ev_if_neg hok (ev_some _)
theorem add_not {p : List Nd} {y : Nd} (h : (addN p y).2 < 0) : (addN p y).1 = p := by
  by_cases hf : findN p y ≥ 0
  · have e : addN p y = (p, findN p y) := by unfold addN; rw [if_pos hf]
    rw [e]
  · by_cases hr : nOk y p.length = true
    · by_cases h5 : p.length = 500
      · have e : addN p y = (p, -1) := by unfold addN; rw [if_neg hf, if_pos hr, if_pos h5]
        rw [e]
      · have e : addN p y = (p ++ [y], (p.length : Int)) := by unfold addN; rw [if_neg hf, if_pos hr, if_neg h5]
        rw [e] at h
        have h' : (p.length : Int) < 0 := h
        omega
    · have e : addN p y = (p, -1) := by unfold addN; rw [if_neg hf, if_neg hr]
      rw [e]
theorem add_again {q : List Nd} (hok : poolOkB q = true) {i : Nat} (hi : i < q.length) {y : Nd} (e : q[i] = y) : addN q y = (q, (i : Int)) := by
  have hf : findN q y = i := by
    rw [← e]
    exact (find_at q i hi).2 (ok_at hok i hi).1
  unfold addN
  rw [if_pos (by omega), hf]
theorem norm8 (x y : Int) : normN ⟨8, x, y⟩ = normN ⟨8, y, x⟩ := by
  unfold normN
  simp only
  by_cases h : x > y
  · rw [if_pos ⟨trivial, h⟩, if_neg (fun q => by omega)]
  · by_cases h2 : y > x
    · rw [if_neg (fun q => h q.2), if_pos ⟨trivial, h2⟩]
    · have : x = y := by omega
      subst this
      rfl
theorem norm_f0 (x : Nd) : (normN x).f0 = x.f0 := by
  unfold normN
  split <;> rfl
end Go.Proofs.Ytafahnellnfclaa.Lib
namespace Go.Proofs.Ytafahnellnfclaa.Pure
open Go.RowKit Go.Proofs.Ytafahnellnfclaa.R Go.Proofs.Ytafahnellnfclaa.Lib Go.Proofs.YtafahnellnfclaaW.PrintWords Go.Proofs.YtafahnellnfclaaW.PrintLast

theorem FnRaise : laws_FnRaise.Pure := by
  intro l0 hm _ _
  have hb : l0.length ≤ 9223372036854775806 := by unfold maxLen at hm; omega
  refine ev_rounds ?_
  unfold laws_FnRaise.f
  refine ev_bind_const (a := decide ((l0.length : Int) > 1048576)) rfl ?_
  by_cases hbig : (l0.length : Int) > 1048576
  · exact ev_if_pos (decide_eq_true hbig) (ev_some _)
  refine ev_if_neg (by simpa using hbig) ?_
  obtain ⟨p, a, x, hd, hp⟩ := drawRaise_ok l0 hb
  have im := implRaise_ev p a x
  have sm := specRz_ev p a x hp
  refine ev_bind hd (ev_bind im (ev_bind sm (ev_if_pos rfl ?_)))
  by_cases hok : poolOkB p = true
  rotate_left
  · have ev : raiseL p a x = ([], -1) := by unfold raiseL; rw [if_neg hok]
    rw [ev]
    refine ev_if_pos (by show (-1 : Int) < 0; omega) ?_
    by_cases h0 : (([] : List Nd).length : Int) = (p.length : Int)
    · exact ev_if_pos h0 (ev_some _)
    · exact ev_if_neg h0 (ev_some _)
  have ev : raiseL p a x = raiseN p a x := by unfold raiseL; rw [if_pos hok]
  rw [ev]
  by_cases hc : hasB p.length a = true ∧ hasB p.length x = true ∧ (p.getD a.toNat zN).f0 = 7
  rotate_left
  · have e2 : raiseN p a x = (p, -1) := by unfold raiseN; rw [if_neg hc]
    rw [e2]
    exact ev_if_pos (by show (-1 : Int) < 0; omega) (ev_if_pos rfl (ev_some _))
  have e2 : raiseN p a x = addN p (normN ⟨8, x, (p.getD a.toNat zN).f1⟩) := by unfold raiseN; rw [if_pos hc]
  rw [e2]
  obtain ⟨ha, hx, h7⟩ := hc
  have ha' := ha
  have hx' := hx
  unfold hasB at ha' hx'
  simp only [decide_eq_true_eq] at ha' hx'
  obtain ⟨t, rfl⟩ : ∃ n : Nat, a = n := ⟨a.toNat, by omega⟩
  obtain ⟨z, rfl⟩ : ∃ n : Nat, x = n := ⟨x.toNat, by omega⟩
  have ht : t < p.length := by omega
  rw [Int.toNat_natCast, getD_at p t ht] at h7 ⊢
  have hy := parts_in (ok_at hok t ht).2 (p[t]).f1 (by unfold partsB; rw [h7, if_pos (show cnt 7 = 1 by decide)]; simp)
  obtain ⟨y, hy1⟩ : ∃ n : Nat, (p[t]).f1 = n := ⟨(p[t]).f1.toNat, by omega⟩
  rw [hy1] at hy ⊢
  have ok0 := ok_add hok (normN ⟨8, z, y⟩)
  have pr0 := add_pre p (normN ⟨8, z, y⟩)
  have at0 := fun h => add_at (p := p) (y := normN ⟨8, z, y⟩) h
  have no0 := fun h => add_not (p := p) (y := normN ⟨8, z, y⟩) h
  generalize addN p (normN ⟨8, z, y⟩) = v0 at ok0 pr0 at0 no0
  obtain ⟨q, s'⟩ := v0
  simp only at ok0 pr0 at0 no0
  by_cases hs : s' < 0
  · have e := no0 hs
    subst e
    exact ev_if_pos hs (ev_if_pos rfl (ev_some _))
  obtain ⟨s, hs1, rfl, es⟩ := at0 (by omega)
  have l0' := pre_len pr0
  refine ev_if_neg hs (ev_if_pos (by omega) (ev_if_pos (by show (t : Int) < p.length; omega) ?_))
  have i1 : Ev (fun k => impl_MakePower.f k q z) (addN q ⟨7, z, 0⟩) := by
    unfold impl_MakePower.f
    have := implPoolAdd_ev q 7 z 0
    have e : poolAddL q ⟨7, z, 0⟩ = addN q ⟨7, z, 0⟩ := by unfold poolAddL; rw [if_pos ok0, normN_id (show (7 : Int) ≠ 8 by decide)]
    rw [e] at this
    exact ev_bind this (ev_some _)
  have ok1 := ok_add ok0 ⟨7, z, 0⟩
  have pr1 := add_pre q ⟨7, z, 0⟩
  have at1 := fun h => add_at (p := q) (y := ⟨7, z, 0⟩) h
  have fu1 := fun h => add_full (p := q) (y := ⟨7, z, 0⟩) (one_ok (by decide) (by omega)) h
  generalize addN q ⟨7, z, 0⟩ = v1 at i1 ok1 pr1 at1 fu1
  obtain ⟨r, o'⟩ := v1
  simp only at ok1 pr1 at1 fu1
  refine ev_bind i1 ?_
  by_cases ho : o' < 0
  · refine ev_if_pos ho (ev_some_of ?_)
    have := (fu1 ho).2
    show ((q.length : Int) == 500) = true
    rw [this]
    rfl
  obtain ⟨o, ho1, rfl, eo⟩ := at1 (by omega)
  have l1' := pre_len pr1
  refine ev_if_neg ho ?_
  have erd : (rd_T34 p (t : Int)).f1 = (y : Int) := by rw [rdT p t ht, hy1]
  show Ev (fun k => (impl_Raise.f k r (o : Int) (rd_T34 p (t : Int)).f1).bind fun bt => (impl_MakeShared.f k q (rd_T34 p (t : Int)).f1 z).bind fun bt2 => _) true
  rw [erd]
  have i2 := implRaise_ev r (o : Int) (y : Int)
  obtain ⟨hs2, es2⟩ := pre_at pr1 hs1
  have er : raiseL r (o : Int) (y : Int) = (r, (s : Int)) := by
    unfold raiseL
    rw [if_pos ok1]
    unfold raiseN
    have eg : r.getD (o : Int).toNat zN = ⟨7, z, 0⟩ := by rw [Int.toNat_natCast, getD_at r o ho1, eo]
    rw [eg, if_pos ⟨by unfold hasB; simp; omega, by unfold hasB; simp; omega, rfl⟩, norm8]
    exact add_again ok1 hs2 (by rw [es2, es])
  rw [er] at i2
  have i3 : Ev (fun k => impl_MakeShared.f k q (y : Int) z) (q, (s : Int)) := by
    unfold impl_MakeShared.f
    have := implPoolAdd_ev q 8 y z
    have e : poolAddL q ⟨8, y, z⟩ = (q, (s : Int)) := by
      unfold poolAddL
      rw [if_pos ok0, norm8]
      exact add_again ok0 hs1 es
    rw [e] at this
    exact ev_bind this (ev_some _)
  refine ev_bind i2 (ev_bind i3 (ev_if_pos rfl (ev_if_pos rfl (ev_if_pos rfl (ev_if_pos (by omega) (ev_if_pos (by show (s : Int) < q.length; omega) (ev_some_of ?_)))))))
  show ((rd_T34 q (s : Int)).f0 == 8) = true
  rw [rdT q s hs1, es, norm_f0]
  rfl

end Go.Proofs.Ytafahnellnfclaa.Pure
