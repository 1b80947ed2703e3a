/- What is made of drawn terms has just these parts. No conditions. -/
import Derived.Test.YtafahnellnfclaaZLibMade
import Derived.Test.YtafahnellnfclaaZC4
import Derived.Test.YtafahnellnfclaaZC18
import Derived.Test.YtafahnellnfclaaZC20
import Derived.Test.YtafahnellnfclaaZC21
set_option linter.unusedVariables false
set_option linter.unusedSimpArgs false
namespace Go.Proofs.Ytafahnellnfclaa.Lib
open Go.RowKit Go.Proofs.Ytafahnellnfclaa.C Go.Proofs.YtafahnellnfclaaW.PrintWords Go.Proofs.YtafahnellnfclaaW.PrintLast

theorem addL_of {p : List Nd} (hok : poolOkB p = true) {x : Nd} (h8 : x.f0 ≠ 8) : poolAddL p x = addN p x := by
  unfold poolAddL
  rw [if_pos hok, normN_id h8]
theorem made_end {r : List Nd} (hok : poolOkB r = true) {i : Nat} (hi : i < r.length) {ps : List Int} (hp : partsB r[i] = ps) : Ev (fun k => impl_PartsOf.f k r i) ps := by
  have h := implPartsOfL_ev r i (by have := ok_len hok; omega)
  rw [parts_told hok hi, hp] at h
  exact h
end Go.Proofs.Ytafahnellnfclaa.Lib
namespace Go.Proofs.Ytafahnellnfclaa.Pure
open Go.RowKit Go.Proofs.Ytafahnellnfclaa.C Go.Proofs.Ytafahnellnfclaa.Lib Go.Proofs.YtafahnellnfclaaW.PrintWords Go.Proofs.YtafahnellnfclaaW.PrintLast

theorem FnMade : laws_FnMade.Pure := by
  intro l0 hm _ _
  have hb : l0.length ≤ 9223372036854775806 := by unfold maxLen at hm; omega
  refine ev_rounds ?_
  unfold laws_FnMade.f
  refine ev_bind_const (a := decide ((l0.length : Int) > 1048576)) rfl ?_
  by_cases hbig : (l0.length : Int) > 1048576
  · exact ev_if_pos (decide_eq_true hbig) (ev_some _)
  refine ev_if_neg (by simpa using hbig) ?_
  obtain ⟨p, a, b, hd, hp⟩ := l3Draw_ok l0 hb
  have hd' : Ev (fun k => spec_DrawMakePair.f k l0) (p, a, b) := by unfold spec_DrawMakePair.f; exact ev_bind hd (ev_some _)
  have im : Ev (fun k => impl_MakePair.f k p a b) (poolAddL p ⟨2, a, b⟩) := by unfold impl_MakePair.f; exact ev_bind (implPoolAdd_ev p 2 a b) (ev_some _)
  have sm : Ev (fun k => spec_MakePair.f k p a b) (poolAddL p ⟨2, a, b⟩) := by unfold spec_MakePair.f; exact ev_bind (specPoolAdd_ev p 2 a b (by omega)) (ev_some _)
  refine ev_bind hd' (ev_bind im (ev_bind sm (ev_if_pos rfl ?_)))
  by_cases hok : poolOkB p = true
  rotate_left
  · have e : poolAddL p ⟨2, a, b⟩ = ([], -1) := by unfold poolAddL; rw [if_neg hok]
    rw [e]
    exact ev_if_pos (by show (-1 : Int) < 0; omega) (ev_some _)
  rw [addL_of hok (by simp)]
  have ok0 := ok_add hok ⟨2, a, b⟩
  by_cases ht : (addN p ⟨2, a, b⟩).2 < 0
  · exact ev_if_pos ht (ev_some _)
  refine ev_if_neg ht ?_
  obtain ⟨t, ht1, et, at0⟩ := add_at (p := p) (y := ⟨2, a, b⟩) (by omega)
  generalize addN p ⟨2, a, b⟩ = v0 at ok0 ht ht1 et at0
  obtain ⟨q0, t'⟩ := v0
  simp only at et ok0 ht1 at0 ⊢
  subst et
  -- its parts stand ahead of it
  have hn := (ok_at ok0 t ht1).2
  rw [at0] at hn
  have hin := parts_in hn
  have hpb : partsB (⟨2, a, b⟩ : Nd) = [a, b] := by unfold partsB; rw [if_neg (show ¬ cnt 2 = 1 by decide), if_pos (show cnt 2 = 2 by decide)]
  rw [hpb] at hin
  have ha := hin a (by simp)
  have hbb := hin b (by simp)
  obtain ⟨a, rfl⟩ : ∃ n : Nat, a = n := ⟨a.toNat, by omega⟩
  obtain ⟨b, rfl⟩ : ∃ n : Nat, b = n := ⟨b.toNat, by omega⟩
  have ha1 : a < t := by omega
  have hb1 : b < t := by omega
  -- the four others
  have i1 : Ev (fun k => impl_MakeSeal.f k q0 t b) (addN q0 ⟨3, t, b⟩) := by
    unfold impl_MakeSeal.f
    have := implPoolAdd_ev q0 3 t b
    rw [addL_of ok0 (by simp)] at this
    exact ev_bind this (ev_some _)
  have ok1 := ok_add ok0 ⟨3, t, b⟩
  have pr1 := add_pre q0 ⟨3, t, b⟩
  have at1 := fun h => add_at (p := q0) (y := ⟨3, t, b⟩) h
  have fu1 := fun h => add_full (p := q0) (y := ⟨3, t, b⟩) (two_ok (by decide) (by decide) (by omega) (by omega)) h
  generalize addN q0 ⟨3, t, b⟩ = v1 at i1 ok1 pr1 at1 fu1
  obtain ⟨q1, s⟩ := v1
  simp only at ok1 pr1 at1 fu1
  have l1 := pre_len pr1
  have i2 : Ev (fun k => impl_MakeDerive.f k q1 a t) (addN q1 ⟨6, a, t⟩) := by
    unfold impl_MakeDerive.f
    have := implPoolAdd_ev q1 6 a t
    rw [addL_of ok1 (by simp)] at this
    exact ev_bind this (ev_some _)
  have ok2 := ok_add ok1 ⟨6, a, t⟩
  have pr2 := add_pre q1 ⟨6, a, t⟩
  have at2 := fun h => add_at (p := q1) (y := ⟨6, a, t⟩) h
  have fu2 := fun h => add_full (p := q1) (y := ⟨6, a, t⟩) (two_ok (by decide) (by decide) (by omega) (by omega)) h
  generalize addN q1 ⟨6, a, t⟩ = v2 at i2 ok2 pr2 at2 fu2
  obtain ⟨q2, d⟩ := v2
  simp only at ok2 pr2 at2 fu2
  have l2 := pre_len pr2
  have i3 : Ev (fun k => impl_MakeSign.f k q2 b a) (addN q2 ⟨4, b, a⟩) := by
    unfold impl_MakeSign.f
    have := implPoolAdd_ev q2 4 b a
    rw [addL_of ok2 (by simp)] at this
    exact ev_bind this (ev_some _)
  have ok3 := ok_add ok2 ⟨4, b, a⟩
  have pr3 := add_pre q2 ⟨4, b, a⟩
  have at3 := fun h => add_at (p := q2) (y := ⟨4, b, a⟩) h
  have fu3 := fun h => add_full (p := q2) (y := ⟨4, b, a⟩) (two_ok (by decide) (by decide) (by omega) (by omega)) h
  generalize addN q2 ⟨4, b, a⟩ = v3 at i3 ok3 pr3 at3 fu3
  obtain ⟨q3, g⟩ := v3
  simp only at ok3 pr3 at3 fu3
  have l3 := pre_len pr3
  have i4 : Ev (fun k => impl_MakeDigest.f k q3 t) (addN q3 ⟨5, t, 0⟩) := by
    unfold impl_MakeDigest.f
    have := implPoolAdd_ev q3 5 t 0
    rw [addL_of ok3 (by simp)] at this
    exact ev_bind this (ev_some _)
  have ok4 := ok_add ok3 ⟨5, t, 0⟩
  have pr4 := add_pre q3 ⟨5, t, 0⟩
  have at4 := fun h => add_at (p := q3) (y := ⟨5, t, 0⟩) h
  have fu4 := fun h => add_full (p := q3) (y := ⟨5, t, 0⟩) (one_ok (by decide) (by omega)) h
  generalize addN q3 ⟨5, t, 0⟩ = v4 at i4 ok4 pr4 at4 fu4
  obtain ⟨r, h⟩ := v4
  simp only at ok4 pr4 at4 fu4
  have l4 := pre_len pr4
  have hr5 := ok_len ok4
  refine ev_bind i1 (ev_bind i2 (ev_bind i3 (ev_bind i4 ?_)))
  have hfull : q0.length = 500 ∨ q1.length = 500 ∨ q2.length = 500 ∨ q3.length = 500 → Ev (fun k => laws_FnMade.j0 k a b t s d g h true r) true := by
    intro hf
    refine Ev.step (f := fun k => some ((r.length : Int) == 500)) (fun k => ?_) (ev_some_of ?_)
    · simp only [laws_FnMade.j0, if_true]
    · have : r.length = 500 := by omega
      rw [this]
      rfl
  by_cases hs : s < 0
  · exact ev_if_pos hs (hfull (.inl (fu1 hs).2))
  refine ev_if_neg hs ?_
  by_cases hdd : d < 0
  · exact ev_if_pos hdd (hfull (.inr (.inl (fu2 hdd).2)))
  refine ev_if_neg hdd ?_
  by_cases hg : g < 0
  · exact ev_if_pos hg (hfull (.inr (.inr (.inl (fu3 hg).2))))
  refine ev_if_neg hg ?_
  by_cases hh : h < 0
  · rw [show decide (h < 0) = true from decide_eq_true hh]
    exact hfull (.inr (.inr (.inr (fu4 hh).2)))
  rw [show decide (h < 0) = false from decide_eq_false hh]
  obtain ⟨s, hs1, rfl, as1⟩ := at1 (by omega)
  obtain ⟨d, hd1, rfl, ad⟩ := at2 (by omega)
  obtain ⟨g, hg1, rfl, ag⟩ := at3 (by omega)
  obtain ⟨h, hh1, rfl, ah⟩ := at4 (by omega)
  obtain ⟨ht4, et4⟩ := pre_at (pr1.trans (pr2.trans (pr3.trans pr4))) ht1
  obtain ⟨hs4, es4⟩ := pre_at (pr2.trans (pr3.trans pr4)) hs1
  obtain ⟨hd4, ed4⟩ := pre_at (pr3.trans pr4) hd1
  obtain ⟨hg4, eg4⟩ := pre_at pr4 hg1
  have e1 := made_end ok4 ht4 (ps := [(a : Int), (b : Int)]) (by rw [et4, at0]; unfold partsB; rw [if_neg (show ¬ cnt 2 = 1 by decide), if_pos (show cnt 2 = 2 by decide)])
  have e2 := made_end ok4 hs4 (ps := [(t : Int), (b : Int)]) (by rw [es4, as1]; unfold partsB; rw [if_neg (show ¬ cnt 3 = 1 by decide), if_pos (show cnt 3 = 2 by decide)])
  have e3 := made_end ok4 hd4 (ps := [(a : Int), (t : Int)]) (by rw [ed4, ad]; unfold partsB; rw [if_neg (show ¬ cnt 6 = 1 by decide), if_pos (show cnt 6 = 2 by decide)])
  have e4 := made_end ok4 hg4 (ps := [(b : Int), (a : Int)]) (by rw [eg4, ag]; unfold partsB; rw [if_neg (show ¬ cnt 4 = 1 by decide), if_pos (show cnt 4 = 2 by decide)])
  have e5 := made_end ok4 hh1 (ps := [(t : Int)]) (by rw [ah]; unfold partsB; rw [if_pos (show cnt 5 = 1 by decide)])
  have sm := fun (x y : Int) => same_refl [x, y] (by simp)
  refine Ev.step (fun k => by rw [laws_FnMade.j0]) ?_
  exact ev_if_neg (by simp) (ev_bind e1 (ev_bind (sm _ _) (ev_if_pos rfl (ev_bind e2 (ev_bind (sm _ _) (ev_if_pos rfl (ev_bind e3 (ev_bind (sm _ _) (ev_if_pos rfl (ev_bind e4 (ev_bind (sm _ _) (ev_if_pos rfl (ev_bind e5 (ev_bind (same_refl [(t : Int)] (by simp)) (ev_some _)))))))))))))))

end Go.Proofs.Ytafahnellnfclaa.Pure
