/- A term of a drawn pool whose parts can be made can be made; a name that is not known is made just if it is public. No conditions. -/
import Derived.Test.YtgohebghlgamiaaYLibMakes
import Derived.Test.YtgohebghlgamiaaYLibDrawKnow
import Derived.Test.YtgohebghlgamiaaYLibParts
import Derived.Test.YtgohebghlgamiaaYLibHas
import Derived.Test.YtgohebghlgamiaaYPg8
import Derived.Test.YtgohebghlgamiaaYPg9
set_option linter.unusedVariables false
set_option linter.unusedSimpArgs false
namespace Go.Proofs.Ytgohebghlgamiaa.Lib
open Go.RowKit Go.Proofs.Ytgohebghlgamiaa.P Go.Proofs.YtgohebghlgamiaaW.PrintWords Go.Proofs.YtgohebghlgamiaaW.PrintLast Go.Proofs.YtgohebghlgamiaaW.PrintMore

def everyB (T : Nat → Bool) (ps : List Int) : Bool := decide (ps.length > 0) && ps.all (fun q => T q.toNat)
section
variable {l : List Nd} (hok : poolOkB l = true)
include hok
theorem told_pn {i : Nat} (hi : i < l.length) : partsOfL l i = partsB l[i] := by
  unfold partsOfL
  have hh : hasB l.length (i : Int) = true := by unfold hasB; simp; omega
  rw [if_pos ⟨hok, hh⟩, Int.toNat_natCast, getD_at l i hi]
theorem every_tgt {K : Int → Bool} {i : Nat} (hi : i < l.length) (h : everyB (tgt l K) (partsB l[i]) = true) : tgt l K i = true := by
  rw [tgt_eq hok hi]
  unfold everyB at h
  simp only [Bool.and_eq_true, decide_eq_true_eq] at h
  suffices hr : ruleT l (tgt l K) K l[i] = true by rw [hr]; simp
  unfold ruleT
  rcases cnt_cases hok hi with h1 | h1 | h2
  · have : partsB l[i] = [] := by unfold partsB; rw [h1]; rw [if_neg (show ¬ cnt 1 = 1 by decide), if_neg (show ¬ cnt 1 = 2 by decide)]
    rw [this] at h
    simp at h
  · have hp : partsB l[i] = [(l[i]).f1] := by unfold partsB; rw [if_pos h1]
    rw [hp] at h
    have h0 : ¬ (l[i]).f0 = 1 := fun e => by rw [e] at h1; revert h1; decide
    rw [if_neg h0, if_pos h1]
    simpa using h.2
  · have hc1 : ¬ cnt (l[i]).f0 = 1 := by omega
    have hp : partsB l[i] = [(l[i]).f1, (l[i]).f2] := by unfold partsB; rw [if_neg hc1, if_pos h2]
    rw [hp] at h
    have h0 : ¬ (l[i]).f0 = 1 := fun e => by rw [e] at h2; revert h2; decide
    rw [if_neg h0, if_neg hc1, if_pos (by simpa using h.2)]
theorem name_tgt {K : Int → Bool} {i : Nat} (hi : i < l.length) (h : (l[i]).f0 = 1) : tgt l K i = (K i || pubB (l[i]).f1) := by
  rw [tgt_eq hok hi]
  unfold ruleT
  rw [if_pos h]
theorem plain_tgt {K : Int → Bool} {i : Nat} (hi : i < l.length) (h : tgt l K i = true) (he : ¬ everyB (tgt l K) (partsB l[i]) = true) (hk : ¬ K i = true) (h0 : ¬ (l[i]).f0 = 1) (h8 : ¬ (l[i]).f0 = 8) : False := by
  rw [tgt_eq hok hi] at h
  rw [Bool.not_eq_true] at hk
  rw [hk, Bool.false_or] at h
  apply he
  unfold ruleT at h
  unfold everyB
  rcases cnt_cases hok hi with h1 | h1 | h2
  · exact absurd h1 h0
  · have hp : partsB l[i] = [(l[i]).f1] := by unfold partsB; rw [if_pos h1]
    rw [hp]
    rw [if_neg h0, if_pos h1] at h
    simpa using h
  · have hc1 : ¬ cnt (l[i]).f0 = 1 := by omega
    have hp : partsB l[i] = [(l[i]).f1, (l[i]).f2] := by unfold partsB; rw [if_neg hc1, if_pos h2]
    rw [hp]
    rw [if_neg h0, if_neg hc1] at h
    by_cases ha : tgt l K (l[i]).f1.toNat = true ∧ tgt l K (l[i]).f2.toNat = true
    · simpa using ha
    · rw [if_neg ha, if_neg h8] at h
      simp at h
theorem parts3_ev (t : List Int) (ht : t.length ≤ 1000) (i : Nat) (hi : i < l.length) (nx : Ev (fun k => laws_FnMakesParts.l0 k t (mk l.length (tgt l (kn t))) (i + 1 : Nat) l) true) :
    Ev (fun k => laws_FnMakesParts.j3 k t (mk l.length (tgt l (kn t))) i (everyB (tgt l (kn t)) (partsB l[i])) false l) true := by
  have hl := ok_len hok
  refine Ev.step (fun k => by rw [laws_FnMakesParts.j3]) ?_
  refine ev_if_neg (by simp) (ev_if_pos (by omega) (ev_if_pos (by rw [mk_length]; omega) ?_))
  rw [mk_rd _ _ i hi, wrap_succ (by omega)]
  by_cases hT : tgt l (kn t) i = true
  · refine ev_if_pos hT ?_
    by_cases he : everyB (tgt l (kn t)) (partsB l[i]) = true
    · exact ev_if_pos he nx
    · refine ev_if_neg he (ev_bind (implKnowHas_ev t (i : Int) (by omega)) ?_)
      by_cases hk : kn t i = true
      · exact ev_if_pos hk nx
      · refine ev_if_neg hk (ev_if_pos (by omega) ?_)
        rw [rdT l i hi]
        by_cases h0 : (l[i]).f0 = 1
        · exact ev_if_pos h0 nx
        · refine ev_if_neg h0 ?_
          by_cases h8 : (l[i]).f0 = 8
          · exact ev_if_pos h8 nx
          · exact (plain_tgt hok hi hT he hk h0 h8).elim
  · exact ev_if_neg hT nx
theorem parts2_ev (t : List Int) (ht : t.length ≤ 1000) (i : Nat) (hi : i < l.length) (nx : Ev (fun k => laws_FnMakesParts.l0 k t (mk l.length (tgt l (kn t))) (i + 1 : Nat) l) true) :
    Ev (fun k => laws_FnMakesParts.j2 k t (mk l.length (tgt l (kn t))) i (everyB (tgt l (kn t)) (partsB l[i])) false l) true := by
  have hl := ok_len hok
  have h3 := parts3_ev hok t ht i hi nx
  refine Ev.step (fun k => by rw [laws_FnMakesParts.j2]) ?_
  refine ev_if_neg (by simp) (ev_if_pos (by omega) (ev_if_pos (by omega) ?_))
  rw [rdT l i hi]
  by_cases h0 : (l[i]).f0 = 1
  · refine ev_if_pos h0 (ev_if_pos (by rw [mk_length]; omega) (ev_bind_const (implPublic_eq _) ?_))
    rw [mk_rd _ _ i hi, name_tgt hok hi h0]
    by_cases hp : pubB (l[i]).f1 = true
    · refine ev_if_pos hp ?_
      rw [hp, Bool.or_true]
      exact h3
    · refine ev_if_neg hp (ev_bind (implKnowHas_ev t (i : Int) (by omega)) ?_)
      rw [Bool.not_eq_true] at hp
      rw [hp, Bool.or_false]
      have : (kn t i != decide ((i : Int) ∈ t)) = false := by unfold kn; simp
      rw [this]
      exact h3
  · exact ev_if_neg h0 h3
theorem parts1_ev (t : List Int) (ht : t.length ≤ 1000) (i : Nat) (hi : i < l.length) (nx : Ev (fun k => laws_FnMakesParts.l0 k t (mk l.length (tgt l (kn t))) (i + 1 : Nat) l) true) : ∀ (n j : Nat) (b : Bool), (partsB l[i]).length - j = n → j ≤ (partsB l[i]).length →
    (b && ((partsB l[i]).drop j).all (fun q => tgt l (kn t) q.toNat)) = everyB (tgt l (kn t)) (partsB l[i]) → Ev (fun k => laws_FnMakesParts.l1 k t (mk l.length (tgt l (kn t))) i (partsB l[i]) b j l) true
  | 0, j, b, hn, hj, he => by
    have hl := ok_len hok
    have e : j = (partsB l[i]).length := by omega
    subst e
    rw [List.drop_length, List.all_nil, Bool.and_true] at he
    subst he
    have h2 := parts2_ev hok t ht i hi nx
    have hpl := parts_len l[i]
    refine Ev.step (fun k => by rw [laws_FnMakesParts.l1]) ?_
    refine ev_if_neg (by omega) ?_
    by_cases hev : everyB (tgt l (kn t)) (partsB l[i]) = true
    · refine ev_if_pos hev (ev_if_pos (by omega) (ev_if_pos (by rw [mk_length]; omega) ?_))
      rw [mk_rd _ _ i hi, every_tgt hok hi hev]
      exact h2
    · refine ev_if_neg hev (ev_bind (implKnowHas_ev t (i : Int) (by omega)) ?_)
      by_cases hk : (i : Int) ∈ t
      · refine ev_if_pos (by simpa using hk) (ev_if_pos (by omega) (ev_if_pos (by rw [mk_length]; omega) ?_))
        rw [mk_rd _ _ i hi]
        have : tgt l (kn t) i = true := by
          rw [tgt_eq hok hi]
          have : kn t i = true := by unfold kn; simpa using hk
          rw [this]; rfl
        rw [this]
        exact h2
      · exact ev_if_neg (by simpa using hk) h2
  | n + 1, j, b, hn, hj, he => by
    have hl := ok_len hok
    have hpl := parts_len l[i]
    have hlt : j < (partsB l[i]).length := by omega
    have hp := parts_in (ok_at hok i hi).2 (partsB l[i])[j] (List.getElem_mem hlt)
    obtain ⟨m, em⟩ : ∃ m : Nat, (partsB l[i])[j] = m := ⟨(partsB l[i])[j].toNat, by omega⟩
    rw [List.drop_eq_getElem_cons hlt, List.all_cons, ← Bool.and_assoc] at he
    refine Ev.step (fun k => by rw [laws_FnMakesParts.l1]) ?_
    refine ev_if_pos (by omega) ?_
    rw [rd_nat _ j hlt, wrap_succ (by omega)]
    cases b with
    | true =>
      rw [Bool.true_and] at he
      refine ev_if_pos rfl (ev_if_pos (by omega) (ev_if_pos (by omega) (ev_if_pos (by rw [mk_length]; omega) ?_)))
      have e2 : rdOf false (mk l.length (tgt l (kn t))) (partsB l[i])[j] = tgt l (kn t) (partsB l[i])[j].toNat := by rw [em, mk_rd _ _ m (by omega)]; rfl
      rw [e2]
      exact parts1_ev t ht i hi nx n (j + 1) _ (by omega) (by omega) he
    | false =>
      rw [Bool.false_and] at he
      refine ev_if_neg (by simp) ?_
      exact parts1_ev t ht i hi nx n (j + 1) false (by omega) (by omega) he
theorem parts0_ev (t : List Int) (ht : t.length ≤ 1000) : ∀ (n i : Nat), l.length - i = n → i ≤ l.length → Ev (fun k => laws_FnMakesParts.l0 k t (mk l.length (tgt l (kn t))) i l) true
  | 0, i, hn, hi => by
    have hl := ok_len hok
    refine Ev.step (fun k => by rw [laws_FnMakesParts.l0]) ?_
    exact ev_if_neg (by rw [mk_length]; omega) (ev_some _)
  | n + 1, i, hn, hi => by
    have hl := ok_len hok
    have hlt : i < l.length := by omega
    have nx := parts0_ev t ht n (i + 1) (by omega) (by omega)
    have hp := implPartsOfL_ev l (i : Int) (by omega)
    rw [told_pn hok hlt] at hp
    refine Ev.step (fun k => by rw [laws_FnMakesParts.l0]) ?_
    refine ev_if_pos (by rw [mk_length]; omega) (ev_bind hp ?_)
    refine parts1_ev hok t ht i hlt nx _ 0 _ rfl (by omega) ?_
    unfold everyB
    rw [List.drop_zero]
    congr 1
    simp
end
end Go.Proofs.Ytgohebghlgamiaa.Lib
namespace Go.Proofs.Ytgohebghlgamiaa.Pure
open Go.RowKit Go.Proofs.Ytgohebghlgamiaa.P Go.Proofs.Ytgohebghlgamiaa.Lib Go.Proofs.YtgohebghlgamiaaW.PrintWords Go.Proofs.YtgohebghlgamiaaW.PrintLast

theorem FnMakesParts : laws_FnMakesParts.Pure := by
  intro l0 hm _ _
  have hb : l0.length ≤ 9223372036854775806 := by unfold maxLen at hm; omega
  refine ev_rounds ?_
  unfold laws_FnMakesParts.f
  refine ev_bind_const (a := decide ((l0.length : Int) > 1048576)) rfl ?_
  by_cases hbig : (l0.length : Int) > 1048576
  · exact ev_if_pos (decide_eq_true hbig) (ev_some _)
  refine ev_if_neg (by simpa using hbig) ?_
  obtain ⟨p, t, x, hd, hp, ht⟩ := l6Draw_ok l0 hb
  have hd' : Ev (fun k => spec_DrawMakesAll.f k l0) (p, t) := by unfold spec_DrawMakesAll.f; exact ev_bind hd (ev_some _)
  have im := implMakesAll_ev p t (by omega) (by omega)
  have sm := specMakesAll_ev p t (by omega) (by omega)
  refine ev_bind hd' (ev_bind im (ev_bind sm (ev_if_pos rfl ?_)))
  by_cases h : (poolOkB p && knowB p.length t) = true
  · have e : allL p t = mk p.length (tgt p (kn t)) := by unfold allL; rw [if_pos h]
    rw [e]
    rw [Bool.and_eq_true] at h
    exact parts0_ev h.1 t ht p.length 0 (by omega) (by omega)
  · have e : allL p t = [] := by unfold allL; rw [if_neg h]
    rw [e]
    refine Ev.step (fun k => by rw [laws_FnMakesParts.l0]) ?_
    exact ev_if_neg (by simp) (ev_some _)

end Go.Proofs.Ytgohebghlgamiaa.Pure
