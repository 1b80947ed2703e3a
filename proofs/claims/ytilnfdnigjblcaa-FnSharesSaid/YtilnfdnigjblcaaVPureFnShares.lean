/- Whoever knows one of two new exponents and the power of the other one derives what both share; whoever knows the two powers alone does not. No conditions. -/
import Derived.Test.YtilnfdnigjblcaaVLibPut
import Derived.Test.YtilnfdnigjblcaaVLibDrawPool
import Derived.Test.YtilnfdnigjblcaaVLibDrawKnow
import Derived.Test.YtilnfdnigjblcaaVLibMakesB
import Derived.Test.YtilnfdnigjblcaaVLibPutK
import Derived.Test.YtilnfdnigjblcaaVHg5
import Derived.Test.YtilnfdnigjblcaaVHg7
import Derived.Test.YtilnfdnigjblcaaVHg8
set_option linter.unusedVariables false
set_option linter.unusedSimpArgs false
namespace Go.Proofs.Ytilnfdnigjblcaa.Lib
open Go.RowKit Go.Proofs.Ytilnfdnigjblcaa.H Go.Proofs.YtilnfdnigjblcaaW.PrintWords Go.Proofs.YtilnfdnigjblcaaW.PrintLast Go.Proofs.YtilnfdnigjblcaaW.PrintMore

theorem specPut_ev (p : List Nd) (a b c : Int) (hp : p.length ≤ 500) : Ev (fun k => spec_PoolAdd.f k p a b c) ((poolAddL p ⟨a, b, c⟩).1, (poolAddL p ⟨a, b, c⟩).2, p) := by
  unfold spec_PoolAdd.f
  refine ev_bind (a := poolAddL p ⟨a, b, c⟩) ?_ (ev_some _)
  unfold spec_PoolAdd.f0 poolAddL
  refine ev_bind (specPoolOk_ev p (by omega)) ?_
  by_cases hok : poolOkB p = true
  · rw [if_pos hok]
    have hl := ok_len hok
    refine ev_if_pos hok (ev_bind (specAdd_ev p ⟨a, b, c⟩ (by omega)) (ev_bind_const (specCopy_eq _ ?_) (ev_some _)))
    have := addN_500 p (normN ⟨a, b, c⟩) hl
    omega
  · rw [if_neg hok]
    exact ev_if_neg hok (ev_some _)
theorem add_not {p : List Nd} {y : Nd} (hn : y ∉ p) (hr : nOk y p.length = true) : addN p y = if p.length = 500 then (p, -1) else (p ++ [y], (p.length : Int)) := by
  have hf : ¬ findN p y ≥ 0 := fun h => hn (findN_mem h)
  unfold addN
  rw [if_neg hf, if_pos hr]
theorem add_end {p : List Nd} {y : Nd} (h : ¬ (addN p y).2 < (p.length : Int)) : y ∉ p ∧ p.length ≠ 500 ∧ addN p y = (p ++ [y], (p.length : Int)) := by
  by_cases hf : findN p y ≥ 0
  · obtain ⟨i, hi, e1, e2⟩ := findN_at hf
    have e : addN p y = (p, findN p y) := by unfold addN; rw [if_pos hf]
    rw [e] at h
    exact absurd (show (findN p y) < (p.length : Int) by omega) h
  · have hn := findN_none hf
    by_cases hr : nOk y p.length = true
    · rw [add_not hn hr] at h ⊢
      by_cases h5 : p.length = 500
      · rw [if_pos h5] at h
        exact absurd (show (-1 : Int) < (p.length : Int) by omega) h
      · rw [if_neg h5]
        exact ⟨hn, h5, rfl⟩
    · have e : addN p y = (p, -1) := by unfold addN; rw [if_neg hf, if_neg hr]
      rw [e] at h
      exact absurd (show (-1 : Int) < (p.length : Int) by omega) h
theorem kput_room {t : List Int} {a : Int} (h : t.length < 200) : ∀ z, z ∈ (kput t a).1 ↔ z = a ∨ z ∈ t := by
  intro z
  unfold kput
  by_cases hm : a ∈ t
  · rw [if_pos hm]
    constructor
    · exact .inr
    · rintro (rfl | h')
      · exact hm
      · exact h'
  · rw [if_neg hm, if_neg (by omega)]
    exact putF_mem t a z
theorem kputL_room {l : List Nd} {t : List Int} {a : Int} (hok : poolOkB l = true) (hk : knowB l.length t = true) (ha : hasB l.length a = true) : (kputL l t a).1 = (kput t a).1 := by
  unfold kputL
  rw [if_pos (by rw [hok, hk]; rfl), if_pos ha]
theorem know_wide {n m : Nat} {t : List Int} (h : knowB n t = true) (hnm : n ≤ m) : knowB m t = true := by
  obtain ⟨h1, h2, h3⟩ := (kn_iff n t).1 h
  exact (kn_iff m t).2 ⟨h1, h2, fun z hz => by have := h3 z hz; omega⟩
theorem makes_at {l : List Nd} (hok : poolOkB l = true) {t : List Int} (hk : knowB l.length t = true) {i : Nat} (hi : i < l.length) : makesB l t (i : Int) = tgt l (kn t) i := by
  unfold makesB
  rw [hok, hk, show hasB l.length (i : Int) = true by unfold hasB; simp; omega]
  rfl
theorem name_not {l : List Nd} (hok : poolOkB l = true) {t : List Int} {i : Nat} (hi : i < l.length) {x : Int} (h : l[i] = ⟨1, x, 0⟩) (hx : 49 < x) (hn : (i : Int) ∉ t) : tgt l (kn t) i = false := by
  rw [tgt_eq hok hi]
  unfold ruleT kn pubB
  rw [h, if_pos rfl, decide_eq_false hn]
  simp
  omega
theorem known_yes {l : List Nd} (hok : poolOkB l = true) {t : List Int} {i : Nat} (hi : i < l.length) (hn : (i : Int) ∈ t) : tgt l (kn t) i = true := by
  rw [tgt_eq hok hi]
  unfold kn
  rw [decide_eq_true hn, Bool.true_or]
theorem find_put {l : List Nd} (hok : poolOkB l = true) {i : Nat} (hi : i < l.length) {y : Nd} (h : l[i] = y) : findN l y = (i : Int) := by
  rw [← h]
  exact (find_at l i hi).2 (ok_at hok i hi).1
theorem pow_yes {l : List Nd} (hok : poolOkB l = true) {t : List Int} {i : Nat} (hi : i < l.length) {x : Int} (h : l[i] = ⟨7, x, 0⟩) (hn : (i : Int) ∈ t) (M : Nat → Bool) : pwT l M (kn t) x = true := by
  unfold pwT kn
  rw [find_put hok hi h, decide_eq_true hn]
  simp
def five (p : List Nd) : List Nd := p ++ [⟨1, 179, 0⟩, ⟨1, 180, 0⟩, ⟨7, (p.length : Int), 0⟩, ⟨7, (p.length : Int) + 1, 0⟩, ⟨8, (p.length : Int), (p.length : Int) + 1⟩]
theorem five_len (p : List Nd) : (five p).length = p.length + 5 := by simp [five]
theorem five_0 (p : List Nd) (h : p.length + 0 < (five p).length) : (five p)[p.length + 0] = ⟨1, 179, 0⟩ := by simp [five]
theorem five_1 (p : List Nd) (h : p.length + 1 < (five p).length) : (five p)[p.length + 1] = ⟨1, 180, 0⟩ := by simp [five]
theorem five_2 (p : List Nd) (h : p.length + 2 < (five p).length) : (five p)[p.length + 2] = ⟨7, (p.length : Int), 0⟩ := by simp [five]
theorem five_3 (p : List Nd) (h : p.length + 3 < (five p).length) : (five p)[p.length + 3] = ⟨7, (p.length : Int) + 1, 0⟩ := by simp [five]
theorem five_4 (p : List Nd) (h : p.length + 4 < (five p).length) : (five p)[p.length + 4] = ⟨8, (p.length : Int), (p.length : Int) + 1⟩ := by simp [five]
section
variable {p : List Nd} (hok : poolOkB (five p) = true)
include hok
theorem shared_eq {t : List Int} (hx : ((p.length + 2 : Nat) : Int) ∈ t) (hy : ((p.length + 3 : Nat) : Int) ∈ t) (hs : ((p.length + 4 : Nat) : Int) ∉ t) :
    tgt (five p) (kn t) (p.length + 4) = (tgt (five p) (kn t) (p.length + 0) || tgt (five p) (kn t) (p.length + 1)) := by
  have hl := five_len p
  rw [tgt_eq hok (show p.length + 4 < (five p).length by omega), five_4 p (by omega)]
  have e0 : kn t ((p.length + 4 : Nat) : Int) = false := by unfold kn; exact decide_eq_false hs
  rw [e0, Bool.false_or]
  have p1 := pow_yes hok (show p.length + 2 < (five p).length by omega) (five_2 p (by omega)) hx (tgt (five p) (kn t))
  have p2 := pow_yes hok (show p.length + 3 < (five p).length by omega) (five_3 p (by omega)) hy (tgt (five p) (kn t))
  unfold ruleT
  rw [if_neg (by show ¬ (8 : Int) = 1; decide), if_neg (by show ¬ cnt 8 = 1; decide)]
  show (if tgt (five p) (kn t) (p.length : Int).toNat = true ∧ tgt (five p) (kn t) ((p.length : Int) + 1).toNat = true then true else if (8 : Int) = 8 then (tgt (five p) (kn t) (p.length : Int).toNat && pwT (five p) (tgt (five p) (kn t)) (kn t) ((p.length : Int) + 1) || tgt (five p) (kn t) ((p.length : Int) + 1).toNat && pwT (five p) (tgt (five p) (kn t)) (kn t) (p.length : Int)) else false) = _
  rw [p1, p2, if_pos rfl, Bool.and_true, Bool.and_true, show (p.length : Int).toNat = p.length + 0 by omega, show ((p.length : Int) + 1).toNat = p.length + 1 by omega]
  by_cases h : tgt (five p) (kn t) (p.length + 0) = true ∧ tgt (five p) (kn t) (p.length + 1) = true
  · rw [if_pos h, h.1]; rfl
  · rw [if_neg h]
end
theorem five_put {p : List Nd} (hok : poolOkB p = true) (h1 : ¬ (addN p ⟨1, 179, 0⟩).2 < (p.length : Int)) (h2 : ¬ (addN (addN p ⟨1, 179, 0⟩).1 ⟨1, 180, 0⟩).2 < (p.length : Int))
    {x y : Int} (ex : x = (addN p ⟨1, 179, 0⟩).2) (ey : y = (addN (addN p ⟨1, 179, 0⟩).1 ⟨1, 180, 0⟩).2)
    {v3 v4 v5 : List Nd × Int} (e3 : v3 = addN (addN (addN p ⟨1, 179, 0⟩).1 ⟨1, 180, 0⟩).1 ⟨7, x, 0⟩) (e4 : v4 = addN v3.1 ⟨7, y, 0⟩) (e5 : v5 = addN v4.1 (normN ⟨8, y, x⟩)) (h5 : ¬ v5.2 < 0) :
    x = (p.length : Int) ∧ y = (p.length : Int) + 1 ∧ v3.2 = (p.length : Int) + 2 ∧ v4.2 = (p.length : Int) + 3 ∧ v5 = (five p, (p.length : Int) + 4) ∧ poolOkB (five p) = true := by
  obtain ⟨n1, l1, a1⟩ := add_end h1
  have o1 := ok_add hok ⟨1, 179, 0⟩
  rw [a1] at ex ey e3 h2 o1
  simp only at ex ey e3 h2 o1
  have h2' : ¬ (addN (p ++ [⟨1, 179, 0⟩]) ⟨1, 180, 0⟩).2 < ((p ++ [(⟨1, 179, 0⟩ : Nd)]).length : Int) := by
    intro hlt
    by_cases hf : findN (p ++ [(⟨1, 179, 0⟩ : Nd)]) ⟨1, 180, 0⟩ ≥ 0
    · obtain ⟨i, hi, b1, b2⟩ := findN_at hf
      have e : addN (p ++ [(⟨1, 179, 0⟩ : Nd)]) ⟨1, 180, 0⟩ = (p ++ [(⟨1, 179, 0⟩ : Nd)], findN (p ++ [(⟨1, 179, 0⟩ : Nd)]) ⟨1, 180, 0⟩) := by unfold addN; rw [if_pos hf]
      rw [e] at h2
      simp only at h2
      have hi' : i = p.length := by simp at hi; omega
      subst hi'
      simp at b2
    · have e2 : (addN (p ++ [(⟨1, 179, 0⟩ : Nd)]) ⟨1, 180, 0⟩).2 = -1 ∨ (addN (p ++ [(⟨1, 179, 0⟩ : Nd)]) ⟨1, 180, 0⟩).2 = ((p ++ [(⟨1, 179, 0⟩ : Nd)]).length : Int) := by
        unfold addN
        rw [if_neg hf]
        split
        · split
          · exact .inl rfl
          · exact .inr rfl
        · exact .inl rfl
      rcases e2 with e2 | e2
      · rw [e2] at h2; omega
      · rw [e2] at hlt; omega
  obtain ⟨n2, l2, a2⟩ := add_end h2'
  have o2 := ok_add o1 ⟨1, 180, 0⟩
  rw [a2] at ey e3 o2
  simp only at ey e3 o2
  have ll1 : (p ++ [(⟨1, 179, 0⟩ : Nd)]).length = p.length + 1 := by simp
  rw [ll1] at ey
  have xe : x = (p.length : Int) := ex
  have ye : y = (p.length : Int) + 1 := by rw [ey]; omega
  subst xe
  subst ye
  have eA : p ++ [(⟨1, 179, 0⟩ : Nd)] ++ [⟨1, 180, 0⟩] = p ++ [⟨1, 179, 0⟩, ⟨1, 180, 0⟩] := by simp
  rw [eA] at e3 o2
  have lA : (p ++ [(⟨1, 179, 0⟩ : Nd), ⟨1, 180, 0⟩]).length = p.length + 2 := by simp
  -- the first power
  have nA : (⟨7, (p.length : Int), 0⟩ : Nd) ∉ p ++ [(⟨1, 179, 0⟩ : Nd), ⟨1, 180, 0⟩] := by
    intro hm
    rcases List.mem_append.1 hm with hm | hm
    · obtain ⟨i, hi, e⟩ := List.getElem_of_mem hm
      have := one_in hok hi (by rw [e]; show cnt 7 = 1; decide)
      rw [e] at this
      simp only at this
      omega
    · simp at hm
  have rA : nOk (⟨7, (p.length : Int), 0⟩ : Nd) (p ++ [(⟨1, 179, 0⟩ : Nd), ⟨1, 180, 0⟩]).length = true := by
    unfold nOk
    rw [if_neg (by show ¬ cnt 7 = 0; decide), if_pos (by show cnt 7 = 1; decide), lA]
    simp
    omega
  have o3 := ok_add o2 ⟨7, (p.length : Int), 0⟩
  rw [← e3] at o3
  rw [add_not nA rA] at e3
  have full : ∀ (q : List Nd), q.length = 500 → (∀ z ∈ q, z ∈ p ++ [(⟨1, 179, 0⟩ : Nd), ⟨1, 180, 0⟩, ⟨7, (p.length : Int), 0⟩, ⟨7, (p.length : Int) + 1, 0⟩]) → p.length + 2 ≤ q.length → v5 = addN q (normN ⟨8, (p.length : Int) + 1, (p.length : Int)⟩) → False := by
    intro q hq hsub hge e
    have en : normN ⟨8, (p.length : Int) + 1, (p.length : Int)⟩ = ⟨8, (p.length : Int), (p.length : Int) + 1⟩ := by
      unfold normN
      rw [if_pos ⟨rfl, by show (p.length : Int) + 1 > p.length; omega⟩]
    rw [en] at e
    have hn : (⟨8, (p.length : Int), (p.length : Int) + 1⟩ : Nd) ∉ q := by
      intro hm
      have hm := hsub _ hm
      rcases List.mem_append.1 hm with hm | hm
      · obtain ⟨i, hi, e⟩ := List.getElem_of_mem hm
        have := two_in hok hi (by rw [e]; show cnt 8 = 2; decide)
        rw [e] at this
        simp only at this
        omega
      · simp at hm
    have hr : nOk (⟨8, (p.length : Int), (p.length : Int) + 1⟩ : Nd) q.length = true := by
      unfold nOk
      rw [if_neg (by show ¬ cnt 8 = 0; decide), if_neg (by show ¬ cnt 8 = 1; decide), if_pos (by show cnt 8 = 2; decide)]
      simp
      omega
    rw [add_not hn hr, if_pos hq] at e
    rw [e] at h5
    exact h5 (by show (-1 : Int) < 0; omega)
  have nB : ∀ q : List Nd, (∀ z ∈ q, z ∈ p ++ [(⟨1, 179, 0⟩ : Nd), ⟨1, 180, 0⟩, ⟨7, (p.length : Int), 0⟩]) → (⟨7, (p.length : Int) + 1, 0⟩ : Nd) ∉ q := by
    intro q hsub hm
    rcases List.mem_append.1 (hsub _ hm) with hm | hm
    · obtain ⟨i, hi, e⟩ := List.getElem_of_mem hm
      have := one_in hok hi (by rw [e]; show cnt 7 = 1; decide)
      rw [e] at this
      simp only at this
      omega
    · simp at hm
      omega
  have rB : ∀ q : List Nd, p.length + 2 ≤ q.length → nOk (⟨7, (p.length : Int) + 1, 0⟩ : Nd) q.length = true := by
    intro q hq
    unfold nOk
    rw [if_neg (by show ¬ cnt 7 = 0; decide), if_pos (by show cnt 7 = 1; decide)]
    simp
    omega
  by_cases f2 : (p ++ [(⟨1, 179, 0⟩ : Nd), ⟨1, 180, 0⟩]).length = 500
  · rw [if_pos f2] at e3
    rw [e3] at e4
    simp only at e4
    rw [add_not (nB _ (fun z hz => by simp at hz ⊢; rcases hz with h | h | h <;> simp [h])) (rB _ (by omega)), if_pos f2] at e4
    rw [e4] at e5
    exact (full _ f2 (fun z hz => by simp at hz ⊢; rcases hz with h | h | h <;> simp [h]) (by omega) e5).elim
  · rw [if_neg f2] at e3
    rw [e3] at e4 o3
    simp only at e4 o3
    have eB : p ++ [(⟨1, 179, 0⟩ : Nd), ⟨1, 180, 0⟩] ++ [⟨7, (p.length : Int), 0⟩] = p ++ [⟨1, 179, 0⟩, ⟨1, 180, 0⟩, ⟨7, (p.length : Int), 0⟩] := by simp
    rw [eB] at e4 o3
    have lB : (p ++ [(⟨1, 179, 0⟩ : Nd), ⟨1, 180, 0⟩, ⟨7, (p.length : Int), 0⟩]).length = p.length + 3 := by simp
    have o4 := ok_add o3 ⟨7, (p.length : Int) + 1, 0⟩
    rw [← e4] at o4
    rw [add_not (nB _ (fun z hz => hz)) (rB _ (by omega))] at e4
    by_cases f3 : (p ++ [(⟨1, 179, 0⟩ : Nd), ⟨1, 180, 0⟩, ⟨7, (p.length : Int), 0⟩]).length = 500
    · rw [if_pos f3] at e4
      rw [e4] at e5
      exact (full _ f3 (fun z hz => by simp at hz ⊢; rcases hz with h | h | h | h <;> simp [h]) (by omega) e5).elim
    · rw [if_neg f3] at e4
      rw [e4] at e5 o4
      simp only at e5 o4
      have eC : p ++ [(⟨1, 179, 0⟩ : Nd), ⟨1, 180, 0⟩, ⟨7, (p.length : Int), 0⟩] ++ [⟨7, (p.length : Int) + 1, 0⟩] = p ++ [⟨1, 179, 0⟩, ⟨1, 180, 0⟩, ⟨7, (p.length : Int), 0⟩, ⟨7, (p.length : Int) + 1, 0⟩] := by simp
      rw [eC] at e5 o4
      have lC : (p ++ [(⟨1, 179, 0⟩ : Nd), ⟨1, 180, 0⟩, ⟨7, (p.length : Int), 0⟩, ⟨7, (p.length : Int) + 1, 0⟩]).length = p.length + 4 := by simp
      by_cases f4 : (p ++ [(⟨1, 179, 0⟩ : Nd), ⟨1, 180, 0⟩, ⟨7, (p.length : Int), 0⟩, ⟨7, (p.length : Int) + 1, 0⟩]).length = 500
      · exact (full _ f4 (fun z hz => hz) (by omega) e5).elim
      · have o5 := ok_add o4 (normN ⟨8, (p.length : Int) + 1, (p.length : Int)⟩)
        rw [← e5] at o5
        have hv : ¬ (addN (p ++ [(⟨1, 179, 0⟩ : Nd), ⟨1, 180, 0⟩, ⟨7, (p.length : Int), 0⟩, ⟨7, (p.length : Int) + 1, 0⟩]) (normN ⟨8, (p.length : Int) + 1, (p.length : Int)⟩)).2 < 0 := by rw [← e5]; exact h5
        have en : normN ⟨8, (p.length : Int) + 1, (p.length : Int)⟩ = ⟨8, (p.length : Int), (p.length : Int) + 1⟩ := by
          unfold normN
          rw [if_pos ⟨rfl, by show (p.length : Int) + 1 > p.length; omega⟩]
        have hn : (⟨8, (p.length : Int), (p.length : Int) + 1⟩ : Nd) ∉ p ++ [(⟨1, 179, 0⟩ : Nd), ⟨1, 180, 0⟩, ⟨7, (p.length : Int), 0⟩, ⟨7, (p.length : Int) + 1, 0⟩] := by
          intro hm
          rcases List.mem_append.1 hm with hm | hm
          · obtain ⟨i, hi, e⟩ := List.getElem_of_mem hm
            have := two_in hok hi (by rw [e]; show cnt 8 = 2; decide)
            rw [e] at this
            simp only at this
            omega
          · simp at hm
        have hr : nOk (⟨8, (p.length : Int), (p.length : Int) + 1⟩ : Nd) (p ++ [(⟨1, 179, 0⟩ : Nd), ⟨1, 180, 0⟩, ⟨7, (p.length : Int), 0⟩, ⟨7, (p.length : Int) + 1, 0⟩]).length = true := by
          unfold nOk
          rw [if_neg (by show ¬ cnt 8 = 0; decide), if_neg (by show ¬ cnt 8 = 1; decide), if_pos (by show cnt 8 = 2; decide), lC]
          simp
          omega
        rw [en, add_not hn hr, if_neg f4] at e5
        have eD : p ++ [(⟨1, 179, 0⟩ : Nd), ⟨1, 180, 0⟩, ⟨7, (p.length : Int), 0⟩, ⟨7, (p.length : Int) + 1, 0⟩] ++ [⟨8, (p.length : Int), (p.length : Int) + 1⟩] = five p := by simp [five]
        rw [eD, lC] at e5
        rw [e5] at o5
        refine ⟨rfl, rfl, ?_, ?_, ?_, o5⟩
        · rw [e3]; show (((p ++ [(⟨1, 179, 0⟩ : Nd), ⟨1, 180, 0⟩]).length : Nat) : Int) = _; rw [lA]; omega
        · rw [e4]; show (((p ++ [(⟨1, 179, 0⟩ : Nd), ⟨1, 180, 0⟩, ⟨7, (p.length : Int), 0⟩]).length : Nat) : Int) = _; rw [lB]; omega
        · rw [e5]; congr 1
theorem shares_ev (p : List Nd) (t : List Int) (hok : poolOkB (five p) = true) (hk : knowB p.length t = true) (ht : t.length ≤ 197) :
    Ev (fun k => laws_FnShares.j2 k t (p.length : Int) ((p.length : Int) + 1) ((p.length : Int) + 2) ((p.length : Int) + 3) ((p.length : Int) + 4) false (five p)) true := by
  have hl := five_len p
  have hl5 := ok_len hok
  have hin := know_in hk
  have hk0 := know_wide hk (show p.length ≤ (five p).length by omega)
  have has : ∀ i : Nat, i < 5 → hasB (five p).length ((p.length : Int) + (i : Int)) = true := by
    intro i hi
    unfold hasB
    simp
    omega
  have h0 : hasB (five p).length (p.length : Int) = true := by simpa using has 0 (by omega)
  have h1 : hasB (five p).length ((p.length : Int) + 1) = true := has 1 (by omega)
  have h2 : hasB (five p).length ((p.length : Int) + 2) = true := has 2 (by omega)
  have h3 : hasB (five p).length ((p.length : Int) + 3) = true := has 3 (by omega)
  -- the two powers
  have i1 := implKnowPut_ev (five p) t ((p.length : Int) + 2) (by omega) (by omega)
  have r1 := kputL_room hok hk0 h2
  have m1 := kput_room (t := t) (a := (p.length : Int) + 2) (by omega)
  have l1 := kput_len t ((p.length : Int) + 2)
  have k1 := kput_know hk0 h2
  rw [← r1] at m1 l1 k1
  generalize kputL (five p) t ((p.length : Int) + 2) = a1 at i1 m1 l1 k1 r1
  have i2 := implKnowPut_ev (five p) a1.1 ((p.length : Int) + 3) (by omega) (by omega)
  have r2 := kputL_room hok k1 h3
  have m2 := kput_room (t := a1.1) (a := (p.length : Int) + 3) (by omega)
  have l2 := kput_len a1.1 ((p.length : Int) + 3)
  have k2 := kput_know k1 h3
  rw [← r2] at m2 l2 k2
  generalize kputL (five p) a1.1 ((p.length : Int) + 3) = a2 at i2 m2 l2 k2 r2
  have i3 := implKnowPut_ev (five p) a2.1 ((p.length : Int) + 1) (by omega) (by omega)
  have r3 := kputL_room hok k2 h1
  have m3 := kput_room (t := a2.1) (a := (p.length : Int) + 1) (by omega)
  have l3 := kput_len a2.1 ((p.length : Int) + 1)
  have k3 := kput_know k2 h1
  rw [← r3] at m3 l3 k3
  generalize kputL (five p) a2.1 ((p.length : Int) + 1) = a3 at i3 m3 l3 k3 r3
  have i4 := implKnowPut_ev (five p) a2.1 (p.length : Int) (by omega) (by omega)
  have r4 := kputL_room hok k2 h0
  have m4 := kput_room (t := a2.1) (a := (p.length : Int)) (by omega)
  have l4 := kput_len a2.1 (p.length : Int)
  have k4 := kput_know k2 h0
  rw [← r4] at m4 l4 k4
  generalize kputL (five p) a2.1 (p.length : Int) = a4 at i4 m4 l4 k4 r4
  have e2 : ∀ z, z ∈ a2.1 ↔ z = (p.length : Int) + 3 ∨ z = (p.length : Int) + 2 ∨ z ∈ t := fun z => by rw [m2, m1]
  have e3 : ∀ z, z ∈ a3.1 ↔ z = (p.length : Int) + 1 ∨ z = (p.length : Int) + 3 ∨ z = (p.length : Int) + 2 ∨ z ∈ t := fun z => by rw [m3, e2]
  have e4 : ∀ z, z ∈ a4.1 ↔ z = (p.length : Int) ∨ z = (p.length : Int) + 3 ∨ z = (p.length : Int) + 2 ∨ z ∈ t := fun z => by rw [m4, e2]
  have not : ∀ i : Nat, ((p.length + i : Nat) : Int) ∉ t := fun i hm => by have := hin _ hm; omega
  -- what is made
  have s2 : makesB (five p) a2.1 ((p.length : Int) + 4) = false := by
    rw [show ((p.length : Int) + 4) = ((p.length + 4 : Nat) : Int) by omega, makes_at hok k2 (by omega)]
    rw [shared_eq hok ((e2 _).2 (.inr (.inl (by omega)))) ((e2 _).2 (.inl (by omega))) (fun hm => by rcases (e2 _).1 hm with h | h | h <;> first | omega | exact not 4 h)]
    rw [name_not hok (by omega) (five_0 p (by omega)) (by omega) (fun hm => by rcases (e2 _).1 hm with h | h | h <;> first | omega | exact not 0 h)]
    rw [name_not hok (by omega) (five_1 p (by omega)) (by omega) (fun hm => by rcases (e2 _).1 hm with h | h | h <;> first | omega | exact not 1 h)]
    rfl
  have s3 : makesB (five p) a3.1 ((p.length : Int) + 4) = true := by
    rw [show ((p.length : Int) + 4) = ((p.length + 4 : Nat) : Int) by omega, makes_at hok k3 (by omega)]
    rw [shared_eq hok ((e3 _).2 (.inr (.inr (.inl (by omega))))) ((e3 _).2 (.inr (.inl (by omega)))) (fun hm => by rcases (e3 _).1 hm with h | h | h | h <;> first | omega | exact not 4 h)]
    rw [known_yes hok (i := p.length + 1) (by omega) ((e3 _).2 (.inl (by omega))), Bool.or_true]
  have s4 : makesB (five p) a4.1 ((p.length : Int) + 4) = true := by
    rw [show ((p.length : Int) + 4) = ((p.length + 4 : Nat) : Int) by omega, makes_at hok k4 (by omega)]
    rw [shared_eq hok ((e4 _).2 (.inr (.inr (.inl (by omega))))) ((e4 _).2 (.inr (.inl (by omega)))) (fun hm => by rcases (e4 _).1 hm with h | h | h | h <;> first | omega | exact not 4 h)]
    rw [known_yes hok (i := p.length + 0) (by omega) ((e4 _).2 (.inl (by omega))), Bool.true_or]
  have sx : makesB (five p) a2.1 (p.length : Int) = false := by
    rw [show (p.length : Int) = ((p.length + 0 : Nat) : Int) by omega, makes_at hok k2 (by omega)]
    exact name_not hok (by omega) (five_0 p (by omega)) (by omega) (fun hm => by rcases (e2 _).1 hm with h | h | h <;> first | omega | exact not 0 h)
  have w2 := implMakes_ev (five p) a2.1 ((p.length : Int) + 4) (by omega) (by omega)
  have w3 := implMakes_ev (five p) a3.1 ((p.length : Int) + 4) (by omega) (by omega)
  have w4 := implMakes_ev (five p) a4.1 ((p.length : Int) + 4) (by omega) (by omega)
  have wx := implMakes_ev (five p) a2.1 (p.length : Int) (by omega) (by omega)
  rw [s2] at w2
  rw [s3] at w3
  rw [s4] at w4
  rw [sx] at wx
  refine Ev.step (fun k => by rw [laws_FnShares.j2]) (ev_if_neg (by simp) ?_)
  exact ev_bind i1 (ev_bind i2 (ev_bind i3 (ev_bind i4 (ev_bind w2 (ev_if_neg (by simp) (ev_bind w3 (ev_if_pos rfl (ev_bind w4 (ev_if_pos rfl (ev_bind wx (ev_some _)))))))))))
end Go.Proofs.Ytilnfdnigjblcaa.Lib
namespace Go.Proofs.Ytilnfdnigjblcaa.Pure
open Go.RowKit Go.Proofs.Ytilnfdnigjblcaa.H Go.Proofs.Ytilnfdnigjblcaa.Lib Go.Proofs.YtilnfdnigjblcaaW.PrintWords Go.Proofs.YtilnfdnigjblcaaW.PrintLast

theorem FnShares : laws_FnShares.Pure := by
  intro l0 hm _ _
  have hb : l0.length ≤ 9223372036854775806 := by unfold maxLen at hm; omega
  refine ev_rounds ?_
  unfold laws_FnShares.f
  refine ev_bind_const (a := decide ((l0.length : Int) > 1048576)) rfl ?_
  by_cases hbig : (l0.length : Int) > 1048576
  · exact ev_if_pos (decide_eq_true hbig) (ev_some _)
  refine ev_if_neg (by simpa using hbig) ?_
  obtain ⟨p, t, x0, hd, hp, ht⟩ := l6Draw_ok l0 hb
  have hd' : Ev (fun k => spec_DrawMakesAll.f k l0) (p, t) := by unfold spec_DrawMakesAll.f; exact ev_bind hd (ev_some _)
  have sk := specKnowOk_ev p t (by omega) (by omega)
  have ia := implMakesAll_ev p t (by omega) (by omega)
  have late : Ev (fun k => laws_FnShares.j0 k t true p) true := by
    refine Ev.step (fun k => by rw [laws_FnShares.j0]) (ev_if_pos rfl (ev_bind ia ?_))
    by_cases h0 : ((allL p t).length : Int) = 0
    · exact ev_if_pos h0 (ev_some _)
    · refine ev_if_neg h0 (ev_some_of ?_)
      unfold allL at h0
      split at h0
      · rw [mk_length] at h0
        rw [decide_eq_true_eq]
        omega
      · exact absurd rfl h0
  refine ev_bind hd' (ev_bind sk ?_)
  by_cases hk : (poolOkB p && knowB p.length t) = true
  · refine ev_if_pos hk ?_
    have hk' := hk
    rw [Bool.and_eq_true] at hk'
    by_cases h197 : (t.length : Int) > 197
    · rw [decide_eq_true h197]
      exact late
    · rw [decide_eq_false h197]
      have hok := hk'.1
      have padd : ∀ (q : List Nd) (y : Nd), poolOkB q = true → poolAddL q y = addN q (normN y) := fun q y h => by unfold poolAddL; rw [if_pos h]
      have named : ∀ (q : List Nd) (z : Int), poolOkB q = true → Ev (fun k => impl_NameOf.f k q z) (addN q ⟨1, z, 0⟩) := by
        intro q z h
        have e : addN q ⟨1, z, 0⟩ = poolAddL q ⟨1, z, 0⟩ := by rw [padd q _ h]; unfold normN; rw [if_neg (by simp)]
        rw [e]
        unfold impl_NameOf.f
        exact ev_bind (implPoolAdd_ev q 1 z 0) (ev_some _)
      have powered : ∀ (q : List Nd) (z : Int), poolOkB q = true → Ev (fun k => impl_MakePower.f k q z) (addN q ⟨7, z, 0⟩) := by
        intro q z h
        have e : addN q ⟨7, z, 0⟩ = poolAddL q ⟨7, z, 0⟩ := by rw [padd q _ h]; unfold normN; rw [if_neg (by simp)]
        rw [e]
        unfold impl_MakePower.f
        exact ev_bind (implPoolAdd_ev q 7 z 0) (ev_some _)
      have shared : ∀ (q : List Nd) (z y : Int), poolOkB q = true → Ev (fun k => impl_MakeShared.f k q z y) (addN q (normN ⟨8, z, y⟩)) := by
        intro q z y h
        rw [← padd q _ h]
        unfold impl_MakeShared.f
        exact ev_bind (implPoolAdd_ev q 8 z y) (ev_some _)
      have hx := named p 179 hok
      have hsp : Ev (fun k => spec_NameOf.f k p 179) ((addN p ⟨1, 179, 0⟩).1, (addN p ⟨1, 179, 0⟩).2, p) := by
        have h := specPut_ev p 1 179 0 hp
        have e : poolAddL p ⟨1, 179, 0⟩ = addN p ⟨1, 179, 0⟩ := by rw [padd p _ hok]; unfold normN; rw [if_neg (by simp)]
        rw [e] at h
        unfold spec_NameOf.f
        exact ev_bind h (ev_some _)
      have iko := implKnowOk_ev p t (by omega) (by omega)
      rw [hk] at iko
      have o1 := ok_add hok ⟨1, 179, 0⟩
      have hy := named _ 180 o1
      have o2 := ok_add o1 ⟨1, 180, 0⟩
      have hgx := powered _ (addN p ⟨1, 179, 0⟩).2 o2
      have o3 := ok_add o2 ⟨7, (addN p ⟨1, 179, 0⟩).2, 0⟩
      have hgy := powered _ (addN (addN p ⟨1, 179, 0⟩).1 ⟨1, 180, 0⟩).2 o3
      have o4 := ok_add o3 ⟨7, (addN (addN p ⟨1, 179, 0⟩).1 ⟨1, 180, 0⟩).2, 0⟩
      have hs := shared _ (addN (addN p ⟨1, 179, 0⟩).1 ⟨1, 180, 0⟩).2 (addN p ⟨1, 179, 0⟩).2 o4
      refine Ev.step (fun k => by rw [laws_FnShares.j0]) (ev_if_neg (by simp) ?_)
      refine ev_bind hx (ev_bind hsp (ev_if_pos rfl (ev_bind iko ?_)))
      refine Ev.step (fun k => by rw [laws_FnShares.j1]) (ev_if_neg (by simp) ?_)
      refine ev_bind hy (ev_bind hgx (ev_bind hgy (ev_bind hs ?_)))
      have done : ∀ (a b c d e f : Int) (q : List Nd), Ev (fun k => laws_FnShares.j2 k t a b c d e true q) true := fun a b c d e f q =>
        Ev.step (fun k => by rw [laws_FnShares.j2]) (ev_if_pos rfl (ev_some _))
      by_cases h1 : (addN p ⟨1, 179, 0⟩).2 < (p.length : Int)
      · exact ev_if_pos h1 (done _ _ _ _ _ 0 _)
      · refine ev_if_neg h1 ?_
        by_cases h2 : (addN (addN p ⟨1, 179, 0⟩).1 ⟨1, 180, 0⟩).2 < (p.length : Int)
        · exact ev_if_pos h2 (done _ _ _ _ _ 0 _)
        · refine ev_if_neg h2 ?_
          obtain ⟨v3, e3⟩ : ∃ v, v = addN (addN (addN p ⟨1, 179, 0⟩).1 ⟨1, 180, 0⟩).1 ⟨7, (addN p ⟨1, 179, 0⟩).2, 0⟩ := ⟨_, rfl⟩
          rw [← e3]
          obtain ⟨v4, e4⟩ : ∃ v, v = addN v3.1 ⟨7, (addN (addN p ⟨1, 179, 0⟩).1 ⟨1, 180, 0⟩).2, 0⟩ := ⟨_, rfl⟩
          rw [← e4]
          obtain ⟨v5, e5⟩ : ∃ v, v = addN v4.1 (normN ⟨8, (addN (addN p ⟨1, 179, 0⟩).1 ⟨1, 180, 0⟩).2, (addN p ⟨1, 179, 0⟩).2⟩) := ⟨_, rfl⟩
          rw [← e5]
          by_cases h5 : v5.2 < 0
          · rw [decide_eq_true h5]
            exact done _ _ _ _ _ 0 _
          · rw [decide_eq_false h5]
            obtain ⟨x1, x2, x3, x4, x5, x6⟩ := five_put hok h1 h2 rfl rfl e3 e4 e5 h5
            rw [x1, x2, x3, x4, x5]
            exact shares_ev p t x6 hk'.2 (by omega)
  · exact ev_if_neg hk late

end Go.Proofs.Ytilnfdnigjblcaa.Pure
