/- A drawn name is put as itself, and found again. No conditions. -/
import Derived.Test.YtdgahpigcaejbaaWNLibPut
import Derived.Test.YtdgahpigcaejbaaWNLibDrawPool
import Derived.Test.YtdgahpigcaejbaaWNLibNames
import Derived.Test.YtdgahpigcaejbaaWNBg4
import Derived.Test.YtdgahpigcaejbaaWNBg5
import Derived.Test.YtdgahpigcaejbaaWNBg7
set_option linter.unusedVariables false
set_option linter.unusedSimpArgs false
namespace Go.Proofs.Ytdgahpigcaejbaa.Lib
open Go.RowKit Go.Proofs.Ytdgahpigcaejbaa.B Go.Proofs.YtdgahpigcaejbaaW.PrintWords Go.Proofs.YtdgahpigcaejbaaW.PrintLast Go.Proofs.YtdgahpigcaejbaaW.PrintMore

theorem drawNum_ok {b : List Int} {i : Int} (h : Int) (hc : CurOk b i) : ∃ x i' h', spec_l2DrawNum.f b i h = some (x, i', h') ∧ CurOk b i' := by
  unfold spec_l2DrawNum.f
  obtain ⟨x, i1, h1, e1, _, _, _, hc1⟩ := below_ok h 250 hc
  rw [e1]
  simp only [Option.bind_some]
  obtain ⟨y, i2, h2, e2, _, hc2⟩ := pickInt_ok h1 ([(-1), 0, 1, 4, 5, 19, 20, 49, 50, 54, 60, 90, 94, 99, 100, 199, 200, 9223372036854775807, x] : List Int) (by simp) hc1
  rw [e2]
  exact ⟨_, _, _, rfl, hc2⟩
theorem drawName_ok (b : List Int) (hb : b.length ≤ 9223372036854775806) : ∃ q x, Ev (fun k => spec_DrawNameOf.f k b) (q, x) ∧ q.length ≤ 500 := by
  unfold spec_DrawNameOf.f
  obtain ⟨h, e⟩ := new_ok b hb
  obtain ⟨q, i1, h1, e1, hq, hc1⟩ := drawAny_ok h (cur_new b hb)
  obtain ⟨x, i2, h2, e2, hc2⟩ := drawNum_ok h1 hc1
  exact ⟨q, x, ev_bind e (ev_bind e1 (ev_bind_const e2 (ev_some _))), hq⟩
theorem specPut_ev (p : List Nd) (a b c : Int) (hp : p.length ≤ 500) : Ev (fun k => spec_PoolAdd.f k p a b c) ((poolAddL p ⟨a, b, c⟩).1, (poolAddL p ⟨a, b, c⟩).2, p) := by
  unfold spec_PoolAdd.f
  refine ev_bind (a := poolAddL p ⟨a, b, c⟩) ?_ (ev_some _)
  unfold spec_PoolAdd.f0 poolAddL
  refine ev_bind (specPoolOk_ev p (by omega)) ?_
  by_cases hok : poolOkB p = true
  · rw [if_pos hok]
    have hl := ok_len hok
    refine ev_if_pos hok (ev_bind (specAdd_ev p ⟨a, b, c⟩ (by omega)) (ev_bind_const (specCopy_eq _ ?_) (ev_some _)))
    have := addN_500 p (normN ⟨a, b, c⟩) hl
    omega
  · rw [if_neg hok]
    exact ev_if_neg hok (ev_some _)
theorem put_at {p : List Nd} {y : Nd} (h : ¬ (addN p y).2 < 0) : ∃ i : Nat, ∃ hi : i < (addN p y).1.length, (addN p y).2 = i ∧ (addN p y).1[i] = y := by
  by_cases hf : findN p y ≥ 0
  · have e : addN p y = (p, findN p y) := by unfold addN; rw [if_pos hf]
    obtain ⟨i, hi, e1, e2⟩ := findN_at hf
    rw [e]
    exact ⟨i, hi, e1, e2⟩
  · by_cases hr : nOk y p.length = true
    · by_cases h5 : p.length = 500
      · have e : addN p y = (p, -1) := by unfold addN; rw [if_neg hf, if_pos hr, if_pos h5]
        rw [e] at h
        exact absurd (show (-1 : Int) < 0 by omega) h
      · have e : addN p y = (p ++ [y], (p.length : Int)) := by unfold addN; rw [if_neg hf, if_pos hr, if_neg h5]
        rw [e]
        exact ⟨p.length, by simp, rfl, by simp⟩
    · have e : addN p y = (p, -1) := by unfold addN; rw [if_neg hf, if_neg hr]
      rw [e] at h
      exact absurd (show (-1 : Int) < 0 by omega) h
theorem put_fails {p : List Nd} {x : Int} (hok : poolOkB p = true) (h : (addN p ⟨1, x, 0⟩).2 < 0) (h0 : ¬ x < 0) (h2 : ¬ x ≥ 200) : p.length = 500 := by
  have hr : nOk ⟨1, x, 0⟩ p.length = true := by
    unfold nOk
    rw [if_pos (show cnt 1 = 0 by decide)]
    simp
    omega
  by_cases hf : findN p ⟨1, x, 0⟩ ≥ 0
  · have e : addN p ⟨1, x, 0⟩ = (p, findN p ⟨1, x, 0⟩) := by unfold addN; rw [if_pos hf]
    rw [e] at h
    exact absurd h (by show ¬ findN p ⟨1, x, 0⟩ < 0; omega)
  · by_cases h5 : p.length = 500
    · exact h5
    · have e : addN p ⟨1, x, 0⟩ = (p ++ [⟨1, x, 0⟩], (p.length : Int)) := by unfold addN; rw [if_neg hf, if_pos hr, if_neg h5]
      rw [e] at h
      exact absurd h (by show ¬ (p.length : Int) < 0; omega)
theorem name_alone {l : List Nd} (hok : poolOkB l = true) {t : Nat} (ht : t < l.length) {x : Int} (h : l[t] = ⟨1, x, 0⟩) : namesL l t = [x] := by
  have hp : partsB l[t] = [] := by rw [h]; rfl
  refine str_ext (setL_str _) (by simp [Str]) (fun y => ?_)
  refine Iff.trans (mem_namesL hok y) ?_
  constructor
  · rintro ⟨i, hi, h1, h2, h3⟩
    rcases (ins_parts hok ht i).1 h1 with rfl | ⟨q, hq, h4⟩
    · rw [h] at h3; simp [← h3]
    · rw [hp] at hq; simp at hq
  · intro hy
    simp only [List.mem_singleton] at hy
    subst hy
    exact ⟨t, ht, ins_self hok ht, by rw [h], by rw [h]⟩
end Go.Proofs.Ytdgahpigcaejbaa.Lib
namespace Go.Proofs.Ytdgahpigcaejbaa.Pure
open Go.RowKit Go.Proofs.Ytdgahpigcaejbaa.B Go.Proofs.Ytdgahpigcaejbaa.Lib Go.Proofs.YtdgahpigcaejbaaW.PrintWords Go.Proofs.YtdgahpigcaejbaaW.PrintLast

theorem FnNameOf : laws_FnNameOf.Pure := by
  intro l0 hm _ _
  have hb : l0.length ≤ 9223372036854775806 := by unfold maxLen at hm; omega
  refine ev_rounds ?_
  unfold laws_FnNameOf.f
  refine ev_bind_const (a := decide ((l0.length : Int) > 1048576)) rfl ?_
  by_cases hbig : (l0.length : Int) > 1048576
  · exact ev_if_pos (decide_eq_true hbig) (ev_some _)
  refine ev_if_neg (by simpa using hbig) ?_
  obtain ⟨p, x, hd, hp⟩ := drawName_ok l0 hb
  have him : Ev (fun k => impl_NameOf.f k p x) (poolAddL p ⟨1, x, 0⟩) := by
    unfold impl_NameOf.f
    exact ev_bind (implPoolAdd_ev p 1 x 0) (ev_some _)
  have hsp : Ev (fun k => spec_NameOf.f k p x) ((poolAddL p ⟨1, x, 0⟩).1, (poolAddL p ⟨1, x, 0⟩).2, p) := by
    unfold spec_NameOf.f
    exact ev_bind (specPut_ev p 1 x 0 hp) (ev_some _)
  refine ev_bind hd (ev_bind him (ev_bind hsp (ev_if_pos rfl ?_)))
  have hk := specPoolOk_ev p (by omega)
  by_cases hok : poolOkB p = true
  · have e : poolAddL p ⟨1, x, 0⟩ = addN p ⟨1, x, 0⟩ := by
      unfold poolAddL normN
      rw [if_pos hok, if_neg (by simp)]
    rw [e]
    by_cases hv : (addN p ⟨1, x, 0⟩).2 < 0
    · refine ev_if_pos hv (ev_bind hk (ev_if_pos hok ?_))
      by_cases h0 : x < 0
      · exact ev_if_pos h0 (ev_some _)
      · refine ev_if_neg h0 ?_
        by_cases h2 : x ≥ 200
        · exact ev_if_pos h2 (ev_some _)
        · refine ev_if_neg h2 (ev_some_of ?_)
          have := put_fails hok hv h0 h2
          simp [this]
    · refine ev_if_neg hv ?_
      obtain ⟨i, hi, e1, e2⟩ := put_at hv
      have hq := ok_add hok ⟨1, x, 0⟩
      have hl := addN_500 p ⟨1, x, 0⟩ (ok_len hok)
      generalize addN p ⟨1, x, 0⟩ = v at *
      obtain ⟨q, t⟩ := v
      simp only at e1 hi e2 hq hl
      subst e1
      have hn := implNames_ev q (i : Int) (by omega)
      have en : namesOf q (i : Int) = [x] := by
        unfold namesOf
        rw [if_pos ⟨hq, by unfold hasB; simp; omega⟩, Int.toNat_natCast]
        exact name_alone hq hi e2
      rw [en] at hn
      refine ev_bind hn (ev_if_pos (by omega) (ev_if_pos (by simp only; omega) ?_))
      simp only
      rw [rdT q i hi, e2]
      exact ev_if_pos (by simp) (ev_if_pos rfl (ev_if_pos (by simp) (ev_some_of (by simp [rd]))))
  · have e : poolAddL p ⟨1, x, 0⟩ = ([], -1) := by unfold poolAddL; rw [if_neg hok]
    rw [e]
    exact ev_if_pos (by simp) (ev_bind hk (ev_if_neg hok (ev_some _)))

end Go.Proofs.Ytdgahpigcaejbaa.Pure
