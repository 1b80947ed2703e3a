/- What stands in a pool behind a node that was put into it; draws of a pool and two terms. No conditions but a right pool. -/
import Derived.Test.YtafahnellnfclaaTLibPut
import Derived.Test.YtafahnellnfclaaTLibDrawPool
import Derived.Test.YtafahnellnfclaaTLibParts
import Derived.Test.YtafahnellnfclaaTRg7
set_option linter.unusedVariables false
set_option linter.unusedSimpArgs false
namespace Go.Proofs.Ytafahnellnfclaa.Lib
open Go.RowKit Go.Proofs.Ytafahnellnfclaa.R Go.Proofs.YtafahnellnfclaaW.PrintWords Go.Proofs.YtafahnellnfclaaW.PrintLast Go.Proofs.YtafahnellnfclaaW.PrintMore

theorem add_pre (p : List Nd) (y : Nd) : p <+: (addN p y).1 := by
  unfold addN
  repeat' split
  all_goals first | exact List.prefix_refl _ | exact List.prefix_append _ _
theorem add_at {p : List Nd} {y : Nd} (h : 0 ≤ (addN p y).2) : ∃ i : Nat, ∃ hi : i < (addN p y).1.length, (addN p y).2 = i ∧ (addN p y).1[i] = y := by
  by_cases hf : findN p y ≥ 0
  · have e : addN p y = (p, findN p y) := by unfold addN; rw [if_pos hf]
    obtain ⟨i, hi, e1, e2⟩ := findN_at hf
    rw [e]
    exact ⟨i, hi, e1, e2⟩
  · by_cases hr : nOk y p.length = true
    · by_cases h5 : p.length = 500
      · have e : addN p y = (p, -1) := by unfold addN; rw [if_neg hf, if_pos hr, if_pos h5]
        rw [e] at h
        exact absurd h (by show ¬ (0 : Int) ≤ -1; omega)
      · have e : addN p y = (p ++ [y], (p.length : Int)) := by unfold addN; rw [if_neg hf, if_pos hr, if_neg h5]
        rw [e]
        exact ⟨p.length, by simp, rfl, by simp⟩
    · have e : addN p y = (p, -1) := by unfold addN; rw [if_neg hf, if_neg hr]
      rw [e] at h
      exact absurd h (by show ¬ (0 : Int) ≤ -1; omega)
theorem add_full {p : List Nd} {y : Nd} (hr : nOk y p.length = true) (h : (addN p y).2 < 0) : (addN p y).1 = p ∧ p.length = 500 := by
  by_cases hf : findN p y ≥ 0
  · have e : addN p y = (p, findN p y) := by unfold addN; rw [if_pos hf]
    rw [e] at h
    exact absurd hf (by show ¬ findN p y ≥ 0; have : findN p y < 0 := h; omega)
  · by_cases h5 : p.length = 500
    · have e : addN p y = (p, -1) := by unfold addN; rw [if_neg hf, if_pos hr, if_pos h5]
      rw [e]
      exact ⟨rfl, h5⟩
    · have e : addN p y = (p ++ [y], (p.length : Int)) := by unfold addN; rw [if_neg hf, if_pos hr, if_neg h5]
      rw [e] at h
      have h' : (p.length : Int) < 0 := h
      omega
theorem pre_at {α : Type} {p q : List α} (h : p <+: q) {i : Nat} (hi : i < p.length) : ∃ hq : i < q.length, q[i] = p[i] := by
  obtain ⟨s, rfl⟩ := h
  exact ⟨by simp; omega, List.getElem_append_left hi⟩
theorem pre_len {α : Type} {p q : List α} (h : p <+: q) : p.length ≤ q.length := by
  obtain ⟨s, rfl⟩ := h
  simp
theorem one_ok {c : Int} {a n : Nat} (hc : cnt c = 1) (ha : a < n) : nOk ⟨c, a, 0⟩ n = true := by
  unfold nOk
  simp only
  rw [if_neg (by omega), if_pos hc]
  simp
  omega
theorem normN_id {x : Nd} (h : x.f0 ≠ 8) : normN x = x := by
  unfold normN
  rw [if_neg (fun h' => h h'.1)]
theorem l3Draw_ok (b : List Int) (hb : b.length ≤ 9223372036854775806) : ∃ q x y, Ev (fun k => spec_l3Draw.f k b) (q, x, y) ∧ q.length ≤ 500 := by
  unfold spec_l3Draw.f
  obtain ⟨h, e⟩ := new_ok b hb
  obtain ⟨q, i1, h1, e1, hq, hc1⟩ := drawAny_ok h (cur_new b hb)
  obtain ⟨x, i2, h2, e2, hc2⟩ := drawTerm_ok h1 q hc1
  obtain ⟨y, i3, h3, e3, hc3⟩ := drawTerm_ok h2 q hc2
  exact ⟨q, x, y, ev_bind e (ev_bind e1 (ev_bind e2 (ev_bind e3 (ev_some _)))), hq⟩
end Go.Proofs.Ytafahnellnfclaa.Lib
