/- A term rebuilt in another pool, its parts by what each term is there: what stands where, in plain Lean. No conditions but right pools. -/
import Derived.Test.YtobkledmbnacjaaZSLibBelow
import Derived.Test.YtobkledmbnacjaaZSLibBelowMem
import Derived.Test.YtobkledmbnacjaaZSLibAdd
import Derived.Test.YtobkledmbnacjaaZSLibOkAdd
set_option linter.unusedVariables false
set_option linter.unusedSimpArgs false
namespace Go.Proofs.Ytobkledmbnacjaa.Lib
open Go.RowKit Go.Proofs.Ytobkledmbnacjaa.SW Go.Proofs.YtobkledmbnacjaaW.PrintWords Go.Proofs.YtobkledmbnacjaaW.PrintLast Go.Proofs.YtobkledmbnacjaaW.PrintMore

def reN (f : Nat → Int) (n : Nd) : Nd := if cnt n.f0 = 1 then ⟨n.f0, f n.f1.toNat, 0⟩ else if cnt n.f0 = 2 then ⟨n.f0, f n.f1.toNat, f n.f2.toNat⟩ else ⟨n.f0, n.f1, 0⟩
def upd (f : Nat → Int) (i : Nat) (v : Int) : Nat → Int := fun j => if j = i then v else f j
theorem upd_at (f : Nat → Int) (i : Nat) (v : Int) : upd f i v i = v := by unfold upd; rw [if_pos rfl]
theorem upd_far {f : Nat → Int} {i j : Nat} {v : Int} (h : j ≠ i) : upd f i v j = f j := by unfold upd; rw [if_neg h]
def carry (p : List Nd) (I : Nat → Bool) (a b : Int) : Nat → Nat → List Nd → (Nat → Int) → Option (List Nd × (Nat → Int))
  | 0, i, q, f => some (q, f)
  | d + 1, i, q, f =>
    if I i = true then
      (if (i : Int) = a then carry p I a b d (i + 1) q (upd f i b)
       else if (addN q (normN (reN f (p.getD i zN)))).2 < 0 then none
       else carry p I a b d (i + 1) (addN q (normN (reN f (p.getD i zN)))).1 (upd f i (addN q (normN (reN f (p.getD i zN)))).2))
    else carry p I a b d (i + 1) q f
theorem right_cases {n : Nd} {i : Nat} (h : nOk n i = true) : (cnt n.f0 = 0 ∧ n.f2 = 0) ∨ (cnt n.f0 = 1 ∧ n.f2 = 0) ∨ (cnt n.f0 = 2 ∧ (n.f0 = 8 → n.f1 ≤ n.f2)) := by
  unfold nOk at h
  by_cases h0 : cnt n.f0 = 0
  · rw [if_pos h0] at h
    simp only [Bool.and_eq_true, decide_eq_true_eq] at h
    exact .inl ⟨h0, h.2⟩
  · rw [if_neg h0] at h
    by_cases h1 : cnt n.f0 = 1
    · rw [if_pos h1] at h
      simp only [Bool.and_eq_true, decide_eq_true_eq] at h
      exact .inr (.inl ⟨h1, h.2⟩)
    · rw [if_neg h1] at h
      by_cases h2 : cnt n.f0 = 2
      · rw [if_pos h2] at h
        simp only [Bool.and_eq_true, decide_eq_true_eq] at h
        exact .inr (.inr ⟨h2, h.2.2⟩)
      · rw [if_neg h2] at h
        exact absurd h (by simp)
theorem re_0 (f : Nat → Int) {k : Int} (h : cnt k = 0) (x y : Int) : reN f ⟨k, x, y⟩ = ⟨k, x, 0⟩ := by
  unfold reN
  rw [if_neg (show ¬ cnt k = 1 by omega), if_neg (show ¬ cnt k = 2 by omega)]
theorem re_1 (f : Nat → Int) {k : Int} (h : cnt k = 1) (x y : Int) : reN f ⟨k, x, y⟩ = ⟨k, f x.toNat, 0⟩ := by
  unfold reN
  rw [if_pos (show cnt k = 1 from h)]
theorem re_2 (f : Nat → Int) {k : Int} (h : cnt k = 2) (x y : Int) : reN f ⟨k, x, y⟩ = ⟨k, f x.toNat, f y.toNat⟩ := by
  unfold reN
  rw [if_neg (show ¬ cnt k = 1 by omega), if_pos (show cnt k = 2 from h)]
theorem norm_ne {k : Int} (h : ¬ k = 8) (x y : Int) : normN ⟨k, x, y⟩ = ⟨k, x, y⟩ := by
  unfold normN
  rw [if_neg (fun a => h a.1)]
theorem ne8_0 {k : Int} (h : cnt k = 0) : ¬ k = 8 := fun a => by rw [a] at h; revert h; decide
theorem ne8_1 {k : Int} (h : cnt k = 1) : ¬ k = 8 := fun a => by rw [a] at h; revert h; decide
theorem re_id {f : Nat → Int} {n : Nd} {i : Nat} (hn : nOk n i = true) (h : ∀ y ∈ partsB n, f y.toNat = y) : normN (reN f n) = n := by
  obtain ⟨k, x, y⟩ := n
  rcases right_cases hn with ⟨h0, e⟩ | ⟨h1, e⟩ | ⟨h2, e⟩
  · simp only at h0 e
    subst e
    rw [re_0 f h0, norm_ne (ne8_0 h0)]
  · simp only at h1 e
    subst e
    have := h x (by unfold partsB; rw [if_pos (show cnt k = 1 from h1)]; simp)
    rw [re_1 f h1, norm_ne (ne8_1 h1), this]
  · simp only at h2 e
    have n1 : ¬ cnt k = 1 := by omega
    have hx := h x (by unfold partsB; rw [if_neg n1, if_pos (show cnt k = 2 from h2)]; simp)
    have hy := h y (by unfold partsB; rw [if_neg n1, if_pos (show cnt k = 2 from h2)]; simp)
    rw [re_2 f h2, hx, hy]
    unfold normN
    rw [if_neg (fun a => by have a1 := e a.1; have a2 := a.2; simp only at a2; omega)]
theorem at_pre {q Q : List Nd} (h : q <+: Q) {i : Nat} (hi : i < q.length) : ∃ hi' : i < Q.length, Q[i] = q[i] := by
  obtain ⟨z, rfl⟩ := h
  exact ⟨by rw [List.length_append]; omega, List.getElem_append_left hi⟩
theorem add_pre (p : List Nd) (y : Nd) : p <+: (addN p y).1 := by
  unfold addN
  repeat' split
  all_goals first | exact List.prefix_refl _ | exact List.prefix_append _ _
theorem add_at {p : List Nd} {y : Nd} (h : ¬ (addN p y).2 < 0) : ∃ i : Nat, ∃ hi : i < (addN p y).1.length, (addN p y).2 = i ∧ (addN p y).1[i] = y := by
  by_cases hf : findN p y ≥ 0
  · have e : addN p y = (p, findN p y) := by unfold addN; rw [if_pos hf]
    obtain ⟨i, hi, e1, e2⟩ := findN_at hf
    rw [e]
    exact ⟨i, hi, e1, e2⟩
  · by_cases hr : nOk y p.length = true
    · by_cases h5 : p.length = 500
      · have e : addN p y = (p, -1) := by unfold addN; rw [if_neg hf, if_pos hr, if_pos h5]
        rw [e] at h
        exact absurd (show (-1 : Int) < 0 by omega) h
      · have e : addN p y = (p ++ [y], (p.length : Int)) := by unfold addN; rw [if_neg hf, if_pos hr, if_neg h5]
        rw [e]
        exact ⟨p.length, by simp, rfl, by simp⟩
    · have e : addN p y = (p, -1) := by unfold addN; rw [if_neg hf, if_neg hr]
      rw [e] at h
      exact absurd (show (-1 : Int) < 0 by omega) h
theorem add_again {q : List Nd} (hok : poolOkB q = true) {i : Nat} (hi : i < q.length) {y : Nd} (e : q[i] = y) : addN q y = (q, (i : Int)) := by
  have hf : findN q y = i := by
    rw [← e]
    exact (find_at q i hi).2 (ok_at hok i hi).1
  unfold addN
  rw [if_pos (by omega), hf]
theorem add_ok {p : List Nd} (hp : poolOkB p = true) (y : Nd) : poolOkB (addN p y).1 = true := ok_add hp y
theorem ins_trans {l : List Nd} (hok : poolOkB l = true) : ∀ (n t : Nat), t ≤ n → t < l.length → ∀ j y, ins l t j = true → ins l j y = true → ins l t y = true
  | n, t, hn, ht, j, y, h1, h2 => by
    rcases (ins_parts hok ht j).1 h1 with rfl | ⟨q, hq, h3⟩
    · exact h2
    · have hb := parts_in (ok_at hok t ht).2 q hq
      cases n with
      | zero => omega
      | succ n => exact (ins_parts hok ht y).2 (.inr ⟨q, hq, ins_trans hok n q.toNat (by omega) (by omega) j y h3 h2⟩)
theorem ins_part {l : List Nd} (hok : poolOkB l = true) {t j : Nat} (ht : t < l.length) (h : ins l t j = true) {y : Int} (hj : j < l.length) (hy : y ∈ partsB l[j]) : ins l t y.toNat = true := by
  have hb := parts_in (ok_at hok j hj).2 y hy
  exact ins_trans hok t t (Nat.le_refl _) ht j y.toNat h ((ins_parts hok hj y.toNat).2 (.inr ⟨y, hy, ins_self hok (by omega)⟩))
section
variable {p Q : List Nd} {F : Nat → Int} {t : Nat} (hp : poolOkB p = true) (ht : t < p.length) (hQ : poolOkB Q = true)
include hp ht hQ
end
end Go.Proofs.Ytobkledmbnacjaa.Lib
