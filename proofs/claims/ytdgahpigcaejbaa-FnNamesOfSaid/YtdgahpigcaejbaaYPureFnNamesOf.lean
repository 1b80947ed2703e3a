/- The names in a drawn term are those of its parts together; one that does not stand in it is not told. No conditions. -/
import Derived.Test.YtdgahpigcaejbaaYLibNames
import Derived.Test.YtdgahpigcaejbaaYLibParts
import Derived.Test.YtdgahpigcaejbaaYLibDrawPool
import Derived.Test.YtdgahpigcaejbaaYLibWithin
import Derived.Test.YtdgahpigcaejbaaYLibSame
import Derived.Test.YtdgahpigcaejbaaYAg9
set_option linter.unusedVariables false
set_option linter.unusedSimpArgs false
namespace Go.Proofs.Ytdgahpigcaejbaa.Lib
open Go.RowKit Go.Proofs.Ytdgahpigcaejbaa.A Go.Proofs.YtdgahpigcaejbaaW.PrintWords Go.Proofs.YtdgahpigcaejbaaW.PrintLast Go.Proofs.YtdgahpigcaejbaaW.PrintMore

section
variable {l : List Nd} (hok : poolOkB l = true)
include hok
theorem kind_cases {t : Nat} (ht : t < l.length) : (l[t]).f0 = 1 ∧ partsB l[t] = [] ∨ (l[t]).f0 ≠ 1 ∧ partsB l[t] ≠ [] := by
  have := (ok_at hok t ht).2
  unfold nOk at this
  unfold partsB
  by_cases h0 : cnt (l[t]).f0 = 0
  · have h1 : (l[t]).f0 = 1 := by
      unfold cnt at h0
      by_cases h : (l[t]).f0 = 1
      · exact h
      · rw [if_neg h] at h0
        split at h0
        · omega
        · split at h0 <;> omega
    exact .inl ⟨h1, by rw [if_neg (by omega), if_neg (by omega)]⟩
  · have hne : (l[t]).f0 ≠ 1 := fun e => h0 (by rw [e]; decide)
    rw [if_neg h0] at this
    by_cases h1 : cnt (l[t]).f0 = 1
    · exact .inr ⟨hne, by rw [if_pos h1]; simp⟩
    · rw [if_neg h1] at this
      by_cases h2 : cnt (l[t]).f0 = 2
      · exact .inr ⟨hne, by rw [if_neg h1, if_pos h2]; simp⟩
      · rw [if_neg h2] at this
        simp at this
theorem names_parts {t : Nat} (ht : t < l.length) (h : (l[t]).f0 ≠ 1) (x : Int) : x ∈ namesL l t ↔ ∃ q ∈ partsB l[t], x ∈ namesL l q.toNat := by
  rw [mem_namesL hok]
  constructor
  · rintro ⟨i, hi, h1, h2, h3⟩
    rcases (ins_parts hok ht i).1 h1 with rfl | ⟨q, hq, h4⟩
    · exact absurd h2 h
    · exact ⟨q, hq, (mem_namesL hok x).2 ⟨i, hi, h4, h2, h3⟩⟩
  · rintro ⟨q, hq, hx⟩
    obtain ⟨i, hi, h1, h2, h3⟩ := (mem_namesL hok x).1 hx
    exact ⟨i, hi, (ins_parts hok ht i).2 (.inr ⟨q, hq, h1⟩), h2, h3⟩
theorem names_one {t : Nat} (ht : t < l.length) (h : (l[t]).f0 = 1) : (namesL l t).length ≤ 1 := by
  have hp : partsB l[t] = [] := by
    rcases kind_cases hok ht with h' | h'
    · exact h'.2
    · exact absurd h h'.1
  refine nodup_le (namesL l t) [(l[t]).f1] ((setL_str _).imp (fun hab => by omega)) (fun x hx => ?_)
  obtain ⟨i, hi, h1, h2, h3⟩ := (mem_namesL hok x).1 hx
  rcases (ins_parts hok ht i).1 h1 with rfl | ⟨q, hq, h4⟩
  · simp [h3]
  · rw [hp] at hq; simp at hq
theorem names_some : ∀ (n t : Nat) (ht : t < l.length), t ≤ n → ∃ x, x ∈ namesL l t := by
  intro n
  induction n with
  | zero =>
    intro t ht hn
    rcases kind_cases hok ht with h | h
    · exact ⟨_, (mem_namesL hok _).2 ⟨t, ht, (ins_self hok ht), h.1, rfl⟩⟩
    · cases hp : partsB l[t] with
      | nil => exact absurd hp h.2
      | cons q qs =>
        have := parts_in (ok_at hok t ht).2 q (by rw [hp]; simp)
        omega
  | succ n ih =>
    intro t ht hn
    rcases kind_cases hok ht with h | h
    · exact ⟨_, (mem_namesL hok _).2 ⟨t, ht, (ins_self hok ht), h.1, rfl⟩⟩
    · cases hp : partsB l[t] with
      | nil => exact absurd hp h.2
      | cons q qs =>
        have hq := parts_in (ok_at hok t ht).2 q (by rw [hp]; simp)
        obtain ⟨x, hx⟩ := ih q.toNat (by omega) (by omega)
        exact ⟨x, (names_parts hok ht h.1 x).2 ⟨q, by rw [hp]; simp, hx⟩⟩
theorem namesOf_nat {t : Nat} (ht : t < l.length) : namesOf l (t : Int) = namesL l t := by
  unfold namesOf
  rw [if_pos ⟨hok, by unfold hasB; simp; omega⟩, Int.toNat_natCast]
end
def sumN (p : List Nd) (qs : List Int) : Nat := (qs.map fun q => (namesOf p q).length).sum
theorem sumN_cons (p : List Nd) (q : Int) (qs : List Int) : sumN p (q :: qs) = (namesOf p q).length + sumN p qs := rfl
theorem len_flat (p : List Nd) : ∀ qs : List Int, (qs.flatMap fun q => namesOf p q).length = sumN p qs
  | [] => rfl
  | q :: qs => by rw [List.flatMap_cons, List.length_append, len_flat p qs, sumN_cons]
theorem namesIn_ev (x5 x6 x9 : List Int) (x7 x8 : Int) (p : List Nd) (h5 : x5.length ≤ 1000) (h9 : x9.length ≤ 1000) (hsub : ∀ z ∈ x9, z ∈ x5) {r : Bool} (hk : Ev (fun k => laws_FnNamesOf.l0 k x5 x6 (wrap64 (x7 + (x9.length : Int))) (wrap64 (x8 + 1)) p) r) : ∀ (n i : Nat), x9.length - i = n → i ≤ x9.length →
    Ev (fun k => laws_FnNamesOf.l1 k x5 x6 x7 x8 x9 i p) r
  | 0, i, hn, hi => by
    refine Ev.step (fun k => by rw [laws_FnNamesOf.l1]) ?_
    exact ev_if_neg (by omega) hk
  | n + 1, i, hn, hi => by
    have hlt : i < x9.length := by omega
    have nx := namesIn_ev x5 x6 x9 x7 x8 p h5 h9 hsub hk n (i + 1) (by omega) (by omega)
    have hx := hsub x9[i] (List.getElem_mem hlt)
    refine Ev.step (fun k => by rw [laws_FnNamesOf.l1]) ?_
    refine ev_if_pos (by omega) (ev_if_pos (by omega) ?_)
    rw [rd_nat x9 i hlt, wrap_succ (by omega)]
    exact ev_bind (within_ev x5 x9[i] (by omega)) (ev_if_pos (by simpa using hx) nx)
theorem namesOut_ev (p : List Nd) (hp : p.length ≤ 500) (x5 x6 : List Int) (h5 : x5.length ≤ 1000) (h6 : x6.length ≤ 1000) (hsub : ∀ q ∈ x6, ∀ z ∈ namesOf p q, z ∈ x5) (h0 : x6 = [] → x5.length ≤ 1) (h1 : x6 ≠ [] → 0 < x5.length) :
    ∀ (n j m : Nat), x6.length - j = n → j ≤ x6.length → m ≤ 200 * j → x5.length ≤ m + sumN p (x6.drop j) ∨ x6 = [] → Ev (fun k => laws_FnNamesOf.l0 k x5 x6 m j p) true
  | 0, j, m, hn, hj, hm, hs => by
    have e : j = x6.length := by omega
    subst e
    rw [List.drop_length] at hs
    refine Ev.step (fun k => by rw [laws_FnNamesOf.l0]) (ev_if_neg (by omega) ?_)
    by_cases hx : x6 = []
    · have := h0 hx
      exact ev_if_pos (by rw [hx]; rfl) (ev_if_pos (by omega) (ev_some _))
    · have := h1 hx
      have h6' : x6.length ≠ 0 := fun e => hx (List.eq_nil_of_length_eq_zero e)
      have hs' : x5.length ≤ m := by
        rcases hs with h | h
        · simpa [sumN] using h
        · exact absurd h hx
      exact ev_if_neg (by omega) (ev_if_pos (by omega) (ev_some_of (by simp; omega)))
  | n + 1, j, m, hn, hj, hm, hs => by
    have hlt : j < x6.length := by omega
    have hne : x6 ≠ [] := fun e => by rw [e] at hlt; simp at hlt
    have hs' := hs.resolve_right hne
    rw [List.drop_eq_getElem_cons hlt, sumN_cons] at hs'
    have hlen := namesOf_len p x6[j]
    have nx := namesOut_ev p hp x5 x6 h5 h6 hsub h0 h1 n (j + 1) (m + (namesOf p x6[j]).length) (by omega) (by omega) (by omega) (.inl (by omega))
    refine Ev.step (fun k => by rw [laws_FnNamesOf.l0]) ?_
    refine ev_if_pos (by omega) (ev_if_pos (by omega) ?_)
    rw [rd_nat x6 j hlt]
    refine ev_bind (implNames_ev p x6[j] (by omega)) ?_
    refine namesIn_ev x5 x6 _ m j p h5 (by omega) (hsub _ (List.getElem_mem hlt)) ?_ _ 0 rfl (by omega)
    rw [wrap_succ (by omega), wrap_id (by omega) (by omega)]
    have e : ((m : Int) + ((namesOf p x6[j]).length : Int)) = ((m + (namesOf p x6[j]).length : Nat) : Int) := by omega
    rw [e]
    exact nx
end Go.Proofs.Ytdgahpigcaejbaa.Lib
namespace Go.Proofs.Ytdgahpigcaejbaa.Pure
open Go.RowKit Go.Proofs.Ytdgahpigcaejbaa.A Go.Proofs.Ytdgahpigcaejbaa.Lib Go.Proofs.YtdgahpigcaejbaaW.PrintWords Go.Proofs.YtdgahpigcaejbaaW.PrintLast

theorem FnNamesOf : laws_FnNamesOf.Pure := by
  intro l0 hm _ _
  have hb : l0.length ≤ 9223372036854775806 := by unfold maxLen at hm; omega
  refine ev_rounds ?_
  unfold laws_FnNamesOf.f
  refine ev_bind_const (a := decide ((l0.length : Int) > 1048576)) rfl ?_
  by_cases hbig : (l0.length : Int) > 1048576
  · exact ev_if_pos (decide_eq_true hbig) (ev_some _)
  refine ev_if_neg (by simpa using hbig) ?_
  obtain ⟨p, t, hd, hp⟩ := drawBoth_ok l0 hb
  have hd' : Ev (fun k => spec_DrawTermNames.f k l0) (p, t) := by unfold spec_DrawTermNames.f; exact ev_bind hd (ev_some _)
  have im := implNames_ev p t (by omega)
  have sm := specNames_ev p t (by omega)
  have ip := implPartsOfL_ev p t (by omega)
  have hl := namesOf_len p t
  refine ev_bind hd' (ev_bind im (ev_bind sm (ev_bind (same_refl _ (by omega)) (ev_if_pos rfl (ev_bind ip ?_)))))
  have hpl := partsOfL_len p t
  by_cases h : poolOkB p = true ∧ hasB p.length t = true
  · have hh := h.2
    unfold hasB at hh
    simp only [decide_eq_true_eq] at hh
    obtain ⟨n, rfl⟩ : ∃ n : Nat, t = n := ⟨t.toNat, by omega⟩
    have hn : n < p.length := by omega
    have ep : partsOfL p (n : Int) = partsB p[n] := by unfold partsOfL; rw [if_pos h, Int.toNat_natCast, getD_at p n hn]
    rw [ep] at hpl ⊢
    rw [namesOf_nat h.1 hn] at hl ⊢
    have hin := parts_in (ok_at h.1 n hn).2
    have eq : ∀ q ∈ partsB p[n], namesOf p q = namesL p q.toNat := by
      intro q hq
      have := hin q hq
      obtain ⟨m, rfl⟩ : ∃ m : Nat, q = m := ⟨q.toNat, by omega⟩
      rw [Int.toNat_natCast]
      exact namesOf_nat h.1 (by omega)
    refine namesOut_ev p hp _ _ (by omega) (by omega) ?_ ?_ ?_ _ 0 0 rfl (by omega) (by omega) ?_
    · intro q hq z hz
      rw [eq q hq] at hz
      rcases kind_cases h.1 hn with h' | h'
      · rw [h'.2] at hq; simp at hq
      · exact (names_parts h.1 hn h'.1 z).2 ⟨q, hq, hz⟩
    · intro e
      rcases kind_cases h.1 hn with h' | h'
      · exact names_one h.1 hn h'.1
      · exact absurd e h'.2
    · intro _
      obtain ⟨x, hx⟩ := names_some h.1 n n hn (Nat.le_refl _)
      exact List.length_pos_of_mem hx
    · rcases kind_cases h.1 hn with h' | h'
      · exact .inr h'.2
      · left
        rw [List.drop_zero, Nat.zero_add, ← len_flat]
        refine nodup_le _ _ ((setL_str _).imp (fun hab => by omega)) (fun x hx => ?_)
        obtain ⟨q, hq, hx'⟩ := (names_parts h.1 hn h'.1 x).1 hx
        exact List.mem_flatMap.2 ⟨q, hq, by rw [eq q hq]; exact hx'⟩
  · have e1 : namesOf p t = [] := by unfold namesOf; rw [if_neg h]
    have e2 : partsOfL p t = [] := by unfold partsOfL; rw [if_neg h]
    rw [e1, e2]
    exact namesOut_ev p hp [] [] (by simp) (by simp) (by simp) (by simp) (by simp) 0 0 0 rfl (by simp) (by omega) (.inr rfl)

end Go.Proofs.Ytdgahpigcaejbaa.Pure
