/- What can be made of what is known, in plain Lean: the reference's one pass upwards, and a set that is closed under the making. No conditions but a right pool. -/
import Derived.Test.YtdgahpigcaejbaaVLibPut
set_option linter.unusedVariables false
set_option linter.unusedSimpArgs false
namespace Go.Proofs.Ytdgahpigcaejbaa.Lib
open Go.RowKit Go.Proofs.Ytdgahpigcaejbaa.E Go.Proofs.YtdgahpigcaejbaaW.PrintWords Go.Proofs.YtdgahpigcaejbaaW.PrintLast

def pubB (x : Int) : Bool := decide (0 ≤ x ∧ x ≤ 49)
def pwT (l : List Nd) (M : Nat → Bool) (K : Int → Bool) (x : Int) : Bool := decide (findN l ⟨7, x, 0⟩ ≥ 0) && (M x.toNat || K (findN l ⟨7, x, 0⟩))
def ruleT (l : List Nd) (M : Nat → Bool) (K : Int → Bool) (x : Nd) : Bool :=
  if x.f0 = 1 then pubB x.f1 else if cnt x.f0 = 1 then M x.f1.toNat else if M x.f1.toNat = true ∧ M x.f2.toNat = true then true
  else if x.f0 = 8 then (M x.f1.toNat && pwT l M K x.f2 || M x.f2.toNat && pwT l M K x.f1) else false
def specT (l : List Nd) (K : Int → Bool) : Nat → List Bool
  | 0 => []
  | n + 1 => specT l K n ++ [K n || ruleT l (fun i => (specT l K n).getD i false) K (l.getD n zN)]
theorem specT_len (l : List Nd) (K : Int → Bool) : ∀ n, (specT l K n).length = n
  | 0 => rfl
  | n + 1 => by simp [specT, specT_len l K n]
def tgt (l : List Nd) (K : Int → Bool) (t : Nat) : Bool := (specT l K (t + 1)).getD t false
theorem specT_getD (l : List Nd) (K : Int → Bool) (t : Nat) : ∀ d, (specT l K (t + 1 + d)).getD t false = tgt l K t
  | 0 => rfl
  | d + 1 => by
    have ih := specT_getD l K t d
    have hl := specT_len l K (t + 1 + d)
    rw [show t + 1 + (d + 1) = (t + 1 + d) + 1 by omega]
    show (specT l K (t + 1 + d) ++ _).getD t false = _
    rw [List.getD_eq_getElem?_getD, List.getElem?_append_left (by omega), ← List.getD_eq_getElem?_getD, ih]
theorem specT_at (l : List Nd) (K : Int → Bool) {t n : Nat} (h : t < n) : (specT l K n).getD t false = tgt l K t := by
  have := specT_getD l K t (n - (t + 1))
  rwa [show t + 1 + (n - (t + 1)) = n by omega] at this
theorem specT_mk (l : List Nd) (K : Int → Bool) (n : Nat) : specT l K n = (List.range n).map (tgt l K) := by
  apply List.ext_getElem
  · rw [specT_len]; simp
  · intro i h1 h2
    rw [specT_len] at h1
    have := specT_at l K h1
    rw [List.getD_eq_getElem?_getD, List.getElem?_eq_getElem (by rw [specT_len]; exact h1)] at this
    simp at this ⊢
    exact this
section
variable {l : List Nd} (hok : poolOkB l = true)
include hok
theorem one_in {t : Nat} (ht : t < l.length) (h1 : cnt (l[t]).f0 = 1) : 0 ≤ (l[t]).f1 ∧ (l[t]).f1 < (t : Int) :=
  parts_in (ok_at hok t ht).2 _ (by unfold partsB; rw [if_pos h1]; simp)
theorem two_in {t : Nat} (ht : t < l.length) (h2 : cnt (l[t]).f0 = 2) : (0 ≤ (l[t]).f1 ∧ (l[t]).f1 < (t : Int)) ∧ (0 ≤ (l[t]).f2 ∧ (l[t]).f2 < (t : Int)) :=
  ⟨parts_in (ok_at hok t ht).2 _ (by unfold partsB; rw [if_neg (by omega), if_pos h2]; simp), parts_in (ok_at hok t ht).2 _ (by unfold partsB; rw [if_neg (by omega), if_pos h2]; simp)⟩
theorem cnt_cases {t : Nat} (ht : t < l.length) : (l[t]).f0 = 1 ∨ cnt (l[t]).f0 = 1 ∨ cnt (l[t]).f0 = 2 := by
  have h := (ok_at hok t ht).2
  unfold nOk at h
  unfold cnt at h ⊢
  by_cases a : (l[t]).f0 = 1
  · exact .inl a
  · by_cases b : (l[t]).f0 = 5 ∨ (l[t]).f0 = 7
    · exact .inr (.inl (by rw [if_neg a, if_pos b]))
    · by_cases c : (l[t]).f0 = 2 ∨ (l[t]).f0 = 3 ∨ (l[t]).f0 = 4 ∨ (l[t]).f0 = 6 ∨ (l[t]).f0 = 8
      · exact .inr (.inr (by rw [if_neg a, if_neg b, if_pos c]))
      · rw [if_neg a, if_neg b, if_neg c] at h
        simp at h
theorem rule_same {t : Nat} (ht : t < l.length) (K : Int → Bool) {M M' : Nat → Bool} (h : ∀ i, i < t → M i = M' i) : ruleT l M K l[t] = ruleT l M' K l[t] := by
  unfold ruleT pwT
  rcases cnt_cases hok ht with h1 | h1 | h2
  · rw [if_pos h1, if_pos h1]
  · have hp := one_in hok ht h1
    by_cases h0 : (l[t]).f0 = 1
    · rw [if_pos h0, if_pos h0]
    · rw [if_neg h0, if_neg h0, if_pos h1, if_pos h1, h _ (by omega)]
  · have hp := two_in hok ht h2
    rw [h (l[t]).f1.toNat (by omega), h (l[t]).f2.toNat (by omega)]
theorem tgt_eq {t : Nat} (ht : t < l.length) (K : Int → Bool) : tgt l K t = (K t || ruleT l (tgt l K) K l[t]) := by
  have e : tgt l K t = (K t || ruleT l (fun i => (specT l K t).getD i false) K (l.getD t zN)) := by
    show (specT l K t ++ _).getD t false = _
    rw [List.getD_eq_getElem?_getD, List.getElem?_append_right (by rw [specT_len]; exact Nat.le_refl _), specT_len, Nat.sub_self]
    rfl
  rw [e, getD_at l t ht, rule_same hok ht K (fun i hi => specT_at l K hi)]
end
def isM (l : List Nd) (M : Nat → Bool) (x : Int) : Bool := decide (findN l ⟨7, x, 0⟩ ≥ 0) && M (findN l ⟨7, x, 0⟩).toNat
def canT (l : List Nd) (M : Nat → Bool) (x : Nd) : Bool :=
  if x.f0 = 1 then pubB x.f1 else if (partsB x).all (fun q => M q.toNat) = true ∨ x.f0 ≠ 8 then (partsB x).all (fun q => M q.toNat) else (M x.f1.toNat && isM l M x.f2 || M x.f2.toNat && isM l M x.f1)
section
variable {l : List Nd} (hok : poolOkB l = true)
include hok
theorem pw_node {x : Int} (h : findN l ⟨7, x, 0⟩ ≥ 0) : ∃ i : Nat, ∃ hi : i < l.length, findN l ⟨7, x, 0⟩ = i ∧ l[i] = ⟨7, x, 0⟩ ∧ 0 ≤ x ∧ x < (i : Int) := by
  obtain ⟨i, hi, e1, e2⟩ := findN_at h
  have := one_in hok hi (by rw [e2]; show cnt 7 = 1; decide)
  rw [e2] at this
  exact ⟨i, hi, e1, e2, this⟩
theorem can_tgt {K : Int → Bool} {M : Nat → Bool} (hM : ∀ i, i < l.length → M i = true → tgt l K i = true) {t : Nat} (ht : t < l.length) (h : canT l M l[t] = true) : tgt l K t = true := by
  rw [tgt_eq hok ht]
  suffices hr : ruleT l (tgt l K) K l[t] = true by rw [hr]; simp
  unfold canT at h
  unfold ruleT
  rcases cnt_cases hok ht with h1 | h1 | h2
  · rw [if_pos h1] at h ⊢; exact h
  · have hp := one_in hok ht h1
    have h0 : ¬ (l[t]).f0 = 1 := fun e => by rw [e] at h1; revert h1; decide
    have h8 : (l[t]).f0 ≠ 8 := fun e => by rw [e] at h1; revert h1; decide
    have hpb : partsB l[t] = [(l[t]).f1] := by unfold partsB; rw [if_pos h1]
    rw [if_neg h0, if_pos (.inr h8), hpb] at h
    rw [if_neg h0, if_pos h1]
    simp at h
    exact hM _ (by omega) h
  · have hp := two_in hok ht h2
    have h0 : ¬ (l[t]).f0 = 1 := fun e => by rw [e] at h2; revert h2; decide
    have hc1 : ¬ cnt (l[t]).f0 = 1 := by omega
    have hpb : partsB l[t] = [(l[t]).f1, (l[t]).f2] := by unfold partsB; rw [if_neg hc1, if_pos h2]
    rw [if_neg h0, hpb] at h
    rw [if_neg h0, if_neg hc1]
    by_cases ha : tgt l K (l[t]).f1.toNat = true ∧ tgt l K (l[t]).f2.toNat = true
    · rw [if_pos ha]
    · rw [if_neg ha]
      have hall : ¬ ([(l[t]).f1, (l[t]).f2].all (fun q => M q.toNat)) = true := by
        intro hh
        simp at hh
        exact ha ⟨hM _ (by omega) hh.1, hM _ (by omega) hh.2⟩
      by_cases h8 : (l[t]).f0 = 8
      · rw [if_pos h8]
        rw [if_neg (fun hh => hh.elim hall (fun q => q h8))] at h
        have key : ∀ x : Int, isM l M x = true → pwT l (tgt l K) K x = true := by
          intro x hx
          unfold isM at hx
          simp only [Bool.and_eq_true, decide_eq_true_eq] at hx
          obtain ⟨i, hi, e1, e2, hx0, hxi⟩ := pw_node hok hx.1
          have hti := hM i hi (by rw [e1] at hx; exact hx.2)
          rw [tgt_eq hok hi, e2] at hti
          unfold pwT
          simp only [Bool.and_eq_true, decide_eq_true_eq, Bool.or_eq_true]
          refine ⟨hx.1, ?_⟩
          simp only [Bool.or_eq_true] at hti
          rcases hti with hk | hr
          · right; rw [e1]; exact hk
          · left
            unfold ruleT at hr
            rw [if_neg (show ¬ (7 : Int) = 1 by decide), if_pos (show cnt 7 = 1 by decide)] at hr
            exact hr
        simp only [Bool.or_eq_true, Bool.and_eq_true] at h ⊢
        rcases h with ⟨m1, m2⟩ | ⟨m1, m2⟩
        · exact .inl ⟨hM _ (by omega) m1, key _ m2⟩
        · exact .inr ⟨hM _ (by omega) m1, key _ m2⟩
      · rw [if_pos (.inr h8)] at h
        exact absurd h hall
theorem tgt_closed {K : Int → Bool} {M : Nat → Bool} (hK : ∀ i, i < l.length → K i = true → M i = true) (hc : ∀ (t : Nat) (ht : t < l.length), canT l M l[t] = true → M t = true) : ∀ t, t < l.length → tgt l K t = true → M t = true := by
  intro t
  induction t using Nat.strongRecOn with
  | ind t ih =>
    intro ht h
    rw [tgt_eq hok ht] at h
    simp only [Bool.or_eq_true] at h
    rcases h with hk | hr
    · exact hK t ht hk
    · refine hc t ht ?_
      unfold ruleT at hr
      unfold canT
      rcases cnt_cases hok ht with h1 | h1 | h2
      · rw [if_pos h1] at hr ⊢; exact hr
      · have hp := one_in hok ht h1
        have h0 : ¬ (l[t]).f0 = 1 := fun e => by rw [e] at h1; revert h1; decide
        have h8 : (l[t]).f0 ≠ 8 := fun e => by rw [e] at h1; revert h1; decide
        have hpb : partsB l[t] = [(l[t]).f1] := by unfold partsB; rw [if_pos h1]
        rw [if_neg h0, if_pos h1] at hr
        rw [if_neg h0, if_pos (.inr h8), hpb]
        simp
        exact ih _ (by omega) (by omega) hr
      · have hp := two_in hok ht h2
        have h0 : ¬ (l[t]).f0 = 1 := fun e => by rw [e] at h2; revert h2; decide
        have hc1 : ¬ cnt (l[t]).f0 = 1 := by omega
        have hpb : partsB l[t] = [(l[t]).f1, (l[t]).f2] := by unfold partsB; rw [if_neg hc1, if_pos h2]
        rw [if_neg h0, if_neg hc1] at hr
        rw [if_neg h0, hpb]
        by_cases hall : ([(l[t]).f1, (l[t]).f2].all (fun q => M q.toNat)) = true
        · rw [if_pos (.inl hall)]; exact hall
        · have hna : ¬ (tgt l K (l[t]).f1.toNat = true ∧ tgt l K (l[t]).f2.toNat = true) := by
            rintro ⟨a, b⟩
            exact hall (by simp [ih _ (show (l[t]).f1.toNat < t by omega) (by omega) a, ih _ (show (l[t]).f2.toNat < t by omega) (by omega) b])
          rw [if_neg hna] at hr
          by_cases h8 : (l[t]).f0 = 8
          · rw [if_pos h8] at hr
            rw [if_neg (fun hh => hh.elim hall (fun q => q h8))]
            have key : ∀ x : Int, 0 ≤ x → x < (t : Int) → pwT l (tgt l K) K x = true → isM l M x = true := by
              intro x hx0 hxt hx
              unfold pwT at hx
              simp only [Bool.and_eq_true, decide_eq_true_eq, Bool.or_eq_true] at hx
              obtain ⟨i, hi, e1, e2, _, hxi⟩ := pw_node hok hx.1
              unfold isM
              simp only [Bool.and_eq_true, decide_eq_true_eq]
              refine ⟨hx.1, ?_⟩
              rw [e1, Int.toNat_natCast]
              rcases hx.2 with ht1 | hk1
              · have hm := ih x.toNat (by omega) (by omega) ht1
                refine hc i hi ?_
                unfold canT
                rw [e2, if_neg (show ¬ (7 : Int) = 1 by decide), if_pos (.inr (show (7 : Int) ≠ 8 by decide))]
                have : partsB (⟨7, x, 0⟩ : Nd) = [x] := by unfold partsB; rw [if_pos (show cnt 7 = 1 by decide)]
                rw [this]
                simp
                exact hm
              · rw [e1] at hk1
                exact hK i hi hk1
            simp only [Bool.or_eq_true, Bool.and_eq_true] at hr ⊢
            rcases hr with ⟨m1, m2⟩ | ⟨m1, m2⟩
            · exact .inl ⟨ih _ (by omega) (by omega) m1, key _ hp.2.1 hp.2.2 m2⟩
            · exact .inr ⟨ih _ (by omega) (by omega) m1, key _ hp.1.1 hp.1.2 m2⟩
          · rw [if_neg h8] at hr
            simp at hr
end
end Go.Proofs.Ytdgahpigcaejbaa.Lib
