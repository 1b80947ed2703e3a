/- A term put among what is known: the reference's l6Put and KnowPut, the program's search, knowPut and KnowPut. No conditions but lengths. -/
import Derived.Test.YtilnfdnigjblcaaVLibSets
import Derived.Test.YtilnfdnigjblcaaVLibKnow
import Derived.Test.YtilnfdnigjblcaaVLibInts
import Derived.Test.YtilnfdnigjblcaaVHg0
import Derived.Test.YtilnfdnigjblcaaVHg1
import Derived.Test.YtilnfdnigjblcaaVHg4
set_option linter.unusedVariables false
set_option linter.unusedSimpArgs false
namespace Go.Proofs.Ytilnfdnigjblcaa.Lib
open Go.RowKit Go.Proofs.Ytilnfdnigjblcaa.H Go.Proofs.YtilnfdnigjblcaaW.PrintWords Go.Proofs.YtilnfdnigjblcaaW.PrintLast Go.Proofs.YtilnfdnigjblcaaW.PrintMore

theorem half {i j : Nat} (h : i + j < 4611686018427387904) : wrap64 ((IntKind.u64.wrap (wrap64 ((i : Int) + (j : Int)))) / 2) = (((i + j) / 2 : Nat) : Int) := by
  rw [wrap_id (i := (i : Int) + (j : Int)) (by omega) (by omega)]
  have : IntKind.u64.wrap ((i : Int) + (j : Int)) = (i : Int) + (j : Int) := by
    rw [IntKind.wrap_u64]
    omega
  rw [this, wrap_id (by omega) (by omega)]
  omega
theorem less_eq (a b : Int) : cmp_Less_int.f a b = some (decide (a < b)) := by
  unfold cmp_Less_int.f cmp_isNaN_int.f
  simp
theorem search_loop (t : List Int) (a : Int) (hs : Str t) (hn : t.length ≤ 1000000) : ∀ (d i j : Nat), j - i ≤ d → i ≤ j → j ≤ t.length → (∀ q (h : q < t.length), q < i → t[q] < a) → (∀ q (h : q < t.length), j ≤ q → ¬ t[q] < a) →
    ∃ r : Nat, r ≤ t.length ∧ (∀ q (h : q < t.length), q < r → t[q] < a) ∧ (∀ q (h : q < t.length), r ≤ q → ¬ t[q] < a) ∧ Ev (fun k => slices_BinarySearch_int_int.l0 k t a (t.length : Int) i j) ((r : Int), decide (a ∈ t)) := by
  have last : ∀ (i : Nat), i ≤ t.length → (∀ q (h : q < t.length), q < i → t[q] < a) → (∀ q (h : q < t.length), i ≤ q → ¬ t[q] < a) →
      ∃ r : Nat, r ≤ t.length ∧ (∀ q (h : q < t.length), q < r → t[q] < a) ∧ (∀ q (h : q < t.length), r ≤ q → ¬ t[q] < a) ∧ Ev (fun k => slices_BinarySearch_int_int.l0 k t a (t.length : Int) i i) ((r : Int), decide (a ∈ t)) := by
    intro i hi h1 h2
    refine ⟨i, hi, h1, h2, ?_⟩
    refine Ev.step (fun k => by rw [slices_BinarySearch_int_int.l0]) (ev_if_neg (by omega) ?_)
    by_cases hlt : i < t.length
    · refine ev_if_pos (by omega) (ev_if_pos (by omega) (ev_if_pos (by omega) ?_))
      rw [rd_nat t i hlt]
      by_cases he : t[i] = a
      · exact ev_if_pos he (ev_some_of (by rw [decide_eq_true (by rw [← he]; exact List.getElem_mem hlt)]))
      · have hno : a ∉ t := by
          intro hm
          obtain ⟨q, hq, hqa⟩ := List.getElem_of_mem hm
          rcases Nat.lt_trichotomy q i with h | h | h
          · have := h1 q hq h; omega
          · subst h; exact he hqa
          · have := h2 i hlt (Nat.le_refl _)
            have := str_get hs i q hlt hq h
            omega
        refine ev_if_neg he ?_
        refine ev_bind_const (a := false) (by unfold slices_isNaN_int.f; simp) (ev_if_neg (by simp) (ev_some_of (by rw [decide_eq_false hno])))
    · have hno : a ∉ t := by
        intro hm
        obtain ⟨q, hq, hqa⟩ := List.getElem_of_mem hm
        have := h1 q hq (by omega)
        omega
      exact ev_if_neg (by omega) (ev_some_of (by rw [decide_eq_false hno]))
  intro d
  induction d with
  | zero =>
    intro i j hd hij hj h1 h2
    have e : j = i := by omega
    subst e
    exact last j hj h1 h2
  | succ d ih =>
    intro i j hd hij hj h1 h2
    by_cases e : j = i
    · subst e
      exact last j hj h1 h2
    have hh := half (i := i) (j := j) (by omega)
    have hm : (i + j) / 2 < t.length := by omega
    have hrd := rd_nat t ((i + j) / 2) hm
    by_cases hc : t[(i + j) / 2] < a
    · obtain ⟨r, hr1, hr2, hr3, hr4⟩ := ih ((i + j) / 2 + 1) j (by omega) (by omega) hj (fun q hq hlt => by
        by_cases e2 : q = (i + j) / 2
        · subst e2; exact hc
        · have := str_get hs q ((i + j) / 2) hq hm (by omega)
          omega) h2
      refine ⟨r, hr1, hr2, hr3, Ev.step (fun k => by rw [slices_BinarySearch_int_int.l0]) (ev_if_pos (by omega) ?_)⟩
      rw [hh, hrd]
      refine ev_if_pos (by omega) (ev_if_pos (by omega) (ev_bind_const (less_eq _ _) (ev_if_pos (by simpa using hc) ?_)))
      rw [wrap_succ (by omega)]
      exact hr4
    · obtain ⟨r, hr1, hr2, hr3, hr4⟩ := ih i ((i + j) / 2) (by omega) (by omega) (by omega) h1 (fun q hq hle => by
        by_cases e2 : q = (i + j) / 2
        · subst e2; exact hc
        · have := str_get hs ((i + j) / 2) q hm hq (by omega)
          omega)
      refine ⟨r, hr1, hr2, hr3, Ev.step (fun k => by rw [slices_BinarySearch_int_int.l0]) (ev_if_pos (by omega) ?_)⟩
      rw [hh, hrd]
      exact ev_if_pos (by omega) (ev_if_pos (by omega) (ev_bind_const (less_eq _ _) (ev_if_neg (by simpa using hc) hr4)))
def kput (t : List Int) (a : Int) : List Int × Bool := if a ∈ t then (t, true) else if 200 ≤ t.length then (t, false) else (putF t a false, true)
theorem implkput_ev (t : List Int) (a : Int) (hs : Str t) (hn : t.length ≤ 200) : Ev (fun k => impl_knowPut.f k t a) (kput t a) := by
  unfold impl_knowPut.f slices_BinarySearch_int_int.f kput
  obtain ⟨r, hr1, hr2, hr3, hr4⟩ := search_loop t a hs (by omega) t.length 0 t.length (by omega) (by omega) (Nat.le_refl _) (fun q _ h => by omega) (fun q h1 h2 => by omega)
  refine ev_bind hr4 ?_
  by_cases hm : a ∈ t
  · rw [if_pos hm]
    exact ev_if_pos (by simpa using hm) (ev_some _)
  · rw [if_neg hm]
    refine ev_if_neg (by simpa using hm) ?_
    by_cases hl : 200 ≤ t.length
    · rw [if_pos hl]
      exact ev_if_pos (by omega) (ev_some _)
    · rw [if_neg hl]
      refine ev_if_neg (by omega) ?_
      have hi : slices_Insert_int_int.f t (r : Int) [a] = some (putF t a false) := by
        unfold slices_Insert_int_int.f
        rw [if_pos ⟨by omega, by omega, rfl, by omega⟩, Int.toNat_natCast, putF_split t a r hr1]
        · intro x hx
          obtain ⟨q, hq, rfl⟩ := List.getElem_of_mem hx
          rw [List.length_take] at hq
          rw [List.getElem_take]
          exact hr2 q (by omega) (by omega)
        · intro x hx
          obtain ⟨q, hq, rfl⟩ := List.getElem_of_mem hx
          rw [List.length_drop] at hq
          rw [List.getElem_drop]
          have h1 := hr3 (r + q) (by omega) (by omega)
          have h2 : t[r + q] ≠ a := fun e => hm (by rw [← e]; exact List.getElem_mem _)
          omega
      exact ev_bind_const hi (ev_some _)
def kputL (l : List Nd) (t : List Int) (a : Int) : List Int × Bool := if (poolOkB l && knowB l.length t) = true then (if hasB l.length a = true then kput t a else (t, false)) else ([], false)
theorem kput_len (t : List Int) (a : Int) : (kput t a).1.length ≤ t.length + 1 := by
  unfold kput
  split
  · simp
  · split
    · simp
    · rw [putF_len]; omega
theorem kput_know {n : Nat} {t : List Int} {a : Int} (h : knowB n t = true) (ha : hasB n a = true) : knowB n (kput t a).1 = true := by
  unfold kput
  split
  · exact h
  · rename_i hm
    split
    · exact h
    · rename_i hl
      obtain ⟨h1, h2, h3⟩ := (kn_iff n t).1 h
      refine (kn_iff n _).2 ⟨by show (putF t a false).length ≤ 200; rw [putF_len]; omega, putF_str t a h2 hm, fun z hz => ?_⟩
      rcases (putF_mem t a z).1 hz with e | e
      · subst e; unfold hasB at ha; simpa using ha
      · exact h3 z e
theorem implKnowPut_ev (l : List Nd) (t : List Int) (a : Int) (hl : l.length ≤ 1048576) (ht : t.length ≤ 1048576) : Ev (fun k => impl_KnowPut.f k l t a) (kputL l t a) := by
  unfold impl_KnowPut.f kputL
  refine ev_bind (implKnowOk_ev l t (by omega) (by omega)) ?_
  by_cases hk : (poolOkB l && knowB l.length t) = true
  · rw [if_pos hk]
    refine ev_if_pos hk (ev_bind_const (a := t) (by unfold slices_Clone_int_int.f; rw [if_pos (by omega)]) ?_)
    refine ev_bind_const (isTerm_eq l a (by omega)) ?_
    by_cases hb : hasB l.length a = true
    · rw [if_pos hb]
      have hk2 := (kn_iff l.length t).1 (by simp only [Bool.and_eq_true] at hk; exact hk.2)
      exact ev_if_pos hb (ev_bind (implkput_ev t a hk2.2.1 hk2.1) (ev_some _))
    · rw [if_neg hb]
      exact ev_if_neg hb (ev_some _)
  · rw [if_neg hk]
    exact ev_if_neg hk (ev_some _)
end Go.Proofs.Ytilnfdnigjblcaa.Lib
