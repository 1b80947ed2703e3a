/- What is known: both check it one way. No conditions but lengths. -/
import Derived.Test.YtjcemohmlpgfnaaDoorYLibPool
import Derived.Test.YtjcemohmlpgfnaaDoorYKg0
import Derived.Test.YtjcemohmlpgfnaaDoorYKg1
import Derived.Test.YtjcemohmlpgfnaaDoorYKg2
import Derived.Test.YtjcemohmlpgfnaaDoorYKg3
set_option linter.unusedVariables false
set_option linter.unusedSimpArgs false
namespace Go.Proofs.YtjcemohmlpgfnaaDoor.Lib
open Go.RowKit Go.Proofs.YtjcemohmlpgfnaaDoor.K Go.Proofs.YtjcemohmlpgfnaaDoorW.PrintWords Go.Proofs.YtjcemohmlpgfnaaDoorW.PrintLast

def hasB (n : Nat) (a : Int) : Bool := decide (0 ≤ a ∧ a < n)
theorem le_pred (y : Int) (n : Nat) (hn : n < 9223372036854775808) : (y ≤ wrap64 ((n : Int) - 1)) = (y < (n : Int)) := by
  rw [wrap_id (by omega) (by omega)]
  apply propext
  omega
theorem specIn_eq (x a b : Int) : spec_l1In.f x a b = some (decide (a ≤ x ∧ x ≤ b)) := by
  unfold spec_l1In.f
  by_cases h : a ≤ x
  · rw [if_pos (by omega)]; simp [h]
  · rw [if_neg (by omega)]; simp [h]
theorem specHas_eq (l : List Nd) (a : Int) (hl : l.length < 9223372036854775808) : spec_l1Has.f l a = some (hasB l.length a) := by
  unfold spec_l1Has.f hasB
  rw [specIn_eq]
  simp only [le_pred a _ hl, Option.bind_some]
theorem isTerm_eq (l : List Nd) (a : Int) (hl : l.length < 9223372036854775808) : impl_Pool_isTerm.f l a = some (hasB l.length a) := by
  unfold impl_Pool_isTerm.f hasB
  rw [inRange_eq]
  simp only [le_pred a _ hl, Option.bind_some]
def kStep (n : Nat) (t : List Int) (i : Nat) : Bool := hasB n (rd t i) && (decide (i = 0) || decide (rd t ((i : Int) - 1) < rd t i))
def kFrom (n : Nat) (t : List Int) : Nat → Nat → Bool
  | 0, _ => true
  | d + 1, i => kStep n t i && kFrom n t d (i + 1)
def knowB (n : Nat) (t : List Int) : Bool := decide (t.length ≤ 200) && kFrom n t t.length 0
theorem wrap_pred {i : Nat} (h : i < 9223372036854775807) : wrap64 ((i : Int) - 1) = (i : Int) - 1 := wrap_id (by omega) (by omega)
theorem specKnow_loop (l : List Nd) (t : List Int) (hl : l.length < 9223372036854775808) (ht : t.length ≤ 9223372036854775806) : ∀ (n i : Nat), t.length - i = n → i ≤ t.length → Ev (fun k => spec_l6Know.l0 k t i l) (kFrom l.length t n i)
  | 0, i, hn, hi => by
    refine Ev.step (f := fun k => some true) (fun k => ?_) (ev_some_of rfl)
    simp only [spec_l6Know.l0]
    rw [if_neg (by omega)]
  | n + 1, i, hn, hi => by
    have hlt : i < t.length := by omega
    have ih := specKnow_loop l t hl ht n (i + 1) (by omega) (by omega)
    refine Ev.step (f := fun k => if hasB l.length (rd t i) = true then (if (i : Int) > 0 then (if rd t ((i : Int) - 1) ≥ rd t i then some false else spec_l6Know.l0 k t (i + 1 : Nat) l) else spec_l6Know.l0 k t (i + 1 : Nat) l) else some false) (fun k => ?_) ?_
    · simp only [spec_l6Know.l0]
      rw [if_pos (by omega), if_pos (by omega), specHas_eq l _ hl, wrap_pred (by omega), wrap_succ (by omega)]
      simp only [Option.bind_some]
      by_cases h : (i : Int) > 0
      · simp only [if_pos h, if_pos (show 0 ≤ (i : Int) - 1 by omega), if_pos (show (i : Int) - 1 < (t.length : Int) by omega)]
      · simp only [if_neg h]
    · by_cases hh : hasB l.length (rd t i) = true
      · refine ev_if_pos hh ?_
        by_cases h0 : (i : Int) > 0
        · refine ev_if_pos h0 ?_
          by_cases hg : rd t ((i : Int) - 1) ≥ rd t i
          · refine ev_if_pos hg (ev_some_of ?_)
            have : kStep l.length t i = false := by unfold kStep; simp; intro _; exact ⟨by omega, by omega⟩
            simp [kFrom, this]
          · refine ev_if_neg hg ?_
            have : kStep l.length t i = true := by unfold kStep; simp only [hh, Bool.true_and, Bool.or_eq_true, decide_eq_true_eq]; omega
            simpa [kFrom, this] using ih
        · refine ev_if_neg h0 ?_
          have : kStep l.length t i = true := by unfold kStep; simp only [hh, Bool.true_and, Bool.or_eq_true, decide_eq_true_eq]; omega
          simpa [kFrom, this] using ih
      · refine ev_if_neg hh (ev_some_of ?_)
        have : kStep l.length t i = false := by unfold kStep; simp [hh]
        simp [kFrom, this]
theorem specKnow_ev (l : List Nd) (t : List Int) (hl : l.length < 9223372036854775808) (ht : t.length ≤ 9223372036854775806) : Ev (fun k => spec_l6Know.f k l t) (knowB l.length t) := by
  unfold spec_l6Know.f knowB
  by_cases h : t.length ≤ 200
  · refine ev_if_neg (by omega) ?_
    simpa [h] using specKnow_loop l t hl ht t.length 0 (by omega) (by omega)
  · refine ev_if_pos (by omega) (ev_some_of ?_)
    simp [h]
theorem specKnowOk_ev (l : List Nd) (t : List Int) (hl : l.length ≤ 9223372036854775806) (ht : t.length ≤ 9223372036854775806) : Ev (fun k => spec_KnowOk.f k l t) (poolOkB l && knowB l.length t) := by
  unfold spec_KnowOk.f
  refine ev_bind (specPoolOk_ev l hl) ?_
  by_cases h : poolOkB l = true
  · refine ev_if_pos h (ev_bind (specKnow_ev l t (by omega) ht) (ev_some_of ?_))
    simp [h]
  · refine ev_if_neg h (ev_some_of ?_)
    simp [h]
theorem implKnow_loop (l : List Nd) (t : List Int) (hl : l.length < 9223372036854775808) (ht : t.length ≤ 9223372036854775806) : ∀ (n i : Nat), t.length - i = n → i ≤ t.length →
    Ev (fun k => impl_KnowOk.l0 k t t (t.length : Int) i l) (kFrom l.length t n i && (decide (t.length ≤ 200) && poolOkB l))
  | 0, i, hn, hi => by
    refine Ev.step (f := fun k => if (t.length : Int) ≤ 200 then (impl_PoolOk.f l).bind fun t => some t else some false) (fun k => ?_) ?_
    · simp only [impl_KnowOk.l0]
      rw [if_neg (by omega)]
    · by_cases h : t.length ≤ 200
      · refine ev_if_pos (by omega) (ev_bind (implPoolOk_ev l) (ev_some_of ?_))
        simp [h, kFrom]
      · refine ev_if_neg (by omega) (ev_some_of ?_)
        simp [h]
  | n + 1, i, hn, hi => by
    have hlt : i < t.length := by omega
    have ih := implKnow_loop l t hl ht n (i + 1) (by omega) (by omega)
    refine Ev.step (f := fun k => if hasB l.length (rd t i) = true then (if (i : Int) > 0 then (if rd t i ≤ rd t ((i : Int) - 1) then some false else impl_KnowOk.l0 k t t (t.length : Int) (i + 1 : Nat) l) else impl_KnowOk.l0 k t t (t.length : Int) (i + 1 : Nat) l) else some false) (fun k => ?_) ?_
    · simp only [impl_KnowOk.l0]
      rw [if_pos (by omega), if_pos (by omega), if_pos (by omega), isTerm_eq l _ hl, wrap_pred (by omega), wrap_succ (by omega)]
      simp only [Option.bind_some]
      by_cases h : (i : Int) > 0
      · simp only [if_pos h, if_pos (show 0 ≤ (i : Int) - 1 by omega), if_pos (show (i : Int) - 1 < (t.length : Int) by omega)]
      · simp only [if_neg h]
    · by_cases hh : hasB l.length (rd t i) = true
      · refine ev_if_pos hh ?_
        by_cases h0 : (i : Int) > 0
        · refine ev_if_pos h0 ?_
          by_cases hg : rd t i ≤ rd t ((i : Int) - 1)
          · refine ev_if_pos hg (ev_some_of ?_)
            have : kStep l.length t i = false := by unfold kStep; simp; intro _; exact ⟨by omega, by omega⟩
            simp [kFrom, this]
          · refine ev_if_neg hg ?_
            have : kStep l.length t i = true := by unfold kStep; simp only [hh, Bool.true_and, Bool.or_eq_true, decide_eq_true_eq]; omega
            simpa [kFrom, this] using ih
        · refine ev_if_neg h0 ?_
          have : kStep l.length t i = true := by unfold kStep; simp only [hh, Bool.true_and, Bool.or_eq_true, decide_eq_true_eq]; omega
          simpa [kFrom, this] using ih
      · refine ev_if_neg hh (ev_some_of ?_)
        have : kStep l.length t i = false := by unfold kStep; simp [hh]
        simp [kFrom, this]
theorem implKnowOk_ev (l : List Nd) (t : List Int) (hl : l.length ≤ 9223372036854775806) (ht : t.length ≤ 9223372036854775806) : Ev (fun k => impl_KnowOk.f k l t) (poolOkB l && knowB l.length t) := by
  unfold impl_KnowOk.f
  have h := implKnow_loop l t (by omega) ht t.length 0 (by omega) (by omega)
  have e : (kFrom l.length t t.length 0 && (decide (t.length ≤ 200) && poolOkB l)) = (poolOkB l && knowB l.length t) := by
    unfold knowB
    cases kFrom l.length t t.length 0 <;> cases decide (t.length ≤ 200) <;> cases poolOkB l <;> rfl
  rw [e] at h
  exact h
end Go.Proofs.YtjcemohmlpgfnaaDoor.Lib
