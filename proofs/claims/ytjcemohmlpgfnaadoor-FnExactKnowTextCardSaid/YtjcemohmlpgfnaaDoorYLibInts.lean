/- What the laws' own functions over lists of whole numbers come to: a copy is the list, a comparison tells whether two lists are one, a search finds what is there. No conditions but lengths. -/
import Derived.Test.YtjcemohmlpgfnaaDoorYKg2
import Derived.Test.YtjcemohmlpgfnaaDoorYKg3
import Derived.Test.YtjcemohmlpgfnaaDoorYLibA
set_option linter.unusedVariables false
set_option linter.unusedSimpArgs false
namespace Go.Proofs.YtjcemohmlpgfnaaDoor.Lib
open Go.RowKit Go.Proofs.YtjcemohmlpgfnaaDoor.K Go.Proofs.YtjcemohmlpgfnaaDoorW.PrintWords Go.Proofs.YtjcemohmlpgfnaaDoorW.PrintLast

theorem toIntS_loop (l : List Int) (hl : l.length ≤ 9223372036854775806) : ∀ (n i : Nat), l.length - i = n → i ≤ l.length →
    Ev (fun k => laws_toIntS.l0 k l (filled l l.length 0 i) i) l
  | 0, i, hn, hi => by
    have e : i = l.length := by omega
    subst e
    refine Ev.step (f := fun k => some l) (fun k => ?_) (ev_some _)
    simp only [laws_toIntS.l0]
    rw [if_neg (by omega), filled_all]
  | n + 1, i, hn, hi => by
    have hlt : i < l.length := by omega
    refine Ev.step (f := fun k => laws_toIntS.l0 k l (filled l l.length 0 (i + 1)) (i + 1 : Nat)) (fun k => ?_) (toIntS_loop l hl n (i + 1) (by omega) (by omega))
    simp only [laws_toIntS.l0]
    rw [if_pos (by omega), if_pos (by omega), if_pos (by rw [filled_length _ _ _ hi]; omega), rd_nat l i hlt, Int.toNat_natCast, filled_set l 0 i hlt, wrap_succ (by omega)]
theorem toIntS_ev (l : List Int) (hl : l.length ≤ 35184372088832) : Ev (fun k => laws_toIntS.f k l) l := by
  unfold laws_toIntS.f
  refine ev_if_pos (by omega) (ev_if_pos (by omega) ?_)
  have h := toIntS_loop l (by omega) l.length 0 (by omega) (by omega)
  rw [filled_zero] at h
  simpa using h

theorem eqIntS_loop (a b : List Int) (hab : a.length = b.length) (hl : a.length ≤ 9223372036854775806) : ∀ (n i : Nat), a.length - i = n → i ≤ a.length →
    Ev (fun k => laws_eqIntS.l0 k a b i) (decide (a.drop i = b.drop i))
  | 0, i, hn, hi => by
    have e : i = a.length := by omega
    subst e
    refine Ev.step (f := fun k => some true) (fun k => ?_) (ev_some_of (by rw [List.drop_length, hab, List.drop_length]; simp))
    simp only [laws_eqIntS.l0]
    rw [if_neg (by omega)]
  | n + 1, i, hn, hi => by
    have hlt : i < a.length := by omega
    have hlt' : i < b.length := by omega
    have hd : decide (a.drop i = b.drop i) = (decide (a[i] = b[i]) && decide (a.drop (i + 1) = b.drop (i + 1))) := by
      rw [List.drop_eq_getElem_cons hlt, List.drop_eq_getElem_cons hlt', Bool.eq_iff_iff]
      simp [-List.getElem_cons_drop]
    by_cases e : a[i] = b[i]
    · refine Ev.step (f := fun k => laws_eqIntS.l0 k a b (i + 1 : Nat)) (fun k => ?_) ?_
      · simp only [laws_eqIntS.l0]
        rw [if_pos (by omega), if_pos (by omega), if_pos (by omega), rd_nat a i hlt, rd_nat b i hlt', if_pos e, wrap_succ (by omega)]
      · rw [hd]
        simpa [e] using eqIntS_loop a b hab hl n (i + 1) (by omega) (by omega)
    · refine Ev.step (f := fun k => some false) (fun k => ?_) (ev_some_of (by rw [hd]; simp [e]))
      simp only [laws_eqIntS.l0]
      rw [if_pos (by omega), if_pos (by omega), if_pos (by omega), rd_nat a i hlt, rd_nat b i hlt', if_neg e]
theorem eqIntS_ev (a b : List Int) (hl : a.length ≤ 9223372036854775806) : Ev (fun k => laws_eqIntS.f k a b) (decide (a = b)) := by
  unfold laws_eqIntS.f
  by_cases hab : a.length = b.length
  · refine ev_if_pos (by omega) ?_
    simpa using eqIntS_loop a b hab hl a.length 0 (by omega) (by omega)
  · refine ev_if_neg (by omega) (ev_some_of ?_)
    have : a ≠ b := fun e => hab (by rw [e])
    simp [this]


end Go.Proofs.YtjcemohmlpgfnaaDoor.Lib
