/- A drawn term that is moved to another pool is as great and as deep there, and has the same names; moved back it is what it was. No conditions. -/
import Derived.Test.YtobkledmbnacjaaZNLibMove
import Derived.Test.YtobkledmbnacjaaZNLibMoved
import Derived.Test.YtobkledmbnacjaaZNLibSame
import Derived.Test.YtobkledmbnacjaaZNLibDraw
import Derived.Test.YtobkledmbnacjaaZNLibDrawPool
import Derived.Test.YtobkledmbnacjaaZNMg3
import Derived.Test.YtobkledmbnacjaaZNMg4
import Derived.Test.YtobkledmbnacjaaZNMg5
set_option linter.unusedVariables false
set_option linter.unusedSimpArgs false
namespace Go.Proofs.Ytobkledmbnacjaa.Lib
open Go.RowKit Go.Proofs.Ytobkledmbnacjaa.M Go.Proofs.YtobkledmbnacjaaW.PrintWords Go.Proofs.YtobkledmbnacjaaW.PrintLast Go.Proofs.YtobkledmbnacjaaW.PrintMore

theorem drawMove_ok (l : List Int) (hb : l.length ≤ 1048576) : ∃ p t q, Ev (fun k => spec_DrawTermMove.f k l) (p, t, q) ∧ p.length ≤ 500 ∧ q.length ≤ 500 := by
  unfold spec_DrawTermMove.f
  obtain ⟨p, t, hd, hp⟩ := drawBoth_ok l (by omega)
  have h7 : (([7] : List Int) ++ l).length ≤ 9223372036854775806 := by simp; omega
  obtain ⟨h, hn⟩ := new_ok (([7] : List Int) ++ l) h7
  obtain ⟨q, i1, h1, hx, hq, _⟩ := drawAny_ok h (cur_new (([7] : List Int) ++ l) h7)
  exact ⟨p, t, q, ev_bind hd (ev_if_pos (by simp; omega) (ev_bind hn (ev_bind hx (ev_some _)))), hp, hq⟩
end Go.Proofs.Ytobkledmbnacjaa.Lib
namespace Go.Proofs.Ytobkledmbnacjaa.Pure
open Go.RowKit Go.Proofs.Ytobkledmbnacjaa.M Go.Proofs.Ytobkledmbnacjaa.Lib Go.Proofs.YtobkledmbnacjaaW.PrintWords Go.Proofs.YtobkledmbnacjaaW.PrintLast

theorem FnMoved : laws_FnMoved.Pure := by
  intro l0 hm _ _
  refine ev_rounds ?_
  unfold laws_FnMoved.f
  refine ev_bind_const (a := decide ((l0.length : Int) > 1048576)) rfl ?_
  by_cases hbig : (l0.length : Int) > 1048576
  · exact ev_if_pos (decide_eq_true hbig) (ev_some _)
  refine ev_if_neg (by simpa using hbig) ?_
  obtain ⟨p, t, q, hd, hp5, hq5⟩ := drawMove_ok l0 (by omega)
  have him := implMove_ev p t q (by omega) (by omega)
  have hsp := specMove_ev p t q (by omega) (by omega)
  refine ev_bind hd (ev_bind him (ev_bind hsp (ev_if_pos rfl ?_)))
  by_cases hok : poolOkB q = true
  rotate_left
  · have ev : moveL p t q = ([], -1) := by unfold moveL; rw [if_neg hok]
    rw [ev]
    refine ev_if_pos (by show (-1 : Int) < 0; omega) ?_
    by_cases h0 : (([] : List Nd).length : Int) = (q.length : Int)
    · exact ev_if_pos h0 (ev_some _)
    · exact ev_if_neg h0 (ev_some _)
  have fail : ∀ X : Nat → Option Bool, moveL p t q = (q, -1) → Ev (fun k => (if (moveL p t q).2 < 0 then (if ((moveL p t q).1.length : Int) = (q.length : Int) then (some true) else (some (((moveL p t q).1.length : Int) == 0))) else X k)) true := by
    intro X e
    rw [e]
    exact ev_if_pos (by show (-1 : Int) < 0; omega) (ev_if_pos rfl (ev_some _))
  by_cases hh : hasB p.length t = true ∧ poolOkB p = true
  rotate_left
  · exact fail _ (by unfold moveL; rw [if_pos hok, if_neg hh])
  obtain ⟨h1, hp⟩ := hh
  obtain ⟨n, rfl⟩ : ∃ n : Nat, t = n := ⟨t.toNat, by have := h1; unfold hasB at this; simp only [decide_eq_true_eq] at this; omega⟩
  have hn : n < p.length := by have := h1; unfold hasB at this; simp only [decide_eq_true_eq] at this; omega
  have ev : moveL p (n : Int) q = carried q n (carry p (ins p n) (-1) 0 (n + 1) 0 q (fun _ => 0)) := by
    unfold moveL
    rw [if_pos hok, if_pos ⟨h1, hp⟩, Int.toNat_natCast]
  cases hc : carry p (ins p n) (-1) 0 (n + 1) 0 q (fun _ => 0) with
  | none => exact fail _ (by rw [ev, hc]; rfl)
  | some R0 =>
    obtain ⟨R, F⟩ := R0
    have ev2 : moveL p (n : Int) q = (R, F n) := by rw [ev, hc]; rfl
    rw [ev2]
    obtain ⟨hR, hpre, hG, hF0⟩ := carry_from hp hn hok hc
    have hR5 := ok_len hR
    have hself := ins_self hp hn
    obtain ⟨_, m, hmR, em, _⟩ := good_at hp hn hR hG hself (by omega)
    have hback : moveL R (m : Int) p = (p, (n : Int)) := by
      have hhm : hasB R.length (m : Int) = true := by unfold hasB; simp; omega
      unfold moveL
      rw [if_pos hp, if_pos ⟨hhm, hR⟩, Int.toNat_natCast]
      obtain ⟨G, g1, g2⟩ := carry_back hp hn hR hG hmR em (m + 1) 0 (fun _ => 0) (by omega) (fun j hj => by omega)
      rw [g1]
      obtain ⟨y, k1, k2, k3⟩ := g2 m (by omega) (ins_self hR hmR)
      have e : y = n := move_one hp hn hR hG y y n (Nat.le_refl _) k1 hself (by rw [k2, em])
      show (p, G m) = (p, (n : Int))
      rw [k3, e]
    have hbk := implMove_ev R (m : Int) p (by omega) (by omega)
    rw [hback] at hbk
    have hsz := Go.Proofs.Ytobkledmbnacjaa.Lib.move_size hp hn hR hG n n (Nat.le_refl _) hself
    have hnm := Go.Proofs.Ytobkledmbnacjaa.Lib.move_names hp hn hR hG hself
    rw [em] at hsz hnm
    rw [Int.toNat_natCast] at hnm
    have s1 := implSize_ev R (m : Int) (by omega)
    have s2 := implSize_ev p (n : Int) (by omega)
    have d1 := implDeep_ev R (m : Int) (by omega)
    have d2 := implDeep_ev p (n : Int) (by omega)
    have n1 := implNames_ev R (m : Int) (by omega)
    have n2 := implNames_ev p (n : Int) (by omega)
    have en : namesOf R (m : Int) = namesOf p (n : Int) := by
      have hhm : hasB R.length (m : Int) = true := by unfold hasB; simp; omega
      unfold namesOf
      rw [if_pos ⟨hR, hhm⟩, if_pos ⟨hp, h1⟩, Int.toNat_natCast, Int.toNat_natCast, hnm]
    have hlen : (namesOf p (n : Int)).length ≤ 4611686018427387904 := by have := namesOf_len p (n : Int); omega
    rw [hsz.1] at s1
    rw [hsz.2] at d1
    rw [en] at n1
    have sm := same_refl (namesOf p (n : Int)) hlen
    refine ev_if_neg (by show ¬ F n < 0; omega) ?_
    show Ev (fun k => (impl_TermMove.f k R (F n) p).bind fun bt419 => ((impl_TermSize.f k R (F n)).bind fun t424 => ((impl_TermSize.f k p n).bind fun t425 => (if t424 = t425 then ((impl_TermDeep.f k R (F n)).bind fun t426 => ((impl_TermDeep.f k p n).bind fun t427 => (if t426 = t427 then ((impl_TermNames.f k R (F n)).bind fun t428 => ((impl_TermNames.f k p n).bind fun t431 => ((laws_sameInts.f k t428 t431).bind fun t434 => (if t434 = true then (if bt419.2 = (n : Int) then (some ((bt419.1.length : Int) == (p.length : Int))) else (some false)) else (some false))))) else (some false)))) else (some false))))) true
    rw [em]
    refine ev_bind hbk (ev_bind s1 (ev_bind s2 (ev_if_pos rfl (ev_bind d1 (ev_bind d2 (ev_if_pos rfl (ev_bind n1 (ev_bind n2 (ev_bind sm (ev_if_pos rfl (ev_if_pos rfl (ev_some_of ?_))))))))))))
    simp

end Go.Proofs.Ytobkledmbnacjaa.Pure
