/- What raising a power comes to. No conditions but lengths. -/
import Derived.Test.YtafahnellnfclaaTLibPut
import Derived.Test.YtafahnellnfclaaTLibKnow
import Derived.Test.YtafahnellnfclaaTRg4
set_option linter.unusedVariables false
set_option linter.unusedSimpArgs false
namespace Go.Proofs.Ytafahnellnfclaa.Lib
open Go.RowKit Go.Proofs.Ytafahnellnfclaa.R Go.Proofs.YtafahnellnfclaaW.PrintWords Go.Proofs.YtafahnellnfclaaW.PrintLast Go.Proofs.YtafahnellnfclaaW.PrintMore

def raiseN (p : List Nd) (a b : Int) : List Nd × Int :=
  if hasB p.length a = true ∧ hasB p.length b = true ∧ (p.getD a.toNat zN).f0 = 7 then addN p (normN ⟨8, b, (p.getD a.toNat zN).f1⟩) else (p, -1)
def raiseL (p : List Nd) (a b : Int) : List Nd × Int := if poolOkB p = true then raiseN p a b else ([], -1)
theorem raiseN_len (p : List Nd) (a b : Int) (h : p.length ≤ 500) : (raiseN p a b).1.length ≤ 500 := by
  unfold raiseN
  split
  · exact addN_500 p _ h
  · exact h
theorem raise_tree (p : List Nd) (a b : Int) (hl : p.length ≤ 500) {g : Nat → Int → Option (List Nd × Int)} {c1 c2 : Option Bool} (h1 : c1 = some (hasB p.length a)) (h2 : c2 = some (hasB p.length b))
    (hg : ∀ z, Ev (fun k => g k z) (addN p (normN ⟨8, b, z⟩))) :
    Ev (fun k => c1.bind fun t => if t = true then (c2.bind fun t => if t = true then (if 0 ≤ a then (if a < (p.length : Int) then (if (rd_T34 p a).f0 = 7 then g k (rd_T34 p a).f1 else some (p, -1)) else none) else none) else some (p, -1)) else some (p, -1)) (raiseN p a b) := by
  refine ev_bind_const h1 ?_
  by_cases ha : hasB p.length a = true
  · refine ev_if_pos ha (ev_bind_const h2 ?_)
    by_cases hb : hasB p.length b = true
    · refine ev_if_pos hb ?_
      have ha' := ha
      unfold hasB at ha'
      simp only [decide_eq_true_eq] at ha'
      obtain ⟨n, rfl⟩ : ∃ n : Nat, a = n := ⟨a.toNat, by omega⟩
      refine ev_if_pos (by omega) (ev_if_pos (by omega) ?_)
      have e1 : rd_T34 p (n : Int) = p[n] := rdT p n (by omega)
      have e2 : p.getD (n : Int).toNat zN = p[n] := by rw [Int.toNat_natCast]; exact getD_at p n (by omega)
      rw [e1]
      by_cases h7 : (p[n]).f0 = 7
      · have e : raiseN p n b = addN p (normN ⟨8, b, (p[n]).f1⟩) := by unfold raiseN; rw [e2, if_pos ⟨ha, hb, h7⟩]
        rw [e]
        exact ev_if_pos h7 (hg _)
      · have e : raiseN p n b = (p, -1) := by unfold raiseN; rw [e2, if_neg (fun h => h7 h.2.2)]
        rw [e]
        exact ev_if_neg h7 (ev_some _)
    · have e : raiseN p a b = (p, -1) := by unfold raiseN; rw [if_neg (fun h => hb h.2.1)]
      rw [e]
      exact ev_if_neg hb (ev_some _)
  · have e : raiseN p a b = (p, -1) := by unfold raiseN; rw [if_neg (fun h => ha h.1)]
    rw [e]
    exact ev_if_neg ha (ev_some _)
theorem implRaise_ev (p : List Nd) (a b : Int) : Ev (fun k => impl_Raise.f k p a b) (raiseL p a b) := by
  unfold impl_Raise.f raiseL
  refine ev_bind (implPoolOk_ev p) ?_
  by_cases hok : poolOkB p = true
  · rw [if_pos hok]
    have hl := ok_len hok
    refine ev_if_pos hok (ev_bind_const (implCopy_eq p (by omega)) ?_)
    unfold impl_Pool_raise.f
    exact raise_tree p a b hl (isTerm_eq p a (by omega)) (isTerm_eq p b (by omega)) (fun z => implAdd_ev p ⟨8, b, z⟩ (fun i hi => (ok_at hok i hi).2) hl)
  · rw [if_neg hok]
    exact ev_if_neg hok (ev_some _)
end Go.Proofs.Ytafahnellnfclaa.Lib
