/- In a drawn term another one put for a part is there, where the part was, and the part no more, if neither stands in the other; swapped for itself nothing is turned. No conditions. -/
import Derived.Test.YtobkledmbnacjaaZFLibSwap
import Derived.Test.YtobkledmbnacjaaZFLibHas
import Derived.Test.YtobkledmbnacjaaZFLibDraw
import Derived.Test.YtobkledmbnacjaaZFLibDrawPool
import Derived.Test.YtobkledmbnacjaaZFFg0
import Derived.Test.YtobkledmbnacjaaZFFg3
import Derived.Test.YtobkledmbnacjaaZFFg4
import Derived.Test.YtobkledmbnacjaaZFFg5
set_option linter.unusedVariables false
set_option linter.unusedSimpArgs false
namespace Go.Proofs.Ytobkledmbnacjaa.Lib
open Go.RowKit Go.Proofs.Ytobkledmbnacjaa.F Go.Proofs.YtobkledmbnacjaaW.PrintWords Go.Proofs.YtobkledmbnacjaaW.PrintLast Go.Proofs.YtobkledmbnacjaaW.PrintMore

theorem below_len (l : List Nd) (a : Int) : (belowOf l a).length ≤ l.length := by
  unfold belowOf belowL
  split
  · rw [List.length_map]
    exact Nat.le_trans (List.length_filter_le _ _) (by simp)
  · simp
def hasOf (l : List Nd) (a b : Int) : Bool := decide (b ∈ belowOf l a)
theorem mem_belowN (l : List Nd) (n : Nat) (b : Int) : b ∈ belowL l n ↔ ∃ y : Nat, y < l.length ∧ ins l n y = true ∧ (y : Int) = b := by
  unfold belowL
  simp only [List.mem_map, List.mem_filter, List.mem_range]
  constructor
  · rintro ⟨y, ⟨h1, h2⟩, e⟩
    exact ⟨y, h1, h2, e⟩
  · rintro ⟨y, h1, h2, e⟩
    exact ⟨y, ⟨h1, h2⟩, e⟩
theorem implHas_ev (l : List Nd) (a b : Int) (hl : l.length ≤ 9223372036854775806) : Ev (fun k => impl_TermHas.f k l a b) (hasOf l a b) := by
  unfold impl_TermHas.f
  exact ev_bind (implBelow_ev l a hl) (ev_bind (contains_ev _ _ (by have := below_len l a; omega)) (ev_some _))
theorem hasOf_iff {l : List Nd} (hok : poolOkB l = true) {n y : Nat} (hn : n < l.length) : hasOf l (n : Int) (y : Int) = true ↔ ins l n y = true := by
  unfold hasOf belowOf
  rw [if_pos ⟨hok, by unfold hasB; simp; omega⟩, decide_eq_true_eq, Int.toNat_natCast, mem_belowN]
  constructor
  · rintro ⟨z, _, h, e⟩
    have : z = y := by omega
    rwa [this] at h
  · intro h
    have := ins_le hok hn h
    exact ⟨y, by omega, h, rfl⟩
theorem l3Draw_ok (b : List Int) (hb : b.length ≤ 9223372036854775806) : ∃ q x y, Ev (fun k => spec_l3Draw.f k b) (q, x, y) ∧ q.length ≤ 500 := by
  unfold spec_l3Draw.f
  obtain ⟨h, e⟩ := new_ok b hb
  obtain ⟨q, i1, h1, e1, hq, hc1⟩ := drawAny_ok h (cur_new b hb)
  obtain ⟨x, i2, h2, e2, hc2⟩ := drawTerm_ok h1 q hc1
  obtain ⟨y, i3, h3, e3, hc3⟩ := drawTerm_ok h2 q hc2
  exact ⟨q, x, y, ev_bind e (ev_bind e1 (ev_bind e2 (ev_bind e3 (ev_some _)))), hq⟩
theorem drawSwap_ok (l : List Int) (hb : l.length ≤ 9223372036854775806) : ∃ q t a b, Ev (fun k => spec_DrawTermSwap.f k l) (q, t, a, b) ∧ q.length ≤ 500 := by
  unfold spec_DrawTermSwap.f
  obtain ⟨q, t, b, hd, hq⟩ := l3Draw_ok l hb
  obtain ⟨h, hn⟩ := new_ok l hb
  obtain ⟨x, i1, h1, hx, hc1⟩ := drawTerm_ok h q (cur_new l hb)
  have no : ∀ (i' h' : Int), Ev (fun k => spec_DrawTermSwap.j0 k t b x false q l i' h') (q, t, x, b) := fun i' h' =>
    Ev.step (fun k => by rw [spec_DrawTermSwap.j0]) (ev_if_neg (by simp) (ev_some _))
  by_cases hp : poolOkB q = true
  · by_cases h2 : hasB q.length t = true
    · obtain ⟨c, i2, h2', ho, hc2⟩ := once_ok h1 4 hc1
      have ht0 := h2
      unfold hasB at ht0
      simp only [decide_eq_true_eq] at ht0
      obtain ⟨n, rfl⟩ : ∃ n : Nat, t = n := ⟨t.toNat, by omega⟩
      have hnq : n < q.length := by omega
      have go : ∀ r, Ev (fun k => spec_DrawTermSwap.j0 k (n : Int) b x (!c) q l i2 h2') r → Ev (fun k => (spec_l3Draw.f k l).bind fun bt360 => ((spec_l1New.f k l).bind fun bt366 => ((spec_l1DrawTerm.f k bt366.1 bt366.2.1 bt366.2.2 bt360.1).bind fun bt370 => ((spec_PoolOk.f k bt360.1).bind fun t373 => (if t373 = true then ((spec_l1Has.f bt360.1 bt360.2.1).bind fun t374 => (if t374 = true then ((spec_l1Once.f bt366.1 bt370.2.1 bt370.2.2 4).bind fun bt375 => (spec_DrawTermSwap.j0 k bt360.2.1 bt360.2.2 bt370.1 (!bt375.1) bt360.1 bt366.1 bt375.2.1 bt375.2.2)) else (spec_DrawTermSwap.j0 k bt360.2.1 bt360.2.2 bt370.1 false bt360.1 bt366.1 bt370.2.1 bt370.2.2))) else (spec_DrawTermSwap.j0 k bt360.2.1 bt360.2.2 bt370.1 false bt360.1 bt366.1 bt370.2.1 bt370.2.2)))))) r := fun r hr =>
        ev_bind hd (ev_bind hn (ev_bind hx (ev_bind (specPoolOk_ev q (by omega)) (ev_if_pos hp (ev_bind_const (specHas_eq q (n : Int) (by omega)) (ev_if_pos h2 (ev_bind_const ho hr)))))))
      cases c with
      | true => exact ⟨q, (n : Int), x, b, go _ (no i2 h2'), hq⟩
      | false =>
        have hne : 0 < (((List.range q.length).filter (ins q n)).map fun (x : Nat) => (x : Int)).length := by
          have hm : (n : Int) ∈ ((List.range q.length).filter (ins q n)).map fun (x : Nat) => (x : Int) :=
            List.mem_map.2 ⟨n, List.mem_filter.2 ⟨List.mem_range.2 hnq, ins_self hp hnq⟩, rfl⟩
          exact List.length_pos_of_mem hm
        obtain ⟨y, i3, h3, hy, _, _⟩ := pickInt_ok h2' _ hne hc2
        exact ⟨q, (n : Int), y, b, go _ (by
          refine Ev.step (fun k => by rw [spec_DrawTermSwap.j0]) ?_
          exact ev_if_pos rfl (ev_bind (specInside_ev q hp n hnq) (ev_bind (specList_ev q.length (ins q n) (by omega)) (ev_bind_const hy (ev_some _))))), hq⟩
    · exact ⟨q, t, x, b, ev_bind hd (ev_bind hn (ev_bind hx (ev_bind (specPoolOk_ev q (by omega)) (ev_if_pos hp (ev_bind_const (specHas_eq q t (by omega)) (ev_if_neg h2 (no i1 h1))))))), hq⟩
  · exact ⟨q, t, x, b, ev_bind hd (ev_bind hn (ev_bind hx (ev_bind (specPoolOk_ev q (by omega)) (ev_if_neg hp (no i1 h1))))), hq⟩
end Go.Proofs.Ytobkledmbnacjaa.Lib
namespace Go.Proofs.Ytobkledmbnacjaa.Pure
open Go.RowKit Go.Proofs.Ytobkledmbnacjaa.F Go.Proofs.Ytobkledmbnacjaa.Lib Go.Proofs.YtobkledmbnacjaaW.PrintWords Go.Proofs.YtobkledmbnacjaaW.PrintLast

theorem FnSwap : laws_FnSwap.Pure := by
  intro l0 hm _ _
  have hb : l0.length ≤ 9223372036854775806 := by unfold maxLen at hm; omega
  refine ev_rounds ?_
  unfold laws_FnSwap.f
  refine ev_bind_const (a := decide ((l0.length : Int) > 1048576)) rfl ?_
  by_cases hbig : (l0.length : Int) > 1048576
  · exact ev_if_pos (decide_eq_true hbig) (ev_some _)
  refine ev_if_neg (by simpa using hbig) ?_
  obtain ⟨p, t, a, b, hd, hp5⟩ := drawSwap_ok l0 hb
  have him := implSwap_ev p t a b (by omega)
  have hsp := specSwap_ev p t a b (by omega)
  refine ev_bind hd (ev_bind him (ev_bind hsp (ev_if_pos rfl ?_)))
  by_cases hok : poolOkB p = true
  rotate_left
  · have ev : swapL p t a b = ([], -1) := by unfold swapL; rw [if_neg hok]
    rw [ev]
    refine ev_if_pos (by show (-1 : Int) < 0; omega) ?_
    by_cases h0 : (([] : List Nd).length : Int) = (p.length : Int)
    · exact ev_if_pos h0 (ev_some _)
    · exact ev_if_neg h0 (ev_some _)
  have same : ∀ v : List Nd × Int, v = (p, -1) → Ev (fun k => (if v.2 < 0 then (if (v.1.length : Int) = (p.length : Int) then (some true) else (some ((v.1.length : Int) == 0))) else ((impl_TermSwap.f k p t a a).bind fun bt418 => ((impl_TermHas.f k p t a).bind fun t423 => (if bt418.2 = t then (if (bt418.1.length : Int) = (p.length : Int) then (if t423 = true then ((impl_TermHas.f k v.1 v.2 b).bind fun t424 => (laws_FnSwap.j0 k a b v.2 (!t424) p v.1)) else (if v.2 = t then (laws_FnSwap.j0 k a b v.2 false p v.1) else (laws_FnSwap.j0 k a b v.2 true p v.1))) else (laws_FnSwap.j0 k a b v.2 true p v.1)) else (laws_FnSwap.j0 k a b v.2 true p v.1)))))) true := by
    rintro v rfl
    exact ev_if_pos (by show (-1 : Int) < 0; omega) (ev_if_pos rfl (ev_some _))
  by_cases hh : hasB p.length t = true ∧ hasB p.length a = true ∧ hasB p.length b = true
  rotate_left
  · exact same _ (by unfold swapL; rw [if_pos hok, if_neg hh])
  obtain ⟨n, rfl⟩ : ∃ n : Nat, t = n := ⟨t.toNat, by have := hh.1; unfold hasB at this; simp only [decide_eq_true_eq] at this; omega⟩
  obtain ⟨x, rfl⟩ : ∃ n : Nat, a = n := ⟨a.toNat, by have := hh.2.1; unfold hasB at this; simp only [decide_eq_true_eq] at this; omega⟩
  obtain ⟨z, rfl⟩ : ∃ n : Nat, b = n := ⟨b.toNat, by have := hh.2.2; unfold hasB at this; simp only [decide_eq_true_eq] at this; omega⟩
  have hn : n < p.length := by have := hh.1; unfold hasB at this; simp only [decide_eq_true_eq] at this; omega
  have hx : x < p.length := by have := hh.2.1; unfold hasB at this; simp only [decide_eq_true_eq] at this; omega
  have hz : z < p.length := by have := hh.2.2; unfold hasB at this; simp only [decide_eq_true_eq] at this; omega
  have ev : swapL p (n : Int) (x : Int) (z : Int) = carried p n (carry p (ins p n) x z (n + 1) 0 p (fun _ => 0)) := by
    unfold swapL
    rw [if_pos hok, if_pos hh, Int.toNat_natCast]
  cases hc : carry p (ins p n) x z (n + 1) 0 p (fun _ => 0) with
  | none => exact same _ (by rw [ev, hc]; rfl)
  | some R =>
    obtain ⟨Q, F⟩ := R
    rw [ev, hc]
    show Ev (fun k => (if F n < 0 then (if (Q.length : Int) = (p.length : Int) then (some true) else (some ((Q.length : Int) == 0))) else ((impl_TermSwap.f k p n x x).bind fun bt418 => ((impl_TermHas.f k p n x).bind fun t423 => (if bt418.2 = (n : Int) then (if (bt418.1.length : Int) = (p.length : Int) then (if t423 = true then ((impl_TermHas.f k Q (F n) z).bind fun t424 => (laws_FnSwap.j0 k x z (F n) (!t424) p Q)) else (if F n = (n : Int) then (laws_FnSwap.j0 k x z (F n) false p Q) else (laws_FnSwap.j0 k x z (F n) true p Q))) else (laws_FnSwap.j0 k x z (F n) true p Q)) else (laws_FnSwap.j0 k x z (F n) true p Q)))))) true
    obtain ⟨hQ, hpre, hG⟩ := carry_good hok (ins p n) x z (n + 1) 0 p (fun _ => 0) (by omega) hok (fun j hj => by omega) Q F hc
    rw [Nat.zero_add] at hG
    have hself := ins_self hok hn
    have hzQ : z < Q.length := (at_pre hpre hz).1
    have hq5 := ok_len hQ
    obtain ⟨m, hm, em⟩ : ∃ m : Nat, m < Q.length ∧ F n = (m : Int) := by
      by_cases e : (n : Int) = (x : Int)
      · exact ⟨z, hzQ, good_a hok hn hQ hG hself e⟩
      · obtain ⟨_, m, hm, e1, _⟩ := good_at hok hn hQ hG hself e
        exact ⟨m, hm, e1⟩
    have hst : swapL p (n : Int) (x : Int) (x : Int) = (p, (n : Int)) := by
      unfold swapL
      rw [if_pos hok, if_pos ⟨hh.1, hh.2.1, hh.2.1⟩, Int.toNat_natCast]
      obtain ⟨G, g1, g2⟩ := carry_still hok hn (x : Int) (x : Int) (fun j _ e => rfl) (n + 1) 0 (fun _ => 0) (by omega) (fun j hj => by omega)
      rw [g1]
      show (p, G n) = (p, (n : Int))
      rw [g2 n (by omega) hself]
    have him2 := implSwap_ev p (n : Int) (x : Int) (x : Int) (by omega)
    rw [hst] at him2
    have hhas := implHas_ev p (n : Int) (x : Int) (by omega)
    have fin : Ev (fun k => laws_FnSwap.j0 k x z (F n) false p Q) true := by
      refine Ev.step (fun k => by rw [laws_FnSwap.j0]) (ev_if_neg (by simp) (ev_bind (implHas_ev p (z : Int) (x : Int) (by omega)) ?_))
      by_cases h1 : hasOf p (z : Int) (x : Int) = true
      · exact ev_if_pos h1 (ev_some _)
      refine ev_if_neg h1 (ev_bind (implHas_ev p (x : Int) (z : Int) (by omega)) ?_)
      by_cases h2 : hasOf p (x : Int) (z : Int) = true
      · exact ev_if_pos h2 (ev_some _)
      refine ev_if_neg h2 (ev_bind (implHas_ev Q (F n) (x : Int) (by omega)) (ev_some_of ?_))
      rw [hasOf_iff hok hz] at h1
      rw [hasOf_iff hok hx] at h2
      obtain ⟨m', e1, hm', h3⟩ := swap_out hok hn hQ hpre hx hz hG h1 h2 n n (Nat.le_refl _) hself
      rw [e1]
      rw [← hasOf_iff hQ hm', Bool.not_eq_true] at h3
      rw [h3]
      rfl
    refine ev_if_neg (by omega) (ev_bind him2 (ev_bind hhas (ev_if_pos rfl (ev_if_pos rfl ?_))))
    by_cases hin : ins p n x = true
    · refine ev_if_pos ((hasOf_iff hok hn).2 hin) (ev_bind (implHas_ev Q (F n) (z : Int) (by omega)) ?_)
      obtain ⟨m', e1, hm', h3⟩ := swap_in hok hn hQ hG hzQ n n (Nat.le_refl _) hself hin
      have : hasOf Q (F n) (z : Int) = true := by rw [e1]; exact (hasOf_iff hQ hm').2 h3
      rw [this]
      exact fin
    · refine ev_if_neg (fun h => hin ((hasOf_iff hok hn).1 h)) (ev_if_pos ?_ fin)
      exact swap_id hok hn hQ hpre rfl hG n n (Nat.le_refl _) hself hin

end Go.Proofs.Ytobkledmbnacjaa.Pure
