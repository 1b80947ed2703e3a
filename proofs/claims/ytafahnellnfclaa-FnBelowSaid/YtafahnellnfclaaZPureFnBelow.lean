/- What stands below a drawn term is it and what stands below its parts. No conditions. -/
import Derived.Test.YtafahnellnfclaaZLibBelowMem
import Derived.Test.YtafahnellnfclaaZLibMade
import Derived.Test.YtafahnellnfclaaZLibWithin
import Derived.Test.YtafahnellnfclaaZC9
import Derived.Test.YtafahnellnfclaaZC15
import Derived.Test.YtafahnellnfclaaZC16
import Derived.Test.YtafahnellnfclaaZC17
set_option linter.unusedVariables false
set_option linter.unusedSimpArgs false
namespace Go.Proofs.Ytafahnellnfclaa.Lib
open Go.RowKit Go.Proofs.Ytafahnellnfclaa.C Go.Proofs.YtafahnellnfclaaW.PrintWords Go.Proofs.YtafahnellnfclaaW.PrintLast

theorem below_in (x4 : Int) (x5 x7 x9 : List Int) (i : Int) (p : List Nd) (h5 : x5.length ≤ 1000000) (h9 : x9.length ≤ 1000000) (hsub : ∀ z ∈ x9, z ∈ x5) {r : Bool} : ∀ (n j : Nat) (x6 : List Int), x9.length - j = n → j ≤ x9.length → x6.length + n ≤ 10000000 →
    Ev (fun k => laws_FnBelow.l0 k x4 x5 (addAll x6 (x9.drop j)) x7 (wrap64 (i + 1)) p) r → Ev (fun k => laws_FnBelow.l1 k x4 x5 x6 x7 i x9 j p) r
  | 0, j, x6, hn, hj, hl, h => by
    have e : j = x9.length := by omega
    subst e
    rw [List.drop_length] at h
    refine Ev.step (f := fun k => laws_FnBelow.l0 k x4 x5 x6 x7 (wrap64 (i + 1)) p) (fun k => ?_) h
    simp only [laws_FnBelow.l1]
    rw [if_neg (by omega)]
  | n + 1, j, x6, hn, hj, hl, h => by
    have hlt : j < x9.length := by omega
    have hz : x9[j] ∈ x5 := hsub _ (List.getElem_mem hlt)
    have w1 := within_ev x5 x9[j] (by omega)
    have w2 := within_ev x6 x9[j] (by omega)
    rw [List.drop_eq_getElem_cons hlt, addAll_cons] at h
    refine Ev.step (f := fun k => (laws_within.f k x5 x9[j]).bind fun t => if t = true then (laws_within.f k x6 x9[j]).bind fun t => if t = true then laws_FnBelow.l1 k x4 x5 x6 x7 i x9 (j + 1 : Nat) p else if x6.length < 17592186044416 then laws_FnBelow.l1 k x4 x5 (x6 ++ [x9[j]]) x7 i x9 (j + 1 : Nat) p else none else some false) (fun k => ?_) ?_
    · simp only [laws_FnBelow.l1]
      rw [if_pos (by omega), if_pos (by omega), rd_nat x9 j hlt, wrap_succ (by omega)]
    · refine ev_bind w1 (ev_if_pos (by simpa using hz) (ev_bind w2 ?_))
      by_cases hm : x9[j] ∈ x6
      · rw [if_pos hm] at h
        exact ev_if_pos (by simpa using hm) (below_in x4 x5 x7 x9 i p h5 h9 hsub n (j + 1) x6 (by omega) (by omega) (by omega) h)
      · rw [if_neg hm] at h
        exact ev_if_neg (by simpa using hm) (ev_if_pos (by omega) (below_in x4 x5 x7 x9 i p h5 h9 hsub n (j + 1) (x6 ++ [x9[j]]) (by omega) (by omega) (by simp; omega) h))
theorem belowOf_at {p : List Nd} (hok : poolOkB p = true) {t : Nat} (ht : t < p.length) : belowOf p t = belowL p t := by
  unfold belowOf
  rw [if_pos ⟨hok, by unfold hasB; simp; omega⟩, Int.toNat_natCast]
theorem belowL_len (l : List Nd) (t : Nat) : (belowL l t).length ≤ l.length := by
  unfold belowL
  rw [List.length_map]
  exact Nat.le_trans (List.length_filter_le _ _) (by simp)
theorem below_parts {p : List Nd} (hok : poolOkB p = true) {t : Nat} (ht : t < p.length) (ps : List Int) (hps : partsB p[t] = ps) : ∀ (n j : Nat) (x6 : List Int), ps.length - j = n → j ≤ ps.length → x6.length + n * 500 ≤ 100000 → x6.Nodup → (∀ z ∈ x6, z ∈ belowL p t) →
    (∀ z ∈ belowL p t, z ∈ x6 ∨ ∃ q ∈ ps.drop j, ∃ y : Nat, z = y ∧ ins p q.toNat y = true) → Ev (fun k => laws_FnBelow.l0 k t (belowL p t) x6 ps j p) true
  | 0, j, x6, hn, hj, hl, hd, hs, hc => by
    have e : j = ps.length := by omega
    subst e
    rw [List.drop_length] at hc
    have hlen : x6.length = (belowL p t).length := by
      have h1 := nodup_le x6 _ hd hs
      have h2 := nodup_le (belowL p t) x6 (belowL_nodup p t) (fun z hz => (hc z hz).elim id (fun ⟨q, hq, _⟩ => by simp at hq))
      omega
    have hb := belowL_last hok ht
    have hb5 := belowL_len p t
    have hp5 := ok_len hok
    have hpos : 0 < (belowL p t).length := by rw [hb]; simp
    refine Ev.step (f := fun k => some true) (fun k => ?_) (ev_some _)
    simp only [laws_FnBelow.l0]
    have ew : wrap64 (((belowL p t).length : Int) - 1) = (((belowL p t).length - 1 : Nat) : Int) := by rw [wrap_id (by omega) (by omega)]; omega
    rw [if_neg (by omega), if_pos (by omega), ew, if_pos (by omega), if_pos (by omega), rd_nat _ _ (by omega)]
    have el : (belowL p t)[(belowL p t).length - 1]'(by omega) = (t : Int) := by
      have : (belowL p t).getLast? = some (t : Int) := by rw [hb]; simp
      rw [List.getLast?_eq_getElem?, List.getElem?_eq_getElem (by omega)] at this
      exact Option.some.inj this
    rw [el]
    simp
  | n + 1, j, x6, hn, hj, hl, hd, hs, hc => by
    have hlt : j < ps.length := by omega
    have hp5 := ok_len hok
    have hq := parts_in (ok_at hok t ht).2 ps[j] (by rw [hps]; exact List.getElem_mem hlt)
    obtain ⟨m, em⟩ : ∃ m : Nat, ps[j] = m := ⟨ps[j].toNat, by omega⟩
    have hm : m < p.length := by omega
    have hb := implBelow_ev p (m : Int) (by omega)
    rw [belowOf_at hok hm] at hb
    have hl5 := belowL_len p m
    have hl6 := belowL_len p t
    have hsub : ∀ z ∈ belowL p m, z ∈ belowL p t := by
      intro z hz
      obtain ⟨y, rfl, hy⟩ := (mem_belowL hok hm z).1 hz
      refine (mem_belowL hok ht _).2 ⟨y, rfl, (ins_parts hok ht y).2 (.inr ⟨ps[j], by rw [hps]; exact List.getElem_mem hlt, ?_⟩)⟩
      rw [em, Int.toNat_natCast]
      exact hy
    have hplen : ps.length ≤ 2 := by rw [← hps]; exact parts_len _
    refine Ev.step (f := fun k => (impl_TermBelow.f k p m).bind fun t1 => laws_FnBelow.l1 k t (belowL p t) x6 ps j t1 0 p) (fun k => ?_) (ev_bind hb ?_)
    · simp only [laws_FnBelow.l0]
      rw [if_pos (by omega), if_pos (by omega), rd_nat ps j hlt, em]
    · have h := below_in (t : Int) (belowL p t) ps (belowL p m) (j : Int) p (by omega) (by omega) hsub (r := true) _ 0 x6 rfl (by omega) (by omega)
      refine h ?_
      rw [List.drop_zero, wrap_succ (by omega)]
      have hal := addAll_len (belowL p m) x6
      refine below_parts hok ht ps hps n (j + 1) (addAll x6 (belowL p m)) (by omega) (by omega) (by omega) (addAll_nodup _ _ hd) (fun z hz => ((addAll_mem _ _ z).1 hz).elim (hs z) (hsub z)) (fun z hz => ?_)
      rcases hc z hz with h1 | ⟨q, hq1, y, rfl, hy⟩
      · exact .inl ((addAll_mem _ _ z).2 (.inl h1))
      · rw [List.drop_eq_getElem_cons hlt] at hq1
        rcases List.mem_cons.1 hq1 with rfl | h2
        · refine .inl ((addAll_mem _ _ _).2 (.inr ((mem_belowL hok hm _).2 ⟨y, rfl, ?_⟩)))
          rw [em, Int.toNat_natCast] at hy
          exact hy
        · exact .inr ⟨q, h2, y, rfl, hy⟩
end Go.Proofs.Ytafahnellnfclaa.Lib
namespace Go.Proofs.Ytafahnellnfclaa.Pure
open Go.RowKit Go.Proofs.Ytafahnellnfclaa.C Go.Proofs.Ytafahnellnfclaa.Lib Go.Proofs.YtafahnellnfclaaW.PrintWords Go.Proofs.YtafahnellnfclaaW.PrintLast

theorem FnBelow : laws_FnBelow.Pure := by
  intro l0 hm _ _
  have hb : l0.length ≤ 9223372036854775806 := by unfold maxLen at hm; omega
  refine ev_rounds ?_
  unfold laws_FnBelow.f
  refine ev_bind_const (a := decide ((l0.length : Int) > 1048576)) rfl ?_
  by_cases hbig : (l0.length : Int) > 1048576
  · exact ev_if_pos (decide_eq_true hbig) (ev_some _)
  refine ev_if_neg (by simpa using hbig) ?_
  obtain ⟨p, a, hd, hp⟩ := drawBoth_ok l0 hb
  have hd' : Ev (fun k => spec_DrawTermBelow.f k l0) (p, a) := by unfold spec_DrawTermBelow.f; exact ev_bind hd (ev_some _)
  have im := implBelow_ev p a (by omega)
  have sm := specBelow_ev p a (by omega)
  by_cases hh : poolOkB p = true ∧ hasB p.length a = true
  rotate_left
  · have e : belowOf p a = [] := by unfold belowOf; rw [if_neg hh]
    rw [e] at im sm
    refine ev_bind hd' (ev_bind im (ev_bind sm (ev_bind (same_refl [] (by simp)) (ev_if_pos rfl (ev_if_pos rfl (ev_bind (specPoolOk_ev p (by omega)) ?_))))))
    by_cases hok : poolOkB p = true
    · refine ev_if_pos hok ?_
      have hn : ¬ hasB p.length a = true := fun h => hh ⟨hok, h⟩
      unfold hasB at hn
      simp only [decide_eq_true_eq] at hn
      by_cases h0 : a < 0
      · exact ev_if_pos h0 (ev_some _)
      · exact ev_if_neg h0 (ev_some_of (by simp; omega))
    · exact ev_if_neg hok (ev_some _)
  obtain ⟨hok, hh⟩ := hh
  have hh' := hh
  unfold hasB at hh'
  simp only [decide_eq_true_eq] at hh'
  obtain ⟨t, rfl⟩ : ∃ n : Nat, a = n := ⟨a.toNat, by omega⟩
  have ht : t < p.length := by omega
  rw [belowOf_at hok ht] at im sm
  have hl5 := belowL_len p t
  have hpos : 0 < (belowL p t).length := by rw [belowL_last hok ht]; simp
  have hpa := implPartsOfL_ev p (t : Int) (by omega)
  rw [parts_told hok ht] at hpa
  refine ev_bind hd' (ev_bind im (ev_bind sm (ev_bind (same_refl (belowL p t) (by omega)) (ev_if_pos rfl (ev_if_neg (by omega) (ev_bind hpa ?_))))))
  have hpl := parts_len p[t]
  refine below_parts hok ht (partsB p[t]) rfl _ 0 [(t : Int)] rfl (by omega) (by simp; omega) (by simp) (fun z hz => ?_) (fun z hz => ?_)
  · simp at hz
    subst hz
    exact (mem_belowL hok ht _).2 ⟨t, rfl, ins_self hok ht⟩
  · obtain ⟨y, rfl, hy⟩ := (mem_belowL hok ht z).1 hz
    rcases (ins_parts hok ht y).1 hy with rfl | ⟨q, hq, hy2⟩
    · exact .inl (by simp)
    · exact .inr ⟨q, by rw [List.drop_zero]; exact hq, y, rfl, hy2⟩

end Go.Proofs.Ytafahnellnfclaa.Pure
