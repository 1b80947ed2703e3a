/- What is opened of what is known, once and until nothing more comes: both tell it one way. No conditions but lengths. -/
import Derived.Test.YtdgahpigcaejbaaVLibSetS
import Derived.Test.YtdgahpigcaejbaaVLibPutK
import Derived.Test.YtdgahpigcaejbaaVLibMakesB
import Derived.Test.YtdgahpigcaejbaaVEg2
import Derived.Test.YtdgahpigcaejbaaVEg3
import Derived.Test.YtdgahpigcaejbaaVEg4
set_option linter.unusedVariables false
set_option linter.unusedSimpArgs false
namespace Go.Proofs.Ytdgahpigcaejbaa.Lib
open Go.RowKit Go.Proofs.Ytdgahpigcaejbaa.E Go.Proofs.YtdgahpigcaejbaaW.PrintWords Go.Proofs.YtdgahpigcaejbaaW.PrintLast Go.Proofs.YtdgahpigcaejbaaW.PrintMore

def open1 (l : List Nd) (T : Nat → Bool) (z : Int) : List Int :=
  if (l.getD z.toNat zN).f0 = 2 then [(l.getD z.toNat zN).f1, (l.getD z.toNat zN).f2]
  else if (l.getD z.toNat zN).f0 = 4 then [(l.getD z.toNat zN).f1]
  else if (l.getD z.toNat zN).f0 = 3 ∧ T (l.getD z.toNat zN).f2.toNat = true then [(l.getD z.toNat zN).f1] else []
def opens (l : List Nd) (T : Nat → Bool) (zs : List Int) : List Int := zs.flatMap (open1 l T)
theorem opens_cons (l : List Nd) (T : Nat → Bool) (z : Int) (zs : List Int) : opens l T (z :: zs) = open1 l T z ++ opens l T zs := by
  unfold opens
  rw [List.flatMap_cons]
def nextS (l : List Nd) (t : List Int) : List Int := setS (t ++ opens l (tgt l (kn t)) t)
theorem next_sub (l : List Nd) (t : List Int) : ∀ x ∈ t, x ∈ nextS l t := fun x hx => (setS_mem _ x).2 (List.mem_append.2 (.inl hx))
theorem two_at {l : List Nd} (hok : poolOkB l = true) {i : Nat} (hi : i < l.length) (h : (l[i]).f0 = 2 ∨ (l[i]).f0 = 3 ∨ (l[i]).f0 = 4) : (0 ≤ (l[i]).f1 ∧ (l[i]).f1 < (i : Int)) ∧ (0 ≤ (l[i]).f2 ∧ (l[i]).f2 < (i : Int)) := by
  refine two_in hok hi ?_
  rcases h with h | h | h <;> rw [h] <;> decide
theorem open1_in {l : List Nd} (hok : poolOkB l = true) (T : Nat → Bool) {z : Int} (h0 : 0 ≤ z) (h1 : z < (l.length : Int)) : ∀ x ∈ open1 l T z, 0 ≤ x ∧ x < (l.length : Int) := by
  obtain ⟨i, rfl⟩ : ∃ i : Nat, z = i := ⟨z.toNat, by omega⟩
  have hi : i < l.length := by omega
  intro x hx
  unfold open1 at hx
  rw [Int.toNat_natCast, getD_at l i hi] at hx
  by_cases h2 : (l[i]).f0 = 2
  · have := two_at hok hi (.inl h2)
    rw [if_pos h2] at hx
    simp only [List.mem_cons, List.mem_nil_iff, or_false] at hx
    rcases hx with rfl | rfl <;> omega
  · rw [if_neg h2] at hx
    by_cases h4 : (l[i]).f0 = 4
    · have := two_at hok hi (.inr (.inr h4))
      rw [if_pos h4] at hx
      simp only [List.mem_cons, List.mem_nil_iff, or_false] at hx
      subst hx; omega
    · rw [if_neg h4] at hx
      by_cases h3 : (l[i]).f0 = 3 ∧ T (l[i]).f2.toNat = true
      · have := two_at hok hi (.inr (.inl h3.1))
        rw [if_pos h3] at hx
        simp only [List.mem_cons, List.mem_nil_iff, or_false] at hx
        subst hx; omega
      · rw [if_neg h3] at hx
        simp at hx
theorem next_know {l : List Nd} (hok : poolOkB l = true) {t : List Int} (hk : knowB l.length t = true) (h2 : (nextS l t).length ≤ 200) : knowB l.length (nextS l t) = true := by
  refine (kn_iff _ _).2 ⟨h2, setS_str _, fun z hz => ?_⟩
  have h := ((kn_iff _ _).1 hk).2.2
  rcases List.mem_append.1 ((setS_mem _ z).1 hz) with e | e
  · exact h z e
  · unfold opens at e
    obtain ⟨y, hy, hx⟩ := List.mem_flatMap.1 e
    exact open1_in hok _ (h y hy).1 (h y hy).2 z hx
theorem implOnce_loop (l : List Nd) (hok : poolOkB l = true) (T : Nat → Bool) (t : List Int) (ht : t.length ≤ 200) (hin : ∀ z ∈ t, 0 ≤ z ∧ z < (l.length : Int)) : ∀ (n j : Nat) (acc : List Int), t.length - j = n → j ≤ t.length → acc.length ≤ 1000 + 2 * j →
    Ev (fun k => impl_Pool_openOnce.l0 k t (mk l.length T) acc t (t.length : Int) j l) (if 200 < (setS (acc ++ opens l T (t.drop j))).length then t else setS (acc ++ opens l T (t.drop j)))
  | 0, j, acc, hn, hj, ha => by
    have e : j = t.length := by omega
    subst e
    have e2 : acc ++ opens l T (t.drop t.length) = acc := by rw [List.drop_length]; simp [opens]
    rw [e2]
    refine Ev.step (fun k => by rw [impl_Pool_openOnce.l0]) (ev_if_neg (by omega) ?_)
    refine ev_bind_const (a := sortS acc) (by unfold slices_Sort_int_int.f sortS; rw [if_pos (by omega)]) ?_
    refine ev_bind_const (a := setS acc) (by unfold slices_Compact_int_int.f setS; rfl) ?_
    refine ev_bind_const (a := setS acc) (by unfold slices_Clip_int_int.f; rfl) ?_
    by_cases h3 : 200 < (setS acc).length
    · rw [if_pos h3]
      exact ev_if_pos (by omega) (ev_bind_const (a := t) (by unfold slices_Clone_int_int.f; rw [if_pos (by omega)]) (ev_some _))
    · rw [if_neg h3]
      exact ev_if_neg (by omega) (ev_some _)
  | n + 1, j, acc, hn, hj, ha => by
    have hlt : j < t.length := by omega
    have hp := hin t[j] (List.getElem_mem hlt)
    obtain ⟨i, ei⟩ : ∃ i : Nat, t[j] = i := ⟨t[j].toNat, by omega⟩
    have hi : i < l.length := by omega
    have hl := ok_len hok
    rw [List.drop_eq_getElem_cons hlt, opens_cons, ei]
    refine Ev.step (fun k => by rw [impl_Pool_openOnce.l0]) ?_
    refine ev_if_pos (by omega) (ev_if_pos (by omega) (ev_if_pos (by omega) ?_))
    rw [rd_nat t j hlt, ei, wrap_succ (by omega)]
    refine ev_if_pos (by omega) (ev_if_pos (by omega) ?_)
    rw [rdT l i hi]
    have eo : open1 l T (i : Int) = if (l[i]).f0 = 2 then [(l[i]).f1, (l[i]).f2] else if (l[i]).f0 = 4 then [(l[i]).f1] else if (l[i]).f0 = 3 ∧ T (l[i]).f2.toNat = true then [(l[i]).f1] else [] := by
      unfold open1
      rw [Int.toNat_natCast, getD_at l i hi]
    rw [eo]
    by_cases h2 : (l[i]).f0 = 2
    · rw [if_pos h2]
      have nx := implOnce_loop l hok T t ht hin n (j + 1) (acc ++ [(l[i]).f1, (l[i]).f2]) (by omega) (by omega) (by simp; omega)
      rw [List.append_assoc] at nx
      exact ev_if_pos h2 (ev_bind_const (a := [(l[i]).f1, (l[i]).f2]) rfl (ev_if_pos (by simp; omega) nx))
    · rw [if_neg h2]
      refine ev_if_neg h2 ?_
      by_cases h4 : (l[i]).f0 = 4
      · rw [if_pos h4]
        have nx := implOnce_loop l hok T t ht hin n (j + 1) (acc ++ [(l[i]).f1]) (by omega) (by omega) (by simp; omega)
        rw [List.append_assoc] at nx
        exact ev_if_pos h4 (ev_if_pos (by omega) nx)
      · rw [if_neg h4]
        refine ev_if_neg h4 ?_
        by_cases h3 : (l[i]).f0 = 3
        · have hb := two_at hok hi (.inr (.inl h3))
          obtain ⟨m, em⟩ : ∃ m : Nat, (l[i]).f2 = m := ⟨(l[i]).f2.toNat, by omega⟩
          refine ev_if_pos h3 (ev_if_pos (by omega) (ev_if_pos (by rw [mk_length]; omega) ?_))
          have er : rdOf false (mk l.length T) (l[i]).f2 = T (l[i]).f2.toNat := by rw [em, mk_rd _ _ m (by omega)]; rfl
          rw [er]
          by_cases hT : T (l[i]).f2.toNat = true
          · rw [show (if (l[i]).f0 = 3 ∧ T (l[i]).f2.toNat = true then [(l[i]).f1] else []) = [(l[i]).f1] from if_pos ⟨h3, hT⟩]
            have nx := implOnce_loop l hok T t ht hin n (j + 1) (acc ++ [(l[i]).f1]) (by omega) (by omega) (by simp; omega)
            rw [List.append_assoc] at nx
            exact ev_if_pos hT (ev_if_pos (by omega) nx)
          · rw [show (if (l[i]).f0 = 3 ∧ T (l[i]).f2.toNat = true then [(l[i]).f1] else []) = [] from if_neg (fun h => hT h.2), List.nil_append]
            exact ev_if_neg hT (implOnce_loop l hok T t ht hin n (j + 1) acc (by omega) (by omega) (by omega))
        · rw [show (if (l[i]).f0 = 3 ∧ T (l[i]).f2.toNat = true then [(l[i]).f1] else []) = [] from if_neg (fun h => h3 h.1), List.nil_append]
          exact ev_if_neg h3 (implOnce_loop l hok T t ht hin n (j + 1) acc (by omega) (by omega) (by omega))
theorem implOnce_ev (l : List Nd) (hok : poolOkB l = true) (t : List Int) (hk : knowB l.length t = true) : Ev (fun k => impl_Pool_openOnce.f k l t) (if 200 < (nextS l t).length then t else nextS l t) := by
  have h := (kn_iff _ _).1 hk
  unfold impl_Pool_openOnce.f nextS
  refine ev_bind (makes_ev l hok t (by omega) h.2.2) (ev_bind_const (a := t) (by unfold slices_Clone_int_int.f; rw [if_pos (by omega)]) ?_)
  have := implOnce_loop l hok (tgt l (kn t)) t h.1 h.2.2 t.length 0 t (by omega) (by omega) (by omega)
  rw [List.drop_zero] at this
  exact this
theorem specOnce_loop (l : List Nd) (hok : poolOkB l = true) (T : Nat → Bool) (t : List Int) (ht : t.length ≤ 200) (hin : ∀ z ∈ t, 0 ≤ z ∧ z < (l.length : Int)) : ∀ (n j : Nat) (acc : List Int), t.length - j = n → j ≤ t.length → Str acc → acc.length ≤ 1000 + 2 * j →
    Ev (fun k => spec_l8Once.l0 k t (mk l.length T) acc j l) (setS (acc ++ opens l T (t.drop j)), decide (((setS (acc ++ opens l T (t.drop j))).length : Int) ≤ 200))
  | 0, j, acc, hn, hj, hs, ha => by
    have e : j = t.length := by omega
    subst e
    have e2 : acc ++ opens l T (t.drop t.length) = acc := by rw [List.drop_length]; simp [opens]
    rw [e2, setS_of hs]
    refine Ev.step (fun k => by rw [spec_l8Once.l0]) (ev_if_neg (by omega) (ev_some _))
  | n + 1, j, acc, hn, hj, hs, ha => by
    have hlt : j < t.length := by omega
    have hp := hin t[j] (List.getElem_mem hlt)
    obtain ⟨i, ei⟩ : ∃ i : Nat, t[j] = i := ⟨t[j].toNat, by omega⟩
    have hi : i < l.length := by omega
    have hl := ok_len hok
    rw [List.drop_eq_getElem_cons hlt, opens_cons, ei]
    refine Ev.step (fun k => by rw [spec_l8Once.l0]) ?_
    refine ev_if_pos (by omega) (ev_if_pos (by omega) ?_)
    rw [rd_nat t j hlt, ei, wrap_succ (by omega)]
    refine ev_if_pos (by omega) (ev_if_pos (by omega) ?_)
    rw [rdT l i hi]
    have eo : open1 l T (i : Int) = if (l[i]).f0 = 2 then [(l[i]).f1, (l[i]).f2] else if (l[i]).f0 = 4 then [(l[i]).f1] else if (l[i]).f0 = 3 ∧ T (l[i]).f2.toNat = true then [(l[i]).f1] else [] := by
      unfold open1
      rw [Int.toNat_natCast, getD_at l i hi]
    rw [eo]
    have l1 := putF_any_len acc (l[i]).f1
    have s1 := putF_any_str hs (l[i]).f1
    by_cases h2 : (l[i]).f0 = 2
    · rw [if_pos h2]
      have l2 := putF_any_len (putF acc (l[i]).f1 (decide ((l[i]).f1 ∈ acc))) (l[i]).f2
      have nx := specOnce_loop l hok T t ht hin n (j + 1) _ (by omega) (by omega) (putF_any_str s1 (l[i]).f2) (by omega)
      rw [setS_put, setS_put] at nx
      exact ev_if_pos h2 (ev_bind (spPut_ev acc _ (by omega)) (ev_bind (spPut_ev _ _ (by omega)) nx))
    · rw [if_neg h2]
      refine ev_if_neg h2 ?_
      have nx := specOnce_loop l hok T t ht hin n (j + 1) _ (by omega) (by omega) s1 (by omega)
      rw [setS_put] at nx
      by_cases h4 : (l[i]).f0 = 4
      · rw [if_pos h4]
        exact ev_if_pos h4 (ev_bind (spPut_ev acc _ (by omega)) nx)
      · rw [if_neg h4]
        refine ev_if_neg h4 ?_
        by_cases h3 : (l[i]).f0 = 3
        · have hb := two_at hok hi (.inr (.inl h3))
          obtain ⟨m, em⟩ : ∃ m : Nat, (l[i]).f2 = m := ⟨(l[i]).f2.toNat, by omega⟩
          refine ev_if_pos h3 (ev_if_pos (by omega) (ev_if_pos (by rw [mk_length]; omega) ?_))
          have er : rdOf false (mk l.length T) (l[i]).f2 = T (l[i]).f2.toNat := by rw [em, mk_rd _ _ m (by omega)]; rfl
          rw [er]
          by_cases hT : T (l[i]).f2.toNat = true
          · rw [show (if (l[i]).f0 = 3 ∧ T (l[i]).f2.toNat = true then [(l[i]).f1] else []) = [(l[i]).f1] from if_pos ⟨h3, hT⟩]
            exact ev_if_pos hT (ev_bind (spPut_ev acc _ (by omega)) nx)
          · rw [show (if (l[i]).f0 = 3 ∧ T (l[i]).f2.toNat = true then [(l[i]).f1] else []) = [] from if_neg (fun h => hT h.2), List.nil_append]
            exact ev_if_neg hT (specOnce_loop l hok T t ht hin n (j + 1) acc (by omega) (by omega) hs (by omega))
        · rw [show (if (l[i]).f0 = 3 ∧ T (l[i]).f2.toNat = true then [(l[i]).f1] else []) = [] from if_neg (fun h => h3 h.1), List.nil_append]
          exact ev_if_neg h3 (specOnce_loop l hok T t ht hin n (j + 1) acc (by omega) (by omega) hs (by omega))
theorem specOnce_ev (l : List Nd) (hok : poolOkB l = true) (t : List Int) (hk : knowB l.length t = true) : Ev (fun k => spec_l8Once.f k l t) (nextS l t, decide (((nextS l t).length : Int) ≤ 200)) := by
  have h := (kn_iff _ _).1 hk
  unfold spec_l8Once.f nextS
  refine ev_bind (specAll_ev l hok t (by omega)) (ev_bind_const (a := ([] : List Int)) rfl (ev_if_pos (by simp; omega) ?_))
  have := specOnce_loop l hok (tgt l (kn t)) t h.1 h.2.2 t.length 0 t (by omega) (by omega) h.2.1 (by omega)
  rw [List.drop_zero] at this
  rw [List.nil_append]
  exact this
theorem all_ev (l : List Nd) (hok : poolOkB l = true) : ∀ (n : Nat) (t : List Int), knowB l.length t = true → 200 - t.length ≤ n → ∃ u, knowB l.length u = true ∧ (∀ x : Int, ∃ c, Ev (fun k => impl_Pool_openAll.l0 k t x l) (u, c)) ∧ (∀ x : Int, ∃ c, Ev (fun k => spec_l8All.l0 k t x l) (u, c)) := by
  intro n
  induction n with
  | zero =>
    intro t hk hn
    have h := (kn_iff _ _).1 hk
    have io := implOnce_ev l hok t hk
    have so := specOnce_ev l hok t hk
    have hsub := nodup_sub t (nextS l t) (str_nodup h.2.1) (next_sub l t)
    refine ⟨t, hk, fun x => ⟨x, ?_⟩, fun x => ⟨x, ?_⟩⟩
    · refine Ev.step (fun k => by rw [impl_Pool_openAll.l0]) ?_
      by_cases h2 : 200 < (nextS l t).length
      · rw [if_pos h2] at io
        exact ev_bind io (ev_if_pos rfl (ev_some _))
      · rw [if_neg h2, ← str_same (b := nextS l t) h.2.1 (setS_str _) (next_sub l t) (by omega)] at io
        exact ev_bind io (ev_if_pos rfl (ev_some _))
    · refine Ev.step (fun k => by rw [spec_l8All.l0]) (ev_bind so ?_)
      by_cases h2 : 200 < (nextS l t).length
      · exact ev_if_neg (by simp; omega) (ev_some _)
      · exact ev_if_pos (decide_eq_true (show ((nextS l t).length : Int) ≤ 200 by omega)) (ev_if_pos (by show ((nextS l t).length : Int) = t.length; omega) (ev_some _))
  | succ n ih =>
    intro t hk hn
    have h := (kn_iff _ _).1 hk
    have io := implOnce_ev l hok t hk
    have so := specOnce_ev l hok t hk
    have hsub := nodup_sub t (nextS l t) (str_nodup h.2.1) (next_sub l t)
    by_cases h2 : 200 < (nextS l t).length
    · refine ⟨t, hk, fun x => ⟨x, ?_⟩, fun x => ⟨x, ?_⟩⟩
      · refine Ev.step (fun k => by rw [impl_Pool_openAll.l0]) ?_
        rw [if_pos h2] at io
        exact ev_bind io (ev_if_pos rfl (ev_some _))
      · refine Ev.step (fun k => by rw [spec_l8All.l0]) (ev_bind so ?_)
        exact ev_if_neg (by simp; omega) (ev_some _)
    · rw [if_neg h2] at io
      by_cases he : (nextS l t).length = t.length
      · refine ⟨t, hk, fun x => ⟨x, ?_⟩, fun x => ⟨x, ?_⟩⟩
        · refine Ev.step (fun k => by rw [impl_Pool_openAll.l0]) ?_
          rw [← str_same (b := nextS l t) h.2.1 (setS_str _) (next_sub l t) (by omega)] at io
          exact ev_bind io (ev_if_pos rfl (ev_some _))
        · refine Ev.step (fun k => by rw [spec_l8All.l0]) (ev_bind so ?_)
          exact ev_if_pos (decide_eq_true (show ((nextS l t).length : Int) ≤ 200 by omega)) (ev_if_pos (by show ((nextS l t).length : Int) = t.length; omega) (ev_some _))
      · obtain ⟨u, hu, i1, s1⟩ := ih (nextS l t) (next_know hok hk (by omega)) (by omega)
        refine ⟨u, hu, fun x => ?_, fun x => ?_⟩
        · obtain ⟨c, hc⟩ := i1 (wrap64 (x + 1))
          refine ⟨c, Ev.step (fun k => by rw [impl_Pool_openAll.l0]) (ev_bind io (ev_if_neg (show ¬ (((nextS l t).length : Int) = (t.length : Int)) by omega) hc))⟩
        · obtain ⟨c, hc⟩ := s1 (wrap64 (x + 1))
          refine ⟨c, Ev.step (fun k => by rw [spec_l8All.l0]) (ev_bind so (ev_if_pos (decide_eq_true (show ((nextS l t).length : Int) ≤ 200 by omega)) (ev_if_neg (by show ¬ ((nextS l t).length : Int) = t.length; omega) hc)))⟩
theorem derives_ev (l : List Nd) (t : List Int) (a : Int) (hl : l.length ≤ 1048576) (ht : t.length ≤ 1048576) : ∃ d, Ev (fun k => impl_Derives.f k l t a) d ∧ Ev (fun k => spec_Derives.f k l t a) d := by
  unfold impl_Derives.f spec_Derives.f
  have ok1 := implKnowOk_ev l t (by omega) (by omega)
  have ok2 := specKnowOk_ev l t (by omega) (by omega)
  by_cases h : (poolOkB l && knowB l.length t) = true
  · have h' := h
    rw [Bool.and_eq_true] at h'
    obtain ⟨u, hu, i1, s1⟩ := all_ev l h'.1 (200 - t.length) t h'.2 (Nat.le_refl _)
    obtain ⟨c1, e1⟩ := i1 0
    obtain ⟨c2, e2⟩ := s1 0
    have hul := know_len hu
    have htl := know_len h'.2
    refine ⟨makesB l u a, ?_, ?_⟩
    · refine ev_bind_const (isTerm_eq l a (by omega)) ?_
      unfold makesB
      rw [h'.1, hu, Bool.true_and, Bool.true_and]
      by_cases hh : hasB l.length a = true
      · obtain ⟨m, rfl, hm⟩ := has_nat hh
        rw [hh, Bool.true_and, Int.toNat_natCast]
        refine ev_if_pos rfl (ev_bind ok1 (ev_if_pos h (ev_bind (a := mk l.length (tgt l (kn u))) ?_ (ev_if_pos (by omega) (ev_if_pos (by rw [mk_length]; omega) (ev_some_of (mk_rd _ _ m hm)))))))
        unfold impl_Pool_derives.f impl_Pool_openAll.f
        exact ev_bind e1 (ev_bind (makes_ev l h'.1 u (by omega) (know_in hu)) (ev_some _))
      · rw [Bool.not_eq_true] at hh
        rw [hh, Bool.false_and]
        exact ev_if_neg (by simp) (ev_some _)
    · refine ev_bind ok2 (ev_if_pos h (ev_bind (a := (u, c2)) ?_ (ev_bind (specMakes_ev l u a (by omega) (by omega)) (ev_some _))))
      unfold spec_l8All.f
      refine ev_bind_const (a := ([] : List Int)) rfl (ev_if_pos (by simp; omega) ?_)
      rw [List.nil_append]
      exact e2
  · refine ⟨false, ?_, ?_⟩
    · refine ev_bind_const (isTerm_eq l a (by omega)) ?_
      by_cases hh : hasB l.length a = true
      · exact ev_if_pos hh (ev_bind ok1 (ev_if_neg h (ev_some _)))
      · exact ev_if_neg hh (ev_some _)
    · exact ev_bind ok2 (ev_if_neg h (ev_some _))
end Go.Proofs.Ytdgahpigcaejbaa.Lib
