/- TermMove, the reference's and the program's: both carry. No conditions but right pools. -/
import Derived.Test.YtobkledmbnacjaaZNLibSwap
import Derived.Test.YtobkledmbnacjaaZNMg0
import Derived.Test.YtobkledmbnacjaaZNMg1
import Derived.Test.YtobkledmbnacjaaZNMg3
set_option linter.unusedVariables false
set_option linter.unusedSimpArgs false
namespace Go.Proofs.Ytobkledmbnacjaa.Lib
open Go.RowKit Go.Proofs.Ytobkledmbnacjaa.M Go.Proofs.YtobkledmbnacjaaW.PrintWords Go.Proofs.YtobkledmbnacjaaW.PrintLast Go.Proofs.YtobkledmbnacjaaW.PrintMore

theorem implMove_loop {p : List Nd} (hp : poolOkB p = true) {t : Nat} (ht : t < p.length) {q0 : List Nd} (h0 : poolOkB q0 = true) (zs : List Int) (hz : zs.length ≤ 1000) : ∀ (d i j : Nat) (q : List Nd) (f : Nat → Int) (xs : List Int), i + d = t + 1 → zs.drop j = fromI (ins p t) i d → poolOkB q = true → xs.length = t + 1 →
    (∀ y : Nat, y < i → ins p t y = true → rd xs (y : Int) = f y) →
    Ev (fun k => impl_TermMove.l0 k t xs zs (zs.length : Int) j p q0 q) (carried q0 t (carry p (ins p t) (-1) 0 d i q f))
  | 0, i, j, q, f, xs, hi, hd, hq, hx, hf => by
    have hl := ok_len hp
    have hjl : zs.length ≤ j := by
      have : (zs.drop j).length = 0 := by rw [hd]; rfl
      rw [List.length_drop] at this; omega
    refine Ev.step (fun k => by rw [impl_TermMove.l0]) (ev_if_neg (by omega) (ev_if_pos (by omega) (ev_if_pos (by omega) (ev_some_of ?_))))
    show (q, rd xs (t : Int)) = (q, f t)
    rw [hf t (by omega) (ins_self hp ht)]
  | d + 1, i, j, q, f, xs, hi, hd, hq, hx, hf => by
    have hl := ok_len hp
    have hl0 := ok_len h0
    rw [fromI_succ] at hd
    unfold carry
    by_cases hI : ins p t i = true
    · rw [if_pos hI] at hd ⊢
      have hjl : j < zs.length := by
        have : (zs.drop j).length ≠ 0 := by rw [hd]; simp
        rw [List.length_drop] at this; omega
      rw [List.drop_eq_getElem_cons hjl] at hd
      injection hd with hd1 hd2
      have hip : i < p.length := by omega
      refine Ev.step (fun k => by rw [impl_TermMove.l0]) (ev_if_pos (by omega) (ev_if_pos (by omega) (ev_if_pos (by omega) ?_)))
      rw [rd_nat zs j hjl, hd1, wrap_succ (by omega), Int.toNat_natCast]
      refine ev_if_pos (by omega) (ev_if_pos (by omega) ?_)
      have keep : ∀ v : Int, ∀ y : Nat, y < i + 1 → ins p t y = true → rd (xs.set i v) (y : Int) = upd f i v y := by
        intro v y hy1 hy2
        by_cases e : y = i
        · subst e
          rw [upd_at, rd_set xs y v (by omega)]
        · rw [upd_far e, rd_setne xs i y v (by omega) e]
          exact hf y (by omega) hy2
      rw [if_neg (show ¬ (i : Int) = -1 by omega), getD_at p i hip]
      rw [rdT p i hip]
      have hbp := parts_in (ok_at hp i hip).2
      refine ev_bind (implRebuilt_ev hq (ok_at hp i hip).2 xs (by omega) (by omega) f (fun y hy => by
        have := hbp y hy
        have h := hf y.toNat (by omega) (ins_part hp ht hI hip hy)
        rwa [show ((y.toNat : Nat) : Int) = y by omega] at h)) ?_
      refine ev_if_pos (by omega) (ev_bind_const (a := xs.set i (addN q (normN (reN f p[i]))).2) rfl ?_)
      rw [rd_set _ i _ (by omega)]
      by_cases hv : (addN q (normN (reN f p[i]))).2 < 0
      · rw [if_pos hv]
        exact ev_if_pos hv (ev_bind_const (implCopy_eq q0 (by omega)) (ev_some _))
      · rw [if_neg hv]
        refine ev_if_neg hv ?_
        exact implMove_loop hp ht h0 zs hz d (i + 1) (j + 1) _ _ _ (by omega) hd2 (add_ok hq _) (by rw [List.length_set]; exact hx) (keep _)
    · rw [if_neg hI] at hd ⊢
      exact implMove_loop hp ht h0 zs hz d (i + 1) j q f xs (by omega) hd hq hx (fun y hy hy2 => by
        by_cases e : y = i
        · subst e; exact absurd hy2 hI
        · exact hf y (by omega) hy2)
def fits (t : Nat) (r : List Nd × Int) (o : Option (List Nd × (Nat → Int))) : Prop := match o with
  | none => r.2 = -1
  | some R => r = (R.1, R.2 t)
theorem specCarry_loop {p : List Nd} (hp : poolOkB p = true) {t : Nat} (ht : t < p.length) : ∀ (d i : Nat) (q : List Nd) (f : Nat → Int) (xs : List Int), i + d = t + 1 → poolOkB q = true → xs.length = p.length →
    (∀ y : Nat, y < i → ins p t y = true → rd xs (y : Int) = f y) →
    ∃ r, Ev (fun k => spec_l5Carry.l0 k t (mk p.length (ins p t)) xs i p q) r ∧ fits t r (carry p (ins p t) (-1) 0 d i q f)
  | 0, i, q, f, xs, hi, hq, hx, hf => by
    have hl := ok_len hp
    refine ⟨(q, f t), Ev.step (fun k => by rw [spec_l5Carry.l0]) (ev_if_neg (by omega) (ev_if_pos (by omega) (ev_if_pos (by omega) (ev_some_of ?_)))), rfl⟩
    show (q, rd xs (t : Int)) = (q, f t)
    rw [hf t (by omega) (ins_self hp ht)]
  | d + 1, i, q, f, xs, hi, hq, hx, hf => by
    have hl := ok_len hp
    have hl2 := ok_len hq
    have hip : i < p.length := by omega
    have keep : ∀ v : Int, ∀ y : Nat, y < i + 1 → ins p t y = true → rd (xs.set i v) (y : Int) = upd f i v y := by
      intro v y hy1 hy2
      by_cases e : y = i
      · subst e
        rw [upd_at, rd_set xs y v (by omega)]
      · rw [upd_far e, rd_setne xs i y v (by omega) e]
        exact hf y (by omega) hy2
    unfold carry
    by_cases hI : ins p t i = true
    · rw [if_pos hI, if_neg (show ¬ (i : Int) = -1 by omega), getD_at p i hip]
      have hbp := parts_in (ok_at hp i hip).2
      have hfp : ∀ y ∈ partsB p[i], rd xs y = f y.toNat := fun y hy => by
        have := hbp y hy
        have h := hf y.toNat (by omega) (ins_part hp ht hI hip hy)
        rwa [show ((y.toNat : Nat) : Int) = y by omega] at h
      have fin : ∀ (A B : Int), normN (⟨(p[i]).f0, A, B⟩ : Nd) = normN (reN f p[i]) →
          ∃ r, Ev (fun k => (spec_l1Add.f k q (p[i]).f0 A B).bind fun bt => (if bt.2 < 0 then (some (q, (-1))) else (if 0 ≤ (i : Int) then (if (i : Int) < (xs.length : Int) then (spec_l5Carry.l0 k t (mk p.length (ins p t)) (xs.set ((i : Int) : Int).toNat bt.2) (wrap64 ((i : Int) + 1)) p bt.1) else (none)) else (none)))) r ∧
            fits t r (if (addN q (normN (reN f p[i]))).2 < 0 then none else carry p (ins p t) (-1) 0 d (i + 1) (addN q (normN (reN f p[i]))).1 (upd f i (addN q (normN (reN f p[i]))).2)) := by
        intro A B hB
        have hadd := specAdd_ev q ⟨(p[i]).f0, A, B⟩ (by omega)
        rw [hB] at hadd
        by_cases hv : (addN q (normN (reN f p[i]))).2 < 0
        · rw [if_pos hv]
          exact ⟨(q, -1), ev_bind hadd (ev_if_pos hv (ev_some _)), rfl⟩
        · rw [if_neg hv]
          obtain ⟨r, h1, h2⟩ := specCarry_loop hp ht d (i + 1) (addN q (normN (reN f p[i]))).1 (upd f i (addN q (normN (reN f p[i]))).2) (xs.set i (addN q (normN (reN f p[i]))).2) (by omega) (add_ok hq _) (by rw [List.length_set]; exact hx) (keep _)
          refine ⟨r, ev_bind hadd (ev_if_neg hv (ev_if_pos (by omega) (ev_if_pos (by omega) ?_))), h2⟩
          rw [wrap_succ (by omega), Int.toNat_natCast]
          exact h1
      have go : ∀ r, Ev (fun k => (spec_l1Parts.f k (p[i]).f0).bind fun t212 => (if t212 > 0 then (if 0 ≤ (p[i]).f1 then (if (p[i]).f1 < (xs.length : Int) then (spec_l5Carry.j1 k t (mk p.length (ins p t)) xs i t212 p q (p[i]).f0 (rd xs (p[i]).f1) (p[i]).f2) else (none)) else (none)) else (spec_l5Carry.j1 k t (mk p.length (ins p t)) xs i t212 p q (p[i]).f0 (p[i]).f1 (p[i]).f2))) r →
          Ev (fun k => spec_l5Carry.l0 k t (mk p.length (ins p t)) xs i p q) r := fun r h => by
        refine Ev.step (fun k => by rw [spec_l5Carry.l0]) (ev_if_pos (by omega) (ev_if_pos (by omega) (ev_if_pos (by rw [mk_length]; omega) ?_)))
        rw [mk_rd _ _ i hip]
        refine ev_if_pos hI (ev_if_pos (by omega) ?_)
        rw [rdT p i hip]
        exact h
      rcases right_cases (ok_at hp i hip).2 with ⟨h0, hz⟩ | ⟨h1, hz⟩ | ⟨h2, _⟩
      · obtain ⟨r, g1, g2⟩ := fin (p[i]).f1 (p[i]).f2 (by rw [hz]; unfold reN; rw [if_neg (by omega), if_neg (by omega)])
        refine ⟨r, go r (ev_bind (specParts_ev _) (ev_if_neg (by omega) (Ev.step (fun k => by rw [spec_l5Carry.j1]) (ev_if_neg (by omega) g1)))), g2⟩
      · have hpp : partsB p[i] = [(p[i]).f1] := by unfold partsB; rw [if_pos h1]
        rw [hpp] at hfp hbp
        have hb1 := hbp (p[i]).f1 (by simp)
        obtain ⟨r, g1, g2⟩ := fin (rd xs (p[i]).f1) (p[i]).f2 (by
          rw [hfp _ (by simp), hz]
          congr 1
          unfold reN
          rw [if_pos h1])
        refine ⟨r, go r (ev_bind (specParts_ev _) (ev_if_pos (by omega) (ev_if_pos hb1.1 (ev_if_pos (by omega) (Ev.step (fun k => by rw [spec_l5Carry.j1]) (ev_if_neg (by omega) g1)))))), g2⟩
      · have hpp : partsB p[i] = [(p[i]).f1, (p[i]).f2] := by unfold partsB; rw [if_neg (by omega), if_pos h2]
        rw [hpp] at hfp hbp
        have hb1 := hbp (p[i]).f1 (by simp)
        have hb2 := hbp (p[i]).f2 (by simp)
        obtain ⟨r, g1, g2⟩ := fin (rd xs (p[i]).f1) (rd xs (p[i]).f2) (by
          rw [hfp _ (by simp), hfp _ (by simp)]
          congr 1
          unfold reN
          rw [if_neg (by omega), if_pos h2])
        refine ⟨r, go r (ev_bind (specParts_ev _) (ev_if_pos (by omega) (ev_if_pos hb1.1 (ev_if_pos (by omega) (Ev.step (fun k => by rw [spec_l5Carry.j1]) (ev_if_pos (by omega) (ev_if_pos hb2.1 (ev_if_pos (by omega) g1)))))))), g2⟩
    · rw [if_neg hI]
      obtain ⟨r, g1, g2⟩ := specCarry_loop hp ht d (i + 1) q f xs (by omega) hq hx (fun y hy hy2 => by
        by_cases e : y = i
        · subst e; exact absurd hy2 hI
        · exact hf y (by omega) hy2)
      refine ⟨r, Ev.step (fun k => by rw [spec_l5Carry.l0]) (ev_if_pos (by omega) (ev_if_pos (by omega) (ev_if_pos (by rw [mk_length]; omega) ?_))), g2⟩
      rw [mk_rd _ _ i hip, wrap_succ (by omega)]
      exact ev_if_neg hI g1
def moveL (p : List Nd) (t : Int) (q : List Nd) : List Nd × Int :=
  if poolOkB q = true then (if hasB p.length t = true ∧ poolOkB p = true then carried q t.toNat (carry p (ins p t.toNat) (-1) 0 (t.toNat + 1) 0 q (fun _ => 0)) else (q, -1)) else ([], -1)
theorem carry_from {p : List Nd} (hp : poolOkB p = true) {t : Nat} (ht : t < p.length) {q Q : List Nd} {F : Nat → Int} (hq : poolOkB q = true) (h : carry p (ins p t) (-1) 0 (t + 1) 0 q (fun _ => 0) = some (Q, F)) :
    poolOkB Q = true ∧ q <+: Q ∧ Good p (ins p t) (-1) 0 (t + 1) Q F ∧ 0 ≤ F t := by
  obtain ⟨h1, h2, h3⟩ := carry_good hp (ins p t) (-1) 0 (t + 1) 0 q (fun _ => 0) (by omega) hq (fun j hj => by omega) Q F h
  rw [Nat.zero_add] at h3
  refine ⟨h1, h2, h3, ?_⟩
  have := h3 t (by omega) (ins_self hp ht)
  rw [if_neg (by omega)] at this
  obtain ⟨m, _, e, _⟩ := this
  omega
theorem implMove_ev (p : List Nd) (t : Int) (q : List Nd) (hl : p.length ≤ 1048576) (hlq : q.length ≤ 1048576) : Ev (fun k => impl_TermMove.f k p t q) (moveL p t q) := by
  unfold impl_TermMove.f moveL
  refine ev_bind (implPoolOk_ev q) ?_
  by_cases hq : poolOkB q = true
  · rw [if_pos hq]
    have hl5q := ok_len hq
    have no : Ev (fun k => impl_TermMove.j0 k t true p q) (q, -1) := Ev.step (fun k => by rw [impl_TermMove.j0]) (ev_if_pos rfl (ev_bind_const (implCopy_eq q (by omega)) (ev_some _)))
    refine ev_if_pos hq (ev_bind_const (isTerm_eq p t (by omega)) ?_)
    by_cases h1 : hasB p.length t = true
    · refine ev_if_pos h1 (ev_bind (implPoolOk_ev p) ?_)
      by_cases hp : poolOkB p = true
      · rw [if_pos ⟨h1, hp⟩, hp]
        have hl5 := ok_len hp
        have ht0 := h1
        unfold hasB at ht0
        simp only [decide_eq_true_eq] at ht0
        obtain ⟨n, rfl⟩ : ∃ n : Nat, t = n := ⟨t.toNat, by omega⟩
        have hn : n < p.length := by omega
        have hw : wrap64 ((n : Int) + 1) = ((n + 1 : Nat) : Int) := by rw [wrap_id (by omega) (by omega)]; omega
        refine Ev.step (fun k => by rw [impl_TermMove.j0]) (ev_if_neg (by simp) (ev_bind_const (implCopy_eq q (by omega)) ?_))
        rw [hw, Int.toNat_natCast, Int.toNat_natCast]
        refine ev_if_pos (by omega) (ev_if_pos (by omega) ?_)
        have hbl : (belowL p n).length ≤ 500 := by
          unfold belowL
          rw [List.length_map]
          exact Nat.le_trans (List.length_filter_le _ _) (by rw [List.length_range]; exact hl5)
        refine ev_bind (implPoolBelow_ev p hp n hn) ?_
        exact implMove_loop hp hn hq (belowL p n) (by omega) (n + 1) 0 0 q (fun _ => 0) (List.replicate (n + 1) 0) (by omega) (by rw [List.drop_zero, fromI_below hp hn]) hq (by simp) (fun y hy => by omega)
      · rw [if_neg (fun h => hp h.2)]
        rw [Bool.not_eq_true] at hp
        rw [hp]
        exact no
    · rw [if_neg (fun h => h1 h.1)]
      exact ev_if_neg h1 no
  · rw [if_neg hq]
    exact ev_if_neg hq (ev_some _)
theorem specMove_ev (p : List Nd) (t : Int) (q : List Nd) (hl : p.length ≤ 1048576) (hlq : q.length ≤ 1048576) : Ev (fun k => spec_TermMove.f k p t q) (moveL p t q) := by
  unfold spec_TermMove.f moveL
  refine ev_bind (specPoolOk_ev q (by omega)) ?_
  by_cases hq : poolOkB q = true
  · rw [if_pos hq]
    have hl5q := ok_len hq
    have no : Ev (fun k => spec_TermMove.j0 k t true p q) (q, -1) := Ev.step (fun k => by rw [spec_TermMove.j0]) (ev_if_pos rfl (ev_bind_const (specCopy_eq q (by omega)) (ev_some _)))
    refine ev_if_pos hq (ev_bind (specPoolOk_ev p (by omega)) ?_)
    by_cases hp : poolOkB p = true
    · refine ev_if_pos hp (ev_bind_const (specHas_eq p t (by omega)) ?_)
      by_cases h1 : hasB p.length t = true
      · rw [if_pos ⟨h1, hp⟩, h1]
        have hl5 := ok_len hp
        have ht0 := h1
        unfold hasB at ht0
        simp only [decide_eq_true_eq] at ht0
        obtain ⟨n, rfl⟩ : ∃ n : Nat, t = n := ⟨t.toNat, by omega⟩
        have hn : n < p.length := by omega
        obtain ⟨r, g1, g2⟩ := specCarry_loop hp hn (n + 1) 0 q (fun _ => 0) (List.replicate p.length 0) (by omega) hq (by simp) (fun y hy => by omega)
        have hcar : Ev (fun k => spec_l5Carry.f k p n q) r := by
          unfold spec_l5Carry.f
          refine ev_bind (specInside_ev p hp n hn) (ev_if_pos (by omega) (ev_if_pos (by omega) ?_))
          rw [Int.toNat_natCast]
          exact g1
        refine Ev.step (fun k => by rw [spec_TermMove.j0]) (ev_if_neg (by simp) (ev_bind hcar ?_))
        rw [Int.toNat_natCast]
        cases hc : carry p (ins p n) (-1) 0 (n + 1) 0 q (fun _ => 0) with
        | none =>
          rw [hc] at g2
          have g3 : r.2 = -1 := g2
          exact ev_if_pos (by omega) (ev_bind_const (specCopy_eq q (by omega)) (ev_some _))
        | some R =>
          obtain ⟨Q, F⟩ := R
          rw [hc] at g2
          have g3 : r = (Q, F n) := g2
          subst g3
          obtain ⟨c1, _, _, c4⟩ := carry_from hp hn hq hc
          have c5 := ok_len c1
          refine ev_if_neg (by show ¬ F n < 0; omega) (ev_bind_const (specCopy_eq Q (by omega)) (ev_some _))
      · rw [if_neg (fun h => h1 h.1)]
        rw [Bool.not_eq_true] at h1
        rw [h1]
        exact no
    · rw [if_neg (fun h => hp h.2)]
      exact ev_if_neg hp no
  · rw [if_neg hq]
    exact ev_if_neg hq (ev_some _)
end Go.Proofs.Ytobkledmbnacjaa.Lib
