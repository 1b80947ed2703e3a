/- A drawn term is as great as its parts and one, up to the limit, and as deep as the deepest and one. No conditions. -/
import Derived.Test.YtafahnellnfclaaZLibDrawPool
import Derived.Test.YtafahnellnfclaaZLibSize
import Derived.Test.YtafahnellnfclaaZLibDeep
import Derived.Test.YtafahnellnfclaaZLibBelow
import Derived.Test.YtafahnellnfclaaZLibParts
import Derived.Test.YtafahnellnfclaaZC7
import Derived.Test.YtafahnellnfclaaZC9
import Derived.Test.YtafahnellnfclaaZC12
import Derived.Test.YtafahnellnfclaaZC13
import Derived.Test.YtafahnellnfclaaZC14
set_option linter.unusedVariables false
set_option linter.unusedSimpArgs false
namespace Go.Proofs.Ytafahnellnfclaa.Lib
open Go.RowKit Go.Proofs.Ytafahnellnfclaa.C Go.Proofs.YtafahnellnfclaaW.PrintWords Go.Proofs.YtafahnellnfclaaW.PrintLast

theorem drawSize_loop {b : List Int} : ∀ (n j : Nat) (t : Int) (p : List Nd) (i h : Int), 12 - j = n → p.length ≤ 500 → CurOk b i →
    ∃ q s, Ev (fun k => spec_DrawTermSize.l0 k t j p b i h) (q, s) ∧ q.length ≤ 500
  | n, j, t, p, i, h, hn, hp, hc => by
    obtain ⟨x, i1, h1, e1, hx0, hx1, _, hc1⟩ := below_ok h 3 hc
    have hx := hx1 (by omega)
    by_cases hj : (j : Int) < 10 + x
    · by_cases ht : t ≥ 0
      · match n, hn with
        | 0, hn => omega
        | n + 1, hn =>
          obtain ⟨q, s, e, hq⟩ := drawSize_loop n (j + 1) (addN p (normN ⟨2, t, t⟩)).2 (addN p (normN ⟨2, t, t⟩)).1 i1 h1 (by omega) (addN_500 _ _ hp) hc1
          refine ⟨q, s, Ev.step (f := fun k => (spec_l1Add.f k p 2 t t).bind fun b1 => spec_DrawTermSize.l0 k b1.2 (j + 1 : Nat) b1.1 b i1 h1) (fun k => ?_) (ev_bind (specAdd_ev p ⟨2, t, t⟩ (by omega)) e), hq⟩
          simp only [spec_DrawTermSize.l0, e1, Option.bind_some]
          rw [wrap_id (i := 10 + x) (by omega) (by omega), if_pos hj, if_pos ht, wrap_succ (by omega)]
      · refine ⟨p, _, Ev.step (f := fun k => some (p, wrap64 ((p.length : Int) - 1))) (fun k => ?_) (ev_some _), hp⟩
        simp only [spec_DrawTermSize.l0, e1, Option.bind_some]
        rw [wrap_id (i := 10 + x) (by omega) (by omega), if_pos hj, if_neg ht]
    · refine ⟨p, _, Ev.step (f := fun k => some (p, wrap64 ((p.length : Int) - 1))) (fun k => ?_) (ev_some _), hp⟩
      simp only [spec_DrawTermSize.l0, e1, Option.bind_some]
      rw [wrap_id (i := 10 + x) (by omega) (by omega), if_neg hj]
theorem drawTermSize_ok (b : List Int) (hb : b.length ≤ 9223372036854775806) : ∃ q t, Ev (fun k => spec_DrawTermSize.f k b) (q, t) ∧ q.length ≤ 500 := by
  unfold spec_DrawTermSize.f
  obtain ⟨p, t, e, hp⟩ := drawBoth_ok b hb
  obtain ⟨h, e0⟩ := new_ok b hb
  obtain ⟨c, i1, h1, e1, hc1⟩ := once_ok h 9 (cur_new b hb)
  have hj : ∀ ok : Bool, ∃ q s, Ev (fun k => spec_DrawTermSize.j0 k t ok p b i1 h1) (q, s) ∧ q.length ≤ 500 := by
    intro ok
    cases ok with
    | true =>
      obtain ⟨q, s, e2, hq⟩ := drawSize_loop (b := b) 12 0 (addN p (normN ⟨1, 7, 0⟩)).2 (addN p (normN ⟨1, 7, 0⟩)).1 i1 h1 (by omega) (addN_500 _ _ hp) hc1
      refine ⟨q, s, Ev.step (f := fun k => (spec_l1Add.f k p 1 7 0).bind fun b1 => spec_DrawTermSize.l0 k b1.2 0 b1.1 b i1 h1) (fun k => ?_) (ev_bind (specAdd_ev p ⟨1, 7, 0⟩ (by omega)) (by simpa using e2)), hq⟩
      simp only [spec_DrawTermSize.j0, if_true]
    | false =>
      refine ⟨p, t, Ev.step (f := fun k => some (p, t)) (fun k => ?_) (ev_some _), hp⟩
      simp only [spec_DrawTermSize.j0]
      rw [if_neg (by simp)]
  cases c with
  | true =>
    obtain ⟨q, s, e2, hq⟩ := hj (poolOkB p)
    exact ⟨q, s, ev_bind e (ev_bind e0 (ev_bind_const e1 (ev_if_pos rfl (ev_bind (specPoolOk_ev p (by omega)) e2)))), hq⟩
  | false =>
    obtain ⟨q, s, e2, hq⟩ := hj false
    exact ⟨q, s, ev_bind e (ev_bind e0 (ev_bind_const e1 (ev_if_neg (by simp) e2))), hq⟩
def sumF (D : List Int) (s : Int) (ps : List Int) : Int := ps.foldl (fun s p => s + rd D p) s
theorem sumF_ge (D : List Int) (hD : ∀ p, 0 ≤ rd D p) : ∀ (ps : List Int) (s : Int), s ≤ sumF D s ps
  | [], s => Int.le_refl _
  | p :: ps, s => by
    have := sumF_ge D hD ps (s + rd D p)
    have h := hD p
    show s ≤ sumF D (s + rd D p) ps
    omega
theorem mn_eq (a b : Int) : mn a b = if a ≤ b then a else b := by
  unfold mn
  repeat' split
  all_goals omega
theorem sfold_sum (D : List Int) (hD : ∀ p, 0 ≤ rd D p) : ∀ (ps : List Int) (s : Int), s ≤ 1001 → sfold D s ps = mn (sumF D s ps) 1001
  | [], s, h => by rw [mn_eq, if_pos (show sumF D s [] ≤ 1001 from h)]; rfl
  | p :: ps, s, h => by
    show sfold D (mn (s + rd D p) 1001) ps = mn (sumF D (s + rd D p) ps) 1001
    rw [sfold_sum D hD ps _ (mn_le _ _)]
    by_cases hc : s + rd D p ≤ 1001
    · rw [mn_eq (s + rd D p), if_pos hc]
    · rw [mn_eq (s + rd D p), if_neg hc, mn_eq, mn_eq]
      have h1 := sumF_ge D hD ps 1001
      have h2 := sumF_ge D hD ps (s + rd D p)
      by_cases h3 : sumF D 1001 ps ≤ 1001
      · rw [if_pos h3, if_neg (by omega)]; omega
      · rw [if_neg h3, if_neg (by omega)]
theorem depths_pre (l : List Nd) (m : Nat) (a : Int) (h0 : 0 ≤ a) (ha : a < (m : Int)) : ∀ d, rd (depths l (m + d)) a = rd (depths l m) a
  | 0 => rfl
  | d + 1 => by
    have : depths l (m + (d + 1)) = depths l (m + d) ++ [dfold (depths l (m + d)) 0 (partsB (l.getD (m + d) zN)) + 1] := rfl
    rw [this, rd_app_left _ _ _ h0 (by rw [depths_length]; omega), depths_pre l m a h0 ha d]
theorem part_size {l : List Nd} (hok : poolOkB l = true) {t : Nat} (ht : t < l.length) {p : Int} (h0 : 0 ≤ p) (hp : p < (t : Int)) : sizeOf l p = rd (sizes l t) p ∧ deepOf l p = rd (depths l t) p := by
  have hh : hasB l.length p = true := by unfold hasB; simp; omega
  constructor
  · unfold sizeOf
    rw [if_pos ⟨hok, hh⟩, ← sizes_pre l (p.toNat + 1) p h0 (by omega) (t - (p.toNat + 1)), show p.toNat + 1 + (t - (p.toNat + 1)) = t by omega]
  · unfold deepOf
    rw [if_pos ⟨hok, hh⟩, ← depths_pre l (p.toNat + 1) p h0 (by omega) (t - (p.toNat + 1)), show p.toNat + 1 + (t - (p.toNat + 1)) = t by omega]
theorem term_size {l : List Nd} (hok : poolOkB l = true) {t : Nat} (ht : t < l.length) : sizeOf l t = sfold (sizes l t) 1 (partsB l[t]) ∧ deepOf l t = dfold (depths l t) 0 (partsB l[t]) + 1 := by
  have hh : hasB l.length t = true := by unfold hasB; simp; omega
  constructor
  · unfold sizeOf
    rw [if_pos ⟨hok, hh⟩, Int.toNat_natCast]
    show rd (sizes l t ++ [sfold (sizes l t) 1 (partsB (l.getD t zN))]) t = _
    have := rd_app_mid (sizes l t) [] (sfold (sizes l t) 1 (partsB (l.getD t zN)))
    rw [sizes_length] at this
    rw [this, getD_at l t ht]
  · unfold deepOf
    rw [if_pos ⟨hok, hh⟩, Int.toNat_natCast]
    show rd (depths l t ++ [dfold (depths l t) 0 (partsB (l.getD t zN)) + 1]) t = _
    have := rd_app_mid (depths l t) [] (dfold (depths l t) 0 (partsB (l.getD t zN)) + 1)
    rw [depths_length] at this
    rw [this, getD_at l t ht]
theorem sizes_loop {l : List Nd} (hok : poolOkB l = true) {t : Nat} (ht : t < l.length) (ps : List Int) (hl : ps.length ≤ 2) (hps : ∀ p ∈ ps, 0 ≤ p ∧ p < (t : Int)) (hS : sizeOf l t = mn (sumF (sizes l t) 1 ps) 1001) (hM : deepOf l t = dfold (depths l t) 0 ps + 1) :
    ∀ (n j : Nat) (s m : Int), ps.length - j = n → j ≤ ps.length → 0 ≤ s → s ≤ 1 + 1001 * (j : Int) → 0 ≤ m → m ≤ 500 → sumF (sizes l t) s (ps.drop j) = sumF (sizes l t) 1 ps → dfold (depths l t) m (ps.drop j) = dfold (depths l t) 0 ps →
      Ev (fun k => laws_FnSizes.l0 k t (sizeOf l t) ps s m j l) true
  | 0, j, s, m, hn, hj, hs0, hs1, hm0, hm1, es, em => by
    have hl5 := ok_len hok
    have e : j = ps.length := by omega
    rw [e, List.drop_length] at es em
    have es' : s = sumF (sizes l t) 1 ps := es
    have em' : m = dfold (depths l t) 0 ps := em
    refine Ev.step (f := fun k => if s > 1001 then (if 1001 = sizeOf l t then (impl_TermDeep.f k l t).bind fun d => some (d == wrap64 (m + 1)) else some false) else (if s = sizeOf l t then (impl_TermDeep.f k l t).bind fun d => some (d == wrap64 (m + 1)) else some false)) (fun k => ?_) ?_
    · simp only [laws_FnSizes.l0]
      rw [if_neg (by omega)]
    · have hd := implDeep_ev l t (by omega)
      have hfin : (deepOf l t == wrap64 (m + 1)) = true := by rw [wrap_id (by omega) (by omega), hM, em']; simp
      rw [mn_eq, ← es'] at hS
      by_cases hc : s > 1001
      · refine ev_if_pos hc (ev_if_pos (by rw [hS, if_neg (by omega)]) (ev_bind hd (ev_some_of hfin)))
      · refine ev_if_neg hc (ev_if_pos (by rw [hS, if_pos (by omega)]) (ev_bind hd (ev_some_of hfin)))
  | n + 1, j, s, m, hn, hj, hs0, hs1, hm0, hm1, es, em => by
    have hl5 := ok_len hok
    have hlt : j < ps.length := by omega
    have hp := hps ps[j] (List.getElem_mem hlt)
    rw [List.drop_eq_getElem_cons hlt] at es em
    obtain ⟨e1, e2⟩ := part_size hok ht hp.1 hp.2
    have hb := sizes_rd l t ps[j]
    have hd0 := depths_rd0 l t ps[j]
    have hd1 := depths_rd l t ps[j]
    have ih := sizes_loop hok ht ps hl hps hS hM n (j + 1) (s + rd (sizes l t) ps[j]) (mx m (rd (depths l t) ps[j])) (by omega) (by omega) (by omega) (by omega) (le_mx hm0) (mx_le hm1 (by omega)) es em
    refine Ev.step (f := fun k => (impl_TermSize.f k l ps[j]).bind fun a => (impl_TermDeep.f k l ps[j]).bind fun d => if d > m then (impl_TermDeep.f k l ps[j]).bind fun d' => laws_FnSizes.l0 k t (sizeOf l t) ps (wrap64 (s + a)) d' (j + 1 : Nat) l else laws_FnSizes.l0 k t (sizeOf l t) ps (wrap64 (s + a)) m (j + 1 : Nat) l) (fun k => ?_) ?_
    · simp only [laws_FnSizes.l0]
      rw [if_pos (by omega), if_pos (by omega), rd_nat ps j hlt, wrap_succ (by omega)]
    · have hsz := implSize_ev l ps[j] (by omega)
      have hdp := implDeep_ev l ps[j] (by omega)
      rw [e1] at hsz
      rw [e2] at hdp
      have hw : wrap64 (s + rd (sizes l t) ps[j]) = s + rd (sizes l t) ps[j] := wrap_id (by omega) (by omega)
      refine ev_bind hsz (ev_bind hdp ?_)
      by_cases hg : rd (depths l t) ps[j] > m
      · have hx : mx m (rd (depths l t) ps[j]) = rd (depths l t) ps[j] := by unfold mx; split <;> omega
        rw [hx] at ih
        refine ev_if_pos hg (ev_bind hdp ?_)
        rw [hw]; exact ih
      · have hx : mx m (rd (depths l t) ps[j]) = m := by unfold mx; split <;> omega
        rw [hx] at ih
        refine ev_if_neg hg ?_
        rw [hw]; exact ih
end Go.Proofs.Ytafahnellnfclaa.Lib
namespace Go.Proofs.Ytafahnellnfclaa.Pure
open Go.RowKit Go.Proofs.Ytafahnellnfclaa.C Go.Proofs.Ytafahnellnfclaa.Lib Go.Proofs.YtafahnellnfclaaW.PrintWords Go.Proofs.YtafahnellnfclaaW.PrintLast

theorem FnSizes : laws_FnSizes.Pure := by
  intro b hm hb8 _
  refine ev_rounds ?_
  unfold laws_FnSizes.f laws_big.f
  have hb : b.length ≤ 9223372036854775806 := by omega
  refine ev_bind (ev_some (decide ((b.length : Int) > 1048576))) ?_
  by_cases hbig : (b.length : Int) > 1048576
  · exact ev_if_pos (by simpa using hbig) (ev_some _)
  · refine ev_if_neg (by simpa using hbig) ?_
    obtain ⟨l, t, e, hl⟩ := drawTermSize_ok b hb
    have hsz := implSize_ev l t (by omega)
    refine ev_bind e (ev_bind hsz (ev_bind (specSize_ev l t (by omega)) (ev_if_pos rfl ?_)))
    by_cases hok : poolOkB l = true ∧ hasB l.length t = true
    · have hh := hok.2
      unfold hasB at hh
      simp only [decide_eq_true_eq] at hh
      obtain ⟨n, rfl⟩ : ∃ n : Nat, t = n := ⟨t.toNat, by omega⟩
      have hn : n < l.length := by omega
      obtain ⟨h1, h2⟩ := term_size hok.1 hn
      have hbd := sfold_bound (sizes l n) (fun p => (sizes_rd l n p).1) (partsB l[n]) 1 (by omega) (by omega)
      refine ev_if_neg (by rw [h1]; omega) ?_
      have hpo := implPartsOfL_ev l n (by omega)
      have hpe : partsOfL l n = partsB l[n] := by unfold partsOfL; rw [if_pos hok, Int.toNat_natCast, getD_at l n hn]
      rw [hpe] at hpo
      refine ev_bind hpo ?_
      have := sizes_loop hok.1 hn (partsB l[n]) (parts_len _) (parts_in (ok_at hok.1 n hn).2) (by rw [h1, sfold_sum _ (fun p => (sizes_rd l n p).1) _ _ (by omega)]) h2 _ 0 1 0 rfl (by omega) (by omega) (by omega) (by omega) (by omega) rfl rfl
      simpa using this
    · have h0 : Lib.sizeOf l t = 0 := by unfold Lib.sizeOf; rw [if_neg hok]
      have h1 : deepOf l t = 0 := by unfold deepOf; rw [if_neg hok]
      have h2 : belowOf l t = [] := by unfold belowOf; rw [if_neg hok]
      have hd := implDeep_ev l t (by omega)
      have hbl := implBelow_ev l t (by omega)
      rw [h1] at hd
      rw [h2] at hbl
      exact ev_if_pos h0 (ev_bind hd (ev_if_pos rfl (ev_bind hbl (ev_some_of (by simp)))))

end Go.Proofs.Ytafahnellnfclaa.Pure
