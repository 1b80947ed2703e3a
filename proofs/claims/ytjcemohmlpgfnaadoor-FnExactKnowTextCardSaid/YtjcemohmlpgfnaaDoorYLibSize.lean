/- How great a term is: both reckon it one way. No conditions but lengths. -/
import Derived.Test.YtjcemohmlpgfnaaDoorYLibDeepA
import Derived.Test.YtjcemohmlpgfnaaDoorYKg1
import Derived.Test.YtjcemohmlpgfnaaDoorYKg2
import Derived.Test.YtjcemohmlpgfnaaDoorYKg3
set_option linter.unusedVariables false
set_option linter.unusedSimpArgs false
namespace Go.Proofs.YtjcemohmlpgfnaaDoor.Lib
open Go.RowKit Go.Proofs.YtjcemohmlpgfnaaDoor.K Go.Proofs.YtjcemohmlpgfnaaDoorW.PrintWords Go.Proofs.YtjcemohmlpgfnaaDoorW.PrintLast

theorem minS_eq (a b : Int) : spec_l1Min.f a b = some (mn a b) := by
  unfold spec_l1Min.f mn
  repeat' split
  all_goals first | rfl | (congr 1; omega)
theorem mn_le (a b : Int) : mn a b ≤ b := by
  unfold mn
  split <;> omega
theorem le_mn {a b c : Int} (h1 : c ≤ a) (h2 : c ≤ b) : c ≤ mn a b := by
  unfold mn
  split <;> omega
def sfold (D : List Int) (s : Int) (ps : List Int) : Int := ps.foldl (fun s p => mn (s + rd D p) 1001) s
theorem sfold_bound (D : List Int) (hD : ∀ p, 0 ≤ rd D p) : ∀ (ps : List Int) (s : Int), 1 ≤ s → s ≤ 1001 → 1 ≤ sfold D s ps ∧ sfold D s ps ≤ 1001
  | [], s, h1, h2 => ⟨h1, h2⟩
  | p :: ps, s, h1, h2 => sfold_bound D hD ps (mn (s + rd D p) 1001) (le_mn (by have := hD p; omega) (by omega)) (mn_le _ _)
def sizes (l : List Nd) : Nat → List Int
  | 0 => []
  | n + 1 => sizes l n ++ [sfold (sizes l n) 1 (partsB (l.getD n zN))]
theorem sizes_length (l : List Nd) : ∀ n, (sizes l n).length = n
  | 0 => rfl
  | n + 1 => by simp [sizes, sizes_length l n]
theorem sizes_bound (l : List Nd) : ∀ n, ∀ x ∈ sizes l n, 1 ≤ x ∧ x ≤ 1001
  | 0, x, h => by simp [sizes] at h
  | n + 1, x, h => by
    simp only [sizes, List.mem_append, List.mem_singleton] at h
    rcases h with h | h
    · exact sizes_bound l n x h
    · have hb : ∀ p, 0 ≤ rd (sizes l n) p := fun p => by
        rcases rd_mem (sizes l n) p with e | e
        · omega
        · have := (sizes_bound l n _ e).1; omega
      rw [h]
      exact sfold_bound (sizes l n) hb _ 1 (by omega) (by omega)
theorem sizes_rd (l : List Nd) (n : Nat) (p : Int) : 0 ≤ rd (sizes l n) p ∧ rd (sizes l n) p ≤ 1001 := by
  rcases rd_mem (sizes l n) p with e | e
  · omega
  · have := sizes_bound l n _ e; omega
theorem sizes_pre (l : List Nd) (m : Nat) (a : Int) (h0 : 0 ≤ a) (ha : a < (m : Int)) : ∀ d, rd (sizes l (m + d)) a = rd (sizes l m) a
  | 0 => rfl
  | d + 1 => by
    have : sizes l (m + (d + 1)) = sizes l (m + d) ++ [sfold (sizes l (m + d)) 1 (partsB (l.getD (m + d) zN))] := rfl
    rw [this, rd_app_left _ _ _ h0 (by rw [sizes_length]; omega), sizes_pre l m a h0 ha d]
-- the reference
theorem specSize_in (l : List Nd) (D : List Int) (i : Nat) (hD : D.length < 17592186044416) (hB : ∀ p, 0 ≤ rd D p ∧ rd D p ≤ 1001) (ps : List Int) (hl : ps.length ≤ 2)
    (hps : ∀ p ∈ ps, 0 ≤ p ∧ p < (D.length : Int)) (hi : i < 1000000) {r : List Int} (hk : Ev (fun k => spec_l1Sizes.l0 k (D ++ [sfold D 1 ps]) (i + 1 : Nat) l) r) :
    ∀ (n j : Nat) (s : Int), ps.length - j = n → j ≤ ps.length → 1 ≤ s → s ≤ 1001 → sfold D s (ps.drop j) = sfold D 1 ps → Ev (fun k => spec_l1Sizes.l1 k D i s ps j l) r
  | 0, j, s, hn, hj, h1, h2, he => by
    have e : j = ps.length := by omega
    rw [e, List.drop_length] at he
    have he' : s = sfold D 1 ps := he
    refine Ev.step (f := fun k => spec_l1Sizes.l0 k (D ++ [sfold D 1 ps]) (i + 1 : Nat) l) (fun k => ?_) hk
    simp only [spec_l1Sizes.l1]
    rw [if_neg (by omega), if_pos hD, wrap_succ (by omega), he']
  | n + 1, j, s, hn, hj, h1, h2, he => by
    have hlt : j < ps.length := by omega
    have hp := hps ps[j] (List.getElem_mem hlt)
    have hb := hB ps[j]
    rw [List.drop_eq_getElem_cons hlt] at he
    have ih := specSize_in l D i hD hB ps hl hps hi hk n (j + 1) (mn (s + rd D ps[j]) 1001) (by omega) (by omega) (le_mn (by omega) (by omega)) (mn_le _ _) he
    refine Ev.step (f := fun k => spec_l1Sizes.l1 k D i (mn (s + rd D ps[j]) 1001) ps (j + 1 : Nat) l) (fun k => ?_) ih
    simp only [spec_l1Sizes.l1]
    rw [if_pos (by omega), if_pos (by omega), rd_nat ps j hlt, if_pos hp.1, if_pos hp.2, minS_eq, wrap_succ (by omega), wrap_id (i := s + rd D ps[j]) (by omega) (by omega)]
    rfl
theorem specSizes_loop (l : List Nd) (hok : poolOkB l = true) : ∀ (n i : Nat), l.length - i = n → i ≤ l.length → Ev (fun k => spec_l1Sizes.l0 k (sizes l i) i l) (sizes l l.length)
  | 0, i, hn, hi => by
    have e : i = l.length := by omega
    refine Ev.step (f := fun k => some (sizes l l.length)) (fun k => ?_) (ev_some _)
    simp only [spec_l1Sizes.l0]
    rw [if_neg (by omega), e]
  | n + 1, i, hn, hi => by
    have hl := ok_len hok
    have hlt : i < l.length := by omega
    have ih := specSizes_loop l hok n (i + 1) (by omega) (by omega)
    refine Ev.step (f := fun k => (spec_l1PartsOf.f k l i).bind fun t => spec_l1Sizes.l1 k (sizes l i) i 1 t 0 l) (fun k => ?_) ?_
    · simp only [spec_l1Sizes.l0]
      rw [if_pos (by omega)]
    · refine ev_bind (specPartsOf_ev l i hlt) ?_
      have hp := parts_in (ok_at hok i hlt).2
      simp only [sizes] at ih
      rw [getD_at l i hlt] at ih
      exact specSize_in l (sizes l i) i (by rw [sizes_length]; omega) (sizes_rd l i) (partsB l[i]) (parts_len _) (by rw [sizes_length]; exact hp) (by omega) ih _ 0 1 rfl (by omega) (by omega) (by omega) rfl
theorem specSizes_ev (l : List Nd) (hok : poolOkB l = true) : Ev (fun k => spec_l1Sizes.f k l) (sizes l l.length) := by
  unfold spec_l1Sizes.f
  simpa [sizes] using specSizes_loop l hok l.length 0 (by omega) (by omega)
def sizeOf (l : List Nd) (a : Int) : Int := if poolOkB l = true ∧ hasB l.length a = true then rd (sizes l (a.toNat + 1)) a else 0
theorem specSize_ev (l : List Nd) (a : Int) (hl : l.length ≤ 9223372036854775806) : Ev (fun k => spec_TermSize.f k l a) (sizeOf l a) := by
  unfold spec_TermSize.f sizeOf
  refine ev_bind (specPoolOk_ev l hl) ?_
  by_cases hok : poolOkB l = true
  · refine ev_if_pos hok (ev_bind_const (specHas_eq l a (by omega)) ?_)
    by_cases hh : hasB l.length a = true
    · rw [if_pos ⟨hok, hh⟩]
      refine ev_if_pos hh (ev_bind (specSizes_ev l hok) ?_)
      unfold hasB at hh
      simp only [decide_eq_true_eq] at hh
      refine ev_if_pos hh.1 (ev_if_pos (by rw [sizes_length]; exact hh.2) (ev_some_of ?_))
      have := sizes_pre l (a.toNat + 1) a hh.1 (by omega) (l.length - (a.toNat + 1))
      rw [← this, show a.toNat + 1 + (l.length - (a.toNat + 1)) = l.length by omega]
    · rw [if_neg (fun h => hh h.2)]
      exact ev_if_neg hh (ev_some _)
  · rw [if_neg (fun h => hok h.1)]
    exact ev_if_neg hok (ev_some _)
theorem implSize_in (l : List Nd) (a n : Int) (D R : List Int) (i : Nat) (hDi : D.length = i) (hB : ∀ p, 0 ≤ rd D p ∧ rd D p ≤ 1001) (ps : List Int) (hl : ps.length ≤ 2)
    (hps : ∀ p ∈ ps, 0 ≤ p ∧ p < (D.length : Int)) (hi : i < 1000000) {r : Int} (hk : Ev (fun k => impl_Pool_size.l0 k a (D ++ (sfold D 1 ps) :: R) n (i + 1 : Nat) l) r) :
    ∀ (m j : Nat) (s : Int), ps.length - j = m → j ≤ ps.length → 1 ≤ s → s ≤ 1001 → sfold D s (ps.drop j) = sfold D 1 ps → Ev (fun k => impl_Pool_size.l1 k a (D ++ s :: R) i n i ps (ps.length : Int) j l) r
  | 0, j, s, hn, hj, h1, h2, he => by
    have e : j = ps.length := by omega
    rw [e, List.drop_length] at he
    have he' : s = sfold D 1 ps := he
    refine Ev.step (f := fun k => impl_Pool_size.l0 k a (D ++ (sfold D 1 ps) :: R) n (i + 1 : Nat) l) (fun k => ?_) hk
    simp only [impl_Pool_size.l1]
    rw [if_neg (by omega), wrap_succ (by omega), he']
  | m + 1, j, s, hn, hj, h1, h2, he => by
    have hlt : j < ps.length := by omega
    have hp := hps ps[j] (List.getElem_mem hlt)
    have hb := hB ps[j]
    rw [List.drop_eq_getElem_cons hlt] at he
    have ih := implSize_in l a n D R i hDi hB ps hl hps hi hk m (j + 1) (mn (s + rd D ps[j]) 1001) (by omega) (by omega) (le_mn (by omega) (by omega)) (mn_le _ _) he
    refine Ev.step (f := fun k => impl_Pool_size.l1 k a (D ++ (mn (s + rd D ps[j]) 1001) :: R) i n i ps (ps.length : Int) (j + 1 : Nat) l) (fun k => ?_) ih
    have hlen : (D ++ s :: R).length = D.length + (R.length + 1) := by simp
    have hr : rd (D ++ s :: R) (i : Int) = s := by rw [← hDi]; exact rd_app_mid D R s
    have hs : (D ++ s :: R).set i (mn (s + rd D ps[j]) 1001) = D ++ (mn (s + rd D ps[j]) 1001) :: R := by rw [← hDi]; exact set_app_mid D R _ _
    simp only [impl_Pool_size.l1]
    rw [if_pos (by omega), if_pos (by omega), if_pos (by omega), if_pos (by omega), if_pos (by omega), rd_nat ps j hlt, if_pos hp.1, if_pos (by omega), rd_app_left D _ _ hp.1 hp.2, hr, wrap_id (i := s + rd D ps[j]) (by omega) (by omega), Int.toNat_natCast, hs, wrap_succ (by omega)]
theorem implSize_loop (l : List Nd) (hok : poolOkB l = true) (a : Nat) (ha : a < l.length) : ∀ (n i : Nat), a + 1 - i = n → i ≤ a + 1 →
    Ev (fun k => impl_Pool_size.l0 k a (sizes l i ++ List.replicate n 0) ((a + 1 : Nat) : Int) i l) (rd (sizes l (a + 1)) a)
  | 0, i, hn, hi => by
    have e : i = a + 1 := by omega
    subst e
    refine Ev.step (f := fun k => some (rd (sizes l (a + 1)) a)) (fun k => ?_) (ev_some _)
    simp only [impl_Pool_size.l0, List.replicate_zero, List.append_nil]
    rw [if_neg (by omega), if_pos (by omega), if_pos (by rw [sizes_length]; omega)]
  | n + 1, i, hn, hi => by
    have hl := ok_len hok
    have hlt : i < l.length := by omega
    have ih := implSize_loop l hok a ha n (i + 1) (by omega) (by omega)
    have hD := sizes_length l i
    have hs : (sizes l i ++ List.replicate (n + 1) 0).set i 1 = sizes l i ++ 1 :: List.replicate n 0 := by
      rw [List.replicate_succ]
      conv => lhs; arg 2; rw [← hD]
      exact set_app_mid _ _ _ _
    refine Ev.step (f := fun k => (impl_Pool_parts.f k l i).bind fun t => impl_Pool_size.l1 k a (sizes l i ++ 1 :: List.replicate n 0) i ((a + 1 : Nat) : Int) i t (t.length : Int) 0 l) (fun k => ?_) ?_
    · simp only [impl_Pool_size.l0]
      rw [if_pos (by omega), if_pos (by omega), if_pos (by rw [List.length_append, hD, List.length_replicate]; omega), Int.toNat_natCast, hs]
    · refine ev_bind (implParts_ev l i hlt) ?_
      have hp := parts_in (ok_at hok i hlt).2
      simp only [sizes, List.append_assoc, List.singleton_append] at ih
      rw [getD_at l i hlt] at ih
      exact implSize_in l a _ (sizes l i) _ i hD (sizes_rd l i) (partsB l[i]) (parts_len _) (by rw [hD]; exact hp) (by omega) ih _ 0 1 rfl (by omega) (by omega) (by omega) rfl
theorem implPoolSize_ev (l : List Nd) (hok : poolOkB l = true) (a : Int) (hh : hasB l.length a = true) : Ev (fun k => impl_Pool_size.f k l a) (rd (sizes l (a.toNat + 1)) a) := by
  unfold impl_Pool_size.f
  have hl5 := ok_len hok
  unfold hasB at hh
  simp only [decide_eq_true_eq] at hh
  obtain ⟨n, rfl⟩ : ∃ n : Nat, a = n := ⟨a.toNat, by omega⟩
  have h := implSize_loop l hok n (by omega) (n + 1) 0 (by omega) (by omega)
  rw [wrap_succ (by omega)]
  refine ev_if_pos (by omega) (ev_if_pos (by omega) ?_)
  simpa [sizes] using h
theorem implSize_ev (l : List Nd) (a : Int) (hl : l.length ≤ 9223372036854775806) : Ev (fun k => impl_TermSize.f k l a) (sizeOf l a) := by
  unfold impl_TermSize.f sizeOf
  refine ev_bind_const (isTerm_eq l a (by omega)) ?_
  by_cases hh : hasB l.length a = true
  · refine ev_if_pos hh (ev_bind (implPoolOk_ev l) ?_)
    by_cases hok : poolOkB l = true
    · rw [if_pos ⟨hok, hh⟩]
      exact ev_if_pos hok (ev_bind (implPoolSize_ev l hok a hh) (ev_some _))
    · rw [if_neg (fun h => hok h.1)]
      exact ev_if_neg hok (ev_some _)
  · rw [if_neg (fun h => hh h.2)]
    exact ev_if_neg hh (ev_some _)
end Go.Proofs.YtjcemohmlpgfnaaDoor.Lib
