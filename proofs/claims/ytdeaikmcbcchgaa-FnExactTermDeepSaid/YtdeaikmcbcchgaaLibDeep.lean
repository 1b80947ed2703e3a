/- A right pool's nodes and their parts; how deep a term is: both reckon it one way. No conditions but lengths. -/
import Derived.Test.YtdeaikmcbcchgaaLibPool
import Derived.Test.YtdeaikmcbcchgaaLibKnow
import Derived.Test.YtdeaikmcbcchgaaQ2
import Derived.Test.YtdeaikmcbcchgaaQ22
import Derived.Test.YtdeaikmcbcchgaaQ23
import Derived.Test.YtdeaikmcbcchgaaQ24
import Derived.Test.YtdeaikmcbcchgaaQ25
set_option linter.unusedVariables false
set_option linter.unusedSimpArgs false
namespace Go.Proofs.Ytdeaikmcbcchgaa.Lib
open Go.RowKit Go.Proofs.Ytdeaikmcbcchgaa.Q Go.Proofs.YtdeaikmcbcchgaaW.PrintWords Go.Proofs.YtdeaikmcbcchgaaW.PrintLast

theorem okFrom_all (l : List Nd) : ∀ (n i : Nat), okFrom l n i = true → ∀ j, i ≤ j → j < i + n → okStep l j = true
  | 0, i, _, j, h1, h2 => by omega
  | n + 1, i, h, j, h1, h2 => by
    simp only [okFrom, Bool.and_eq_true] at h
    by_cases e : j = i
    · rw [e]; exact h.1
    · exact okFrom_all l n (i + 1) h.2 j (by omega) (by omega)
theorem ok_len {l : List Nd} (h : poolOkB l = true) : l.length ≤ 500 := by
  unfold poolOkB at h
  simp only [Bool.and_eq_true, decide_eq_true_eq] at h
  exact h.1
theorem ok_at {l : List Nd} (h : poolOkB l = true) (i : Nat) (hi : i < l.length) : l[i] ∉ l.take i ∧ nOk l[i] i = true := by
  have hl := ok_len h
  unfold poolOkB at h
  simp only [Bool.and_eq_true, decide_eq_true_eq] at h
  have := okFrom_all l l.length 0 h.2 i (by omega) (by omega)
  rw [okStep_eq l i hi (by omega)] at this
  simpa using this
/-- A node's parts. -/
def partsB (x : Nd) : List Int := if cnt x.f0 = 1 then [x.f1] else if cnt x.f0 = 2 then [x.f1, x.f2] else []
theorem parts_in {x : Nd} {i : Nat} (h : nOk x i = true) : ∀ p ∈ partsB x, 0 ≤ p ∧ p < (i : Int) := by
  intro p hp
  unfold partsB at hp
  unfold nOk at h
  by_cases h1 : cnt x.f0 = 1
  · rw [if_pos h1] at hp
    rw [if_neg (by omega), if_pos h1] at h
    simp at h hp
    subst hp
    exact h.1
  · rw [if_neg h1] at hp
    by_cases h2 : cnt x.f0 = 2
    · rw [if_pos h2] at hp
      rw [if_neg (by omega), if_neg h1, if_pos h2] at h
      simp at h hp
      rcases hp with rfl | rfl
      · exact h.1
      · exact h.2.1
    · rw [if_neg h2] at hp
      simp at hp
theorem parts_len (x : Nd) : (partsB x).length ≤ 2 := by
  unfold partsB
  repeat' split
  all_goals simp
theorem specPartsOf_ev (l : List Nd) (i : Nat) (h : i < l.length) : Ev (fun k => spec_l1PartsOf.f k l i) (partsB l[i]) := by
  unfold spec_l1PartsOf.f
  refine ev_if_pos (by omega) (ev_if_pos (by omega) ?_)
  rw [rdT l i h]
  refine ev_bind (specParts_ev _) ?_
  unfold partsB
  by_cases h1 : cnt l[i].f0 = 1
  · rw [if_pos h1, if_pos h1]; exact ev_some _
  · rw [if_neg h1, if_neg h1]
    by_cases h2 : cnt l[i].f0 = 2
    · rw [if_pos h2, if_pos h2]; exact ev_some _
    · rw [if_neg h2, if_neg h2]; exact ev_some _
theorem implParts_ev (l : List Nd) (i : Nat) (h : i < l.length) : Ev (fun k => impl_Pool_parts.f k l i) (partsB l[i]) := by
  unfold impl_Pool_parts.f
  refine ev_if_pos (by omega) (ev_if_pos (by omega) ?_)
  rw [rdT l i h]
  refine ev_bind (count_ev _) ?_
  unfold partsB
  by_cases h1 : cnt l[i].f0 = 1
  · rw [if_pos h1, if_pos h1]; exact ev_some _
  · rw [if_neg h1, if_neg h1]
    by_cases h2 : cnt l[i].f0 = 2
    · rw [if_pos h2, if_pos h2]; exact ev_some _
    · rw [if_neg h2, if_neg h2]; exact ev_some _
theorem maxS_eq (a b : Int) : spec_l1Max.f a b = some (mx a b) := by
  unfold spec_l1Max.f mx
  repeat' split
  all_goals first | rfl | (congr 1; omega)
theorem mx_add (a b : Int) : mx (a + 1) (b + 1) = mx a b + 1 := by
  unfold mx
  repeat' split
  all_goals omega
theorem mx_le {a b c : Int} (h1 : a ≤ c) (h2 : b ≤ c) : mx a b ≤ c := by
  unfold mx
  split <;> omega
theorem le_mx {a b c : Int} (h1 : c ≤ a) : c ≤ mx a b := by
  unfold mx
  split <;> omega
def dfold (D : List Int) (d : Int) (ps : List Int) : Int := ps.foldl (fun d p => mx d (rd D p)) d
theorem dfold_bound (D : List Int) (B : Int) (hD : ∀ p, rd D p ≤ B) : ∀ (ps : List Int) (d : Int), d ≤ B → d ≤ dfold D d ps ∧ dfold D d ps ≤ B
  | [], d, h => ⟨by simp [dfold], h⟩
  | p :: ps, d, h => by
    have := dfold_bound D B hD ps (mx d (rd D p)) (mx_le h (hD p))
    have h2 : d ≤ mx d (rd D p) := le_mx (Int.le_refl _)
    exact ⟨Int.le_trans h2 this.1, this.2⟩
/-- How deep the first terms are. -/
def depths (l : List Nd) : Nat → List Int
  | 0 => []
  | n + 1 => depths l n ++ [dfold (depths l n) 0 (partsB (l.getD n zN)) + 1]
theorem depths_length (l : List Nd) : ∀ n, (depths l n).length = n
  | 0 => rfl
  | n + 1 => by simp [depths, depths_length l n]
theorem rd_mem (D : List Int) (p : Int) : rd D p = 0 ∨ rd D p ∈ D := by
  unfold rd
  by_cases h : p.toNat < D.length
  · right
    rw [List.getD_eq_getElem?_getD, List.getElem?_eq_getElem h]
    exact List.getElem_mem h
  · left
    rw [List.getD_eq_getElem?_getD, List.getElem?_eq_none (by omega)]
    rfl
theorem depths_bound (l : List Nd) : ∀ n, ∀ x ∈ depths l n, 1 ≤ x ∧ x ≤ n
  | 0, x, h => by simp [depths] at h
  | n + 1, x, h => by
    simp only [depths, List.mem_append, List.mem_singleton] at h
    rcases h with h | h
    · have := depths_bound l n x h
      omega
    · have hb : ∀ p, rd (depths l n) p ≤ n := fun p => by
        rcases rd_mem (depths l n) p with e | e
        · omega
        · exact (depths_bound l n _ e).2
      have := dfold_bound (depths l n) n hb (partsB (l.getD n zN)) 0 (by omega)
      omega
theorem depths_rd (l : List Nd) (n : Nat) (p : Int) : rd (depths l n) p ≤ n := by
  rcases rd_mem (depths l n) p with e | e
  · omega
  · exact (depths_bound l n _ e).2
theorem depths_rd0 (l : List Nd) (n : Nat) (p : Int) : 0 ≤ rd (depths l n) p := by
  rcases rd_mem (depths l n) p with e | e
  · omega
  · have := (depths_bound l n _ e).1; omega
theorem getD_at (l : List Nd) (i : Nat) (h : i < l.length) : l.getD i zN = l[i] := by
  rw [List.getD_eq_getElem?_getD, List.getElem?_eq_getElem h]
  rfl
-- the reference
theorem specDeep_in (l : List Nd) (a : Int) (D : List Int) (i : Nat) (hD : D.length < 17592186044416) (B : Int) (hB : ∀ p, rd D p ≤ B) (hBB : B < 1000000) (ps : List Int) (hl : ps.length ≤ 2)
    (hps : ∀ p ∈ ps, 0 ≤ p ∧ p < (D.length : Int)) (hi : i < 1000000) {r : Int} (hk : Ev (fun k => spec_TermDeep.l0 k a (D ++ [dfold D 0 ps + 1]) (i + 1 : Nat) l) r) :
    ∀ (n j : Nat) (d : Int), ps.length - j = n → j ≤ ps.length → 0 ≤ d → d ≤ B → dfold D d (ps.drop j) = dfold D 0 ps → Ev (fun k => spec_TermDeep.l1 k a D i d ps j l) r
  | 0, j, d, hn, hj, hd0, hdB, he => by
    have e : j = ps.length := by omega
    rw [e, List.drop_length] at he
    have he' : d = dfold D 0 ps := he
    refine Ev.step (f := fun k => spec_TermDeep.l0 k a (D ++ [dfold D 0 ps + 1]) (i + 1 : Nat) l) (fun k => ?_) hk
    simp only [spec_TermDeep.l1]
    rw [if_neg (by omega), if_pos hD, wrap_succ (by omega), wrap_id (by omega) (by omega), he']
  | n + 1, j, d, hn, hj, hd0, hdB, he => by
    have hlt : j < ps.length := by omega
    have hp := hps ps[j] (List.getElem_mem hlt)
    rw [List.drop_eq_getElem_cons hlt] at he
    have ih := specDeep_in l a D i hD B hB hBB ps hl hps hi hk n (j + 1) (mx d (rd D ps[j])) (by omega) (by omega) (le_mx hd0) (mx_le hdB (hB _)) he
    refine Ev.step (f := fun k => spec_TermDeep.l1 k a D i (mx d (rd D ps[j])) ps (j + 1 : Nat) l) (fun k => ?_) ih
    simp only [spec_TermDeep.l1]
    rw [if_pos (by omega), if_pos (by omega), rd_nat ps j hlt, if_pos hp.1, if_pos hp.2, maxS_eq, wrap_succ (by omega)]
    rfl
theorem specDeep_loop (l : List Nd) (hok : poolOkB l = true) (a : Nat) (ha : a < l.length) : ∀ (n i : Nat), a + 1 - i = n → i ≤ a + 1 →
    Ev (fun k => spec_TermDeep.l0 k a (depths l i) i l) (rd (depths l (a + 1)) a)
  | 0, i, hn, hi => by
    have e : i = a + 1 := by omega
    subst e
    refine Ev.step (f := fun k => some (rd (depths l (a + 1)) a)) (fun k => ?_) (ev_some _)
    simp only [spec_TermDeep.l0]
    rw [if_neg (by omega), if_pos (by omega), if_pos (by rw [depths_length]; omega)]
  | n + 1, i, hn, hi => by
    have hl := ok_len hok
    have hlt : i < l.length := by omega
    have ih := specDeep_loop l hok a ha n (i + 1) (by omega) (by omega)
    refine Ev.step (f := fun k => (spec_l1PartsOf.f k l i).bind fun t => spec_TermDeep.l1 k a (depths l i) i 0 t 0 l) (fun k => ?_) ?_
    · simp only [spec_TermDeep.l0]
      rw [if_pos (by omega)]
    · refine ev_bind (specPartsOf_ev l i hlt) ?_
      have hp := parts_in (ok_at hok i hlt).2
      simp only [depths] at ih
      rw [getD_at l i hlt] at ih
      exact specDeep_in l a (depths l i) i (by rw [depths_length]; omega) i (depths_rd l i) (by omega) (partsB l[i]) (parts_len _) (by rw [depths_length]; exact hp) (by omega) ih _ 0 0 rfl (by omega) (by omega) (by omega) rfl
def deepOf (l : List Nd) (a : Int) : Int := if poolOkB l = true ∧ hasB l.length a = true then rd (depths l (a.toNat + 1)) a else 0
theorem specDeep_ev (l : List Nd) (a : Int) (hl : l.length ≤ 9223372036854775806) : Ev (fun k => spec_TermDeep.f k l a) (deepOf l a) := by
  unfold spec_TermDeep.f deepOf
  refine ev_bind (specPoolOk_ev l hl) ?_
  by_cases hok : poolOkB l = true
  · refine ev_if_pos hok (ev_bind_const (specHas_eq l a (by omega)) ?_)
    by_cases hh : hasB l.length a = true
    · rw [if_pos ⟨hok, hh⟩, hh]
      unfold hasB at hh
      simp only [decide_eq_true_eq] at hh
      obtain ⟨n, rfl⟩ : ∃ n : Nat, a = n := ⟨a.toNat, by omega⟩
      refine Ev.step (f := fun k => spec_TermDeep.l0 k n ([] : List Int) 0 l) (fun k => ?_) (specDeep_loop l hok n (by omega) (n + 1) 0 (by omega) (by omega))
      simp [spec_TermDeep.j0]
    · rw [if_neg (fun h => hh h.2)]
      refine Ev.step (f := fun k => some 0) (fun k => ?_) (ev_some _)
      simp [spec_TermDeep.j0, hh]
  · refine ev_if_neg hok ?_
    rw [if_neg (fun h => hok h.1)]
    refine Ev.step (f := fun k => some 0) (fun k => ?_) (ev_some _)
    simp [spec_TermDeep.j0]
-- the program
theorem rd_app_left (D R : List Int) (p : Int) (h0 : 0 ≤ p) (h : p < (D.length : Int)) : rd (D ++ R) p = rd D p := by
  unfold rd
  rw [List.getD_eq_getElem?_getD, List.getD_eq_getElem?_getD, List.getElem?_append_left (by omega)]
theorem rd_app_mid (D R : List Int) (v : Int) : rd (D ++ v :: R) (D.length : Int) = v := by
  unfold rd
  simp
theorem set_app_mid (D R : List Int) (u v : Int) : (D ++ v :: R).set D.length u = D ++ u :: R := by
  rw [List.set_append_right _ _ (by omega), Nat.sub_self, List.set_cons_zero]
theorem implDeep_in (l : List Nd) (a n : Int) (D R : List Int) (i : Nat) (hDi : D.length = i) (B : Int) (hB : ∀ p, rd D p ≤ B) (hB0 : ∀ p, 0 ≤ rd D p) (hBB : B < 1000000) (ps : List Int) (hl : ps.length ≤ 2)
    (hps : ∀ p ∈ ps, 0 ≤ p ∧ p < (D.length : Int)) (hi : i < 1000000) {r : Int} (hk : Ev (fun k => impl_TermDeep.l0 k a (D ++ (dfold D 0 ps + 1) :: R) n (i + 1 : Nat) l) r) :
    ∀ (m j : Nat) (d : Int), ps.length - j = m → j ≤ ps.length → dfold D d (ps.drop j) = dfold D 0 ps → Ev (fun k => impl_TermDeep.l1 k a (D ++ (d + 1) :: R) i n i ps (ps.length : Int) j l) r
  | 0, j, d, hn, hj, he => by
    have e : j = ps.length := by omega
    rw [e, List.drop_length] at he
    have he' : d = dfold D 0 ps := he
    refine Ev.step (f := fun k => impl_TermDeep.l0 k a (D ++ (dfold D 0 ps + 1) :: R) n (i + 1 : Nat) l) (fun k => ?_) hk
    simp only [impl_TermDeep.l1]
    rw [if_neg (by omega), wrap_succ (by omega), he']
  | m + 1, j, d, hn, hj, he => by
    have hlt : j < ps.length := by omega
    have hp := hps ps[j] (List.getElem_mem hlt)
    rw [List.drop_eq_getElem_cons hlt] at he
    have ih := implDeep_in l a n D R i hDi B hB hB0 hBB ps hl hps hi hk m (j + 1) (mx d (rd D ps[j])) (by omega) (by omega) he
    refine Ev.step (f := fun k => impl_TermDeep.l1 k a (D ++ (mx d (rd D ps[j]) + 1) :: R) i n i ps (ps.length : Int) (j + 1 : Nat) l) (fun k => ?_) ih
    have hlen : (D ++ (d + 1) :: R).length = D.length + (R.length + 1) := by simp
    have h1 := hB ps[j]
    have h2 := hB0 ps[j]
    have hr : rd (D ++ (d + 1) :: R) (i : Int) = d + 1 := by rw [← hDi]; exact rd_app_mid D R (d + 1)
    have hs : (D ++ (d + 1) :: R).set i (mx d (rd D ps[j]) + 1) = D ++ (mx d (rd D ps[j]) + 1) :: R := by rw [← hDi]; exact set_app_mid D R _ _
    simp only [impl_TermDeep.l1]
    rw [if_pos (by omega), if_pos (by omega), if_pos (by omega), if_pos (by omega), if_pos (by omega), rd_nat ps j hlt, if_pos hp.1, if_pos (by omega), rd_app_left D _ _ hp.1 hp.2, hr, wrap_id (i := rd D ps[j] + 1) (by omega) (by omega), mx_add, Int.toNat_natCast, hs, wrap_succ (by omega)]
theorem implDeep_loop (l : List Nd) (hok : poolOkB l = true) (a : Nat) (ha : a < l.length) : ∀ (n i : Nat), a + 1 - i = n → i ≤ a + 1 →
    Ev (fun k => impl_TermDeep.l0 k a (depths l i ++ List.replicate n 0) ((a + 1 : Nat) : Int) i l) (rd (depths l (a + 1)) a)
  | 0, i, hn, hi => by
    have e : i = a + 1 := by omega
    subst e
    refine Ev.step (f := fun k => some (rd (depths l (a + 1)) a)) (fun k => ?_) (ev_some _)
    simp only [impl_TermDeep.l0, List.replicate_zero, List.append_nil]
    rw [if_neg (by omega), if_pos (by omega), if_pos (by rw [depths_length]; omega)]
  | n + 1, i, hn, hi => by
    have hl := ok_len hok
    have hlt : i < l.length := by omega
    have ih := implDeep_loop l hok a ha n (i + 1) (by omega) (by omega)
    have hD := depths_length l i
    have hs : (depths l i ++ List.replicate (n + 1) 0).set i 1 = depths l i ++ (0 + 1) :: List.replicate n 0 := by
      rw [List.replicate_succ]
      conv => lhs; arg 2; rw [← hD]
      exact set_app_mid _ _ _ _
    refine Ev.step (f := fun k => (impl_Pool_parts.f k l i).bind fun t => impl_TermDeep.l1 k a (depths l i ++ (0 + 1) :: List.replicate n 0) i ((a + 1 : Nat) : Int) i t (t.length : Int) 0 l) (fun k => ?_) ?_
    · simp only [impl_TermDeep.l0]
      rw [if_pos (by omega), if_pos (by omega), if_pos (by rw [List.length_append, hD, List.length_replicate]; omega), Int.toNat_natCast, hs]
    · refine ev_bind (implParts_ev l i hlt) ?_
      have hp := parts_in (ok_at hok i hlt).2
      simp only [depths, List.append_assoc, List.singleton_append] at ih
      rw [getD_at l i hlt] at ih
      exact implDeep_in l a _ (depths l i) _ i hD i (depths_rd l i) (depths_rd0 l i) (by omega) (partsB l[i]) (parts_len _) (by rw [hD]; exact hp) (by omega) ih _ 0 0 rfl (by omega) rfl
theorem implDeep_ev (l : List Nd) (a : Int) (hl : l.length ≤ 9223372036854775806) : Ev (fun k => impl_TermDeep.f k l a) (deepOf l a) := by
  unfold impl_TermDeep.f deepOf
  refine ev_bind_const (isTerm_eq l a (by omega)) ?_
  by_cases hh : hasB l.length a = true
  · refine ev_if_pos hh (ev_bind (implPoolOk_ev l) ?_)
    by_cases hok : poolOkB l = true
    · rw [if_pos ⟨hok, hh⟩, hok]
      have hl5 := ok_len hok
      unfold hasB at hh
      simp only [decide_eq_true_eq] at hh
      obtain ⟨n, rfl⟩ : ∃ n : Nat, a = n := ⟨a.toNat, by omega⟩
      have h := implDeep_loop l hok n (by omega) (n + 1) 0 (by omega) (by omega)
      refine Ev.step (f := fun k => impl_TermDeep.l0 k n (depths l 0 ++ List.replicate (n + 1) 0) ((n + 1 : Nat) : Int) 0 l) (fun k => ?_) h
      simp only [impl_TermDeep.j0]
      rw [if_neg (by simp), wrap_succ (by omega), if_pos (by omega), if_pos (by omega), Int.toNat_natCast]
      simp [depths]
    · rw [if_neg (fun h => hok h.1)]
      refine Ev.step (f := fun k => some 0) (fun k => ?_) (ev_some _)
      simp [impl_TermDeep.j0, hok]
  · refine ev_if_neg hh ?_
    rw [if_neg (fun h => hh h.2)]
    refine Ev.step (f := fun k => some 0) (fun k => ?_) (ev_some _)
    simp [impl_TermDeep.j0]
end Go.Proofs.Ytdeaikmcbcchgaa.Lib
