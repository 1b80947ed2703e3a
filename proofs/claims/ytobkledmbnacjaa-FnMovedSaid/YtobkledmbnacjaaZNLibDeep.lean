/- How deep a term is: both reckon it one way. No conditions but lengths. -/
import Derived.Test.YtobkledmbnacjaaZNLibDeepA
import Derived.Test.YtobkledmbnacjaaZNMg2
import Derived.Test.YtobkledmbnacjaaZNMg3
import Derived.Test.YtobkledmbnacjaaZNMg4
set_option linter.unusedVariables false
set_option linter.unusedSimpArgs false
namespace Go.Proofs.Ytobkledmbnacjaa.Lib
open Go.RowKit Go.Proofs.Ytobkledmbnacjaa.M Go.Proofs.YtobkledmbnacjaaW.PrintWords Go.Proofs.YtobkledmbnacjaaW.PrintLast

theorem mx_add (a b : Int) : mx (a + 1) (b + 1) = mx a b + 1 := by
  unfold mx
  repeat' split
  all_goals omega
theorem mx_le {a b c : Int} (h1 : a ≤ c) (h2 : b ≤ c) : mx a b ≤ c := by
  unfold mx
  split <;> omega
theorem le_mx {a b c : Int} (h1 : c ≤ a) : c ≤ mx a b := by
  unfold mx
  split <;> omega
def dfold (D : List Int) (d : Int) (ps : List Int) : Int := ps.foldl (fun d p => mx d (rd D p)) d
theorem dfold_bound (D : List Int) (B : Int) (hD : ∀ p, rd D p ≤ B) : ∀ (ps : List Int) (d : Int), d ≤ B → d ≤ dfold D d ps ∧ dfold D d ps ≤ B
  | [], d, h => ⟨by simp [dfold], h⟩
  | p :: ps, d, h => by
    have := dfold_bound D B hD ps (mx d (rd D p)) (mx_le h (hD p))
    have h2 : d ≤ mx d (rd D p) := le_mx (Int.le_refl _)
    exact ⟨Int.le_trans h2 this.1, this.2⟩
def depths (l : List Nd) : Nat → List Int
  | 0 => []
  | n + 1 => depths l n ++ [dfold (depths l n) 0 (partsB (l.getD n zN)) + 1]
theorem depths_length (l : List Nd) : ∀ n, (depths l n).length = n
  | 0 => rfl
  | n + 1 => by simp [depths, depths_length l n]
theorem depths_bound (l : List Nd) : ∀ n, ∀ x ∈ depths l n, 1 ≤ x ∧ x ≤ n
  | 0, x, h => by simp [depths] at h
  | n + 1, x, h => by
    simp only [depths, List.mem_append, List.mem_singleton] at h
    rcases h with h | h
    · have := depths_bound l n x h
      omega
    · have hb : ∀ p, rd (depths l n) p ≤ n := fun p => by
        rcases rd_mem (depths l n) p with e | e
        · omega
        · exact (depths_bound l n _ e).2
      have := dfold_bound (depths l n) n hb (partsB (l.getD n zN)) 0 (by omega)
      omega
theorem depths_rd (l : List Nd) (n : Nat) (p : Int) : rd (depths l n) p ≤ n := by
  rcases rd_mem (depths l n) p with e | e
  · omega
  · exact (depths_bound l n _ e).2
theorem depths_rd0 (l : List Nd) (n : Nat) (p : Int) : 0 ≤ rd (depths l n) p := by
  rcases rd_mem (depths l n) p with e | e
  · omega
  · have := (depths_bound l n _ e).1; omega
def deepOf (l : List Nd) (a : Int) : Int := if poolOkB l = true ∧ hasB l.length a = true then rd (depths l (a.toNat + 1)) a else 0
theorem implDeep_in (l : List Nd) (a n : Int) (D R : List Int) (i : Nat) (hDi : D.length = i) (B : Int) (hB : ∀ p, rd D p ≤ B) (hB0 : ∀ p, 0 ≤ rd D p) (hBB : B < 1000000) (ps : List Int) (hl : ps.length ≤ 2)
    (hps : ∀ p ∈ ps, 0 ≤ p ∧ p < (D.length : Int)) (hi : i < 1000000) {r : Int} (hk : Ev (fun k => impl_TermDeep.l0 k a (D ++ (dfold D 0 ps + 1) :: R) n (i + 1 : Nat) l) r) :
    ∀ (m j : Nat) (d : Int), ps.length - j = m → j ≤ ps.length → dfold D d (ps.drop j) = dfold D 0 ps → Ev (fun k => impl_TermDeep.l1 k a (D ++ (d + 1) :: R) i n i ps (ps.length : Int) j l) r
  | 0, j, d, hn, hj, he => by
    have e : j = ps.length := by omega
    rw [e, List.drop_length] at he
    have he' : d = dfold D 0 ps := he
    refine Ev.step (f := fun k => impl_TermDeep.l0 k a (D ++ (dfold D 0 ps + 1) :: R) n (i + 1 : Nat) l) (fun k => ?_) hk
    simp only [impl_TermDeep.l1]
    rw [if_neg (by omega), wrap_succ (by omega), he']
  | m + 1, j, d, hn, hj, he => by
    have hlt : j < ps.length := by omega
    have hp := hps ps[j] (List.getElem_mem hlt)
    rw [List.drop_eq_getElem_cons hlt] at he
    have ih := implDeep_in l a n D R i hDi B hB hB0 hBB ps hl hps hi hk m (j + 1) (mx d (rd D ps[j])) (by omega) (by omega) he
    refine Ev.step (f := fun k => impl_TermDeep.l1 k a (D ++ (mx d (rd D ps[j]) + 1) :: R) i n i ps (ps.length : Int) (j + 1 : Nat) l) (fun k => ?_) ih
    have hlen : (D ++ (d + 1) :: R).length = D.length + (R.length + 1) := by simp
    have h1 := hB ps[j]
    have h2 := hB0 ps[j]
    have hr : rd (D ++ (d + 1) :: R) (i : Int) = d + 1 := by rw [← hDi]; exact rd_app_mid D R (d + 1)
    have hs : (D ++ (d + 1) :: R).set i (mx d (rd D ps[j]) + 1) = D ++ (mx d (rd D ps[j]) + 1) :: R := by rw [← hDi]; exact set_app_mid D R _ _
    simp only [impl_TermDeep.l1]
    rw [if_pos (by omega), if_pos (by omega), if_pos (by omega), if_pos (by omega), if_pos (by omega), rd_nat ps j hlt, if_pos hp.1, if_pos (by omega), rd_app_left D _ _ hp.1 hp.2, hr, wrap_id (i := rd D ps[j] + 1) (by omega) (by omega), mx_add, Int.toNat_natCast, hs, wrap_succ (by omega)]
theorem implDeep_loop (l : List Nd) (hok : poolOkB l = true) (a : Nat) (ha : a < l.length) : ∀ (n i : Nat), a + 1 - i = n → i ≤ a + 1 →
    Ev (fun k => impl_TermDeep.l0 k a (depths l i ++ List.replicate n 0) ((a + 1 : Nat) : Int) i l) (rd (depths l (a + 1)) a)
  | 0, i, hn, hi => by
    have e : i = a + 1 := by omega
    subst e
    refine Ev.step (f := fun k => some (rd (depths l (a + 1)) a)) (fun k => ?_) (ev_some _)
    simp only [impl_TermDeep.l0, List.replicate_zero, List.append_nil]
    rw [if_neg (by omega), if_pos (by omega), if_pos (by rw [depths_length]; omega)]
  | n + 1, i, hn, hi => by
    have hl := ok_len hok
    have hlt : i < l.length := by omega
    have ih := implDeep_loop l hok a ha n (i + 1) (by omega) (by omega)
    have hD := depths_length l i
    have hs : (depths l i ++ List.replicate (n + 1) 0).set i 1 = depths l i ++ (0 + 1) :: List.replicate n 0 := by
      rw [List.replicate_succ]
      conv => lhs; arg 2; rw [← hD]
      exact set_app_mid _ _ _ _
    refine Ev.step (f := fun k => (impl_Pool_parts.f k l i).bind fun t => impl_TermDeep.l1 k a (depths l i ++ (0 + 1) :: List.replicate n 0) i ((a + 1 : Nat) : Int) i t (t.length : Int) 0 l) (fun k => ?_) ?_
    · simp only [impl_TermDeep.l0]
      rw [if_pos (by omega), if_pos (by omega), if_pos (by rw [List.length_append, hD, List.length_replicate]; omega), Int.toNat_natCast, hs]
    · refine ev_bind (implParts_ev l i hlt) ?_
      have hp := parts_in (ok_at hok i hlt).2
      simp only [depths, List.append_assoc, List.singleton_append] at ih
      rw [getD_at l i hlt] at ih
      exact implDeep_in l a _ (depths l i) _ i hD i (depths_rd l i) (depths_rd0 l i) (by omega) (partsB l[i]) (parts_len _) (by rw [hD]; exact hp) (by omega) ih _ 0 0 rfl (by omega) rfl
theorem implDeep_ev (l : List Nd) (a : Int) (hl : l.length ≤ 9223372036854775806) : Ev (fun k => impl_TermDeep.f k l a) (deepOf l a) := by
  unfold impl_TermDeep.f deepOf
  refine ev_bind_const (isTerm_eq l a (by omega)) ?_
  by_cases hh : hasB l.length a = true
  · refine ev_if_pos hh (ev_bind (implPoolOk_ev l) ?_)
    by_cases hok : poolOkB l = true
    · rw [if_pos ⟨hok, hh⟩, hok]
      have hl5 := ok_len hok
      unfold hasB at hh
      simp only [decide_eq_true_eq] at hh
      obtain ⟨n, rfl⟩ : ∃ n : Nat, a = n := ⟨a.toNat, by omega⟩
      have h := implDeep_loop l hok n (by omega) (n + 1) 0 (by omega) (by omega)
      refine Ev.step (f := fun k => impl_TermDeep.l0 k n (depths l 0 ++ List.replicate (n + 1) 0) ((n + 1 : Nat) : Int) 0 l) (fun k => ?_) h
      simp only [impl_TermDeep.j0]
      rw [if_neg (by simp), wrap_succ (by omega), if_pos (by omega), if_pos (by omega), Int.toNat_natCast]
      simp [depths]
    · rw [if_neg (fun h => hok h.1)]
      refine Ev.step (f := fun k => some 0) (fun k => ?_) (ev_some _)
      simp [impl_TermDeep.j0, hok]
  · refine ev_if_neg hh ?_
    rw [if_neg (fun h => hh h.2)]
    refine Ev.step (f := fun k => some 0) (fun k => ?_) (ev_some _)
    simp [impl_TermDeep.j0]
end Go.Proofs.Ytobkledmbnacjaa.Lib
