/- A carried term is as great and as deep as it was, and has the same names. No conditions but right pools. -/
import Derived.Test.YtobkledmbnacjaaZNLibCarry
import Derived.Test.YtobkledmbnacjaaZNLibSize
import Derived.Test.YtobkledmbnacjaaZNLibDeep
import Derived.Test.YtobkledmbnacjaaZNLibNames
set_option linter.unusedVariables false
set_option linter.unusedSimpArgs false
namespace Go.Proofs.Ytobkledmbnacjaa.Lib
open Go.RowKit Go.Proofs.Ytobkledmbnacjaa.M Go.Proofs.YtobkledmbnacjaaW.PrintWords Go.Proofs.YtobkledmbnacjaaW.PrintLast Go.Proofs.YtobkledmbnacjaaW.PrintMore

theorem depths_pre (l : List Nd) (m : Nat) (a : Int) (h0 : 0 ≤ a) (ha : a < (m : Int)) : ∀ d, rd (depths l (m + d)) a = rd (depths l m) a
  | 0 => rfl
  | d + 1 => by
    have : depths l (m + (d + 1)) = depths l (m + d) ++ [dfold (depths l (m + d)) 0 (partsB (l.getD (m + d) zN)) + 1] := rfl
    rw [this, rd_app_left _ _ _ h0 (by rw [depths_length]; omega), depths_pre l m a h0 ha d]
theorem part_size {l : List Nd} (hok : poolOkB l = true) {t : Nat} (ht : t < l.length) {p : Int} (h0 : 0 ≤ p) (hp : p < (t : Int)) : sizeOf l p = rd (sizes l t) p ∧ deepOf l p = rd (depths l t) p := by
  have hh : hasB l.length p = true := by unfold hasB; simp; omega
  constructor
  · unfold sizeOf
    rw [if_pos ⟨hok, hh⟩, ← sizes_pre l (p.toNat + 1) p h0 (by omega) (t - (p.toNat + 1)), show p.toNat + 1 + (t - (p.toNat + 1)) = t by omega]
  · unfold deepOf
    rw [if_pos ⟨hok, hh⟩, ← depths_pre l (p.toNat + 1) p h0 (by omega) (t - (p.toNat + 1)), show p.toNat + 1 + (t - (p.toNat + 1)) = t by omega]
theorem term_size {l : List Nd} (hok : poolOkB l = true) {t : Nat} (ht : t < l.length) : sizeOf l t = sfold (sizes l t) 1 (partsB l[t]) ∧ deepOf l t = dfold (depths l t) 0 (partsB l[t]) + 1 := by
  have hh : hasB l.length t = true := by unfold hasB; simp; omega
  constructor
  · unfold sizeOf
    rw [if_pos ⟨hok, hh⟩, Int.toNat_natCast]
    show rd (sizes l t ++ [sfold (sizes l t) 1 (partsB (l.getD t zN))]) t = _
    have := rd_app_mid (sizes l t) [] (sfold (sizes l t) 1 (partsB (l.getD t zN)))
    rw [sizes_length] at this
    rw [this, getD_at l t ht]
  · unfold deepOf
    rw [if_pos ⟨hok, hh⟩, Int.toNat_natCast]
    show rd (depths l t ++ [dfold (depths l t) 0 (partsB (l.getD t zN)) + 1]) t = _
    have := rd_app_mid (depths l t) [] (dfold (depths l t) 0 (partsB (l.getD t zN)) + 1)
    rw [depths_length] at this
    rw [this, getD_at l t ht]
theorem mn_if (a b : Int) : mn a b = if a ≤ b then a else b := by
  unfold mn
  repeat' split
  all_goals omega
theorem mx_if (a b : Int) : mx a b = if a < b then b else a := rfl
theorem parts_two (f : Nat → Int) (n : Nd) : (partsB n = [] ∧ partsB (normN (reN f n)) = []) ∨ (∃ x, partsB n = [x] ∧ partsB (normN (reN f n)) = [f x.toNat]) ∨
    (∃ x y, partsB n = [x, y] ∧ (partsB (normN (reN f n)) = [f x.toNat, f y.toNat] ∨ partsB (normN (reN f n)) = [f y.toNat, f x.toNat])) := by
  obtain ⟨k, x, y⟩ := n
  by_cases h1 : cnt k = 1
  · refine .inr (.inl ⟨x, ?_, ?_⟩)
    · unfold partsB; rw [if_pos (show cnt k = 1 from h1)]
    · rw [re_1 f h1, norm_ne (ne8_1 h1)]
      unfold partsB; rw [if_pos (show cnt k = 1 from h1)]
  · by_cases h2 : cnt k = 2
    · refine .inr (.inr ⟨x, y, ?_, ?_⟩)
      · unfold partsB; rw [if_neg (show ¬ cnt k = 1 from h1), if_pos (show cnt k = 2 from h2)]
      · rw [re_2 f h2]
        have e : ∀ z v : Int, partsB (⟨k, z, v⟩ : Nd) = [z, v] := fun z v => by unfold partsB; rw [if_neg (show ¬ cnt k = 1 from h1), if_pos (show cnt k = 2 from h2)]
        unfold normN
        by_cases hc : k = 8 ∧ f x.toNat > f y.toNat
        · rw [if_pos hc, e]
          exact .inr rfl
        · rw [if_neg hc, e]
          exact .inl rfl
    · left
      constructor
      · unfold partsB; rw [if_neg (show ¬ cnt k = 1 from h1), if_neg (show ¬ cnt k = 2 from h2)]
      · unfold partsB; rw [re_f0, if_neg (show ¬ cnt k = 1 from h1), if_neg (show ¬ cnt k = 2 from h2)]
section
variable {p Q : List Nd} {F : Nat → Int} {t : Nat} (hp : poolOkB p = true) (ht : t < p.length) (hQ : poolOkB Q = true)
include hp ht hQ
theorem move_size (hG : Good p (ins p t) (-1) 0 (t + 1) Q F) : ∀ (n j : Nat), j ≤ n → ins p t j = true → sizeOf Q (F j) = sizeOf p (j : Int) ∧ deepOf Q (F j) = deepOf p (j : Int) := by
  have key : ∀ j, ins p t j = true → (∀ y : Nat, y < j → ins p t y = true → sizeOf Q (F y) = sizeOf p (y : Int) ∧ deepOf Q (F y) = deepOf p (y : Int)) → sizeOf Q (F j) = sizeOf p (j : Int) ∧ deepOf Q (F j) = deepOf p (j : Int) := by
    intro j hj ih
    obtain ⟨hjp, m, hm, e1, e2⟩ := good_at hp ht hQ hG hj (by omega)
    obtain ⟨s1, s2⟩ := term_size hp hjp
    obtain ⟨r1, r2⟩ := term_size hQ hm
    have hbp := parts_in (ok_at hp j hjp).2
    have hbq := parts_in (ok_at hQ m hm).2
    have part : ∀ x ∈ partsB p[j], F x.toNat ∈ partsB Q[m] → rd (sizes Q m) (F x.toNat) = rd (sizes p j) x ∧ rd (depths Q m) (F x.toNat) = rd (depths p j) x := by
      intro x hx hx'
      have b1 := hbp x hx
      have b2 := hbq _ hx'
      obtain ⟨u1, u2⟩ := ih x.toNat (by omega) (ins_part hp ht hj hjp hx)
      obtain ⟨v1, v2⟩ := part_size hp hjp b1.1 b1.2
      obtain ⟨w1, w2⟩ := part_size hQ hm b2.1 b2.2
      rw [show ((x.toNat : Nat) : Int) = x by omega] at u1 u2
      exact ⟨by rw [← w1, u1, v1], by rw [← w2, u2, v2]⟩
    rw [e1, s1, s2, r1, r2]
    rw [e2] at part hbq ⊢
    rcases parts_two F p[j] with ⟨h1, h2⟩ | ⟨x, h1, h2⟩ | ⟨x, y, h1, h2⟩
    · rw [h1, h2]
      exact ⟨rfl, rfl⟩
    · rw [h1, h2] at part ⊢
      obtain ⟨a1, a2⟩ := part x (by simp) (by simp)
      constructor
      · show mn (1 + rd (sizes Q m) (F x.toNat)) 1001 = mn (1 + rd (sizes p j) x) 1001
        rw [a1]
      · show mx 0 (rd (depths Q m) (F x.toNat)) + 1 = mx 0 (rd (depths p j) x) + 1
        rw [a2]
    · have hx : F x.toNat ∈ partsB (normN (reN F p[j])) := by rcases h2 with h2 | h2 <;> rw [h2] <;> simp
      have hy : F y.toNat ∈ partsB (normN (reN F p[j])) := by rcases h2 with h2 | h2 <;> rw [h2] <;> simp
      obtain ⟨a1, a2⟩ := part x (by rw [h1]; simp) hx
      obtain ⟨b1, b2⟩ := part y (by rw [h1]; simp) hy
      have p1 := sizes_rd p j x
      have p2 := sizes_rd p j y
      have q1 := depths_rd0 p j x
      have q2 := depths_rd0 p j y
      rcases h2 with h2 | h2
      · rw [h1, h2]
        constructor
        · show mn (mn (1 + rd (sizes Q m) (F x.toNat)) 1001 + rd (sizes Q m) (F y.toNat)) 1001 = mn (mn (1 + rd (sizes p j) x) 1001 + rd (sizes p j) y) 1001
          rw [a1, b1]
        · show mx (mx 0 (rd (depths Q m) (F x.toNat))) (rd (depths Q m) (F y.toNat)) + 1 = mx (mx 0 (rd (depths p j) x)) (rd (depths p j) y) + 1
          rw [a2, b2]
      · rw [h1, h2]
        constructor
        · show mn (mn (1 + rd (sizes Q m) (F y.toNat)) 1001 + rd (sizes Q m) (F x.toNat)) 1001 = mn (mn (1 + rd (sizes p j) x) 1001 + rd (sizes p j) y) 1001
          rw [a1, b1]
          simp only [mn_if]
          repeat' split
          all_goals omega
        · show mx (mx 0 (rd (depths Q m) (F y.toNat))) (rd (depths Q m) (F x.toNat)) + 1 = mx (mx 0 (rd (depths p j) x)) (rd (depths p j) y) + 1
          rw [a2, b2]
          simp only [mx_if]
          repeat' split
          all_goals omega
  intro n
  induction n with
  | zero => exact fun j hn hj => key j hj (fun y hy _ => by omega)
  | succ n ih => exact fun j hn hj => key j hj (fun y hy hyt => ih y (by omega) hyt)
theorem move_into (hG : Good p (ins p t) (-1) 0 (t + 1) Q F) : ∀ (n j : Nat), j ≤ n → ins p t j = true → ∀ y, ins p j y = true → ∃ m : Nat, F y = m ∧ ins Q (F j).toNat m = true := by
  intro n
  induction n with
  | zero =>
    intro j hn hj y h
    obtain ⟨hjp, m, hm, e1, e2⟩ := good_at hp ht hQ hG hj (by omega)
    rcases (ins_parts hp hjp y).1 h with rfl | ⟨q, hq, h⟩
    · exact ⟨m, e1, by rw [e1, Int.toNat_natCast]; exact ins_self hQ hm⟩
    · have := parts_in (ok_at hp j hjp).2 q hq
      omega
  | succ n ih =>
    intro j hn hj y h
    obtain ⟨hjp, m, hm, e1, e2⟩ := good_at hp ht hQ hG hj (by omega)
    rcases (ins_parts hp hjp y).1 h with rfl | ⟨q, hq, h⟩
    · exact ⟨m, e1, by rw [e1, Int.toNat_natCast]; exact ins_self hQ hm⟩
    · have hb := parts_in (ok_at hp j hjp).2 q hq
      obtain ⟨m', f1, f2⟩ := ih q.toNat (by omega) (ins_part hp ht hj hjp hq) y h
      refine ⟨m', f1, ?_⟩
      rw [e1, Int.toNat_natCast]
      refine (ins_parts hQ hm m').2 (.inr ⟨F q.toNat, ?_, f2⟩)
      rw [e2, parts_re]
      exact ⟨q, hq, rfl⟩
theorem move_names (hG : Good p (ins p t) (-1) 0 (t + 1) Q F) {j : Nat} (hj : ins p t j = true) : namesL Q (F j).toNat = namesL p j := by
  refine str_ext (setL_str _) (setL_str _) (fun x => ?_)
  refine Iff.trans (mem_namesL hQ x) (Iff.trans ?_ (mem_namesL hp x).symm)
  constructor
  · rintro ⟨i, hi, h1, h2, h3⟩
    obtain ⟨y, g1, g2, g3⟩ := move_onto hp ht hQ hG j j (Nat.le_refl _) hj i h1
    obtain ⟨hyp, m, hm, e1, e2⟩ := good_at hp ht hQ hG g2 (by omega)
    have em : m = i := by omega
    subst em
    rw [e2, re_f0] at h2
    have e3 : normN (reN F p[y]) = p[y] := re_id (ok_at hp y hyp).2 (fun v hv => by
      unfold partsB at hv
      rw [h2] at hv
      rw [if_neg (by decide), if_neg (by decide)] at hv
      simp at hv)
    rw [e2, e3] at h3
    exact ⟨y, hyp, g1, h2, h3⟩
  · rintro ⟨y, hyp, h1, h2, h3⟩
    obtain ⟨m', f1, f2⟩ := move_into hp ht hQ hG j j (Nat.le_refl _) hj y h1
    have hyt := ins_trans hp t t (Nat.le_refl _) ht j y hj h1
    obtain ⟨_, m, hm, e1, e2⟩ := good_at hp ht hQ hG hyt (by omega)
    have em : m = m' := by omega
    subst em
    have e3 : normN (reN F p[y]) = p[y] := re_id (ok_at hp y hyp).2 (fun v hv => by
      unfold partsB at hv
      rw [h2] at hv
      rw [if_neg (by decide), if_neg (by decide)] at hv
      simp at hv)
    rw [e3] at e2
    exact ⟨m, hm, f2, by rw [e2]; exact h2, by rw [e2]; exact h3⟩
end
end Go.Proofs.Ytobkledmbnacjaa.Lib
