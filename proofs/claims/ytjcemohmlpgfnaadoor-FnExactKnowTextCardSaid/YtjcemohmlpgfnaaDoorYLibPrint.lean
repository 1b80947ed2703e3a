/- What a term's text is: the program's and the reference's are one. Conditions: a right pool, a term that is no greater than a thousand. -/
import Derived.Test.YtjcemohmlpgfnaaDoorYLibSize
import Derived.Test.YtjcemohmlpgfnaaDoorYKg1
import Derived.Test.YtjcemohmlpgfnaaDoorYKg3
set_option linter.unusedVariables false
set_option linter.unusedSimpArgs false
namespace Go.Proofs.YtjcemohmlpgfnaaDoor.Lib
open Go.RowKit Go.Proofs.YtjcemohmlpgfnaaDoor.K Go.Proofs.YtjcemohmlpgfnaaDoorW.PrintWords Go.Proofs.YtjcemohmlpgfnaaDoorW.PrintLast Go.Proofs.YtjcemohmlpgfnaaDoorW.PrintMore

def dig3 (n : Nat) : List UInt8 := if n < 10 then [UInt8.ofNat (48 + n)] else if n < 100 then [UInt8.ofNat (48 + n / 10), UInt8.ofNat (48 + n % 10)] else [UInt8.ofNat (48 + n / 100), UInt8.ofNat (48 + n / 10 % 10), UInt8.ofNat (48 + n % 10)]
def numB (n : Nat) : ByteArray := ⟨(dig3 n).toArray⟩
theorem numB_size (n : Nat) : (numB n).size ≤ 3 := by
  show (dig3 n).toArray.size ≤ 3
  rw [List.size_toArray]
  unfold dig3
  split
  · simp
  · split <;> simp
theorem dec_dig3 (n : Nat) (h : n < 1000) : Go.Lib.decDigits n = dig3 n := by
  unfold dig3
  by_cases h1 : n < 10
  · rw [if_pos h1, Go.Lib.decDigits_one h1]
  · rw [if_neg h1]
    by_cases h2 : n < 100
    · rw [if_pos h2, Go.Lib.decDigits_two h1 h2]
    · rw [if_neg h2, Go.Lib.decDigits, dif_neg h1, Go.Lib.decDigits_two (by omega) (by omega), show n / 10 / 10 = n / 100 by omega]
      rfl
theorem itoa_eq (n : Nat) (h : n < 200) : strconv_Itoa.f (n : Int) = some (numB n) := by
  unfold strconv_Itoa.f
  rw [if_pos (by omega), Go.Lib.itoa_nonneg, dec_dig3 n (by omega)]
  rfl
theorem num_fin : ∀ n : Fin 200, (spec_l4Num.f 5 (n.val : Int)).map (fun b => b.data.toList) = some (dig3 n.val) := by decide +kernel
theorem num_ev (n : Nat) (h : n < 200) : Ev (fun k => spec_l4Num.f k (n : Int)) (numB n) := by
  have h0 := num_fin ⟨n, h⟩
  simp only [Option.map_eq_some_iff] at h0
  obtain ⟨b, h1, h2⟩ := h0
  have e : b = numB n := by
    obtain ⟨a⟩ := b
    have : a = (dig3 n).toArray := by rw [← h2]
    rw [this]; rfl
  rw [e] at h1
  exact Ev.of (fun k => spec_l4Num.mono _ k) h1

def szT (l : List Nd) (j : Nat) : Int := rd (sizes l (j + 1)) (j : Int)
theorem szT_eq {l : List Nd} {j : Nat} (h : j < l.length) : szT l j = sfold (sizes l j) 1 (partsB l[j]) := by
  unfold szT
  show rd (sizes l j ++ [sfold (sizes l j) 1 (partsB (l.getD j zN))]) (j : Int) = _
  have := rd_app_mid (sizes l j) [] (sfold (sizes l j) 1 (partsB (l.getD j zN)))
  rw [sizes_length] at this
  rw [this, getD_at l j h]
theorem part_sz {l : List Nd} {j : Nat} {x : Int} (h0 : 0 ≤ x) (hx : x < (j : Int)) : rd (sizes l j) x = szT l x.toNat := by
  unfold szT
  have := sizes_pre l (x.toNat + 1) x h0 (by omega) (j - (x.toNat + 1))
  rw [show x.toNat + 1 + (j - (x.toNat + 1)) = j by omega] at this
  rw [this, show ((x.toNat : Nat) : Int) = x by omega]
theorem mn_small {a : Int} (h : mn a 1001 ≤ 1000) : mn a 1001 = a ∧ a ≤ 1000 := by
  unfold mn at h ⊢
  split at h <;> rename_i h1
  · rw [if_pos h1]; omega
  · rw [if_neg h1]; omega

theorem joined_one {kd : Int} {p s : ByteArray} (hp : p.size ≤ 2) (h : s.size ≤ 100000) (hs : impl_signsOf.f kd = some (p, ⟨#[]⟩)) : impl_joined.f kd [s] = some (p ++ s) := by
  unfold impl_joined.f
  have r0 : rdOf ByteArray.empty [s] 0 = s := rfl
  have e : (⟨#[]⟩ : ByteArray) = ByteArray.empty := rfl
  rw [hs, Option.bind_some, r0]
  dsimp only
  show (if (([s] : List ByteArray).length : Int) = 1 then _ else _) = _
  rw [if_pos (by simp), if_pos (by simp)]
  show (if p.size + s.size ≤ 9223372036854775807 then _ else _) = _
  rw [if_pos (by omega)]
  show (if (p ++ s).size + (⟨#[]⟩ : ByteArray).size ≤ 9223372036854775807 then _ else _) = _
  rw [e, if_pos (by rw [ByteArray.size_append, ByteArray.size_empty]; omega), ByteArray.append_empty]
theorem joined_two {kd : Int} {p q s t : ByteArray} (hp : p.size ≤ 2) (hq : q.size ≤ 1) (h1 : s.size ≤ 100000) (h2 : t.size ≤ 100000) (hs : impl_signsOf.f kd = some (p, q)) :
    impl_joined.f kd [s, t] = some ((p ++ ((s ++ (⟨#[44]⟩ : ByteArray)) ++ t)) ++ q) := by
  unfold impl_joined.f
  have r0 : rdOf ByteArray.empty [s, t] 0 = s := rfl
  have r1 : rdOf ByteArray.empty [s, t] 1 = t := rfl
  have c1 : (⟨#[44]⟩ : ByteArray).size = 1 := rfl
  rw [hs, Option.bind_some, r0, r1]
  dsimp only
  show (if (([s, t] : List ByteArray).length : Int) = 1 then _ else _) = _
  rw [if_neg (by simp), if_pos (by simp)]
  show (if p.size + s.size ≤ 9223372036854775807 then _ else _) = _
  rw [if_pos (by omega)]
  rw [if_pos (by rw [ByteArray.size_append]; omega), if_pos (by simp)]
  rw [if_pos (by rw [ByteArray.size_append, ByteArray.size_append, c1]; omega)]
  show (if (((p ++ s) ++ (⟨#[44]⟩ : ByteArray)) ++ t).size + q.size ≤ 9223372036854775807 then _ else _) = _
  rw [if_pos (by rw [ByteArray.size_append, ByteArray.size_append, ByteArray.size_append, c1]; omega)]
  simp only [ByteArray.append_assoc]

theorem wrap_01 : wrap64 (0 + 1) = 1 := by unfold wrap64; omega
theorem wrap_12 : wrap64 (1 + 1) = 2 := by unfold wrap64; omega
theorem print_one {l : List Nd} {kd a b x : Int} {s r : ByteArray} (h1 : Ev (fun k => impl_Pool_print.f k l x) s) (hj : impl_joined.f kd [s] = some r) :
    Ev (fun k => impl_Pool_print.l0 k [] [x] (([x] : List Int).length : Int) 0 l kd a b) r := by
  refine Ev.step (fun k => by rw [impl_Pool_print.l0]) (ev_if_pos (by simp) (ev_if_pos (by omega) (ev_if_pos (by simp) ?_)))
  refine ev_bind (a := s) h1 (ev_if_pos (by simp) ?_)
  rw [wrap_01, List.nil_append]
  refine Ev.step (fun k => by rw [impl_Pool_print.l0]) (ev_if_neg (by simp) (ev_bind_const hj (ev_some _)))
theorem print_two {l : List Nd} {kd a b x y : Int} {s t r : ByteArray} (h1 : Ev (fun k => impl_Pool_print.f k l x) s) (h2 : Ev (fun k => impl_Pool_print.f k l y) t) (hj : impl_joined.f kd [s, t] = some r) :
    Ev (fun k => impl_Pool_print.l0 k [] [x, y] (([x, y] : List Int).length : Int) 0 l kd a b) r := by
  refine Ev.step (fun k => by rw [impl_Pool_print.l0]) (ev_if_pos (by simp) (ev_if_pos (by omega) (ev_if_pos (by simp) ?_)))
  refine ev_bind (a := s) h1 (ev_if_pos (by simp) ?_)
  rw [wrap_01, List.nil_append]
  refine Ev.step (fun k => by rw [impl_Pool_print.l0]) (ev_if_pos (by simp) (ev_if_pos (by omega) (ev_if_pos (by simp) ?_)))
  refine ev_bind (a := t) h2 (ev_if_pos (by simp) ?_)
  rw [wrap_12, List.singleton_append]
  refine Ev.step (fun k => by rw [impl_Pool_print.l0]) (ev_if_neg (by simp) (ev_bind_const hj (ev_some _)))

theorem kd_0 {k : Int} (h : cnt k = 0) : k = 1 := by
  unfold cnt at h
  by_cases h1 : k = 1
  · exact h1
  · rw [if_neg h1] at h
    split at h
    · omega
    · split at h <;> omega
theorem kd_1 {k : Int} (h : cnt k = 1) : k = 5 ∨ k = 7 := by
  unfold cnt at h
  split at h
  · omega
  · split at h
    · assumption
    · split at h <;> omega
theorem kd_2 {k : Int} (h : cnt k = 2) : k = 2 ∨ k = 3 ∨ k = 4 ∨ k = 6 ∨ k = 8 := by
  unfold cnt at h
  split at h
  · omega
  · split at h
    · omega
    · split at h
      · assumption
      · omega
theorem nOk_cases {k a b : Int} {i : Nat} (h : nOk ⟨k, a, b⟩ i = true) : (k = 1 ∧ 0 ≤ a ∧ a ≤ 199) ∨ ((k = 5 ∨ k = 7) ∧ 0 ≤ a ∧ a < (i : Int)) ∨ ((k = 2 ∨ k = 3 ∨ k = 4 ∨ k = 6 ∨ k = 8) ∧ (0 ≤ a ∧ a < (i : Int)) ∧ 0 ≤ b ∧ b < (i : Int)) := by
  unfold nOk at h
  by_cases h0 : cnt k = 0
  · simp only [h0, if_true, Bool.and_eq_true, decide_eq_true_eq] at h
    exact .inl ⟨kd_0 h0, h.1⟩
  · by_cases h1 : cnt k = 1
    · simp only [h1, if_true, Bool.and_eq_true, decide_eq_true_eq] at h
      simp at h
      exact .inr (.inl ⟨kd_1 h1, h.1⟩)
    · by_cases h2 : cnt k = 2
      · simp only [h2, if_true, Bool.and_eq_true, decide_eq_true_eq] at h
        simp at h
        exact .inr (.inr ⟨kd_2 h2, h.1, h.2.1⟩)
      · simp [h0, h1, h2] at h

theorem print_both {l : List Nd} (hok : poolOkB l = true) : ∀ n j : Nat, j ≤ n → j < l.length → szT l j ≤ 1000 →
    ∃ s : ByteArray, (s.size : Int) ≤ 4 * szT l j ∧ Ev (fun k => spec_l4Print.f k l (j : Int)) s ∧ Ev (fun k => impl_Pool_print.f k l (j : Int)) s := by
  have key : ∀ j, (∀ y : Nat, y < j → y < l.length → szT l y ≤ 1000 → ∃ s : ByteArray, (s.size : Int) ≤ 4 * szT l y ∧ Ev (fun k => spec_l4Print.f k l (y : Int)) s ∧ Ev (fun k => impl_Pool_print.f k l (y : Int)) s) → j < l.length → szT l j ≤ 1000 →
      ∃ s : ByteArray, (s.size : Int) ≤ 4 * szT l j ∧ Ev (fun k => spec_l4Print.f k l (j : Int)) s ∧ Ev (fun k => impl_Pool_print.f k l (j : Int)) s := by
    intro j ih hj hs
    have hr := (ok_at hok j hj).2
    have hpe := implParts_ev l j hj
    have hsz := szT_eq hj
    obtain ⟨kd, a, b, hx⟩ : ∃ kd a b, l[j] = (⟨kd, a, b⟩ : Nd) := ⟨_, _, _, rfl⟩
    rw [hx] at hr hpe hsz
    have hrd : rd_T51 l (j : Int) = ⟨kd, a, b⟩ := by rw [rdT l j hj, hx]
    have pos : ∀ y : Nat, 0 ≤ szT l y := fun y => (sizes_rd l (y + 1) y).1
    rcases nOk_cases hr with ⟨rfl, h0, h1⟩ | ⟨hk, h0, h1⟩ | ⟨hk, ⟨h0, h1⟩, h2, h3⟩
    · -- a name
      have hn := numB_size a.toNat
      have e1 : szT l j = 1 := by rw [hsz]; rfl
      have ea : ((a.toNat : Nat) : Int) = a := by omega
      have hnum := num_ev a.toNat (by omega)
      have hito := itoa_eq a.toNat (by omega)
      rw [ea] at hnum hito
      refine ⟨(⟨#[110]⟩ : ByteArray) ++ numB a.toNat, ?_, ?_, ?_⟩
      · rw [ByteArray.size_append, e1]
        have : (⟨#[110]⟩ : ByteArray).size = 1 := rfl
        omega
      · refine Ev.step (fun k => by rw [spec_l4Print.f]) (ev_if_pos (by omega) (ev_if_pos (by omega) ?_))
        rw [hrd]
        exact ev_if_pos rfl (ev_bind hnum (ev_if_pos (by omega) (ev_some _)))
      · refine Ev.step (fun k => by rw [impl_Pool_print.f]) (ev_if_pos (by omega) (ev_if_pos (by omega) ?_))
        rw [hrd]
        exact ev_if_pos rfl (ev_bind_const hito (ev_if_pos (by omega) (ev_some _)))
    · -- one part
      have hc : cnt kd = 1 := by rcases hk with rfl | rfl <;> rfl
      have hp : partsB (⟨kd, a, b⟩ : Nd) = [a] := by unfold partsB; rw [if_pos hc]
      have hne : ¬ kd = 1 := by rcases hk with rfl | rfl <;> omega
      rw [hp] at hpe hsz
      have e1 : szT l j = mn (1 + szT l a.toNat) 1001 := by rw [hsz]; show mn (1 + rd (sizes l j) a) 1001 = _; rw [part_sz h0 h1]
      obtain ⟨e2, e3⟩ := mn_small (by rw [← e1]; exact hs)
      have ea : ((a.toNat : Nat) : Int) = a := by omega
      obtain ⟨s, g1, g2, g3⟩ := ih a.toNat (by omega) (by omega) (by omega)
      have pa := pos a.toNat
      rw [ea] at g2 g3
      have fin : ∀ p : ByteArray, p.size = 1 → impl_signsOf.f kd = some (p, ⟨#[]⟩) → Ev (fun k => spec_l4Print.f k l (j : Int)) (p ++ s) →
          ∃ s : ByteArray, (s.size : Int) ≤ 4 * szT l j ∧ Ev (fun k => spec_l4Print.f k l (j : Int)) s ∧ Ev (fun k => impl_Pool_print.f k l (j : Int)) s := by
        intro p hp1 hsg hsp
        refine ⟨p ++ s, ?_, hsp, ?_⟩
        · rw [ByteArray.size_append, e1, e2]; omega
        · refine Ev.step (fun k => by rw [impl_Pool_print.f]) (ev_if_pos (by omega) (ev_if_pos (by omega) ?_))
          rw [hrd]
          exact ev_if_neg hne (ev_bind hpe (print_one g3 (joined_one (by omega) (by omega) hsg)))
      rcases hk with rfl | rfl
      · refine fin ⟨#[35]⟩ rfl rfl ?_
        refine Ev.step (fun k => by rw [spec_l4Print.f]) (ev_if_pos (by omega) (ev_if_pos (by omega) ?_))
        rw [hrd]
        exact ev_if_neg (by simp) (ev_if_pos rfl (ev_bind g2 (ev_if_pos (by omega) (ev_some _))))
      · refine fin ⟨#[94]⟩ rfl rfl ?_
        refine Ev.step (fun k => by rw [spec_l4Print.f]) (ev_if_pos (by omega) (ev_if_pos (by omega) ?_))
        rw [hrd]
        exact ev_if_neg (by simp) (ev_if_neg (by simp) (ev_if_pos rfl (ev_bind g2 (ev_if_pos (by omega) (ev_some _)))))
    · -- two parts
      have hc : cnt kd = 2 := by rcases hk with rfl | rfl | rfl | rfl | rfl <;> rfl
      have hp : partsB (⟨kd, a, b⟩ : Nd) = [a, b] := by unfold partsB; rw [if_neg (by show ¬ cnt kd = 1; omega), if_pos hc]
      have hne : ¬ kd = 1 := by rcases hk with rfl | rfl | rfl | rfl | rfl <;> omega
      have hne5 : ¬ kd = 5 := by rcases hk with rfl | rfl | rfl | rfl | rfl <;> omega
      have hne7 : ¬ kd = 7 := by rcases hk with rfl | rfl | rfl | rfl | rfl <;> omega
      rw [hp] at hpe hsz
      have e1 : szT l j = mn (mn (1 + szT l a.toNat) 1001 + szT l b.toNat) 1001 := by rw [hsz]; show mn (mn (1 + rd (sizes l j) a) 1001 + rd (sizes l j) b) 1001 = _; rw [part_sz h0 h1, part_sz h2 h3]
      obtain ⟨e2, e3⟩ := mn_small (by rw [← e1]; exact hs)
      have pa := pos a.toNat
      have pb := pos b.toNat
      obtain ⟨e4, e5⟩ := mn_small (a := 1 + szT l a.toNat) (by omega)
      rw [e4] at e2 e3 e1
      have ea : ((a.toNat : Nat) : Int) = a := by omega
      have eb : ((b.toNat : Nat) : Int) = b := by omega
      obtain ⟨s, g1, g2, g3⟩ := ih a.toNat (by omega) (by omega) (by omega)
      obtain ⟨t, f1, f2, f3⟩ := ih b.toNat (by omega) (by omega) (by omega)
      rw [ea] at g2 g3
      rw [eb] at f2 f3
      have c1 : (⟨#[44]⟩ : ByteArray).size = 1 := rfl
      have m1 : ((s ++ (⟨#[44]⟩ : ByteArray)) ++ t).size = s.size + 1 + t.size := by rw [ByteArray.size_append, ByteArray.size_append, c1]
      have m2 : (s ++ (⟨#[44]⟩ : ByteArray)).size + t.size ≤ 9223372036854775807 := by rw [ByteArray.size_append, c1]; omega
      have m3 : ∀ p : ByteArray, p.size ≤ 2 → (p ++ ((s ++ (⟨#[44]⟩ : ByteArray)) ++ t)).size + 1 ≤ 9223372036854775807 := fun p hp => by rw [ByteArray.size_append, m1]; omega
      have fin : ∀ p q : ByteArray, p.size ≤ 2 → q.size = 1 → impl_signsOf.f kd = some (p, q) →
          Ev (fun k => (if kd = 2 then (if 1 + ((s ++ (⟨#[44]⟩ : ByteArray)) ++ t).size ≤ 9223372036854775807 then (if ((⟨#[40]⟩ : ByteArray) ++ ((s ++ (⟨#[44]⟩ : ByteArray)) ++ t)).size + 1 ≤ 9223372036854775807 then (some (((⟨#[40]⟩ : ByteArray) ++ ((s ++ (⟨#[44]⟩ : ByteArray)) ++ t)) ++ (⟨#[41]⟩ : ByteArray))) else (none)) else (none)) else (if kd = 3 then (if 1 + ((s ++ (⟨#[44]⟩ : ByteArray)) ++ t).size ≤ 9223372036854775807 then (if ((⟨#[123]⟩ : ByteArray) ++ ((s ++ (⟨#[44]⟩ : ByteArray)) ++ t)).size + 1 ≤ 9223372036854775807 then (some (((⟨#[123]⟩ : ByteArray) ++ ((s ++ (⟨#[44]⟩ : ByteArray)) ++ t)) ++ (⟨#[125]⟩ : ByteArray))) else (none)) else (none)) else (if kd = 4 then (if 1 + ((s ++ (⟨#[44]⟩ : ByteArray)) ++ t).size ≤ 9223372036854775807 then (if ((⟨#[91]⟩ : ByteArray) ++ ((s ++ (⟨#[44]⟩ : ByteArray)) ++ t)).size + 1 ≤ 9223372036854775807 then (some (((⟨#[91]⟩ : ByteArray) ++ ((s ++ (⟨#[44]⟩ : ByteArray)) ++ t)) ++ (⟨#[93]⟩ : ByteArray))) else (none)) else (none)) else (if kd = 6 then (if 2 + ((s ++ (⟨#[44]⟩ : ByteArray)) ++ t).size ≤ 9223372036854775807 then (if ((⟨#[107, 40]⟩ : ByteArray) ++ ((s ++ (⟨#[44]⟩ : ByteArray)) ++ t)).size + 1 ≤ 9223372036854775807 then (some (((⟨#[107, 40]⟩ : ByteArray) ++ ((s ++ (⟨#[44]⟩ : ByteArray)) ++ t)) ++ (⟨#[41]⟩ : ByteArray))) else (none)) else (none)) else (if 2 + ((s ++ (⟨#[44]⟩ : ByteArray)) ++ t).size ≤ 9223372036854775807 then (if ((⟨#[42, 40]⟩ : ByteArray) ++ ((s ++ (⟨#[44]⟩ : ByteArray)) ++ t)).size + 1 ≤ 9223372036854775807 then (some (((⟨#[42, 40]⟩ : ByteArray) ++ ((s ++ (⟨#[44]⟩ : ByteArray)) ++ t)) ++ (⟨#[41]⟩ : ByteArray))) else (none)) else (none))))))) ((p ++ ((s ++ (⟨#[44]⟩ : ByteArray)) ++ t)) ++ q) →
          ∃ s : ByteArray, (s.size : Int) ≤ 4 * szT l j ∧ Ev (fun k => spec_l4Print.f k l (j : Int)) s ∧ Ev (fun k => impl_Pool_print.f k l (j : Int)) s := by
        intro p q hp1 hq1 hsg hsp
        refine ⟨(p ++ ((s ++ (⟨#[44]⟩ : ByteArray)) ++ t)) ++ q, ?_, ?_, ?_⟩
        · rw [ByteArray.size_append, ByteArray.size_append, m1, e1, e2]; omega
        · refine Ev.step (fun k => by rw [spec_l4Print.f]) (ev_if_pos (by omega) (ev_if_pos (by omega) ?_))
          rw [hrd]
          exact ev_if_neg hne (ev_if_neg hne5 (ev_if_neg hne7 (ev_bind g2 (ev_if_pos (by omega) (ev_bind f2 (ev_if_pos m2 hsp))))))
        · refine Ev.step (fun k => by rw [impl_Pool_print.f]) (ev_if_pos (by omega) (ev_if_pos (by omega) ?_))
          rw [hrd]
          exact ev_if_neg hne (ev_bind hpe (print_two g3 f3 (joined_two hp1 (by omega) (by omega) (by omega) hsg)))
      rcases hk with rfl | rfl | rfl | rfl | rfl
      · exact fin ⟨#[40]⟩ ⟨#[41]⟩ (by decide) rfl rfl (ev_if_pos rfl (ev_if_pos (by omega) (ev_if_pos (m3 _ (by decide)) (ev_some _))))
      · exact fin ⟨#[123]⟩ ⟨#[125]⟩ (by decide) rfl rfl (ev_if_neg (by simp) (ev_if_pos rfl (ev_if_pos (by omega) (ev_if_pos (m3 _ (by decide)) (ev_some _)))))
      · exact fin ⟨#[91]⟩ ⟨#[93]⟩ (by decide) rfl rfl (ev_if_neg (by simp) (ev_if_neg (by simp) (ev_if_pos rfl (ev_if_pos (by omega) (ev_if_pos (m3 _ (by decide)) (ev_some _))))))
      · exact fin ⟨#[107, 40]⟩ ⟨#[41]⟩ (by decide) rfl rfl (ev_if_neg (by simp) (ev_if_neg (by simp) (ev_if_neg (by simp) (ev_if_pos rfl (ev_if_pos (by omega) (ev_if_pos (m3 _ (by decide)) (ev_some _)))))))
      · exact fin ⟨#[42, 40]⟩ ⟨#[41]⟩ (by decide) rfl rfl (ev_if_neg (by simp) (ev_if_neg (by simp) (ev_if_neg (by simp) (ev_if_neg (by simp) (ev_if_pos (by omega) (ev_if_pos (m3 _ (by decide)) (ev_some _)))))))
  intro n
  induction n with
  | zero =>
    intro j hjn
    exact key j (fun y hy => by omega)
  | succ n ihn =>
    intro j hjn
    exact key j (fun y hy => ihn y (by omega))
theorem termPrint_both (l : List Nd) (a : Int) (hl : l.length ≤ 9223372036854775806) : ∃ s : ByteArray, s.size ≤ 4000 ∧ Ev (fun k => spec_TermPrint.f k l a) s ∧ Ev (fun k => impl_TermPrint.f k l a) s := by
  have s1 := specSize_ev l a hl
  have s2 := implSize_ev l a hl
  by_cases h : 1 ≤ sizeOf l a ∧ sizeOf l a ≤ 1000
  · by_cases hh : poolOkB l = true ∧ hasB l.length a = true
    · have ht := hh.2
      unfold hasB at ht
      simp only [decide_eq_true_eq] at ht
      have e : sizeOf l a = szT l a.toNat := by unfold sizeOf szT; rw [if_pos hh, show ((a.toNat : Nat) : Int) = a by omega]
      obtain ⟨s, h1, h2, h3⟩ := print_both hh.1 a.toNat a.toNat (Nat.le_refl _) (by omega) (by omega)
      rw [show ((a.toNat : Nat) : Int) = a by omega] at h2 h3
      refine ⟨s, by omega, ?_, ?_⟩
      · unfold spec_TermPrint.f
        exact ev_bind s1 (ev_bind_const (specIn_eq _ _ _) (ev_if_pos (decide_eq_true h) (ev_bind h2 (ev_some _))))
      · unfold impl_TermPrint.f
        exact ev_bind s2 (ev_bind_const (inRange_eq _ _ _) (ev_if_pos (decide_eq_true h) (ev_bind h3 (ev_some _))))
    · unfold sizeOf at h
      rw [if_neg hh] at h
      omega
  · refine ⟨⟨#[]⟩, by decide, ?_, ?_⟩
    · unfold spec_TermPrint.f
      exact ev_bind s1 (ev_bind_const (specIn_eq _ _ _) (ev_if_neg (by rw [decide_eq_true_eq]; exact h) (ev_some _)))
    · unfold impl_TermPrint.f
      exact ev_bind s2 (ev_bind_const (inRange_eq _ _ _) (ev_if_neg (by rw [decide_eq_true_eq]; exact h) (ev_some _)))
end Go.Proofs.YtjcemohmlpgfnaaDoor.Lib
