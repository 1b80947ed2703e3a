/- A term rebuilt in another pool, its parts by what each term is there: what stands where, in plain Lean. No conditions but right pools. -/
import Derived.Test.YtobkledmbnacjaaZNLibBelow
import Derived.Test.YtobkledmbnacjaaZNLibBelowMem
import Derived.Test.YtobkledmbnacjaaZNLibAdd
import Derived.Test.YtobkledmbnacjaaZNLibOkAdd
set_option linter.unusedVariables false
set_option linter.unusedSimpArgs false
namespace Go.Proofs.Ytobkledmbnacjaa.Lib
open Go.RowKit Go.Proofs.Ytobkledmbnacjaa.M Go.Proofs.YtobkledmbnacjaaW.PrintWords Go.Proofs.YtobkledmbnacjaaW.PrintLast Go.Proofs.YtobkledmbnacjaaW.PrintMore

def reN (f : Nat → Int) (n : Nd) : Nd := if cnt n.f0 = 1 then ⟨n.f0, f n.f1.toNat, 0⟩ else if cnt n.f0 = 2 then ⟨n.f0, f n.f1.toNat, f n.f2.toNat⟩ else ⟨n.f0, n.f1, 0⟩
def upd (f : Nat → Int) (i : Nat) (v : Int) : Nat → Int := fun j => if j = i then v else f j
theorem upd_at (f : Nat → Int) (i : Nat) (v : Int) : upd f i v i = v := by unfold upd; rw [if_pos rfl]
theorem upd_far {f : Nat → Int} {i j : Nat} {v : Int} (h : j ≠ i) : upd f i v j = f j := by unfold upd; rw [if_neg h]
def carry (p : List Nd) (I : Nat → Bool) (a b : Int) : Nat → Nat → List Nd → (Nat → Int) → Option (List Nd × (Nat → Int))
  | 0, i, q, f => some (q, f)
  | d + 1, i, q, f =>
    if I i = true then
      (if (i : Int) = a then carry p I a b d (i + 1) q (upd f i b)
       else if (addN q (normN (reN f (p.getD i zN)))).2 < 0 then none
       else carry p I a b d (i + 1) (addN q (normN (reN f (p.getD i zN)))).1 (upd f i (addN q (normN (reN f (p.getD i zN)))).2))
    else carry p I a b d (i + 1) q f
theorem normN_f0 (x : Nd) : (normN x).f0 = x.f0 := by unfold normN; split <;> rfl
theorem reN_f0 (f : Nat → Int) (n : Nd) : (reN f n).f0 = n.f0 := by
  unfold reN
  split
  · rfl
  · split <;> rfl
theorem re_f0 (f : Nat → Int) (n : Nd) : (normN (reN f n)).f0 = n.f0 := by rw [normN_f0, reN_f0]
theorem parts_re (f : Nat → Int) (n : Nd) (x : Int) : x ∈ partsB (normN (reN f n)) ↔ ∃ y ∈ partsB n, x = f y.toNat := by
  unfold partsB
  rw [re_f0]
  by_cases h1 : cnt n.f0 = 1
  · rw [if_pos h1, if_pos h1]
    have e : normN (reN f n) = ⟨n.f0, f n.f1.toNat, 0⟩ := by
      unfold normN reN
      rw [if_pos h1]
      rw [if_neg (fun h => by have := h.1; simp only at this; rw [this] at h1; revert h1; decide)]
    rw [e]
    simp
  · rw [if_neg h1, if_neg h1]
    by_cases h2 : cnt n.f0 = 2
    · rw [if_pos h2, if_pos h2]
      have e : reN f n = ⟨n.f0, f n.f1.toNat, f n.f2.toNat⟩ := by
        unfold reN
        rw [if_neg h1, if_pos h2]
      unfold normN
      rw [e]
      split
      · simp only [List.mem_cons, List.mem_nil_iff, or_false]
        constructor
        · rintro (h | h)
          · exact ⟨_, .inr rfl, h⟩
          · exact ⟨_, .inl rfl, h⟩
        · rintro ⟨y, rfl | rfl, h⟩
          · exact .inr h
          · exact .inl h
      · simp only [List.mem_cons, List.mem_nil_iff, or_false]
        constructor
        · rintro (h | h)
          · exact ⟨_, .inl rfl, h⟩
          · exact ⟨_, .inr rfl, h⟩
        · rintro ⟨y, rfl | rfl, h⟩
          · exact .inl h
          · exact .inr h
    · rw [if_neg h2, if_neg h2]
      simp
theorem re_same {f g : Nat → Int} {n : Nd} (h : ∀ y ∈ partsB n, f y.toNat = g y.toNat) : reN f n = reN g n := by
  unfold reN
  by_cases h1 : cnt n.f0 = 1
  · rw [if_pos h1, if_pos h1, h n.f1 (by unfold partsB; rw [if_pos h1]; simp)]
  · rw [if_neg h1, if_neg h1]
    by_cases h2 : cnt n.f0 = 2
    · rw [if_pos h2, if_pos h2, h n.f1 (by unfold partsB; rw [if_neg h1, if_pos h2]; simp), h n.f2 (by unfold partsB; rw [if_neg h1, if_pos h2]; simp)]
    · rw [if_neg h2, if_neg h2]
theorem right_cases {n : Nd} {i : Nat} (h : nOk n i = true) : (cnt n.f0 = 0 ∧ n.f2 = 0) ∨ (cnt n.f0 = 1 ∧ n.f2 = 0) ∨ (cnt n.f0 = 2 ∧ (n.f0 = 8 → n.f1 ≤ n.f2)) := by
  unfold nOk at h
  by_cases h0 : cnt n.f0 = 0
  · rw [if_pos h0] at h
    simp only [Bool.and_eq_true, decide_eq_true_eq] at h
    exact .inl ⟨h0, h.2⟩
  · rw [if_neg h0] at h
    by_cases h1 : cnt n.f0 = 1
    · rw [if_pos h1] at h
      simp only [Bool.and_eq_true, decide_eq_true_eq] at h
      exact .inr (.inl ⟨h1, h.2⟩)
    · rw [if_neg h1] at h
      by_cases h2 : cnt n.f0 = 2
      · rw [if_pos h2] at h
        simp only [Bool.and_eq_true, decide_eq_true_eq] at h
        exact .inr (.inr ⟨h2, h.2.2⟩)
      · rw [if_neg h2] at h
        exact absurd h (by simp)
theorem re_0 (f : Nat → Int) {k : Int} (h : cnt k = 0) (x y : Int) : reN f ⟨k, x, y⟩ = ⟨k, x, 0⟩ := by
  unfold reN
  rw [if_neg (show ¬ cnt k = 1 by omega), if_neg (show ¬ cnt k = 2 by omega)]
theorem re_1 (f : Nat → Int) {k : Int} (h : cnt k = 1) (x y : Int) : reN f ⟨k, x, y⟩ = ⟨k, f x.toNat, 0⟩ := by
  unfold reN
  rw [if_pos (show cnt k = 1 from h)]
theorem re_2 (f : Nat → Int) {k : Int} (h : cnt k = 2) (x y : Int) : reN f ⟨k, x, y⟩ = ⟨k, f x.toNat, f y.toNat⟩ := by
  unfold reN
  rw [if_neg (show ¬ cnt k = 1 by omega), if_pos (show cnt k = 2 from h)]
theorem norm_ne {k : Int} (h : ¬ k = 8) (x y : Int) : normN ⟨k, x, y⟩ = ⟨k, x, y⟩ := by
  unfold normN
  rw [if_neg (fun a => h a.1)]
theorem ne8_0 {k : Int} (h : cnt k = 0) : ¬ k = 8 := fun a => by rw [a] at h; revert h; decide
theorem ne8_1 {k : Int} (h : cnt k = 1) : ¬ k = 8 := fun a => by rw [a] at h; revert h; decide
theorem re_back {F g : Nat → Int} {n : Nd} {i : Nat} (hn : nOk n i = true) (h : ∀ y ∈ partsB n, g (F y.toNat).toNat = y) : normN (reN g (normN (reN F n))) = n := by
  obtain ⟨k, x, y⟩ := n
  rcases right_cases hn with ⟨h0, e⟩ | ⟨h1, e⟩ | ⟨h2, e⟩
  · simp only at h0 e
    subst e
    have e1 : ∀ f : Nat → Int, normN (reN f ⟨k, x, 0⟩) = ⟨k, x, 0⟩ := fun f => by rw [re_0 f h0, norm_ne (ne8_0 h0)]
    rw [e1, e1]
  · simp only at h1 e
    subst e
    have e1 : ∀ (f : Nat → Int) (z : Int), normN (reN f ⟨k, z, 0⟩) = ⟨k, f z.toNat, 0⟩ := fun f z => by rw [re_1 f h1, norm_ne (ne8_1 h1)]
    have := h x (by unfold partsB; rw [if_pos (show cnt k = 1 from h1)]; simp)
    rw [e1, e1, this]
  · simp only at h2 e
    have n1 : ¬ cnt k = 1 := by omega
    have hx := h x (by unfold partsB; rw [if_neg n1, if_pos (show cnt k = 2 from h2)]; simp)
    have hy := h y (by unfold partsB; rw [if_neg n1, if_pos (show cnt k = 2 from h2)]; simp)
    have e1 : ∀ (f : Nat → Int) (z v : Int), reN f ⟨k, z, v⟩ = ⟨k, f z.toNat, f v.toNat⟩ := fun f z v => by
      unfold reN
      rw [if_neg (show ¬ cnt k = 1 from n1), if_pos (show cnt k = 2 from h2)]
    rw [e1]
    by_cases h8 : k = 8
    · have hle := e h8
      by_cases hgt : F x.toNat > F y.toNat
      · have e2 : normN ⟨k, F x.toNat, F y.toNat⟩ = ⟨k, F y.toNat, F x.toNat⟩ := by
          unfold normN
          rw [if_pos ⟨h8, hgt⟩]
        rw [e2, e1, hx, hy]
        unfold normN
        by_cases hyx : y > x
        · rw [if_pos ⟨h8, hyx⟩]
        · rw [if_neg (fun a => hyx a.2)]
          have : x = y := by omega
          rw [this]
      · have e2 : normN ⟨k, F x.toNat, F y.toNat⟩ = ⟨k, F x.toNat, F y.toNat⟩ := by
          unfold normN
          rw [if_neg (fun a => hgt a.2)]
        rw [e2, e1, hx, hy]
        unfold normN
        rw [if_neg (fun a => by have := a.2; simp only at this; omega)]
    · have e2 : ∀ z v : Int, normN ⟨k, z, v⟩ = ⟨k, z, v⟩ := fun z v => by
        unfold normN
        rw [if_neg (fun a => h8 a.1)]
      rw [e2, e1, hx, hy, e2]
theorem re_id {f : Nat → Int} {n : Nd} {i : Nat} (hn : nOk n i = true) (h : ∀ y ∈ partsB n, f y.toNat = y) : normN (reN f n) = n := by
  obtain ⟨k, x, y⟩ := n
  rcases right_cases hn with ⟨h0, e⟩ | ⟨h1, e⟩ | ⟨h2, e⟩
  · simp only at h0 e
    subst e
    rw [re_0 f h0, norm_ne (ne8_0 h0)]
  · simp only at h1 e
    subst e
    have := h x (by unfold partsB; rw [if_pos (show cnt k = 1 from h1)]; simp)
    rw [re_1 f h1, norm_ne (ne8_1 h1), this]
  · simp only at h2 e
    have n1 : ¬ cnt k = 1 := by omega
    have hx := h x (by unfold partsB; rw [if_neg n1, if_pos (show cnt k = 2 from h2)]; simp)
    have hy := h y (by unfold partsB; rw [if_neg n1, if_pos (show cnt k = 2 from h2)]; simp)
    rw [re_2 f h2, hx, hy]
    unfold normN
    rw [if_neg (fun a => by have a1 := e a.1; have a2 := a.2; simp only at a2; omega)]
theorem re_inj {F : Nat → Int} {n n' : Nd} {i i' : Nat} (hn : nOk n i = true) (hn' : nOk n' i' = true) (h : normN (reN F n) = normN (reN F n')) (hF : ∀ v ∈ partsB n, ∀ w ∈ partsB n', F v.toNat = F w.toNat → v = w) : n = n' := by
  obtain ⟨k, x, y⟩ := n
  obtain ⟨k', x', y'⟩ := n'
  have ek : k = k' := by
    have h' := h
    rw [show normN (reN F ⟨k, x, y⟩) = ⟨(normN (reN F ⟨k, x, y⟩)).f0, (normN (reN F ⟨k, x, y⟩)).f1, (normN (reN F ⟨k, x, y⟩)).f2⟩ from rfl, show normN (reN F ⟨k', x', y'⟩) = ⟨(normN (reN F ⟨k', x', y'⟩)).f0, (normN (reN F ⟨k', x', y'⟩)).f1, (normN (reN F ⟨k', x', y'⟩)).f2⟩ from rfl, re_f0, re_f0] at h'
    injection h'
  subst ek
  rcases right_cases hn with ⟨h0, e⟩ | ⟨h1, e⟩ | ⟨h2, e⟩
  · rcases right_cases hn' with ⟨_, e'⟩ | ⟨h1', _⟩ | ⟨h2', _⟩
    · simp only at h0 e e'
      subst e; subst e'
      rw [re_0 F h0, re_0 F h0, norm_ne (ne8_0 h0), norm_ne (ne8_0 h0)] at h
      exact h
    · simp only at h0 h1'; omega
    · simp only at h0 h2'; omega
  · rcases right_cases hn' with ⟨h0', _⟩ | ⟨h1', e'⟩ | ⟨h2', _⟩
    · simp only at h1 h0'; omega
    · simp only at h1 e e'
      subst e; subst e'
      rw [re_1 F h1, re_1 F h1, norm_ne (ne8_1 h1), norm_ne (ne8_1 h1)] at h
      have hx := hF x (by unfold partsB; rw [if_pos (show cnt k = 1 from h1)]; simp) x' (by unfold partsB; rw [if_pos (show cnt k = 1 from h1)]; simp) (by injection h)
      rw [hx]
    · simp only at h1 h2'; omega
  · rcases right_cases hn' with ⟨h0', _⟩ | ⟨h1', _⟩ | ⟨h2', e'⟩
    · simp only at h2 h0'; omega
    · simp only at h2 h1'; omega
    · simp only at h2 e e'
      have n1 : ¬ cnt k = 1 := by omega
      have px : partsB (⟨k, x, y⟩ : Nd) = [x, y] := by unfold partsB; rw [if_neg (show ¬ cnt k = 1 from n1), if_pos (show cnt k = 2 from h2)]
      have px' : partsB (⟨k, x', y'⟩ : Nd) = [x', y'] := by unfold partsB; rw [if_neg (show ¬ cnt k = 1 from n1), if_pos (show cnt k = 2 from h2)]
      rw [px, px'] at hF
      have e1 : ∀ (z v : Int), reN F ⟨k, z, v⟩ = ⟨k, F z.toNat, F v.toNat⟩ := fun z v => by
        unfold reN
        rw [if_neg (show ¬ cnt k = 1 from n1), if_pos (show cnt k = 2 from h2)]
      rw [e1, e1] at h
      have hxx := hF x (by simp) x' (by simp)
      have hxy := hF x (by simp) y' (by simp)
      have hyx := hF y (by simp) x' (by simp)
      have hyy := hF y (by simp) y' (by simp)
      unfold normN at h
      simp only at h
      by_cases h8 : k = 8
      · have l1 := e h8
        have l2 := e' h8
        by_cases g1 : F x.toNat > F y.toNat
        · rw [if_pos ⟨h8, g1⟩] at h
          by_cases g2 : F x'.toNat > F y'.toNat
          · rw [if_pos ⟨h8, g2⟩] at h
            injection h with _ a1 a2
            rw [hxx a2, hyy a1]
          · rw [if_neg (fun a => g2 a.2)] at h
            injection h with _ a1 a2
            have q1 := hyx a1
            have q2 := hxy a2
            have : x = y := by omega
            subst this
            omega
        · rw [if_neg (fun a => g1 a.2)] at h
          by_cases g2 : F x'.toNat > F y'.toNat
          · rw [if_pos ⟨h8, g2⟩] at h
            injection h with _ a1 a2
            have q1 := hxy a1
            have q2 := hyx a2
            have : x' = y' := by omega
            subst this
            omega
          · rw [if_neg (fun a => g2 a.2)] at h
            injection h with _ a1 a2
            rw [hxx a1, hyy a2]
      · rw [if_neg (fun a => h8 a.1), if_neg (fun a => h8 a.1)] at h
        injection h with _ a1 a2
        rw [hxx a1, hyy a2]
theorem node_one {l : List Nd} (hok : poolOkB l = true) {i j : Nat} (hi : i < l.length) (hj : j < l.length) (h : l[i] = l[j]) : i = j := by
  rcases Nat.lt_trichotomy i j with h1 | h1 | h1
  · refine absurd ?_ (ok_at hok j hj).1
    rw [← h]
    exact List.mem_take_iff_getElem.2 ⟨i, by omega, rfl⟩
  · exact h1
  · refine absurd ?_ (ok_at hok i hi).1
    rw [h]
    exact List.mem_take_iff_getElem.2 ⟨j, by omega, rfl⟩
theorem at_pre {q Q : List Nd} (h : q <+: Q) {i : Nat} (hi : i < q.length) : ∃ hi' : i < Q.length, Q[i] = q[i] := by
  obtain ⟨z, rfl⟩ := h
  exact ⟨by rw [List.length_append]; omega, List.getElem_append_left hi⟩
theorem add_pre (p : List Nd) (y : Nd) : p <+: (addN p y).1 := by
  unfold addN
  repeat' split
  all_goals first | exact List.prefix_refl _ | exact List.prefix_append _ _
theorem add_at {p : List Nd} {y : Nd} (h : ¬ (addN p y).2 < 0) : ∃ i : Nat, ∃ hi : i < (addN p y).1.length, (addN p y).2 = i ∧ (addN p y).1[i] = y := by
  by_cases hf : findN p y ≥ 0
  · have e : addN p y = (p, findN p y) := by unfold addN; rw [if_pos hf]
    obtain ⟨i, hi, e1, e2⟩ := findN_at hf
    rw [e]
    exact ⟨i, hi, e1, e2⟩
  · by_cases hr : nOk y p.length = true
    · by_cases h5 : p.length = 500
      · have e : addN p y = (p, -1) := by unfold addN; rw [if_neg hf, if_pos hr, if_pos h5]
        rw [e] at h
        exact absurd (show (-1 : Int) < 0 by omega) h
      · have e : addN p y = (p ++ [y], (p.length : Int)) := by unfold addN; rw [if_neg hf, if_pos hr, if_neg h5]
        rw [e]
        exact ⟨p.length, by simp, rfl, by simp⟩
    · have e : addN p y = (p, -1) := by unfold addN; rw [if_neg hf, if_neg hr]
      rw [e] at h
      exact absurd (show (-1 : Int) < 0 by omega) h
theorem add_again {q : List Nd} (hok : poolOkB q = true) {i : Nat} (hi : i < q.length) {y : Nd} (e : q[i] = y) : addN q y = (q, (i : Int)) := by
  have hf : findN q y = i := by
    rw [← e]
    exact (find_at q i hi).2 (ok_at hok i hi).1
  unfold addN
  rw [if_pos (by omega), hf]
theorem add_ok {p : List Nd} (hp : poolOkB p = true) (y : Nd) : poolOkB (addN p y).1 = true := ok_add hp y
def Good (p : List Nd) (I : Nat → Bool) (a b : Int) (i : Nat) (Q : List Nd) (F : Nat → Int) : Prop :=
  ∀ j, j < i → I j = true → if (j : Int) = a then F j = b else ∃ m : Nat, ∃ hm : m < Q.length, F j = m ∧ Q[m] = normN (reN F (p.getD j zN))
theorem parts_lt {p : List Nd} (hp : poolOkB p = true) {j : Nat} (hj : j < p.length) : ∀ y ∈ partsB (p.getD j zN), 0 ≤ y ∧ y < (j : Int) := by
  rw [getD_at p j hj]
  exact parts_in (ok_at hp j hj).2
theorem carry_good {p : List Nd} (hp : poolOkB p = true) (I : Nat → Bool) (a b : Int) : ∀ (d i : Nat) (q : List Nd) (f : Nat → Int), i + d ≤ p.length → poolOkB q = true → Good p I a b i q f →
    ∀ Q F, carry p I a b d i q f = some (Q, F) → poolOkB Q = true ∧ q <+: Q ∧ Good p I a b (i + d) Q F
  | 0, i, q, f, hi, hq, hg, Q, F, h => by
    unfold carry at h
    simp only [Option.some.injEq, Prod.mk.injEq] at h
    obtain ⟨rfl, rfl⟩ := h
    exact ⟨hq, List.prefix_refl _, hg⟩
  | d + 1, i, q, f, hi, hq, hg, Q, F, h => by
    have keep : ∀ (q' : List Nd) (v : Int), q <+: q' → ∀ j, j < i → I j = true → if (j : Int) = a then upd f i v j = b else ∃ m : Nat, ∃ hm : m < q'.length, upd f i v j = m ∧ q'[m] = normN (reN (upd f i v) (p.getD j zN)) := by
      intro q' v hpre j hj hI
      have := hg j hj hI
      rw [upd_far (by omega)]
      by_cases e : (j : Int) = a
      · rw [if_pos e] at this ⊢
        exact this
      · rw [if_neg e] at this ⊢
        obtain ⟨m, hm, e1, e2⟩ := this
        obtain ⟨hm', e3⟩ := at_pre hpre hm
        refine ⟨m, hm', e1, ?_⟩
        rw [e3, e2]
        congr 1
        exact re_same (fun y hy => by have := parts_lt hp (j := j) (by omega) y hy; rw [upd_far (by omega)])
    unfold carry at h
    by_cases hI : I i = true
    · rw [if_pos hI] at h
      by_cases e : (i : Int) = a
      · rw [if_pos e] at h
        have := carry_good hp I a b d (i + 1) q (upd f i b) (by omega) hq (fun j hj hj2 => by
          by_cases ej : j = i
          · subst ej
            rw [if_pos e, upd_at]
          · exact keep q b (List.prefix_refl _) j (by omega) hj2) Q F h
        rw [show i + (d + 1) = i + 1 + d by omega]
        exact this
      · rw [if_neg e] at h
        by_cases hv : (addN q (normN (reN f (p.getD i zN)))).2 < 0
        · rw [if_pos hv] at h
          exact absurd h (by simp)
        · rw [if_neg hv] at h
          obtain ⟨m, hm, e1, e2⟩ := add_at hv
          have hpre := add_pre q (normN (reN f (p.getD i zN)))
          obtain ⟨h1, h2, h3⟩ := carry_good hp I a b d (i + 1) _ _ (by omega) (add_ok hq _) (fun j hj hj2 => by
            by_cases ej : j = i
            · subst ej
              rw [if_neg e, upd_at]
              refine ⟨m, hm, e1, ?_⟩
              rw [e2]
              congr 1
              exact re_same (fun y hy => by have := parts_lt hp (j := j) (by omega) y hy; rw [upd_far (by omega)])
            · exact keep _ _ hpre j (by omega) hj2) Q F h
          rw [show i + (d + 1) = i + 1 + d by omega]
          exact ⟨h1, hpre.trans h2, h3⟩
    · rw [if_neg hI] at h
      have := carry_good hp I a b d (i + 1) q f (by omega) hq (fun j hj hj2 => by
        by_cases ej : j = i
        · subst ej; exact absurd hj2 hI
        · exact hg j (by omega) hj2) Q F h
      rw [show i + (d + 1) = i + 1 + d by omega]
      exact this
theorem ins_trans {l : List Nd} (hok : poolOkB l = true) : ∀ (n t : Nat), t ≤ n → t < l.length → ∀ j y, ins l t j = true → ins l j y = true → ins l t y = true
  | n, t, hn, ht, j, y, h1, h2 => by
    rcases (ins_parts hok ht j).1 h1 with rfl | ⟨q, hq, h3⟩
    · exact h2
    · have hb := parts_in (ok_at hok t ht).2 q hq
      cases n with
      | zero => omega
      | succ n => exact (ins_parts hok ht y).2 (.inr ⟨q, hq, ins_trans hok n q.toNat (by omega) (by omega) j y h3 h2⟩)
theorem ins_le {l : List Nd} (hok : poolOkB l = true) {t j : Nat} (ht : t < l.length) (h : ins l t j = true) : j ≤ t := by
  by_cases e : t < j
  · rw [ins_far hok ht e] at h; exact absurd h (by simp)
  · omega
theorem ins_part {l : List Nd} (hok : poolOkB l = true) {t j : Nat} (ht : t < l.length) (h : ins l t j = true) {y : Int} (hj : j < l.length) (hy : y ∈ partsB l[j]) : ins l t y.toNat = true := by
  have hb := parts_in (ok_at hok j hj).2 y hy
  exact ins_trans hok t t (Nat.le_refl _) ht j y.toNat h ((ins_parts hok hj y.toNat).2 (.inr ⟨y, hy, ins_self hok (by omega)⟩))
theorem good_at {p Q : List Nd} {F : Nat → Int} {t : Nat} (hp : poolOkB p = true) (ht : t < p.length) (hQ : poolOkB Q = true) {a b : Int} (hG : Good p (ins p t) a b (t + 1) Q F) {j : Nat} (hj : ins p t j = true) (hne : (j : Int) ≠ a) : ∃ hjp : j < p.length, ∃ m : Nat, ∃ hm : m < Q.length, F j = m ∧ Q[m] = normN (reN F p[j]) := by
  have hle := ins_le hp ht hj
  have := hG j (by omega) hj
  rw [if_neg hne, getD_at p j (by omega)] at this
  exact ⟨by omega, this⟩
section
variable {p Q : List Nd} {F : Nat → Int} {t : Nat} (hp : poolOkB p = true) (ht : t < p.length) (hQ : poolOkB Q = true)
include hp ht hQ
theorem move_onto (hG : Good p (ins p t) (-1) 0 (t + 1) Q F) : ∀ (n j : Nat), j ≤ n → ins p t j = true → ∀ y', ins Q (F j).toNat y' = true → ∃ y, ins p j y = true ∧ ins p t y = true ∧ F y = (y' : Int) := by
  intro n
  induction n with
  | zero =>
    intro j hn hj y' h
    obtain ⟨hjp, m, hm, e1, e2⟩ := good_at hp ht hQ hG hj (by omega)
    rw [e1, Int.toNat_natCast] at h
    rcases (ins_parts hQ hm y').1 h with rfl | ⟨q, hq, h⟩
    · exact ⟨j, ins_self hp hjp, hj, e1⟩
    · rw [e2, parts_re] at hq
      obtain ⟨y, hy, rfl⟩ := hq
      have := parts_in (ok_at hp j hjp).2 y hy
      omega
  | succ n ih =>
    intro j hn hj y' h
    obtain ⟨hjp, m, hm, e1, e2⟩ := good_at hp ht hQ hG hj (by omega)
    rw [e1, Int.toNat_natCast] at h
    rcases (ins_parts hQ hm y').1 h with rfl | ⟨q, hq, h⟩
    · exact ⟨j, ins_self hp hjp, hj, e1⟩
    · rw [e2, parts_re] at hq
      obtain ⟨y, hy, rfl⟩ := hq
      have hb := parts_in (ok_at hp j hjp).2 y hy
      obtain ⟨v, h1, h2, h3⟩ := ih y.toNat (by omega) (ins_part hp ht hj hjp hy) y' h
      exact ⟨v, (ins_parts hp hjp v).2 (.inr ⟨y, hy, h1⟩), h2, h3⟩
end
theorem move_one_step {p Q : List Nd} {F : Nat → Int} {t : Nat} (hp : poolOkB p = true) (ht : t < p.length) (hQ : poolOkB Q = true) (hG : Good p (ins p t) (-1) 0 (t + 1) Q F) {x0 : Nat}
    (ih : ∀ a b : Nat, a < x0 → ins p t a = true → ins p t b = true → F a = F b → a = b) (x y : Nat) (hx0 : x ≤ x0) (hx : ins p t x = true) (hy : ins p t y = true) (e : F x = F y) : x = y := by
  obtain ⟨hxp, m, hm, e1, e2⟩ := good_at hp ht hQ hG hx (by omega)
  obtain ⟨hyp, m', hm', f1, f2⟩ := good_at hp ht hQ hG hy (by omega)
  have em : m = m' := by omega
  subst em
  -- go back from the place by a way back for x's parts
  have hback : ∀ v ∈ partsB p[x], ∀ w ∈ partsB p[y], F v.toNat = F w.toNat → v = w := by
    intro v hv w hw h
    have b1 := parts_in (ok_at hp x hxp).2 v hv
    have b2 := parts_in (ok_at hp y hyp).2 w hw
    have := ih v.toNat w.toNat (by omega) (ins_part hp ht hx hxp hv) (ins_part hp ht hy hyp hw) h
    omega
  have hN : normN (reN F p[x]) = normN (reN F p[y]) := by rw [← e2, ← f2]
  exact node_one hp hxp hyp (re_inj (ok_at hp x hxp).2 (ok_at hp y hyp).2 hN hback)
theorem move_one {p Q : List Nd} {F : Nat → Int} {t : Nat} (hp : poolOkB p = true) (ht : t < p.length) (hQ : poolOkB Q = true) (hG : Good p (ins p t) (-1) 0 (t + 1) Q F) : ∀ (n x y : Nat), x ≤ n → ins p t x = true → ins p t y = true → F x = F y → x = y := by
  intro n
  induction n with
  | zero => exact fun x y hn hx hy e => move_one_step hp ht hQ hG (x0 := 0) (fun a b ha _ _ _ => by omega) x y (by omega) hx hy e
  | succ n ih => exact fun x y hn hx hy e => move_one_step hp ht hQ hG (x0 := n + 1) (fun a b ha hax hbx he => ih a b (by omega) hax hbx he) x y hn hx hy e
theorem carry_back {p Q : List Nd} {F : Nat → Int} {t : Nat} (hp : poolOkB p = true) (ht : t < p.length) (hQ : poolOkB Q = true) (hG : Good p (ins p t) (-1) 0 (t + 1) Q F) {u : Nat} (hu : u < Q.length) (eu : F t = (u : Int)) :
    ∀ (d i : Nat) (g : Nat → Int), i + d ≤ u + 1 → (∀ j, j < i → ins Q u j = true → ∃ y, ins p t y = true ∧ F y = (j : Int) ∧ g j = (y : Int)) →
    ∃ G, carry Q (ins Q u) (-1) 0 d i p g = some (p, G) ∧ ∀ j, j < i + d → ins Q u j = true → ∃ y, ins p t y = true ∧ F y = (j : Int) ∧ G j = (y : Int)
  | 0, i, g, hi, hg => ⟨g, rfl, hg⟩
  | d + 1, i, g, hi, hg => by
    unfold carry
    by_cases hI : ins Q u i = true
    · rw [if_pos hI, if_neg (by omega)]
      have hiQ : i < Q.length := by omega
      obtain ⟨y, hy1, hy2, hy3⟩ := move_onto hp ht hQ hG t t (Nat.le_refl _) (ins_self hp ht) i (by rw [eu, Int.toNat_natCast]; exact hI)
      obtain ⟨hyp, m, hm, e1, e2⟩ := good_at hp ht hQ hG hy2 (by omega)
      have em : m = i := by omega
      subst em
      have e3 : normN (reN g (Q.getD m zN)) = p[y] := by
        rw [getD_at Q m hm, e2]
        refine re_back (ok_at hp y hyp).2 (fun v hv => ?_)
        have hb := parts_in (ok_at hp y hyp).2 v hv
        have hvI := ins_part hp ht hy2 hyp hv
        obtain ⟨_, m', hm', f1, _⟩ := good_at hp ht hQ hG hvI (by omega)
        have hpart : (m' : Int) ∈ partsB Q[m] := by rw [e2, parts_re]; exact ⟨v, hv, f1.symm⟩
        have hb2 := parts_in (ok_at hQ m hm).2 _ hpart
        rw [f1, Int.toNat_natCast]
        have hin : ins Q u m' = true := by
          have := ins_part hQ hu hI hm hpart
          rwa [Int.toNat_natCast] at this
        obtain ⟨v', g1, g2, g3⟩ := hg m' (by omega) hin
        obtain ⟨hvp, m1, hm1, k1, k2⟩ := good_at hp ht hQ hG g1 (by omega)
        obtain ⟨hvp2, m2, hm2, k3, k4⟩ := good_at hp ht hQ hG hvI (by omega)
        rw [g3]
        -- the two terms that became m' are one
        have e5 : v' = v.toNat := move_one hp ht hQ hG v' v' v.toNat (Nat.le_refl _) g1 hvI (by rw [g2, f1])
        omega
      rw [e3, add_again hp hyp rfl, if_neg (by show ¬ (y : Int) < 0; omega)]
      have := carry_back hp ht hQ hG hu eu d (m + 1) (upd g m (y : Int)) (by omega) (fun j hj hj2 => by
        by_cases e : j = m
        · subst e
          exact ⟨y, hy2, hy3, upd_at _ _ _⟩
        · rw [upd_far e]
          exact hg j (by omega) hj2)
      rw [show m + (d + 1) = m + 1 + d by omega]
      exact this
    · rw [if_neg hI]
      have := carry_back hp ht hQ hG hu eu d (i + 1) g (by omega) (fun j hj hj2 => by
        by_cases e : j = i
        · subst e; exact absurd hj2 hI
        · exact hg j (by omega) hj2)
      rw [show i + (d + 1) = i + 1 + d by omega]
      exact this
end Go.Proofs.Ytobkledmbnacjaa.Lib
