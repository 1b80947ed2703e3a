/- A term rebuilt in another pool, its parts by what each term is there: what stands where, in plain Lean. No conditions but right pools. -/
import Derived.Test.YtobkledmbnacjaaZFLibBelow
import Derived.Test.YtobkledmbnacjaaZFLibBelowMem
import Derived.Test.YtobkledmbnacjaaZFLibAdd
import Derived.Test.YtobkledmbnacjaaZFLibOkAdd
set_option linter.unusedVariables false
set_option linter.unusedSimpArgs false
namespace Go.Proofs.Ytobkledmbnacjaa.Lib
open Go.RowKit Go.Proofs.Ytobkledmbnacjaa.F Go.Proofs.YtobkledmbnacjaaW.PrintWords Go.Proofs.YtobkledmbnacjaaW.PrintLast Go.Proofs.YtobkledmbnacjaaW.PrintMore

def reN (f : Nat → Int) (n : Nd) : Nd := if cnt n.f0 = 1 then ⟨n.f0, f n.f1.toNat, 0⟩ else if cnt n.f0 = 2 then ⟨n.f0, f n.f1.toNat, f n.f2.toNat⟩ else ⟨n.f0, n.f1, 0⟩
def upd (f : Nat → Int) (i : Nat) (v : Int) : Nat → Int := fun j => if j = i then v else f j
theorem upd_at (f : Nat → Int) (i : Nat) (v : Int) : upd f i v i = v := by unfold upd; rw [if_pos rfl]
theorem upd_far {f : Nat → Int} {i j : Nat} {v : Int} (h : j ≠ i) : upd f i v j = f j := by unfold upd; rw [if_neg h]
def carry (p : List Nd) (I : Nat → Bool) (a b : Int) : Nat → Nat → List Nd → (Nat → Int) → Option (List Nd × (Nat → Int))
  | 0, i, q, f => some (q, f)
  | d + 1, i, q, f =>
    if I i = true then
      (if (i : Int) = a then carry p I a b d (i + 1) q (upd f i b)
       else if (addN q (normN (reN f (p.getD i zN)))).2 < 0 then none
       else carry p I a b d (i + 1) (addN q (normN (reN f (p.getD i zN)))).1 (upd f i (addN q (normN (reN f (p.getD i zN)))).2))
    else carry p I a b d (i + 1) q f
theorem normN_f0 (x : Nd) : (normN x).f0 = x.f0 := by unfold normN; split <;> rfl
theorem reN_f0 (f : Nat → Int) (n : Nd) : (reN f n).f0 = n.f0 := by
  unfold reN
  split
  · rfl
  · split <;> rfl
theorem re_f0 (f : Nat → Int) (n : Nd) : (normN (reN f n)).f0 = n.f0 := by rw [normN_f0, reN_f0]
theorem parts_re (f : Nat → Int) (n : Nd) (x : Int) : x ∈ partsB (normN (reN f n)) ↔ ∃ y ∈ partsB n, x = f y.toNat := by
  unfold partsB
  rw [re_f0]
  by_cases h1 : cnt n.f0 = 1
  · rw [if_pos h1, if_pos h1]
    have e : normN (reN f n) = ⟨n.f0, f n.f1.toNat, 0⟩ := by
      unfold normN reN
      rw [if_pos h1]
      rw [if_neg (fun h => by have := h.1; simp only at this; rw [this] at h1; revert h1; decide)]
    rw [e]
    simp
  · rw [if_neg h1, if_neg h1]
    by_cases h2 : cnt n.f0 = 2
    · rw [if_pos h2, if_pos h2]
      have e : reN f n = ⟨n.f0, f n.f1.toNat, f n.f2.toNat⟩ := by
        unfold reN
        rw [if_neg h1, if_pos h2]
      unfold normN
      rw [e]
      split
      · simp only [List.mem_cons, List.mem_nil_iff, or_false]
        constructor
        · rintro (h | h)
          · exact ⟨_, .inr rfl, h⟩
          · exact ⟨_, .inl rfl, h⟩
        · rintro ⟨y, rfl | rfl, h⟩
          · exact .inr h
          · exact .inl h
      · simp only [List.mem_cons, List.mem_nil_iff, or_false]
        constructor
        · rintro (h | h)
          · exact ⟨_, .inl rfl, h⟩
          · exact ⟨_, .inr rfl, h⟩
        · rintro ⟨y, rfl | rfl, h⟩
          · exact .inl h
          · exact .inr h
    · rw [if_neg h2, if_neg h2]
      simp
theorem re_same {f g : Nat → Int} {n : Nd} (h : ∀ y ∈ partsB n, f y.toNat = g y.toNat) : reN f n = reN g n := by
  unfold reN
  by_cases h1 : cnt n.f0 = 1
  · rw [if_pos h1, if_pos h1, h n.f1 (by unfold partsB; rw [if_pos h1]; simp)]
  · rw [if_neg h1, if_neg h1]
    by_cases h2 : cnt n.f0 = 2
    · rw [if_pos h2, if_pos h2, h n.f1 (by unfold partsB; rw [if_neg h1, if_pos h2]; simp), h n.f2 (by unfold partsB; rw [if_neg h1, if_pos h2]; simp)]
    · rw [if_neg h2, if_neg h2]
theorem right_cases {n : Nd} {i : Nat} (h : nOk n i = true) : (cnt n.f0 = 0 ∧ n.f2 = 0) ∨ (cnt n.f0 = 1 ∧ n.f2 = 0) ∨ (cnt n.f0 = 2 ∧ (n.f0 = 8 → n.f1 ≤ n.f2)) := by
  unfold nOk at h
  by_cases h0 : cnt n.f0 = 0
  · rw [if_pos h0] at h
    simp only [Bool.and_eq_true, decide_eq_true_eq] at h
    exact .inl ⟨h0, h.2⟩
  · rw [if_neg h0] at h
    by_cases h1 : cnt n.f0 = 1
    · rw [if_pos h1] at h
      simp only [Bool.and_eq_true, decide_eq_true_eq] at h
      exact .inr (.inl ⟨h1, h.2⟩)
    · rw [if_neg h1] at h
      by_cases h2 : cnt n.f0 = 2
      · rw [if_pos h2] at h
        simp only [Bool.and_eq_true, decide_eq_true_eq] at h
        exact .inr (.inr ⟨h2, h.2.2⟩)
      · rw [if_neg h2] at h
        exact absurd h (by simp)
theorem re_0 (f : Nat → Int) {k : Int} (h : cnt k = 0) (x y : Int) : reN f ⟨k, x, y⟩ = ⟨k, x, 0⟩ := by
  unfold reN
  rw [if_neg (show ¬ cnt k = 1 by omega), if_neg (show ¬ cnt k = 2 by omega)]
theorem re_1 (f : Nat → Int) {k : Int} (h : cnt k = 1) (x y : Int) : reN f ⟨k, x, y⟩ = ⟨k, f x.toNat, 0⟩ := by
  unfold reN
  rw [if_pos (show cnt k = 1 from h)]
theorem re_2 (f : Nat → Int) {k : Int} (h : cnt k = 2) (x y : Int) : reN f ⟨k, x, y⟩ = ⟨k, f x.toNat, f y.toNat⟩ := by
  unfold reN
  rw [if_neg (show ¬ cnt k = 1 by omega), if_pos (show cnt k = 2 from h)]
theorem norm_ne {k : Int} (h : ¬ k = 8) (x y : Int) : normN ⟨k, x, y⟩ = ⟨k, x, y⟩ := by
  unfold normN
  rw [if_neg (fun a => h a.1)]
theorem ne8_0 {k : Int} (h : cnt k = 0) : ¬ k = 8 := fun a => by rw [a] at h; revert h; decide
theorem ne8_1 {k : Int} (h : cnt k = 1) : ¬ k = 8 := fun a => by rw [a] at h; revert h; decide
theorem re_id {f : Nat → Int} {n : Nd} {i : Nat} (hn : nOk n i = true) (h : ∀ y ∈ partsB n, f y.toNat = y) : normN (reN f n) = n := by
  obtain ⟨k, x, y⟩ := n
  rcases right_cases hn with ⟨h0, e⟩ | ⟨h1, e⟩ | ⟨h2, e⟩
  · simp only at h0 e
    subst e
    rw [re_0 f h0, norm_ne (ne8_0 h0)]
  · simp only at h1 e
    subst e
    have := h x (by unfold partsB; rw [if_pos (show cnt k = 1 from h1)]; simp)
    rw [re_1 f h1, norm_ne (ne8_1 h1), this]
  · simp only at h2 e
    have n1 : ¬ cnt k = 1 := by omega
    have hx := h x (by unfold partsB; rw [if_neg n1, if_pos (show cnt k = 2 from h2)]; simp)
    have hy := h y (by unfold partsB; rw [if_neg n1, if_pos (show cnt k = 2 from h2)]; simp)
    rw [re_2 f h2, hx, hy]
    unfold normN
    rw [if_neg (fun a => by have a1 := e a.1; have a2 := a.2; simp only at a2; omega)]
theorem node_one {l : List Nd} (hok : poolOkB l = true) {i j : Nat} (hi : i < l.length) (hj : j < l.length) (h : l[i] = l[j]) : i = j := by
  rcases Nat.lt_trichotomy i j with h1 | h1 | h1
  · refine absurd ?_ (ok_at hok j hj).1
    rw [← h]
    exact List.mem_take_iff_getElem.2 ⟨i, by omega, rfl⟩
  · exact h1
  · refine absurd ?_ (ok_at hok i hi).1
    rw [h]
    exact List.mem_take_iff_getElem.2 ⟨j, by omega, rfl⟩
theorem at_pre {q Q : List Nd} (h : q <+: Q) {i : Nat} (hi : i < q.length) : ∃ hi' : i < Q.length, Q[i] = q[i] := by
  obtain ⟨z, rfl⟩ := h
  exact ⟨by rw [List.length_append]; omega, List.getElem_append_left hi⟩
theorem add_pre (p : List Nd) (y : Nd) : p <+: (addN p y).1 := by
  unfold addN
  repeat' split
  all_goals first | exact List.prefix_refl _ | exact List.prefix_append _ _
theorem add_at {p : List Nd} {y : Nd} (h : ¬ (addN p y).2 < 0) : ∃ i : Nat, ∃ hi : i < (addN p y).1.length, (addN p y).2 = i ∧ (addN p y).1[i] = y := by
  by_cases hf : findN p y ≥ 0
  · have e : addN p y = (p, findN p y) := by unfold addN; rw [if_pos hf]
    obtain ⟨i, hi, e1, e2⟩ := findN_at hf
    rw [e]
    exact ⟨i, hi, e1, e2⟩
  · by_cases hr : nOk y p.length = true
    · by_cases h5 : p.length = 500
      · have e : addN p y = (p, -1) := by unfold addN; rw [if_neg hf, if_pos hr, if_pos h5]
        rw [e] at h
        exact absurd (show (-1 : Int) < 0 by omega) h
      · have e : addN p y = (p ++ [y], (p.length : Int)) := by unfold addN; rw [if_neg hf, if_pos hr, if_neg h5]
        rw [e]
        exact ⟨p.length, by simp, rfl, by simp⟩
    · have e : addN p y = (p, -1) := by unfold addN; rw [if_neg hf, if_neg hr]
      rw [e] at h
      exact absurd (show (-1 : Int) < 0 by omega) h
theorem add_again {q : List Nd} (hok : poolOkB q = true) {i : Nat} (hi : i < q.length) {y : Nd} (e : q[i] = y) : addN q y = (q, (i : Int)) := by
  have hf : findN q y = i := by
    rw [← e]
    exact (find_at q i hi).2 (ok_at hok i hi).1
  unfold addN
  rw [if_pos (by omega), hf]
theorem add_ok {p : List Nd} (hp : poolOkB p = true) (y : Nd) : poolOkB (addN p y).1 = true := ok_add hp y
def Good (p : List Nd) (I : Nat → Bool) (a b : Int) (i : Nat) (Q : List Nd) (F : Nat → Int) : Prop :=
  ∀ j, j < i → I j = true → if (j : Int) = a then F j = b else ∃ m : Nat, ∃ hm : m < Q.length, F j = m ∧ Q[m] = normN (reN F (p.getD j zN))
theorem parts_lt {p : List Nd} (hp : poolOkB p = true) {j : Nat} (hj : j < p.length) : ∀ y ∈ partsB (p.getD j zN), 0 ≤ y ∧ y < (j : Int) := by
  rw [getD_at p j hj]
  exact parts_in (ok_at hp j hj).2
theorem carry_good {p : List Nd} (hp : poolOkB p = true) (I : Nat → Bool) (a b : Int) : ∀ (d i : Nat) (q : List Nd) (f : Nat → Int), i + d ≤ p.length → poolOkB q = true → Good p I a b i q f →
    ∀ Q F, carry p I a b d i q f = some (Q, F) → poolOkB Q = true ∧ q <+: Q ∧ Good p I a b (i + d) Q F
  | 0, i, q, f, hi, hq, hg, Q, F, h => by
    unfold carry at h
    simp only [Option.some.injEq, Prod.mk.injEq] at h
    obtain ⟨rfl, rfl⟩ := h
    exact ⟨hq, List.prefix_refl _, hg⟩
  | d + 1, i, q, f, hi, hq, hg, Q, F, h => by
    have keep : ∀ (q' : List Nd) (v : Int), q <+: q' → ∀ j, j < i → I j = true → if (j : Int) = a then upd f i v j = b else ∃ m : Nat, ∃ hm : m < q'.length, upd f i v j = m ∧ q'[m] = normN (reN (upd f i v) (p.getD j zN)) := by
      intro q' v hpre j hj hI
      have := hg j hj hI
      rw [upd_far (by omega)]
      by_cases e : (j : Int) = a
      · rw [if_pos e] at this ⊢
        exact this
      · rw [if_neg e] at this ⊢
        obtain ⟨m, hm, e1, e2⟩ := this
        obtain ⟨hm', e3⟩ := at_pre hpre hm
        refine ⟨m, hm', e1, ?_⟩
        rw [e3, e2]
        congr 1
        exact re_same (fun y hy => by have := parts_lt hp (j := j) (by omega) y hy; rw [upd_far (by omega)])
    unfold carry at h
    by_cases hI : I i = true
    · rw [if_pos hI] at h
      by_cases e : (i : Int) = a
      · rw [if_pos e] at h
        have := carry_good hp I a b d (i + 1) q (upd f i b) (by omega) hq (fun j hj hj2 => by
          by_cases ej : j = i
          · subst ej
            rw [if_pos e, upd_at]
          · exact keep q b (List.prefix_refl _) j (by omega) hj2) Q F h
        rw [show i + (d + 1) = i + 1 + d by omega]
        exact this
      · rw [if_neg e] at h
        by_cases hv : (addN q (normN (reN f (p.getD i zN)))).2 < 0
        · rw [if_pos hv] at h
          exact absurd h (by simp)
        · rw [if_neg hv] at h
          obtain ⟨m, hm, e1, e2⟩ := add_at hv
          have hpre := add_pre q (normN (reN f (p.getD i zN)))
          obtain ⟨h1, h2, h3⟩ := carry_good hp I a b d (i + 1) _ _ (by omega) (add_ok hq _) (fun j hj hj2 => by
            by_cases ej : j = i
            · subst ej
              rw [if_neg e, upd_at]
              refine ⟨m, hm, e1, ?_⟩
              rw [e2]
              congr 1
              exact re_same (fun y hy => by have := parts_lt hp (j := j) (by omega) y hy; rw [upd_far (by omega)])
            · exact keep _ _ hpre j (by omega) hj2) Q F h
          rw [show i + (d + 1) = i + 1 + d by omega]
          exact ⟨h1, hpre.trans h2, h3⟩
    · rw [if_neg hI] at h
      have := carry_good hp I a b d (i + 1) q f (by omega) hq (fun j hj hj2 => by
        by_cases ej : j = i
        · subst ej; exact absurd hj2 hI
        · exact hg j (by omega) hj2) Q F h
      rw [show i + (d + 1) = i + 1 + d by omega]
      exact this
theorem ins_trans {l : List Nd} (hok : poolOkB l = true) : ∀ (n t : Nat), t ≤ n → t < l.length → ∀ j y, ins l t j = true → ins l j y = true → ins l t y = true
  | n, t, hn, ht, j, y, h1, h2 => by
    rcases (ins_parts hok ht j).1 h1 with rfl | ⟨q, hq, h3⟩
    · exact h2
    · have hb := parts_in (ok_at hok t ht).2 q hq
      cases n with
      | zero => omega
      | succ n => exact (ins_parts hok ht y).2 (.inr ⟨q, hq, ins_trans hok n q.toNat (by omega) (by omega) j y h3 h2⟩)
theorem ins_le {l : List Nd} (hok : poolOkB l = true) {t j : Nat} (ht : t < l.length) (h : ins l t j = true) : j ≤ t := by
  by_cases e : t < j
  · rw [ins_far hok ht e] at h; exact absurd h (by simp)
  · omega
theorem ins_part {l : List Nd} (hok : poolOkB l = true) {t j : Nat} (ht : t < l.length) (h : ins l t j = true) {y : Int} (hj : j < l.length) (hy : y ∈ partsB l[j]) : ins l t y.toNat = true := by
  have hb := parts_in (ok_at hok j hj).2 y hy
  exact ins_trans hok t t (Nat.le_refl _) ht j y.toNat h ((ins_parts hok hj y.toNat).2 (.inr ⟨y, hy, ins_self hok (by omega)⟩))
theorem ins_pre {p Q : List Nd} (hp : poolOkB p = true) (hQ : poolOkB Q = true) (h : p <+: Q) : ∀ (n x : Nat), x ≤ n → x < p.length → ∀ y, ins Q x y = true ↔ ins p x y = true
  | n, x, hn, hx, y => by
    obtain ⟨hx', e⟩ := at_pre h hx
    rw [ins_parts hQ hx', ins_parts hp hx, e]
    have : ∀ q ∈ partsB p[x], (ins Q q.toNat y = true ↔ ins p q.toNat y = true) := by
      intro q hq
      have hb := parts_in (ok_at hp x hx).2 q hq
      cases n with
      | zero => omega
      | succ n => exact ins_pre hp hQ h n q.toNat (by omega) (by omega) y
    constructor
    · rintro (h1 | ⟨q, hq, h1⟩)
      · exact .inl h1
      · exact .inr ⟨q, hq, (this q hq).1 h1⟩
    · rintro (h1 | ⟨q, hq, h1⟩)
      · exact .inl h1
      · exact .inr ⟨q, hq, (this q hq).2 h1⟩
theorem good_at {p Q : List Nd} {F : Nat → Int} {t : Nat} (hp : poolOkB p = true) (ht : t < p.length) (hQ : poolOkB Q = true) {a b : Int} (hG : Good p (ins p t) a b (t + 1) Q F) {j : Nat} (hj : ins p t j = true) (hne : (j : Int) ≠ a) : ∃ hjp : j < p.length, ∃ m : Nat, ∃ hm : m < Q.length, F j = m ∧ Q[m] = normN (reN F p[j]) := by
  have hle := ins_le hp ht hj
  have := hG j (by omega) hj
  rw [if_neg hne, getD_at p j (by omega)] at this
  exact ⟨by omega, this⟩
theorem good_a {p Q : List Nd} {F : Nat → Int} {t : Nat} (hp : poolOkB p = true) (ht : t < p.length) (hQ : poolOkB Q = true) {a b : Int} (hG : Good p (ins p t) a b (t + 1) Q F) {j : Nat} (hj : ins p t j = true) (he : (j : Int) = a) : F j = b := by
  have hle := ins_le hp ht hj
  have := hG j (by omega) hj
  rw [if_pos he] at this
  exact this
section
variable {p Q : List Nd} {F : Nat → Int} {t : Nat} (hp : poolOkB p = true) (ht : t < p.length) (hQ : poolOkB Q = true)
include hp ht hQ
theorem swap_in {x z : Nat} (hG : Good p (ins p t) (x : Int) (z : Int) (t + 1) Q F) (hz : z < Q.length) : ∀ (n j : Nat), j ≤ n → ins p t j = true → ins p j x = true → ∃ m : Nat, F j = m ∧ m < Q.length ∧ ins Q m z = true := by
  intro n
  induction n with
  | zero =>
    intro j hn hj hx
    by_cases e : j = x
    · subst e
      exact ⟨z, good_a hp ht hQ hG hj rfl, hz, ins_self hQ hz⟩
    · obtain ⟨hjp, m, hm, e1, e2⟩ := good_at hp ht hQ hG hj (by omega)
      rcases (ins_parts hp hjp x).1 hx with h | ⟨y, hy, h⟩
      · omega
      · have := parts_in (ok_at hp j hjp).2 y hy
        omega
  | succ n ih =>
    intro j hn hj hx
    by_cases e : j = x
    · subst e
      exact ⟨z, good_a hp ht hQ hG hj rfl, hz, ins_self hQ hz⟩
    · obtain ⟨hjp, m, hm, e1, e2⟩ := good_at hp ht hQ hG hj (by omega)
      rcases (ins_parts hp hjp x).1 hx with h | ⟨y, hy, h⟩
      · omega
      · have hb := parts_in (ok_at hp j hjp).2 y hy
        obtain ⟨m', f1, f2, f3⟩ := ih y.toNat (by omega) (ins_part hp ht hj hjp hy) h
        refine ⟨m, e1, hm, (ins_parts hQ hm z).2 (.inr ⟨(m' : Int), ?_, by rw [Int.toNat_natCast]; exact f3⟩)⟩
        rw [e2, parts_re]
        exact ⟨y, hy, f1.symm⟩
theorem swap_id {a b : Int} (hpre : p <+: Q) {x : Nat} (ha : a = (x : Int)) (hG : Good p (ins p t) a b (t + 1) Q F) : ∀ (n j : Nat), j ≤ n → ins p t j = true → ¬ ins p j x = true → F j = (j : Int) := by
  intro n
  induction n with
  | zero =>
    intro j hn hj hx
    have hjp : j < p.length := by have := ins_le hp ht hj; omega
    have hne : (j : Int) ≠ a := fun e => hx (by have e2 : j = x := (by omega); rw [← e2]; exact ins_self hp hjp)
    obtain ⟨_, m, hm, e1, e2⟩ := good_at hp ht hQ hG hj hne
    rw [re_id (ok_at hp j hjp).2 (fun y hy => by have := parts_in (ok_at hp j hjp).2 y hy; omega)] at e2
    obtain ⟨hj', e3⟩ := at_pre hpre hjp
    rw [e1, node_one hQ hm hj' (by rw [e2, e3])]
  | succ n ih =>
    intro j hn hj hx
    have hjp : j < p.length := by have := ins_le hp ht hj; omega
    have hne : (j : Int) ≠ a := fun e => hx (by have e2 : j = x := (by omega); rw [← e2]; exact ins_self hp hjp)
    obtain ⟨_, m, hm, e1, e2⟩ := good_at hp ht hQ hG hj hne
    rw [re_id (ok_at hp j hjp).2 (fun y hy => by
      have hb := parts_in (ok_at hp j hjp).2 y hy
      have := ih y.toNat (by omega) (ins_part hp ht hj hjp hy) (fun h => hx ((ins_parts hp hjp x).2 (.inr ⟨y, hy, h⟩)))
      rw [this]; omega)] at e2
    obtain ⟨hj', e3⟩ := at_pre hpre hjp
    rw [e1, node_one hQ hm hj' (by rw [e2, e3])]
theorem swap_out (hpre : p <+: Q) {x z : Nat} (hx : x < p.length) (hz : z < p.length) (hG : Good p (ins p t) (x : Int) (z : Int) (t + 1) Q F) (h1 : ¬ ins p z x = true) (h2 : ¬ ins p x z = true) :
    ∀ (n j : Nat), j ≤ n → ins p t j = true → ∃ m : Nat, F j = m ∧ m < Q.length ∧ ¬ ins Q m x = true := by
  have hzQ : z < Q.length := by obtain ⟨h, _⟩ := at_pre hpre hz; exact h
  obtain ⟨hxQ, exQ⟩ := at_pre hpre hx
  have base : ¬ ins Q z x = true := fun h => h1 ((ins_pre hp hQ hpre z z (Nat.le_refl _) hz x).1 h)
  intro n
  induction n with
  | zero =>
    intro j hn hj
    by_cases e : j = x
    · subst e
      exact ⟨z, good_a hp ht hQ hG hj rfl, hzQ, base⟩
    · obtain ⟨hjp, m, hm, e1, e2⟩ := good_at hp ht hQ hG hj (by omega)
      refine ⟨m, e1, hm, fun h => ?_⟩
      have hno : ∀ y ∈ partsB p[j], False := fun y hy => by have := parts_in (ok_at hp j hjp).2 y hy; omega
      rw [re_id (ok_at hp j hjp).2 (fun y hy => (hno y hy).elim)] at e2
      rcases (ins_parts hQ hm x).1 h with rfl | ⟨y, hy, h⟩
      · exact e (node_one hp hjp hx (by rw [← e2, exQ]))
      · rw [e2] at hy
        exact hno y hy
  | succ n ih =>
    intro j hn hj
    by_cases e : j = x
    · subst e
      exact ⟨z, good_a hp ht hQ hG hj rfl, hzQ, base⟩
    · obtain ⟨hjp, m, hm, e1, e2⟩ := good_at hp ht hQ hG hj (by omega)
      refine ⟨m, e1, hm, fun h => ?_⟩
      rcases (ins_parts hQ hm x).1 h with rfl | ⟨y', hy', h⟩
      · by_cases hin : ∃ y ∈ partsB p[j], ins p y.toNat x = true
        · obtain ⟨y, hy, hyx⟩ := hin
          have hb := parts_in (ok_at hp j hjp).2 y hy
          obtain ⟨m', f1, f2, f3⟩ := swap_in hp ht hQ hG hzQ y.toNat y.toNat (Nat.le_refl _) (ins_part hp ht hj hjp hy) hyx
          have hpart : (m' : Int) ∈ partsB p[x] := by
            rw [← exQ, e2, parts_re]
            exact ⟨y, hy, f1.symm⟩
          have hb2 := parts_in (ok_at hp x hx).2 _ hpart
          refine h2 ((ins_parts hp hx z).2 (.inr ⟨(m' : Int), hpart, ?_⟩))
          rw [Int.toNat_natCast]
          exact (ins_pre hp hQ hpre m' m' (Nat.le_refl _) (by omega) z).1 f3
        · rw [re_id (ok_at hp j hjp).2 (fun y hy => by
            have hb := parts_in (ok_at hp j hjp).2 y hy
            rw [swap_id hp ht hQ hpre rfl hG y.toNat y.toNat (Nat.le_refl _) (ins_part hp ht hj hjp hy) (fun h => hin ⟨y, hy, h⟩)]
            omega)] at e2
          exact e (node_one hp hjp hx (by rw [← e2, exQ]))
      · rw [e2, parts_re] at hy'
        obtain ⟨y, hy, rfl⟩ := hy'
        have hb := parts_in (ok_at hp j hjp).2 y hy
        obtain ⟨m', f1, f2, f3⟩ := ih y.toNat (by omega) (ins_part hp ht hj hjp hy)
        rw [f1, Int.toNat_natCast] at h
        exact f3 h
end
theorem carry_still {p : List Nd} (hp : poolOkB p = true) {t : Nat} (ht : t < p.length) (a b : Int) (hab : ∀ j : Nat, ins p t j = true → (j : Int) = a → b = a) : ∀ (d i : Nat) (f : Nat → Int), i + d ≤ t + 1 → (∀ j, j < i → ins p t j = true → f j = (j : Int)) →
    ∃ F, carry p (ins p t) a b d i p f = some (p, F) ∧ ∀ j, j < i + d → ins p t j = true → F j = (j : Int)
  | 0, i, f, hi, hf => ⟨f, rfl, hf⟩
  | d + 1, i, f, hi, hf => by
    unfold carry
    by_cases hI : ins p t i = true
    · rw [if_pos hI]
      have step : ∀ v : Int, v = (i : Int) → ∀ j, j < i + 1 → ins p t j = true → upd f i v j = (j : Int) := by
        intro v hv j hj hj2
        by_cases e : j = i
        · subst e; rw [upd_at, hv]
        · rw [upd_far e]; exact hf j (by omega) hj2
      by_cases e : (i : Int) = a
      · rw [if_pos e]
        have := carry_still hp ht a b hab d (i + 1) (upd f i b) (by omega) (step b (by rw [hab i hI e, e]))
        rw [show i + (d + 1) = i + 1 + d by omega]
        exact this
      · rw [if_neg e]
        have hip : i < p.length := by omega
        have e1 : normN (reN f (p.getD i zN)) = p[i] := by
          rw [getD_at p i hip]
          refine re_id (ok_at hp i hip).2 (fun y hy => ?_)
          have hb := parts_in (ok_at hp i hip).2 y hy
          rw [hf y.toNat (by omega) (ins_part hp ht hI hip hy)]
          omega
        rw [e1, add_again hp hip rfl, if_neg (by show ¬ (i : Int) < 0; omega)]
        have := carry_still hp ht a b hab d (i + 1) (upd f i (i : Int)) (by omega) (step _ rfl)
        rw [show i + (d + 1) = i + 1 + d by omega]
        exact this
    · rw [if_neg hI]
      have := carry_still hp ht a b hab d (i + 1) f (by omega) (fun j hj hj2 => by
        by_cases e : j = i
        · subst e; exact absurd hj2 hI
        · exact hf j (by omega) hj2)
      rw [show i + (d + 1) = i + 1 + d by omega]
      exact this
end Go.Proofs.Ytobkledmbnacjaa.Lib
