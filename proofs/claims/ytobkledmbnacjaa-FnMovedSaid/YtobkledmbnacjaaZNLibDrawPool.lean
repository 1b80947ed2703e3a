/- The reference's drawn pools: whatever the bytes are, a pool is drawn, and a term. No conditions but lengths. -/
import Derived.Test.YtobkledmbnacjaaZNLibOkAdd
import Derived.Test.YtobkledmbnacjaaZNLibAdd
import Derived.Test.YtobkledmbnacjaaZNLibDraw
import Derived.Test.YtobkledmbnacjaaZNMg0
import Derived.Test.YtobkledmbnacjaaZNMg3
import Derived.Test.YtobkledmbnacjaaZNMg4
set_option linter.unusedVariables false
set_option linter.unusedSimpArgs false
namespace Go.Proofs.Ytobkledmbnacjaa.Lib
open Go.RowKit Go.Proofs.Ytobkledmbnacjaa.M Go.Proofs.YtobkledmbnacjaaW.PrintWords Go.Proofs.YtobkledmbnacjaaW.PrintLast
theorem draw_ok {b : List Int} {i : Int} (h n : Int) (hc : CurOk b i) : ∃ x i' h', Ev (fun k => spec_l1Draw.f k b i h n) (x, i', h') ∧ CurOk b i' := by
  have hj : ∀ (c : Bool) (i h : Int), CurOk b i → ∃ x i' h', Ev (fun k => spec_l1Draw.j0 k n c b i h) (x, i', h') ∧ CurOk b i' := by
    intro c i h hc
    cases c with
    | true =>
      obtain ⟨x, i1, h1, e1, _, _, _, hc1⟩ := below_ok h 6 hc
      refine ⟨_, i1, h1, Ev.step (f := fun k => some (wrap64 (wrap64 (n - 1) - x), i1, h1)) (fun k => ?_) (ev_some _), hc1⟩
      simp only [spec_l1Draw.j0, if_true, e1, Option.bind_some]
    | false =>
      obtain ⟨x, i1, h1, e1, _, _, _, hc1⟩ := below_ok h n hc
      refine ⟨x, i1, h1, Ev.step (f := fun k => some (x, i1, h1)) (fun k => ?_) (ev_some _), hc1⟩
      simp only [spec_l1Draw.j0, e1, Option.bind_some]
      rw [if_neg (by simp)]
  unfold spec_l1Draw.f
  by_cases hn : n > 6
  · obtain ⟨c, i1, h1, e1, hc1⟩ := once_ok h 2 hc
    obtain ⟨x, i2, h2, e2, hc2⟩ := hj c i1 h1 hc1
    exact ⟨x, i2, h2, ev_if_pos hn (ev_bind_const e1 e2), hc2⟩
  · obtain ⟨x, i2, h2, e2, hc2⟩ := hj false i h hc
    exact ⟨x, i2, h2, ev_if_neg hn e2, hc2⟩
theorem drawNode_ok {b : List Int} {i : Int} (h n : Int) (hc : CurOk b i) : ∃ x y z i' h', Ev (fun k => spec_l1DrawNode.f k b i h n) (x, y, z, i', h') ∧ CurOk b i' := by
  have hj : ∀ (c : Bool) (i h : Int), CurOk b i → ∃ x y z i' h', Ev (fun k => spec_l1DrawNode.j0 k n c b i h) (x, y, z, i', h') ∧ CurOk b i' := by
    intro c i h hc
    cases c with
    | true =>
      obtain ⟨x, i1, h1, e1, _, hc1⟩ := pickInt_ok h ([0, 1, 5, 6, 50, 51, 62, 90, 91, 100, 101, 102, 199] : List Int) (by simp) hc
      refine ⟨1, x, 0, i1, h1, Ev.step (f := fun k => some (1, x, 0, i1, h1)) (fun k => ?_) (ev_some _), hc1⟩
      simp only [spec_l1DrawNode.j0, if_true, e1, Option.bind_some]
    | false =>
      obtain ⟨x, i1, h1, e1, hc1⟩ := draw_ok h 7 hc
      obtain ⟨y, i2, h2, e2, hc2⟩ := draw_ok h1 n hc1
      obtain ⟨z, i3, h3, e3, hc3⟩ := draw_ok h2 n hc2
      by_cases hp : cnt (wrap64 (2 + x)) = 2
      · refine ⟨wrap64 (2 + x), y, z, i3, h3, Ev.step (f := fun k => (spec_l1Draw.f k b i h 7).bind fun b1 => (spec_l1Draw.f k b b1.2.1 b1.2.2 n).bind fun b2 => (spec_l1Parts.f k (wrap64 (2 + b1.1))).bind fun t => if t = 2 then ((spec_l1Draw.f k b b2.2.1 b2.2.2 n).bind fun b3 => some (wrap64 (2 + b1.1), b2.1, b3.1, b3.2.1, b3.2.2)) else some (wrap64 (2 + b1.1), b2.1, 0, b2.2.1, b2.2.2)) (fun k => ?_) ?_, hc3⟩
        · simp only [spec_l1DrawNode.j0]
          rw [if_neg (by simp)]
        · exact ev_bind e1 (ev_bind e2 (ev_bind (specParts_ev _) (ev_if_pos hp (ev_bind e3 (ev_some _)))))
      · refine ⟨wrap64 (2 + x), y, 0, i2, h2, Ev.step (f := fun k => (spec_l1Draw.f k b i h 7).bind fun b1 => (spec_l1Draw.f k b b1.2.1 b1.2.2 n).bind fun b2 => (spec_l1Parts.f k (wrap64 (2 + b1.1))).bind fun t => if t = 2 then ((spec_l1Draw.f k b b2.2.1 b2.2.2 n).bind fun b3 => some (wrap64 (2 + b1.1), b2.1, b3.1, b3.2.1, b3.2.2)) else some (wrap64 (2 + b1.1), b2.1, 0, b2.2.1, b2.2.2)) (fun k => ?_) ?_, hc2⟩
        · simp only [spec_l1DrawNode.j0]
          rw [if_neg (by simp)]
        · exact ev_bind e1 (ev_bind e2 (ev_bind (specParts_ev _) (ev_if_neg hp (ev_some _))))
  unfold spec_l1DrawNode.f
  by_cases hn : n = 0
  · obtain ⟨x, y, z, i2, h2, e2, hc2⟩ := hj true i h hc
    exact ⟨x, y, z, i2, h2, ev_if_pos hn e2, hc2⟩
  · obtain ⟨c, i1, h1, e1, hc1⟩ := once_ok h 4 hc
    obtain ⟨x, y, z, i2, h2, e2, hc2⟩ := hj c i1 h1 hc1
    exact ⟨x, y, z, i2, h2, ev_if_neg hn (ev_bind_const e1 e2), hc2⟩
theorem drawPool_loop {b : List Int} (m : Nat) (hm : m ≤ 1000) : ∀ (n j : Nat) (p : List Nd) (i h : Int), m - j = n → j ≤ m → poolOkB p = true → CurOk b i →
    ∃ q i' h', Ev (fun k => spec_l1DrawPool.l0 k m j b i h p) (q, i', h') ∧ poolOkB q = true ∧ q.length + j ≤ p.length + m ∧ CurOk b i'
  | 0, j, p, i, h, hn, hj, hp, hc => by
    refine ⟨p, i, h, Ev.step (f := fun k => some (p, i, h)) (fun k => ?_) (ev_some _), hp, by omega, hc⟩
    simp only [spec_l1DrawPool.l0]
    rw [if_neg (by omega)]
  | n + 1, j, p, i, h, hn, hj, hp, hc => by
    have hl := ok_len hp
    obtain ⟨x, y, z, i1, h1, e1, hc1⟩ := drawNode_ok h (p.length : Int) hc
    obtain ⟨q, i2, h2, e2, hq, hlen, hc2⟩ := drawPool_loop m hm n (j + 1) (addN p (normN ⟨x, y, z⟩)).1 i1 h1 (by omega) (by omega) (ok_add hp _) hc1
    have := (addN_len p (normN ⟨x, y, z⟩)).1
    refine ⟨q, i2, h2, Ev.step (f := fun k => (spec_l1DrawNode.f k b i h (p.length : Int)).bind fun b1 => (spec_l1Add.f k p b1.1 b1.2.1 b1.2.2.1).bind fun b2 => spec_l1DrawPool.l0 k m (j + 1 : Nat) b b1.2.2.2.1 b1.2.2.2.2 b2.1) (fun k => ?_) ?_, hq, by omega, hc2⟩
    · simp only [spec_l1DrawPool.l0]
      rw [if_pos (by omega), wrap_succ (by omega)]
    · exact ev_bind e1 (ev_bind (specAdd_ev p ⟨x, y, z⟩ (by omega)) e2)
theorem drawPool_ok {b : List Int} {i : Int} (h : Int) (n : Nat) (hn : n ≤ 100) (hc : CurOk b i) :
    ∃ q i' h', Ev (fun k => spec_l1DrawPool.f k b i h n) (q, i', h') ∧ poolOkB q = true ∧ q.length ≤ n ∧ CurOk b i' := by
  unfold spec_l1DrawPool.f
  obtain ⟨x, i1, h1, e1, hx0, hx1, _, hc1⟩ := below_ok h ((n : Int) + 1) hc
  have hx := hx1 (by omega)
  obtain ⟨m, rfl⟩ : ∃ m : Nat, x = m := ⟨x.toNat, by omega⟩
  obtain ⟨q, i2, h2, e2, hq, hlen, hc2⟩ := drawPool_loop m (by omega) m 0 [] i1 h1 (by omega) (by omega) ok_nil hc1
  refine ⟨q, i2, h2, ?_, hq, by simp at hlen; omega, hc2⟩
  rw [wrap_id (by omega) (by omega)]
  exact ev_bind_const e1 (by simpa using e2)
theorem fill_step {p : List Nd} (hp : poolOkB p = true) (hl : p.length < 500) :
    p.length < (addN (addN p (normN ⟨1, (p.length : Int) % 200, 0⟩)).1 (normN ⟨5, (((addN p (normN ⟨1, (p.length : Int) % 200, 0⟩)).1.length : Int) - 1), 0⟩)).1.length := by
  have hq := ok_add hp (normN ⟨1, (p.length : Int) % 200, 0⟩)
  have hlen := addN_len p (normN ⟨1, (p.length : Int) % 200, 0⟩)
  have hpos : 0 < (addN p (normN ⟨1, (p.length : Int) % 200, 0⟩)).1.length := by
    by_cases h0 : p.length = 0
    · have hp0 : p = [] := List.eq_nil_of_length_eq_zero h0
      subst hp0
      decide
    · omega
  generalize (addN p (normN ⟨1, (p.length : Int) % 200, 0⟩)).1 = q at hq hlen hpos
  have hn : normN ⟨5, ((q.length : Int) - 1), 0⟩ = ⟨5, ((q.length : Int) - 1), 0⟩ := by simp [normN]
  rw [hn]
  by_cases h5 : q.length = 500
  · have := (addN_len q ⟨5, ((q.length : Int) - 1), 0⟩).2
    omega
  · have hc5 : cnt 5 = 1 := by decide
    have hf : ¬ findN q ⟨5, ((q.length : Int) - 1), 0⟩ ≥ 0 := by
      intro hf
      obtain ⟨j, hj, _, e⟩ := findN_at hf
      have hr := ok_right hq j hj
      rw [e] at hr
      unfold nOk at hr
      simp only [hc5] at hr
      rw [if_neg (by omega), if_pos trivial] at hr
      simp at hr
      omega
    have hr : nOk ⟨5, ((q.length : Int) - 1), 0⟩ q.length = true := by
      unfold nOk
      simp only [hc5]
      rw [if_neg (by omega), if_pos trivial]
      simp
      omega
    unfold addN
    rw [if_neg hf, if_pos hr, if_neg h5]
    simp
    omega
theorem fill_loop {b : List Int} (i h : Int) : ∀ (n : Nat) (p : List Nd), 500 - p.length = n → poolOkB p = true → ∃ q, Ev (fun k => spec_l1DrawAny.l0 k b i h p) (q, i, h) ∧ poolOkB q = true := by
  intro n
  induction n using Nat.strongRecOn with
  | ind n ihn =>
    intro p hn hp
    have hl := ok_len hp
    by_cases h5 : p.length < 500
    · have hs := fill_step hp h5
      have hq := ok_add hp (normN ⟨1, (p.length : Int) % 200, 0⟩)
      have hql := ok_len hq
      obtain ⟨q, e, hok⟩ := ihn _ (by omega) (addN (addN p (normN ⟨1, (p.length : Int) % 200, 0⟩)).1 (normN ⟨5, (((addN p (normN ⟨1, (p.length : Int) % 200, 0⟩)).1.length : Int) - 1), 0⟩)).1 rfl (ok_add hq _)
      refine ⟨q, Ev.step (f := fun k => (spec_l1Add.f k p 1 ((p.length : Int) % 200) 0).bind fun b1 => (spec_l1Add.f k b1.1 5 (wrap64 ((b1.1.length : Int) - 1)) 0).bind fun b2 => spec_l1DrawAny.l0 k b i h b2.1) (fun k => ?_) ?_, hok⟩
      · simp only [spec_l1DrawAny.l0]
        rw [if_pos (by omega)]
      · refine ev_bind (specAdd_ev p ⟨1, (p.length : Int) % 200, 0⟩ (by omega)) ?_
        have hw : wrap64 (((addN p (normN ⟨1, (p.length : Int) % 200, 0⟩)).1.length : Int) - 1) = ((addN p (normN ⟨1, (p.length : Int) % 200, 0⟩)).1.length : Int) - 1 := wrap_id (by omega) (by omega)
        show Ev (fun k => (spec_l1Add.f k (addN p (normN ⟨1, (p.length : Int) % 200, 0⟩)).1 5 (wrap64 (((addN p (normN ⟨1, (p.length : Int) % 200, 0⟩)).1.length : Int) - 1)) 0).bind fun b2 => spec_l1DrawAny.l0 k b i h b2.1) _
        rw [hw]
        exact ev_bind (specAdd_ev _ ⟨5, ((addN p (normN ⟨1, (p.length : Int) % 200, 0⟩)).1.length : Int) - 1, 0⟩ (by omega)) e
    · refine ⟨p, Ev.step (f := fun k => some (p, i, h)) (fun k => ?_) (ev_some _), hp⟩
      simp only [spec_l1DrawAny.l0]
      rw [if_neg (by omega)]
theorem drawAny_ok {b : List Int} {i : Int} (h : Int) (hc : CurOk b i) : ∃ q i' h', Ev (fun k => spec_l1DrawAny.f k b i h) (q, i', h') ∧ q.length ≤ 500 ∧ CurOk b i' := by
  have hj : ∀ (p : List Nd) (i h : Int), p.length ≤ 500 → CurOk b i → ∃ q i' h', Ev (fun k => spec_l1DrawAny.j0 k b i h p) (q, i', h') ∧ q.length ≤ 500 ∧ CurOk b i' := by
    intro p i h hp hc
    obtain ⟨c, i1, h1, e1, hc1⟩ := once_ok h 80 hc
    cases c with
    | true =>
      obtain ⟨q, e, hok⟩ := fill_loop (b := b) i1 h1 _ [] rfl ok_nil
      refine ⟨q, i1, h1, Ev.step (f := fun k => spec_l1DrawAny.l0 k b i1 h1 []) (fun k => ?_) e, ok_len hok, hc1⟩
      simp only [spec_l1DrawAny.j0, e1, Option.bind_some, if_true]
    | false =>
      refine ⟨p, i1, h1, Ev.step (f := fun k => some (p, i1, h1)) (fun k => ?_) (ev_some _), hp, hc1⟩
      simp only [spec_l1DrawAny.j0, e1, Option.bind_some]
      rw [if_neg (by simp)]
  unfold spec_l1DrawAny.f
  obtain ⟨p, i1, h1, e1, hp, hlen, hc1⟩ := drawPool_ok h 24 (by omega) hc
  obtain ⟨x, i2, h2, e2, _, _, _, hc2⟩ := below_ok h1 25 hc1
  by_cases h0 : x = 0
  · obtain ⟨a, c, d, i3, h3, e3, hc3⟩ := drawNode_ok h2 3 hc2
    obtain ⟨q, i4, h4, e4, hq, hc4⟩ := hj (p ++ [⟨a, c, d⟩]) i3 h3 (by simp; omega) hc3
    exact ⟨q, i4, h4, ev_bind e1 (ev_bind_const e2 (ev_if_pos h0 (ev_bind_const (specCopy_eq p (by omega)) (ev_bind e3 (ev_if_pos (by omega) e4))))), hq, hc4⟩
  · by_cases h1' : x = 1
    · obtain ⟨a, i3, h3, e3, _, _, _, hc3⟩ := below_ok h2 10 hc2
      obtain ⟨c, i4, h4, e4, _, _, _, hc4⟩ := below_ok h3 30 hc3
      obtain ⟨d, i5, h5, e5, _, _, _, hc5⟩ := below_ok h4 30 hc4
      obtain ⟨q, i6, h6, e6, hq, hc6⟩ := hj (p ++ [⟨a, wrap64 (c - 1), wrap64 (d - 1)⟩]) i5 h5 (by simp; omega) hc5
      exact ⟨q, i6, h6, ev_bind e1 (ev_bind_const e2 (ev_if_neg h0 (ev_if_pos h1' (ev_bind_const (specCopy_eq p (by omega)) (ev_bind_const e3 (ev_bind_const e4 (ev_bind_const e5 (ev_if_pos (by omega) e6)))))))), hq, hc6⟩
    · obtain ⟨q, i6, h6, e6, hq, hc6⟩ := hj p i2 h2 (by omega) hc2
      exact ⟨q, i6, h6, ev_bind e1 (ev_bind_const e2 (ev_if_neg h0 (ev_if_neg h1' e6))), hq, hc6⟩
theorem drawMax_eq (a b : Int) : spec_l1Max.f a b = some (mx a b) := by
  unfold spec_l1Max.f mx
  repeat' split
  all_goals first | rfl | (congr 1; omega)
theorem drawTerm_ok {b : List Int} {i : Int} (h : Int) (p : List Nd) (hc : CurOk b i) : ∃ x i' h', Ev (fun k => spec_l1DrawTerm.f k b i h p) (x, i', h') ∧ CurOk b i' := by
  unfold spec_l1DrawTerm.f
  obtain ⟨c, i1, h1, e1, hc1⟩ := once_ok h 25 hc
  cases c with
  | true =>
    obtain ⟨x, i2, h2, e2, _, hc2⟩ := pickInt_ok h1 ([(-1), (p.length : Int)] : List Int) (by simp) hc1
    exact ⟨x, i2, h2, ev_bind_const e1 (ev_if_pos rfl (ev_bind_const e2 (ev_some _))), hc2⟩
  | false =>
    obtain ⟨x, i2, h2, e2, hc2⟩ := draw_ok h1 (mx (p.length : Int) 1) hc1
    exact ⟨x, i2, h2, ev_bind_const e1 (ev_if_neg (by simp) (ev_bind_const (drawMax_eq _ _) (ev_bind e2 (ev_some _)))), hc2⟩
theorem drawBoth_ok (b : List Int) (hb : b.length ≤ 9223372036854775806) : ∃ q x, Ev (fun k => spec_l1DrawBoth.f k b) (q, x) ∧ q.length ≤ 500 := by
  unfold spec_l1DrawBoth.f
  obtain ⟨h, e⟩ := new_ok b hb
  obtain ⟨q, i1, h1, e1, hq, hc1⟩ := drawAny_ok h (cur_new b hb)
  obtain ⟨x, i2, h2, e2, hc2⟩ := drawTerm_ok h1 q hc1
  exact ⟨q, x, ev_bind e (ev_bind e1 (ev_bind e2 (ev_some _))), hq⟩
end Go.Proofs.Ytobkledmbnacjaa.Lib
