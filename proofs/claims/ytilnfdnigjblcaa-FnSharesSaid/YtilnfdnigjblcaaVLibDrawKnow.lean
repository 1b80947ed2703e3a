/- Draws of knowledge end. No conditions but lengths. -/
import Derived.Test.YtilnfdnigjblcaaVLibDrawPool
import Derived.Test.YtilnfdnigjblcaaVLibInts
import Derived.Test.YtilnfdnigjblcaaVHg4
import Derived.Test.YtilnfdnigjblcaaVHg5
set_option linter.unusedVariables false
set_option linter.unusedSimpArgs false
namespace Go.Proofs.Ytilnfdnigjblcaa.Lib
open Go.RowKit Go.Proofs.Ytilnfdnigjblcaa.H Go.Proofs.YtilnfdnigjblcaaW.PrintWords Go.Proofs.YtilnfdnigjblcaaW.PrintLast Go.Proofs.YtilnfdnigjblcaaW.PrintMore

theorem put_loop (l : List Int) (a : Int) (hl : l.length ≤ 1000000) : ∀ (n i : Nat) (x : List Int) (b : Bool), l.length - i = n → i ≤ l.length → x.length + n ≤ (if b = true then 3000001 else 3000000) → ∃ r, Ev (fun k => spec_l6Put.l0 k l a x b i) r ∧ r.length ≤ x.length + n + (if b = true then 0 else 1)
  | 0, i, x, b, hn, hi, hx => by
    have hx : x.length ≤ 3000001 := by revert hx; split <;> intro hx <;> omega
    cases b with
    | true =>
      refine ⟨x, Ev.step (fun k => by rw [spec_l6Put.l0]) (ev_if_neg (by omega) (ev_if_pos rfl (ev_some _))), by simp⟩
    | false =>
      refine ⟨x ++ [a], Ev.step (fun k => by rw [spec_l6Put.l0]) (ev_if_neg (by omega) (ev_if_neg (by simp) (ev_if_pos (by omega) (ev_some _)))), by simp⟩
  | n + 1, i, x, b, hn, hi, hx => by
    have hlt : i < l.length := by omega
    have hx' : x.length + n ≤ 3000000 := by revert hx; split <;> intro hx <;> omega
    cases b with
    | true =>
      obtain ⟨r, e, hr⟩ := put_loop l a hl n (i + 1) (x ++ [rd l i]) true (by omega) (by omega) (by simp at hx ⊢; omega)
      refine ⟨r, Ev.step (fun k => by rw [spec_l6Put.l0]) (ev_if_pos (by omega) (ev_if_pos rfl (ev_if_pos (by omega) (ev_if_pos (by omega) ?_)))), by simp at hr ⊢; omega⟩
      rw [wrap_succ (by omega)]
      exact e
    | false =>
      by_cases hg : rd l i > a
      · obtain ⟨r, e, hr⟩ := put_loop l a hl n (i + 1) (x ++ [a] ++ [rd l i]) true (by omega) (by omega) (by simp at hx ⊢; omega)
        refine ⟨r, Ev.step (fun k => by rw [spec_l6Put.l0]) (ev_if_pos (by omega) (ev_if_neg (by simp) (ev_if_pos (by omega) (ev_if_pos hg (ev_if_pos (by omega) ?_))))), by simp at hr ⊢; omega⟩
        refine ev_bind_const rfl (ev_if_pos (by simp; omega) ?_)
        rw [wrap_succ (by omega)]
        exact e
      · obtain ⟨r, e, hr⟩ := put_loop l a hl n (i + 1) (x ++ [rd l i]) false (by omega) (by omega) (by simp at hx ⊢; omega)
        refine ⟨r, Ev.step (fun k => by rw [spec_l6Put.l0]) (ev_if_pos (by omega) (ev_if_neg (by simp) (ev_if_pos (by omega) (ev_if_neg hg (ev_if_pos (by omega) ?_))))), by simp at hr ⊢; omega⟩
        rw [wrap_succ (by omega)]
        exact e
theorem put_ok (l : List Int) (a : Int) (hl : l.length ≤ 1000000) : ∃ r, Ev (fun k => spec_l6Put.f k l a) r ∧ r.length ≤ l.length + 1 := by
  obtain ⟨r, e, hr⟩ := put_loop l a hl l.length 0 [] (decide (a ∈ l)) (by omega) (by omega) (by split <;> simp <;> omega)
  refine ⟨r, ?_, by simp at hr; split at hr <;> omega⟩
  unfold spec_l6Put.f
  exact ev_bind (specKnowHas_ev l a (by omega)) e
theorem drawKnow_loop {b : List Int} (p : List Nd) (m : Nat) (hm : m ≤ 8) : ∀ (n j : Nat) (x : List Int) (i h : Int), m - j = n → j ≤ m → x.length + n ≤ 1000 → CurOk b i →
    ∃ r i' h', Ev (fun k => spec_l6DrawKnow.l0 k x m j b i h p) (r, i', h') ∧ r.length ≤ x.length + n ∧ CurOk b i'
  | 0, j, x, i, h, hn, hj, hx, hc => by
    refine ⟨x, i, h, Ev.step (fun k => by rw [spec_l6DrawKnow.l0]) (ev_if_neg (by omega) (Ev.step (fun k => by rw [spec_l6DrawKnow.j1]) (ev_if_neg (by simp) (ev_some _)))), by omega, hc⟩
  | n + 1, j, x, i, h, hn, hj, hx, hc => by
    by_cases hp : (p.length : Int) > 0
    · obtain ⟨y, i1, h1, e1, hc1⟩ := draw_ok h (p.length : Int) hc
      obtain ⟨z, e2, hz⟩ := put_ok x y (by omega)
      obtain ⟨r, i2, h2, e3, hr, hc2⟩ := drawKnow_loop p m hm n (j + 1) z i1 h1 (by omega) (by omega) (by omega) hc1
      refine ⟨r, i2, h2, Ev.step (fun k => by rw [spec_l6DrawKnow.l0]) (ev_if_pos (by omega) (Ev.step (fun k => by rw [spec_l6DrawKnow.j1]) (ev_if_pos (by simpa using hp) (ev_bind e1 (ev_bind e2 ?_))))), by omega, hc2⟩
      rw [wrap_succ (by omega)]
      exact e3
    · refine ⟨x, i, h, Ev.step (fun k => by rw [spec_l6DrawKnow.l0]) (ev_if_pos (by omega) (Ev.step (fun k => by rw [spec_l6DrawKnow.j1]) (ev_if_neg (by simpa using hp) (ev_some _)))), by omega, hc⟩
theorem drawKnow_ok {b : List Int} {i : Int} (h : Int) (p : List Nd) (hc : CurOk b i) : ∃ r i' h', Ev (fun k => spec_l6DrawKnow.f k b i h p) (r, i', h') ∧ r.length ≤ 8 ∧ CurOk b i' := by
  obtain ⟨x, i1, h1, e1, hx0, hx1, _, hc1⟩ := below_ok h 8 hc
  have hx := hx1 (by omega)
  obtain ⟨m, rfl⟩ : ∃ m : Nat, x = m := ⟨x.toNat, by omega⟩
  obtain ⟨r, i2, h2, e2, hr, hc2⟩ := drawKnow_loop p m (by omega) m 0 [] i1 h1 (by omega) (by omega) (by simp; omega) hc1
  refine ⟨r, i2, h2, ?_, by simp at hr; omega, hc2⟩
  unfold spec_l6DrawKnow.f
  exact ev_bind_const e1 e2
theorem drawMany_loop {b : List Int} : ∀ (n j : Nat) (x : List Int) (i h : Int), 202 - j = n → x.length + n ≤ 1000 → CurOk b i →
    ∃ r i' h', Ev (fun k => spec_l6DrawAny.l0 k x j b i h) (r, i', h') ∧ r.length ≤ x.length + n ∧ CurOk b i'
  | n, j, x, i, h, hn, hx, hc => by
    obtain ⟨y, i1, h1, e1, hy0, hy1, _, hc1⟩ := below_ok h 2 hc
    have hy := hy1 (by omega)
    have ew : wrap64 (200 + y) = 200 + y := wrap_id (by omega) (by omega)
    by_cases hj : (j : Int) < 200 + y
    · match n, hn with
      | 0, hn => omega
      | n + 1, hn =>
        obtain ⟨z, e2, hz⟩ := put_ok x (j : Int) (by omega)
        obtain ⟨r, i2, h2, e3, hr, hc2⟩ := drawMany_loop n (j + 1) z i1 h1 (by omega) (by omega) hc1
        refine ⟨r, i2, h2, Ev.step (fun k => by rw [spec_l6DrawAny.l0]) (ev_bind_const e1 (ev_if_pos (by show (j : Int) < wrap64 (200 + y); rw [ew]; exact hj) (ev_bind e2 ?_))), by omega, hc2⟩
        rw [wrap_succ (by omega)]
        exact e3
    · exact ⟨x, i1, h1, Ev.step (fun k => by rw [spec_l6DrawAny.l0]) (ev_bind_const e1 (ev_if_neg (by show ¬ (j : Int) < wrap64 (200 + y); rw [ew]; exact hj) (ev_some _))), by omega, hc1⟩
theorem drawKnowAny_ok {b : List Int} {i : Int} (h : Int) (p : List Nd) (hc : CurOk b i) : ∃ r i' h', Ev (fun k => spec_l6DrawAny.f k b i h p) (r, i', h') ∧ r.length ≤ 1000 ∧ CurOk b i' := by
  obtain ⟨x, i1, h1, e1, hx, hc1⟩ := drawKnow_ok h p hc
  obtain ⟨y, i2, h2, e2, _, _, _, hc2⟩ := below_ok h1 30 hc1
  unfold spec_l6DrawAny.f
  by_cases y0 : y = 0
  · exact ⟨x ++ [(p.length : Int)], i2, h2, ev_bind e1 (ev_bind_const e2 (ev_if_pos y0 (ev_if_pos (by show x.length < _; omega) (ev_some _)))), by simp; omega, hc2⟩
  · by_cases y1 : y = 1
    · exact ⟨x ++ x, i2, h2, ev_bind e1 (ev_bind_const e2 (ev_if_neg y0 (ev_if_pos y1 (ev_if_pos (by show x.length + x.length < _; omega) (ev_some _))))), by simp; omega, hc2⟩
    · by_cases y2 : y = 2
      · obtain ⟨r, i3, h3, e3, hr, hc3⟩ := drawMany_loop (b := b) 202 0 x i2 h2 (by omega) (by omega) hc2
        exact ⟨r, i3, h3, ev_bind e1 (ev_bind_const e2 (ev_if_neg y0 (ev_if_neg y1 (ev_if_pos y2 (by simpa using e3))))), by omega, hc3⟩
      · exact ⟨x, i2, h2, ev_bind e1 (ev_bind_const e2 (ev_if_neg y0 (ev_if_neg y1 (ev_if_neg y2 (ev_some _))))), by omega, hc2⟩
theorem l6Draw_ok (b : List Int) (hb : b.length ≤ 9223372036854775806) : ∃ q t x, Ev (fun k => spec_l6Draw.f k b) (q, t, x) ∧ q.length ≤ 500 ∧ t.length ≤ 1000 := by
  unfold spec_l6Draw.f
  obtain ⟨h, e⟩ := new_ok b hb
  obtain ⟨q, i1, h1, e1, hq, hc1⟩ := drawAny_ok h (cur_new b hb)
  obtain ⟨t, i2, h2, e2, ht, hc2⟩ := drawKnowAny_ok h1 q hc1
  obtain ⟨x, i3, h3, e3, hc3⟩ := drawTerm_ok h2 q hc2
  exact ⟨q, t, x, ev_bind e (ev_bind e1 (ev_bind e2 (ev_bind e3 (ev_some _)))), hq, ht⟩
end Go.Proofs.Ytilnfdnigjblcaa.Lib
