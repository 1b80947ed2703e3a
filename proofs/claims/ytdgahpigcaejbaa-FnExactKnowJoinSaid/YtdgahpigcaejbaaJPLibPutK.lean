/- A term put among what is known: the reference's l6Put and KnowPut, the program's search, knowPut and KnowPut. No conditions but lengths. -/
import Derived.Test.YtdgahpigcaejbaaJPLibSets
import Derived.Test.YtdgahpigcaejbaaJPLibKnow
import Derived.Test.YtdgahpigcaejbaaJPLibInts
import Derived.Test.YtdgahpigcaejbaaJPJg2
set_option linter.unusedVariables false
set_option linter.unusedSimpArgs false
namespace Go.Proofs.Ytdgahpigcaejbaa.Lib
open Go.RowKit Go.Proofs.Ytdgahpigcaejbaa.J Go.Proofs.YtdgahpigcaejbaaW.PrintWords Go.Proofs.YtdgahpigcaejbaaW.PrintLast Go.Proofs.YtdgahpigcaejbaaW.PrintMore

theorem drop_cons (l : List Int) (i : Nat) (h : i < l.length) : l.drop i = l[i] :: l.drop (i + 1) := List.drop_eq_getElem_cons h
theorem spPut_loop (l : List Int) (a : Int) (hl : l.length ≤ 1000000) : ∀ (n i : Nat) (x : List Int) (b : Bool), l.length - i = n → i ≤ l.length → x.length + n + (if b = true then 0 else 1) ≤ 3000000 → Ev (fun k => spec_l6Put.l0 k l a x b i) (x ++ putF (l.drop i) a b)
  | 0, i, x, b, hn, hi, hx => by
    have e : i = l.length := by omega
    subst e
    rw [List.drop_length]
    refine Ev.step (fun k => by rw [spec_l6Put.l0]) (ev_if_neg (by omega) ?_)
    cases b with
    | true => exact ev_if_pos rfl (ev_some_of (by simp [putF]))
    | false =>
      simp only [Bool.false_eq_true, if_false] at hx
      exact ev_if_neg (by simp) (ev_if_pos (by omega) (ev_some_of (by simp [putF])))
  | n + 1, i, x, b, hn, hi, hx => by
    have hlt : i < l.length := by omega
    rw [drop_cons l i hlt]
    have hr := rd_nat l i hlt
    refine Ev.step (fun k => by rw [spec_l6Put.l0]) (ev_if_pos (by omega) ?_)
    rw [hr]
    cases b with
    | true =>
      simp only [if_true] at hx
      have ih := spPut_loop l a hl n (i + 1) (x ++ [l[i]]) true (by omega) (by omega) (by simp; omega)
      refine ev_if_pos rfl (ev_if_pos (by omega) (ev_if_pos (by omega) ?_))
      rw [wrap_succ (by omega)]
      rw [putF_true] at ih ⊢
      simpa using ih
    | false =>
      simp only [Bool.false_eq_true, if_false] at hx
      refine ev_if_neg (by simp) (ev_if_pos (by omega) ?_)
      by_cases hg : l[i] > a
      · refine ev_if_pos hg (ev_if_pos (by omega) ?_)
        have ih := spPut_loop l a hl n (i + 1) (x ++ [a] ++ [l[i]]) true (by omega) (by omega) (by simp; omega)
        refine ev_bind_const rfl (ev_if_pos (by simp; omega) ?_)
        rw [wrap_succ (by omega)]
        rw [putF_true] at ih
        unfold putF
        rw [if_pos (by omega)]
        simpa using ih
      · refine ev_if_neg hg (ev_if_pos (by omega) ?_)
        have ih := spPut_loop l a hl n (i + 1) (x ++ [l[i]]) false (by omega) (by omega) (by simp; omega)
        rw [wrap_succ (by omega)]
        unfold putF
        rw [if_neg (by omega)]
        simpa using ih
theorem spPut_ev (l : List Int) (a : Int) (hl : l.length ≤ 1000000) : Ev (fun k => spec_l6Put.f k l a) (putF l a (decide (a ∈ l))) := by
  unfold spec_l6Put.f
  have := spPut_loop l a hl l.length 0 [] (decide (a ∈ l)) (by omega) (by omega) (by rw [List.length_nil]; split <;> omega)
  exact ev_bind (specKnowHas_ev l a (by omega)) (by simpa using this)
end Go.Proofs.Ytdgahpigcaejbaa.Lib
