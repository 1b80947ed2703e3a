/- What KnowJoin answers: the set of both lists' elements, if it is not too great. No conditions but lengths. -/
import Derived.Test.YtdgahpigcaejbaaJPLibSetS
import Derived.Test.YtdgahpigcaejbaaJPLibSets
import Derived.Test.YtdgahpigcaejbaaJPLibPutK
import Derived.Test.YtdgahpigcaejbaaJPJg2
import Derived.Test.YtdgahpigcaejbaaJPJg3
set_option linter.unusedVariables false
set_option linter.unusedSimpArgs false
namespace Go.Proofs.Ytdgahpigcaejbaa.Lib
open Go.RowKit Go.Proofs.Ytdgahpigcaejbaa.J Go.Proofs.YtdgahpigcaejbaaW.PrintWords Go.Proofs.YtdgahpigcaejbaaW.PrintLast Go.Proofs.YtdgahpigcaejbaaW.PrintMore

def joinU (a b : List Int) : List Int × Bool := if 200 < (setS (a ++ b)).length then ([], false) else (setS (a ++ b), true)
def joinL (l : List Nd) (a b : List Int) : List Int × Bool := if (poolOkB l && knowB l.length a) = true ∧ (poolOkB l && knowB l.length b) = true then joinU a b else ([], false)
theorem joinU_len (a b : List Int) : (joinU a b).1.length ≤ 200 := by
  unfold joinU
  split
  · simp
  · show (setS (a ++ b)).length ≤ 200; omega
theorem joinL_len (l : List Nd) (a b : List Int) : (joinL l a b).1.length ≤ 200 := by
  unfold joinL
  split
  · exact joinU_len a b
  · simp
theorem concat_ev (a b : List Int) (ha : a.length ≤ 1000) (hb : b.length ≤ 1000) : Ev (fun k => slices_Concat_int_int.f k [a, b]) (a ++ b) := by
  have e0 : rd_L3 [a, b] 0 = a := rfl
  have e1 : rd_L3 [a, b] 1 = b := rfl
  have w1 : wrap64 ((0 : Int) + 1) = 1 := by rw [wrap_id (by omega) (by omega)]; omega
  have w2 : wrap64 ((1 : Int) + 1) = 2 := by rw [wrap_id (by omega) (by omega)]; omega
  unfold slices_Concat_int_int.f
  refine Ev.step (fun k => by rw [slices_Concat_int_int.l0]) ?_
  refine ev_if_pos (by simp) (ev_if_pos (by omega) (ev_if_pos (by simp) ?_))
  rw [e0, w1]
  have s0 : wrap64 ((0 : Int) + (a.length : Int)) = (a.length : Int) := by rw [wrap_id (by omega) (by omega)]; omega
  rw [s0]
  refine ev_if_neg (by omega) (Ev.step (fun k => by rw [slices_Concat_int_int.l0]) ?_)
  refine ev_if_pos (by simp) (ev_if_pos (by omega) (ev_if_pos (by simp) ?_))
  rw [e1, w2]
  have s1 : wrap64 ((a.length : Int) + (b.length : Int)) = (a.length : Int) + (b.length : Int) := wrap_id (by omega) (by omega)
  rw [s1]
  refine ev_if_neg (by omega) (Ev.step (fun k => by rw [slices_Concat_int_int.l0]) ?_)
  refine ev_if_neg (by simp) (ev_bind_const (a := ([] : List Int)) (by unfold slices_Grow_int_int.f; rw [if_pos ⟨by omega, by omega, by simp⟩]) ?_)
  refine Ev.step (fun k => by rw [slices_Concat_int_int.l1]) ?_
  refine ev_if_pos (by simp) (ev_if_pos (by omega) (ev_if_pos (by simp) ?_))
  rw [e0, w1]
  refine ev_if_pos (by simp; omega) (Ev.step (fun k => by rw [slices_Concat_int_int.l1]) ?_)
  refine ev_if_pos (by simp) (ev_if_pos (by omega) (ev_if_pos (by simp) ?_))
  rw [e1, w2]
  refine ev_if_pos (by simp; omega) (Ev.step (fun k => by rw [slices_Concat_int_int.l1]) ?_)
  exact ev_if_neg (by simp) (ev_some_of (by simp))
theorem implJoin_ev (l : List Nd) (a b : List Int) (hl : l.length ≤ 1048576) (ha : a.length ≤ 1048576) (hb : b.length ≤ 1048576) : Ev (fun k => impl_KnowJoin.f k l a b) (joinL l a b) := by
  unfold impl_KnowJoin.f joinL
  refine ev_bind (implKnowOk_ev l a (by omega) (by omega)) ?_
  by_cases h1 : (poolOkB l && knowB l.length a) = true
  · refine ev_if_pos h1 (ev_bind (implKnowOk_ev l b (by omega) (by omega)) (Ev.step (fun k => by rw [impl_KnowJoin.j0]) ?_))
    by_cases h2 : (poolOkB l && knowB l.length b) = true
    · rw [if_pos ⟨h1, h2⟩]
      have k1 := ((kn_iff _ _).1 (by simp only [Bool.and_eq_true] at h1; exact h1.2)).1
      have k2 := ((kn_iff _ _).1 (by simp only [Bool.and_eq_true] at h2; exact h2.2)).1
      refine ev_if_neg (by simp [h2]) (ev_bind (concat_ev a b (by omega) (by omega)) ?_)
      refine ev_bind_const (a := sortS (a ++ b)) (by unfold slices_Sort_int_int.f sortS; rw [if_pos (by rw [List.length_append]; omega)]) ?_
      refine ev_bind_const (a := setS (a ++ b)) (by unfold slices_Compact_int_int.f setS; rfl) ?_
      unfold joinU
      by_cases h3 : 200 < (setS (a ++ b)).length
      · rw [if_pos h3]
        exact ev_if_pos (by omega) (ev_some _)
      · rw [if_neg h3]
        exact ev_if_neg (by omega) (ev_bind_const (a := setS (a ++ b)) (by unfold slices_Clip_int_int.f; rfl) (ev_some _))
    · rw [if_neg (fun h => h2 h.2)]
      exact ev_if_pos (by simp [h2]) (ev_some _)
  · rw [if_neg (fun h => h1 h.1)]
    exact ev_if_neg h1 (Ev.step (fun k => by rw [impl_KnowJoin.j0]) (ev_if_pos rfl (ev_some _)))
theorem specJoin_loop (b : List Int) (hb : b.length ≤ 1000) : ∀ (n j : Nat) (x : List Int), b.length - j = n → j ≤ b.length → Str x → x.length + n ≤ 2000 →
    Ev (fun k => spec_KnowJoin.l0 k b x j) (if 200 < (setS (x ++ b.drop j)).length then (([] : List Int), false) else (setS (x ++ b.drop j), true))
  | 0, j, x, hn, hj, hs, hx => by
    have e : j = b.length := by omega
    subst e
    rw [List.drop_length, List.append_nil, setS_of hs]
    refine Ev.step (fun k => by rw [spec_KnowJoin.l0]) (ev_if_neg (by omega) ?_)
    by_cases h3 : 200 < x.length
    · rw [if_pos h3]
      exact ev_if_pos (by omega) (ev_some _)
    · rw [if_neg h3]
      exact ev_if_neg (by omega) (ev_some _)
  | n + 1, j, x, hn, hj, hs, hx => by
    have hlt : j < b.length := by omega
    have hl := putF_any_len x b[j]
    have nx := specJoin_loop b hb n (j + 1) (putF x b[j] (decide (b[j] ∈ x))) (by omega) (by omega) (putF_any_str hs _) (by omega)
    rw [setS_put, ← List.drop_eq_getElem_cons hlt] at nx
    refine Ev.step (fun k => by rw [spec_KnowJoin.l0]) ?_
    refine ev_if_pos (by omega) (ev_if_pos (by omega) ?_)
    rw [rd_nat b j hlt, wrap_succ (by omega)]
    exact ev_bind (spPut_ev x b[j] (by omega)) nx
theorem specJoin_ev (l : List Nd) (a b : List Int) (hl : l.length ≤ 1048576) (ha : a.length ≤ 1048576) (hb : b.length ≤ 1048576) : Ev (fun k => spec_KnowJoin.f k l a b) (joinL l a b) := by
  unfold spec_KnowJoin.f joinL
  refine ev_bind (specKnowOk_ev l a (by omega) (by omega)) ?_
  by_cases h1 : (poolOkB l && knowB l.length a) = true
  · refine ev_if_pos h1 (ev_bind (specKnowOk_ev l b (by omega) (by omega)) (Ev.step (fun k => by rw [spec_KnowJoin.j0]) ?_))
    by_cases h2 : (poolOkB l && knowB l.length b) = true
    · rw [if_pos ⟨h1, h2⟩]
      have k1 := (kn_iff _ _).1 (by simp only [Bool.and_eq_true] at h1; exact h1.2)
      have k2 := (kn_iff _ _).1 (by simp only [Bool.and_eq_true] at h2; exact h2.2)
      have h := specJoin_loop b (by omega) b.length 0 a (by omega) (by omega) k1.2.1 (by omega)
      rw [List.drop_zero] at h
      refine ev_if_neg (by simp [h2]) ?_
      refine ev_bind_const (a := ([] : List Int)) rfl (ev_if_pos (by simp; omega) ?_)
      rw [List.nil_append]
      exact h
    · rw [if_neg (fun h => h2 h.2)]
      exact ev_if_pos (by simp [h2]) (ev_some _)
  · rw [if_neg (fun h => h1 h.1)]
    exact ev_if_neg h1 (Ev.step (fun k => by rw [spec_KnowJoin.j0]) (ev_if_pos rfl (ev_some _)))
end Go.Proofs.Ytdgahpigcaejbaa.Lib
