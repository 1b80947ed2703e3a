/- What the program's own putting of a node into a pool comes to, and the marks that the laws write over pools. No conditions but lengths and a right pool. -/
import Derived.Test.YtobkledmbnacjaaZNLibAdd
import Derived.Test.YtobkledmbnacjaaZNLibMarks
import Derived.Test.YtobkledmbnacjaaZNMg2
set_option linter.unusedVariables false
set_option linter.unusedSimpArgs false
namespace Go.Proofs.Ytobkledmbnacjaa.Lib
open Go.RowKit Go.Proofs.Ytobkledmbnacjaa.M Go.Proofs.YtobkledmbnacjaaW.PrintWords Go.Proofs.YtobkledmbnacjaaW.PrintLast Go.Proofs.YtobkledmbnacjaaW.PrintMore

theorem nOk_up {x : Nd} {i j : Nat} (h : nOk x i = true) (hij : i ≤ j) : nOk x j = true := by
  unfold nOk at h ⊢
  split
  · rename_i h0; rw [if_pos h0] at h; exact h
  · rename_i h0
    rw [if_neg h0] at h
    split
    · rename_i h1
      rw [if_pos h1] at h
      simp only [Bool.and_eq_true, decide_eq_true_eq] at h ⊢
      omega
    · rename_i h1
      rw [if_neg h1] at h
      split
      · rename_i h2
        rw [if_pos h2] at h
        simp only [Bool.and_eq_true, Bool.or_eq_true, decide_eq_true_eq, bne_iff_ne] at h ⊢
        refine ⟨⟨h.1.1, by omega⟩, ⟨h.2.1.1, by omega⟩, h.2.2⟩
      · rename_i h2; rw [if_neg h2] at h; exact h
theorem implNodeOk_ev (x : Nd) (i : Nat) (hi : i < 9223372036854775808) : Ev (fun k => impl_nodeOk.f k x.f0 x.f1 x.f2 i) (nOk x i) := ⟨1, fun k hk => by obtain ⟨m, rfl⟩ : ∃ m, k = m + 1 := ⟨k - 1, by omega⟩; exact nodeOk_eq m x i hi⟩
theorem implIndex_loop (l : List Nd) (x : Nd) (hl : l.length ≤ 9223372036854775806) : ∀ (n i : Nat), l.length - i = n → i ≤ l.length →
    Ev (fun k => impl_Node_87.l0 k l l.length i x.f0 x.f1 x.f2) (if x ∈ l.drop i then ((i + (l.drop i).idxOf x : Nat) : Int) else -1)
  | 0, i, hn, hi => by
    have e : l.drop i = [] := List.drop_eq_nil_of_le (by omega)
    rw [e, if_neg (by simp)]
    refine Ev.step (f := fun k => some (-1)) (fun k => ?_) (ev_some _)
    simp only [impl_Node_87.l0]
    rw [if_neg (by omega)]
  | n + 1, i, hn, hi => by
    have hlt : i < l.length := by omega
    have ed : l.drop i = l[i] :: l.drop (i + 1) := List.drop_eq_getElem_cons hlt
    by_cases hx : x = l[i]
    · have e1 : (if x ∈ l.drop i then ((i + (l.drop i).idxOf x : Nat) : Int) else -1) = (i : Int) := by
        rw [ed, if_pos (by rw [hx]; exact List.mem_cons_self), hx, List.idxOf_cons_self]; rfl
      rw [e1]
      refine Ev.step (f := fun k => some (i : Int)) (fun k => ?_) (ev_some _)
      simp only [impl_Node_87.l0]
      rw [if_pos (by omega), if_pos (by omega), if_pos (by omega), rdT l i hlt, if_pos ((eq3 x l[i]).2 hx)]
    · have e1 : (if x ∈ l.drop i then ((i + (l.drop i).idxOf x : Nat) : Int) else -1) = (if x ∈ l.drop (i + 1) then ((i + 1 + (l.drop (i + 1)).idxOf x : Nat) : Int) else -1) := by
        rw [ed]
        by_cases hm : x ∈ l.drop (i + 1)
        · rw [if_pos (List.mem_cons_of_mem _ hm), if_pos hm, (show (l[i] :: l.drop (i + 1)).idxOf x = (l.drop (i + 1)).idxOf x + 1 by rw [List.idxOf_cons, show (l[i] == x) = false from beq_eq_false_iff_ne.mpr (fun h => hx h.symm)]; rfl)]
          congr 1
          omega
        · rw [if_neg (fun h => (List.mem_cons.1 h).elim hx hm), if_neg hm]
      rw [e1]
      refine Ev.step (f := fun k => impl_Node_87.l0 k l l.length (i + 1 : Nat) x.f0 x.f1 x.f2) (fun k => ?_) (implIndex_loop l x hl n (i + 1) (by omega) (by omega))
      simp only [impl_Node_87.l0]
      rw [if_pos (by omega), if_pos (by omega), if_pos (by omega), rdT l i hlt, if_neg (fun h => hx ((eq3 x l[i]).1 h)), wrap_succ (by omega)]
theorem implFind_ev (l : List Nd) (x : Nd) (hl : l.length ≤ 9223372036854775806) : Ev (fun k => impl_Pool_find.f k l x.f0 x.f1 x.f2) (findN l x) := by
  unfold impl_Pool_find.f impl_Node_87.f
  refine ev_bind (a := findN l x) ?_ (ev_some _)
  have h := implIndex_loop l x hl l.length 0 (by omega) (by omega)
  unfold findN
  simpa using h
theorem implAdd_j (p : List Nd) (y : Nd) (hp : rightAll p) (hl : p.length ≤ 500) : Ev (fun k => impl_Pool_add.j0 k p y.f0 y.f1 y.f2) (addN p y) := by
  refine Ev.step (f := fun k => (impl_nodeOk.f k y.f0 y.f1 y.f2 (p.length : Int)).bind fun t => if t = true then (impl_Pool_find.f k p y.f0 y.f1 y.f2).bind fun t => if t ≥ 0 then some (p, t) else if (p.length : Int) ≥ 500 then some (p, -1) else if p.length < 5864062014805 then some (p ++ [y], wrap64 (((p ++ [y]).length : Int) - 1)) else none else some (p, -1)) (fun k => ?_) ?_
  · simp only [impl_Pool_add.j0]
  · refine ev_bind (implNodeOk_ev y p.length (by omega)) ?_
    by_cases hr : nOk y p.length = true
    · refine ev_if_pos hr (ev_bind (implFind_ev p y (by omega)) ?_)
      by_cases hf : findN p y ≥ 0
      · have e : addN p y = (p, findN p y) := by unfold addN; rw [if_pos hf]
        rw [e]
        exact ev_if_pos hf (ev_some _)
      · refine ev_if_neg hf ?_
        by_cases h5 : p.length = 500
        · have e : addN p y = (p, -1) := by unfold addN; rw [if_neg hf, if_pos hr, if_pos h5]
          rw [e]
          exact ev_if_pos (by omega) (ev_some _)
        · have e : addN p y = (p ++ [y], (p.length : Int)) := by unfold addN; rw [if_neg hf, if_pos hr, if_neg h5]
          rw [e]
          refine ev_if_neg (by omega) (ev_if_pos (by omega) (ev_some_of ?_))
          have hw : wrap64 (((p ++ [y]).length : Int) - 1) = (p.length : Int) := by
            rw [List.length_append, wrap_id (by simp <;> omega) (by simp <;> omega)]
            simp
          rw [hw]
    · have hf : ¬ findN p y ≥ 0 := fun hf => by
        obtain ⟨i, hi, _, e⟩ := findN_at hf
        exact hr (nOk_up (e ▸ hp i hi) (by omega))
      have e : addN p y = (p, -1) := by unfold addN; rw [if_neg hf, if_neg hr]
      rw [e]
      exact ev_if_neg hr (ev_some _)
theorem implAdd_ev (p : List Nd) (x : Nd) (hp : rightAll p) (hl : p.length ≤ 500) : Ev (fun k => impl_Pool_add.f k p x.f0 x.f1 x.f2) (addN p (normN x)) := by
  unfold impl_Pool_add.f normN
  by_cases h8 : x.f0 = 8
  · refine ev_if_pos h8 ?_
    by_cases hg : x.f1 > x.f2
    · rw [if_pos ⟨h8, hg⟩]
      have := implAdd_j p ⟨x.f0, x.f2, x.f1⟩ hp hl
      have e1 : mn x.f1 x.f2 = x.f2 := by unfold mn; rw [if_pos (by omega)]
      have e2 : mx x.f1 x.f2 = x.f1 := by unfold mx; rw [if_neg (by omega)]
      rw [e1, e2]
      exact this
    · rw [if_neg (fun h => hg h.2)]
      have := implAdd_j p x hp hl
      have e1 : mn x.f1 x.f2 = x.f1 := by unfold mn; split <;> omega
      have e2 : mx x.f1 x.f2 = x.f2 := by unfold mx; split <;> omega
      rw [e1, e2]
      exact this
  · rw [if_neg (fun h => h8 h.1)]
    exact ev_if_neg h8 (implAdd_j p x hp hl)
theorem implCopy_eq (p : List Nd) (h : p.length ≤ 1000000) : impl_copyPool.f p = some p := by
  unfold impl_copyPool.f impl_Node_61.f
  rw [if_pos (by omega)]
  rfl
end Go.Proofs.Ytobkledmbnacjaa.Lib
