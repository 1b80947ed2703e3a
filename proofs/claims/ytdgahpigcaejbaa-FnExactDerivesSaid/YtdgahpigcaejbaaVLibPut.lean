/- What the program's own putting of a node into a pool comes to, and the marks that the laws write over pools. No conditions but lengths and a right pool. -/
import Derived.Test.YtdgahpigcaejbaaVLibAdd
import Derived.Test.YtdgahpigcaejbaaVLibMarks
import Derived.Test.YtdgahpigcaejbaaVEg3
set_option linter.unusedVariables false
set_option linter.unusedSimpArgs false
namespace Go.Proofs.Ytdgahpigcaejbaa.Lib
open Go.RowKit Go.Proofs.Ytdgahpigcaejbaa.E Go.Proofs.YtdgahpigcaejbaaW.PrintWords Go.Proofs.YtdgahpigcaejbaaW.PrintLast Go.Proofs.YtdgahpigcaejbaaW.PrintMore

theorem implIndex_loop (l : List Nd) (x : Nd) (hl : l.length ≤ 9223372036854775806) : ∀ (n i : Nat), l.length - i = n → i ≤ l.length →
    Ev (fun k => impl_Node.l0 k l l.length i x.f0 x.f1 x.f2) (if x ∈ l.drop i then ((i + (l.drop i).idxOf x : Nat) : Int) else -1)
  | 0, i, hn, hi => by
    have e : l.drop i = [] := List.drop_eq_nil_of_le (by omega)
    rw [e, if_neg (by simp)]
    refine Ev.step (f := fun k => some (-1)) (fun k => ?_) (ev_some _)
    simp only [impl_Node.l0]
    rw [if_neg (by omega)]
  | n + 1, i, hn, hi => by
    have hlt : i < l.length := by omega
    have ed : l.drop i = l[i] :: l.drop (i + 1) := List.drop_eq_getElem_cons hlt
    by_cases hx : x = l[i]
    · have e1 : (if x ∈ l.drop i then ((i + (l.drop i).idxOf x : Nat) : Int) else -1) = (i : Int) := by
        rw [ed, if_pos (by rw [hx]; exact List.mem_cons_self), hx, List.idxOf_cons_self]; rfl
      rw [e1]
      refine Ev.step (f := fun k => some (i : Int)) (fun k => ?_) (ev_some _)
      simp only [impl_Node.l0]
      rw [if_pos (by omega), if_pos (by omega), if_pos (by omega), rdT l i hlt, if_pos ((eq3 x l[i]).2 hx)]
    · have e1 : (if x ∈ l.drop i then ((i + (l.drop i).idxOf x : Nat) : Int) else -1) = (if x ∈ l.drop (i + 1) then ((i + 1 + (l.drop (i + 1)).idxOf x : Nat) : Int) else -1) := by
        rw [ed]
        by_cases hm : x ∈ l.drop (i + 1)
        · rw [if_pos (List.mem_cons_of_mem _ hm), if_pos hm, (show (l[i] :: l.drop (i + 1)).idxOf x = (l.drop (i + 1)).idxOf x + 1 by rw [List.idxOf_cons, show (l[i] == x) = false from beq_eq_false_iff_ne.mpr (fun h => hx h.symm)]; rfl)]
          congr 1
          omega
        · rw [if_neg (fun h => (List.mem_cons.1 h).elim hx hm), if_neg hm]
      rw [e1]
      refine Ev.step (f := fun k => impl_Node.l0 k l l.length (i + 1 : Nat) x.f0 x.f1 x.f2) (fun k => ?_) (implIndex_loop l x hl n (i + 1) (by omega) (by omega))
      simp only [impl_Node.l0]
      rw [if_pos (by omega), if_pos (by omega), if_pos (by omega), rdT l i hlt, if_neg (fun h => hx ((eq3 x l[i]).1 h)), wrap_succ (by omega)]
theorem implFind_ev (l : List Nd) (x : Nd) (hl : l.length ≤ 9223372036854775806) : Ev (fun k => impl_Pool_find.f k l x.f0 x.f1 x.f2) (findN l x) := by
  unfold impl_Pool_find.f impl_Node.f
  refine ev_bind (a := findN l x) ?_ (ev_some _)
  have h := implIndex_loop l x hl l.length 0 (by omega) (by omega)
  unfold findN
  simpa using h
end Go.Proofs.Ytdgahpigcaejbaa.Lib
