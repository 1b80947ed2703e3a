/- impl_MakesList of the program answers what the reference's answers, leaves its arguments as they were, and answers alike when its first answer is written over. No conditions. -/
import Derived.Test.YtgohebghlgamiaaZLibMakes
import Derived.Test.YtgohebghlgamiaaZLibBools
import Derived.Test.YtgohebghlgamiaaZMg7
import Derived.Test.YtgohebghlgamiaaZMg11
import Derived.Test.YtgohebghlgamiaaZMg12
import Derived.Test.YtgohebghlgamiaaZStmFnExactMakesList
set_option linter.unusedVariables false
set_option linter.unusedSimpArgs false
namespace Go.Proofs.Ytgohebghlgamiaa.Lib
open Go.RowKit Go.Proofs.Ytgohebghlgamiaa.M Go.Proofs.YtgohebghlgamiaaW.PrintWords Go.Proofs.YtgohebghlgamiaaW.PrintLast Go.Proofs.YtgohebghlgamiaaW.PrintMore
def listL (l : List Nd) (t : List Int) : List Int := ((List.range (allL l t).length).filter (fun i => (allL l t).getD i false)).map fun (x : Nat) => (x : Int)
theorem listL_len (l : List Nd) (t : List Int) : (listL l t).length ≤ 500 := by
  unfold listL
  rw [List.length_map]
  exact Nat.le_trans (List.length_filter_le _ _) (by rw [List.length_range]; exact allL_len l t)
theorem asMk (v : List Bool) : v = mk v.length (fun i => v.getD i false) := by
  apply List.ext_getElem
  · rw [mk_length]
  · intro i h1 h2
    simp [mk, List.getD_eq_getElem?_getD, h1]
theorem specMakesList_ev (l : List Nd) (t : List Int) (hl : l.length ≤ 1048576) (ht : t.length ≤ 1048576) : Ev (fun k => spec_MakesList.f k l t) (listL l t) := by
  unfold spec_MakesList.f listL
  have h5 := allL_len l t
  refine ev_bind (specMakesAll_ev l t hl ht) (ev_bind (a := ((List.range (allL l t).length).filter (fun i => (allL l t).getD i false)).map fun (x : Nat) => (x : Int)) ?_ (ev_some _))
  have := specList_ev (allL l t).length (fun i => (allL l t).getD i false) (by omega)
  rw [← asMk] at this
  exact this
theorem implList_loop (v : List Bool) (hn : v.length ≤ 1000000) : ∀ (m i : Nat), v.length - i = m → i ≤ v.length →
    Ev (fun k => impl_MakesList.l0 k (((List.range i).filter (fun i => v.getD i false)).map fun (x : Nat) => (x : Int)) v (v.length : Int) i) (((List.range v.length).filter (fun i => v.getD i false)).map fun (x : Nat) => (x : Int))
  | 0, i, hm, hi => by
    have e : i = v.length := by omega
    subst e
    refine Ev.step (fun k => by rw [impl_MakesList.l0]) ?_
    exact ev_if_neg (by omega) (ev_some _)
  | m + 1, i, hm, hi => by
    have hlt : i < v.length := by omega
    have ih := implList_loop v hn m (i + 1) (by omega) (by omega)
    rw [List.range_succ, List.filter_append, List.map_append] at ih
    refine Ev.step (fun k => by rw [impl_MakesList.l0]) ?_
    refine ev_if_pos (by omega) (ev_if_pos (by omega) (ev_if_pos (by omega) ?_))
    rw [rdOf_getD, Int.toNat_natCast, wrap_succ (by omega)]
    by_cases h : v.getD i false = true
    · refine ev_if_pos h (ev_if_pos ?_ ?_)
      · rw [List.length_map]
        have := List.length_filter_le (fun i => v.getD i false) (List.range i)
        rw [List.length_range] at this
        omega
      · have e : List.filter (fun i => v.getD i false) [i] = [i] := by simp only [List.filter, h]
        rw [e] at ih
        exact ih
    · rw [Bool.not_eq_true] at h
      have e : List.filter (fun i => v.getD i false) [i] = [] := by simp only [List.filter, h]
      rw [e, List.map_nil, List.append_nil] at ih
      exact ev_if_neg (by rw [h]; simp) ih
theorem implMakesList_ev (l : List Nd) (t : List Int) (hl : l.length ≤ 1048576) (ht : t.length ≤ 1048576) : Ev (fun k => impl_MakesList.f k l t) (listL l t) := by
  unfold impl_MakesList.f listL
  have h5 := allL_len l t
  refine ev_bind (implMakesAll_ev l t hl ht) ?_
  have := implList_loop (allL l t) (by omega) (allL l t).length 0 (by omega) (by omega)
  simpa using this
end Go.Proofs.Ytgohebghlgamiaa.Lib
namespace Go.Proofs.Ytgohebghlgamiaa.Pure
open Go.RowKit Go.Proofs.Ytgohebghlgamiaa.M Go.Proofs.Ytgohebghlgamiaa.Lib Go.Proofs.YtgohebghlgamiaaW.PrintWords Go.Proofs.YtgohebghlgamiaaW.PrintLast

theorem FnExactMakesList : Stm.FnExactMakesList := by
  intro l t hm _ hmt _
  refine ev_rounds ?_
  unfold laws_FnExactMakesList.f
  by_cases hbig : (t.length : Int) > 1048576
  · exact ev_if_pos hbig (ev_some _)
  refine ev_if_neg hbig (szPool_ev hm fun hl => ?_)
  have hc := toPool_ev l hl
  have hcl := cp_length l
  have htI := toIntS_ev t (by omega)
  have hsp := specMakesList_ev (cp l) t (by omega) (by omega)
  have him := implMakesList_ev (cp l) t (by omega) (by omega)
  have hv : (listL (cp l) t).length ≤ 500 := listL_len _ _
  generalize (listL (cp l) t) = v at hsp him hv
  have heI := eqIntS_ev t t (by omega)
  have he : Ev (fun k => laws_eqIntS.f k v v) true := by simpa using eqIntS_ev v v (by omega)
  have hmk := markIntS_ev v (by omega)
  have hh := heldIntS_ev v.length (by omega)
  obtain ⟨ys, hy⟩ := markPool_ev (cp l) (by omega)
  obtain ⟨zs, hz⟩ := markAny_ev t (by omega) (3 * ((cp l).length : Int) + 1) (by omega) (by omega)
  refine ev_bind hc (ev_bind htI (ev_bind hsp (ev_bind hc (ev_bind htI (ev_bind him (ev_bind he (ev_if_pos rfl (ev_bind hc (ev_bind (eqPool_refl (cp l) (by omega)) (ev_if_pos rfl (ev_bind htI (ev_bind heI (ev_if_pos (by simp) (ev_bind hy (ev_bind hz (ev_if_neg (by show ¬ (3 * ((cp l).length : Int) + 1 + t.length < 0); omega) (ev_bind he ?_)))))))))))))))))
  refine Ev.step (fun k => by rw [laws_FnExactMakesList.j0]) ?_
  exact ev_if_neg (by simp) (ev_bind hmk (ev_bind hh (ev_if_neg (by omega) (ev_if_pos rfl (ev_bind hc (ev_bind htI (ev_bind him (ev_bind he (ev_if_pos rfl (ev_bind hh (ev_if_neg (by omega) (ev_if_pos rfl (ev_some _)))))))))))))

end Go.Proofs.Ytgohebghlgamiaa.Pure
