/- What Makes and MakesList answer (the reference's and the program's); more that is known makes no less. No conditions but lengths. -/
import Derived.Test.YtilnfdnigjblcaaYLibMakes
import Derived.Test.YtilnfdnigjblcaaYLibBools
import Derived.Test.YtilnfdnigjblcaaYLibSets
import Derived.Test.YtilnfdnigjblcaaYMg2
import Derived.Test.YtilnfdnigjblcaaYMg7
set_option linter.unusedVariables false
set_option linter.unusedSimpArgs false
namespace Go.Proofs.Ytilnfdnigjblcaa.Lib
open Go.RowKit Go.Proofs.Ytilnfdnigjblcaa.M Go.Proofs.YtilnfdnigjblcaaW.PrintWords Go.Proofs.YtilnfdnigjblcaaW.PrintLast Go.Proofs.YtilnfdnigjblcaaW.PrintMore
def makesB (l : List Nd) (t : List Int) (a : Int) : Bool := (poolOkB l && knowB l.length t) && (hasB l.length a && tgt l (kn t) a.toNat)
theorem has_nat {n : Nat} {a : Int} (h : hasB n a = true) : ∃ m : Nat, a = m ∧ m < n := by
  unfold hasB at h
  simp only [decide_eq_true_eq] at h
  exact ⟨a.toNat, by omega, by omega⟩
theorem specMakes_ev (l : List Nd) (t : List Int) (a : Int) (hl : l.length ≤ 1048576) (ht : t.length ≤ 1048576) : Ev (fun k => spec_Makes.f k l t a) (makesB l t a) := by
  unfold spec_Makes.f makesB
  refine ev_bind (specKnowOk_ev l t (by omega) (by omega)) ?_
  by_cases h : (poolOkB l && knowB l.length t) = true
  · rw [h, Bool.true_and]
    have h' := h
    rw [Bool.and_eq_true] at h'
    refine ev_if_pos rfl (ev_bind_const (specHas_eq l a (by omega)) ?_)
    by_cases hh : hasB l.length a = true
    · obtain ⟨m, rfl, hm⟩ := has_nat hh
      rw [hh, Bool.true_and, Int.toNat_natCast]
      refine ev_if_pos rfl (ev_bind (specAll_ev l h'.1 t ht) (ev_if_pos (by omega) (ev_if_pos (by rw [mk_length]; omega) (ev_some_of (mk_rd _ _ m hm)))))
    · rw [Bool.not_eq_true] at hh
      rw [hh, Bool.false_and]
      exact ev_if_neg (by simp) (ev_some _)
  · rw [Bool.not_eq_true] at h
    rw [h, Bool.false_and]
    exact ev_if_neg (by simp) (ev_some _)
theorem implMakes_ev (l : List Nd) (t : List Int) (a : Int) (hl : l.length ≤ 1048576) (ht : t.length ≤ 1048576) : Ev (fun k => impl_Makes.f k l t a) (makesB l t a) := by
  unfold impl_Makes.f makesB
  refine ev_bind_const (isTerm_eq l a (by omega)) ?_
  by_cases hh : hasB l.length a = true
  · refine ev_if_pos hh (ev_bind (implKnowOk_ev l t (by omega) (by omega)) ?_)
    by_cases h : (poolOkB l && knowB l.length t) = true
    · have h' := h
      rw [Bool.and_eq_true] at h'
      obtain ⟨m, rfl, hm⟩ := has_nat hh
      rw [h, hh, Bool.true_and, Bool.true_and, Int.toNat_natCast]
      exact ev_if_pos rfl (ev_bind (makes_ev l h'.1 t ht (know_in h'.2)) (ev_if_pos (by omega) (ev_if_pos (by rw [mk_length]; omega) (ev_some_of (mk_rd _ _ m hm)))))
    · rw [Bool.not_eq_true] at h
      rw [h, Bool.false_and]
      exact ev_if_neg (by simp) (ev_some _)
  · rw [Bool.not_eq_true] at hh
    rw [hh, Bool.false_and, Bool.and_false]
    exact ev_if_neg (by simp) (ev_some _)
def listL (l : List Nd) (t : List Int) : List Int := ((List.range (allL l t).length).filter (fun i => (allL l t).getD i false)).map fun (x : Nat) => (x : Int)
theorem listL_len (l : List Nd) (t : List Int) : (listL l t).length ≤ 500 := by
  unfold listL
  rw [List.length_map]
  exact Nat.le_trans (List.length_filter_le _ _) (by rw [List.length_range]; exact allL_len l t)
theorem implList_loop (v : List Bool) (hn : v.length ≤ 1000000) : ∀ (m i : Nat), v.length - i = m → i ≤ v.length →
    Ev (fun k => impl_MakesList.l0 k (((List.range i).filter (fun i => v.getD i false)).map fun (x : Nat) => (x : Int)) v (v.length : Int) i) (((List.range v.length).filter (fun i => v.getD i false)).map fun (x : Nat) => (x : Int))
  | 0, i, hm, hi => by
    have e : i = v.length := by omega
    subst e
    refine Ev.step (fun k => by rw [impl_MakesList.l0]) ?_
    exact ev_if_neg (by omega) (ev_some _)
  | m + 1, i, hm, hi => by
    have hlt : i < v.length := by omega
    have ih := implList_loop v hn m (i + 1) (by omega) (by omega)
    rw [List.range_succ, List.filter_append, List.map_append] at ih
    refine Ev.step (fun k => by rw [impl_MakesList.l0]) ?_
    refine ev_if_pos (by omega) (ev_if_pos (by omega) (ev_if_pos (by omega) ?_))
    rw [rdOf_getD, Int.toNat_natCast, wrap_succ (by omega)]
    by_cases h : v.getD i false = true
    · refine ev_if_pos h (ev_if_pos ?_ ?_)
      · rw [List.length_map]
        have := List.length_filter_le (fun i => v.getD i false) (List.range i)
        rw [List.length_range] at this
        omega
      · have e : List.filter (fun i => v.getD i false) [i] = [i] := by simp only [List.filter, h]
        rw [e] at ih
        exact ih
    · rw [Bool.not_eq_true] at h
      have e : List.filter (fun i => v.getD i false) [i] = [] := by simp only [List.filter, h]
      rw [e, List.map_nil, List.append_nil] at ih
      exact ev_if_neg (by rw [h]; simp) ih
theorem implMakesList_ev (l : List Nd) (t : List Int) (hl : l.length ≤ 1048576) (ht : t.length ≤ 1048576) : Ev (fun k => impl_MakesList.f k l t) (listL l t) := by
  unfold impl_MakesList.f listL
  have h5 := allL_len l t
  refine ev_bind (implMakesAll_ev l t hl ht) ?_
  have := implList_loop (allL l t) (by omega) (allL l t).length 0 (by omega) (by omega)
  simpa using this
theorem tgt_more {l : List Nd} (hok : poolOkB l = true) {K K' : Int → Bool} (h : ∀ i : Nat, i < l.length → K i = true → K' i = true) : ∀ t, t < l.length → tgt l K t = true → tgt l K' t = true :=
  tgt_closed hok (M := tgt l K') (fun i hi hk => by rw [tgt_eq hok hi, h i hi hk]; rfl) (fun t ht hc => can_tgt hok (fun _ _ h => h) ht hc)
theorem makes_more {l : List Nd} {t u : List Int} {a : Int} (h : makesB l t a = true) (hu : knowB l.length u = true) (hs : ∀ x ∈ t, x ∈ u) : makesB l u a = true := by
  unfold makesB at h ⊢
  simp only [Bool.and_eq_true] at h ⊢
  refine ⟨⟨h.1.1, hu⟩, h.2.1, ?_⟩
  obtain ⟨m, rfl, hm⟩ := has_nat h.2.1
  refine tgt_more h.1.1 (fun i hi hk => ?_) m hm h.2.2
  unfold kn at hk ⊢
  simpa using hs _ (by simpa using hk)
theorem mem_listL {l : List Nd} {t : List Int} (a : Int) : a ∈ listL l t ↔ makesB l t a = true := by
  unfold listL makesB allL
  by_cases h : (poolOkB l && knowB l.length t) = true
  · rw [if_pos h, h, Bool.true_and, mk_length]
    simp only [List.mem_map, List.mem_filter, List.mem_range, Bool.and_eq_true]
    constructor
    · rintro ⟨i, ⟨hi, hg⟩, rfl⟩
      refine ⟨by unfold hasB; simp; omega, ?_⟩
      have e := mk_rd l.length (tgt l (kn t)) i hi
      rw [rdOf_getD, Int.toNat_natCast] at e
      rw [e] at hg
      rw [Int.toNat_natCast]
      exact hg
    · rintro ⟨h1, h2⟩
      obtain ⟨m, rfl, hm⟩ := has_nat h1
      refine ⟨m, ⟨hm, ?_⟩, rfl⟩
      have e := mk_rd l.length (tgt l (kn t)) m hm
      rw [rdOf_getD, Int.toNat_natCast] at e
      rw [Int.toNat_natCast] at h2
      rw [e]
      exact h2
  · rw [if_neg h]
    rw [Bool.not_eq_true] at h
    rw [h]
    simp
end Go.Proofs.Ytilnfdnigjblcaa.Lib
