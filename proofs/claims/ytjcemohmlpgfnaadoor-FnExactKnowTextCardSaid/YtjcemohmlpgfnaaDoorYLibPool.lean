/- What the pools' functions come to in plain Lean: a copy is the pool, a node that is right, a pool that is right, the place of a node. No conditions but lengths. -/
import Derived.Test.YtjcemohmlpgfnaaDoorYKg0
import Derived.Test.YtjcemohmlpgfnaaDoorYKg2
import Derived.Test.YtjcemohmlpgfnaaDoorYLibA
set_option linter.unusedVariables false
set_option linter.unusedSimpArgs false
namespace Go.Proofs.YtjcemohmlpgfnaaDoor.Lib
open Go.RowKit Go.Proofs.YtjcemohmlpgfnaaDoor.K Go.Proofs.YtjcemohmlpgfnaaDoorW.PrintWords Go.Proofs.YtjcemohmlpgfnaaDoorW.PrintLast

abbrev Nd := S51
abbrev zN : Nd := z51
theorem rdT (l : List Nd) (i : Nat) (h : i < l.length) : rd_T51 l (i : Int) = l[i] := getD_nat _ l i h
abbrev LNd := S53
theorem rdL (l : List LNd) (i : Nat) (h : i < l.length) : rd_T53 l (i : Int) = l[i] := getD_nat _ l i h
theorem szPool_eq (l : List LNd) (hl : l.length ≤ 9223372036854775807) : laws_szPool.f l 1048576 = some (if l.length ≤ 1048576 then 1048576 - (l.length : Int) else -1) := by
  unfold laws_szPool.f laws_szNodeS.f
  rw [wrap_id (by omega) (by omega)]
  by_cases h : l.length ≤ 1048576
  · rw [if_neg (by omega), if_pos h]
    simp only [Option.bind_some]
    rw [if_neg (by omega)]
  · rw [if_pos (by omega), if_neg h]
    rfl
theorem szPool_ev {l : List LNd} (hl : l.length ≤ maxLen) {f : Nat → Int → Option Bool} (h : l.length ≤ 1048576 → Ev (fun k => f k (1048576 - (l.length : Int))) true) :
    Ev (fun k => (laws_szPool.f l 1048576).bind fun t => if t < 0 then some true else f k t) true := by
  have hl' : l.length ≤ 9223372036854775807 := by unfold maxLen at hl; omega
  refine ev_bind_const (szPool_eq l hl') ?_
  by_cases h' : l.length ≤ 1048576
  · rw [if_pos h']
    exact ev_if_neg (by omega) (h h')
  · rw [if_neg h']
    exact ev_if_pos (by omega) (ev_some _)
def cpN (x : LNd) : Nd := ⟨x.f0, x.f1, x.f2⟩
def cp (l : List LNd) : List Nd := l.map cpN
theorem cp_length (l : List LNd) : (cp l).length = l.length := by simp [cp]
theorem toNodeS_loop (l : List LNd) (hl : l.length ≤ 9223372036854775806) : ∀ (n i : Nat), l.length - i = n → i ≤ l.length →
    Ev (fun k => laws_toNodeS.l0 k l (filled (cp l) (cp l).length zN i) i) (cp l)
  | 0, i, hn, hi => by
    have e : i = (cp l).length := by rw [cp_length]; omega
    refine Ev.step (f := fun k => some (cp l)) (fun k => ?_) (ev_some _)
    simp only [laws_toNodeS.l0]
    rw [if_neg (by omega), e, filled_all]
  | n + 1, i, hn, hi => by
    have hlt : i < l.length := by omega
    have hlt' : i < (cp l).length := by rw [cp_length]; exact hlt
    refine Ev.step (f := fun k => laws_toNodeS.l0 k l (filled (cp l) (cp l).length zN (i + 1)) (i + 1 : Nat)) (fun k => ?_) (toNodeS_loop l hl n (i + 1) (by omega) (by omega))
    simp only [laws_toNodeS.l0]
    rw [if_pos (by omega), if_pos (by omega), rdL l i hlt]
    simp only [laws_toNode.f, Option.bind_some]
    rw [if_pos (by rw [filled_length _ _ _ (by omega)]; omega), Int.toNat_natCast, wrap_succ (by omega), ← filled_set (cp l) zN i hlt']
    simp [cp, cpN]
theorem toPool_ev (l : List LNd) (hl : l.length ≤ 1048576) : Ev (fun k => laws_toPool.f k l) (cp l) := by
  unfold laws_toPool.f laws_toNodeS.f
  have h := toNodeS_loop l (by omega) l.length 0 (by omega) (by omega)
  rw [filled_zero, cp_length] at h
  refine ev_bind (a := cp l) ?_ (ev_some _)
  refine ev_if_pos (by omega) (ev_if_pos (by omega) ?_)
  simpa using h
theorem eqNode_refl (a b c : Int) : laws_eqNode.f a b c a b c = some true := by
  unfold laws_eqNode.f
  rw [if_pos rfl, if_pos rfl, if_pos rfl]
theorem eqNodeS_loop (a : List Nd) (hl : a.length ≤ 9223372036854775806) : ∀ (n i : Nat), a.length - i = n → i ≤ a.length → Ev (fun k => laws_eqNodeS.l0 k a a i) true
  | 0, i, hn, hi => by
    have e : i = a.length := by omega
    refine Ev.step (f := fun k => some true) (fun k => ?_) (ev_some _)
    simp only [laws_eqNodeS.l0]
    rw [if_neg (by omega)]
  | n + 1, i, hn, hi => by
    have hlt : i < a.length := by omega
    refine Ev.step (f := fun k => laws_eqNodeS.l0 k a a (i + 1 : Nat)) (fun k => ?_) (eqNodeS_loop a hl n (i + 1) (by omega) (by omega))
    simp only [laws_eqNodeS.l0]
    rw [if_pos (by omega), if_pos (by omega), if_pos (by omega), eqNode_refl, wrap_succ (by omega)]
    rfl
theorem eqPool_refl (a : List Nd) (hl : a.length ≤ 9223372036854775806) : Ev (fun k => laws_eqPool.f k a a) true := by
  unfold laws_eqPool.f laws_eqNodeS.f
  refine ev_bind (ev_if_pos rfl ?_) (ev_if_pos rfl (ev_some _))
  simpa using eqNodeS_loop a hl a.length 0 (by omega) (by omega)
def cnt (a : Int) : Int := if a = 1 then 0 else if a = 5 ∨ a = 7 then 1 else if a = 2 ∨ a = 3 ∨ a = 4 ∨ a = 6 ∨ a = 8 then 2 else -1
theorem count_eq (k : Nat) (a : Int) : impl_count.f (k + 1) a = some (cnt a) := by
  unfold impl_count.f cnt
  simp only [impl_count.j0]
  by_cases h1 : a = 1
  · simp [h1]
  · by_cases h5 : a = 5
    · simp [h5]
    · by_cases h7 : a = 7
      · simp [h7]
      · rw [if_neg h1, if_neg h5, if_neg h1, if_neg (by simp [h7])]
        have h57 : ¬ (a = 5 ∨ a = 7) := by simp [h5, h7]
        rw [if_neg h57]
        repeat' split
        all_goals first | rfl | (exfalso; omega) | simp_all
theorem count_ev (a : Int) : Ev (fun k => impl_count.f k a) (cnt a) := ⟨1, fun k hk => by obtain ⟨m, rfl⟩ : ∃ m, k = m + 1 := ⟨k - 1, by omega⟩; exact count_eq m a⟩
theorem specParts_same (k : Nat) (a : Int) : spec_l1Parts.f (k + 1) a = impl_count.f (k + 1) a := rfl
theorem specParts_ev (a : Int) : Ev (fun k => spec_l1Parts.f k a) (cnt a) := ⟨1, fun k hk => by obtain ⟨m, rfl⟩ : ∃ m, k = m + 1 := ⟨k - 1, by omega⟩; exact (specParts_same m a).trans (count_eq m a)⟩
theorem inRange_eq (x a b : Int) : impl_inRange.f x a b = some (decide (a ≤ x ∧ x ≤ b)) := by
  unfold impl_inRange.f
  by_cases h : a ≤ x
  · rw [if_pos (by omega)]; simp [h]
  · rw [if_neg (by omega)]; simp [h]
def nOk (x : Nd) (i : Nat) : Bool :=
  if cnt x.f0 = 0 then decide (0 ≤ x.f1 ∧ x.f1 ≤ 199) && decide (x.f2 = 0)
  else if cnt x.f0 = 1 then decide (0 ≤ x.f1 ∧ x.f1 < i) && decide (x.f2 = 0)
  else if cnt x.f0 = 2 then decide (0 ≤ x.f1 ∧ x.f1 < i) && (decide (0 ≤ x.f2 ∧ x.f2 < i) && (decide (x.f0 = 8 → x.f1 ≤ x.f2)))
  else false
theorem nodeOk_eq (k : Nat) (x : Nd) (i : Nat) (hi : i < 9223372036854775808) : impl_nodeOk.f (k + 1) x.f0 x.f1 x.f2 i = some (nOk x i) := by
  unfold impl_nodeOk.f nOk
  rw [count_eq]
  simp only [Option.bind_some, inRange_eq]
  rw [wrap_id (i := (i : Int) - 1) (by omega) (by omega)]
  have e : ∀ y : Int, (y ≤ (i : Int) - 1) = (y < (i : Int)) := fun y => by apply propext; omega
  simp only [e]
  by_cases h0 : cnt x.f0 = 0
  · rw [if_pos h0, if_pos h0]
    by_cases h : 0 ≤ x.f1 ∧ x.f1 ≤ 199
    · simp [h]
      exact (by rw [Bool.eq_iff_iff]; simp)
    · simp [h]
  · rw [if_neg h0, if_neg h0]
    by_cases h1 : cnt x.f0 = 1
    · rw [if_pos h1, if_pos h1]
      by_cases h : 0 ≤ x.f1 ∧ x.f1 < (i : Int)
      · simp [h]
        exact (by rw [Bool.eq_iff_iff]; simp)
      · simp [h]
    · rw [if_neg h1, if_neg h1]
      by_cases h2 : cnt x.f0 = 2
      · rw [if_pos h2, if_pos h2]
        by_cases h : 0 ≤ x.f1 ∧ x.f1 < (i : Int)
        · by_cases h' : 0 ≤ x.f2 ∧ x.f2 < (i : Int)
          · by_cases h8 : x.f0 = 8
            · simp [h, h', h8]
            · simp [h, h', h8]
          · simp [h, h']
        · simp [h]
      · rw [if_neg h2, if_neg h2]
theorem specRight_ev (x : Nd) (i : Nat) (hi : i < 9223372036854775808) : Ev (fun k => spec_l1Right.f k x.f0 x.f1 x.f2 i) (nOk x i) :=
  ⟨1, fun k hk => by obtain ⟨m, rfl⟩ : ∃ m, k = m + 1 := ⟨k - 1, by omega⟩; exact (show spec_l1Right.f (m + 1) x.f0 x.f1 x.f2 i = impl_nodeOk.f (m + 1) x.f0 x.f1 x.f2 i from rfl).trans (nodeOk_eq m x i hi)⟩
def findN (l : List Nd) (x : Nd) : Int := if x ∈ l then (l.idxOf x : Int) else -1
theorem eq3 (x y : Nd) : ((x.f0 == y.f0 && (x.f1 == y.f1 && (x.f2 == y.f2))) = true) ↔ x = y := by
  cases x; cases y; simp
theorem specFind_loop (l : List Nd) (x : Nd) (hl : l.length ≤ 9223372036854775806) : ∀ (n i : Nat), l.length - i = n → i ≤ l.length →
    Ev (fun k => spec_l1Find.l0 k i l x.f0 x.f1 x.f2) (if x ∈ l.drop i then (((l.drop i).idxOf x + i : Nat) : Int) else -1)
  | 0, i, hn, hi => by
    have e : i = l.length := by omega
    refine Ev.step (f := fun k => some (-1)) (fun k => ?_) (ev_some_of ?_)
    · simp only [spec_l1Find.l0]
      rw [if_neg (by omega)]
    · rw [e, List.drop_length]; simp
  | n + 1, i, hn, hi => by
    have hlt : i < l.length := by omega
    have hd : l.drop i = l[i] :: l.drop (i + 1) := List.drop_eq_getElem_cons hlt
    by_cases e : l[i] = x
    · refine Ev.step (f := fun k => some (i : Int)) (fun k => ?_) (ev_some_of ?_)
      · simp only [spec_l1Find.l0]
        rw [if_pos (by omega), if_pos (by omega), rdT l i hlt, if_pos ((eq3 _ _).2 e)]
      · rw [hd, e, if_pos (by simp), List.idxOf_cons_self]; simp
    · have ih := specFind_loop l x hl n (i + 1) (by omega) (by omega)
      refine Ev.step (f := fun k => spec_l1Find.l0 k (i + 1 : Nat) l x.f0 x.f1 x.f2) (fun k => ?_) ?_
      · simp only [spec_l1Find.l0]
        rw [if_pos (by omega), if_pos (by omega), rdT l i hlt, if_neg (fun h => e ((eq3 _ _).1 h)), wrap_succ (by omega)]
      · have e1 : (x ∈ l.drop i) ↔ (x ∈ l.drop (i + 1)) := by rw [hd, List.mem_cons]; exact ⟨fun h => h.resolve_left (fun h => e h.symm), Or.inr⟩
        by_cases hm : x ∈ l.drop (i + 1)
        · rw [if_pos hm] at ih
          rw [if_pos (e1.2 hm), hd, (show (l[i] :: l.drop (i + 1)).idxOf x = (l.drop (i + 1)).idxOf x + 1 by rw [List.idxOf_cons, show (l[i] == x) = false from beq_eq_false_iff_ne.mpr e]; rfl)]
          have : (l.drop (i + 1)).idxOf x + (i + 1) = (l.drop (i + 1)).idxOf x + 1 + i := by omega
          rw [← this]
          exact ih
        · rw [if_neg hm] at ih
          rw [if_neg (fun h => hm (e1.1 h))]
          exact ih
theorem specFind_ev (l : List Nd) (x : Nd) (hl : l.length ≤ 9223372036854775806) : Ev (fun k => spec_l1Find.f k l x.f0 x.f1 x.f2) (findN l x) := by
  have h := specFind_loop l x hl l.length 0 (by omega) (by omega)
  unfold spec_l1Find.f findN
  simpa using h
theorem find_at (l : List Nd) (i : Nat) (h : i < l.length) : findN l l[i] = i ↔ l[i] ∉ l.take i := by
  unfold findN
  rw [if_pos (List.getElem_mem h)]
  have hs : l = l.take i ++ l.drop i := (List.take_append_drop i l).symm
  have hd : l.drop i = l[i] :: l.drop (i + 1) := List.drop_eq_getElem_cons h
  have hx : l.idxOf l[i] = if l[i] ∈ l.take i then (l.take i).idxOf l[i] else (l.drop i).idxOf l[i] + (l.take i).length := by
    conv => lhs; arg 2; rw [hs]
    exact List.idxOf_append
  have hlen : (l.take i).length = i := by rw [List.length_take]; omega
  rw [hx]
  by_cases hm : l[i] ∈ l.take i
  · rw [if_pos hm]
    have := List.idxOf_lt_length_of_mem hm
    constructor
    · intro h'
      omega
    · intro h'
      exact absurd hm h'
  · rw [if_neg hm, hd, List.idxOf_cons_self, hlen]
    simp [hm]
theorem okStep_eq (l : List Nd) (i : Nat) (h : i < l.length) (hl : l.length ≤ 9223372036854775806) : okStep l i = (decide (l[i] ∉ l.take i) && nOk l[i] i) := by
  unfold okStep nodeOkB
  rw [rdT l i h, nodeOk_eq 0 _ i (by omega)]
  rfl
theorem specOk_loop (l : List Nd) (hl : l.length ≤ 9223372036854775806) : ∀ (n i : Nat), l.length - i = n → i ≤ l.length → Ev (fun k => spec_PoolOk.l0 k i l) (okFrom l n i)
  | 0, i, hn, hi => by
    refine Ev.step (f := fun k => some true) (fun k => ?_) (ev_some_of ?_)
    · simp only [spec_PoolOk.l0]
      rw [if_neg (by omega)]
    · simp [okFrom]
  | n + 1, i, hn, hi => by
    have hlt : i < l.length := by omega
    have ih := specOk_loop l hl n (i + 1) (by omega) (by omega)
    refine Ev.step (f := fun k => (spec_l1Right.f k l[i].f0 l[i].f1 l[i].f2 i).bind fun t => if t = true then ((spec_l1Find.f k l l[i].f0 l[i].f1 l[i].f2).bind fun t => if t = (i : Int) then spec_PoolOk.l0 k (i + 1 : Nat) l else some false) else some false) (fun k => ?_) ?_
    · simp only [spec_PoolOk.l0]
      rw [if_pos (by omega), if_pos (by omega), rdT l i hlt, wrap_succ (by omega)]
    · have hs := okStep_eq l i hlt hl
      refine ev_bind (specRight_ev l[i] i (by omega)) ?_
      by_cases hr : nOk l[i] i = true
      · refine ev_if_pos hr (ev_bind (specFind_ev l l[i] hl) ?_)
        by_cases hf : findN l l[i] = i
        · refine ev_if_pos hf ?_
          have : okStep l i = true := by rw [hs, hr]; simp [(find_at l i hlt).1 hf]
          simpa [okFrom, this] using ih
        · refine ev_if_neg hf (ev_some_of ?_)
          have : okStep l i = false := by rw [hs]; simp; intro h; exact absurd ((find_at l i hlt).2 h) hf
          simp [okFrom, this]
      · refine ev_if_neg hr (ev_some_of ?_)
        have : okStep l i = false := by rw [hs]; simp [hr]
        simp [okFrom, this]
theorem specPoolOk_ev (l : List Nd) (hl : l.length ≤ 9223372036854775806) : Ev (fun k => spec_PoolOk.f k l) (poolOkB l) := by
  unfold spec_PoolOk.f poolOkB
  by_cases h : l.length ≤ 500
  · refine ev_if_neg (by omega) ?_
    simpa [h] using specOk_loop l hl l.length 0 (by omega) (by omega)
  · refine ev_if_pos (by omega) (ev_some_of ?_)
    simp [h]
theorem implPoolOk_ev (l : List Nd) : Ev (fun _ => impl_PoolOk.f l) (poolOkB l) := ev_const rfl

end Go.Proofs.YtjcemohmlpgfnaaDoor.Lib
