/- The program's making, round for round, comes to what the reference's one pass tells. No conditions but a right pool and right knowledge. -/
import Derived.Test.YtdgahpigcaejbaaVLibMakesA
import Derived.Test.YtdgahpigcaejbaaVLibBelow
import Derived.Test.YtdgahpigcaejbaaVLibInts
import Derived.Test.YtdgahpigcaejbaaVLibKnow
import Derived.Test.YtdgahpigcaejbaaVEg1
import Derived.Test.YtdgahpigcaejbaaVEg3
set_option linter.unusedVariables false
set_option linter.unusedSimpArgs false
namespace Go.Proofs.Ytdgahpigcaejbaa.Lib
open Go.RowKit Go.Proofs.Ytdgahpigcaejbaa.E Go.Proofs.YtdgahpigcaejbaaW.PrintWords Go.Proofs.YtdgahpigcaejbaaW.PrintLast Go.Proofs.YtdgahpigcaejbaaW.PrintMore

def kn (t : List Int) : Int → Bool := fun i => decide (i ∈ t)
theorem rdOf_getD (l : List Bool) (i : Int) : rdOf false l i = l.getD i.toNat false := rfl
theorem specPublic_eq (x : Int) : spec_IsPublic.f x = some (pubB x) := by
  unfold spec_IsPublic.f
  rw [specIn_eq]
  rfl
theorem specPower_ev (l : List Nd) (hl : l.length ≤ 500) (M : List Bool) (t : List Int) (ht : t.length ≤ 1048576) (x : Int) (h0 : 0 ≤ x) (hx : x < (M.length : Int)) :
    Ev (fun k => spec_l7Power.f k l M t x) (pwT l (fun i => M.getD i false) (kn t) x) := by
  unfold spec_l7Power.f pwT
  refine ev_bind (specFind_ev l ⟨7, x, 0⟩ (by omega)) ?_
  by_cases hf : findN l ⟨7, x, 0⟩ ≥ 0
  · refine ev_if_pos hf (ev_if_pos h0 (ev_if_pos hx ?_))
    rw [rdOf_getD]
    by_cases hm : M.getD x.toNat false = true
    · exact ev_if_pos hm (ev_some_of (by simp only [hm, decide_eq_true hf]; rfl))
    · refine ev_if_neg hm (ev_bind (specKnowHas_ev t _ (by omega)) (ev_some_of ?_))
      rw [Bool.not_eq_true] at hm
      simp only [hm, decide_eq_true hf]
      unfold kn
      simp
  · exact ev_if_neg hf (ev_some_of (by simp only [decide_eq_false hf]; rfl))
theorem specMade_j (l : List Nd) (hl : l.length ≤ 500) (M : List Bool) (t : List Int) (ht : t.length ≤ 1048576) (x : Nd) (h1 : 0 ≤ x.f1 ∧ x.f1 < (M.length : Int)) (h2 : 0 ≤ x.f2 ∧ x.f2 < (M.length : Int)) (b : Bool) :
    Ev (fun k => spec_l7Made.j0 k M t b l x.f0 x.f1 x.f2) (if b = true then true else if x.f0 = 8 then (M.getD x.f1.toNat false && pwT l (fun i => M.getD i false) (kn t) x.f2 || M.getD x.f2.toNat false && pwT l (fun i => M.getD i false) (kn t) x.f1) else false) := by
  have p1 := specPower_ev l hl M t ht x.f1 h1.1 h1.2
  have p2 := specPower_ev l hl M t ht x.f2 h2.1 h2.2
  refine Ev.step (fun k => by rw [spec_l7Made.j0]) ?_
  by_cases hb : b = true
  · rw [if_pos hb]; exact ev_if_pos hb (ev_some _)
  · rw [if_neg hb]
    refine ev_if_neg hb ?_
    by_cases h8 : x.f0 = 8
    · rw [if_pos h8]
      refine ev_if_pos h8 (ev_if_pos h1.1 (ev_if_pos h1.2 ?_))
      simp only [rdOf_getD]
      have tail : ∀ r : Bool, r = (M.getD x.f2.toNat false && pwT l (fun i => M.getD i false) (kn t) x.f1) → Ev (fun k => if 0 ≤ x.f2 then (if x.f2 < (M.length : Int) then (if M.getD x.f2.toNat false = true then ((spec_l7Power.f k l M t x.f1).bind fun t146 => some t146) else some false) else none) else none) r := by
        intro r hr
        refine ev_if_pos h2.1 (ev_if_pos h2.2 ?_)
        by_cases hm2 : M.getD x.f2.toNat false = true
        · exact ev_if_pos hm2 (ev_bind p1 (ev_some_of (by rw [hr, hm2]; simp)))
        · exact ev_if_neg hm2 (ev_some_of (by rw [hr]; rw [Bool.not_eq_true] at hm2; rw [hm2]; simp))
      by_cases hm1 : M.getD x.f1.toNat false = true
      · refine ev_if_pos hm1 (ev_bind p2 ?_)
        by_cases hp : pwT l (fun i => M.getD i false) (kn t) x.f2 = true
        · exact ev_if_pos hp (ev_some_of (by rw [hm1, hp]; simp))
        · refine ev_if_neg hp (tail _ ?_)
          rw [Bool.not_eq_true] at hp
          rw [hp]
          simp
      · refine ev_if_neg hm1 (tail _ ?_)
        rw [Bool.not_eq_true] at hm1
        rw [hm1]
        simp
    · rw [if_neg h8]
      exact ev_if_neg h8 (ev_some _)
theorem specMade_ev (l : List Nd) (hok : poolOkB l = true) (M : List Bool) (t : List Int) (ht : t.length ≤ 1048576) (i : Nat) (hi : i < l.length) (hM : M.length = i) :
    Ev (fun k => spec_l7Made.f k l M i t) (ruleT l (fun j => M.getD j false) (kn t) l[i]) := by
  have hl := ok_len hok
  unfold spec_l7Made.f
  refine ev_if_pos (by omega) (ev_if_pos (by omega) ?_)
  simp only [rdT l i hi]
  unfold ruleT
  by_cases h0 : (l[i]).f0 = 1
  · rw [if_pos h0]
    exact ev_if_pos h0 (ev_bind_const (specPublic_eq _) (ev_some _))
  · rw [if_neg h0]
    refine ev_if_neg h0 (ev_bind (specParts_ev _) ?_)
    by_cases h1 : cnt (l[i]).f0 = 1
    · have hp := one_in hok hi h1
      rw [if_pos h1]
      exact ev_if_pos h1 (ev_if_pos hp.1 (ev_if_pos (by omega) (ev_some_of (rdOf_getD _ _))))
    · have h2 : cnt (l[i]).f0 = 2 := by rcases cnt_cases hok hi with a | a | a; exact absurd a h0; exact absurd a h1; exact a
      have hp := two_in hok hi h2
      have hj := specMade_j l hl M t ht l[i] ⟨hp.1.1, by omega⟩ ⟨hp.2.1, by omega⟩
      rw [if_neg h1]
      refine ev_if_neg h1 (ev_if_pos hp.1.1 (ev_if_pos (by omega) ?_))
      simp only [rdOf_getD]
      by_cases hm1 : M.getD (l[i]).f1.toNat false = true
      · refine ev_if_pos hm1 (ev_if_pos hp.2.1 (ev_if_pos (by omega) ?_))
        have := hj (M.getD (l[i]).f2.toNat false)
        by_cases hm2 : M.getD (l[i]).f2.toNat false = true
        · rw [if_pos ⟨hm1, hm2⟩]
          rwa [if_pos hm2] at this
        · rw [if_neg (fun h => hm2 h.2)]
          rwa [if_neg hm2] at this
      · rw [if_neg (fun h => hm1 h.1)]
        have := hj false
        rw [if_neg (by simp)] at this
        exact ev_if_neg hm1 this
theorem specAll_loop (l : List Nd) (hok : poolOkB l = true) (t : List Int) (ht : t.length ≤ 1048576) : ∀ (n i : Nat), l.length - i = n → i ≤ l.length → Ev (fun k => spec_l7All.l0 k t (specT l (kn t) i) i l) (specT l (kn t) l.length)
  | 0, i, hn, hi => by
    have e : i = l.length := by omega
    subst e
    refine Ev.step (f := fun k => some (specT l (kn t) l.length)) (fun k => ?_) (ev_some _)
    simp only [spec_l7All.l0]
    rw [if_neg (by omega)]
  | n + 1, i, hn, hi => by
    have hlt : i < l.length := by omega
    have hl := ok_len hok
    have ih := specAll_loop l hok t ht n (i + 1) (by omega) (by omega)
    have hlen := specT_len l (kn t) i
    have e1 : specT l (kn t) (i + 1) = specT l (kn t) i ++ [kn t i || ruleT l (fun j => (specT l (kn t) i).getD j false) (kn t) l[i]] := by
      show specT l (kn t) i ++ [kn t i || ruleT l (fun j => (specT l (kn t) i).getD j false) (kn t) (l.getD i zN)] = _
      rw [getD_at l i hlt]
    refine Ev.step (fun k => by rw [spec_l7All.l0]) ?_
    refine ev_if_pos (by omega) (ev_bind (specKnowHas_ev t (i : Int) (by omega)) ?_)
    by_cases hk : kn t i = true
    · rw [hk, Bool.true_or] at e1
      rw [e1] at ih
      refine ev_if_pos hk (ev_if_pos (by omega) ?_)
      rw [wrap_succ (by omega)]
      exact ih
    · refine ev_if_neg hk (ev_bind (specMade_ev l hok _ t ht i hlt hlen) (ev_if_pos (by omega) ?_))
      rw [Bool.not_eq_true] at hk
      rw [hk, Bool.false_or] at e1
      rw [e1] at ih
      rw [wrap_succ (by omega)]
      exact ih
theorem specAll_ev (l : List Nd) (hok : poolOkB l = true) (t : List Int) (ht : t.length ≤ 1048576) : Ev (fun k => spec_l7All.f k l t) (mk l.length (tgt l (kn t))) := by
  unfold spec_l7All.f
  have := specAll_loop l hok t ht l.length 0 (by omega) (by omega)
  rw [show specT l (kn t) l.length = mk l.length (tgt l (kn t)) from specT_mk _ _ _] at this
  exact this
theorem implPublic_eq (x : Int) : impl_IsPublic.f x = some (pubB x) := by
  unfold impl_IsPublic.f
  rw [inRange_eq]
  rfl
theorem isMade_ev (l : List Nd) (hl : l.length ≤ 500) (f : Nat → Bool) (x : Int) : Ev (fun k => impl_Pool_isMade.f k l 7 x 0 (mk l.length f)) (isM l f x) := by
  unfold impl_Pool_isMade.f isM
  refine ev_bind (implFind_ev l ⟨7, x, 0⟩ (by omega)) ?_
  by_cases hf : findN l ⟨7, x, 0⟩ ≥ 0
  · obtain ⟨i, hi, e1, _⟩ := findN_at hf
    refine ev_if_pos hf (ev_if_pos hf (ev_if_pos (by rw [mk_length, e1]; omega) (ev_some_of ?_)))
    rw [e1, mk_rd _ _ i hi, Int.toNat_natCast, decide_eq_true (by omega : (i : Int) ≥ 0), Bool.true_and]
  · exact ev_if_neg hf (ev_some_of (by simp only [decide_eq_false hf]; rfl))
theorem canMake_j (l : List Nd) (hl : l.length ≤ 500) (f : Nat → Bool) (x : Nd) (a : Bool) (h : a = true ∨ x.f0 ≠ 8 ∨ (0 ≤ x.f1 ∧ x.f1 < (l.length : Int)) ∧ (0 ≤ x.f2 ∧ x.f2 < (l.length : Int))) :
    Ev (fun k => if a = true then impl_Pool_canMake.j1 k (mk l.length f) a true l x.f0 x.f1 x.f2 else impl_Pool_canMake.j1 k (mk l.length f) a (x.f0 != 8) l x.f0 x.f1 x.f2) (if a = true ∨ x.f0 ≠ 8 then a else (f x.f1.toNat && isM l f x.f2 || f x.f2.toNat && isM l f x.f1)) := by
  by_cases ha : a = true
  · subst ha
    refine ev_if_pos rfl ?_
    rw [if_pos (.inl rfl)]
    refine Ev.step (fun k => by rw [impl_Pool_canMake.j1]) ?_
    exact ev_if_pos rfl (ev_some _)
  · refine ev_if_neg ha ?_
    refine Ev.step (fun k => by rw [impl_Pool_canMake.j1]) ?_
    by_cases h8 : x.f0 = 8
    · rw [if_neg (fun hh => hh.elim ha (fun q => q h8))]
      obtain ⟨⟨a1, a2⟩, ⟨b1, b2⟩⟩ := (h.resolve_left ha).resolve_left (fun q => q h8)
      obtain ⟨y, hy⟩ : ∃ y : Nat, x.f1 = y := ⟨x.f1.toNat, by omega⟩
      obtain ⟨z, hz⟩ : ∃ z : Nat, x.f2 = z := ⟨x.f2.toNat, by omega⟩
      have m1 := isMade_ev l hl f x.f1
      have m2 := isMade_ev l hl f x.f2
      have r1 : rdOf false (mk l.length f) x.f1 = f x.f1.toNat := by rw [hy, mk_rd _ _ y (by omega)]; rfl
      have r2 : rdOf false (mk l.length f) x.f2 = f x.f2.toNat := by rw [hz, mk_rd _ _ z (by omega)]; rfl
      refine ev_if_neg (by simp [h8]) (ev_if_pos a1 (ev_if_pos (by rw [mk_length]; exact a2) ?_))
      rw [r1, r2]
      have tail : ∀ r : Bool, r = (f x.f2.toNat && isM l f x.f1) → Ev (fun k => if 0 ≤ x.f2 then (if x.f2 < ((mk l.length f).length : Int) then (if f x.f2.toNat = true then ((impl_Pool_isMade.f k l 7 x.f1 0 (mk l.length f)).bind fun t => some t) else some false) else none) else none) r := by
        intro r hr
        refine ev_if_pos b1 (ev_if_pos (by rw [mk_length]; exact b2) ?_)
        by_cases hm2 : f x.f2.toNat = true
        · exact ev_if_pos hm2 (ev_bind m1 (ev_some_of (by rw [hr, hm2]; simp)))
        · exact ev_if_neg hm2 (ev_some_of (by rw [hr]; rw [Bool.not_eq_true] at hm2; rw [hm2]; simp))
      by_cases hm1 : f x.f1.toNat = true
      · refine ev_if_pos hm1 (ev_bind m2 ?_)
        by_cases hp : isM l f x.f2 = true
        · exact ev_if_pos hp (ev_some_of (by rw [hm1, hp]; simp))
        · refine ev_if_neg hp (tail _ ?_)
          rw [Bool.not_eq_true] at hp
          rw [hp]
          simp
      · refine ev_if_neg hm1 (tail _ ?_)
        rw [Bool.not_eq_true] at hm1
        rw [hm1]
        simp
    · rw [if_pos (.inr h8)]
      exact ev_if_pos (by simp [h8]) (ev_some _)
theorem canMake_loop (l : List Nd) (hl : l.length ≤ 500) (f : Nat → Bool) (x : Nd) (ps : List Int) (hps : ∀ p ∈ ps, 0 ≤ p ∧ p < (l.length : Int)) (hpl : ps.length ≤ 2) {r : Bool} : ∀ (n j : Nat) (a : Bool), ps.length - j = n → j ≤ ps.length →
    Ev (fun k => if (a && (ps.drop j).all (fun q => f q.toNat)) = true then impl_Pool_canMake.j1 k (mk l.length f) (a && (ps.drop j).all (fun q => f q.toNat)) true l x.f0 x.f1 x.f2 else impl_Pool_canMake.j1 k (mk l.length f) (a && (ps.drop j).all (fun q => f q.toNat)) (x.f0 != 8) l x.f0 x.f1 x.f2) r →
    Ev (fun k => impl_Pool_canMake.l0 k (mk l.length f) a ps (ps.length : Int) j l x.f0 x.f1 x.f2) r
  | 0, j, a, hn, hj, h => by
    have e : j = ps.length := by omega
    subst e
    rw [List.drop_length, List.all_nil, Bool.and_true] at h
    refine Ev.step (fun k => by rw [impl_Pool_canMake.l0]) ?_
    exact ev_if_neg (by omega) h
  | n + 1, j, a, hn, hj, h => by
    have hlt : j < ps.length := by omega
    have hp := hps ps[j] (List.getElem_mem hlt)
    obtain ⟨m, em⟩ : ∃ m : Nat, ps[j] = m := ⟨ps[j].toNat, by omega⟩
    rw [List.drop_eq_getElem_cons hlt, List.all_cons, ← Bool.and_assoc] at h
    refine Ev.step (fun k => by rw [impl_Pool_canMake.l0]) ?_
    refine ev_if_pos (by omega) (ev_if_pos (by omega) (ev_if_pos (by omega) ?_))
    rw [rd_nat ps j hlt, wrap_succ (by omega)]
    by_cases ha : a = true
    · subst ha
      rw [Bool.true_and] at h
      refine ev_if_pos rfl (ev_if_pos hp.1 (ev_if_pos (by rw [mk_length]; exact hp.2) ?_))
      have e2 : rdOf false (mk l.length f) ps[j] = f ps[j].toNat := by rw [em, mk_rd _ _ m (by omega)]; rfl
      rw [e2]
      exact canMake_loop l hl f x ps hps hpl n (j + 1) _ (by omega) (by omega) h
    · refine ev_if_neg ha ?_
      rw [Bool.not_eq_true] at ha
      subst ha
      rw [Bool.false_and] at h
      exact canMake_loop l hl f x ps hps hpl n (j + 1) false (by omega) (by omega) h
theorem canMake_ev (l : List Nd) (hok : poolOkB l = true) (f : Nat → Bool) (t : Nat) (ht : t < l.length) : Ev (fun k => impl_Pool_canMake.f k l t (mk l.length f)) (canT l f l[t]) := by
  have hl := ok_len hok
  have hin := parts_in (ok_at hok t ht).2
  unfold impl_Pool_canMake.f canT
  refine ev_if_pos (by omega) (ev_if_pos (by omega) ?_)
  simp only [rdT l t ht]
  by_cases h0 : (l[t]).f0 = 1
  · rw [if_pos h0]
    exact ev_if_pos h0 (ev_bind_const (implPublic_eq _) (ev_some _))
  · rw [if_neg h0]
    refine ev_if_neg h0 (ev_bind (implParts_ev l t ht) ?_)
    refine canMake_loop l hl f l[t] (partsB l[t]) (fun p hp => by have := hin p hp; omega) (parts_len _) _ 0 true rfl (by omega) ?_
    rw [List.drop_zero, Bool.true_and]
    refine canMake_j l hl f l[t] _ ?_
    by_cases h8 : (l[t]).f0 = 8
    · refine .inr (.inr ?_)
      have h2 : cnt (l[t]).f0 = 2 := by rw [h8]; decide
      have := two_in hok ht h2
      exact ⟨⟨this.1.1, by omega⟩, ⟨this.2.1, by omega⟩⟩
    · exact .inr (.inl h8)
def pas (l : List Nd) : Nat → Nat → (Nat → Bool) → Bool → (Nat → Bool) × Bool
  | 0, _, f, m => (f, m)
  | d + 1, t, f, m => if f t = true then pas l d (t + 1) f m else if canT l f (l.getD t zN) = true then pas l d (t + 1) (put f t) true else pas l d (t + 1) f m
theorem put_le (f : Nat → Bool) (t i : Nat) (h : f i = true) : put f t i = true := by unfold put; rw [h]; rfl
theorem pas_up (l : List Nd) : ∀ (d t : Nat) (f : Nat → Bool) (m : Bool) (i : Nat), f i = true → (pas l d t f m).1 i = true
  | 0, _, f, m, i, h => h
  | d + 1, t, f, m, i, h => by
    unfold pas
    split
    · exact pas_up l d (t + 1) f m i h
    · split
      · exact pas_up l d (t + 1) _ true i (put_le f t i h)
      · exact pas_up l d (t + 1) f m i h
theorem pas_more (l : List Nd) : ∀ (d t : Nat) (f : Nat → Bool), (pas l d t f true).2 = true
  | 0, _, f => rfl
  | d + 1, t, f => by
    unfold pas
    split
    · exact pas_more l d (t + 1) f
    · split
      · exact pas_more l d (t + 1) _
      · exact pas_more l d (t + 1) f
theorem pas_in {l : List Nd} (hok : poolOkB l = true) {K : Int → Bool} : ∀ (d t : Nat) (f : Nat → Bool) (m : Bool), t + d ≤ l.length → (∀ i, i < l.length → f i = true → tgt l K i = true) → ∀ i, i < l.length → (pas l d t f m).1 i = true → tgt l K i = true
  | 0, t, f, m, hd, h => h
  | d + 1, t, f, m, hd, h => by
    have ht : t < l.length := by omega
    unfold pas
    by_cases hf : f t = true
    · rw [if_pos hf]; exact pas_in hok d (t + 1) f m (by omega) h
    · rw [if_neg hf]
      by_cases hc : canT l f (l.getD t zN) = true
      · rw [if_pos hc]
        refine pas_in hok d (t + 1) _ true (by omega) (fun i hi hp => ?_)
        unfold put at hp
        by_cases e : i = t
        · subst e
          rw [getD_at l i ht] at hc
          exact can_tgt hok h hi hc
        · simp [e] at hp
          exact h i hi hp
      · rw [if_neg hc]; exact pas_in hok d (t + 1) f m (by omega) h
theorem pas_still {l : List Nd} : ∀ (d t : Nat) (f : Nat → Bool), t + d ≤ l.length → (pas l d t f false).2 = false → (pas l d t f false).1 = f ∧ ∀ x, t ≤ x → x < t + d → f x = true ∨ ¬ canT l f (l.getD x zN) = true
  | 0, t, f, hd, h => ⟨rfl, fun x h1 h2 => by omega⟩
  | d + 1, t, f, hd, h => by
    unfold pas at h ⊢
    by_cases hf : f t = true
    · rw [if_pos hf] at h ⊢
      obtain ⟨e, hx⟩ := pas_still d (t + 1) f (by omega) h
      refine ⟨e, fun x h1 h2 => ?_⟩
      by_cases ex : x = t
      · subst ex; exact .inl hf
      · exact hx x (by omega) (by omega)
    · rw [if_neg hf] at h ⊢
      by_cases hc : canT l f (l.getD t zN) = true
      · rw [if_pos hc] at h
        rw [pas_more] at h
        simp at h
      · rw [if_neg hc] at h ⊢
        obtain ⟨e, hx⟩ := pas_still d (t + 1) f (by omega) h
        refine ⟨e, fun x h1 h2 => ?_⟩
        by_cases ex : x = t
        · subst ex; exact .inr hc
        · exact hx x (by omega) (by omega)
theorem pas_new {l : List Nd} : ∀ (d t : Nat) (f : Nat → Bool), t + d ≤ l.length → (pas l d t f false).2 = true → ∃ x, x < l.length ∧ f x = false ∧ (pas l d t f false).1 x = true
  | 0, t, f, hd, h => by simp [pas] at h
  | d + 1, t, f, hd, h => by
    unfold pas at h ⊢
    by_cases hf : f t = true
    · rw [if_pos hf] at h ⊢
      exact pas_new d (t + 1) f (by omega) h
    · rw [if_neg hf] at h ⊢
      by_cases hc : canT l f (l.getD t zN) = true
      · rw [if_pos hc]
        refine ⟨t, by omega, by simpa using hf, pas_up l d (t + 1) _ true t ?_⟩
        simp [put]
      · rw [if_neg hc] at h ⊢
        exact pas_new d (t + 1) f (by omega) h
def cF (f : Nat → Bool) : Nat → Nat
  | 0 => 0
  | n + 1 => cF f n + (if f n = true then 0 else 1)
theorem cF_le {f g : Nat → Bool} (h : ∀ i, f i = true → g i = true) : ∀ n, cF g n ≤ cF f n
  | 0 => Nat.le_refl _
  | n + 1 => by
    have ih := cF_le h n
    unfold cF
    by_cases hf : f n = true
    · rw [if_pos hf, if_pos (h n hf)]; omega
    · rw [if_neg hf]; split <;> omega
theorem cF_lt {f g : Nat → Bool} (h : ∀ i, f i = true → g i = true) : ∀ n, (∃ x, x < n ∧ f x = false ∧ g x = true) → cF g n < cF f n
  | 0, ⟨x, hx, _⟩ => by omega
  | n + 1, ⟨x, hx, h1, h2⟩ => by
    unfold cF
    by_cases e : x = n
    · subst e
      have := cF_le h x
      rw [if_pos h2, if_neg (by rw [h1]; simp)]
      omega
    · have := cF_lt h n ⟨x, by omega, h1, h2⟩
      by_cases hf : f n = true
      · rw [if_pos hf, if_pos (h n hf)]; omega
      · rw [if_neg hf]; split <;> omega
theorem pass_ev (l : List Nd) (hok : poolOkB l = true) {r : List Bool} : ∀ (d t : Nat) (f : Nat → Bool) (m : Bool), l.length - t = d → t ≤ l.length →
    Ev (fun k => impl_Pool_makes.l1 k (mk l.length (pas l d t f m).1) (pas l d t f m).2 l) r → Ev (fun k => impl_Pool_makes.l2 k (mk l.length f) m (l.length : Int) t l) r
  | 0, t, f, m, hd, ht, h => by
    refine Ev.step (fun k => by rw [impl_Pool_makes.l2]) ?_
    exact ev_if_neg (by omega) h
  | d + 1, t, f, m, hd, ht, h => by
    have hlt : t < l.length := by omega
    have hl := ok_len hok
    have ih := fun f m => pass_ev l hok (r := r) d (t + 1) f m (by omega) (by omega)
    unfold pas at h
    refine Ev.step (fun k => by rw [impl_Pool_makes.l2]) ?_
    refine ev_if_pos (by omega) (ev_if_pos (by omega) (ev_if_pos (by rw [mk_length]; omega) ?_))
    rw [mk_rd _ _ t hlt, wrap_succ (by omega)]
    by_cases hf : f t = true
    · rw [if_pos hf] at h
      exact ev_if_pos hf (ih _ _ h)
    · rw [if_neg hf] at h
      refine ev_if_neg hf (ev_bind (canMake_ev l hok f t hlt) ?_)
      by_cases hc : canT l f l[t] = true
      · rw [getD_at l t hlt, if_pos hc] at h
        refine ev_if_pos hc ?_
        rw [Int.toNat_natCast, mk_put]
        exact ih _ _ h
      · rw [getD_at l t hlt, if_neg hc] at h
        exact ev_if_neg hc (ih _ _ h)
theorem rounds_ev (l : List Nd) (hok : poolOkB l = true) (K : Int → Bool) : ∀ (c : Nat) (f : Nat → Bool), cF f l.length ≤ c → (∀ i, i < l.length → f i = true → tgt l K i = true) → (∀ i, i < l.length → K i = true → f i = true) →
    Ev (fun k => impl_Pool_makes.l1 k (mk l.length f) true l) (mk l.length (tgt l K)) := by
  intro c
  induction c using Nat.strongRecOn with
  | ind c ih =>
    intro f hc hT hK
    refine Ev.step (fun k => by rw [impl_Pool_makes.l1]) ?_
    refine ev_if_pos rfl ?_
    rw [mk_length]
    have hp := pass_ev l hok (r := mk l.length (tgt l K)) l.length 0 f false (by omega) (by omega)
    refine hp ?_
    by_cases hm : (pas l l.length 0 f false).2 = true
    · obtain hn := pas_new (l := l) l.length 0 f (by omega) hm
      have hup := pas_up l l.length 0 f false
      have hlt := cF_lt (f := f) (g := (pas l l.length 0 f false).1) hup l.length hn
      rw [hm]
      exact ih (cF (pas l l.length 0 f false).1 l.length) (by omega) _ (Nat.le_refl _) (pas_in hok l.length 0 f false (by omega) hT) (fun i hi hk => hup i (hK i hi hk))
    · rw [Bool.not_eq_true] at hm
      obtain ⟨e, hx⟩ := pas_still (l := l) l.length 0 f (by omega) hm
      rw [e, hm]
      refine Ev.step (fun k => by rw [impl_Pool_makes.l1]) ?_
      refine ev_if_neg (by simp) (ev_some_of ?_)
      have hcl := tgt_closed hok (K := K) (M := f) hK (fun t ht hct => (hx t (by omega) (by omega)).resolve_right (by rw [getD_at l t ht]; exact fun q => q hct))
      unfold mk
      refine List.map_congr_left (fun i hi => ?_)
      rw [List.mem_range] at hi
      by_cases ht : tgt l K i = true
      · rw [ht]; exact hcl i hi ht
      · cases hfi : f i with
        | true => exact absurd (hT i hi hfi) ht
        | false => rw [Bool.not_eq_true] at ht; exact ht.symm
theorem know_loop (l : List Nd) (hl : l.length ≤ 500) (t : List Int) (ht : t.length ≤ 1048576) (hin : ∀ z ∈ t, 0 ≤ z ∧ z < (l.length : Int)) {r : List Bool} : ∀ (n j : Nat) (f : Nat → Bool), t.length - j = n → j ≤ t.length →
    Ev (fun k => impl_Pool_makes.l1 k (mk l.length (putAll f (t.drop j))) true l) r → Ev (fun k => impl_Pool_makes.l0 k (mk l.length f) t (t.length : Int) j l) r
  | 0, j, f, hn, hj, h => by
    have e : j = t.length := by omega
    subst e
    rw [List.drop_length] at h
    refine Ev.step (fun k => by rw [impl_Pool_makes.l0]) ?_
    exact ev_if_neg (by omega) h
  | n + 1, j, f, hn, hj, h => by
    have hlt : j < t.length := by omega
    have hz := hin t[j] (List.getElem_mem hlt)
    rw [List.drop_eq_getElem_cons hlt] at h
    refine Ev.step (fun k => by rw [impl_Pool_makes.l0]) ?_
    refine ev_if_pos (by omega) (ev_if_pos (by omega) (ev_if_pos (by omega) ?_))
    rw [rd_nat t j hlt, wrap_succ (by omega)]
    refine ev_if_pos hz.1 (ev_if_pos (by rw [mk_length]; exact hz.2) ?_)
    rw [mk_put]
    exact know_loop l hl t ht hin n (j + 1) (put f t[j].toNat) (by omega) (by omega) h
theorem makes_ev (l : List Nd) (hok : poolOkB l = true) (t : List Int) (ht : t.length ≤ 1048576) (hin : ∀ z ∈ t, 0 ≤ z ∧ z < (l.length : Int)) : Ev (fun k => impl_Pool_makes.f k l t) (mk l.length (tgt l (kn t))) := by
  have hl := ok_len hok
  unfold impl_Pool_makes.f
  refine ev_if_pos (by omega) (ev_if_pos (by omega) ?_)
  rw [Int.toNat_natCast, mk_rep]
  refine know_loop l hl t ht hin _ 0 (fun _ => false) rfl (by omega) ?_
  rw [List.drop_zero]
  refine rounds_ev l hok (kn t) _ _ (Nat.le_refl _) (fun i hi hp => ?_) (fun i hi hk => ?_)
  · rw [putAll_eq] at hp
    simp at hp
    obtain ⟨p, hp1, hp2⟩ := hp
    rw [tgt_eq hok hi]
    have : kn t i = true := by
      unfold kn
      have := hin p hp1
      have e : p = (i : Int) := by omega
      rw [← e]
      simpa using hp1
    rw [this]
    rfl
  · rw [putAll_eq]
    unfold kn at hk
    simp at hk ⊢
    exact ⟨(i : Int), hk, by simp⟩
theorem kFrom_in (n : Nat) (t : List Int) : ∀ (d i : Nat), kFrom n t d i = true → ∀ j, i ≤ j → j < i + d → hasB n (rd t j) = true
  | 0, i, _, j, h1, h2 => by omega
  | d + 1, i, h, j, h1, h2 => by
    simp only [kFrom, Bool.and_eq_true] at h
    by_cases e : j = i
    · subst e
      have := h.1
      unfold kStep at this
      simp only [Bool.and_eq_true] at this
      exact this.1
    · exact kFrom_in n t d (i + 1) h.2 j (by omega) (by omega)
theorem know_in {n : Nat} {t : List Int} (h : knowB n t = true) : ∀ z ∈ t, 0 ≤ z ∧ z < (n : Int) := by
  intro z hz
  obtain ⟨i, hi, rfl⟩ := List.getElem_of_mem hz
  unfold knowB at h
  simp only [Bool.and_eq_true, decide_eq_true_eq] at h
  have := kFrom_in n t t.length 0 h.2 i (by omega) (by omega)
  rw [rd_nat t i hi] at this
  unfold hasB at this
  simpa using this
theorem know_len {n : Nat} {t : List Int} (h : knowB n t = true) : t.length ≤ 200 := by
  unfold knowB at h
  simp only [Bool.and_eq_true, decide_eq_true_eq] at h
  exact h.1
end Go.Proofs.Ytdgahpigcaejbaa.Lib
