/- What stands below a term: both tell it one way. No conditions but lengths. -/
import Derived.Test.YtobkledmbnacjaaZNLibDeepA
import Derived.Test.YtobkledmbnacjaaZNMg0
import Derived.Test.YtobkledmbnacjaaZNMg2
import Derived.Test.YtobkledmbnacjaaZNMg4
set_option linter.unusedVariables false
set_option linter.unusedSimpArgs false
namespace Go.Proofs.Ytobkledmbnacjaa.Lib
open Go.RowKit Go.Proofs.Ytobkledmbnacjaa.M Go.Proofs.YtobkledmbnacjaaW.PrintWords Go.Proofs.YtobkledmbnacjaaW.PrintLast

def mk (n : Nat) (f : Nat → Bool) : List Bool := (List.range n).map f
theorem mk_length (n : Nat) (f : Nat → Bool) : (mk n f).length = n := by simp [mk]
theorem mk_rd (n : Nat) (f : Nat → Bool) (i : Nat) (h : i < n) : rdOf false (mk n f) i = f i := by
  unfold rdOf mk
  rw [Int.toNat_natCast, List.getD_eq_getElem?_getD, List.getElem?_map, List.getElem?_range h]
  rfl
def put (f : Nat → Bool) (p : Nat) : Nat → Bool := fun i => f i || decide (i = p)
theorem mk_put (n : Nat) (f : Nat → Bool) (p : Nat) : (mk n f).set p true = mk n (put f p) := by
  apply List.ext_getElem
  · simp [mk]
  · intro i h1 h2
    rw [List.getElem_set]
    simp only [mk, List.getElem_map, List.getElem_range, put]
    by_cases e : p = i
    · rw [if_pos e]; simp [e]
    · rw [if_neg e]
      have : ¬ i = p := fun h => e h.symm
      simp [this]
theorem mk_rep (n : Nat) : List.replicate n false = mk n (fun _ => false) := by
  apply List.ext_getElem
  · simp [mk]
  · intro i h1 h2
    simp [mk]
def putAll (f : Nat → Bool) (ps : List Int) : Nat → Bool := ps.foldl (fun f p => put f p.toNat) f
theorem putAll_far : ∀ (ps : List Int) (f : Nat → Bool) (y : Nat), (∀ p ∈ ps, p.toNat ≠ y) → putAll f ps y = f y
  | [], f, y, h => rfl
  | p :: ps, f, y, h => by
    have h1 : y ≠ p.toNat := fun e => h p (by simp) e.symm
    show putAll (put f p.toNat) ps y = f y
    rw [putAll_far ps (put f p.toNat) y (fun q hq => h q (by simp [hq]))]
    simp [put, h1]
theorem putAll_eq : ∀ (ps : List Int) (f : Nat → Bool) (y : Nat), putAll f ps y = (f y || decide (∃ p ∈ ps, p.toNat = y))
  | [], f, y => by simp [putAll]
  | p :: ps, f, y => by
    show putAll (put f p.toNat) ps y = _
    rw [putAll_eq ps]
    have e : (∃ q ∈ p :: ps, q.toNat = y) ↔ (y = p.toNat ∨ ∃ q ∈ ps, q.toNat = y) := by
      simp [eq_comm]
    simp only [e, put, Bool.or_assoc, Bool.decide_or]
def bst (l : List Nd) (f : Nat → Bool) (x : Nat) : Nat → Bool := if f x = true then putAll f (partsB (l.getD x zN)) else f
def dn (l : List Nd) : Nat → (Nat → Bool) → (Nat → Bool)
  | 0, f => f
  | x + 1, f => dn l x (bst l f x)
def ins (l : List Nd) (a : Nat) : Nat → Bool := dn l (a + 1) (fun i => decide (i = a))
section
variable {l : List Nd} (hok : poolOkB l = true)
include hok
theorem parts_at {x : Nat} (hx : x < l.length) : ∀ p ∈ partsB (l.getD x zN), 0 ≤ p ∧ p < (x : Int) := by
  rw [getD_at l x hx]
  exact parts_in (ok_at hok x hx).2
theorem bst_far {f : Nat → Bool} {x y : Nat} (hx : x < l.length) (hy : x ≤ y) : bst l f x y = f y := by
  unfold bst
  split
  · exact putAll_far _ _ _ (fun p hp => by have := parts_at hok hx p hp; omega)
  · rfl
theorem dn_far {y : Nat} : ∀ (x : Nat) (f : Nat → Bool), x ≤ l.length → x ≤ y → dn l x f y = f y
  | 0, f, _, _ => rfl
  | x + 1, f, hx, hy => by
    show dn l x (bst l f x) y = f y
    rw [dn_far x _ (by omega) (by omega), bst_far hok (by omega) (by omega)]
theorem ins_far {a y : Nat} (ha : a < l.length) (hy : a < y) : ins l a y = false := by
  unfold ins
  rw [dn_far hok (a + 1) _ (by omega) (by omega)]
  simp; omega
theorem ins_self {a : Nat} (ha : a < l.length) : ins l a a = true := by
  show dn l a (bst l _ a) a = true
  rw [dn_far hok a _ (by omega) (by omega), bst_far hok ha (by omega)]
  simp
end
theorem specIn_in (l : List Nd) (n : Nat) (x : Nat) (hx : x < n) (ps : List Int) (hps : ∀ p ∈ ps, 0 ≤ p ∧ p < (x : Int)) (hl : ps.length ≤ 2) {r : List Bool} :
    ∀ (m j : Nat) (f : Nat → Bool), ps.length - j = m → j ≤ ps.length → f x = true → Ev (fun k => spec_l1Inside.l0 k (mk n (putAll f (ps.drop j))) (wrap64 ((x : Int) - 1)) l) r → Ev (fun k => spec_l1Inside.l1 k (mk n f) x ps j l) r
  | 0, j, f, hn, hj, hf, hk => by
    have e : j = ps.length := by omega
    rw [e, List.drop_length] at hk
    refine Ev.step (f := fun k => spec_l1Inside.l0 k (mk n f) (wrap64 ((x : Int) - 1)) l) (fun k => ?_) hk
    simp only [spec_l1Inside.l1]
    rw [if_neg (by omega)]
  | m + 1, j, f, hn, hj, hf, hk => by
    have hlt : j < ps.length := by omega
    have hp := hps ps[j] (List.getElem_mem hlt)
    rw [List.drop_eq_getElem_cons hlt] at hk
    have hf' : put f ps[j].toNat x = true := by simp [put, hf]
    have ih := specIn_in l n x hx ps hps hl m (j + 1) (put f ps[j].toNat) (by omega) (by omega) hf' hk
    refine Ev.step (f := fun k => spec_l1Inside.l1 k (mk n (put f ps[j].toNat)) x ps (j + 1 : Nat) l) (fun k => ?_) ih
    simp only [spec_l1Inside.l1]
    rw [if_pos (by omega), if_pos (by omega), if_pos (by rw [mk_length]; omega), mk_rd n f x hx, if_pos hf, if_pos (by omega), rd_nat ps j hlt, if_pos hp.1, if_pos (by rw [mk_length]; omega), mk_put, wrap_succ (by omega)]
theorem specIn_not (l : List Nd) (n : Nat) (x : Nat) (hx : x < n) (ps : List Int) (f : Nat → Bool) (hf : f x = false) {r : List Bool} (hk : Ev (fun k => spec_l1Inside.l0 k (mk n f) (wrap64 ((x : Int) - 1)) l) r) : Ev (fun k => spec_l1Inside.l1 k (mk n f) x ps 0 l) r := by
  refine Ev.step (f := fun k => spec_l1Inside.l0 k (mk n f) (wrap64 ((x : Int) - 1)) l) (fun k => ?_) hk
  simp only [spec_l1Inside.l1]
  by_cases h : 0 < (ps.length : Int)
  · rw [if_pos h, if_pos (by omega), if_pos (by rw [mk_length]; omega), mk_rd n f x hx, if_neg (by rw [hf]; simp)]
  · rw [if_neg h]
theorem specIn_loop (l : List Nd) (hok : poolOkB l = true) : ∀ (x : Nat) (f : Nat → Bool), x ≤ l.length → Ev (fun k => spec_l1Inside.l0 k (mk l.length f) (wrap64 ((x : Int) - 1)) l) (mk l.length (dn l x f))
  | 0, f, hx => by
    refine Ev.step (f := fun k => some (mk l.length f)) (fun k => ?_) (ev_some_of rfl)
    simp only [spec_l1Inside.l0]
    rw [wrap_id (by omega) (by omega), if_neg (by omega)]
  | x + 1, f, hx => by
    have hl5 := ok_len hok
    have hlt : x < l.length := by omega
    have e : wrap64 (((x + 1 : Nat) : Int) - 1) = (x : Int) := by rw [wrap_id (by omega) (by omega)]; omega
    rw [e]
    refine Ev.step (f := fun k => (spec_l1PartsOf.f k l x).bind fun t => spec_l1Inside.l1 k (mk l.length f) x t 0 l) (fun k => ?_) ?_
    · simp only [spec_l1Inside.l0]
      rw [if_pos (by omega)]
    · refine ev_bind (specPartsOf_ev l x hlt) ?_
      have ih := specIn_loop l hok x (bst l f x) (by omega)
      by_cases hf : f x = true
      · have eb : bst l f x = putAll f (partsB l[x]) := by unfold bst; rw [if_pos hf, getD_at l x hlt]
        have h := specIn_in l l.length x hlt (partsB l[x]) (parts_in (ok_at hok x hlt).2) (parts_len _) (r := mk l.length (dn l (x + 1) f)) _ 0 f rfl (by omega) hf
        refine h ?_
        rw [List.drop_zero, ← eb]
        exact ih
      · have eb : bst l f x = f := by unfold bst; rw [if_neg hf]
        refine specIn_not l l.length x hlt _ f (by simpa using hf) ?_
        show Ev _ (mk l.length (dn l x (bst l f x)))
        rw [eb] at ih ⊢
        exact ih
theorem put_none (a : Nat) : put (fun _ => false) a = fun i => decide (i = a) := by
  funext i
  simp [put]
theorem specInside_ev (l : List Nd) (hok : poolOkB l = true) (a : Nat) (ha : a < l.length) : Ev (fun k => spec_l1Inside.f k l a) (mk l.length (ins l a)) := by
  have hl5 := ok_len hok
  unfold spec_l1Inside.f
  refine ev_if_pos (by omega) (ev_if_pos (by omega) ?_)
  simp only [Int.toNat_natCast, Option.bind_some]
  refine ev_if_pos (by omega) (ev_if_pos (by rw [List.length_replicate]; omega) ?_)
  have h := specIn_loop l hok (a + 1) (fun i => decide (i = a)) (by omega)
  rw [show wrap64 (((a + 1 : Nat) : Int) - 1) = (a : Int) by rw [wrap_id (by omega) (by omega)]; omega] at h
  rw [mk_rep, mk_put, put_none]
  exact h
def belowL (l : List Nd) (a : Nat) : List Int := ((List.range l.length).filter (ins l a)).map fun (x : Nat) => (x : Int)
def belowOf (l : List Nd) (a : Int) : List Int := if poolOkB l = true ∧ hasB l.length a = true then belowL l a.toNat else []
def turned (l : List Int) (i : Nat) : List Int := (List.range l.length).map fun k => if k < i ∨ l.length - i ≤ k then l.getD (l.length - 1 - k) 0 else l.getD k 0
theorem turned_length (l : List Int) (i : Nat) : (turned l i).length = l.length := by simp [turned]
theorem turned_at (l : List Int) (i k : Nat) (h : k < (turned l i).length) : (turned l i)[k] = if k < i ∨ l.length - i ≤ k then l.getD (l.length - 1 - k) 0 else l.getD k 0 := by
  simp [turned]
theorem turned_zero (l : List Int) : turned l 0 = l := by
  apply List.ext_getElem
  · rw [turned_length]
  · intro k h1 h2
    rw [turned_at, if_neg (by omega), List.getD_eq_getElem?_getD, List.getElem?_eq_getElem h2]
    rfl
theorem turned_done (l : List Int) (i : Nat) (h : l.length ≤ 2 * i + 1) : turned l i = l.reverse := by
  apply List.ext_getElem
  · rw [turned_length, List.length_reverse]
  · intro k h1 h2
    rw [turned_length] at h1
    rw [turned_at, List.getElem_reverse]
    by_cases hk : k < i ∨ l.length - i ≤ k
    · rw [if_pos hk, List.getD_eq_getElem?_getD, List.getElem?_eq_getElem (by omega)]
      rfl
    · rw [if_neg hk, List.getD_eq_getElem?_getD, List.getElem?_eq_getElem h1]
      have : l.length - 1 - k = k := by omega
      simp only [this]
      rfl
theorem turned_step (l : List Int) (i : Nat) (h : 2 * i + 1 < l.length) :
    ((turned l i).set i (rd (turned l i) ((l.length - 1 - i : Nat) : Int))).set (l.length - 1 - i) (rd (turned l i) (i : Int)) = turned l (i + 1) := by
  rw [rd_nat _ _ (by rw [turned_length]; omega), rd_nat _ _ (by rw [turned_length]; omega), turned_at, turned_at, if_neg (by omega), if_neg (by omega)]
  apply List.ext_getElem
  · simp [turned_length]
  · intro k h1 h2
    rw [List.getElem_set, List.getElem_set, turned_at, turned_at]
    by_cases e1 : l.length - 1 - i = k
    · rw [if_pos e1, if_pos (by omega)]
      congr 1; omega
    · rw [if_neg e1]
      by_cases e2 : i = k
      · rw [if_pos e2, if_pos (by omega), ← e2]
      · rw [if_neg e2]
        by_cases e3 : k < i ∨ l.length - i ≤ k
        · rw [if_pos e3, if_pos (by omega)]
        · rw [if_neg e3, if_neg (by omega)]
theorem reverse_loop (l : List Int) (hl : l.length ≤ 4611686018427387904) : ∀ (m i : Nat), l.length - 2 * i = m → 2 * i ≤ l.length + 1 → Ev (fun k => slices_Reverse_int_int.l0 k (turned l i) i ((l.length : Int) - 1 - i)) l.reverse := by
  intro m
  induction m using Nat.strongRecOn with
  | ind m ihm =>
    intro i hm hi
    by_cases h : 2 * i + 1 < l.length
    · have ih := ihm (l.length - 2 * (i + 1)) (by omega) (i + 1) rfl (by omega)
      refine Ev.step (f := fun k => slices_Reverse_int_int.l0 k (turned l (i + 1)) (i + 1 : Nat) ((l.length : Int) - 1 - (i + 1 : Nat))) (fun k => ?_) ih
      simp only [slices_Reverse_int_int.l0]
      have ej : (l.length : Int) - 1 - i = ((l.length - 1 - i : Nat) : Int) := by omega
      rw [ej, if_pos (by omega), if_pos (by omega), if_pos (by rw [turned_length]; omega), if_pos (by omega), if_pos (by rw [turned_length]; omega), Int.toNat_natCast, Int.toNat_natCast, turned_step l i h, wrap_succ (by omega), wrap_id (by omega) (by omega)]
      congr 1
      omega
    · refine Ev.step (f := fun k => some l.reverse) (fun k => ?_) (ev_some _)
      simp only [slices_Reverse_int_int.l0]
      rw [if_neg (by omega), turned_done l i (by omega)]
theorem reverse_ev (l : List Int) (hl : l.length ≤ 4611686018427387904) : Ev (fun k => slices_Reverse_int_int.f k l) l.reverse := by
  unfold slices_Reverse_int_int.f
  rw [wrap_id (by omega) (by omega)]
  have h := reverse_loop l hl _ 0 rfl (by omega)
  rw [turned_zero] at h
  simpa using h
def outD (l : List Nd) : Nat → (Nat → Bool) → List Int
  | 0, _ => []
  | x + 1, f => if f x = true then (x : Int) :: outD l x (bst l f x) else outD l x f
theorem dn_far' (l : List Nd) (hok : poolOkB l = true) (x : Nat) (f : Nat → Bool) (hx : x + 1 ≤ l.length) : dn l (x + 1) f x = f x := by
  show dn l x (bst l f x) x = f x
  rw [dn_far hok x _ (by omega) (by omega), bst_far hok (by omega) (by omega)]
theorem outD_rev (l : List Nd) (hok : poolOkB l = true) : ∀ (x : Nat) (f : Nat → Bool), x ≤ l.length → (outD l x f).reverse = ((List.range x).filter (dn l x f)).map fun (y : Nat) => (y : Int)
  | 0, f, _ => by simp [outD]
  | x + 1, f, hx => by
    have hs : dn l (x + 1) f x = f x := dn_far' l hok x f hx
    rw [List.range_succ, List.filter_append, List.map_append]
    have hc : (List.range x).filter (dn l (x + 1) f) = (List.range x).filter (dn l x (bst l f x)) := rfl
    rw [hc, ← outD_rev l hok x (bst l f x) (by omega)]
    by_cases h : f x = true
    · have : dn l (x + 1) f x = true := by rw [hs]; exact h
      simp only [outD, if_pos h, List.reverse_cons, List.filter_cons, this, if_true, List.filter_nil, List.map_cons, List.map_nil]
    · have : dn l (x + 1) f x = false := by rw [hs]; simpa using h
      have eb : bst l f x = f := by unfold bst; rw [if_neg h]
      simp [outD, h, eb, this]
theorem implBelow_in (l : List Nd) (n : Nat) (x : Nat) (hx : x < n) (out : List Int) (ps : List Int) (hps : ∀ p ∈ ps, 0 ≤ p ∧ p < (x : Int)) (hl : ps.length ≤ 2) {r : List Int} :
    ∀ (m j : Nat) (f : Nat → Bool), ps.length - j = m → j ≤ ps.length → Ev (fun k => impl_Pool_below.l0 k (mk n (putAll f (ps.drop j))) out (wrap64 ((x : Int) - 1)) l) r → Ev (fun k => impl_Pool_below.l1 k (mk n f) out x ps (ps.length : Int) j l) r
  | 0, j, f, hn, hj, hk => by
    have e : j = ps.length := by omega
    rw [e, List.drop_length] at hk
    refine Ev.step (f := fun k => impl_Pool_below.l0 k (mk n f) out (wrap64 ((x : Int) - 1)) l) (fun k => ?_) hk
    simp only [impl_Pool_below.l1]
    rw [if_neg (by omega)]
  | m + 1, j, f, hn, hj, hk => by
    have hlt : j < ps.length := by omega
    have hp := hps ps[j] (List.getElem_mem hlt)
    rw [List.drop_eq_getElem_cons hlt] at hk
    have ih := implBelow_in l n x hx out ps hps hl m (j + 1) (put f ps[j].toNat) (by omega) (by omega) hk
    refine Ev.step (f := fun k => impl_Pool_below.l1 k (mk n (put f ps[j].toNat)) out x ps (ps.length : Int) (j + 1 : Nat) l) (fun k => ?_) ih
    simp only [impl_Pool_below.l1]
    rw [if_pos (by omega), if_pos (by omega), if_pos (by omega), rd_nat ps j hlt, if_pos hp.1, if_pos (by rw [mk_length]; omega), mk_put, wrap_succ (by omega)]
theorem implBelow_loop (l : List Nd) (hok : poolOkB l = true) (n : Nat) (hn : n ≤ l.length) : ∀ (x : Nat) (f : Nat → Bool) (out : List Int), x ≤ n → out.length + x ≤ 1000000 →
    Ev (fun k => impl_Pool_below.l0 k (mk n f) out (wrap64 ((x : Int) - 1)) l) (out ++ outD l x f).reverse
  | 0, f, out, hx, ho => by
    refine Ev.step (f := fun k => (slices_Reverse_int_int.f k out).bind fun t => some t) (fun k => ?_) (ev_bind (reverse_ev out (by omega)) (ev_some_of (by simp [outD])))
    simp only [impl_Pool_below.l0]
    rw [wrap_id (by omega) (by omega), if_neg (by omega)]
  | x + 1, f, out, hx, ho => by
    have hl5 := ok_len hok
    have hlt : x < l.length := by omega
    have e : wrap64 (((x + 1 : Nat) : Int) - 1) = (x : Int) := by rw [wrap_id (by omega) (by omega)]; omega
    rw [e]
    by_cases hf : f x = true
    · refine Ev.step (f := fun k => (impl_Pool_parts.f k l x).bind fun t => impl_Pool_below.l1 k (mk n f) (out ++ [(x : Int)]) x t (t.length : Int) 0 l) (fun k => ?_) ?_
      · simp only [impl_Pool_below.l0]
        rw [if_pos (by omega), if_pos (by omega), if_pos (by rw [mk_length]; omega), mk_rd n f x (by omega), if_pos hf, if_pos (by omega)]
      · refine ev_bind (implParts_ev l x hlt) ?_
        have eb : bst l f x = putAll f (partsB l[x]) := by unfold bst; rw [if_pos hf, getD_at l x hlt]
        have ih := implBelow_loop l hok n hn x (bst l f x) (out ++ [(x : Int)]) (by omega) (by simp; omega)
        have h := implBelow_in l n x (by omega) (out ++ [(x : Int)]) (partsB l[x]) (parts_in (ok_at hok x hlt).2) (parts_len _) (r := (out ++ outD l (x + 1) f).reverse) _ 0 f rfl (by omega)
        refine h ?_
        rw [List.drop_zero, ← eb]
        have ee : out ++ outD l (x + 1) f = out ++ [(x : Int)] ++ outD l x (bst l f x) := by simp [outD, hf]
        rw [ee]
        exact ih
    · have ih := implBelow_loop l hok n hn x f out (by omega) (by omega)
      have ee : outD l (x + 1) f = outD l x f := by simp [outD, hf]
      rw [ee]
      refine Ev.step (f := fun k => impl_Pool_below.l0 k (mk n f) out (wrap64 ((x : Int) - 1)) l) (fun k => ?_) ih
      simp only [impl_Pool_below.l0]
      rw [if_pos (by omega), if_pos (by omega), if_pos (by rw [mk_length]; omega), mk_rd n f x (by omega), if_neg hf]
theorem filter_far (l : List Nd) (hok : poolOkB l = true) (a : Nat) (ha : a < l.length) : ∀ d, (List.range (a + 1 + d)).filter (ins l a) = (List.range (a + 1)).filter (ins l a)
  | 0 => rfl
  | d + 1 => by
    rw [show a + 1 + (d + 1) = (a + 1 + d) + 1 by omega, List.range_succ, List.filter_append, filter_far l hok a ha d]
    simp [ins_far hok ha (show a < a + 1 + d by omega)]
theorem implPoolBelow_ev (l : List Nd) (hok : poolOkB l = true) (a : Nat) (ha : a < l.length) : Ev (fun k => impl_Pool_below.f k l a) (belowL l a) := by
  have hl5 := ok_len hok
  unfold impl_Pool_below.f
  rw [wrap_succ (by omega)]
  refine ev_if_pos (by omega) (ev_if_pos (by omega) ?_)
  simp only [Int.toNat_natCast, Option.bind_some]
  refine ev_if_pos (by omega) (ev_if_pos (by rw [List.length_replicate]; omega) ?_)
  have h := implBelow_loop l hok (a + 1) (by omega) (a + 1) (fun i => decide (i = a)) [] (by omega) (by simp; omega)
  rw [show wrap64 (((a + 1 : Nat) : Int) - 1) = (a : Int) by rw [wrap_id (by omega) (by omega)]; omega, List.nil_append, outD_rev l hok (a + 1) _ (by omega)] at h
  rw [mk_rep, mk_put, show put (fun _ => false) a = fun i => decide (i = a) by funext i; simp [put]]
  have e : belowL l a = ((List.range (a + 1)).filter (dn l (a + 1) fun i => decide (i = a))).map fun (y : Nat) => (y : Int) := by
    unfold belowL
    have := filter_far l hok a ha (l.length - (a + 1))
    rw [show a + 1 + (l.length - (a + 1)) = l.length by omega] at this
    rw [this]
    rfl
  rw [e]
  exact h
theorem implBelow_ev (l : List Nd) (a : Int) (hl : l.length ≤ 9223372036854775806) : Ev (fun k => impl_TermBelow.f k l a) (belowOf l a) := by
  unfold impl_TermBelow.f belowOf
  refine ev_bind_const (isTerm_eq l a (by omega)) ?_
  by_cases hh : hasB l.length a = true
  · refine ev_if_pos hh (ev_bind (implPoolOk_ev l) ?_)
    by_cases hok : poolOkB l = true
    · rw [if_pos ⟨hok, hh⟩]
      unfold hasB at hh
      simp only [decide_eq_true_eq] at hh
      obtain ⟨n, rfl⟩ : ∃ n : Nat, a = n := ⟨a.toNat, by omega⟩
      exact ev_if_pos hok (ev_bind (implPoolBelow_ev l hok n (by omega)) (ev_some _))
    · rw [if_neg (fun h => hok h.1)]
      exact ev_if_neg hok (ev_some _)
  · rw [if_neg (fun h => hh h.2)]
    exact ev_if_neg hh (ev_some _)
end Go.Proofs.Ytobkledmbnacjaa.Lib
