/- TermSwap and TermMove, the reference's and the program's: both carry. No conditions but right pools. -/
import Derived.Test.YtobkledmbnacjaaZNLibCarry
import Derived.Test.YtobkledmbnacjaaZNLibPut
import Derived.Test.YtobkledmbnacjaaZNMg1
import Derived.Test.YtobkledmbnacjaaZNMg2
set_option linter.unusedVariables false
set_option linter.unusedSimpArgs false
namespace Go.Proofs.Ytobkledmbnacjaa.Lib
open Go.RowKit Go.Proofs.Ytobkledmbnacjaa.M Go.Proofs.YtobkledmbnacjaaW.PrintWords Go.Proofs.YtobkledmbnacjaaW.PrintLast Go.Proofs.YtobkledmbnacjaaW.PrintMore

theorem countI_ev (a : Int) : Ev (fun k => impl_count.f k a) (cnt a) := ⟨1, fun k hk => by obtain ⟨m, rfl⟩ : ∃ m, k = m + 1 := ⟨k - 1, by omega⟩; exact count_eq m a⟩
theorem ok_rightAll {p : List Nd} (h : poolOkB p = true) : rightAll p := fun i hi => (ok_at h i hi).2
theorem rd_set (l : List Int) (i : Nat) (v : Int) (h : i < l.length) : rd (l.set i v) (i : Int) = v := by
  rw [rd_nat _ i (by rw [List.length_set]; exact h), List.getElem_set_self]
theorem rd_setne (l : List Int) (i j : Nat) (v : Int) (hj : j < l.length) (hne : j ≠ i) : rd (l.set i v) (j : Int) = rd l (j : Int) := by
  rw [rd_nat _ j (by rw [List.length_set]; exact hj), rd_nat l j hj, List.getElem_set_ne (fun e => hne e.symm)]
theorem implRebuilt_ev {q : List Nd} (hq : poolOkB q = true) {n : Nd} {i : Nat} (hn : nOk n i = true) (xs : List Int) (hx : i ≤ xs.length) (hl : xs.length ≤ 1000) (f : Nat → Int) (hf : ∀ y ∈ partsB n, rd xs y = f y.toNat) :
    Ev (fun k => impl_Pool_rebuilt.f k q n.f0 n.f1 n.f2 xs) (addN q (normN (reN f n))) := by
  have hl5 := ok_len hq
  have ha := fun y : Nd => implAdd_ev q y (ok_rightAll hq) hl5
  have hb := parts_in hn
  obtain ⟨k, x, y⟩ := n
  unfold impl_Pool_rebuilt.f
  refine ev_bind (countI_ev k) ?_
  rcases right_cases hn with ⟨h0, e⟩ | ⟨h1, e⟩ | ⟨h2, e⟩
  · simp only at h0 e
    subst e
    rw [re_0 f h0]
    exact ev_if_pos h0 (ha ⟨k, x, 0⟩)
  · simp only at h1 e
    subst e
    have hp : partsB (⟨k, x, 0⟩ : Nd) = [x] := by unfold partsB; rw [if_pos (show cnt k = 1 from h1)]
    rw [hp] at hf hb
    have hbx := hb x (by simp)
    have hfx := hf x (by simp)
    rw [re_1 f h1]
    refine ev_if_neg (by omega) (ev_if_pos h1 (ev_if_pos hbx.1 (ev_if_pos (by show x < (xs.length : Int); omega) ?_)))
    show Ev (fun k_1 => impl_Pool_add.f k_1 q k (rd xs x) 0) _
    rw [hfx]
    exact ha ⟨k, f x.toNat, 0⟩
  · simp only at h2 e
    have hp : partsB (⟨k, x, y⟩ : Nd) = [x, y] := by unfold partsB; rw [if_neg (show ¬ cnt k = 1 by omega), if_pos (show cnt k = 2 from h2)]
    rw [hp] at hf hb
    have hbx := hb x (by simp)
    have hby := hb y (by simp)
    have hfx := hf x (by simp)
    have hfy := hf y (by simp)
    rw [re_2 f h2]
    refine ev_if_neg (by omega) (ev_if_neg (by omega) (ev_if_pos hbx.1 (ev_if_pos (by show x < (xs.length : Int); omega) (ev_if_pos hby.1 (ev_if_pos (by show y < (xs.length : Int); omega) ?_)))))
    show Ev (fun k_1 => impl_Pool_add.f k_1 q k (rd xs x) (rd xs y)) _
    rw [hfx, hfy]
    exact ha ⟨k, f x.toNat, f y.toNat⟩
def carried (p : List Nd) (t : Nat) (o : Option (List Nd × (Nat → Int))) : List Nd × Int := match o with
  | none => (p, -1)
  | some r => (r.1, r.2 t)
def fromI (I : Nat → Bool) (i d : Nat) : List Int := ((List.range' i d).filter I).map fun (x : Nat) => (x : Int)
theorem fromI_succ (I : Nat → Bool) (i d : Nat) : fromI I i (d + 1) = if I i = true then (i : Int) :: fromI I (i + 1) d else fromI I (i + 1) d := by
  unfold fromI
  rw [List.range'_succ]
  by_cases h : I i = true
  · rw [if_pos h, List.filter_cons_of_pos h, List.map_cons]
  · rw [if_neg h, List.filter_cons_of_neg h]
theorem fromI_below {l : List Nd} (hok : poolOkB l = true) {t : Nat} (ht : t < l.length) : belowL l t = fromI (ins l t) 0 (t + 1) := by
  have hfar : ∀ d, ((List.range (t + 1 + d)).filter (ins l t)) = (List.range (t + 1)).filter (ins l t) := by
    intro d
    induction d with
    | zero => rfl
    | succ d ih =>
      rw [show t + 1 + (d + 1) = (t + 1 + d) + 1 by omega, List.range_succ, List.filter_append, ih]
      have : ins l t (t + 1 + d) = false := ins_far hok ht (by omega)
      simp [this]
  unfold belowL fromI
  rw [← List.range_eq_range', show l.length = t + 1 + (l.length - (t + 1)) by omega, hfar]
end Go.Proofs.Ytobkledmbnacjaa.Lib
