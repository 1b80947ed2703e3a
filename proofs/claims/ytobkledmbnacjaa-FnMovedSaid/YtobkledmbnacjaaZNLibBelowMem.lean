/- What stands in a term: it, and what stands in its parts; lists without doubles. No conditions but a right pool. -/
import Derived.Test.YtobkledmbnacjaaZNLibBelow
set_option linter.unusedVariables false
set_option linter.unusedSimpArgs false
namespace Go.Proofs.Ytobkledmbnacjaa.Lib
open Go.RowKit Go.Proofs.Ytobkledmbnacjaa.M Go.Proofs.YtobkledmbnacjaaW.PrintWords Go.Proofs.YtobkledmbnacjaaW.PrintLast

theorem bst_or (l : List Nd) (f g : Nat → Bool) (x : Nat) : bst l (fun y => f y || g y) x = fun y => bst l f x y || bst l g x y := by
  funext y
  unfold bst
  by_cases hf : f x = true
  · rw [if_pos (by simp [hf]), if_pos hf, putAll_eq, putAll_eq]
    by_cases hg : g x = true
    · rw [if_pos hg, putAll_eq]
      cases f y <;> cases g y <;> simp
    · rw [if_neg hg]
      cases f y <;> cases g y <;> simp
  · by_cases hg : g x = true
    · rw [if_pos (by simp [hg]), if_neg hf, if_pos hg, putAll_eq, putAll_eq]
      cases f y <;> cases g y <;> simp
    · rw [if_neg (by simp [hf, hg]), if_neg hf, if_neg hg]
theorem dn_or (l : List Nd) : ∀ (x : Nat) (f g : Nat → Bool), dn l x (fun y => f y || g y) = fun y => dn l x f y || dn l x g y
  | 0, f, g => rfl
  | x + 1, f, g => by
    show dn l x (bst l (fun y => f y || g y) x) = _
    rw [bst_or, dn_or l x]
    rfl
theorem dn_skip (l : List Nd) (a : Nat) (f : Nat → Bool) : ∀ d, (∀ x, a ≤ x → x < a + d → f x = false) → dn l (a + d) f = dn l a f
  | 0, _ => rfl
  | d + 1, h => by
    show dn l (a + d) (bst l f (a + d)) = _
    have e : bst l f (a + d) = f := by unfold bst; rw [if_neg (by rw [h (a + d) (by omega) (by omega)]; simp)]
    rw [e]
    exact dn_skip l a f d (fun x h1 h2 => h x h1 (by omega))
theorem dn_one (l : List Nd) {p t : Nat} (h : p < t) : dn l t (fun i => decide (i = p)) = ins l p := by
  unfold ins
  have := dn_skip l (p + 1) (fun i => decide (i = p)) (t - (p + 1)) (fun x h1 h2 => by simp; omega)
  rw [show p + 1 + (t - (p + 1)) = t by omega] at this
  exact this
theorem dn_none (l : List Nd) {t : Nat} {f : Nat → Bool} (h : ∀ x, x < t → f x = false) : dn l t f = f := by
  have := dn_skip l 0 f t (fun x _ h2 => h x (by omega))
  rw [Nat.zero_add] at this
  exact this
theorem dn_all (l : List Nd) (t : Nat) : ∀ (ps : List Int) (f : Nat → Bool) (y : Nat), (∀ p ∈ ps, 0 ≤ p ∧ p < (t : Int)) → dn l t (putAll f ps) y = (dn l t f y || decide (∃ p ∈ ps, ins l p.toNat y = true))
  | [], f, y, _ => by simp [putAll]
  | p :: ps, f, y, h => by
    have hp := h p (by simp)
    show dn l t (putAll (put f p.toNat) ps) y = _
    rw [dn_all l t ps (put f p.toNat) y (fun q hq => h q (List.mem_cons_of_mem _ hq))]
    have e : put f p.toNat = fun i => f i || decide (i = p.toNat) := rfl
    rw [e, dn_or, dn_one l (show p.toNat < t by omega)]
    cases h1 : dn l t f y <;> cases h2 : ins l p.toNat y <;> simp [h1, h2]
theorem ins_parts {l : List Nd} (hok : poolOkB l = true) {t : Nat} (ht : t < l.length) (y : Nat) : ins l t y = true ↔ y = t ∨ ∃ p ∈ partsB l[t], ins l p.toNat y = true := by
  have hin := parts_in (ok_at hok t ht).2
  have e : ins l t = dn l t (putAll (fun i => decide (i = t)) (partsB l[t])) := by
    show dn l t (bst l (fun i => decide (i = t)) t) = _
    unfold bst
    rw [if_pos (by simp), getD_at l t ht]
  rw [e, dn_all l t _ _ y hin, dn_none l (fun x hx => by simp; omega)]
  simp
theorem mem_belowL {l : List Nd} (hok : poolOkB l = true) {t : Nat} (ht : t < l.length) (z : Int) : z ∈ belowL l t ↔ ∃ y : Nat, z = y ∧ ins l t y = true := by
  unfold belowL
  rw [List.mem_map]
  constructor
  · rintro ⟨y, hy, rfl⟩
    exact ⟨y, rfl, (List.mem_filter.1 hy).2⟩
  · rintro ⟨y, rfl, hy⟩
    refine ⟨y, List.mem_filter.2 ⟨List.mem_range.2 ?_, hy⟩, rfl⟩
    by_cases h : t < y
    · rw [ins_far hok ht h] at hy; simp at hy
    · omega
theorem belowL_nodup (l : List Nd) (t : Nat) : (belowL l t).Nodup := by
  unfold belowL
  refine List.Pairwise.map _ (fun a b (h : a ≠ b) => ?_) (List.Pairwise.filter _ List.nodup_range)
  intro e
  exact h (by omega)
end Go.Proofs.Ytobkledmbnacjaa.Lib
