/- No two of the keys of agents and new names are one, and none is public, whatever is drawn. No conditions. -/
import Derived.Test.YtigckonomoodaaaLibWithin
import Derived.Test.YtigckonomoodaaaN1
import Derived.Test.YtigckonomoodaaaN2
import Derived.Test.YtigckonomoodaaaN3
import Derived.Test.YtigckonomoodaaaLibDraw
import Derived.Test.YtigckonomoodaaaLibKeys
import Derived.KernelRfl
set_option linter.unusedVariables false
set_option linter.unusedSimpArgs false
namespace Go.Proofs.Ytigckonomoodaaa.Pure
open Go.RowKit Go.Proofs.Ytigckonomoodaaa.N Go.Proofs.Ytigckonomoodaaa.Lib Go.Proofs.YtigckonomoodaaaW.PrintWords Go.Proofs.YtigckonomoodaaaW.PrintLast

def seenLit : List Int := [50, 90, 51, 91, 61, 52, 92, 62, 67, 53, 93, 63, 68, 73, 54, 94, 64, 69, 74, 79] ++ (List.range 100).map (fun (i : Nat) => (100 : Int) + (i : Int))

theorem names_loops (x : Int) (k : Nat) : laws_FnNames.l0 (k + 122) x [] 0 = laws_FnNames.l3 k x seenLit 0 := by kernel_rfl

theorem public_eq (x : Int) : impl_IsPublic.f x = some (decide (0 ≤ x ∧ x ≤ 49)) := by
  unfold impl_IsPublic.f impl_inRange.f
  by_cases h : x ≥ 0
  · have h' : 0 ≤ x := h
    rw [if_pos h]; simp [h']
  · have h' : ¬ 0 ≤ x := h
    rw [if_neg h]; simp [h']

def goodAt (s : List Int) (i : Nat) : Bool := decide (50 ≤ rd s i) && decide (rd s i < 200) && decide (rd s i ∉ s.take i)
theorem l3_ok (s : List Int) (x : Int) (hl : s.length < 1000) (good : ∀ i, i < s.length → goodAt s i = true) (hx : x = -1 ∨ x ∈ s) : ∀ (n i : Nat), s.length - i = n → i ≤ s.length →
    Ev (fun k => laws_FnNames.l3 k x s i) true
  | 0, i, hn, hi => by
    by_cases e : x = -1
    · refine Ev.step (f := fun k => some true) (fun k => ?_) (ev_some _)
      simp only [laws_FnNames.l3]
      rw [if_neg (by omega), if_pos e]
    · have hm : x ∈ s := by rcases hx with h | h; exact absurd h e; exact h
      refine Ev.step (f := fun k => (laws_within.f k s x).bind fun t => some t) (fun k => ?_) (ev_bind (within_ev s x (by omega)) (ev_some_of (by simp [hm])))
      simp only [laws_FnNames.l3]
      rw [if_neg (by omega), if_neg e]
  | n + 1, i, hn, hi => by
    have hlt : i < s.length := by omega
    have hg := good i hlt
    simp only [goodAt, Bool.and_eq_true, decide_eq_true_eq] at hg
    obtain ⟨⟨g1, g2⟩, g3⟩ := hg
    refine Ev.step (f := fun k => (laws_within.f k (s.take (i : Int).toNat) (rd s i)).bind fun t => if t = true then some false else laws_FnNames.l3 k x s (wrap64 ((i : Int) + 1))) (fun k => ?_) ?_
    · simp only [laws_FnNames.l3]
      rw [if_pos (by omega), if_pos (by omega), if_neg (by omega), public_eq]
      simp only [Option.bind_some]
      rw [if_neg (by simp; omega), if_neg (by omega), if_pos (by omega)]
    · have ht : (s.take i).length ≤ 9223372036854775806 := by rw [List.length_take]; omega
      rw [Int.toNat_natCast, wrap_succ (by omega)]
      refine ev_bind (within_ev (s.take i) (rd s i) ht) ?_
      exact ev_if_neg (by simp [g3]) (l3_ok s x hl good hx n (i + 1) (by omega) (by omega))

theorem seen_good : ∀ i, i < seenLit.length → goodAt seenLit i = true := by
  have h : (List.range seenLit.length).all (fun i => goodAt seenLit i) = true := by decide +kernel
  intro i hi
  exact List.all_eq_true.1 h i (List.mem_range.2 hi)
theorem seen_all : ∀ a : Fin 5, ∀ b : Fin 5, sharedKey (a.val : Int) (b.val : Int) = -1 ∨ sharedKey (a.val : Int) (b.val : Int) ∈ seenLit := by decide +kernel
theorem shared_seen (a b : Int) : sharedKey a b = -1 ∨ sharedKey a b ∈ seenLit := by
  by_cases h : (0 ≤ a ∧ a ≤ 4) ∧ (0 ≤ b ∧ b ≤ 4) ∧ a ≠ b
  · obtain ⟨⟨h1, h2⟩, ⟨h3, h4⟩, _⟩ := h
    obtain ⟨m, rfl⟩ := Int.eq_ofNat_of_zero_le h1
    obtain ⟨n, rfl⟩ := Int.eq_ofNat_of_zero_le h3
    exact seen_all ⟨m, by omega⟩ ⟨n, by omega⟩
  · left
    unfold sharedKey
    rw [if_neg h]

theorem FnNames : laws_FnNames.Pure := by
  intro l hm hs hw
  refine ev_rounds ?_
  unfold laws_FnNames.f
  by_cases hb : (l.length : Int) > 1048576
  · exact ev_bind_const (a := true) (by unfold laws_big.f; simp; omega) (ev_if_pos rfl (ev_some _))
  · have hl : l.length ≤ 1048576 := by omega
    refine ev_bind_const (a := false) (by unfold laws_big.f; simp; omega) (ev_if_neg (by simp) ?_)
    obtain ⟨a, b, hd⟩ := drawSharedKey_ok l (by omega)
    refine ev_bind hd (ev_bind_const (implShared_eq a b) (ev_bind (specShared_ev a b) ?_))
    refine ev_if_pos rfl (ev_bind_const (implShared_eq b a) ?_)
    have hlen : seenLit.length < 1000 := by decide +kernel
    have h3 := l3_ok seenLit (sharedKey a b) hlen seen_good (shared_seen a b) seenLit.length 0 (by omega) (by omega)
    have hf : (sharedKey a b != sharedKey b a) = false := by rw [sharedKey_comm a b]; simp
    obtain ⟨K, h3⟩ := h3
    refine ⟨K + 123, fun k hk => ?_⟩
    obtain ⟨j, rfl⟩ : ∃ j, k = (j + 122) + 1 := ⟨k - 123, by omega⟩
    show laws_FnNames.j0 ((j + 122) + 1) (sharedKey a b) (sharedKey a b != sharedKey b a) = some true
    rw [hf]
    simp only [laws_FnNames.j0]
    rw [if_neg (by simp), names_loops]
    exact h3 j (by omega)

end Go.Proofs.Ytigckonomoodaaa.Pure
