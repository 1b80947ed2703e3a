/- The library's slices.Sort at []int, over a row of the call's own (the shelf's contract told in the print's words). Conditions: the row is the call's own and has fewer than a million elements. -/
import Derived.Test.YtobkledmbnacjaaZNWKept
import Derived.Shelf.Sort.Plain
import Derived.Shelf.Slices.In.SortNone
import Derived.Sort.OwnSortedInts
set_option linter.unusedVariables false
set_option linter.unusedSimpArgs false
namespace Go.Proofs.Ytobkledmbnacjaa.RowSort
open Go.RowKit Go.Proofs.YtobkledmbnacjaaW.PrintWords Go.Shelf Go.Sort

theorem R_out {e : Nat} {base : Nat} {ok : Nat → Prop} {w : World} {u : Value} {zs : List Int} (h : Kd.R (Kd.int .i64) e w base ok u zs) :
    (u = .slice none 0 0 ∧ zs = []) ∨ ∃ g cap cur, u = .slice (some ⟨g, 0, none⟩) zs.length cap ∧ base ≤ g ∧ w.heap[g]? = some (.cells cur e (0, 0)) ∧ zs.length ≤ cap ∧ cap ≤ maxLen ∧ cur.size = cap * 1 ∧ cur.toList.take zs.length = encs (Value.int .i64) zs ∧ ok g := by
  have ho := Kd.own_of_R (enc := Value.int .i64) (h1 := fun _ => rfl) h
  rcases ho.2 with ⟨rfl, h0⟩ | ⟨g, cap, cur, rfl, hg, hh, h1, h2, h3, h4⟩
  · exact .inl ⟨rfl, List.eq_nil_of_length_eq_zero h0⟩
  · exact .inr ⟨g, cap, cur, rfl, hg, hh, h1, h2, h3, by rw [Nat.mul_one] at h4; exact h4, h.1 g (by simp [Value.ownBlock])⟩

theorem sortR {P : Program} {ρ : Ren} (L : Lays.n189 P ρ) {e : Nat} (P0 : Nat → Prop) (u0 : Value) (l0 : List Int) (w0 w : World) (hB : Below w0.heap.size w0 w)
    (ho0 : Kd.R (Kd.int .i64) e w w0.heap.size P0 u0 l0) (hs : l0.length < 1000000) :
    Calls P (ρ.f 189) #[u0] w fun e' w' => e' = .returned (.tuple #[]) ∧ Kd.R (Kd.int .i64) e w' w0.heap.size (fun k => (P0 k ∨ w.heap.size ≤ k)) u0 (l0.mergeSort fun x y => decide (x ≤ y)) ∧ Below w0.heap.size w0 w' ∧ Kept w w' (fun k => P0 k) := by
  have hsz := hB.size
  rcases R_out ho0 with ⟨rfl, rfl⟩ | ⟨g, cap, cur, rfl, hb, hh, hn, hm, hz, ht, hP⟩
  · refine Calls.mono (Any.slices_Sort_int_none L none 0 w) ?_
    rintro e' w' ⟨rfl, rfl⟩
    refine ⟨rfl, ?_, hB, Kept.refl _ _⟩
    rw [List.mergeSort_nil]
    exact Kd.R_mono ho0 (fun k hk => .inl hk)
  · have hg : g < w.heap.size := (Array.getElem?_eq_some_iff.1 hh).1
    have hm' := hm
    simp only [maxLen] at hm'
    refine Calls.mono (Any.slices_Sort_int L g 0 cap l0 w (holds_of_blockI hh ht) hg (by omega)) ?_
    rintro e' w' ⟨rfl, n, os, rfl⟩
    have hl : (l0.mergeSort fun x y => decide (x ≤ y)).length = l0.length := List.length_mergeSort _
    have hgr := grownBy_sortedI (w := w) (g := g) (n := n) (os := os) (l0.mergeSort fun x y => decide (x ≤ y)).toArray
    refine ⟨rfl, ?_, Below.grown hB hgr hsz (fun k hk => by injection hk with hk; omega), Kept.of_grown hgr (Kept.refl _ _) (fun k hk => by injection hk with hk; subst hk; exact .inl hP)⟩
    have ho := ownsRow_sortedI (n := n) (os := os) (ts := l0.mergeSort fun x y => decide (x ≤ y)) hl hb hh hn hm hz
    refine Kd.R_of_own (by rw [hl]; exact ho) (fun k hk => ?_)
    have hk' : g = k := by simpa [Value.ownBlock] using hk
    subst hk'
    exact .inl hP
end Go.Proofs.Ytobkledmbnacjaa.RowSort
