/- The library's strings.Join over a row of strings of the call's own, in the print's words. Conditions: the row is the call's own; what is joined is below the library's bound. -/
import Derived.Test.YtjcemohmlpgfnaaDoorYWKept
import Derived.Shelf.Strings.OnBuilder
set_option linter.unusedVariables false
set_option linter.unusedSimpArgs false
namespace Go.Proofs.YtjcemohmlpgfnaaDoor.RowJoin
open Go.RowKit Go.Proofs.YtjcemohmlpgfnaaDoorW.PrintWords Go.Shelf

theorem joinR {P : Program} {ρ : Ren} (L : Lays.n156 P ρ) (X : Builder.Extra P ρ) {e : Nat} (P0 : Nat → Prop) (u0 : Value) (l0 : List ByteArray) (sep : ByteArray) (w0 w : World) (hB : Below w0.heap.size w0 w)
    (ho0 : Kd.R Kd.string e w w0.heap.size P0 u0 l0) (hN : l0.length ≤ 140737488355328) (hlen : (Lib.join (l0.map (·.data.toList)) sep.data.toList).length ≤ 140737488355328) :
    Calls P (ρ.f 156) #[u0, .string sep] w fun e' w' => e' = .returned (.string ⟨(Lib.join (l0.map (·.data.toList)) sep.data.toList).toArray⟩) ∧ Below w0.heap.size w0 w' ∧ Kept w w' (fun k => P0 k) := by
  have ho := Kd.own_of_R (enc := Value.string) (h1 := fun _ => rfl) ho0
  rcases ho.2 with ⟨rfl, h0⟩ | ⟨g, cap, cur, rfl, hg, hh, h1, h2, h3, h4⟩
  · obtain rfl : l0 = [] := List.eq_nil_of_length_eq_zero h0
    refine Calls.mono (Any.strings_Join_none L X none 0 sep w) ?_
    rintro e' w' ⟨rfl, rfl⟩
    exact ⟨rfl, hB, Kept.refl _ _⟩
  · have hlt : g < w.heap.size := (Array.getElem?_eq_some_iff.1 hh).1
    have hcells : ∀ (j : Nat) x, l0[j]? = some x → w.cell? ⟨g, 0 + j, none⟩ = some (.string x) := fun j x hx => by
      obtain ⟨hj, hx⟩ := List.getElem?_eq_some_iff.1 hx
      have := (Kd.R_cell (enc := Value.string) (h1 := fun _ => rfl) ByteArray.empty ho0 (j : Int) (by omega) (by omega)).1
      rw [Int.toNat_natCast] at this
      rw [Nat.zero_add, this]
      show some (Value.string (l0.getD ((j : Int)).toNat ByteArray.empty)) = _
      rw [Int.toNat_natCast, List.getD_eq_getElem?_getD, List.getElem?_eq_getElem hj, Option.getD_some, hx]
    refine Calls.mono (Any.strings_Join L X g 0 cap l0 sep w hcells hlt hN h1 hlen) ?_
    rintro e' w' ⟨rfl, hb⟩
    exact ⟨rfl, below_step hB hb, Kept.of_below hb _⟩
end Go.Proofs.YtjcemohmlpgfnaaDoor.RowJoin
