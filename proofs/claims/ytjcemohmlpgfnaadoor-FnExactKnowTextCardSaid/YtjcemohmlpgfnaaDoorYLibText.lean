/- The library's strconv.Itoa in the print's words: it answers the decimal numeral, where the table of powers of ten lies as the program's text lays it (the row's own cell 'laid' says that). No other conditions. -/
import Derived.Test.YtjcemohmlpgfnaaDoorYWKept
import Derived.Test.YtjcemohmlpgfnaaDoorProg
import Derived.Shelf.LaysM
import Derived.Shelf.Strconv.Itoa3
set_option linter.unusedVariables false
set_option linter.unusedSimpArgs false
namespace Go.Proofs.YtjcemohmlpgfnaaDoor.RowText
open Go.RowKit Go.Proofs.YtjcemohmlpgfnaaDoorW.PrintWords Go.Shelf Go.Sort

def Tb (w : World) : Prop := Lib.TabIs Tryd.prog w "internal/strconv.uint64pow10" .u64 Lib.pow10Tab
theorem Tb.below {n : Nat} {w W : World} (h : Tb w) (hn : w.heap.size ≤ n) (hb : Below n w W) : Tb W := by
  unfold Tb Lib.TabIs World.var? at *
  cases hg : Tryd.prog.globalNamed "internal/strconv.uint64pow10" with
  | none => simp [hg] at h
  | some g =>
    simp only [hg, Option.bind_some] at h ⊢
    have hlt : g < w.heap.size := by
      rcases Nat.lt_or_ge g w.heap.size with h' | h'
      · exact h'
      · rw [Array.getElem?_eq_none h'] at h; simp at h
    rw [hb.block g (by omega)]
    exact h
theorem Tb.of {w W : World} (hb : Below w.heap.size w W) (h : Tb w) : Tb W := h.below (Nat.le_refl _) hb
theorem below_grow (w : World) (os : Array Obj) : Below w.heap.size w (grow w os) :=
  ⟨rfl, rfl, rfl, by rw [size_grow]; omega, fun k hk => heap_grow_old w os hk⟩
theorem below_drewN_grow (w : World) (n : Nat) (os : Array Obj) : Below w.heap.size w (grow (w.drewN n) os) := by
  have h1 : Below w.heap.size w (w.drewN n) := by
    apply pw_below_drewN
    exact Below.refl _ _
  have h2 := below_grow (w.drewN n) os
  have e : (w.drewN n).heap.size = w.heap.size := by rw [World.heap_drewN]
  rw [e] at h2
  exact h1.trans h2
theorem itoaR {P : Program} {ρ : Ren} (L : LaysM.n171 P ρ) (n : Int) (h0 : -9223372036854775808 ≤ n) (h1 : n ≤ 9223372036854775807) (w : World)
    (ht : Lib.TabIs P w "internal/strconv.uint64pow10" .u64 Lib.pow10Tab) :
    Calls P (ρ.f 171) #[.int .i64 n] w fun e w' => e = .returned (.string ⟨(Lib.itoa n).toArray⟩) ∧ Below w.heap.size w w' := by
  refine (Any.strconv_Itoa L n h0 h1 w ht).mono ?_
  rintro e w' ⟨he, k, os, rfl⟩
  exact ⟨he, below_drewN_grow w k os⟩
end Go.Proofs.YtjcemohmlpgfnaaDoor.RowText
