/- A cut with a capacity, to the whole of a slice: the same elements, no room behind them. Conditions: the slice's length is at most its capacity. -/
import Derived.Test.YtdgahpigcaejbaaJPWMore
set_option linter.unusedVariables false
set_option linter.unusedSimpArgs false
namespace Go.Proofs.Ytdgahpigcaejbaa.RowClip
open Go.RowKit Go.Proofs.YtdgahpigcaejbaaW.PrintWords

def clipv : Value → Value
  | .slice A n _ => .slice A n n
  | v => v
theorem clipv_slice (A : Option Addr) (n c : Nat) : clipv (.slice A n c) = .slice A n n := rfl
theorem cut_clip {P : Program} (t e : TypeId) {i : TypeInfo} (ht : P.underlying t = some (.slice e)) (hi : P.info? e = some i) (A : Option Addr) (n c : Nat) (hc : n ≤ c) :
    ∀ W : World, (Instr.slice t (.slice A n c) none (some (.int .i64 (n : Int))) (some (.int .i64 (n : Int)))).run P W = .ok (.slice A n n) W := by
  intro W
  have hel : P.elem t = e := by simp [Program.elem, ht]
  have hu : P.underlying t = some (.slice (P.elem t)) := by rw [hel]; exact ht
  have ha : (A.map fun x => x.add 0) = A := by cases A <;> simp [Addr.add]
  rw [run_slice_hm W t A n c hu .i64 .i64 (n : Int) (n : Int) (by omega) (Int.le_refl _) (by omega), hel]
  simp [sizeOf, typeInfo, hi, sliced, Result.andThen, ha]
end Go.Proofs.Ytdgahpigcaejbaa.RowClip
