/- Lists of true and false in the laws: compared, written over, and found as they were written. No conditions but lengths. -/
import Derived.Test.YtdgahpigcaejbaaJPLibMarks
import Derived.Test.YtdgahpigcaejbaaJPJg0
set_option linter.unusedVariables false
set_option linter.unusedSimpArgs false
namespace Go.Proofs.Ytdgahpigcaejbaa.Lib
open Go.RowKit Go.Proofs.Ytdgahpigcaejbaa.J Go.Proofs.YtdgahpigcaejbaaW.PrintWords Go.Proofs.YtdgahpigcaejbaaW.PrintLast Go.Proofs.YtdgahpigcaejbaaW.PrintMore

theorem markAny_loop (m : Nat) (hl : m ≤ 1000000000) (a : Int) (h0 : 0 ≤ a) (ha : a ≤ 1000000000000) : ∀ (n i : Nat) (x : List Int), x.length = m → m - i = n → i ≤ m → ∃ ys : List Int, Ev (fun k => laws_markIntS.l0 k x (a + i) i) (a + m, ys)
  | 0, i, x, hm, hn, hi => by
    have e : i = m := by omega
    refine ⟨x, Ev.step (f := fun k => some (a + m, x)) (fun k => ?_) (ev_some _)⟩
    simp only [laws_markIntS.l0]
    rw [if_neg (by omega), e]
  | n + 1, i, x, hm, hn, hi => by
    obtain ⟨ys, h⟩ := markAny_loop m hl a h0 ha n (i + 1) (x.set i (a + i)) (by simp [hm]) (by omega) (by omega)
    refine ⟨ys, Ev.step (f := fun k => laws_markIntS.l0 k (x.set i (a + i)) (a + (i + 1 : Nat)) (i + 1 : Nat)) (fun k => ?_) h⟩
    simp only [laws_markIntS.l0]
    rw [if_pos (by omega), if_pos (by omega), Int.toNat_natCast, wrap_succ (by omega), wrap_id (i := a + i + 1) (by omega) (by omega), show a + (i : Int) + 1 = a + ((i + 1 : Nat) : Int) by omega]
theorem markAny_ev (l : List Int) (hl : l.length ≤ 1000000000) (a : Int) (h0 : 0 ≤ a) (ha : a ≤ 1000000000000) : ∃ ys : List Int, Ev (fun k => laws_markIntS.f k l a) (a + l.length, ys) := by
  obtain ⟨ys, h⟩ := markAny_loop l.length hl a h0 ha l.length 0 l rfl (by omega) (by omega)
  refine ⟨ys, ?_⟩
  unfold laws_markIntS.f
  simpa using h
end Go.Proofs.Ytdgahpigcaejbaa.Lib
