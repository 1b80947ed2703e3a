/- What the laws' own marks come to: a list that is written over, and found as it was written. No conditions but lengths. -/
import Derived.Test.YtobkledmbnacjaaZSLibPool
import Derived.Test.YtobkledmbnacjaaZSSWg5
set_option linter.unusedVariables false
set_option linter.unusedSimpArgs false
namespace Go.Proofs.Ytobkledmbnacjaa.Lib
open Go.RowKit Go.Proofs.Ytobkledmbnacjaa.SW Go.Proofs.YtobkledmbnacjaaW.PrintWords Go.Proofs.YtobkledmbnacjaaW.PrintLast

theorem markNodeS_loop (m : Nat) (hl : m ≤ 1000000000) : ∀ (n i : Nat) (x0 : List Nd), x0.length = m → m - i = n → i ≤ m → ∃ ys : List Nd, ys.length = m ∧ Ev (fun k => laws_markNodeS.l0 k x0 (3 * (i : Int) + 1) i) (3 * (m : Int) + 1, ys)
  | 0, i, x0, hm, hn, hi => by
    have e : i = m := by omega
    refine ⟨x0, hm, Ev.step (f := fun k => some (3 * (m : Int) + 1, x0)) (fun k => ?_) (ev_some _)⟩
    simp only [laws_markNodeS.l0]
    rw [if_neg (by omega), e]
  | n + 1, i, x0, hm, hn, hi => by
    let y : List Nd := x0.set i ⟨3 * (i : Int) + 1, (rd_T55 x0 i).f1, (rd_T55 x0 i).f2⟩
    let z : List Nd := y.set i ⟨(rd_T55 y i).f0, 3 * (i : Int) + 1 + 1, (rd_T55 y i).f2⟩
    let u : List Nd := z.set i ⟨(rd_T55 z i).f0, (rd_T55 z i).f1, 3 * (i : Int) + 1 + 1 + 1⟩
    obtain ⟨ys, h1, h2⟩ := markNodeS_loop m hl n (i + 1) u (by simp [u, z, y, hm]) (by omega) (by omega)
    refine ⟨ys, h1, Ev.step (f := fun k => laws_markNodeS.l0 k u (3 * ((i + 1 : Nat) : Int) + 1) (i + 1 : Nat)) (fun k => ?_) h2⟩
    simp only [laws_markNodeS.l0, Option.bind_some]
    rw [if_pos (by omega), if_pos (by omega), Int.toNat_natCast, wrap_succ (by omega), wrap_id (i := 3 * (i : Int) + 1 + 1) (by omega) (by omega), wrap_id (i := 3 * (i : Int) + 1 + 1 + 1) (by omega) (by omega), wrap_id (i := 3 * (i : Int) + 1 + 1 + 1 + 1) (by omega) (by omega)]
    have e3 : 3 * (i : Int) + 1 + 1 + 1 + 1 = 3 * ((i + 1 : Nat) : Int) + 1 := by omega
    rw [e3]
theorem markPool_ev (l : List Nd) (hl : l.length ≤ 1000000000) : ∃ ys : List Nd, Ev (fun k => laws_markPool.f k l 1) (3 * (l.length : Int) + 1, ys) := by
  obtain ⟨ys, _, h⟩ := markNodeS_loop l.length hl l.length 0 l rfl (by omega) (by omega)
  refine ⟨ys, ?_⟩
  unfold laws_markPool.f laws_markNodeS.f
  refine ev_bind (a := (3 * (l.length : Int) + 1, ys)) ?_ (ev_some _)
  simpa using h
end Go.Proofs.Ytobkledmbnacjaa.Lib
