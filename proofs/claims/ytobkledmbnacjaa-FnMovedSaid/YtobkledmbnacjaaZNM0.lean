-- Written by this session's program (wip/tools/gprint.py over the kit's print) out of the translation; Lean checks it.
import Derived.Test.YtobkledmbnacjaaProg
import Derived.Below
import Derived.Deep.Draws
import Derived.Deep.AppendLies
import Derived.Maps.AppendAt
import Derived.OwnWalk
import Derived.Laws.BytesArg
import Derived.Laws.MakeOwn
import Derived.Laws.OwnMore
import Derived.Deep.OwnRows
import Derived.Tactics
import Derived.Lib.ConvBytes
import Derived.Laws.Slices
import Derived.WalkKit
import Derived.KernelRfl
import Derived.RowKit3
import Derived.Deep.LoopGhost
import Derived.Deep.QuietTactic
import Derived.BigQuiet
import Derived.WideLaws
import Derived.Deep.DeepCutAuto
import Derived.Deep.CutBlock
import Derived.Deep.RegionHeld3
import Derived.Laws.Rows
import Derived.Lib.AppendStr
import Derived.ArgAppend
import Derived.Laws.IdiomCopy
import Derived.OrdersHeld
import Derived.Laws.BitsLemmas
import Derived.RowKit
import Derived.Test.YtobkledmbnacjaaZNWWords
import Derived.Test.YtobkledmbnacjaaZNWLast
import Derived.Test.YtobkledmbnacjaaZNWTab
import Derived.Test.YtobkledmbnacjaaZNWFour
import Derived.Test.YtobkledmbnacjaaZNWQPut
import Derived.Test.YtobkledmbnacjaaZNWApart
import Derived.Test.YtobkledmbnacjaaZNWArr
import Derived.Test.YtobkledmbnacjaaZNWZeros
import Derived.Test.YtobkledmbnacjaaZNWFoot
import Derived.Test.YtobkledmbnacjaaZNWKept
import Derived.Test.YtobkledmbnacjaaZNWShare
import Derived.Test.YtobkledmbnacjaaZNWN
import Derived.Test.YtobkledmbnacjaaZNWFootNe
import Derived.Test.YtobkledmbnacjaaZNWAt
import Derived.Test.YtobkledmbnacjaaZNWEqStruct
import Derived.Test.YtobkledmbnacjaaZNWRepsOne
import Derived.Test.YtobkledmbnacjaaZNWInv
import Derived.Test.YtobkledmbnacjaaZNWInvWords
import Derived.Test.YtobkledmbnacjaaZNWGuard
import Derived.Test.YtobkledmbnacjaaZNWNEv
import Derived.Test.YtobkledmbnacjaaZNWMore
namespace Go.Proofs.Ytobkledmbnacjaa.M
open Go.RowKit Go.Proofs.YtobkledmbnacjaaW.PrintWords Go.Proofs.YtobkledmbnacjaaW.PrintLast Go.Proofs.YtobkledmbnacjaaW.PrintMore
attribute [local go_sem] max2_int min2_int max_two min_two max_three min_three max_four min_four   -- for this text's walks alone
set_option linter.unusedVariables false
set_option linter.unusedSimpArgs false
set_option maxRecDepth 100000



def errW : Option Int → Value
  | none => .nilIface
  | some c => .iface 0 (.int .i64 c)
theorem errW_none : errW none = .nilIface := rfl
theorem errW_some (c : Int) : errW (some c) = .iface 0 (.int .i64 c) := rfl

theorem info3 : (Try.prog.info? 3).map (fun i => (i.zero, i.size, i.bytes)) = some (some (.int .i64 0), 1, 8) := by kernel_rfl
theorem info4 : (Try.prog.info? 4).map (fun i => (i.zero, i.size, i.bytes)) = some (some (.bool false), 1, 1) := by kernel_rfl
theorem info5 : (Try.prog.info? 5).map (fun i => (i.zero, i.size, i.bytes)) = some (some (.int .u8 0), 1, 1) := by kernel_rfl
theorem info55 : (Try.prog.info? 55).map (fun i => (i.zero, i.size, i.bytes)) = some (some (.agg #[(.int .i64 0), (.int .i64 0), (.int .i64 0)]), 3, 24) := by kernel_rfl
-- the values' own types
/-! #### struct type 55 -/
structure S55 where
  f0 : Int
  f1 : Int
  f2 : Int
def z55 : S55 := ⟨(0 : Int), (0 : Int), (0 : Int)⟩
def k55 : Kd S55 := Kd.iso (Kd.pair (Kd.int .i64) (Kd.pair (Kd.int .i64) (Kd.int .i64))) (fun x : S55 => (x.f0, x.f1, x.f2))
theorem k55_heap : Kd.Heap k55 := Kd.heap_iso _ (Kd.heap_pair (Kd.heap_int .i64) (Kd.heap_pair (Kd.heap_int .i64) (Kd.heap_int .i64)))
theorem k55_open {w : World} {x : S55} {cs : List Value} (h : k55.K w x cs) : cs = [.int .i64 x.f0, .int .i64 x.f1, .int .i64 x.f2] := by
  obtain ⟨_, _, rfl, rfl, ⟨_, _, rfl, rfl, rfl⟩⟩ := h
  exact rfl
theorem k55_mkM (w : World) (base : Nat) (ok : Nat → Prop) (x : S55)  : k55.M w base ok x [.int .i64 x.f0, .int .i64 x.f1, .int .i64 x.f2] := ⟨[.int .i64 x.f0], [.int .i64 x.f1, .int .i64 x.f2], rfl, rfl, ⟨[.int .i64 x.f1], [.int .i64 x.f2], rfl, rfl, rfl⟩⟩
def rd_T55 (xs : List S55) (i : Int) : S55 := xs.getD i.toNat z55
theorem at_T55 {w : World} {A : Option Addr} {n : Nat} {xs : List S55} (h : Kd.C k55 w A n xs) (i : Int) (h0 : 0 ≤ i) (h1 : i < n) : ∃ ad , A = some ad ∧ w.cell? (ad.add (i.toNat * 3)) = some (.int .i64 (rd_T55 xs i).f0) ∧ w.cell? ⟨(ad.add (i.toNat * 3)).block, (ad.add (i.toNat * 3)).off + 1, none⟩ = some (.int .i64 (rd_T55 xs i).f1) ∧ w.cell? ⟨(ad.add (i.toNat * 3)).block, (ad.add (i.toNat * 3)).off + 2, none⟩ = some (.int .i64 (rd_T55 xs i).f2) := by
  obtain ⟨ad, c, e, _, hK, hc0⟩ := Kd.C_get h z55 i h0 h1
  have hc : ∀ j u, c[j]? = some u → w.cell? (ad.add (i.toNat * 3 + j)) = some u := hc0
  obtain rfl := k55_open hK
  exact ⟨ad, e, hc 0 _ rfl, by rw [← add_field _ _ 1 (by omega)]; exact hc 1 _ rfl, by rw [← add_field _ _ 2 (by omega)]; exact hc 2 _ rfl⟩

/-! #### struct type 28 -/
structure S28 where
  f0 : (List S55)
def z28 : S28 := ⟨([] : List S55)⟩
/-! #### short words for what the printed proofs say often: theorems whose last premise a tactic finds -/
def zB (n k : Nat) : Array Bool := ((List.range n).map (fun i => k.testBit i)).toArray
theorem zb {n : Nat} {w W0 W : World} (h0 : Below n w W0) (k : Below n w W0 → Below n w W := by (intro h_; repeat (first | (with_reducible exact h_) | (with_reducible apply below_alloc) | (with_reducible apply pw_below_drewN) | (with_reducible apply below_drew1) | (with_reducible refine below_set ?_ (Aside0.out (by assumption))) | exact h_))) : Below n w W := k h0
theorem zk {w W0 W : World} {S : Nat → Prop} (h0 : Kept w W0 S) (k : Kept w W0 S → Kept w W S := by (intro h_; repeat (first | (with_reducible exact h_) | (with_reducible apply Kept.alloc) | (with_reducible apply Kept.drewN) | (with_reducible apply Kept.drew) | (with_reducible refine Kept.setCell ?_ (.inr (Aside0.out (by assumption))) _) | (with_reducible refine Kept.setCell ?_ (Or.inl (Or.inr rfl)) _) | exact h_))) : Kept w W S := k h0
theorem zh {W0 W : World} {g : Nat} {o : Obj} (h0 : W0.heap[g]? = some o) (k : W0.heap[g]? = some o → W.heap[g]? = some o := by (intro h_; repeat (first | (with_reducible exact h_) | (with_reducible refine blk_drewN ?_ _) | (with_reducible refine blk_drew ?_) | (with_reducible refine blk_alloc ?_ _) | exact h_))) : W.heap[g]? = some o := k h0
theorem zf {W0 W : World} {g t : Nat} {cs : Array Value} (h0 : W0.heap[g]? = some (.cells cs t (0, 0))) (k : W0.heap[g]? = some (.cells cs t (0, 0)) → W.heap[g]? = some (.cells cs t (0, 0)) := by (intro h_; repeat (first | (with_reducible exact h_) | (with_reducible refine blk_drewN ?_ _) | (with_reducible refine blk_drew ?_) | (with_reducible refine blk_alloc ?_ _) | (with_reducible refine blk_far ?_ (Aside0.out (by assumption)) _) | exact h_))) : W.heap[g]? = some (.cells cs t (0, 0)) := k h0
theorem zr {α : Type} {d : Kd α} {e base : Nat} {ok : Nat → Prop} {v : Value} {xs : List α} {W0 W : World} (h0 : d.R e W0 base ok v xs) (k : d.R e W0 base ok v xs → d.R e W base ok v xs := by (intro h_; with_reducible repeat (first | apply Kd.R_alloc | apply Kd.R_drewN | apply Kd.R_drew)); exact h_) : d.R e W base ok v xs := k h0
theorem zc {α : Type} {d : Kd α} {n : Nat} {A : Option Addr} {xs : List α} {W0 W : World} (h0 : d.C W0 A n xs) (k : d.C W0 A n xs → d.C W A n xs := by (intro h_; repeat (first | exact h_ | (with_reducible refine Kd.C_alloc ?_ _) | (with_reducible refine Kd.C_drewN ?_ _) | (with_reducible refine Kd.C_drew ?_)))) : d.C W A n xs := k h0
theorem zl {p : Prop} (h : p := by (try simp only [List.map_toArray, List.map_cons, List.map_nil]); first | done | rfl | (simp only [List.length_drop, List.length_take]; rfl)) : p := h
theorem zn {a a' : Act} {N : Option Tmp} {v : Value} (h : a.put N v = a' := by (simp only [Act.put, List.setIfInBounds_toArray, List.set_cons_zero, List.set_cons_succ, i64_w, i32_w]; rfl)) : a.put N v = a' := h
theorem ze {p : Prop} (h : p := by first | rfl | (simp [errW_none, errW_some] <;> rfl) | (simp [*, errW_none, errW_some] <;> rfl)) : p := h

theorem zq {w W0 W : World} {g : Nat} {row : Option Nat} (h0 : KeepBut w W0 g row) (k : KeepBut w W0 g row → KeepBut w W g row := by (intro h_; repeat (first | (with_reducible exact h_) | (with_reducible apply KeepBut.set_) | (with_reducible apply keep_drewN) | (with_reducible apply keep_drew) | (with_reducible apply keep_alloc) | (with_reducible refine keep_far ?_ (Aside0.out (by assumption)) _) | exact h_))) : KeepBut w W g row := k h0
theorem zj {n g : Nat} {w W0 W : World} (h0 : Below n w W0) (q : n ≤ g) (k : Below n w W0 → n ≤ g → Below n w W := by (intro h_ q_; repeat (first | (with_reducible exact h_) | (with_reducible apply below_alloc) | (with_reducible apply pw_below_drewN) | (with_reducible apply below_drew1) | (with_reducible refine below_set ?_ q_) | (with_reducible refine below_set ?_ (Aside0.out (by assumption))) | exact h_))) : Below n w W := k h0 q
end Go.Proofs.Ytobkledmbnacjaa.M
