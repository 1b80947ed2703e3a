/- The library's slices.Compact at []int, over a row of the call's own (the shelf's contract told in the print's words). Conditions: the row has fewer than 2^63 elements. -/
import Derived.Test.YtdgahpigcaejbaaJPWKept
import Derived.Shelf.Slices.CompactI
import Derived.Sort.OwnSortedInts
set_option linter.unusedVariables false
set_option linter.unusedSimpArgs false
namespace Go.Proofs.Ytdgahpigcaejbaa.RowCompact
open Go.RowKit Go.Proofs.YtdgahpigcaejbaaW.PrintWords Go.Shelf Go.Sort

theorem R_out {e : Nat} {base : Nat} {ok : Nat → Prop} {w : World} {u : Value} {zs : List Int} (h : Kd.R (Kd.int .i64) e w base ok u zs) :
    (u = .slice none 0 0 ∧ zs = []) ∨ ∃ g cap cur, u = .slice (some ⟨g, 0, none⟩) zs.length cap ∧ base ≤ g ∧ w.heap[g]? = some (.cells cur e (0, 0)) ∧ zs.length ≤ cap ∧ cap ≤ maxLen ∧ cur.size = cap ∧ cur.toList.take zs.length = encs (Value.int .i64) zs ∧ ok g := by
  have ho := Kd.own_of_R (enc := Value.int .i64) (h1 := fun _ => rfl) h
  rcases ho.2 with ⟨rfl, h0⟩ | ⟨g, cap, cur, rfl, hg, hh, h1, h2, h3, h4⟩
  · exact .inl ⟨rfl, List.eq_nil_of_length_eq_zero h0⟩
  · exact .inr ⟨g, cap, cur, rfl, hg, hh, h1, h2, by omega, by rw [Nat.mul_one] at h4; exact h4, h.1 g (by simp [Value.ownBlock])⟩
theorem R_in {e : Nat} {base : Nat} {ok : Nat → Prop} {w : World} {g cap n : Nat} {cur : Array Value} {zs : List Int} (hb : w.heap[g]? = some (.cells cur e (0, 0))) (hg : base ≤ g) (ho : ok g) (hn : n = zs.length) (h1 : zs.length ≤ cap) (h2 : cap ≤ maxLen) (h3 : cur.size = cap) (h4 : cur.toList.take zs.length = encs (Value.int .i64) zs) :
    Kd.R (Kd.int .i64) e w base ok (.slice (some ⟨g, 0, none⟩) n cap) zs := by
  subst hn
  refine Kd.R_of_own ⟨by simp [encs], .inr ⟨g, cap, cur, rfl, hg, hb, h1, h2, by omega, by rw [Nat.mul_one]; exact h4⟩⟩ (fun k hk => ?_)
  have hk' : g = k := by simpa [Value.ownBlock] using hk
  subst hk'
  exact ho
theorem heap_put {w : World} {g n : Nat} {cur : Array Value} {e : TypeId} {fr : Nat × Nat} (d : Array Int) (hb : w.heap[g]? = some (.cells cur e fr)) :
    (putRow (Value.int .i64) (Sort.ahead w n) g 0 d).heap[g]? = some (.cells (putCells (Value.int .i64) 0 d cur) e fr) := by
  simp [putRow, mapBlock, Sort.ahead, Array.getElem?_modify, hb, onCells]
theorem grownBy_put {w : World} {g n : Nat} (d : Array Int) : w.grownBy (putRow (Value.int .i64) (Sort.ahead w n) g 0 d) (some g) := by
  refine ⟨rfl, rfl, rfl, by simp, fun k hk hne => ?_⟩
  have : g ≠ k := fun e => hne (by rw [e])
  simp [putRow, mapBlock, Sort.ahead, Array.getElem?_modify, this]
theorem compact_len (zs : List Int) : (Lib.compact zs).length ≤ zs.length := by
  unfold Lib.compact Lib.compactUpTo
  rw [List.length_map]
  exact Nat.le_trans (List.length_filter_le _ _) (by simp)

theorem compactR {P : Program} {ρ : Ren} (L : Lays2.n20 P ρ) {e : Nat} (P0 : Nat → Prop) (u0 : Value) (l0 : List Int) (w0 w : World) (hB : Below w0.heap.size w0 w)
    (ho0 : Kd.R (Kd.int .i64) e w w0.heap.size P0 u0 l0) :
    Calls P (ρ.f 20) #[u0] w fun e' w' => ∃ v0, e' = .returned v0 ∧ Kd.R (Kd.int .i64) e w' w0.heap.size (fun k => (P0 k ∨ w.heap.size ≤ k)) v0 (Lib.compact l0) ∧ Below w0.heap.size w0 w' ∧ Kept w w' (fun k => P0 k) := by
  have hsz := hB.size
  rcases R_out ho0 with ⟨rfl, rfl⟩ | ⟨g, cap, cur, rfl, hb, hh, hn, hm, hz, ht, hP⟩
  · refine Calls.mono (Any.slices_Compact_int_empty L none 0 w) ?_
    rintro e' w' ⟨rfl, rfl⟩
    exact ⟨_, rfl, Kd.R_mono ho0 (fun k hk => .inl hk), hB, Kept.refl _ _⟩
  · have hg : g < w.heap.size := (Array.getElem?_eq_some_iff.1 hh).1
    have hm' := hm
    simp only [maxLen] at hm'
    refine Calls.mono (Any.slices_Compact_int L g 0 cap l0 w (holds_of_blockI hh ht) (by omega) hn) ?_
    rintro e' w' ⟨rfl, q, rfl⟩
    have hl := compact_len l0
    have hgr := grownBy_put (w := w) (g := g) (n := q) (Lib.compact l0 ++ List.replicate (l0.length - (Lib.compact l0).length) 0).toArray
    refine ⟨_, rfl, ?_, Below.grown hB hgr hsz (fun k hk => by injection hk with hk; omega), Kept.of_grown hgr (Kept.refl _ _) (fun k hk => by injection hk with hk; subst hk; exact .inl hP)⟩
    refine R_in (heap_put _ hh) hb (.inl hP) rfl (by omega) hm (by simp [putCells, hz]) ?_
    have h := take_putCellsI cur (Lib.compact l0 ++ List.replicate (l0.length - (Lib.compact l0).length) 0) (by simp; omega)
    have h2 := congrArg (List.take (Lib.compact l0).length) h
    rw [List.take_take, Nat.min_eq_left (by simp)] at h2
    rw [h2, ← List.map_take, List.take_left]
    rfl
end Go.Proofs.Ytdgahpigcaejbaa.RowCompact
