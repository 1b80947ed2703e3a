/- The library's slices.Grow at []int, over a row of the call's own (the shelf's two contracts put together and told in the print's words). Conditions: the row has fewer than a million elements, and less than a million are to come. -/
import Derived.Test.YtdgahpigcaejbaaJPWKept
import Derived.Shelf.Spec.SlicesGrow
set_option linter.unusedVariables false
set_option linter.unusedSimpArgs false
namespace Go.Proofs.Ytdgahpigcaejbaa.RowGrow
open Go.RowKit Go.Proofs.YtdgahpigcaejbaaW.PrintWords Go.Shelf

theorem R_in {e : Nat} {base : Nat} {ok : Nat → Prop} {w : World} {g cap n : Nat} {cur : Array Value} {zs : List Int} (hb : w.heap[g]? = some (.cells cur e (0, 0))) (hg : base ≤ g) (ho : ok g) (hn : n = zs.length) (h1 : zs.length ≤ cap) (h2 : cap ≤ maxLen) (h3 : cur.size = cap) (h4 : cur.toList.take zs.length = encs (Value.int .i64) zs) :
    Kd.R (Kd.int .i64) e w base ok (.slice (some ⟨g, 0, none⟩) n cap) zs := by
  subst hn
  refine Kd.R_of_own ⟨by simp [encs], .inr ⟨g, cap, cur, rfl, hg, hb, h1, h2, by omega, by rw [Nat.mul_one]; exact h4⟩⟩ (fun k hk => ?_)
  have hk' : g = k := by simpa [Value.ownBlock] using hk
  subst hk'
  exact ho
theorem R_out {e : Nat} {base : Nat} {ok : Nat → Prop} {w : World} {u : Value} {zs : List Int} (h : Kd.R (Kd.int .i64) e w base ok u zs) :
    (u = .slice none 0 0 ∧ zs = []) ∨ ∃ g cap cur, u = .slice (some ⟨g, 0, none⟩) zs.length cap ∧ base ≤ g ∧ w.heap[g]? = some (.cells cur e (0, 0)) ∧ zs.length ≤ cap ∧ cap ≤ maxLen ∧ cur.size = cap ∧ cur.toList.take zs.length = encs (Value.int .i64) zs ∧ ok g := by
  have ho := Kd.own_of_R (enc := Value.int .i64) (h1 := fun _ => rfl) h
  rcases ho.2 with ⟨rfl, h0⟩ | ⟨g, cap, cur, rfl, hg, hh, h1, h2, h3, h4⟩
  · exact .inl ⟨rfl, List.eq_nil_of_length_eq_zero h0⟩
  · exact .inr ⟨g, cap, cur, rfl, hg, hh, h1, h2, by omega, by rw [Nat.mul_one] at h4; exact h4, h.1 g (by simp [Value.ownBlock])⟩
theorem grownBy_new (w : World) (o : Obj) (r : Option Nat) : w.grownBy (w.drew.alloc o) r := by
  have h := below_alloc (Below.refl w.heap.size w) o
  exact ⟨h.os, h.tape, h.output, h.size, fun k hk _ => h.block k hk⟩
theorem growR {P : Program} {ρ : Ren} (L : Lays8.n4 P ρ) {e : Nat} (he : ρ.t 25 = e) {i0 : TypeInfo} (hi0 : P.info? e = some i0) (hz0 : i0.zero = some (.int .i64 0)) (hs0 : i0.size = 1) (hb8 : i0.bytes = 8)
    (P0 : Nat → Prop) (u0 : Value) (l0 : List Int) (a1 : Int) (w0 w : World) (hB : Below w0.heap.size w0 w)
    (ho0 : Kd.R (Kd.int .i64) e w w0.heap.size P0 u0 l0) (h1 : 0 ≤ a1) (h2 : a1 < 1000000) (hs : l0.length < 1000000) :
    Calls P (ρ.f 4) #[u0, .int .i64 a1] w fun e' w' => ∃ v0, e' = .returned v0 ∧ Kd.R (Kd.int .i64) e w' w0.heap.size (fun k => (P0 k ∨ w.heap.size ≤ k)) v0 l0 ∧ Below w0.heap.size w0 w' ∧ Kept w w' (fun k => P0 k) := by
  subst he
  have hsz := hB.size
  obtain ⟨n, rfl⟩ := Int.eq_ofNat_of_zero_le h1
  have fin : ∀ (c : Nat) (cs : List Value), l0.length ≤ c → c < l0.length + n → cs.length = c → cs.take l0.length = encs (Value.int .i64) l0 →
      ∃ v0, (Ending.returned (.slice (some ⟨w.heap.size, 0, none⟩) l0.length (grownCap w (l0.length + n) c (ρ.t 25)))) = .returned v0 ∧
        Kd.R (Kd.int .i64) (ρ.t 25) (w.drew.alloc (.cells (cs.toArray ++ Builtin.zeroCells (Value.int .i64 0).cells (l0.length + n - c) ++ Builtin.zeroCells (Value.int .i64 0).cells (grownCap w (l0.length + n) c (ρ.t 25) - (l0.length + n))) (ρ.t 25))) w0.heap.size (fun k => (P0 k ∨ w.heap.size ≤ k)) v0 l0 ∧
        Below w0.heap.size w0 (w.drew.alloc (.cells (cs.toArray ++ Builtin.zeroCells (Value.int .i64 0).cells (l0.length + n - c) ++ Builtin.zeroCells (Value.int .i64 0).cells (grownCap w (l0.length + n) c (ρ.t 25) - (l0.length + n))) (ρ.t 25))) ∧
        Kept w (w.drew.alloc (.cells (cs.toArray ++ Builtin.zeroCells (Value.int .i64 0).cells (l0.length + n - c) ++ Builtin.zeroCells (Value.int .i64 0).cells (grownCap w (l0.length + n) c (ρ.t 25) - (l0.length + n))) (ρ.t 25))) (fun k => P0 k) := by
    intro c cs hc1 hc2 hcl hct
    have hG := grownCap_ge w (l0.length + n) c (ρ.t 25)
    have hGm := grownCap_le_maxLen w (l0.length + n) c (ρ.t 25) (by unfold maxLen; omega)
    have hzz : ∀ m, (Builtin.zeroCells (Value.int .i64 0).cells m).size = m := fun m => by rw [size_zeroCells]; exact Nat.mul_one m
    generalize grownCap w (l0.length + n) c (ρ.t 25) = G at hG hGm ⊢
    have hgr := grownBy_new w (.cells (cs.toArray ++ Builtin.zeroCells (Value.int .i64 0).cells (l0.length + n - c) ++ Builtin.zeroCells (Value.int .i64 0).cells (G - (l0.length + n))) (ρ.t 25)) none
    refine ⟨_, rfl, R_in (heap_alloc_new w.drew _) hsz (.inr (Nat.le_refl _)) rfl (by omega) hGm ?_ ?_, Below.grown hB hgr hsz (fun k hk => by cases hk), Kept.of_grown hgr (Kept.refl _ _) (fun k hk => by cases hk)⟩
    · simp only [Array.size_append, hzz, List.size_toArray]
      omega
    · rw [Array.toList_append, Array.toList_append, List.append_assoc, List.toList_toArray, List.take_append_of_le_length (by omega)]
      exact hct
  rcases R_out ho0 with ⟨rfl, rfl⟩ | ⟨g, cap, cur, rfl, hb, hh, hn, hm, hz, ht, hP⟩
  · by_cases h0 : n = 0
    · subst h0
      refine Calls.mono (Any8.slices_Grow_room L none 0 0 0 w (by omega) (by omega) (by omega) (by omega)) ?_
      rintro e' w' ⟨rfl, rfl⟩
      exact ⟨_, rfl, Kd.R_mono ho0 (fun k hk => .inl hk), hB, Kept.refl _ _⟩
    · refine Calls.mono (Any8.slices_Grow_grow L i0 (.int .i64 0) hi0 hz0 (by omega) none 0 0 n [] w (by omega) (by omega) (by rw [hb8]; omega) (by omega) (by simp) (fun _ => rfl) (fun a ha => by cases ha)) ?_
      rintro e' w' ⟨rfl, rfl⟩
      exact fin 0 [] (by simp) (by simp; omega) rfl (by simp [encs])
  · have hm' := hm
    simp only [maxLen] at hm'
    by_cases hr : l0.length + n ≤ cap
    · refine Calls.mono (Any8.slices_Grow_room L (some ⟨g, 0, none⟩) l0.length cap n w hn (by omega) (by omega) hr) ?_
      rintro e' w' ⟨rfl, rfl⟩
      exact ⟨_, rfl, Kd.R_mono ho0 (fun k hk => .inl hk), hB, Kept.refl _ _⟩
    · refine Calls.mono (Any8.slices_Grow_grow L i0 (.int .i64 0) hi0 hz0 (by omega) (some ⟨g, 0, none⟩) l0.length cap n cur.toList w hn (by omega) (by rw [hb8]; omega) (by omega) (by rw [hs0, Array.length_toList]; omega) (fun h => by cases h) (fun a ha j v hv => ?_)) ?_
      · injection ha with ha
        subst ha
        rw [Array.getElem?_toList] at hv
        rw [Addr.add_lit]
        simp only [World.cell?, hh, Nat.zero_add]
        simp only [Option.isSome_none, Bool.false_eq_true, if_false]
        exact hv
      · rintro e' w' ⟨rfl, rfl⟩
        exact fin cap cur.toList hn (by omega) (by rw [Array.length_toList]; omega) ht
end Go.Proofs.Ytdgahpigcaejbaa.RowGrow
