/- The library's slices.Insert at []int, over a row of the call's own (the shelf's four contracts put together and told in the print's words). Conditions: the place is one of the row's, one element is put, the row has fewer than a million elements. -/
import Derived.Test.YtilnfdnigjblcaaVWKept
import Derived.Shelf.Spec.SlicesInsert
import Derived.Shelf.Spec.SlicesInsertGrow
set_option linter.unusedVariables false
set_option linter.unusedSimpArgs false
namespace Go.Proofs.Ytilnfdnigjblcaa.Row
open Go.RowKit Go.Proofs.YtilnfdnigjblcaaW.PrintWords Go.Shelf

theorem encs_len (l : List Int) : (encs (Value.int .i64) l).length = l.length := by simp [encs]
theorem R_in {e : Nat} {base : Nat} {ok : Nat → Prop} {w : World} {g cap n : Nat} {cur : Array Value} {zs : List Int} (hb : w.heap[g]? = some (.cells cur e (0, 0))) (hg : base ≤ g) (ho : ok g) (hn : n = zs.length) (h1 : zs.length ≤ cap) (h2 : cap ≤ maxLen) (h3 : cur.size = cap) (h4 : cur.toList.take zs.length = encs (Value.int .i64) zs) :
    Kd.R (Kd.int .i64) e w base ok (.slice (some ⟨g, 0, none⟩) n cap) zs := by
  subst hn
  refine Kd.R_of_own ⟨by simp [encs], .inr ⟨g, cap, cur, rfl, hg, hb, h1, h2, by omega, by rw [Nat.mul_one]; exact h4⟩⟩ (fun k hk => ?_)
  have hk' : g = k := by simpa [Value.ownBlock] using hk
  subst hk'
  exact ho
theorem R_out {e : Nat} {base : Nat} {ok : Nat → Prop} {w : World} {u : Value} {zs : List Int} (h : Kd.R (Kd.int .i64) e w base ok u zs) :
    (u = .slice none 0 0 ∧ zs = []) ∨ ∃ g cap cur, u = .slice (some ⟨g, 0, none⟩) zs.length cap ∧ base ≤ g ∧ w.heap[g]? = some (.cells cur e (0, 0)) ∧ zs.length ≤ cap ∧ cap ≤ maxLen ∧ cur.size = cap ∧ cur.toList.take zs.length = encs (Value.int .i64) zs ∧ ok g := by
  have ho := Kd.own_of_R (enc := Value.int .i64) (h1 := fun _ => rfl) h
  rcases ho.2 with ⟨rfl, h0⟩ | ⟨g, cap, cur, rfl, hg, hh, h1, h2, h3, h4⟩
  · exact .inl ⟨rfl, List.eq_nil_of_length_eq_zero h0⟩
  · exact .inr ⟨g, cap, cur, rfl, hg, hh, h1, h2, by omega, by rw [Nat.mul_one] at h4; exact h4, h.1 g (by simp [Value.ownBlock])⟩
theorem cells_of {w : World} {g e : Nat} {cur : Array Value} {vs : List Value} (hb : w.heap[g]? = some (.cells cur e (0, 0))) (ht : cur.toList.take vs.length = vs) : ∀ j v, vs[j]? = some v → w.cell? ⟨g, 0 + j, none⟩ = some v := by
  intro j v hv
  have hj : j < vs.length := (List.getElem?_eq_some_iff.1 hv).1
  rw [← ht, List.getElem?_take_of_lt hj] at hv
  simp only [World.cell?, hb, Nat.zero_add]
  simp only [Option.isSome_none, Bool.false_eq_true, if_false]
  rw [← Array.getElem?_toList, hv]
theorem some_of {w : World} {g e : Nat} {cur : Array Value} (hb : w.heap[g]? = some (.cells cur e (0, 0))) (k : Nat) (hk : k < cur.size) : (w.cell? ⟨g, k, none⟩).isSome = true := by
  simp only [World.cell?, hb]
  simp only [Option.isSome_none, Bool.false_eq_true, if_false]
  simp [hk]
theorem thawed {w : World} {g e k : Nat} {cur : Array Value} (hb : w.heap[g]? = some (.cells cur e (0, 0))) : w.frozen? ⟨g, k, none⟩ = false := by
  simp [World.frozen?, hb]
theorem one_cell (l : List Int) : ∀ v ∈ encs (Value.int .i64) l, v.oneCell' = true := by
  intro v hv
  simp only [encs, List.mem_map] at hv
  obtain ⟨x, _, rfl⟩ := hv
  rfl
theorem grownBy_cells {w : World} {g o : Nat} {vs : List Value} : w.grownBy (w.setCells g o vs) (some g) := by
  obtain ⟨h1, h2, h3, h4⟩ := setCells_same g vs o w
  exact ⟨h1, h2, h3, by omega, fun k _ hk => setCells_far vs o k (fun e => hk (by rw [e]))⟩
theorem grownBy_trans {a b c : World} {r : Option Nat} (h : a.grownBy b r) (k : b.grownBy c r) : a.grownBy c r :=
  ⟨k.os.trans h.os, k.tape.trans h.tape, k.output.trans h.output, Nat.le_trans h.size k.size, fun i hi hn => (k.block i (Nat.lt_of_lt_of_le hi h.size) hn).trans (h.block i hi hn)⟩
theorem grownBy_drew (w : World) (r : Option Nat) : w.grownBy w.drew r := ⟨rfl, rfl, rfl, Nat.le_refl _, fun _ _ _ => rfl⟩
theorem grownBy_alloc (w : World) (o : Obj) (r : Option Nat) : w.grownBy (w.alloc o) r := by
  have h := below_alloc (Below.refl w.heap.size w) o
  exact ⟨h.os, h.tape, h.output, h.size, fun k hk _ => h.block k hk⟩
theorem encs_take (l : List Int) (i : Nat) : (encs (Value.int .i64) l).take i = encs (Value.int .i64) (l.take i) := by simp [encs]
theorem take_put {α : Type} {c xs ys zs : List α} (h : c = xs ++ ys ++ zs) {n : Nat} (hn : n = xs.length + ys.length) : c.take n = xs ++ ys := by
  subst h; subst hn
  rw [← List.length_append]
  exact List.take_left

theorem insertR {P : Program} {ρ : Ren} (L : Lays2.n21 P ρ) (P0 P2 : Nat → Prop) (u0 : Value) (l0 : List Int) (a1 : Int) (u2 : Value) (l2 : List Int) (w0 w : World) (hB : Below w0.heap.size w0 w)
    (ho0 : Kd.R (Kd.int .i64) (ρ.t 3) w w0.heap.size P0 u0 l0) (hp02 : ∀ k, P0 k → ¬ P2 k) (ho2 : Kd.R (Kd.int .i64) (ρ.t 3) w w0.heap.size P2 u2 l2)
    (h1 : 0 ≤ a1) (h2 : a1 ≤ (l0.length : Int)) (hl2 : l2.length = 1) (hs : l0.length < 1000000) :
    Calls P (ρ.f 21) #[u0, .int .i64 a1, u2] w fun e w' => ∃ v0, e = .returned v0 ∧ Kd.R (Kd.int .i64) (ρ.t 3) w' w0.heap.size (fun k => ((P0 k ∨ P2 k) ∨ w.heap.size ≤ k)) v0 (l0.take a1.toNat ++ l2 ++ l0.drop a1.toNat) ∧ Below w0.heap.size w0 w' ∧ Kept w w' (fun k => P0 k ∨ P2 k) := by
  obtain ⟨i, rfl⟩ := Int.eq_ofNat_of_zero_le h1
  have hi : i ≤ l0.length := by omega
  rw [Int.toNat_natCast]
  have hsz := hB.size
  rcases R_out ho2 with ⟨rfl, rfl⟩ | ⟨g2, cap2, cur2, rfl, hb2, hh2, hn2, hm2, hz2, ht2, hP2⟩
  · simp at hl2
  have hvl : (encs (Value.int .i64) l2).length = 1 := by rw [encs_len]; exact hl2
  have hvs := cells_of hh2 (vs := encs (Value.int .i64) l2) (by rw [encs_len]; exact ht2)
  have h1v := one_cell l2
  have fin : ∀ (w' : World) (g cap : Nat) (cur : Array Value) (n : Nat), w.grownBy w' (some g) → w0.heap.size ≤ g → ((P0 g ∨ P2 g) ∨ w.heap.size ≤ g) → w'.heap[g]? = some (.cells cur (ρ.t 3) (0, 0)) → n = l0.length + 1 → n ≤ cap → cap ≤ maxLen → cur.size = cap →
      cur.toList.take n = encs (Value.int .i64) (l0.take i ++ l2 ++ l0.drop i) →
      ∃ v0, (Ending.returned (.slice (some ⟨g, 0, none⟩) n cap)) = .returned v0 ∧ Kd.R (Kd.int .i64) (ρ.t 3) w' w0.heap.size (fun k => ((P0 k ∨ P2 k) ∨ w.heap.size ≤ k)) v0 (l0.take i ++ l2 ++ l0.drop i) ∧ Below w0.heap.size w0 w' ∧ Kept w w' (fun k => P0 k ∨ P2 k) := by
    intro w' g cap cur n hgr hbg hok hh hn hc hm hz ht
    have hlen : (l0.take i ++ l2 ++ l0.drop i).length = l0.length + 1 := by simp only [List.length_append, List.length_take, List.length_drop]; omega
    refine ⟨_, rfl, R_in hh hbg hok (by rw [hlen]; exact hn) (by rw [hlen]; omega) hm hz (by rw [hlen, ← hn]; exact ht), Below.grown hB hgr hsz (fun k hk => by injection hk with hk; omega), ?_⟩
    exact Kept.of_grown hgr (Kept.refl _ _) (fun k hk => by injection hk with hk; subst hk; exact hok)
  rw [hl2] at hn2 ⊢
  rcases R_out ho0 with ⟨rfl, rfl⟩ | ⟨g, cap, cur, rfl, hb, hh, hn, hm, hz, ht, hP⟩
  · have hi0 : i = 0 := by simpa using hi
    subst hi0
    refine Calls.mono (Any2.slices_Insert_int_end_grow L none 0 0 g2 0 1 cap2 [] (encs (Value.int .i64) l2) w (by omega) (by omega) (by omega) (by omega) rfl hvl (fun _ => rfl) (fun a ha => by cases ha) hvs h1v) ?_
    rintro e w' ⟨rfl, rfl⟩
    have hG := grownCap_ge w (0 + 1) 0 (ρ.t 3)
    refine fin _ _ _ _ _ (grownBy_trans (grownBy_drew w _) (grownBy_alloc _ _ _)) hsz (.inr (Nat.le_refl _)) (heap_alloc_new w.drew _) rfl hG (grownCap_le_maxLen w _ _ _ (by unfold maxLen; omega)) ?_ ?_
    · rw [Array.size_append, size_zeroCells, show (Value.int .i64 0).cells.size = 1 from rfl, List.size_toArray, List.nil_append, hvl]; omega
    · simp [hvl]
  · have hcs := cells_of hh (vs := encs (Value.int .i64) l0) (by rw [encs_len]; exact ht)
    by_cases hend : i = l0.length
    · subst hend
      by_cases hroom : l0.length + 1 ≤ cap
      · refine Calls.mono (Any2.slices_Insert_int_end_room L g 0 l0.length cap g2 0 1 cap2 (encs (Value.int .i64) l2) w (by omega) hroom (by simp only [maxLen] at hm; omega) hvl (fun j hj => some_of hh _ (by omega)) (fun j _ => thawed hh) hvs h1v) ?_
        rintro e w' ⟨rfl, rfl⟩
        obtain ⟨cur', h3, h4, h5⟩ := setCells_row (encs (Value.int .i64) l2) (0 + l0.length) w cur hh (by rw [hvl]; omega)
        refine fin _ _ _ _ _ grownBy_cells hb (.inl (.inl hP)) h3 rfl hroom hm (by omega) ?_
        rw [Nat.zero_add, ht] at h5
        rw [take_put h5 (by rw [encs_len, hvl])]
        simp [encs]
      · refine Calls.mono (Any2.slices_Insert_int_end_grow L (some ⟨g, 0, none⟩) l0.length cap g2 0 1 cap2 (encs (Value.int .i64) l0) (encs (Value.int .i64) l2) w (by omega) hn (by omega) (by omega) (encs_len _) hvl (fun h => by cases h) (fun a ha => by injection ha with ha; subst ha; exact fun j v hv => by rw [Addr.add_lit]; exact hcs j v hv) hvs h1v) ?_
        rintro e w' ⟨rfl, rfl⟩
        have hG := grownCap_ge w (l0.length + 1) cap (ρ.t 3)
        refine fin _ _ _ _ _ (grownBy_trans (grownBy_drew w _) (grownBy_alloc _ _ _)) hsz (.inr (Nat.le_refl _)) (heap_alloc_new w.drew _) rfl hG (grownCap_le_maxLen w _ _ _ (by unfold maxLen; omega)) ?_ ?_
        · rw [Array.size_append, size_zeroCells, show (Value.int .i64 0).cells.size = 1 from rfl, List.size_toArray, List.length_append, hvl, encs_len]; omega
        · rw [Array.toList_append, List.toList_toArray, take_put (zs := _) rfl (by rw [encs_len, hvl])]
          simp [encs]
    · have hlt : i < l0.length := by omega
      by_cases hroom : l0.length + 1 ≤ cap
      · have hne : g2 ≠ g := fun e => hp02 g hP (e ▸ hP2)
        refine Calls.mono (Any2.slices_Insert_int_shift L g 0 l0.length cap i g2 0 1 cap2 (encs (Value.int .i64) l0) (encs (Value.int .i64) l2) w hlt (by omega) hroom (by simp only [maxLen] at hm; omega) hne (encs_len _) hvl hcs
          (fun j hj => some_of hh _ (by omega)) (fun j _ => thawed hh) hvs (one_cell l0) h1v (ρ.t 3) (ρ.t 3) cur2.size cur.size (by simp [World.shape?, hh2]) (by simp [World.shape?, hh]) (by omega) (thawed hh2) (thawed hh2)) ?_
        rintro e w' ⟨rfl, rfl⟩
        have hdl : ((encs (Value.int .i64) l0).drop i).length = l0.length - i := by rw [List.length_drop, encs_len]
        obtain ⟨cur1, h3, h4, h5⟩ := setCells_row ((encs (Value.int .i64) l0).drop i) (0 + (i + 1)) w.drew cur hh (by rw [hdl]; omega)
        obtain ⟨cur', h6, h7, h8⟩ := setCells_row (encs (Value.int .i64) l2) (0 + i) _ cur1 h3 (by rw [hvl]; omega)
        refine fin _ _ _ _ _ (grownBy_trans (grownBy_trans (grownBy_drew w _) grownBy_cells) grownBy_cells) hb (.inl (.inl hP)) h6 rfl hroom hm (by omega) ?_
        simp only [Nat.zero_add, hvl] at h5 h8
        have e1 : (cur.toList.take (i + 1)).length = i + 1 := by rw [List.length_take, Array.length_toList]; omega
        have e2 : cur1.toList.take i = encs (Value.int .i64) (l0.take i) := by
          rw [h5, List.append_assoc, List.take_append_of_le_length (by omega), List.take_take, ← encs_take, ← ht, List.take_take]
          congr 1
          omega
        have e3 : cur1.toList.drop (i + 1) = (encs (Value.int .i64) l0).drop i ++ cur.toList.drop (i + 1 + ((encs (Value.int .i64) l0).drop i).length) := by
          rw [h5, List.append_assoc, List.drop_append_of_le_length (by omega), List.drop_eq_nil_of_le (by omega), List.nil_append]
        rw [h8, e2, e3, ← List.append_assoc]
        rw [take_put (xs := encs (Value.int .i64) (l0.take i) ++ encs (Value.int .i64) l2) (ys := (encs (Value.int .i64) l0).drop i) rfl (by rw [List.length_append, encs_len, hvl, hdl, List.length_take]; omega)]
        simp [encs]
      · refine Calls.mono (Any2.slices_Insert_int_grow L g 0 l0.length cap i g2 0 1 cap2 (encs (Value.int .i64) l0) (encs (Value.int .i64) l2) w hlt (by omega) hn (by omega) (by omega) (encs_len _) hvl hcs hvs (one_cell l0) h1v) ?_
        rintro e w' ⟨rfl, rfl⟩
        have hG := grownCap_ge w (l0.length + 1) cap (ρ.t 3)
        have hGm := grownCap_le_maxLen w (l0.length + 1) cap (ρ.t 3) (by unfold maxLen; omega)
        generalize grownCap w (l0.length + 1) cap (ρ.t 3) = G at hG hGm ⊢
        have hdl : ((encs (Value.int .i64) l0).drop i).length = l0.length - i := by rw [List.length_drop, encs_len]
        have hz0 : ∀ m, (Builtin.zeroCells (Value.int .i64 0).cells m).size = m := fun m => by rw [size_zeroCells]; exact Nat.mul_one m
        obtain ⟨C0, hC0⟩ : ∃ C0, C0 = ((encs (Value.int .i64) l0).take i).toArray ++ Builtin.zeroCells (Value.int .i64 0).cells (l0.length + 1 - i) ++ Builtin.zeroCells (Value.int .i64 0).cells (G - (l0.length + 1)) := ⟨_, rfl⟩
        have hC : C0.size = G := by
          rw [hC0]
          simp only [Array.size_append, hz0, List.size_toArray, List.length_take, encs_len]
          omega
        have hCt : C0.toList.take i = encs (Value.int .i64) (l0.take i) := by
          rw [hC0, Array.toList_append, Array.toList_append, List.append_assoc, List.toList_toArray, ← encs_take]
          rw [List.take_append_of_le_length (by rw [List.length_take, encs_len]; omega), List.take_take, Nat.min_self]
        rw [← hC0]
        have h0 : (w.alloc (.cells C0 (ρ.t 3))).drew.heap[w.heap.size]? = some (.cells C0 (ρ.t 3) (0, 0)) := heap_alloc_new w _
        obtain ⟨cur1, h3, h4, h5⟩ := setCells_row (encs (Value.int .i64) l2) i _ C0 h0 (by rw [hvl]; omega)
        obtain ⟨cur', h6, h7, h8⟩ := setCells_row (g := w.heap.size) ((encs (Value.int .i64) l0).drop i) (i + 1) (((w.alloc (.cells C0 (ρ.t 3))).drew.setCells w.heap.size i (encs (Value.int .i64) l2)).drew) cur1 h3 (by rw [hdl]; omega)
        refine fin _ _ _ _ _ (grownBy_trans (grownBy_trans (grownBy_trans (grownBy_trans (grownBy_alloc w _ _) (grownBy_drew _ _)) grownBy_cells) (grownBy_drew _ _)) grownBy_cells) hsz (.inr (Nat.le_refl _)) h6 rfl hG hGm (by omega) ?_
        have hpre : cur1.toList.take (i + 1) = encs (Value.int .i64) (l0.take i) ++ encs (Value.int .i64) l2 := by
          rw [h5, hCt]
          exact take_put (zs := _) rfl (by rw [encs_len, List.length_take, hvl]; omega)
        rw [h8, hpre]
        rw [take_put (xs := encs (Value.int .i64) (l0.take i) ++ encs (Value.int .i64) l2) (ys := (encs (Value.int .i64) l0).drop i) rfl (by rw [List.length_append, encs_len, hvl, hdl, List.length_take]; omega)]
        simp [encs]
end Go.Proofs.Ytilnfdnigjblcaa.Row
