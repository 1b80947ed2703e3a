import Derived.Test.YtilnfdnigjblcaaXN0
import Derived.Test.YtilnfdnigjblcaaXNg0
import Derived.Test.YtilnfdnigjblcaaXNg3
section
-- Written by this session's program (wip/tools/gprint.py over the kit's print) out of the translation; Lean checks it.
namespace Go.Proofs.Ytilnfdnigjblcaa.N
open Go.RowKit Go.Proofs.YtilnfdnigjblcaaW.PrintWords Go.Proofs.YtilnfdnigjblcaaW.PrintLast Go.Proofs.YtilnfdnigjblcaaW.PrintMore
attribute [local go_sem] max2_int min2_int max_two min_two max_three min_three max_four min_four   -- for this text's walks alone
set_option linter.unusedVariables false
set_option linter.unusedSimpArgs false
set_option maxRecDepth 100000

/-! ### spec_l1Add: function 71 -/
mutual
def spec_l1Add.j0 : Nat → Bool → List (S67) → Int → Int → Int → Option ((List (S67)) × Int)
 | 0, _, _, _, _, _ => none
 | k + 1, x17, x220000, x221000, x221001, x221002 => if x17 = true then (spec_l1Add.j1 k x220000 x221000 x221002 x221001) else (spec_l1Add.j1 k x220000 x221000 x221001 x221002)
def spec_l1Add.j1 : Nat → List (S67) → Int → Int → Int → Option ((List (S67)) × Int)
 | 0, _, _, _, _ => none
 | k + 1, x220000, x221000, x221001, x221002 => (spec_l1Find.f k x220000 x221000 x221001 x221002).bind fun t222 => (if t222 ≥ 0 then (some (x220000, t222)) else ((spec_l1Right.f k x221000 x221001 x221002 (x220000.length : Int)).bind fun t223 => (if t223 = true then (if (x220000.length : Int) = 500 then (some (x220000, (-1))) else ((spec_l1Copy.f x220000).bind fun t224 => (if t224.length < 5864062014805 then (some ((t224 ++ [(⟨x221000, x221001, x221002⟩ : S67)]), (x220000.length : Int))) else (none)))) else (some (x220000, (-1))))))
end
def spec_l1Add.f (k : Nat) (l0_0 : List (S67)) (a1_0 : Int) (a1_1 : Int) (a1_2 : Int) : Option ((List (S67)) × Int) := if a1_0 = 8 then (spec_l1Add.j0 k (decide (a1_1 > a1_2)) l0_0 a1_0 a1_1 a1_2) else (spec_l1Add.j0 k false l0_0 a1_0 a1_1 a1_2)
theorem spec_l1Add.mono_l : ∀ k, (∀ y0 y1 y2 y3 y4, LeO (spec_l1Add.j0 k y0 y1 y2 y3 y4) (spec_l1Add.j0 (k + 1) y0 y1 y2 y3 y4)) ∧ (∀ y0 y1 y2 y3, LeO (spec_l1Add.j1 k y0 y1 y2 y3) (spec_l1Add.j1 (k + 1) y0 y1 y2 y3))
 | 0 => ⟨fun _ _ _ _ _ r h => by simp [spec_l1Add.j0] at h, fun _ _ _ _ r h => by simp [spec_l1Add.j1] at h⟩
 | k + 1 => by
  obtain ⟨ih0, ih1⟩ := spec_l1Add.mono_l k
  refine ⟨?_, ?_⟩
  ·intro y0 y1 y2 y3 y4
   unfold spec_l1Add.j0
   repeat' first
   | (with_reducible exact ih0 _ _ _ _ _)
   | (with_reducible exact ih1 _ _ _ _)
   | (with_reducible exact spec_l1Find.mono _ _ _ _ _)
   | (with_reducible exact spec_l1Right.mono _ _ _ _ _)
   | (with_reducible exact LeO.refl _)
   | (with_reducible exact LeO.none _)
   | (with_reducible refine LeO.ite ?_ ?_)
   | (with_reducible refine LeO.bind ?_ (fun _ => ?_))
   | exact ih0 _ _ _ _ _
   | exact ih1 _ _ _ _
   | exact spec_l1Find.mono _ _ _ _ _
   | exact spec_l1Right.mono _ _ _ _ _
   | exact LeO.none _
   | refine LeO.ite ?_ ?_
   | refine LeO.bind ?_ (fun _ => ?_)
  ·intro y0 y1 y2 y3
   unfold spec_l1Add.j1
   repeat' first
   | (with_reducible exact ih0 _ _ _ _ _)
   | (with_reducible exact ih1 _ _ _ _)
   | (with_reducible exact spec_l1Find.mono _ _ _ _ _)
   | (with_reducible exact spec_l1Right.mono _ _ _ _ _)
   | (with_reducible exact LeO.refl _)
   | (with_reducible exact LeO.none _)
   | (with_reducible refine LeO.ite ?_ ?_)
   | (with_reducible refine LeO.bind ?_ (fun _ => ?_))
   | exact ih0 _ _ _ _ _
   | exact ih1 _ _ _ _
   | exact spec_l1Find.mono _ _ _ _ _
   | exact spec_l1Right.mono _ _ _ _ _
   | exact LeO.none _
   | refine LeO.ite ?_ ?_
   | refine LeO.bind ?_ (fun _ => ?_)
theorem spec_l1Add.mono : ∀ a0 a1 a2 a3 k, LeO (spec_l1Add.f k a0 a1 a2 a3) (spec_l1Add.f (k + 1) a0 a1 a2 a3) := by
 intro a0 a1 a2 a3 k
 obtain ⟨ih0, ih1⟩ := spec_l1Add.mono_l k
 unfold spec_l1Add.f
 repeat' first
   | (with_reducible exact ih0 _ _ _ _ _)
   | (with_reducible exact ih1 _ _ _ _)
   | (with_reducible exact spec_l1Find.mono _ _ _ _ _)
   | (with_reducible exact spec_l1Right.mono _ _ _ _ _)
   | (with_reducible exact LeO.refl _)
   | (with_reducible exact LeO.none _)
   | (with_reducible refine LeO.ite ?_ ?_)
   | (with_reducible refine LeO.bind ?_ (fun _ => ?_))
   | exact ih0 _ _ _ _ _
   | exact ih1 _ _ _ _
   | exact spec_l1Find.mono _ _ _ _ _
   | exact spec_l1Right.mono _ _ _ _ _
   | exact LeO.none _
   | refine LeO.ite ?_ ?_
   | refine LeO.bind ?_ (fun _ => ?_)
set_option maxHeartbeats 8000000 in
set_option maxRecDepth 100000 in
theorem spec_l1Add.calls (k : Nat) (P0_0_ : Nat → Prop) (u9000_ : Value) (l0_0 : List (S67)) (a1_0 : Int) (a1_1 : Int) (a1_2 : Int) (r1 : List (S67)) (r2 : Int) (w0 w : World) (hB : Below w0.heap.size w0 w) (ho0_0 : Kd.R k67 67 w w0.heap.size P0_0_ u9000_ l0_0) (h : spec_l1Add.f k l0_0 a1_0 a1_1 a1_2 = some (r1, r2)) :
  Calls Try.prog 71 #[.agg #[u9000_], .agg #[.int .i64 a1_0, .int .i64 a1_1, .int .i64 a1_2]] w fun e w' => ∃ v0_ : Value, e = .returned (.tuple #[.agg #[v0_], .int .i64 r2]) ∧ Kd.R k67 67 w' w0.heap.size (fun k_ => (P0_0_ k_ ∨ w.heap.size ≤ k_)) v0_ r1 ∧ Below w0.heap.size w0 w' ∧ Kept w w' (fun k_ => P0_0_ k_) := by
 have hu31 := Try.underlying31
 have hu67 := Try.underlying67
 have HO0_0 := Aside0.mk (show Kd.R k67 67 w w0.heap.size (fun k_ => (P0_0_ k_ ∨ w.heap.size ≤ k_)) u9000_ l0_0 from Kd.R_mono ho0_0 (fun k_ hk => (.inl hk)))
 have HK := Aside0.mk (Kept.refl w (fun k_ => P0_0_ k_))
 have HW0 := Aside0.mk hB.size
 have HB := Aside0.mk hB
 clear hB
 have H : (if a1_0 = 8 then (spec_l1Add.j0 k (decide (a1_1 > a1_2)) l0_0 a1_0 a1_1 a1_2) else (spec_l1Add.j0 k false l0_0 a1_0 a1_1 a1_2)) = some (r1, r2) := h
 clear h
 have HC3 := Aside0.mk H
 clear H
 obtain ⟨Ao4, co4, eo4⟩ := Kd.R_slice HO0_0.out
 subst eo4
 go_enter Try.func71, Try.ntmps71
 go_upto_region 1 with (first | ((with_reducible refine gate_dst (N := 2) rfl ?_); (try (refine gate_guard (by rfl) ?_; dsimp only)); refine box_event ?hg (N := 2) ?hd (cs := #[.slice Ao4 l0_0.length co4]) (t := 31) ?hr ?_; (case hd => rfl); (case hg => rfl); (case hr => first | (go_simp; done) | (go_simp; rfl)); intro gb219 hg w5 hbox hb; have n0_ := Aside0.mk (Kd.R_below (zr HO0_0.out) hb); have n1_ := Aside0.mk (Kept.below (S := (fun k_ => P0_0_ k_)) (zk HK.out) hb); have n2_ := Aside0.mk (below_step (zb HB.out) hb); have n3_ := Aside0.mk (hbox); have n4_ := Aside0.mk ((by rw [hg]; exact (by first | exact HK.out.1 | exact (show Kept w _ (fun k_ => P0_0_ k_) from zk HK.out).1) : w.heap.size ≤ gb219)); have n5_ := Aside0.mk ((by rw [hg]; exact (below_size (zb HB.out)) : w0.heap.size ≤ gb219)); clear HO0_0; clear HK; clear HB; have HO0_0 := n0_; have HK := n1_; have HB := n2_; have BK219 := n3_; have GW219 := n4_; have GE219 := n5_; clear n0_ n1_ n2_ n3_ n4_ n5_; clear hb hbox hg) | ((with_reducible refine gate_dst (N := 3) rfl ?_); (try (refine gate_guard (by rfl) ?_; dsimp only)); refine box_event ?hg (N := 3) ?hd (cs := #[.int .i64 a1_0, .int .i64 a1_1, .int .i64 a1_2]) (t := 67) ?hr ?_; (case hd => rfl); (case hg => rfl); (case hr => first | (go_simp; done) | (go_simp; rfl)); intro gb220 hg w6 hbox hb; have n0_ := Aside0.mk (Kd.R_below (Kd.R_elderB (zr HO0_0.out) gb220 (Nat.le_of_eq hg.symm)) hb); have n1_ := Aside0.mk (blk_below (zh BK219.out) hb); have n2_ := Aside0.mk (Kept.below (S := (fun k_ => P0_0_ k_)) (zk HK.out) hb); have n3_ := Aside0.mk (below_step (zb HB.out) hb); have n4_ := Aside0.mk (hbox); have n5_ := Aside0.mk ((by rw [hg]; exact (by first | exact HK.out.1 | exact (show Kept w _ (fun k_ => P0_0_ k_) from zk HK.out).1) : w.heap.size ≤ gb220)); have n6_ := Aside0.mk ((by rw [hg]; exact (below_size (zb HB.out)) : w0.heap.size ≤ gb220)); have n7_ := Aside0.mk ((by rw [hg]; exact Nat.ne_of_lt (blk_lt (zh BK219.out)) : gb219 ≠ gb220)); have n8_ := Aside0.mk ((by rw [hg]; exact Nat.ne_of_gt (blk_lt (zh BK219.out)) : gb220 ≠ gb219)); clear HO0_0; clear BK219; clear HK; clear HB; have HO0_0 := n0_; have BK219 := n1_; have HK := n2_; have HB := n3_; have BK220 := n4_; have GW220 := n5_; have GE220 := n6_; have NB219_220 := n7_; have NB220_219 := n8_; clear n0_ n1_ n2_ n3_ n4_ n5_ n6_ n7_ n8_; clear hb hbox hg) | ((with_reducible refine gate_dst (N := 4) rfl ?_); (try (refine gate_guard (by rfl) ?_; dsimp only)); refine box_event ?hg (N := 4) ?hd (cs := #[.slice none 0 0]) (t := 31) ?hr ?_; (case hd => rfl); (case hg => rfl); (case hr => first | (go_simp; done) | (go_simp; rfl)); intro gb221 hg w7 hbox hb; have n0_ := Aside0.mk (Kd.R_below (zr HO0_0.out) hb); have n1_ := Aside0.mk (blk_below (zh BK219.out) hb); have n2_ := Aside0.mk (blk_below (zh BK220.out) hb); have n3_ := Aside0.mk (Kept.below (S := (fun k_ => P0_0_ k_)) (zk HK.out) hb); have n4_ := Aside0.mk (below_step (zb HB.out) hb); have n5_ := Aside0.mk (hbox); have n6_ := Aside0.mk ((by rw [hg]; exact (by first | exact HK.out.1 | exact (show Kept w _ (fun k_ => P0_0_ k_) from zk HK.out).1) : w.heap.size ≤ gb221)); have n7_ := Aside0.mk ((by rw [hg]; exact (below_size (zb HB.out)) : w0.heap.size ≤ gb221)); have n8_ := Aside0.mk ((by rw [hg]; exact Nat.ne_of_lt (blk_lt (zh BK219.out)) : gb219 ≠ gb221)); have n9_ := Aside0.mk ((by rw [hg]; exact Nat.ne_of_gt (blk_lt (zh BK219.out)) : gb221 ≠ gb219)); have n10_ := Aside0.mk ((by rw [hg]; exact Nat.ne_of_lt (blk_lt (zh BK220.out)) : gb220 ≠ gb221)); have n11_ := Aside0.mk ((by rw [hg]; exact Nat.ne_of_gt (blk_lt (zh BK220.out)) : gb221 ≠ gb220)); clear HO0_0; clear BK219; clear BK220; clear HK; clear HB; have HO0_0 := n0_; have BK219 := n1_; have BK220 := n2_; have HK := n3_; have HB := n4_; have BK221 := n5_; have GW221 := n6_; have GE221 := n7_; have NB219_221 := n8_; have NB221_219 := n9_; have NB220_221 := n10_; have NB221_220 := n11_; clear n0_ n1_ n2_ n3_ n4_ n5_ n6_ n7_ n8_ n9_ n10_ n11_; clear hb hbox hg))
 (try simp only [Act.put, List.setIfInBounds_toArray, List.set_cons_zero, List.set_cons_succ])
 go_cut [17] (fun v17 wc => ∃ (kq : Nat) (x17_2 : Bool), v17 = .bool x17_2 ∧ Aside0 (spec_l1Add.j0 kq x17_2 l0_0 a1_0 a1_1 a1_2 = some (r1, r2)) ∧ Aside0 (kq ≤ k) ∧ Aside0 (Kd.R k67 67 wc w0.heap.size (fun k_ => (P0_0_ k_ ∨ w.heap.size ≤ k_) ∧ k_ ≠ gb220) (.slice Ao4 l0_0.length co4) l0_0) ∧ Aside0 (wc.heap[gb219]? = some (.cells #[(.slice Ao4 l0_0.length co4)] 31 (0, 0))) ∧ Aside0 (wc.heap[gb220]? = some (.cells #[.int .i64 a1_0, .int .i64 a1_1, .int .i64 a1_2] 67 (0, 0))) ∧ Aside0 (wc.heap[gb221]? = some (.cells #[(.slice none 0 0)] 31 (0, 0))) ∧ Aside0 (Kept w wc (fun k_ => P0_0_ k_)) ∧ Aside0 (Below w0.heap.size w0 wc))
 case first =>
  have H := HC3.out
  clear HC3
  by_cases c8 : a1_0 = 8
  ·rw [if_pos c8] at H
   have c8b0 : (a1_0 == 8) = true := beq_iff_eq.mpr c8
   have c8b1 : (a1_0 != 8) = false := bne_eq_false_iff_eq.mpr c8
   clear c8
   (first | rw [c8b0] | (simp only [i64_w, i32_w]; rw [c8b0]) | skip)
   have H' := Aside0.mk H
   clear H
   have hnb9 := NB220_219.out
   have hnc9 := NB219_220.out
   have hnb10 := NB220_221.out
   have hnc10 := NB221_220.out
   have hcz11_0 : w7.cell? ⟨gb220, 0, none⟩ = some (.int .i64 a1_0) := (blk_cell BK220.out 0).trans rfl
   have hcz11_1 : w7.cell? ⟨gb220, 1, none⟩ = some (.int .i64 a1_1) := (blk_cell BK220.out 1).trans rfl
   have hcz11_2 : w7.cell? ⟨gb220, 2, none⟩ = some (.int .i64 a1_2) := (blk_cell BK220.out 2).trans rfl
   have hfz11_0 := blk_frozen BK220.out 0
   have hfz11_1 := blk_frozen BK220.out 1
   have hfz11_2 := blk_frozen BK220.out 2
   go_wp2
   go_meet
   case rel => exact ⟨_, (decide (a1_1 > a1_2)), (by first | rfl | (simp; done) | (simp [*]; done)), H', ⟨by first | omega | exact Nat.le_refl _⟩, ⟨zr HO0_0.out⟩, ⟨zh BK219.out⟩, ⟨zh BK220.out⟩, ⟨zh BK221.out⟩, ⟨zk HK.out⟩, ⟨zb HB.out⟩⟩
  ·rw [if_neg c8] at H
   have c8b0 : (a1_0 == 8) = false := beq_eq_false_iff_ne.mpr c8
   have c8b1 : (a1_0 != 8) = true := bne_iff_ne.mpr c8
   (first | rw [c8b0] | (simp only [i64_w, i32_w]; rw [c8b0]) | skip)
   have H' := Aside0.mk H
   clear H
   have hnb12 := NB220_219.out
   have hnc12 := NB219_220.out
   have hnb13 := NB220_221.out
   have hnc13 := NB221_220.out
   have hcz14_0 : w7.cell? ⟨gb220, 0, none⟩ = some (.int .i64 a1_0) := (blk_cell BK220.out 0).trans rfl
   have hcz14_1 : w7.cell? ⟨gb220, 1, none⟩ = some (.int .i64 a1_1) := (blk_cell BK220.out 1).trans rfl
   have hcz14_2 : w7.cell? ⟨gb220, 2, none⟩ = some (.int .i64 a1_2) := (blk_cell BK220.out 2).trans rfl
   have hfz14_0 := blk_frozen BK220.out 0
   have hfz14_1 := blk_frozen BK220.out 1
   have hfz14_2 := blk_frozen BK220.out 2
   go_wp2
   go_meet
   case rel => exact ⟨_, (false), (by first | rfl | (simp; done) | (simp [*]; done)), H', ⟨by first | omega | exact Nat.le_refl _⟩, ⟨zr HO0_0.out⟩, ⟨zh BK219.out⟩, ⟨zh BK220.out⟩, ⟨zh BK221.out⟩, ⟨zk HK.out⟩, ⟨zb HB.out⟩⟩
 case rest =>
  clear HC3
  try clear c1
  try clear p2
  try clear c7
  try clear c8
  try clear c8b0
  try clear c8b1
  try clear c9
  try clear c10
  try clear c12
  try clear c13
  try clear hcz11_0
  try clear hcz11_1
  try clear hcz11_2
  try clear hcz14_0
  try clear hcz14_1
  try clear hcz14_2
  try clear hfz11_0
  try clear hfz11_1
  try clear hfz11_2
  try clear hfz14_0
  try clear hfz14_1
  try clear hfz14_2
  obtain ⟨kq, x17_2, rfl, HA, HJ2, HO_220000, BK219, BK220, BK221, HK, HB⟩ := hcut
  cases kq with
  | zero => exact absurd HA.out (by simp [spec_l1Add.j0])
  | succ kj2 =>
   have H := HA.out
   clear HA
   simp only [spec_l1Add.j0] at H
   have HC15 := Aside0.mk H
   clear H
   go_upto_if 17 with (fail)
   go_cut [] (fun wc => ∃ (kq : Nat) (x221000_14 : Int) (x221001_14 : Int) (x221002_14 : Int), Aside0 (spec_l1Add.j1 kq l0_0 x221000_14 x221001_14 x221002_14 = some (r1, r2)) ∧ Aside0 (kq ≤ kj2) ∧ Aside0 (Kd.R k67 67 wc w0.heap.size (fun k_ => (P0_0_ k_ ∨ w.heap.size ≤ k_) ∧ k_ ≠ gb220) (.slice Ao4 l0_0.length co4) l0_0) ∧ Aside0 (wc.heap[gb219]? = some (.cells #[(.slice Ao4 l0_0.length co4)] 31 (0, 0))) ∧ Aside0 (wc.heap[gb220]? = some (.cells #[.int .i64 x221000_14, .int .i64 x221001_14, .int .i64 x221002_14] 67 (0, 0))) ∧ Aside0 (wc.heap[gb221]? = some (.cells #[(.slice none 0 0)] 31 (0, 0))) ∧ Aside0 (Kept w wc (fun k_ => P0_0_ k_)) ∧ Aside0 (Below w0.heap.size w0 wc))
   case first =>
    have H := HC15.out
    clear HC15
    by_cases c16 : x17_2 = true
    ·subst c16
     have H1 : (spec_l1Add.j1 kj2 l0_0 a1_0 a1_2 a1_1) = some (r1, r2) := by rw [if_pos rfl] at H; exact H
     clear H
     have H := H1
     clear H1
     have H' := Aside0.mk H
     clear H
     have hnb17 := NB220_219.out
     have hnc17 := NB219_220.out
     have hnb18 := NB220_221.out
     have hnc18 := NB221_220.out
     have hcz19_0 : wc.cell? ⟨gb220, 0, none⟩ = some (.int .i64 a1_0) := (blk_cell BK220.out 0).trans rfl
     have hcz19_1 : wc.cell? ⟨gb220, 1, none⟩ = some (.int .i64 a1_1) := (blk_cell BK220.out 1).trans rfl
     have hcz19_2 : wc.cell? ⟨gb220, 2, none⟩ = some (.int .i64 a1_2) := (blk_cell BK220.out 2).trans rfl
     have hfz19_0 := blk_frozen BK220.out 0
     have hfz19_1 := blk_frozen BK220.out 1
     have hfz19_2 := blk_frozen BK220.out 2
     go_wp2
     go_meet
     case rel => exact ⟨_, (a1_0), (a1_2), (a1_1), H', ⟨by have := HJ2.out; first | omega | exact Nat.le_refl _⟩, ⟨zr (Kd.R_mono (Kd.R_far (p := ⟨gb220, 2, none⟩) (Kd.R_far (p := ⟨gb220, 1, none⟩) (Kd.R_far (p := ⟨gb220, 0, none⟩) (Kd.R_mono HO_220000.out (fun k_ hk => (⟨hk, hk.2⟩ : _ ∧ k_ ≠ gb220))) (fun _ hk => hk.2) (.int .i64 a1_0)) (fun _ hk => hk.2) (.int .i64 a1_2)) (fun _ hk => hk.2) (.int .i64 a1_1)) (fun _ hk => ⟨hk.1.1, hk.1.2⟩))⟩, ⟨zf BK219.out⟩, ⟨by (with_reducible repeat (first | refine blk_drewN ?_ _ | refine blk_drew ?_ | refine blk_alloc ?_ _)); refine blk_put (cs := #[.int .i64 a1_0, .int .i64 a1_2, .int .i64 a1_2]) ?_ 2 _ rfl; (with_reducible repeat (first | refine blk_drewN ?_ _ | refine blk_drew ?_ | refine blk_alloc ?_ _)); refine blk_put (cs := #[.int .i64 a1_0, .int .i64 a1_1, .int .i64 a1_2]) ?_ 1 _ rfl; (with_reducible repeat (first | refine blk_drewN ?_ _ | refine blk_drew ?_ | refine blk_alloc ?_ _)); refine blk_put (cs := #[.int .i64 a1_0, .int .i64 a1_1, .int .i64 a1_2]) ?_ 0 _ rfl; (with_reducible repeat (first | refine blk_drewN ?_ _ | refine blk_drew ?_ | refine blk_alloc ?_ _)); exact BK220.out⟩, ⟨zf BK221.out⟩, ⟨zk HK.out⟩, ⟨zb HB.out⟩⟩
    ·replace c16 := Bool.eq_false_iff.mpr c16
     subst c16
     have H1 : (spec_l1Add.j1 kj2 l0_0 a1_0 a1_1 a1_2) = some (r1, r2) := by rw [if_neg (show ¬ (false = true) by decide)] at H; exact H
     clear H
     have H := H1
     clear H1
     have H' := Aside0.mk H
     clear H
     go_wp2
     go_meet
     case rel => exact ⟨_, (a1_0), (a1_1), (a1_2), H', ⟨by have := HJ2.out; first | omega | exact Nat.le_refl _⟩, ⟨zr HO_220000.out⟩, ⟨zh BK219.out⟩, ⟨zh BK220.out⟩, ⟨zh BK221.out⟩, ⟨zk HK.out⟩, ⟨zb HB.out⟩⟩
   case rest =>
    clear HC15
    try clear c1
    try clear p2
    try clear c7
    try clear c8
    try clear c8b0
    try clear c8b1
    try clear c9
    try clear c10
    try clear c12
    try clear c13
    try clear c16
    try clear c17
    try clear c18
    try clear hcz11_0
    try clear hcz11_1
    try clear hcz11_2
    try clear hcz14_0
    try clear hcz14_1
    try clear hcz14_2
    try clear hcz19_0
    try clear hcz19_1
    try clear hcz19_2
    try clear hfz11_0
    try clear hfz11_1
    try clear hfz11_2
    try clear hfz14_0
    try clear hfz14_1
    try clear hfz14_2
    try clear hfz19_0
    try clear hfz19_1
    try clear hfz19_2
    try clear p2
    obtain ⟨kq, x221000_14, x221001_14, x221002_14, HA, HJ14, HO_220000, BK219, BK220, BK221, HK, HB⟩ := hcut
    cases kq with
    | zero => exact absurd HA.out (by simp [spec_l1Add.j1])
    | succ kj14 =>
     have H := HA.out
     clear HA
     simp only [spec_l1Add.j1] at H
     replace H := Option.bind_eq_some_iff.mp H
     obtain ⟨t222, A200, H⟩ := H
     replace H : (if t222 ≥ 0 then (some (l0_0, t222)) else ((spec_l1Right.f kj14 x221000_14 x221001_14 x221002_14 (l0_0.length : Int)).bind fun t223 => (if t223 = true then (if (l0_0.length : Int) = 500 then (some (l0_0, (-1))) else ((spec_l1Copy.f l0_0).bind fun t224 => (if t224.length < 5864062014805 then (some ((t224 ++ [(⟨x221000_14, x221001_14, x221002_14⟩ : S67)]), (l0_0.length : Int))) else (none)))) else (some (l0_0, (-1)))))) = some (r1, r2) := H
     have A20 := Aside0.mk A200
     clear A200
     by_cases c21 : t222 ≥ 0
     ·rw [if_pos c21] at H
      have c21b0 : decide (0 ≤ t222) = true := decide_eq_true c21
      clear c21
      simp only [Option.some.injEq, Prod.mk.injEq] at H
      obtain ⟨rfl, rfl⟩ := H
      have hnb22 := NB219_220.out
      have hnc22 := NB220_219.out
      have hnb23 := NB219_221.out
      have hnc23 := NB221_219.out
      have hcz24_0 : wc.cell? ⟨gb219, 0, none⟩ = some (.slice Ao4 l0_0.length co4) := (blk_cell BK219.out 0).trans rfl
      have hfz24_0 := blk_frozen BK219.out 0
      have hnb25 := NB220_221.out
      have hnc25 := NB221_220.out
      have hcz26_0 : wc.cell? ⟨gb220, 0, none⟩ = some (.int .i64 x221000_14) := (blk_cell BK220.out 0).trans rfl
      have hcz26_1 : wc.cell? ⟨gb220, 1, none⟩ = some (.int .i64 x221001_14) := (blk_cell BK220.out 1).trans rfl
      have hcz26_2 : wc.cell? ⟨gb220, 2, none⟩ = some (.int .i64 x221002_14) := (blk_cell BK220.out 2).trans rfl
      have hfz26_0 := blk_frozen BK220.out 0
      have hfz26_1 := blk_frozen BK220.out 1
      have hfz26_2 := blk_frozen BK220.out 2
      go_wp2_with (first | ((with_reducible refine gate_callee (f := 65) rfl ?_); refine goesL_ (some 27) rfl rfl Try.func65 (by kernel_rfl) rfl #[.agg #[.slice Ao4 l0_0.length co4], .agg #[.int .i64 x221000_14, .int .i64 x221001_14, .int .i64 x221002_14]] rfl zl ?_; (with_reducible refine (spec_l1Find.calls kj14 _ _ l0_0 x221000_14 x221001_14 x221002_14 t222 _ ?side1 ?side2 A20.out).mono ?_); (case side1 => exact zc (Kd.R_reads' HO_220000.out).2.2); (case side2 => exact (Kd.R_reads' HO_220000.out).2.1); rintro e w27 ⟨rfl, hb⟩; refine ⟨_, rfl, ?_⟩; have n0_ := Aside0.mk (Kd.R_below (zr HO_220000.out) hb); have n1_ := Aside0.mk (blk_below (zh BK219.out) hb); have n2_ := Aside0.mk (blk_below (zh BK220.out) hb); have n3_ := Aside0.mk (blk_below (zh BK221.out) hb); have n4_ := Aside0.mk (Kept.below (S := (fun k_ => P0_0_ k_)) (zk HK.out) hb); have n5_ := Aside0.mk (below_step (zb HB.out) hb); clear HO_220000; clear BK219; clear BK220; clear BK221; clear HK; clear HB; have HO_220000 := n0_; have BK219 := n1_; have BK220 := n2_; have BK221 := n3_; have HK := n4_; have HB := n5_; clear n0_ n1_ n2_ n3_ n4_ n5_; (try clear hb); (try clear hb2); (try clear hk); (try clear hi); have hcz28_0 : w27.cell? ⟨gb219, 0, none⟩ = some (.slice Ao4 l0_0.length co4) := (blk_cell BK219.out 0).trans rfl; have hfz28_0 := blk_frozen BK219.out 0; have hcz29_0 : w27.cell? ⟨gb221, 0, none⟩ = some (.slice none 0 0) := (blk_cell BK221.out 0).trans rfl; have hfz29_0 := blk_frozen BK221.out 0))
      refine bodyPost_ret (results_ct rfl _ _ gb221 31 #[.slice Ao4 l0_0.length co4] (0, 0) _ rfl (by (with_reducible repeat (first | refine blk_drewN ?_ _ | refine blk_drew ?_ | refine blk_alloc ?_ _)); refine blk_put (cs := #[.slice none 0 0]) ?_ 0 _ rfl; (with_reducible repeat (first | refine blk_drewN ?_ _ | refine blk_drew ?_ | refine blk_alloc ?_ _)); exact BK221.out) Try.underlying31 rfl (by kernel_rfl)) rfl ?_
      exact ⟨_, ze, zr (Kd.R_mono (Kd.R_far (p := ⟨gb221, 0, none⟩) (Kd.R_types HO_220000.out BK221.out (by decide)) (fun _ hk => hk.2) (.slice Ao4 l0_0.length co4)) (fun _ hk => hk.1.1)), zb HB.out, zk HK.out⟩
     ·rw [if_neg c21] at H
      have c21b0 : decide (0 ≤ t222) = false := decide_eq_false c21
      clear c21
      replace H := Option.bind_eq_some_iff.mp H
      obtain ⟨t223, A300, H⟩ := H
      replace H : (if t223 = true then (if (l0_0.length : Int) = 500 then (some (l0_0, (-1))) else ((spec_l1Copy.f l0_0).bind fun t224 => (if t224.length < 5864062014805 then (some ((t224 ++ [(⟨x221000_14, x221001_14, x221002_14⟩ : S67)]), (l0_0.length : Int))) else (none)))) else (some (l0_0, (-1)))) = some (r1, r2) := H
      have A30 := Aside0.mk A300
      clear A300
      by_cases c31 : t223 = true
      ·subst c31
       have H1 : (if (l0_0.length : Int) = 500 then (some (l0_0, (-1))) else ((spec_l1Copy.f l0_0).bind fun t224 => (if t224.length < 5864062014805 then (some ((t224 ++ [(⟨x221000_14, x221001_14, x221002_14⟩ : S67)]), (l0_0.length : Int))) else (none)))) = some (r1, r2) := by rw [if_pos rfl] at H; exact H
       clear H
       have H := H1
       clear H1
       by_cases c32 : (l0_0.length : Int) = 500
       ·rw [if_pos c32] at H
        have c32b0 : ((l0_0.length : Int) == 500) = true := beq_iff_eq.mpr c32
        have c32b1 : ((l0_0.length : Int) != 500) = false := bne_eq_false_iff_eq.mpr c32
        clear c32
        simp only [Option.some.injEq, Prod.mk.injEq] at H
        obtain ⟨rfl, rfl⟩ := H
        have hnb33 := NB219_220.out
        have hnc33 := NB220_219.out
        have hnb34 := NB219_221.out
        have hnc34 := NB221_219.out
        have hcz35_0 : wc.cell? ⟨gb219, 0, none⟩ = some (.slice Ao4 l0_0.length co4) := (blk_cell BK219.out 0).trans rfl
        have hfz35_0 := blk_frozen BK219.out 0
        have hnb36 := NB220_221.out
        have hnc36 := NB221_220.out
        have hcz37_0 : wc.cell? ⟨gb220, 0, none⟩ = some (.int .i64 x221000_14) := (blk_cell BK220.out 0).trans rfl
        have hcz37_1 : wc.cell? ⟨gb220, 1, none⟩ = some (.int .i64 x221001_14) := (blk_cell BK220.out 1).trans rfl
        have hcz37_2 : wc.cell? ⟨gb220, 2, none⟩ = some (.int .i64 x221002_14) := (blk_cell BK220.out 2).trans rfl
        have hfz37_0 := blk_frozen BK220.out 0
        have hfz37_1 := blk_frozen BK220.out 1
        have hfz37_2 := blk_frozen BK220.out 2
        go_wp2_with (first | ((with_reducible refine gate_callee (f := 65) rfl ?_); refine goesL_ (some 27) rfl rfl Try.func65 (by kernel_rfl) rfl #[.agg #[.slice Ao4 l0_0.length co4], .agg #[.int .i64 x221000_14, .int .i64 x221001_14, .int .i64 x221002_14]] rfl zl ?_; (with_reducible refine (spec_l1Find.calls kj14 _ _ l0_0 x221000_14 x221001_14 x221002_14 t222 _ ?side1 ?side2 A20.out).mono ?_); (case side1 => exact zc (Kd.R_reads' HO_220000.out).2.2); (case side2 => exact (Kd.R_reads' HO_220000.out).2.1); rintro e w38 ⟨rfl, hb⟩; refine ⟨_, rfl, ?_⟩; have n0_ := Aside0.mk (Kd.R_below (zr HO_220000.out) hb); have n1_ := Aside0.mk (blk_below (zh BK219.out) hb); have n2_ := Aside0.mk (blk_below (zh BK220.out) hb); have n3_ := Aside0.mk (blk_below (zh BK221.out) hb); have n4_ := Aside0.mk (Kept.below (S := (fun k_ => P0_0_ k_)) (zk HK.out) hb); have n5_ := Aside0.mk (below_step (zb HB.out) hb); clear HO_220000; clear BK219; clear BK220; clear BK221; clear HK; clear HB; have HO_220000 := n0_; have BK219 := n1_; have BK220 := n2_; have BK221 := n3_; have HK := n4_; have HB := n5_; clear n0_ n1_ n2_ n3_ n4_ n5_; (try clear hb); (try clear hb2); (try clear hk); (try clear hi); have hcz39_0 : w38.cell? ⟨gb220, 0, none⟩ = some (.int .i64 x221000_14) := (blk_cell BK220.out 0).trans rfl; have hcz39_1 : w38.cell? ⟨gb220, 1, none⟩ = some (.int .i64 x221001_14) := (blk_cell BK220.out 1).trans rfl; have hcz39_2 : w38.cell? ⟨gb220, 2, none⟩ = some (.int .i64 x221002_14) := (blk_cell BK220.out 2).trans rfl; have hfz39_0 := blk_frozen BK220.out 0; have hfz39_1 := blk_frozen BK220.out 1; have hfz39_2 := blk_frozen BK220.out 2; have hcz40_0 : w38.cell? ⟨gb219, 0, none⟩ = some (.slice Ao4 l0_0.length co4) := (blk_cell BK219.out 0).trans rfl; have hfz40_0 := blk_frozen BK219.out 0) | ((with_reducible refine gate_callee (f := 64) rfl ?_); refine goesL_ (some 36) rfl rfl Try.func64 (by kernel_rfl) rfl #[.agg #[.int .i64 x221000_14, .int .i64 x221001_14, .int .i64 x221002_14], .int .i64 (l0_0.length : Int)] rfl zl ?_; (with_reducible refine (spec_l1Right.calls kj14 x221000_14 x221001_14 x221002_14 (l0_0.length : Int) true _ A30.out).mono ?_); rintro e w41 ⟨rfl, hb⟩; refine ⟨_, rfl, ?_⟩; have n0_ := Aside0.mk (Kd.R_below (zr HO_220000.out) hb); have n1_ := Aside0.mk (blk_below (zh BK219.out) hb); have n2_ := Aside0.mk (blk_below (zh BK220.out) hb); have n3_ := Aside0.mk (blk_below (zh BK221.out) hb); have n4_ := Aside0.mk (Kept.below (S := (fun k_ => P0_0_ k_)) (zk HK.out) hb); have n5_ := Aside0.mk (below_step (zb HB.out) hb); clear HO_220000; clear BK219; clear BK220; clear BK221; clear HK; clear HB; have HO_220000 := n0_; have BK219 := n1_; have BK220 := n2_; have BK221 := n3_; have HK := n4_; have HB := n5_; clear n0_ n1_ n2_ n3_ n4_ n5_; (try clear hb); (try clear hb2); (try clear hk); (try clear hi); have hcz42_0 : w41.cell? ⟨gb219, 0, none⟩ = some (.slice Ao4 l0_0.length co4) := (blk_cell BK219.out 0).trans rfl; have hfz42_0 := blk_frozen BK219.out 0; have hcz43_0 : w41.cell? ⟨gb221, 0, none⟩ = some (.slice none 0 0) := (blk_cell BK221.out 0).trans rfl; have hfz43_0 := blk_frozen BK221.out 0))
        refine bodyPost_ret (results_ct rfl _ _ gb221 31 #[.slice Ao4 l0_0.length co4] (0, 0) _ rfl (by (with_reducible repeat (first | refine blk_drewN ?_ _ | refine blk_drew ?_ | refine blk_alloc ?_ _)); refine blk_put (cs := #[.slice none 0 0]) ?_ 0 _ rfl; (with_reducible repeat (first | refine blk_drewN ?_ _ | refine blk_drew ?_ | refine blk_alloc ?_ _)); exact BK221.out) Try.underlying31 rfl (by kernel_rfl)) rfl ?_
        exact ⟨_, ze, zr (Kd.R_mono (Kd.R_far (p := ⟨gb221, 0, none⟩) (Kd.R_types HO_220000.out BK221.out (by decide)) (fun _ hk => hk.2) (.slice Ao4 l0_0.length co4)) (fun _ hk => hk.1.1)), zb HB.out, zk HK.out⟩
       ·rw [if_neg c32] at H
        have c32b0 : ((l0_0.length : Int) == 500) = false := beq_eq_false_iff_ne.mpr c32
        have c32b1 : ((l0_0.length : Int) != 500) = true := bne_iff_ne.mpr c32
        replace H := Option.bind_eq_some_iff.mp H
        obtain ⟨t224, A440, H⟩ := H
        replace H : (if t224.length < 5864062014805 then (some ((t224 ++ [(⟨x221000_14, x221001_14, x221002_14⟩ : S67)]), (l0_0.length : Int))) else (none)) = some (r1, r2) := H
        have A44 := Aside0.mk A440
        clear A440
        by_cases c45 : t224.length < 5864062014805
        ·rw [if_pos c45] at H
         have LMc45 := Aside0.mk c45
         clear c45
         obtain ⟨y228, hy228⟩ : ∃ y_ : List (S67), y_ = (t224 ++ [(⟨x221000_14, x221001_14, x221002_14⟩ : S67)]) := ⟨_, rfl⟩
         replace H : (some (y228, (l0_0.length : Int))) = some (r1, r2) := by first | (rw [hy228]; with_reducible exact H) | (have H2_ := (Option.bind_some _ _).symm.trans H; rw [hy228]; with_reducible exact H2_) | (have H2_ := (Option.bind_some _ _).symm.trans H; with_reducible exact H2_) | with_reducible exact H | (rw [hy228]; exact H) | exact H
         have Ny228 := Aside0.mk hy228
         clear hy228
         simp only [Option.some.injEq, Prod.mk.injEq] at H
         obtain ⟨rfl, rfl⟩ := H
         have hnb46 := NB219_220.out
         have hnc46 := NB220_219.out
         have hnb47 := NB219_221.out
         have hnc47 := NB221_219.out
         have hcz48_0 : wc.cell? ⟨gb219, 0, none⟩ = some (.slice Ao4 l0_0.length co4) := (blk_cell BK219.out 0).trans rfl
         have hfz48_0 := blk_frozen BK219.out 0
         have hnb49 := NB220_221.out
         have hnc49 := NB221_220.out
         have hcz50_0 : wc.cell? ⟨gb220, 0, none⟩ = some (.int .i64 x221000_14) := (blk_cell BK220.out 0).trans rfl
         have hcz50_1 : wc.cell? ⟨gb220, 1, none⟩ = some (.int .i64 x221001_14) := (blk_cell BK220.out 1).trans rfl
         have hcz50_2 : wc.cell? ⟨gb220, 2, none⟩ = some (.int .i64 x221002_14) := (blk_cell BK220.out 2).trans rfl
         have hfz50_0 := blk_frozen BK220.out 0
         have hfz50_1 := blk_frozen BK220.out 1
         have hfz50_2 := blk_frozen BK220.out 2
         try go_wp2_with (first | ((with_reducible refine gate_callee (f := 65) rfl ?_); refine goesL_ (some 27) rfl rfl Try.func65 (by kernel_rfl) rfl #[.agg #[.slice Ao4 l0_0.length co4], .agg #[.int .i64 x221000_14, .int .i64 x221001_14, .int .i64 x221002_14]] rfl zl ?_; (with_reducible refine (spec_l1Find.calls kj14 _ _ l0_0 x221000_14 x221001_14 x221002_14 t222 _ ?side1 ?side2 A20.out).mono ?_); (case side1 => exact zc (Kd.R_reads' HO_220000.out).2.2); (case side2 => exact (Kd.R_reads' HO_220000.out).2.1); rintro e w51 ⟨rfl, hb⟩; refine ⟨_, rfl, ?_⟩; have n0_ := Aside0.mk (Kd.R_below (zr HO_220000.out) hb); have n1_ := Aside0.mk (blk_below (zh BK219.out) hb); have n2_ := Aside0.mk (blk_below (zh BK220.out) hb); have n3_ := Aside0.mk (blk_below (zh BK221.out) hb); have n4_ := Aside0.mk (Kept.below (S := (fun k_ => P0_0_ k_)) (zk HK.out) hb); have n5_ := Aside0.mk (below_step (zb HB.out) hb); clear HO_220000; clear BK219; clear BK220; clear BK221; clear HK; clear HB; have HO_220000 := n0_; have BK219 := n1_; have BK220 := n2_; have BK221 := n3_; have HK := n4_; have HB := n5_; clear n0_ n1_ n2_ n3_ n4_ n5_; (try clear hb); (try clear hb2); (try clear hk); (try clear hi); have hcz52_0 : w51.cell? ⟨gb220, 0, none⟩ = some (.int .i64 x221000_14) := (blk_cell BK220.out 0).trans rfl; have hcz52_1 : w51.cell? ⟨gb220, 1, none⟩ = some (.int .i64 x221001_14) := (blk_cell BK220.out 1).trans rfl; have hcz52_2 : w51.cell? ⟨gb220, 2, none⟩ = some (.int .i64 x221002_14) := (blk_cell BK220.out 2).trans rfl; have hfz52_0 := blk_frozen BK220.out 0; have hfz52_1 := blk_frozen BK220.out 1; have hfz52_2 := blk_frozen BK220.out 2; have hcz53_0 : w51.cell? ⟨gb219, 0, none⟩ = some (.slice Ao4 l0_0.length co4) := (blk_cell BK219.out 0).trans rfl; have hfz53_0 := blk_frozen BK219.out 0) | ((with_reducible refine gate_callee (f := 64) rfl ?_); refine goesL_ (some 36) rfl rfl Try.func64 (by kernel_rfl) rfl #[.agg #[.int .i64 x221000_14, .int .i64 x221001_14, .int .i64 x221002_14], .int .i64 (l0_0.length : Int)] rfl zl ?_; (with_reducible refine (spec_l1Right.calls kj14 x221000_14 x221001_14 x221002_14 (l0_0.length : Int) true _ A30.out).mono ?_); rintro e w54 ⟨rfl, hb⟩; refine ⟨_, rfl, ?_⟩; have n0_ := Aside0.mk (Kd.R_below (zr HO_220000.out) hb); have n1_ := Aside0.mk (blk_below (zh BK219.out) hb); have n2_ := Aside0.mk (blk_below (zh BK220.out) hb); have n3_ := Aside0.mk (blk_below (zh BK221.out) hb); have n4_ := Aside0.mk (Kept.below (S := (fun k_ => P0_0_ k_)) (zk HK.out) hb); have n5_ := Aside0.mk (below_step (zb HB.out) hb); clear HO_220000; clear BK219; clear BK220; clear BK221; clear HK; clear HB; have HO_220000 := n0_; have BK219 := n1_; have BK220 := n2_; have BK221 := n3_; have HK := n4_; have HB := n5_; clear n0_ n1_ n2_ n3_ n4_ n5_; (try clear hb); (try clear hb2); (try clear hk); (try clear hi); have hcz55_0 : w54.cell? ⟨gb219, 0, none⟩ = some (.slice Ao4 l0_0.length co4) := (blk_cell BK219.out 0).trans rfl; have hfz55_0 := blk_frozen BK219.out 0) | ((with_reducible refine gate_callee (f := 72) rfl ?_); refine goesL_ (some 46) rfl rfl Try.func72 (by kernel_rfl) rfl #[.agg #[.slice Ao4 l0_0.length co4]] rfl zl ?_; (with_reducible refine (spec_l1Copy.calls _ _ l0_0 t224 _ ?side1 ?side2 A44.out).mono ?_); (case side1 => exact zc (Kd.R_reads' HO_220000.out).2.2); (case side2 => exact (Kd.R_reads' HO_220000.out).2.1); rintro e w56 ⟨v225, rfl, ho0, hb⟩; refine ⟨_, rfl, ?_⟩; have n0_ := Aside0.mk (Kd.R_elder' (zr HO_220000.out) (Kd.R_base ho0) hb); have n1_ := Aside0.mk (Kd.R_lower (Kd.R_newB (Kd.R_new' (Kd.R_newM (M := fun k_ => (P0_0_ k_ ∨ w.heap.size ≤ k_)) ho0 (by first | exact HK.out.1 | exact (show Kept w _ (fun k_ => P0_0_ k_) from zk HK.out).1) (fun k_ h_ => .inr h_)) (Kd.R_lt (zr HO_220000.out))) (zh BK220.out)) (below_size (zb HB.out))); have n2_ := Aside0.mk (blk_below (zh BK219.out) hb); have n3_ := Aside0.mk (blk_below (zh BK220.out) hb); have n4_ := Aside0.mk (blk_below (zh BK221.out) hb); have n5_ := Aside0.mk (Kept.below (S := (fun k_ => P0_0_ k_)) (zk HK.out) hb); have n6_ := Aside0.mk (below_step (zb HB.out) hb); clear HO_220000; clear BK219; clear BK220; clear BK221; clear HK; clear HB; have HO_220000 := n0_; have HO226 := n1_; have BK219 := n2_; have BK220 := n3_; have BK221 := n4_; have HK := n5_; have HB := n6_; clear n0_ n1_ n2_ n3_ n4_ n5_ n6_; (try clear hb); (try clear hb2); (try clear hk); (try clear hi); (try clear ho0)) | ((with_reducible refine gate_dst (N := 7) rfl ?_); (try (refine gate_guard (by rfl) ?_; dsimp only)); refine box_event ?hg (N := 7) ?hd (cs := #[.slice none 0 0]) (t := 31) ?hr ?_; (case hd => rfl); (case hg => rfl); (case hr => first | (go_simp; done) | (go_simp; rfl)); intro gb227 hg w57 hbox hb; have n0_ := Aside0.mk (Kd.R_below (zr HO_220000.out) hb); have n1_ := Aside0.mk (Kd.R_below (zr HO226.out) hb); have n2_ := Aside0.mk (blk_below (zh BK219.out) hb); have n3_ := Aside0.mk (blk_below (zh BK220.out) hb); have n4_ := Aside0.mk (blk_below (zh BK221.out) hb); have n5_ := Aside0.mk (Kept.below (S := (fun k_ => P0_0_ k_)) (zk HK.out) hb); have n6_ := Aside0.mk (below_step (zb HB.out) hb); have n7_ := Aside0.mk (hbox); have n8_ := Aside0.mk ((by rw [hg]; exact (by first | exact HK.out.1 | exact (show Kept w _ (fun k_ => P0_0_ k_) from zk HK.out).1) : w.heap.size ≤ gb227)); have n9_ := Aside0.mk ((by rw [hg]; exact (below_size (zb HB.out)) : w0.heap.size ≤ gb227)); have n10_ := Aside0.mk ((by rw [hg]; exact Nat.ne_of_lt (blk_lt (zh BK219.out)) : gb219 ≠ gb227)); have n11_ := Aside0.mk ((by rw [hg]; exact Nat.ne_of_gt (blk_lt (zh BK219.out)) : gb227 ≠ gb219)); have n12_ := Aside0.mk ((by rw [hg]; exact Nat.ne_of_lt (blk_lt (zh BK220.out)) : gb220 ≠ gb227)); have n13_ := Aside0.mk ((by rw [hg]; exact Nat.ne_of_gt (blk_lt (zh BK220.out)) : gb227 ≠ gb220)); have n14_ := Aside0.mk ((by rw [hg]; exact Nat.ne_of_lt (blk_lt (zh BK221.out)) : gb221 ≠ gb227)); have n15_ := Aside0.mk ((by rw [hg]; exact Nat.ne_of_gt (blk_lt (zh BK221.out)) : gb227 ≠ gb221)); clear HO_220000; clear HO226; clear BK219; clear BK220; clear BK221; clear HK; clear HB; have HO_220000 := n0_; have HO226 := n1_; have BK219 := n2_; have BK220 := n3_; have BK221 := n4_; have HK := n5_; have HB := n6_; have BK227 := n7_; have GW227 := n8_; have GE227 := n9_; have NB219_227 := n10_; have NB227_219 := n11_; have NB220_227 := n12_; have NB227_220 := n13_; have NB221_227 := n14_; have NB227_221 := n15_; clear n0_ n1_ n2_ n3_ n4_ n5_ n6_ n7_ n8_ n9_ n10_ n11_ n12_ n13_ n14_ n15_; clear hb hbox hg; obtain ⟨Ao58, co58, eo58⟩ := Kd.R_slice HO226.out; subst eo58; have hnb59 := NB227_219.out; have hnc59 := NB219_227.out; have hnb60 := NB227_220.out; have hnc60 := NB220_227.out; have hnb61 := NB227_221.out; have hnc61 := NB221_227.out; have hcz62_0 : w57.cell? ⟨gb227, 0, none⟩ = some (.slice none 0 0) := (blk_cell BK227.out 0).trans rfl; have hfz62_0 := blk_frozen BK227.out 0; have hcz63_0 : w57.cell? ⟨gb220, 0, none⟩ = some (.int .i64 x221000_14) := (blk_cell BK220.out 0).trans rfl; have hcz63_1 : w57.cell? ⟨gb220, 1, none⟩ = some (.int .i64 x221001_14) := (blk_cell BK220.out 1).trans rfl; have hcz63_2 : w57.cell? ⟨gb220, 2, none⟩ = some (.int .i64 x221002_14) := (blk_cell BK220.out 2).trans rfl; have hfz63_0 := blk_frozen BK220.out 0; have hfz63_1 := blk_frozen BK220.out 1; have hfz63_2 := blk_frozen BK220.out 2) | ((with_reducible refine gate_builtin (b := .append) (xs := #[.tmp 48, .tmp 50]) rfl ?_); (try (refine gate_guard (by rfl) ?_; dsimp only)); at_builtin; refine Kd.R_append k67 (w0 := w0) w0.heap.size rfl (.tmp 48) (.tmp 50) 29 67 (.agg #[(.int .i64 0), (.int .i64 0), (.int .i64 0)]) 24 rfl Try.underlying29 info67 rfl (by decide) (by omega) (.slice Ao58 t224.length co58) t224 (⟨x221000_14, x221001_14, x221002_14⟩ : S67) [.int .i64 x221000_14, .int .i64 x221001_14, .int .i64 x221002_14] (fun k_ => (P0_0_ k_ ∨ w.heap.size ≤ k_) ∧ some k_ ≠ (.slice Ao4 l0_0.length co4 : Value).ownBlock ∧ k_ ≠ gb220) (fun _ => False) rfl (by first | (go_simp; done) | (go_simp; rfl)) ?aP (fun _ hk => hk.elim) ?aF ?aO ?aB ?aS ?aL ?_; (case aP => exact k67_mkM _ _ _ (⟨x221000_14, x221001_14, x221002_14⟩ : S67)); (case aB => exact (zb HB.out)); (case aF => exact (fun k_ hk => ⟨(.inr (Nat.le_trans (show Kept w _ (fun k_ => P0_0_ k_) from zk HK.out).1 hk)), Kd.fresh' (Kd.R_lt (by (with_reducible repeat (first | apply Kd.R_alloc | apply Kd.R_drewN | apply Kd.R_drew)); exact (Kd.R_mono (Kd.R_far (p := ⟨gb227, 0, none⟩) (Kd.R_types HO_220000.out BK227.out (by decide)) (fun _ hk => hk.2) (.slice Ao58 t224.length co58)) (fun _ h_ => h_.1)))) k_ hk, Kd.freshB (g := gb220) (o := .cells #[.int .i64 x221000_14, .int .i64 x221001_14, .int .i64 x221002_14] 67 (0, 0)) (zf BK220.out) k_ hk⟩)); (case aO => exact (by (with_reducible repeat (first | apply Kd.R_alloc | apply Kd.R_drewN | apply Kd.R_drew)); exact Kd.R_mono (Kd.R_far (p := ⟨gb227, 0, none⟩) (Kd.R_types HO226.out BK227.out (by decide)) (fun _ hk => hk.2) (.slice Ao58 t224.length co58)) (fun _ hk => ⟨hk.1.1.1.1, ⟨hk.1.1.2, hk.1.2⟩⟩))); (case aS => exact (below_size (zb HB.out))); (case aL => have := LMc45.out; omega); intro v229 w64 ho hb hg hat; rw [← Ny228.out] at ho; have n0_ := Aside0.mk (Kd.R_after (ok := (fun k_ => (P0_0_ k_ ∨ w.heap.size ≤ k_) ∧ k_ ≠ gb220)) (by (with_reducible repeat (first | apply Kd.R_alloc | apply Kd.R_drewN | apply Kd.R_drew)); exact Kd.R_mono (Kd.R_far (p := ⟨gb227, 0, none⟩) (Kd.R_types HO_220000.out BK227.out (by decide)) (fun _ hk => hk.2) (.slice Ao58 t224.length co58)) (fun _ hk => ⟨⟨hk.1.1.1, hk.1.1.2⟩, hk.1.2⟩)) hg hat); have n1_ := Aside0.mk (blk_grown (g := gb219) (o := .cells #[.slice Ao4 l0_0.length co4] 31 (0, 0)) (zf BK219.out) hg (Kd.R_ne HO226.out BK219.out (by decide))); have n2_ := Aside0.mk (blk_grown (g := gb220) (o := .cells #[.int .i64 x221000_14, .int .i64 x221001_14, .int .i64 x221002_14] 67 (0, 0)) (zf BK220.out) hg (Kd.R_away HO226.out (fun _ hk => hk.2))); have n3_ := Aside0.mk (blk_grown (g := gb221) (o := .cells #[.slice none 0 0] 31 (0, 0)) (zf BK221.out) hg (Kd.R_ne HO226.out BK221.out (by decide))); have n4_ := Aside0.mk (blk_grown (g := gb227) (o := .cells #[.slice Ao58 t224.length co58] 31 (0, 0)) (by (with_reducible repeat (first | refine blk_drewN ?_ _ | refine blk_drew ?_ | refine blk_alloc ?_ _)); refine blk_put (cs := #[.slice none 0 0]) ?_ 0 _ rfl; (with_reducible repeat (first | refine blk_drewN ?_ _ | refine blk_drew ?_ | refine blk_alloc ?_ _)); exact BK227.out) hg (Kd.R_ne HO226.out BK227.out (by decide))); have n5_ := Aside0.mk (hb); have n6_ := Aside0.mk (Kept.of_grown (S := (fun k_ => P0_0_ k_)) hg (zk HK.out) (fun k_ e_ => (HO226.out.1 k_ e_).1.1.1)); have n7_ := Aside0.mk (ho); clear HO_220000; clear BK219; clear BK220; clear BK221; clear BK227; clear HB; clear HK; clear HO226; have HO_220000 := n0_; have BK219 := n1_; have BK220 := n2_; have BK221 := n3_; have BK227 := n4_; have HB := n5_; have HK := n6_; have HO230 := n7_; clear n0_ n1_ n2_ n3_ n4_ n5_ n6_ n7_; clear ho hb hg hat; obtain ⟨Ao65, co65, eo65⟩ := Kd.R_slice HO230.out; subst eo65; have hcz66_0 : w64.cell? ⟨gb227, 0, none⟩ = some (.slice Ao58 t224.length co58) := (blk_cell BK227.out 0).trans rfl; have hfz66_0 := blk_frozen BK227.out 0))
         have n0_ : Aside0 (Kd.R k67 67 (w64.setCell ⟨gb227, 0, none⟩ (.slice Ao65 y228.length co65)) w0.heap.size (fun k_ => (P0_0_ k_ ∨ w.heap.size ≤ k_) ∧ some k_ ≠ (.slice Ao65 y228.length co65 : Value).ownBlock ∧ k_ ≠ gb220) (.slice Ao4 l0_0.length co4) l0_0) := ⟨zr (Kd.R_mono (Kd.R_far (p := ⟨gb227, 0, none⟩) (Kd.R_types HO_220000.out BK227.out (by decide)) (fun _ hk => hk.2) (.slice Ao65 y228.length co65)) (fun _ hk => ⟨hk.1.1.1, ⟨hk.1.2, hk.1.1.2⟩⟩))⟩
         have n1_ : Aside0 (Kd.R k67 67 (w64.setCell ⟨gb227, 0, none⟩ (.slice Ao65 y228.length co65)) w0.heap.size (fun k_ => (P0_0_ k_ ∨ w.heap.size ≤ k_) ∧ some k_ ≠ (.slice Ao4 l0_0.length co4 : Value).ownBlock ∧ k_ ≠ gb220) (.slice Ao65 y228.length co65) y228) := ⟨zr (Kd.R_mono (Kd.R_far (p := ⟨gb227, 0, none⟩) (Kd.R_types HO230.out BK227.out (by decide)) (fun _ hk => hk.2) (.slice Ao65 y228.length co65)) (fun _ hk => ⟨hk.1.1, ⟨hk.1.2.1, hk.1.2.2⟩⟩))⟩
         have n2_ : Aside0 ((w64.setCell ⟨gb227, 0, none⟩ (.slice Ao65 y228.length co65)).heap[gb219]? = some (.cells #[.slice Ao4 l0_0.length co4] 31 (0, 0))) := ⟨zf BK219.out⟩
         have n3_ : Aside0 ((w64.setCell ⟨gb227, 0, none⟩ (.slice Ao65 y228.length co65)).heap[gb220]? = some (.cells #[.int .i64 x221000_14, .int .i64 x221001_14, .int .i64 x221002_14] 67 (0, 0))) := ⟨zf BK220.out⟩
         have n4_ : Aside0 ((w64.setCell ⟨gb227, 0, none⟩ (.slice Ao65 y228.length co65)).heap[gb221]? = some (.cells #[.slice none 0 0] 31 (0, 0))) := ⟨zf BK221.out⟩
         have n5_ : Aside0 ((w64.setCell ⟨gb227, 0, none⟩ (.slice Ao65 y228.length co65)).heap[gb227]? = some (.cells #[.slice Ao65 y228.length co65] 31 (0, 0))) := ⟨by (with_reducible repeat (first | refine blk_drewN ?_ _ | refine blk_drew ?_ | refine blk_alloc ?_ _)); refine blk_put (cs := #[.slice Ao58 t224.length co58]) ?_ 0 _ rfl; (with_reducible repeat (first | refine blk_drewN ?_ _ | refine blk_drew ?_ | refine blk_alloc ?_ _)); exact BK227.out⟩
         have n6_ : Aside0 (Kept w (w64.setCell ⟨gb227, 0, none⟩ (.slice Ao65 y228.length co65)) (fun k_ => P0_0_ k_)) := ⟨zk HK.out⟩
         have n7_ : Aside0 (Below w0.heap.size w0 (w64.setCell ⟨gb227, 0, none⟩ (.slice Ao65 y228.length co65))) := ⟨zb HB.out⟩
         (try clear HO_220000)
         (try clear HO230)
         (try clear BK219)
         (try clear BK220)
         (try clear BK221)
         (try clear BK227)
         (try clear HK)
         (try clear HB)
         generalize (w64.setCell ⟨gb227, 0, none⟩ (.slice Ao65 y228.length co65)) = w67 at n0_ n1_ n2_ n3_ n4_ n5_ n6_ n7_ ⊢
         have HO_220000 := n0_
         have HO230 := n1_
         have BK219 := n2_
         have BK220 := n3_
         have BK221 := n4_
         have BK227 := n5_
         have HK := n6_
         have HB := n7_
         clear n0_ n1_ n2_ n3_ n4_ n5_ n6_ n7_
         have n0_ := Aside0.mk (Kd.R_drew HO_220000.out)
         have n1_ := Aside0.mk (Kd.R_drew HO230.out)
         have n2_ := Aside0.mk (blk_drew BK219.out)
         have n3_ := Aside0.mk (blk_drew BK220.out)
         have n4_ := Aside0.mk (blk_drew BK221.out)
         have n5_ := Aside0.mk (blk_drew BK227.out)
         have n6_ := Aside0.mk (Kept.drew HK.out)
         have n7_ := Aside0.mk (below_drew1 HB.out)
         clear HO_220000
         clear HO230
         clear BK219
         clear BK220
         clear BK221
         clear BK227
         clear HK
         clear HB
         have HO_220000 := n0_
         have HO230 := n1_
         have BK219 := n2_
         have BK220 := n3_
         have BK221 := n4_
         have BK227 := n5_
         have HK := n6_
         have HB := n7_
         clear n0_ n1_ n2_ n3_ n4_ n5_ n6_ n7_
         refine start_ (n := 6) (S := fun w' => w'.cell? ⟨gb227, 0, none⟩ = some (.slice Ao65 y228.length co65) ∧ w'.cell? ⟨gb219, 0, none⟩ = some (.slice Ao4 l0_0.length co4)) (ds := []) #[false, false, false, false, false, false] (by kernel_rfl) rfl rfl ⟨(blk_cell BK227.out 0).trans rfl, (blk_cell BK219.out 0).trans rfl⟩ (fun hHeld => ?_)
         generalize w67.drew = w68 at HO_220000 HO230 BK219 BK220 BK221 BK227 HK HB hHeld ⊢
         refine pure_ (i := 1) (N := some 54) (v := ?_) (a' := ?_) #[false, true, false, false, false, false] rfl rfl (by kernel_rfl) (fun _ _ _ h => h) (Or.inl ⟨by rfl, ?_⟩) ?_ ?_
         rotate_left
         ·intro w'
          go_simp
          with_reducible rfl
         rotate_left
         ·simp only [Act.put, List.setIfInBounds_toArray, List.set_cons_zero, List.set_cons_succ, i64_w, i32_w]
          rfl
         refine take_ (i := 0) (N := some 53) (v := ?_) (a' := ?_) #[true, true, false, false, false, false] rfl rfl (by kernel_rfl) (fun _ _ _ h => h) (Or.inl ⟨by rfl, ?_⟩) hHeld ?_ ?_
         rotate_left
         ·rintro w' ⟨s0, s1⟩
          go_simp
          with_reducible rfl
         rotate_left
         ·simp only [Act.put, List.setIfInBounds_toArray, List.set_cons_zero, List.set_cons_succ, i64_w, i32_w]
          rfl
         refine take_ (i := 2) (N := some 55) (v := ?_) (a' := ?_) #[true, true, true, false, false, false] rfl rfl (by kernel_rfl) (fun _ _ _ h => h) (Or.inl ⟨by rfl, ?_⟩) hHeld ?_ ?_
         rotate_left
         ·rintro w' ⟨s0, s1⟩
          go_simp
          with_reducible rfl
         rotate_left
         ·simp only [Act.put, List.setIfInBounds_toArray, List.set_cons_zero, List.set_cons_succ, i64_w, i32_w]
          rfl
         refine pure_ (i := 3) (N := some 56) (v := ?_) (a' := ?_) #[true, true, true, true, false, false] rfl rfl (by kernel_rfl) (fun _ _ _ h => h) (Or.inl ⟨by rfl, ?_⟩) ?_ ?_
         rotate_left
         ·intro w'
          go_simp
          with_reducible rfl
         rotate_left
         ·simp only [Act.put, List.setIfInBounds_toArray, List.set_cons_zero, List.set_cons_succ, i64_w, i32_w]
          rfl
         refine one_ (i := 4) (N := none) #[true, true, true, true, true, false] rfl rfl (by kernel_rfl) (by decide) (fun K hK => ?_)
         have hs69 : w68.cell? ⟨gb221, 0, none⟩ = some (.slice none 0 0) := (blk_cell BK221.out 0).trans rfl
         have hfs69 := blk_frozen BK221.out 0
         have hns69_0 := NB219_221.out
         have hns69_1 := NB220_221.out
         have hns69_3 := NB227_221.out
         have hms69_0 := NB221_219.out
         have hms69_1 := NB221_220.out
         have hms69_3 := NB221_227.out
         refine skip_ (w1 := ?_) (by rfl) rfl ?_ ?_
         rotate_left
         ·go_simp
          rfl
         refine hK.out _ _ ⟨((cell_far (p := ⟨gb221, _, none⟩) NB227_221.out _).trans (hHeld.1)), ((cell_far (p := ⟨gb221, _, none⟩) NB219_221.out _).trans (hHeld.2))⟩ (fun hHeld => ?_)
         clear hK K
         refine pure_ (i := 5) (N := some 5) (v := ?_) (a' := ?_) #[true, true, true, true, true, true] rfl rfl (by kernel_rfl) (fun _ _ _ h => h) (Or.inl ⟨by rfl, ?_⟩) ?_ ?_
         rotate_left
         ·intro w'
          go_simp
          with_reducible rfl
         rotate_left
         ·simp only [Act.put, List.setIfInBounds_toArray, List.set_cons_zero, List.set_cons_succ, i64_w, i32_w]
          rfl
         refine done_ (by kernel_rfl) ?_
         try go_wp2
         refine bodyPost_ret (results_ct rfl _ _ gb221 31 #[.slice Ao65 y228.length co65] (0, 0) _ rfl (by (with_reducible repeat (first | refine blk_drewN ?_ _ | refine blk_drew ?_ | refine blk_alloc ?_ _)); refine blk_put (cs := #[.slice none 0 0]) ?_ 0 _ rfl; (with_reducible repeat (first | refine blk_drewN ?_ _ | refine blk_drew ?_ | refine blk_alloc ?_ _)); exact BK221.out) Try.underlying31 rfl (by kernel_rfl)) rfl ?_
         exact ⟨_, ze, zr (Kd.R_mono (Kd.R_far (p := ⟨gb221, 0, none⟩) (Kd.R_types HO230.out BK221.out (by decide)) (fun _ hk => hk.2) (.slice Ao65 y228.length co65)) (fun _ hk => hk.1.1)), zb HB.out, zk HK.out⟩
        ·rw [if_neg c45] at H
         exact absurd H (by simp)
      ·replace c31 := Bool.eq_false_iff.mpr c31
       subst c31
       have H1 : (some (l0_0, (-1))) = some (r1, r2) := by rw [if_neg (show ¬ (false = true) by decide)] at H; exact H
       clear H
       have H := H1
       clear H1
       simp only [Option.some.injEq, Prod.mk.injEq] at H
       obtain ⟨rfl, rfl⟩ := H
       have hnb70 := NB219_220.out
       have hnc70 := NB220_219.out
       have hnb71 := NB219_221.out
       have hnc71 := NB221_219.out
       have hcz72_0 : wc.cell? ⟨gb219, 0, none⟩ = some (.slice Ao4 l0_0.length co4) := (blk_cell BK219.out 0).trans rfl
       have hfz72_0 := blk_frozen BK219.out 0
       have hnb73 := NB220_221.out
       have hnc73 := NB221_220.out
       have hcz74_0 : wc.cell? ⟨gb220, 0, none⟩ = some (.int .i64 x221000_14) := (blk_cell BK220.out 0).trans rfl
       have hcz74_1 : wc.cell? ⟨gb220, 1, none⟩ = some (.int .i64 x221001_14) := (blk_cell BK220.out 1).trans rfl
       have hcz74_2 : wc.cell? ⟨gb220, 2, none⟩ = some (.int .i64 x221002_14) := (blk_cell BK220.out 2).trans rfl
       have hfz74_0 := blk_frozen BK220.out 0
       have hfz74_1 := blk_frozen BK220.out 1
       have hfz74_2 := blk_frozen BK220.out 2
       go_wp2_with (first | ((with_reducible refine gate_callee (f := 65) rfl ?_); refine goesL_ (some 27) rfl rfl Try.func65 (by kernel_rfl) rfl #[.agg #[.slice Ao4 l0_0.length co4], .agg #[.int .i64 x221000_14, .int .i64 x221001_14, .int .i64 x221002_14]] rfl zl ?_; (with_reducible refine (spec_l1Find.calls kj14 _ _ l0_0 x221000_14 x221001_14 x221002_14 t222 _ ?side1 ?side2 A20.out).mono ?_); (case side1 => exact zc (Kd.R_reads' HO_220000.out).2.2); (case side2 => exact (Kd.R_reads' HO_220000.out).2.1); rintro e w75 ⟨rfl, hb⟩; refine ⟨_, rfl, ?_⟩; have n0_ := Aside0.mk (Kd.R_below (zr HO_220000.out) hb); have n1_ := Aside0.mk (blk_below (zh BK219.out) hb); have n2_ := Aside0.mk (blk_below (zh BK220.out) hb); have n3_ := Aside0.mk (blk_below (zh BK221.out) hb); have n4_ := Aside0.mk (Kept.below (S := (fun k_ => P0_0_ k_)) (zk HK.out) hb); have n5_ := Aside0.mk (below_step (zb HB.out) hb); clear HO_220000; clear BK219; clear BK220; clear BK221; clear HK; clear HB; have HO_220000 := n0_; have BK219 := n1_; have BK220 := n2_; have BK221 := n3_; have HK := n4_; have HB := n5_; clear n0_ n1_ n2_ n3_ n4_ n5_; (try clear hb); (try clear hb2); (try clear hk); (try clear hi); have hcz76_0 : w75.cell? ⟨gb220, 0, none⟩ = some (.int .i64 x221000_14) := (blk_cell BK220.out 0).trans rfl; have hcz76_1 : w75.cell? ⟨gb220, 1, none⟩ = some (.int .i64 x221001_14) := (blk_cell BK220.out 1).trans rfl; have hcz76_2 : w75.cell? ⟨gb220, 2, none⟩ = some (.int .i64 x221002_14) := (blk_cell BK220.out 2).trans rfl; have hfz76_0 := blk_frozen BK220.out 0; have hfz76_1 := blk_frozen BK220.out 1; have hfz76_2 := blk_frozen BK220.out 2; have hcz77_0 : w75.cell? ⟨gb219, 0, none⟩ = some (.slice Ao4 l0_0.length co4) := (blk_cell BK219.out 0).trans rfl; have hfz77_0 := blk_frozen BK219.out 0) | ((with_reducible refine gate_callee (f := 64) rfl ?_); refine goesL_ (some 36) rfl rfl Try.func64 (by kernel_rfl) rfl #[.agg #[.int .i64 x221000_14, .int .i64 x221001_14, .int .i64 x221002_14], .int .i64 (l0_0.length : Int)] rfl zl ?_; (with_reducible refine (spec_l1Right.calls kj14 x221000_14 x221001_14 x221002_14 (l0_0.length : Int) false _ A30.out).mono ?_); rintro e w78 ⟨rfl, hb⟩; refine ⟨_, rfl, ?_⟩; have n0_ := Aside0.mk (Kd.R_below (zr HO_220000.out) hb); have n1_ := Aside0.mk (blk_below (zh BK219.out) hb); have n2_ := Aside0.mk (blk_below (zh BK220.out) hb); have n3_ := Aside0.mk (blk_below (zh BK221.out) hb); have n4_ := Aside0.mk (Kept.below (S := (fun k_ => P0_0_ k_)) (zk HK.out) hb); have n5_ := Aside0.mk (below_step (zb HB.out) hb); clear HO_220000; clear BK219; clear BK220; clear BK221; clear HK; clear HB; have HO_220000 := n0_; have BK219 := n1_; have BK220 := n2_; have BK221 := n3_; have HK := n4_; have HB := n5_; clear n0_ n1_ n2_ n3_ n4_ n5_; (try clear hb); (try clear hb2); (try clear hk); (try clear hi); have hcz79_0 : w78.cell? ⟨gb219, 0, none⟩ = some (.slice Ao4 l0_0.length co4) := (blk_cell BK219.out 0).trans rfl; have hfz79_0 := blk_frozen BK219.out 0; have hcz80_0 : w78.cell? ⟨gb221, 0, none⟩ = some (.slice none 0 0) := (blk_cell BK221.out 0).trans rfl; have hfz80_0 := blk_frozen BK221.out 0))
       refine bodyPost_ret (results_ct rfl _ _ gb221 31 #[.slice Ao4 l0_0.length co4] (0, 0) _ rfl (by (with_reducible repeat (first | refine blk_drewN ?_ _ | refine blk_drew ?_ | refine blk_alloc ?_ _)); refine blk_put (cs := #[.slice none 0 0]) ?_ 0 _ rfl; (with_reducible repeat (first | refine blk_drewN ?_ _ | refine blk_drew ?_ | refine blk_alloc ?_ _)); exact BK221.out) Try.underlying31 rfl (by kernel_rfl)) rfl ?_
       exact ⟨_, ze, zr (Kd.R_mono (Kd.R_far (p := ⟨gb221, 0, none⟩) (Kd.R_types HO_220000.out BK221.out (by decide)) (fun _ hk => hk.2) (.slice Ao4 l0_0.length co4)) (fun _ hk => hk.1.1)), zb HB.out, zk HK.out⟩

/-! ### spec_l1Byte: function 97 -/
def spec_l1Byte.f (s0_0 : List Int) (s0_1 : Int) (s0_2 : Int) : Option (Int × Int × Int) := if s0_1 < (s0_0.length : Int) then (if 0 ≤ s0_1 then (some (Go.bits .and .i64 (wrap64 ((Go.bits .and .i64 (Go.bits .xor .i64 ((wrap64 ((wrap64 (s0_2 * 6364136223846793005)) + 1442695040888963407)) / 8589934592) ((wrap64 ((wrap64 (s0_2 * 6364136223846793005)) + 1442695040888963407)) / 35184372088832)) 255) + (wrap64 (rd s0_0 s0_1)))) 255, wrap64 (s0_1 + 1), wrap64 ((wrap64 (s0_2 * 6364136223846793005)) + 1442695040888963407))) else (none)) else (some (Go.bits .and .i64 (Go.bits .xor .i64 ((wrap64 ((wrap64 (s0_2 * 6364136223846793005)) + 1442695040888963407)) / 8589934592) ((wrap64 ((wrap64 (s0_2 * 6364136223846793005)) + 1442695040888963407)) / 35184372088832)) 255, s0_1, wrap64 ((wrap64 (s0_2 * 6364136223846793005)) + 1442695040888963407)))
set_option maxHeartbeats 8000000 in
set_option maxRecDepth 100000 in
theorem spec_l1Byte.calls (g : Nat) (s0_0 : List Int) (s0_1 : Int) (s0_2 : Int) (r1 : Int) (r2 : Int) (r3 : Int) (w0 w : World) (hI : IsS92 w0 w g s0_0 s0_1 s0_2) (hB : Below w0.heap.size w0 w) (h : spec_l1Byte.f s0_0 s0_1 s0_2 = some (r1, r2, r3)) :
  Calls Try.prog 97 #[.pointer (some ⟨g, 0, none⟩)] w fun e w' => e = .returned (.int .i64 r1) ∧ IsS92 w0 w' g s0_0 r2 r3 ∧ Below w0.heap.size w0 w' ∧ KeepBut w w' g none := by
 have HI0 := Aside0.mk hI
 have HK := Aside0.mk (KeepBut.refl w g none)
 have HL := Aside0.mk hB.size
 clear hI
 have HW0 := Aside0.mk hB.size
 have HB := Aside0.mk hB
 clear hB
 have H : (if s0_1 < (s0_0.length : Int) then (if 0 ≤ s0_1 then (some (Go.bits .and .i64 (wrap64 ((Go.bits .and .i64 (Go.bits .xor .i64 ((wrap64 ((wrap64 (s0_2 * 6364136223846793005)) + 1442695040888963407)) / 8589934592) ((wrap64 ((wrap64 (s0_2 * 6364136223846793005)) + 1442695040888963407)) / 35184372088832)) 255) + (wrap64 (rd s0_0 s0_1)))) 255, wrap64 (s0_1 + 1), wrap64 ((wrap64 (s0_2 * 6364136223846793005)) + 1442695040888963407))) else (none)) else (some (Go.bits .and .i64 (Go.bits .xor .i64 ((wrap64 ((wrap64 (s0_2 * 6364136223846793005)) + 1442695040888963407)) / 8589934592) ((wrap64 ((wrap64 (s0_2 * 6364136223846793005)) + 1442695040888963407)) / 35184372088832)) 255, s0_1, wrap64 ((wrap64 (s0_2 * 6364136223846793005)) + 1442695040888963407)))) = some (r1, r2, r3) := h
 clear h
 by_cases c2 : s0_1 < (s0_0.length : Int)
 ·rw [if_pos c2] at H
  have c2b0 : decide (s0_1 < (s0_0.length : Int)) = true := decide_eq_true c2
  clear c2
  by_cases c3 : 0 ≤ s0_1
  ·rw [if_pos c3] at H
   have c3b0 : decide (0 ≤ s0_1) = true := decide_eq_true c3
   clear c3
   simp only [Option.some.injEq, Prod.mk.injEq] at H
   obtain ⟨rfl, rfl, rfl⟩ := H
   obtain ⟨ASz4_0, cSz4_0, HGz4, hgz4, HSz4_0⟩ := HI0.out
   have hcz4_0 := cellS92_0 HGz4
   have hcz4_1 := cellS92_1 HGz4
   have hcz4_2 := cellS92_2 HGz4
   have hfz4_1 := blk_frozen HGz4 1
   have hfz4_2 := blk_frozen HGz4 2
   clear HGz4 hgz4
   have p231 : 0 ≤ (s0_1 : Int) := of_decide_eq_true (by first | (with_reducible assumption) | assumption)
   have q231 : s0_1 < (s0_0.length : Int) := of_decide_eq_true (by first | (with_reducible assumption) | assumption)
   obtain ⟨ad231, e231, hx231_0⟩ := Kd.at_int HSz4_0 s0_1 p231 q231
   cases e231
   have hn231_0 : ad231.block ≠ g := Nat.ne_of_lt (Nat.lt_of_lt_of_le (by have := World.block_lt_of_cell? _ _ hx231_0; first | rwa [add_block] at this | exact this) (IsS92.ge HI0.out))
   replace hx231_0 := pw_cell_below HB.out hx231_0
   replace hx231_0 := (cell_far (p := ⟨g, 2, none⟩) (by first | (rw [add_block]; exact hn231_0) | (show (Addr.add _ _).block ≠ _; rw [add_block]; exact hn231_0) | exact hn231_0) (.int .i64 (wrap64 ((wrap64 (s0_2 * 6364136223846793005)) + 1442695040888963407)))).trans hx231_0
   (try have hy231_0 := fun (n_ : Nat) => (show (((w.drewN n_).setCell ⟨g, 2, none⟩ (.int .i64 (wrap64 ((wrap64 (s0_2 * 6364136223846793005)) + 1442695040888963407))))).cell? _ = some _ from hx231_0))
   clear hn231_0
   replace p231 := eq_true p231
   replace q231 := eq_true q231
   go_enter Try.func97, Try.ntmps97
   go_wp2
   repeat (go_quiet (fail); try go_wp2)
   go_ret
   exact ⟨ze, by repeat (first | (with_reducible first | exact HI0.out | apply IsS92.alloc | apply IsS92.drewN | apply IsS92.drew | apply IsS92.set_1 | apply IsS92.set_2) | exact HI0.out), by repeat (first | (with_reducible first | exact HB.out | apply below_alloc | apply pw_below_drewN | apply below_drew1 | refine below_set ?_ (IsS92.ge HI0.out)) | exact HB.out), by repeat (first | (with_reducible first | exact HK.out | apply KeepBut.set_ | apply keep_drewN | apply keep_drew | apply keep_alloc) | exact HK.out)⟩
  ·rw [if_neg c3] at H
   exact absurd H (by simp)
 ·rw [if_neg c2] at H
  have c2b0 : decide (s0_1 < (s0_0.length : Int)) = false := decide_eq_false c2
  clear c2
  simp only [Option.some.injEq, Prod.mk.injEq] at H
  obtain ⟨rfl, rfl, rfl⟩ := H
  obtain ⟨ASz5_0, cSz5_0, HGz5, hgz5, HSz5_0⟩ := HI0.out
  have hcz5_0 := cellS92_0 HGz5
  have hcz5_1 := cellS92_1 HGz5
  have hcz5_2 := cellS92_2 HGz5
  have hfz5_1 := blk_frozen HGz5 1
  have hfz5_2 := blk_frozen HGz5 2
  clear HGz5 hgz5
  go_enter Try.func97, Try.ntmps97
  go_wp2
  repeat (go_quiet (fail); try go_wp2)
  go_ret
  exact ⟨ze, by repeat (first | (with_reducible first | exact HI0.out | apply IsS92.alloc | apply IsS92.drewN | apply IsS92.drew | apply IsS92.set_1 | apply IsS92.set_2) | exact HI0.out), by repeat (first | (with_reducible first | exact HB.out | apply below_alloc | apply pw_below_drewN | apply below_drew1 | refine below_set ?_ (IsS92.ge HI0.out)) | exact HB.out), by repeat (first | (with_reducible first | exact HK.out | apply KeepBut.set_ | apply keep_drewN | apply keep_drew | apply keep_alloc) | exact HK.out)⟩

end Go.Proofs.Ytilnfdnigjblcaa.N
end
