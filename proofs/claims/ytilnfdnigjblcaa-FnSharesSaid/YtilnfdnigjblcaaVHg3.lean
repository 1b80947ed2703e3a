import Derived.Test.YtilnfdnigjblcaaVH0
import Derived.Test.YtilnfdnigjblcaaVHg1
import Derived.Test.YtilnfdnigjblcaaVHg2
section
-- Written by this session's program (wip/tools/gprint.py over the kit's print) out of the translation; Lean checks it.
namespace Go.Proofs.Ytilnfdnigjblcaa.H
open Go.RowKit Go.Proofs.YtilnfdnigjblcaaW.PrintWords Go.Proofs.YtilnfdnigjblcaaW.PrintLast Go.Proofs.YtilnfdnigjblcaaW.PrintMore
attribute [local go_sem] max2_int min2_int max_two min_two max_three min_three max_four min_four   -- for this text's walks alone
set_option linter.unusedVariables false
set_option linter.unusedSimpArgs false
set_option maxRecDepth 100000


/-! ### spec_l1Add: function 71 -/
mutual
def spec_l1Add.j0 : Nat → Bool → List (S67) → Int → Int → Int → Option ((List (S67)) × Int)
 | 0, _, _, _, _, _ => none
 | k + 1, x17, x175000, x176000, x176001, x176002 => if x17 = true then (spec_l1Add.j1 k x175000 x176000 x176002 x176001) else (spec_l1Add.j1 k x175000 x176000 x176001 x176002)
def spec_l1Add.j1 : Nat → List (S67) → Int → Int → Int → Option ((List (S67)) × Int)
 | 0, _, _, _, _ => none
 | k + 1, x175000, x176000, x176001, x176002 => (spec_l1Find.f k x175000 x176000 x176001 x176002).bind fun t177 => (if t177 ≥ 0 then (some (x175000, t177)) else ((spec_l1Right.f k x176000 x176001 x176002 (x175000.length : Int)).bind fun t178 => (if t178 = true then (if (x175000.length : Int) = 500 then (some (x175000, (-1))) else ((spec_l1Copy.f x175000).bind fun t179 => (if t179.length < 5864062014805 then (some ((t179 ++ [(⟨x176000, x176001, x176002⟩ : S67)]), (x175000.length : Int))) else (none)))) else (some (x175000, (-1))))))
end
def spec_l1Add.f (k : Nat) (l0_0 : List (S67)) (a1_0 : Int) (a1_1 : Int) (a1_2 : Int) : Option ((List (S67)) × Int) := if a1_0 = 8 then (spec_l1Add.j0 k (decide (a1_1 > a1_2)) l0_0 a1_0 a1_1 a1_2) else (spec_l1Add.j0 k false l0_0 a1_0 a1_1 a1_2)
theorem spec_l1Add.mono_l : ∀ k, (∀ y0 y1 y2 y3 y4, LeO (spec_l1Add.j0 k y0 y1 y2 y3 y4) (spec_l1Add.j0 (k + 1) y0 y1 y2 y3 y4)) ∧ (∀ y0 y1 y2 y3, LeO (spec_l1Add.j1 k y0 y1 y2 y3) (spec_l1Add.j1 (k + 1) y0 y1 y2 y3))
 | 0 => ⟨fun _ _ _ _ _ r h => by simp [spec_l1Add.j0] at h, fun _ _ _ _ r h => by simp [spec_l1Add.j1] at h⟩
 | k + 1 => by
  obtain ⟨ih0, ih1⟩ := spec_l1Add.mono_l k
  refine ⟨?_, ?_⟩
  ·intro y0 y1 y2 y3 y4
   unfold spec_l1Add.j0
   repeat' first
   | (with_reducible exact ih0 _ _ _ _ _)
   | (with_reducible exact ih1 _ _ _ _)
   | (with_reducible exact spec_l1Find.mono _ _ _ _ _)
   | (with_reducible exact spec_l1Right.mono _ _ _ _ _)
   | (with_reducible exact LeO.refl _)
   | (with_reducible exact LeO.none _)
   | (with_reducible refine LeO.ite ?_ ?_)
   | (with_reducible refine LeO.bind ?_ (fun _ => ?_))
   | exact ih0 _ _ _ _ _
   | exact ih1 _ _ _ _
   | exact spec_l1Find.mono _ _ _ _ _
   | exact spec_l1Right.mono _ _ _ _ _
   | exact LeO.none _
   | refine LeO.ite ?_ ?_
   | refine LeO.bind ?_ (fun _ => ?_)
  ·intro y0 y1 y2 y3
   unfold spec_l1Add.j1
   repeat' first
   | (with_reducible exact ih0 _ _ _ _ _)
   | (with_reducible exact ih1 _ _ _ _)
   | (with_reducible exact spec_l1Find.mono _ _ _ _ _)
   | (with_reducible exact spec_l1Right.mono _ _ _ _ _)
   | (with_reducible exact LeO.refl _)
   | (with_reducible exact LeO.none _)
   | (with_reducible refine LeO.ite ?_ ?_)
   | (with_reducible refine LeO.bind ?_ (fun _ => ?_))
   | exact ih0 _ _ _ _ _
   | exact ih1 _ _ _ _
   | exact spec_l1Find.mono _ _ _ _ _
   | exact spec_l1Right.mono _ _ _ _ _
   | exact LeO.none _
   | refine LeO.ite ?_ ?_
   | refine LeO.bind ?_ (fun _ => ?_)
theorem spec_l1Add.mono : ∀ a0 a1 a2 a3 k, LeO (spec_l1Add.f k a0 a1 a2 a3) (spec_l1Add.f (k + 1) a0 a1 a2 a3) := by
 intro a0 a1 a2 a3 k
 obtain ⟨ih0, ih1⟩ := spec_l1Add.mono_l k
 unfold spec_l1Add.f
 repeat' first
   | (with_reducible exact ih0 _ _ _ _ _)
   | (with_reducible exact ih1 _ _ _ _)
   | (with_reducible exact spec_l1Find.mono _ _ _ _ _)
   | (with_reducible exact spec_l1Right.mono _ _ _ _ _)
   | (with_reducible exact LeO.refl _)
   | (with_reducible exact LeO.none _)
   | (with_reducible refine LeO.ite ?_ ?_)
   | (with_reducible refine LeO.bind ?_ (fun _ => ?_))
   | exact ih0 _ _ _ _ _
   | exact ih1 _ _ _ _
   | exact spec_l1Find.mono _ _ _ _ _
   | exact spec_l1Right.mono _ _ _ _ _
   | exact LeO.none _
   | refine LeO.ite ?_ ?_
   | refine LeO.bind ?_ (fun _ => ?_)
set_option maxHeartbeats 8000000 in
set_option maxRecDepth 100000 in
theorem spec_l1Add.calls2 (k : Nat) (P0_0_ : Nat → Prop) (u9000_ : Value) (l0_0 : List (S67)) (a1_0 : Int) (a1_1 : Int) (a1_2 : Int) (r1 : List (S67)) (r2 : Int) (w0 w : World) (hB : Below w0.heap.size w0 w) (ho0_0 : Kd.R k67 67 w w0.heap.size P0_0_ u9000_ l0_0) (h : spec_l1Add.f k l0_0 a1_0 a1_1 a1_2 = some (r1, r2)) :
  Calls Try.prog 71 #[.agg #[u9000_], .agg #[.int .i64 a1_0, .int .i64 a1_1, .int .i64 a1_2]] w fun e w' => ∃ v0_ : Value, e = .returned (.tuple #[.agg #[v0_], .int .i64 r2]) ∧ Kd.R k67 67 w' w0.heap.size (fun k_ => (P0_0_ k_ ∨ w.heap.size ≤ k_)) v0_ r1 ∧ Below w0.heap.size w0 w' ∧ Kept w w' (fun k_ => P0_0_ k_) ∧ Kd.R k67 67 w' w0.heap.size (fun k_ => (P0_0_ k_ ∨ w.heap.size ≤ k_)) u9000_ l0_0 := by
 have hu31 := Try.underlying31
 have hu67 := Try.underlying67
 have HO0_0 := Aside0.mk (show Kd.R k67 67 w w0.heap.size (fun k_ => (P0_0_ k_ ∨ w.heap.size ≤ k_)) u9000_ l0_0 from Kd.R_mono ho0_0 (fun k_ hk => (.inl hk)))
 have HK := Aside0.mk (Kept.refl w (fun k_ => P0_0_ k_))
 have HW0 := Aside0.mk hB.size
 have HB := Aside0.mk hB
 clear hB
 have H : (if a1_0 = 8 then (spec_l1Add.j0 k (decide (a1_1 > a1_2)) l0_0 a1_0 a1_1 a1_2) else (spec_l1Add.j0 k false l0_0 a1_0 a1_1 a1_2)) = some (r1, r2) := h
 clear h
 have HC3 := Aside0.mk H
 clear H
 obtain ⟨Ao4, co4, eo4⟩ := Kd.R_slice HO0_0.out
 subst eo4
 go_enter Try.func71, Try.ntmps71
 go_upto_region 1 with (first | ((with_reducible refine gate_dst (N := 2) rfl ?_); (try (refine gate_guard (by rfl) ?_; dsimp only)); refine box_event ?hg (N := 2) ?hd (cs := #[.slice Ao4 l0_0.length co4]) (t := 31) ?hr ?_; (case hd => rfl); (case hg => rfl); (case hr => first | (go_simp; done) | (go_simp; rfl)); intro gb174 hg w5 hbox hb; have n0_ := Aside0.mk (Kd.R_below (zr HO0_0.out) hb); have n1_ := Aside0.mk (Kept.below (S := (fun k_ => P0_0_ k_)) (zk HK.out) hb); have n2_ := Aside0.mk (below_step (zb HB.out) hb); have n3_ := Aside0.mk (hbox); have n4_ := Aside0.mk ((by rw [hg]; exact (by first | exact HK.out.1 | exact (show Kept w _ (fun k_ => P0_0_ k_) from zk HK.out).1) : w.heap.size ≤ gb174)); have n5_ := Aside0.mk ((by rw [hg]; exact (below_size (zb HB.out)) : w0.heap.size ≤ gb174)); clear HO0_0; clear HK; clear HB; have HO0_0 := n0_; have HK := n1_; have HB := n2_; have BK174 := n3_; have GW174 := n4_; have GE174 := n5_; clear n0_ n1_ n2_ n3_ n4_ n5_; clear hb hbox hg) | ((with_reducible refine gate_dst (N := 3) rfl ?_); (try (refine gate_guard (by rfl) ?_; dsimp only)); refine box_event ?hg (N := 3) ?hd (cs := #[.int .i64 a1_0, .int .i64 a1_1, .int .i64 a1_2]) (t := 67) ?hr ?_; (case hd => rfl); (case hg => rfl); (case hr => first | (go_simp; done) | (go_simp; rfl)); intro gb175 hg w6 hbox hb; have n0_ := Aside0.mk (Kd.R_below (Kd.R_elderB (zr HO0_0.out) gb175 (Nat.le_of_eq hg.symm)) hb); have n1_ := Aside0.mk (blk_below (zh BK174.out) hb); have n2_ := Aside0.mk (Kept.below (S := (fun k_ => P0_0_ k_)) (zk HK.out) hb); have n3_ := Aside0.mk (below_step (zb HB.out) hb); have n4_ := Aside0.mk (hbox); have n5_ := Aside0.mk ((by rw [hg]; exact (by first | exact HK.out.1 | exact (show Kept w _ (fun k_ => P0_0_ k_) from zk HK.out).1) : w.heap.size ≤ gb175)); have n6_ := Aside0.mk ((by rw [hg]; exact (below_size (zb HB.out)) : w0.heap.size ≤ gb175)); have n7_ := Aside0.mk ((by rw [hg]; exact Nat.ne_of_lt (blk_lt (zh BK174.out)) : gb174 ≠ gb175)); have n8_ := Aside0.mk ((by rw [hg]; exact Nat.ne_of_gt (blk_lt (zh BK174.out)) : gb175 ≠ gb174)); clear HO0_0; clear BK174; clear HK; clear HB; have HO0_0 := n0_; have BK174 := n1_; have HK := n2_; have HB := n3_; have BK175 := n4_; have GW175 := n5_; have GE175 := n6_; have NB174_175 := n7_; have NB175_174 := n8_; clear n0_ n1_ n2_ n3_ n4_ n5_ n6_ n7_ n8_; clear hb hbox hg) | ((with_reducible refine gate_dst (N := 4) rfl ?_); (try (refine gate_guard (by rfl) ?_; dsimp only)); refine box_event ?hg (N := 4) ?hd (cs := #[.slice none 0 0]) (t := 31) ?hr ?_; (case hd => rfl); (case hg => rfl); (case hr => first | (go_simp; done) | (go_simp; rfl)); intro gb176 hg w7 hbox hb; have n0_ := Aside0.mk (Kd.R_below (zr HO0_0.out) hb); have n1_ := Aside0.mk (blk_below (zh BK174.out) hb); have n2_ := Aside0.mk (blk_below (zh BK175.out) hb); have n3_ := Aside0.mk (Kept.below (S := (fun k_ => P0_0_ k_)) (zk HK.out) hb); have n4_ := Aside0.mk (below_step (zb HB.out) hb); have n5_ := Aside0.mk (hbox); have n6_ := Aside0.mk ((by rw [hg]; exact (by first | exact HK.out.1 | exact (show Kept w _ (fun k_ => P0_0_ k_) from zk HK.out).1) : w.heap.size ≤ gb176)); have n7_ := Aside0.mk ((by rw [hg]; exact (below_size (zb HB.out)) : w0.heap.size ≤ gb176)); have n8_ := Aside0.mk ((by rw [hg]; exact Nat.ne_of_lt (blk_lt (zh BK174.out)) : gb174 ≠ gb176)); have n9_ := Aside0.mk ((by rw [hg]; exact Nat.ne_of_gt (blk_lt (zh BK174.out)) : gb176 ≠ gb174)); have n10_ := Aside0.mk ((by rw [hg]; exact Nat.ne_of_lt (blk_lt (zh BK175.out)) : gb175 ≠ gb176)); have n11_ := Aside0.mk ((by rw [hg]; exact Nat.ne_of_gt (blk_lt (zh BK175.out)) : gb176 ≠ gb175)); clear HO0_0; clear BK174; clear BK175; clear HK; clear HB; have HO0_0 := n0_; have BK174 := n1_; have BK175 := n2_; have HK := n3_; have HB := n4_; have BK176 := n5_; have GW176 := n6_; have GE176 := n7_; have NB174_176 := n8_; have NB176_174 := n9_; have NB175_176 := n10_; have NB176_175 := n11_; clear n0_ n1_ n2_ n3_ n4_ n5_ n6_ n7_ n8_ n9_ n10_ n11_; clear hb hbox hg))
 (try simp only [Act.put, List.setIfInBounds_toArray, List.set_cons_zero, List.set_cons_succ])
 go_cut [17] (fun v17 wc => ∃ (kq : Nat) (x17_2 : Bool), v17 = .bool x17_2 ∧ Aside0 (spec_l1Add.j0 kq x17_2 l0_0 a1_0 a1_1 a1_2 = some (r1, r2)) ∧ Aside0 (kq ≤ k) ∧ Aside0 (Kd.R k67 67 wc w0.heap.size (fun k_ => (P0_0_ k_ ∨ w.heap.size ≤ k_) ∧ k_ ≠ gb175) (.slice Ao4 l0_0.length co4) l0_0) ∧ Aside0 (wc.heap[gb174]? = some (.cells #[(.slice Ao4 l0_0.length co4)] 31 (0, 0))) ∧ Aside0 (wc.heap[gb175]? = some (.cells #[.int .i64 a1_0, .int .i64 a1_1, .int .i64 a1_2] 67 (0, 0))) ∧ Aside0 (wc.heap[gb176]? = some (.cells #[(.slice none 0 0)] 31 (0, 0))) ∧ Aside0 (Kept w wc (fun k_ => P0_0_ k_)) ∧ Aside0 (Below w0.heap.size w0 wc))
 case first =>
  have H := HC3.out
  clear HC3
  by_cases c8 : a1_0 = 8
  ·rw [if_pos c8] at H
   have c8b0 : (a1_0 == 8) = true := beq_iff_eq.mpr c8
   have c8b1 : (a1_0 != 8) = false := bne_eq_false_iff_eq.mpr c8
   clear c8
   (first | rw [c8b0] | (simp only [i64_w, i32_w]; rw [c8b0]) | skip)
   have H' := Aside0.mk H
   clear H
   have hnb9 := NB175_174.out
   have hnc9 := NB174_175.out
   have hnb10 := NB175_176.out
   have hnc10 := NB176_175.out
   have hcz11_0 : w7.cell? ⟨gb175, 0, none⟩ = some (.int .i64 a1_0) := (blk_cell BK175.out 0).trans rfl
   have hcz11_1 : w7.cell? ⟨gb175, 1, none⟩ = some (.int .i64 a1_1) := (blk_cell BK175.out 1).trans rfl
   have hcz11_2 : w7.cell? ⟨gb175, 2, none⟩ = some (.int .i64 a1_2) := (blk_cell BK175.out 2).trans rfl
   have hfz11_0 := blk_frozen BK175.out 0
   have hfz11_1 := blk_frozen BK175.out 1
   have hfz11_2 := blk_frozen BK175.out 2
   go_wp2
   go_meet
   case rel => exact ⟨_, (decide (a1_1 > a1_2)), (by first | rfl | (simp; done) | (simp [*]; done)), H', ⟨by first | omega | exact Nat.le_refl _⟩, ⟨zr HO0_0.out⟩, ⟨zh BK174.out⟩, ⟨zh BK175.out⟩, ⟨zh BK176.out⟩, ⟨zk HK.out⟩, ⟨zb HB.out⟩⟩
  ·rw [if_neg c8] at H
   have c8b0 : (a1_0 == 8) = false := beq_eq_false_iff_ne.mpr c8
   have c8b1 : (a1_0 != 8) = true := bne_iff_ne.mpr c8
   (first | rw [c8b0] | (simp only [i64_w, i32_w]; rw [c8b0]) | skip)
   have H' := Aside0.mk H
   clear H
   have hnb12 := NB175_174.out
   have hnc12 := NB174_175.out
   have hnb13 := NB175_176.out
   have hnc13 := NB176_175.out
   have hcz14_0 : w7.cell? ⟨gb175, 0, none⟩ = some (.int .i64 a1_0) := (blk_cell BK175.out 0).trans rfl
   have hcz14_1 : w7.cell? ⟨gb175, 1, none⟩ = some (.int .i64 a1_1) := (blk_cell BK175.out 1).trans rfl
   have hcz14_2 : w7.cell? ⟨gb175, 2, none⟩ = some (.int .i64 a1_2) := (blk_cell BK175.out 2).trans rfl
   have hfz14_0 := blk_frozen BK175.out 0
   have hfz14_1 := blk_frozen BK175.out 1
   have hfz14_2 := blk_frozen BK175.out 2
   go_wp2
   go_meet
   case rel => exact ⟨_, (false), (by first | rfl | (simp; done) | (simp [*]; done)), H', ⟨by first | omega | exact Nat.le_refl _⟩, ⟨zr HO0_0.out⟩, ⟨zh BK174.out⟩, ⟨zh BK175.out⟩, ⟨zh BK176.out⟩, ⟨zk HK.out⟩, ⟨zb HB.out⟩⟩
 case rest =>
  clear HC3
  try clear c1
  try clear p2
  try clear c7
  try clear c8
  try clear c8b0
  try clear c8b1
  try clear c9
  try clear c10
  try clear c12
  try clear c13
  try clear hcz11_0
  try clear hcz11_1
  try clear hcz11_2
  try clear hcz14_0
  try clear hcz14_1
  try clear hcz14_2
  try clear hfz11_0
  try clear hfz11_1
  try clear hfz11_2
  try clear hfz14_0
  try clear hfz14_1
  try clear hfz14_2
  obtain ⟨kq, x17_2, rfl, HA, HJ2, HO_175000, BK174, BK175, BK176, HK, HB⟩ := hcut
  cases kq with
  | zero => exact absurd HA.out (by simp [spec_l1Add.j0])
  | succ kj2 =>
   have H := HA.out
   clear HA
   simp only [spec_l1Add.j0] at H
   have HC15 := Aside0.mk H
   clear H
   go_upto_if 17 with (fail)
   go_cut [] (fun wc => ∃ (kq : Nat) (x176000_14 : Int) (x176001_14 : Int) (x176002_14 : Int), Aside0 (spec_l1Add.j1 kq l0_0 x176000_14 x176001_14 x176002_14 = some (r1, r2)) ∧ Aside0 (kq ≤ kj2) ∧ Aside0 (Kd.R k67 67 wc w0.heap.size (fun k_ => (P0_0_ k_ ∨ w.heap.size ≤ k_) ∧ k_ ≠ gb175) (.slice Ao4 l0_0.length co4) l0_0) ∧ Aside0 (wc.heap[gb174]? = some (.cells #[(.slice Ao4 l0_0.length co4)] 31 (0, 0))) ∧ Aside0 (wc.heap[gb175]? = some (.cells #[.int .i64 x176000_14, .int .i64 x176001_14, .int .i64 x176002_14] 67 (0, 0))) ∧ Aside0 (wc.heap[gb176]? = some (.cells #[(.slice none 0 0)] 31 (0, 0))) ∧ Aside0 (Kept w wc (fun k_ => P0_0_ k_)) ∧ Aside0 (Below w0.heap.size w0 wc))
   case first =>
    have H := HC15.out
    clear HC15
    by_cases c16 : x17_2 = true
    ·subst c16
     have H1 : (spec_l1Add.j1 kj2 l0_0 a1_0 a1_2 a1_1) = some (r1, r2) := by rw [if_pos rfl] at H; exact H
     clear H
     have H := H1
     clear H1
     have H' := Aside0.mk H
     clear H
     have hnb17 := NB175_174.out
     have hnc17 := NB174_175.out
     have hnb18 := NB175_176.out
     have hnc18 := NB176_175.out
     have hcz19_0 : wc.cell? ⟨gb175, 0, none⟩ = some (.int .i64 a1_0) := (blk_cell BK175.out 0).trans rfl
     have hcz19_1 : wc.cell? ⟨gb175, 1, none⟩ = some (.int .i64 a1_1) := (blk_cell BK175.out 1).trans rfl
     have hcz19_2 : wc.cell? ⟨gb175, 2, none⟩ = some (.int .i64 a1_2) := (blk_cell BK175.out 2).trans rfl
     have hfz19_0 := blk_frozen BK175.out 0
     have hfz19_1 := blk_frozen BK175.out 1
     have hfz19_2 := blk_frozen BK175.out 2
     go_wp2
     go_meet
     case rel => exact ⟨_, (a1_0), (a1_2), (a1_1), H', ⟨by have := HJ2.out; first | omega | exact Nat.le_refl _⟩, ⟨zr (Kd.R_mono (Kd.R_far (p := ⟨gb175, 2, none⟩) (Kd.R_far (p := ⟨gb175, 1, none⟩) (Kd.R_far (p := ⟨gb175, 0, none⟩) (Kd.R_mono HO_175000.out (fun k_ hk => (⟨hk, hk.2⟩ : _ ∧ k_ ≠ gb175))) (fun _ hk => hk.2) (.int .i64 a1_0)) (fun _ hk => hk.2) (.int .i64 a1_2)) (fun _ hk => hk.2) (.int .i64 a1_1)) (fun _ hk => ⟨hk.1.1, hk.1.2⟩))⟩, ⟨zf BK174.out⟩, ⟨by (with_reducible repeat (first | refine blk_drewN ?_ _ | refine blk_drew ?_ | refine blk_alloc ?_ _)); refine blk_put (cs := #[.int .i64 a1_0, .int .i64 a1_2, .int .i64 a1_2]) ?_ 2 _ rfl; (with_reducible repeat (first | refine blk_drewN ?_ _ | refine blk_drew ?_ | refine blk_alloc ?_ _)); refine blk_put (cs := #[.int .i64 a1_0, .int .i64 a1_1, .int .i64 a1_2]) ?_ 1 _ rfl; (with_reducible repeat (first | refine blk_drewN ?_ _ | refine blk_drew ?_ | refine blk_alloc ?_ _)); refine blk_put (cs := #[.int .i64 a1_0, .int .i64 a1_1, .int .i64 a1_2]) ?_ 0 _ rfl; (with_reducible repeat (first | refine blk_drewN ?_ _ | refine blk_drew ?_ | refine blk_alloc ?_ _)); exact BK175.out⟩, ⟨zf BK176.out⟩, ⟨zk HK.out⟩, ⟨zb HB.out⟩⟩
    ·replace c16 := Bool.eq_false_iff.mpr c16
     subst c16
     have H1 : (spec_l1Add.j1 kj2 l0_0 a1_0 a1_1 a1_2) = some (r1, r2) := by rw [if_neg (show ¬ (false = true) by decide)] at H; exact H
     clear H
     have H := H1
     clear H1
     have H' := Aside0.mk H
     clear H
     go_wp2
     go_meet
     case rel => exact ⟨_, (a1_0), (a1_1), (a1_2), H', ⟨by have := HJ2.out; first | omega | exact Nat.le_refl _⟩, ⟨zr HO_175000.out⟩, ⟨zh BK174.out⟩, ⟨zh BK175.out⟩, ⟨zh BK176.out⟩, ⟨zk HK.out⟩, ⟨zb HB.out⟩⟩
   case rest =>
    clear HC15
    try clear c1
    try clear p2
    try clear c7
    try clear c8
    try clear c8b0
    try clear c8b1
    try clear c9
    try clear c10
    try clear c12
    try clear c13
    try clear c16
    try clear c17
    try clear c18
    try clear hcz11_0
    try clear hcz11_1
    try clear hcz11_2
    try clear hcz14_0
    try clear hcz14_1
    try clear hcz14_2
    try clear hcz19_0
    try clear hcz19_1
    try clear hcz19_2
    try clear hfz11_0
    try clear hfz11_1
    try clear hfz11_2
    try clear hfz14_0
    try clear hfz14_1
    try clear hfz14_2
    try clear hfz19_0
    try clear hfz19_1
    try clear hfz19_2
    try clear p2
    obtain ⟨kq, x176000_14, x176001_14, x176002_14, HA, HJ14, HO_175000, BK174, BK175, BK176, HK, HB⟩ := hcut
    cases kq with
    | zero => exact absurd HA.out (by simp [spec_l1Add.j1])
    | succ kj14 =>
     have H := HA.out
     clear HA
     simp only [spec_l1Add.j1] at H
     replace H := Option.bind_eq_some_iff.mp H
     obtain ⟨t177, A200, H⟩ := H
     replace H : (if t177 ≥ 0 then (some (l0_0, t177)) else ((spec_l1Right.f kj14 x176000_14 x176001_14 x176002_14 (l0_0.length : Int)).bind fun t178 => (if t178 = true then (if (l0_0.length : Int) = 500 then (some (l0_0, (-1))) else ((spec_l1Copy.f l0_0).bind fun t179 => (if t179.length < 5864062014805 then (some ((t179 ++ [(⟨x176000_14, x176001_14, x176002_14⟩ : S67)]), (l0_0.length : Int))) else (none)))) else (some (l0_0, (-1)))))) = some (r1, r2) := H
     have A20 := Aside0.mk A200
     clear A200
     by_cases c21 : t177 ≥ 0
     ·rw [if_pos c21] at H
      have c21b0 : decide (0 ≤ t177) = true := decide_eq_true c21
      clear c21
      simp only [Option.some.injEq, Prod.mk.injEq] at H
      obtain ⟨rfl, rfl⟩ := H
      have hnb22 := NB174_175.out
      have hnc22 := NB175_174.out
      have hnb23 := NB174_176.out
      have hnc23 := NB176_174.out
      have hcz24_0 : wc.cell? ⟨gb174, 0, none⟩ = some (.slice Ao4 l0_0.length co4) := (blk_cell BK174.out 0).trans rfl
      have hfz24_0 := blk_frozen BK174.out 0
      have hnb25 := NB175_176.out
      have hnc25 := NB176_175.out
      have hcz26_0 : wc.cell? ⟨gb175, 0, none⟩ = some (.int .i64 x176000_14) := (blk_cell BK175.out 0).trans rfl
      have hcz26_1 : wc.cell? ⟨gb175, 1, none⟩ = some (.int .i64 x176001_14) := (blk_cell BK175.out 1).trans rfl
      have hcz26_2 : wc.cell? ⟨gb175, 2, none⟩ = some (.int .i64 x176002_14) := (blk_cell BK175.out 2).trans rfl
      have hfz26_0 := blk_frozen BK175.out 0
      have hfz26_1 := blk_frozen BK175.out 1
      have hfz26_2 := blk_frozen BK175.out 2
      go_wp2_with (first | ((with_reducible refine gate_callee (f := 65) rfl ?_); refine goesL_ (some 27) rfl rfl Try.func65 (by kernel_rfl) rfl #[.agg #[.slice Ao4 l0_0.length co4], .agg #[.int .i64 x176000_14, .int .i64 x176001_14, .int .i64 x176002_14]] rfl zl ?_; (with_reducible refine (spec_l1Find.calls kj14 _ _ l0_0 x176000_14 x176001_14 x176002_14 t177 _ ?side1 ?side2 A20.out).mono ?_); (case side1 => exact zc (Kd.R_reads' HO_175000.out).2.2); (case side2 => exact (Kd.R_reads' HO_175000.out).2.1); rintro e w27 ⟨rfl, hb⟩; refine ⟨_, rfl, ?_⟩; have n0_ := Aside0.mk (Kd.R_below (zr HO_175000.out) hb); have n1_ := Aside0.mk (blk_below (zh BK174.out) hb); have n2_ := Aside0.mk (blk_below (zh BK175.out) hb); have n3_ := Aside0.mk (blk_below (zh BK176.out) hb); have n4_ := Aside0.mk (Kept.below (S := (fun k_ => P0_0_ k_)) (zk HK.out) hb); have n5_ := Aside0.mk (below_step (zb HB.out) hb); clear HO_175000; clear BK174; clear BK175; clear BK176; clear HK; clear HB; have HO_175000 := n0_; have BK174 := n1_; have BK175 := n2_; have BK176 := n3_; have HK := n4_; have HB := n5_; clear n0_ n1_ n2_ n3_ n4_ n5_; (try clear hb); (try clear hb2); (try clear hk); (try clear hi); have hcz28_0 : w27.cell? ⟨gb174, 0, none⟩ = some (.slice Ao4 l0_0.length co4) := (blk_cell BK174.out 0).trans rfl; have hfz28_0 := blk_frozen BK174.out 0; have hcz29_0 : w27.cell? ⟨gb176, 0, none⟩ = some (.slice none 0 0) := (blk_cell BK176.out 0).trans rfl; have hfz29_0 := blk_frozen BK176.out 0))
      refine bodyPost_ret (results_ct rfl _ _ gb176 31 #[.slice Ao4 l0_0.length co4] (0, 0) _ rfl (by (with_reducible repeat (first | refine blk_drewN ?_ _ | refine blk_drew ?_ | refine blk_alloc ?_ _)); refine blk_put (cs := #[.slice none 0 0]) ?_ 0 _ rfl; (with_reducible repeat (first | refine blk_drewN ?_ _ | refine blk_drew ?_ | refine blk_alloc ?_ _)); exact BK176.out) Try.underlying31 rfl (by kernel_rfl)) rfl ?_
      exact ⟨_, ze, zr (Kd.R_mono (Kd.R_far (p := ⟨gb176, 0, none⟩) (Kd.R_types HO_175000.out BK176.out (by decide)) (fun _ hk => hk.2) (.slice Ao4 l0_0.length co4)) (fun _ hk => hk.1.1)), zb HB.out, zk HK.out, zr (Kd.R_mono (Kd.R_far (p := ⟨gb176, 0, none⟩) (Kd.R_types HO_175000.out BK176.out (by decide)) (fun _ hk => hk.2) (.slice Ao4 l0_0.length co4)) (fun _ hk => by first | exact hk | exact hk.1 | exact hk.1.1 | exact hk.1.1.1 | exact hk.1.1.1.1 | exact hk.1.1.1.1.1))⟩
     ·rw [if_neg c21] at H
      have c21b0 : decide (0 ≤ t177) = false := decide_eq_false c21
      clear c21
      replace H := Option.bind_eq_some_iff.mp H
      obtain ⟨t178, A300, H⟩ := H
      replace H : (if t178 = true then (if (l0_0.length : Int) = 500 then (some (l0_0, (-1))) else ((spec_l1Copy.f l0_0).bind fun t179 => (if t179.length < 5864062014805 then (some ((t179 ++ [(⟨x176000_14, x176001_14, x176002_14⟩ : S67)]), (l0_0.length : Int))) else (none)))) else (some (l0_0, (-1)))) = some (r1, r2) := H
      have A30 := Aside0.mk A300
      clear A300
      by_cases c31 : t178 = true
      ·subst c31
       have H1 : (if (l0_0.length : Int) = 500 then (some (l0_0, (-1))) else ((spec_l1Copy.f l0_0).bind fun t179 => (if t179.length < 5864062014805 then (some ((t179 ++ [(⟨x176000_14, x176001_14, x176002_14⟩ : S67)]), (l0_0.length : Int))) else (none)))) = some (r1, r2) := by rw [if_pos rfl] at H; exact H
       clear H
       have H := H1
       clear H1
       by_cases c32 : (l0_0.length : Int) = 500
       ·rw [if_pos c32] at H
        have c32b0 : ((l0_0.length : Int) == 500) = true := beq_iff_eq.mpr c32
        have c32b1 : ((l0_0.length : Int) != 500) = false := bne_eq_false_iff_eq.mpr c32
        clear c32
        simp only [Option.some.injEq, Prod.mk.injEq] at H
        obtain ⟨rfl, rfl⟩ := H
        have hnb33 := NB174_175.out
        have hnc33 := NB175_174.out
        have hnb34 := NB174_176.out
        have hnc34 := NB176_174.out
        have hcz35_0 : wc.cell? ⟨gb174, 0, none⟩ = some (.slice Ao4 l0_0.length co4) := (blk_cell BK174.out 0).trans rfl
        have hfz35_0 := blk_frozen BK174.out 0
        have hnb36 := NB175_176.out
        have hnc36 := NB176_175.out
        have hcz37_0 : wc.cell? ⟨gb175, 0, none⟩ = some (.int .i64 x176000_14) := (blk_cell BK175.out 0).trans rfl
        have hcz37_1 : wc.cell? ⟨gb175, 1, none⟩ = some (.int .i64 x176001_14) := (blk_cell BK175.out 1).trans rfl
        have hcz37_2 : wc.cell? ⟨gb175, 2, none⟩ = some (.int .i64 x176002_14) := (blk_cell BK175.out 2).trans rfl
        have hfz37_0 := blk_frozen BK175.out 0
        have hfz37_1 := blk_frozen BK175.out 1
        have hfz37_2 := blk_frozen BK175.out 2
        go_wp2_with (first | ((with_reducible refine gate_callee (f := 65) rfl ?_); refine goesL_ (some 27) rfl rfl Try.func65 (by kernel_rfl) rfl #[.agg #[.slice Ao4 l0_0.length co4], .agg #[.int .i64 x176000_14, .int .i64 x176001_14, .int .i64 x176002_14]] rfl zl ?_; (with_reducible refine (spec_l1Find.calls kj14 _ _ l0_0 x176000_14 x176001_14 x176002_14 t177 _ ?side1 ?side2 A20.out).mono ?_); (case side1 => exact zc (Kd.R_reads' HO_175000.out).2.2); (case side2 => exact (Kd.R_reads' HO_175000.out).2.1); rintro e w38 ⟨rfl, hb⟩; refine ⟨_, rfl, ?_⟩; have n0_ := Aside0.mk (Kd.R_below (zr HO_175000.out) hb); have n1_ := Aside0.mk (blk_below (zh BK174.out) hb); have n2_ := Aside0.mk (blk_below (zh BK175.out) hb); have n3_ := Aside0.mk (blk_below (zh BK176.out) hb); have n4_ := Aside0.mk (Kept.below (S := (fun k_ => P0_0_ k_)) (zk HK.out) hb); have n5_ := Aside0.mk (below_step (zb HB.out) hb); clear HO_175000; clear BK174; clear BK175; clear BK176; clear HK; clear HB; have HO_175000 := n0_; have BK174 := n1_; have BK175 := n2_; have BK176 := n3_; have HK := n4_; have HB := n5_; clear n0_ n1_ n2_ n3_ n4_ n5_; (try clear hb); (try clear hb2); (try clear hk); (try clear hi); have hcz39_0 : w38.cell? ⟨gb175, 0, none⟩ = some (.int .i64 x176000_14) := (blk_cell BK175.out 0).trans rfl; have hcz39_1 : w38.cell? ⟨gb175, 1, none⟩ = some (.int .i64 x176001_14) := (blk_cell BK175.out 1).trans rfl; have hcz39_2 : w38.cell? ⟨gb175, 2, none⟩ = some (.int .i64 x176002_14) := (blk_cell BK175.out 2).trans rfl; have hfz39_0 := blk_frozen BK175.out 0; have hfz39_1 := blk_frozen BK175.out 1; have hfz39_2 := blk_frozen BK175.out 2; have hcz40_0 : w38.cell? ⟨gb174, 0, none⟩ = some (.slice Ao4 l0_0.length co4) := (blk_cell BK174.out 0).trans rfl; have hfz40_0 := blk_frozen BK174.out 0) | ((with_reducible refine gate_callee (f := 64) rfl ?_); refine goesL_ (some 36) rfl rfl Try.func64 (by kernel_rfl) rfl #[.agg #[.int .i64 x176000_14, .int .i64 x176001_14, .int .i64 x176002_14], .int .i64 (l0_0.length : Int)] rfl zl ?_; (with_reducible refine (spec_l1Right.calls kj14 x176000_14 x176001_14 x176002_14 (l0_0.length : Int) true _ A30.out).mono ?_); rintro e w41 ⟨rfl, hb⟩; refine ⟨_, rfl, ?_⟩; have n0_ := Aside0.mk (Kd.R_below (zr HO_175000.out) hb); have n1_ := Aside0.mk (blk_below (zh BK174.out) hb); have n2_ := Aside0.mk (blk_below (zh BK175.out) hb); have n3_ := Aside0.mk (blk_below (zh BK176.out) hb); have n4_ := Aside0.mk (Kept.below (S := (fun k_ => P0_0_ k_)) (zk HK.out) hb); have n5_ := Aside0.mk (below_step (zb HB.out) hb); clear HO_175000; clear BK174; clear BK175; clear BK176; clear HK; clear HB; have HO_175000 := n0_; have BK174 := n1_; have BK175 := n2_; have BK176 := n3_; have HK := n4_; have HB := n5_; clear n0_ n1_ n2_ n3_ n4_ n5_; (try clear hb); (try clear hb2); (try clear hk); (try clear hi); have hcz42_0 : w41.cell? ⟨gb174, 0, none⟩ = some (.slice Ao4 l0_0.length co4) := (blk_cell BK174.out 0).trans rfl; have hfz42_0 := blk_frozen BK174.out 0; have hcz43_0 : w41.cell? ⟨gb176, 0, none⟩ = some (.slice none 0 0) := (blk_cell BK176.out 0).trans rfl; have hfz43_0 := blk_frozen BK176.out 0))
        refine bodyPost_ret (results_ct rfl _ _ gb176 31 #[.slice Ao4 l0_0.length co4] (0, 0) _ rfl (by (with_reducible repeat (first | refine blk_drewN ?_ _ | refine blk_drew ?_ | refine blk_alloc ?_ _)); refine blk_put (cs := #[.slice none 0 0]) ?_ 0 _ rfl; (with_reducible repeat (first | refine blk_drewN ?_ _ | refine blk_drew ?_ | refine blk_alloc ?_ _)); exact BK176.out) Try.underlying31 rfl (by kernel_rfl)) rfl ?_
        exact ⟨_, ze, zr (Kd.R_mono (Kd.R_far (p := ⟨gb176, 0, none⟩) (Kd.R_types HO_175000.out BK176.out (by decide)) (fun _ hk => hk.2) (.slice Ao4 l0_0.length co4)) (fun _ hk => hk.1.1)), zb HB.out, zk HK.out, zr (Kd.R_mono (Kd.R_far (p := ⟨gb176, 0, none⟩) (Kd.R_types HO_175000.out BK176.out (by decide)) (fun _ hk => hk.2) (.slice Ao4 l0_0.length co4)) (fun _ hk => by first | exact hk | exact hk.1 | exact hk.1.1 | exact hk.1.1.1 | exact hk.1.1.1.1 | exact hk.1.1.1.1.1))⟩
       ·rw [if_neg c32] at H
        have c32b0 : ((l0_0.length : Int) == 500) = false := beq_eq_false_iff_ne.mpr c32
        have c32b1 : ((l0_0.length : Int) != 500) = true := bne_iff_ne.mpr c32
        replace H := Option.bind_eq_some_iff.mp H
        obtain ⟨t179, A440, H⟩ := H
        replace H : (if t179.length < 5864062014805 then (some ((t179 ++ [(⟨x176000_14, x176001_14, x176002_14⟩ : S67)]), (l0_0.length : Int))) else (none)) = some (r1, r2) := H
        have A44 := Aside0.mk A440
        clear A440
        by_cases c45 : t179.length < 5864062014805
        ·rw [if_pos c45] at H
         have LMc45 := Aside0.mk c45
         clear c45
         obtain ⟨y183, hy183⟩ : ∃ y_ : List (S67), y_ = (t179 ++ [(⟨x176000_14, x176001_14, x176002_14⟩ : S67)]) := ⟨_, rfl⟩
         replace H : (some (y183, (l0_0.length : Int))) = some (r1, r2) := by first | (rw [hy183]; with_reducible exact H) | (have H2_ := (Option.bind_some _ _).symm.trans H; rw [hy183]; with_reducible exact H2_) | (have H2_ := (Option.bind_some _ _).symm.trans H; with_reducible exact H2_) | with_reducible exact H | (rw [hy183]; exact H) | exact H
         have Ny183 := Aside0.mk hy183
         clear hy183
         simp only [Option.some.injEq, Prod.mk.injEq] at H
         obtain ⟨rfl, rfl⟩ := H
         have hnb46 := NB174_175.out
         have hnc46 := NB175_174.out
         have hnb47 := NB174_176.out
         have hnc47 := NB176_174.out
         have hcz48_0 : wc.cell? ⟨gb174, 0, none⟩ = some (.slice Ao4 l0_0.length co4) := (blk_cell BK174.out 0).trans rfl
         have hfz48_0 := blk_frozen BK174.out 0
         have hnb49 := NB175_176.out
         have hnc49 := NB176_175.out
         have hcz50_0 : wc.cell? ⟨gb175, 0, none⟩ = some (.int .i64 x176000_14) := (blk_cell BK175.out 0).trans rfl
         have hcz50_1 : wc.cell? ⟨gb175, 1, none⟩ = some (.int .i64 x176001_14) := (blk_cell BK175.out 1).trans rfl
         have hcz50_2 : wc.cell? ⟨gb175, 2, none⟩ = some (.int .i64 x176002_14) := (blk_cell BK175.out 2).trans rfl
         have hfz50_0 := blk_frozen BK175.out 0
         have hfz50_1 := blk_frozen BK175.out 1
         have hfz50_2 := blk_frozen BK175.out 2
         try go_wp2_with (first | ((with_reducible refine gate_callee (f := 65) rfl ?_); refine goesL_ (some 27) rfl rfl Try.func65 (by kernel_rfl) rfl #[.agg #[.slice Ao4 l0_0.length co4], .agg #[.int .i64 x176000_14, .int .i64 x176001_14, .int .i64 x176002_14]] rfl zl ?_; (with_reducible refine (spec_l1Find.calls kj14 _ _ l0_0 x176000_14 x176001_14 x176002_14 t177 _ ?side1 ?side2 A20.out).mono ?_); (case side1 => exact zc (Kd.R_reads' HO_175000.out).2.2); (case side2 => exact (Kd.R_reads' HO_175000.out).2.1); rintro e w51 ⟨rfl, hb⟩; refine ⟨_, rfl, ?_⟩; have n0_ := Aside0.mk (Kd.R_below (zr HO_175000.out) hb); have n1_ := Aside0.mk (blk_below (zh BK174.out) hb); have n2_ := Aside0.mk (blk_below (zh BK175.out) hb); have n3_ := Aside0.mk (blk_below (zh BK176.out) hb); have n4_ := Aside0.mk (Kept.below (S := (fun k_ => P0_0_ k_)) (zk HK.out) hb); have n5_ := Aside0.mk (below_step (zb HB.out) hb); clear HO_175000; clear BK174; clear BK175; clear BK176; clear HK; clear HB; have HO_175000 := n0_; have BK174 := n1_; have BK175 := n2_; have BK176 := n3_; have HK := n4_; have HB := n5_; clear n0_ n1_ n2_ n3_ n4_ n5_; (try clear hb); (try clear hb2); (try clear hk); (try clear hi); have hcz52_0 : w51.cell? ⟨gb175, 0, none⟩ = some (.int .i64 x176000_14) := (blk_cell BK175.out 0).trans rfl; have hcz52_1 : w51.cell? ⟨gb175, 1, none⟩ = some (.int .i64 x176001_14) := (blk_cell BK175.out 1).trans rfl; have hcz52_2 : w51.cell? ⟨gb175, 2, none⟩ = some (.int .i64 x176002_14) := (blk_cell BK175.out 2).trans rfl; have hfz52_0 := blk_frozen BK175.out 0; have hfz52_1 := blk_frozen BK175.out 1; have hfz52_2 := blk_frozen BK175.out 2; have hcz53_0 : w51.cell? ⟨gb174, 0, none⟩ = some (.slice Ao4 l0_0.length co4) := (blk_cell BK174.out 0).trans rfl; have hfz53_0 := blk_frozen BK174.out 0) | ((with_reducible refine gate_callee (f := 64) rfl ?_); refine goesL_ (some 36) rfl rfl Try.func64 (by kernel_rfl) rfl #[.agg #[.int .i64 x176000_14, .int .i64 x176001_14, .int .i64 x176002_14], .int .i64 (l0_0.length : Int)] rfl zl ?_; (with_reducible refine (spec_l1Right.calls kj14 x176000_14 x176001_14 x176002_14 (l0_0.length : Int) true _ A30.out).mono ?_); rintro e w54 ⟨rfl, hb⟩; refine ⟨_, rfl, ?_⟩; have n0_ := Aside0.mk (Kd.R_below (zr HO_175000.out) hb); have n1_ := Aside0.mk (blk_below (zh BK174.out) hb); have n2_ := Aside0.mk (blk_below (zh BK175.out) hb); have n3_ := Aside0.mk (blk_below (zh BK176.out) hb); have n4_ := Aside0.mk (Kept.below (S := (fun k_ => P0_0_ k_)) (zk HK.out) hb); have n5_ := Aside0.mk (below_step (zb HB.out) hb); clear HO_175000; clear BK174; clear BK175; clear BK176; clear HK; clear HB; have HO_175000 := n0_; have BK174 := n1_; have BK175 := n2_; have BK176 := n3_; have HK := n4_; have HB := n5_; clear n0_ n1_ n2_ n3_ n4_ n5_; (try clear hb); (try clear hb2); (try clear hk); (try clear hi); have hcz55_0 : w54.cell? ⟨gb174, 0, none⟩ = some (.slice Ao4 l0_0.length co4) := (blk_cell BK174.out 0).trans rfl; have hfz55_0 := blk_frozen BK174.out 0) | ((with_reducible refine gate_callee (f := 72) rfl ?_); refine goesL_ (some 46) rfl rfl Try.func72 (by kernel_rfl) rfl #[.agg #[.slice Ao4 l0_0.length co4]] rfl zl ?_; (with_reducible refine (spec_l1Copy.calls _ _ l0_0 t179 _ ?side1 ?side2 A44.out).mono ?_); (case side1 => exact zc (Kd.R_reads' HO_175000.out).2.2); (case side2 => exact (Kd.R_reads' HO_175000.out).2.1); rintro e w56 ⟨v180, rfl, ho0, hb⟩; refine ⟨_, rfl, ?_⟩; have n0_ := Aside0.mk (Kd.R_elder' (zr HO_175000.out) (Kd.R_base ho0) hb); have n1_ := Aside0.mk (Kd.R_lower (Kd.R_newB (Kd.R_new' (Kd.R_newM (M := fun k_ => (P0_0_ k_ ∨ w.heap.size ≤ k_)) ho0 (by first | exact HK.out.1 | exact (show Kept w _ (fun k_ => P0_0_ k_) from zk HK.out).1) (fun k_ h_ => .inr h_)) (Kd.R_lt (zr HO_175000.out))) (zh BK175.out)) (below_size (zb HB.out))); have n2_ := Aside0.mk (blk_below (zh BK174.out) hb); have n3_ := Aside0.mk (blk_below (zh BK175.out) hb); have n4_ := Aside0.mk (blk_below (zh BK176.out) hb); have n5_ := Aside0.mk (Kept.below (S := (fun k_ => P0_0_ k_)) (zk HK.out) hb); have n6_ := Aside0.mk (below_step (zb HB.out) hb); clear HO_175000; clear BK174; clear BK175; clear BK176; clear HK; clear HB; have HO_175000 := n0_; have HO181 := n1_; have BK174 := n2_; have BK175 := n3_; have BK176 := n4_; have HK := n5_; have HB := n6_; clear n0_ n1_ n2_ n3_ n4_ n5_ n6_; (try clear hb); (try clear hb2); (try clear hk); (try clear hi); (try clear ho0)) | ((with_reducible refine gate_dst (N := 7) rfl ?_); (try (refine gate_guard (by rfl) ?_; dsimp only)); refine box_event ?hg (N := 7) ?hd (cs := #[.slice none 0 0]) (t := 31) ?hr ?_; (case hd => rfl); (case hg => rfl); (case hr => first | (go_simp; done) | (go_simp; rfl)); intro gb182 hg w57 hbox hb; have n0_ := Aside0.mk (Kd.R_below (zr HO_175000.out) hb); have n1_ := Aside0.mk (Kd.R_below (zr HO181.out) hb); have n2_ := Aside0.mk (blk_below (zh BK174.out) hb); have n3_ := Aside0.mk (blk_below (zh BK175.out) hb); have n4_ := Aside0.mk (blk_below (zh BK176.out) hb); have n5_ := Aside0.mk (Kept.below (S := (fun k_ => P0_0_ k_)) (zk HK.out) hb); have n6_ := Aside0.mk (below_step (zb HB.out) hb); have n7_ := Aside0.mk (hbox); have n8_ := Aside0.mk ((by rw [hg]; exact (by first | exact HK.out.1 | exact (show Kept w _ (fun k_ => P0_0_ k_) from zk HK.out).1) : w.heap.size ≤ gb182)); have n9_ := Aside0.mk ((by rw [hg]; exact (below_size (zb HB.out)) : w0.heap.size ≤ gb182)); have n10_ := Aside0.mk ((by rw [hg]; exact Nat.ne_of_lt (blk_lt (zh BK174.out)) : gb174 ≠ gb182)); have n11_ := Aside0.mk ((by rw [hg]; exact Nat.ne_of_gt (blk_lt (zh BK174.out)) : gb182 ≠ gb174)); have n12_ := Aside0.mk ((by rw [hg]; exact Nat.ne_of_lt (blk_lt (zh BK175.out)) : gb175 ≠ gb182)); have n13_ := Aside0.mk ((by rw [hg]; exact Nat.ne_of_gt (blk_lt (zh BK175.out)) : gb182 ≠ gb175)); have n14_ := Aside0.mk ((by rw [hg]; exact Nat.ne_of_lt (blk_lt (zh BK176.out)) : gb176 ≠ gb182)); have n15_ := Aside0.mk ((by rw [hg]; exact Nat.ne_of_gt (blk_lt (zh BK176.out)) : gb182 ≠ gb176)); clear HO_175000; clear HO181; clear BK174; clear BK175; clear BK176; clear HK; clear HB; have HO_175000 := n0_; have HO181 := n1_; have BK174 := n2_; have BK175 := n3_; have BK176 := n4_; have HK := n5_; have HB := n6_; have BK182 := n7_; have GW182 := n8_; have GE182 := n9_; have NB174_182 := n10_; have NB182_174 := n11_; have NB175_182 := n12_; have NB182_175 := n13_; have NB176_182 := n14_; have NB182_176 := n15_; clear n0_ n1_ n2_ n3_ n4_ n5_ n6_ n7_ n8_ n9_ n10_ n11_ n12_ n13_ n14_ n15_; clear hb hbox hg; obtain ⟨Ao58, co58, eo58⟩ := Kd.R_slice HO181.out; subst eo58; have hnb59 := NB182_174.out; have hnc59 := NB174_182.out; have hnb60 := NB182_175.out; have hnc60 := NB175_182.out; have hnb61 := NB182_176.out; have hnc61 := NB176_182.out; have hcz62_0 : w57.cell? ⟨gb182, 0, none⟩ = some (.slice none 0 0) := (blk_cell BK182.out 0).trans rfl; have hfz62_0 := blk_frozen BK182.out 0; have hcz63_0 : w57.cell? ⟨gb175, 0, none⟩ = some (.int .i64 x176000_14) := (blk_cell BK175.out 0).trans rfl; have hcz63_1 : w57.cell? ⟨gb175, 1, none⟩ = some (.int .i64 x176001_14) := (blk_cell BK175.out 1).trans rfl; have hcz63_2 : w57.cell? ⟨gb175, 2, none⟩ = some (.int .i64 x176002_14) := (blk_cell BK175.out 2).trans rfl; have hfz63_0 := blk_frozen BK175.out 0; have hfz63_1 := blk_frozen BK175.out 1; have hfz63_2 := blk_frozen BK175.out 2) | ((with_reducible refine gate_builtin (b := .append) (xs := #[.tmp 48, .tmp 50]) rfl ?_); (try (refine gate_guard (by rfl) ?_; dsimp only)); at_builtin; refine Kd.R_append k67 (w0 := w0) w0.heap.size rfl (.tmp 48) (.tmp 50) 29 67 (.agg #[(.int .i64 0), (.int .i64 0), (.int .i64 0)]) 24 rfl Try.underlying29 info67 rfl (by decide) (by omega) (.slice Ao58 t179.length co58) t179 (⟨x176000_14, x176001_14, x176002_14⟩ : S67) [.int .i64 x176000_14, .int .i64 x176001_14, .int .i64 x176002_14] (fun k_ => (P0_0_ k_ ∨ w.heap.size ≤ k_) ∧ some k_ ≠ (.slice Ao4 l0_0.length co4 : Value).ownBlock ∧ k_ ≠ gb175) (fun _ => False) rfl (by first | (go_simp; done) | (go_simp; rfl)) ?aP (fun _ hk => hk.elim) ?aF ?aO ?aB ?aS ?aL ?_; (case aP => exact k67_mkM _ _ _ (⟨x176000_14, x176001_14, x176002_14⟩ : S67)); (case aB => exact (zb HB.out)); (case aF => exact (fun k_ hk => ⟨(.inr (Nat.le_trans (show Kept w _ (fun k_ => P0_0_ k_) from zk HK.out).1 hk)), Kd.fresh' (Kd.R_lt (by (with_reducible repeat (first | apply Kd.R_alloc | apply Kd.R_drewN | apply Kd.R_drew)); exact (Kd.R_mono (Kd.R_far (p := ⟨gb182, 0, none⟩) (Kd.R_types HO_175000.out BK182.out (by decide)) (fun _ hk => hk.2) (.slice Ao58 t179.length co58)) (fun _ h_ => h_.1)))) k_ hk, Kd.freshB (g := gb175) (o := .cells #[.int .i64 x176000_14, .int .i64 x176001_14, .int .i64 x176002_14] 67 (0, 0)) (zf BK175.out) k_ hk⟩)); (case aO => exact (by (with_reducible repeat (first | apply Kd.R_alloc | apply Kd.R_drewN | apply Kd.R_drew)); exact Kd.R_mono (Kd.R_far (p := ⟨gb182, 0, none⟩) (Kd.R_types HO181.out BK182.out (by decide)) (fun _ hk => hk.2) (.slice Ao58 t179.length co58)) (fun _ hk => ⟨hk.1.1.1.1, ⟨hk.1.1.2, hk.1.2⟩⟩))); (case aS => exact (below_size (zb HB.out))); (case aL => have := LMc45.out; omega); intro v184 w64 ho hb hg hat; rw [← Ny183.out] at ho; have n0_ := Aside0.mk (Kd.R_after (ok := (fun k_ => (P0_0_ k_ ∨ w.heap.size ≤ k_) ∧ k_ ≠ gb175)) (by (with_reducible repeat (first | apply Kd.R_alloc | apply Kd.R_drewN | apply Kd.R_drew)); exact Kd.R_mono (Kd.R_far (p := ⟨gb182, 0, none⟩) (Kd.R_types HO_175000.out BK182.out (by decide)) (fun _ hk => hk.2) (.slice Ao58 t179.length co58)) (fun _ hk => ⟨⟨hk.1.1.1, hk.1.1.2⟩, hk.1.2⟩)) hg hat); have n1_ := Aside0.mk (blk_grown (g := gb174) (o := .cells #[.slice Ao4 l0_0.length co4] 31 (0, 0)) (zf BK174.out) hg (Kd.R_ne HO181.out BK174.out (by decide))); have n2_ := Aside0.mk (blk_grown (g := gb175) (o := .cells #[.int .i64 x176000_14, .int .i64 x176001_14, .int .i64 x176002_14] 67 (0, 0)) (zf BK175.out) hg (Kd.R_away HO181.out (fun _ hk => hk.2))); have n3_ := Aside0.mk (blk_grown (g := gb176) (o := .cells #[.slice none 0 0] 31 (0, 0)) (zf BK176.out) hg (Kd.R_ne HO181.out BK176.out (by decide))); have n4_ := Aside0.mk (blk_grown (g := gb182) (o := .cells #[.slice Ao58 t179.length co58] 31 (0, 0)) (by (with_reducible repeat (first | refine blk_drewN ?_ _ | refine blk_drew ?_ | refine blk_alloc ?_ _)); refine blk_put (cs := #[.slice none 0 0]) ?_ 0 _ rfl; (with_reducible repeat (first | refine blk_drewN ?_ _ | refine blk_drew ?_ | refine blk_alloc ?_ _)); exact BK182.out) hg (Kd.R_ne HO181.out BK182.out (by decide))); have n5_ := Aside0.mk (hb); have n6_ := Aside0.mk (Kept.of_grown (S := (fun k_ => P0_0_ k_)) hg (zk HK.out) (fun k_ e_ => (HO181.out.1 k_ e_).1.1.1)); have n7_ := Aside0.mk (ho); clear HO_175000; clear BK174; clear BK175; clear BK176; clear BK182; clear HB; clear HK; clear HO181; have HO_175000 := n0_; have BK174 := n1_; have BK175 := n2_; have BK176 := n3_; have BK182 := n4_; have HB := n5_; have HK := n6_; have HO185 := n7_; clear n0_ n1_ n2_ n3_ n4_ n5_ n6_ n7_; clear ho hb hg hat; obtain ⟨Ao65, co65, eo65⟩ := Kd.R_slice HO185.out; subst eo65; have hcz66_0 : w64.cell? ⟨gb182, 0, none⟩ = some (.slice Ao58 t179.length co58) := (blk_cell BK182.out 0).trans rfl; have hfz66_0 := blk_frozen BK182.out 0))
         have n0_ : Aside0 (Kd.R k67 67 (w64.setCell ⟨gb182, 0, none⟩ (.slice Ao65 y183.length co65)) w0.heap.size (fun k_ => (P0_0_ k_ ∨ w.heap.size ≤ k_) ∧ some k_ ≠ (.slice Ao65 y183.length co65 : Value).ownBlock ∧ k_ ≠ gb175) (.slice Ao4 l0_0.length co4) l0_0) := ⟨zr (Kd.R_mono (Kd.R_far (p := ⟨gb182, 0, none⟩) (Kd.R_types HO_175000.out BK182.out (by decide)) (fun _ hk => hk.2) (.slice Ao65 y183.length co65)) (fun _ hk => ⟨hk.1.1.1, ⟨hk.1.2, hk.1.1.2⟩⟩))⟩
         have n1_ : Aside0 (Kd.R k67 67 (w64.setCell ⟨gb182, 0, none⟩ (.slice Ao65 y183.length co65)) w0.heap.size (fun k_ => (P0_0_ k_ ∨ w.heap.size ≤ k_) ∧ some k_ ≠ (.slice Ao4 l0_0.length co4 : Value).ownBlock ∧ k_ ≠ gb175) (.slice Ao65 y183.length co65) y183) := ⟨zr (Kd.R_mono (Kd.R_far (p := ⟨gb182, 0, none⟩) (Kd.R_types HO185.out BK182.out (by decide)) (fun _ hk => hk.2) (.slice Ao65 y183.length co65)) (fun _ hk => ⟨hk.1.1, ⟨hk.1.2.1, hk.1.2.2⟩⟩))⟩
         have n2_ : Aside0 ((w64.setCell ⟨gb182, 0, none⟩ (.slice Ao65 y183.length co65)).heap[gb174]? = some (.cells #[.slice Ao4 l0_0.length co4] 31 (0, 0))) := ⟨zf BK174.out⟩
         have n3_ : Aside0 ((w64.setCell ⟨gb182, 0, none⟩ (.slice Ao65 y183.length co65)).heap[gb175]? = some (.cells #[.int .i64 x176000_14, .int .i64 x176001_14, .int .i64 x176002_14] 67 (0, 0))) := ⟨zf BK175.out⟩
         have n4_ : Aside0 ((w64.setCell ⟨gb182, 0, none⟩ (.slice Ao65 y183.length co65)).heap[gb176]? = some (.cells #[.slice none 0 0] 31 (0, 0))) := ⟨zf BK176.out⟩
         have n5_ : Aside0 ((w64.setCell ⟨gb182, 0, none⟩ (.slice Ao65 y183.length co65)).heap[gb182]? = some (.cells #[.slice Ao65 y183.length co65] 31 (0, 0))) := ⟨by (with_reducible repeat (first | refine blk_drewN ?_ _ | refine blk_drew ?_ | refine blk_alloc ?_ _)); refine blk_put (cs := #[.slice Ao58 t179.length co58]) ?_ 0 _ rfl; (with_reducible repeat (first | refine blk_drewN ?_ _ | refine blk_drew ?_ | refine blk_alloc ?_ _)); exact BK182.out⟩
         have n6_ : Aside0 (Kept w (w64.setCell ⟨gb182, 0, none⟩ (.slice Ao65 y183.length co65)) (fun k_ => P0_0_ k_)) := ⟨zk HK.out⟩
         have n7_ : Aside0 (Below w0.heap.size w0 (w64.setCell ⟨gb182, 0, none⟩ (.slice Ao65 y183.length co65))) := ⟨zb HB.out⟩
         (try clear HO_175000)
         (try clear HO185)
         (try clear BK174)
         (try clear BK175)
         (try clear BK176)
         (try clear BK182)
         (try clear HK)
         (try clear HB)
         generalize (w64.setCell ⟨gb182, 0, none⟩ (.slice Ao65 y183.length co65)) = w67 at n0_ n1_ n2_ n3_ n4_ n5_ n6_ n7_ ⊢
         have HO_175000 := n0_
         have HO185 := n1_
         have BK174 := n2_
         have BK175 := n3_
         have BK176 := n4_
         have BK182 := n5_
         have HK := n6_
         have HB := n7_
         clear n0_ n1_ n2_ n3_ n4_ n5_ n6_ n7_
         have n0_ := Aside0.mk (Kd.R_drew HO_175000.out)
         have n1_ := Aside0.mk (Kd.R_drew HO185.out)
         have n2_ := Aside0.mk (blk_drew BK174.out)
         have n3_ := Aside0.mk (blk_drew BK175.out)
         have n4_ := Aside0.mk (blk_drew BK176.out)
         have n5_ := Aside0.mk (blk_drew BK182.out)
         have n6_ := Aside0.mk (Kept.drew HK.out)
         have n7_ := Aside0.mk (below_drew1 HB.out)
         clear HO_175000
         clear HO185
         clear BK174
         clear BK175
         clear BK176
         clear BK182
         clear HK
         clear HB
         have HO_175000 := n0_
         have HO185 := n1_
         have BK174 := n2_
         have BK175 := n3_
         have BK176 := n4_
         have BK182 := n5_
         have HK := n6_
         have HB := n7_
         clear n0_ n1_ n2_ n3_ n4_ n5_ n6_ n7_
         refine start_ (n := 6) (S := fun w' => w'.cell? ⟨gb182, 0, none⟩ = some (.slice Ao65 y183.length co65) ∧ w'.cell? ⟨gb174, 0, none⟩ = some (.slice Ao4 l0_0.length co4)) (ds := []) #[false, false, false, false, false, false] (by kernel_rfl) rfl rfl ⟨(blk_cell BK182.out 0).trans rfl, (blk_cell BK174.out 0).trans rfl⟩ (fun hHeld => ?_)
         generalize w67.drew = w68 at HO_175000 HO185 BK174 BK175 BK176 BK182 HK HB hHeld ⊢
         refine pure_ (i := 1) (N := some 54) (v := ?_) (a' := ?_) #[false, true, false, false, false, false] rfl rfl (by kernel_rfl) (fun _ _ _ h => h) (Or.inl ⟨by rfl, ?_⟩) ?_ ?_
         rotate_left
         ·intro w'
          go_simp
          with_reducible rfl
         rotate_left
         ·simp only [Act.put, List.setIfInBounds_toArray, List.set_cons_zero, List.set_cons_succ, i64_w, i32_w]
          rfl
         refine take_ (i := 0) (N := some 53) (v := ?_) (a' := ?_) #[true, true, false, false, false, false] rfl rfl (by kernel_rfl) (fun _ _ _ h => h) (Or.inl ⟨by rfl, ?_⟩) hHeld ?_ ?_
         rotate_left
         ·rintro w' ⟨s0, s1⟩
          go_simp
          with_reducible rfl
         rotate_left
         ·simp only [Act.put, List.setIfInBounds_toArray, List.set_cons_zero, List.set_cons_succ, i64_w, i32_w]
          rfl
         refine take_ (i := 2) (N := some 55) (v := ?_) (a' := ?_) #[true, true, true, false, false, false] rfl rfl (by kernel_rfl) (fun _ _ _ h => h) (Or.inl ⟨by rfl, ?_⟩) hHeld ?_ ?_
         rotate_left
         ·rintro w' ⟨s0, s1⟩
          go_simp
          with_reducible rfl
         rotate_left
         ·simp only [Act.put, List.setIfInBounds_toArray, List.set_cons_zero, List.set_cons_succ, i64_w, i32_w]
          rfl
         refine pure_ (i := 3) (N := some 56) (v := ?_) (a' := ?_) #[true, true, true, true, false, false] rfl rfl (by kernel_rfl) (fun _ _ _ h => h) (Or.inl ⟨by rfl, ?_⟩) ?_ ?_
         rotate_left
         ·intro w'
          go_simp
          with_reducible rfl
         rotate_left
         ·simp only [Act.put, List.setIfInBounds_toArray, List.set_cons_zero, List.set_cons_succ, i64_w, i32_w]
          rfl
         refine one_ (i := 4) (N := none) #[true, true, true, true, true, false] rfl rfl (by kernel_rfl) (by decide) (fun K hK => ?_)
         have hs69 : w68.cell? ⟨gb176, 0, none⟩ = some (.slice none 0 0) := (blk_cell BK176.out 0).trans rfl
         have hfs69 := blk_frozen BK176.out 0
         have hns69_0 := NB174_176.out
         have hns69_1 := NB175_176.out
         have hns69_3 := NB182_176.out
         have hms69_0 := NB176_174.out
         have hms69_1 := NB176_175.out
         have hms69_3 := NB176_182.out
         refine skip_ (w1 := ?_) (by rfl) rfl ?_ ?_
         rotate_left
         ·go_simp
          rfl
         refine hK.out _ _ ⟨((cell_far (p := ⟨gb176, _, none⟩) NB182_176.out _).trans (hHeld.1)), ((cell_far (p := ⟨gb176, _, none⟩) NB174_176.out _).trans (hHeld.2))⟩ (fun hHeld => ?_)
         clear hK K
         refine pure_ (i := 5) (N := some 5) (v := ?_) (a' := ?_) #[true, true, true, true, true, true] rfl rfl (by kernel_rfl) (fun _ _ _ h => h) (Or.inl ⟨by rfl, ?_⟩) ?_ ?_
         rotate_left
         ·intro w'
          go_simp
          with_reducible rfl
         rotate_left
         ·simp only [Act.put, List.setIfInBounds_toArray, List.set_cons_zero, List.set_cons_succ, i64_w, i32_w]
          rfl
         refine done_ (by kernel_rfl) ?_
         try go_wp2
         refine bodyPost_ret (results_ct rfl _ _ gb176 31 #[.slice Ao65 y183.length co65] (0, 0) _ rfl (by (with_reducible repeat (first | refine blk_drewN ?_ _ | refine blk_drew ?_ | refine blk_alloc ?_ _)); refine blk_put (cs := #[.slice none 0 0]) ?_ 0 _ rfl; (with_reducible repeat (first | refine blk_drewN ?_ _ | refine blk_drew ?_ | refine blk_alloc ?_ _)); exact BK176.out) Try.underlying31 rfl (by kernel_rfl)) rfl ?_
         exact ⟨_, ze, zr (Kd.R_mono (Kd.R_far (p := ⟨gb176, 0, none⟩) (Kd.R_types HO185.out BK176.out (by decide)) (fun _ hk => hk.2) (.slice Ao65 y183.length co65)) (fun _ hk => hk.1.1)), zb HB.out, zk HK.out, zr (Kd.R_mono (Kd.R_far (p := ⟨gb176, 0, none⟩) (Kd.R_types HO_175000.out BK176.out (by decide)) (fun _ hk => hk.2) (.slice Ao65 y183.length co65)) (fun _ hk => by first | exact hk | exact hk.1 | exact hk.1.1 | exact hk.1.1.1 | exact hk.1.1.1.1 | exact hk.1.1.1.1.1))⟩
        ·rw [if_neg c45] at H
         exact absurd H (by simp)
      ·replace c31 := Bool.eq_false_iff.mpr c31
       subst c31
       have H1 : (some (l0_0, (-1))) = some (r1, r2) := by rw [if_neg (show ¬ (false = true) by decide)] at H; exact H
       clear H
       have H := H1
       clear H1
       simp only [Option.some.injEq, Prod.mk.injEq] at H
       obtain ⟨rfl, rfl⟩ := H
       have hnb70 := NB174_175.out
       have hnc70 := NB175_174.out
       have hnb71 := NB174_176.out
       have hnc71 := NB176_174.out
       have hcz72_0 : wc.cell? ⟨gb174, 0, none⟩ = some (.slice Ao4 l0_0.length co4) := (blk_cell BK174.out 0).trans rfl
       have hfz72_0 := blk_frozen BK174.out 0
       have hnb73 := NB175_176.out
       have hnc73 := NB176_175.out
       have hcz74_0 : wc.cell? ⟨gb175, 0, none⟩ = some (.int .i64 x176000_14) := (blk_cell BK175.out 0).trans rfl
       have hcz74_1 : wc.cell? ⟨gb175, 1, none⟩ = some (.int .i64 x176001_14) := (blk_cell BK175.out 1).trans rfl
       have hcz74_2 : wc.cell? ⟨gb175, 2, none⟩ = some (.int .i64 x176002_14) := (blk_cell BK175.out 2).trans rfl
       have hfz74_0 := blk_frozen BK175.out 0
       have hfz74_1 := blk_frozen BK175.out 1
       have hfz74_2 := blk_frozen BK175.out 2
       go_wp2_with (first | ((with_reducible refine gate_callee (f := 65) rfl ?_); refine goesL_ (some 27) rfl rfl Try.func65 (by kernel_rfl) rfl #[.agg #[.slice Ao4 l0_0.length co4], .agg #[.int .i64 x176000_14, .int .i64 x176001_14, .int .i64 x176002_14]] rfl zl ?_; (with_reducible refine (spec_l1Find.calls kj14 _ _ l0_0 x176000_14 x176001_14 x176002_14 t177 _ ?side1 ?side2 A20.out).mono ?_); (case side1 => exact zc (Kd.R_reads' HO_175000.out).2.2); (case side2 => exact (Kd.R_reads' HO_175000.out).2.1); rintro e w75 ⟨rfl, hb⟩; refine ⟨_, rfl, ?_⟩; have n0_ := Aside0.mk (Kd.R_below (zr HO_175000.out) hb); have n1_ := Aside0.mk (blk_below (zh BK174.out) hb); have n2_ := Aside0.mk (blk_below (zh BK175.out) hb); have n3_ := Aside0.mk (blk_below (zh BK176.out) hb); have n4_ := Aside0.mk (Kept.below (S := (fun k_ => P0_0_ k_)) (zk HK.out) hb); have n5_ := Aside0.mk (below_step (zb HB.out) hb); clear HO_175000; clear BK174; clear BK175; clear BK176; clear HK; clear HB; have HO_175000 := n0_; have BK174 := n1_; have BK175 := n2_; have BK176 := n3_; have HK := n4_; have HB := n5_; clear n0_ n1_ n2_ n3_ n4_ n5_; (try clear hb); (try clear hb2); (try clear hk); (try clear hi); have hcz76_0 : w75.cell? ⟨gb175, 0, none⟩ = some (.int .i64 x176000_14) := (blk_cell BK175.out 0).trans rfl; have hcz76_1 : w75.cell? ⟨gb175, 1, none⟩ = some (.int .i64 x176001_14) := (blk_cell BK175.out 1).trans rfl; have hcz76_2 : w75.cell? ⟨gb175, 2, none⟩ = some (.int .i64 x176002_14) := (blk_cell BK175.out 2).trans rfl; have hfz76_0 := blk_frozen BK175.out 0; have hfz76_1 := blk_frozen BK175.out 1; have hfz76_2 := blk_frozen BK175.out 2; have hcz77_0 : w75.cell? ⟨gb174, 0, none⟩ = some (.slice Ao4 l0_0.length co4) := (blk_cell BK174.out 0).trans rfl; have hfz77_0 := blk_frozen BK174.out 0) | ((with_reducible refine gate_callee (f := 64) rfl ?_); refine goesL_ (some 36) rfl rfl Try.func64 (by kernel_rfl) rfl #[.agg #[.int .i64 x176000_14, .int .i64 x176001_14, .int .i64 x176002_14], .int .i64 (l0_0.length : Int)] rfl zl ?_; (with_reducible refine (spec_l1Right.calls kj14 x176000_14 x176001_14 x176002_14 (l0_0.length : Int) false _ A30.out).mono ?_); rintro e w78 ⟨rfl, hb⟩; refine ⟨_, rfl, ?_⟩; have n0_ := Aside0.mk (Kd.R_below (zr HO_175000.out) hb); have n1_ := Aside0.mk (blk_below (zh BK174.out) hb); have n2_ := Aside0.mk (blk_below (zh BK175.out) hb); have n3_ := Aside0.mk (blk_below (zh BK176.out) hb); have n4_ := Aside0.mk (Kept.below (S := (fun k_ => P0_0_ k_)) (zk HK.out) hb); have n5_ := Aside0.mk (below_step (zb HB.out) hb); clear HO_175000; clear BK174; clear BK175; clear BK176; clear HK; clear HB; have HO_175000 := n0_; have BK174 := n1_; have BK175 := n2_; have BK176 := n3_; have HK := n4_; have HB := n5_; clear n0_ n1_ n2_ n3_ n4_ n5_; (try clear hb); (try clear hb2); (try clear hk); (try clear hi); have hcz79_0 : w78.cell? ⟨gb174, 0, none⟩ = some (.slice Ao4 l0_0.length co4) := (blk_cell BK174.out 0).trans rfl; have hfz79_0 := blk_frozen BK174.out 0; have hcz80_0 : w78.cell? ⟨gb176, 0, none⟩ = some (.slice none 0 0) := (blk_cell BK176.out 0).trans rfl; have hfz80_0 := blk_frozen BK176.out 0))
       refine bodyPost_ret (results_ct rfl _ _ gb176 31 #[.slice Ao4 l0_0.length co4] (0, 0) _ rfl (by (with_reducible repeat (first | refine blk_drewN ?_ _ | refine blk_drew ?_ | refine blk_alloc ?_ _)); refine blk_put (cs := #[.slice none 0 0]) ?_ 0 _ rfl; (with_reducible repeat (first | refine blk_drewN ?_ _ | refine blk_drew ?_ | refine blk_alloc ?_ _)); exact BK176.out) Try.underlying31 rfl (by kernel_rfl)) rfl ?_
       exact ⟨_, ze, zr (Kd.R_mono (Kd.R_far (p := ⟨gb176, 0, none⟩) (Kd.R_types HO_175000.out BK176.out (by decide)) (fun _ hk => hk.2) (.slice Ao4 l0_0.length co4)) (fun _ hk => hk.1.1)), zb HB.out, zk HK.out, zr (Kd.R_mono (Kd.R_far (p := ⟨gb176, 0, none⟩) (Kd.R_types HO_175000.out BK176.out (by decide)) (fun _ hk => hk.2) (.slice Ao4 l0_0.length co4)) (fun _ hk => by first | exact hk | exact hk.1 | exact hk.1.1 | exact hk.1.1.1 | exact hk.1.1.1.1 | exact hk.1.1.1.1.1))⟩

theorem spec_l1Add.calls (k : Nat) (P0_0_ : Nat → Prop) (u9000_ : Value) (l0_0 : List (S67)) (a1_0 : Int) (a1_1 : Int) (a1_2 : Int) (r1 : List (S67)) (r2 : Int) (w0 w : World) (hB : Below w0.heap.size w0 w) (ho0_0 : Kd.R k67 67 w w0.heap.size P0_0_ u9000_ l0_0) (h : spec_l1Add.f k l0_0 a1_0 a1_1 a1_2 = some (r1, r2)) :
  Calls Try.prog 71 #[.agg #[u9000_], .agg #[.int .i64 a1_0, .int .i64 a1_1, .int .i64 a1_2]] w fun e w' => ∃ v0_ : Value, e = .returned (.tuple #[.agg #[v0_], .int .i64 r2]) ∧ Kd.R k67 67 w' w0.heap.size (fun k_ => (P0_0_ k_ ∨ w.heap.size ≤ k_)) v0_ r1 ∧ Below w0.heap.size w0 w' ∧ Kept w w' (fun k_ => P0_0_ k_) :=
 (spec_l1Add.calls2 k P0_0_ u9000_ l0_0 a1_0 a1_1 a1_2 r1 r2 w0 w hB ho0_0 h).mono (fun _ _ h => by obtain ⟨v, a, b, c, d, _⟩ := h; exact ⟨v, a, b, c, d⟩)



/-! ### spec_l1Byte: function 97 -/
def spec_l1Byte.f (s0_0 : List Int) (s0_1 : Int) (s0_2 : Int) : Option (Int × Int × Int) := if s0_1 < (s0_0.length : Int) then (if 0 ≤ s0_1 then (some (Go.bits .and .i64 (wrap64 ((Go.bits .and .i64 (Go.bits .xor .i64 ((wrap64 ((wrap64 (s0_2 * 6364136223846793005)) + 1442695040888963407)) / 8589934592) ((wrap64 ((wrap64 (s0_2 * 6364136223846793005)) + 1442695040888963407)) / 35184372088832)) 255) + (wrap64 (rd s0_0 s0_1)))) 255, wrap64 (s0_1 + 1), wrap64 ((wrap64 (s0_2 * 6364136223846793005)) + 1442695040888963407))) else (none)) else (some (Go.bits .and .i64 (Go.bits .xor .i64 ((wrap64 ((wrap64 (s0_2 * 6364136223846793005)) + 1442695040888963407)) / 8589934592) ((wrap64 ((wrap64 (s0_2 * 6364136223846793005)) + 1442695040888963407)) / 35184372088832)) 255, s0_1, wrap64 ((wrap64 (s0_2 * 6364136223846793005)) + 1442695040888963407)))
set_option maxHeartbeats 8000000 in
set_option maxRecDepth 100000 in
theorem spec_l1Byte.calls (g : Nat) (s0_0 : List Int) (s0_1 : Int) (s0_2 : Int) (r1 : Int) (r2 : Int) (r3 : Int) (w0 w : World) (hI : IsS92 w0 w g s0_0 s0_1 s0_2) (hB : Below w0.heap.size w0 w) (h : spec_l1Byte.f s0_0 s0_1 s0_2 = some (r1, r2, r3)) :
  Calls Try.prog 97 #[.pointer (some ⟨g, 0, none⟩)] w fun e w' => e = .returned (.int .i64 r1) ∧ IsS92 w0 w' g s0_0 r2 r3 ∧ Below w0.heap.size w0 w' ∧ KeepBut w w' g none := by
 have HI0 := Aside0.mk hI
 have HK := Aside0.mk (KeepBut.refl w g none)
 have HL := Aside0.mk hB.size
 clear hI
 have HW0 := Aside0.mk hB.size
 have HB := Aside0.mk hB
 clear hB
 have H : (if s0_1 < (s0_0.length : Int) then (if 0 ≤ s0_1 then (some (Go.bits .and .i64 (wrap64 ((Go.bits .and .i64 (Go.bits .xor .i64 ((wrap64 ((wrap64 (s0_2 * 6364136223846793005)) + 1442695040888963407)) / 8589934592) ((wrap64 ((wrap64 (s0_2 * 6364136223846793005)) + 1442695040888963407)) / 35184372088832)) 255) + (wrap64 (rd s0_0 s0_1)))) 255, wrap64 (s0_1 + 1), wrap64 ((wrap64 (s0_2 * 6364136223846793005)) + 1442695040888963407))) else (none)) else (some (Go.bits .and .i64 (Go.bits .xor .i64 ((wrap64 ((wrap64 (s0_2 * 6364136223846793005)) + 1442695040888963407)) / 8589934592) ((wrap64 ((wrap64 (s0_2 * 6364136223846793005)) + 1442695040888963407)) / 35184372088832)) 255, s0_1, wrap64 ((wrap64 (s0_2 * 6364136223846793005)) + 1442695040888963407)))) = some (r1, r2, r3) := h
 clear h
 by_cases c2 : s0_1 < (s0_0.length : Int)
 ·rw [if_pos c2] at H
  have c2b0 : decide (s0_1 < (s0_0.length : Int)) = true := decide_eq_true c2
  clear c2
  by_cases c3 : 0 ≤ s0_1
  ·rw [if_pos c3] at H
   have c3b0 : decide (0 ≤ s0_1) = true := decide_eq_true c3
   clear c3
   simp only [Option.some.injEq, Prod.mk.injEq] at H
   obtain ⟨rfl, rfl, rfl⟩ := H
   obtain ⟨ASz4_0, cSz4_0, HGz4, hgz4, HSz4_0⟩ := HI0.out
   have hcz4_0 := cellS92_0 HGz4
   have hcz4_1 := cellS92_1 HGz4
   have hcz4_2 := cellS92_2 HGz4
   have hfz4_1 := blk_frozen HGz4 1
   have hfz4_2 := blk_frozen HGz4 2
   clear HGz4 hgz4
   have p174 : 0 ≤ (s0_1 : Int) := of_decide_eq_true (by first | (with_reducible assumption) | assumption)
   have q174 : s0_1 < (s0_0.length : Int) := of_decide_eq_true (by first | (with_reducible assumption) | assumption)
   obtain ⟨ad174, e174, hx174_0⟩ := Kd.at_int HSz4_0 s0_1 p174 q174
   cases e174
   have hn174_0 : ad174.block ≠ g := Nat.ne_of_lt (Nat.lt_of_lt_of_le (by have := World.block_lt_of_cell? _ _ hx174_0; first | rwa [add_block] at this | exact this) (IsS92.ge HI0.out))
   replace hx174_0 := pw_cell_below HB.out hx174_0
   replace hx174_0 := (cell_far (p := ⟨g, 2, none⟩) (by first | (rw [add_block]; exact hn174_0) | (show (Addr.add _ _).block ≠ _; rw [add_block]; exact hn174_0) | exact hn174_0) (.int .i64 (wrap64 ((wrap64 (s0_2 * 6364136223846793005)) + 1442695040888963407)))).trans hx174_0
   (try have hy174_0 := fun (n_ : Nat) => (show (((w.drewN n_).setCell ⟨g, 2, none⟩ (.int .i64 (wrap64 ((wrap64 (s0_2 * 6364136223846793005)) + 1442695040888963407))))).cell? _ = some _ from hx174_0))
   clear hn174_0
   replace p174 := eq_true p174
   replace q174 := eq_true q174
   go_enter Try.func97, Try.ntmps97
   go_wp2
   repeat (go_quiet (fail); try go_wp2)
   go_ret
   exact ⟨ze, zi92 HI0.out, zj HB.out (IsS92.ge HI0.out), zq HK.out⟩
  ·rw [if_neg c3] at H
   exact absurd H (by simp)
 ·rw [if_neg c2] at H
  have c2b0 : decide (s0_1 < (s0_0.length : Int)) = false := decide_eq_false c2
  clear c2
  simp only [Option.some.injEq, Prod.mk.injEq] at H
  obtain ⟨rfl, rfl, rfl⟩ := H
  obtain ⟨ASz5_0, cSz5_0, HGz5, hgz5, HSz5_0⟩ := HI0.out
  have hcz5_0 := cellS92_0 HGz5
  have hcz5_1 := cellS92_1 HGz5
  have hcz5_2 := cellS92_2 HGz5
  have hfz5_1 := blk_frozen HGz5 1
  have hfz5_2 := blk_frozen HGz5 2
  clear HGz5 hgz5
  go_enter Try.func97, Try.ntmps97
  go_wp2
  repeat (go_quiet (fail); try go_wp2)
  go_ret
  exact ⟨ze, zi92 HI0.out, zj HB.out (IsS92.ge HI0.out), zq HK.out⟩

end Go.Proofs.Ytilnfdnigjblcaa.H
end

section
-- Written by this session's program (wip/tools/gprint.py over the kit's print) out of the translation; Lean checks it.
namespace Go.Proofs.Ytilnfdnigjblcaa.H
open Go.RowKit Go.Proofs.YtilnfdnigjblcaaW.PrintWords Go.Proofs.YtilnfdnigjblcaaW.PrintLast Go.Proofs.YtilnfdnigjblcaaW.PrintMore
attribute [local go_sem] max2_int min2_int max_two min_two max_three min_three max_four min_four   -- for this text's walks alone
set_option linter.unusedVariables false
set_option linter.unusedSimpArgs false
set_option maxRecDepth 100000

/-! ### spec_l1Below: function 79 -/
def spec_l1Below.f (s0_0 : List Int) (s0_1 : Int) (s0_2 : Int) (a1 : Int) : Option (Int × Int × Int) := if a1 ≤ 0 then (some (0, s0_1, s0_2)) else (if a1 ≤ 256 then ((spec_l1Byte.f s0_0 s0_1 s0_2).bind fun bt175 => (if a1 = 0 then (none) else (some (Int.tmod bt175.1 a1, bt175.2.1, bt175.2.2)))) else ((spec_l1Byte.f s0_0 s0_1 s0_2).bind fun bt178 => ((spec_l1Byte.f s0_0 bt178.2.1 bt178.2.2).bind fun bt181 => ((spec_l1Byte.f s0_0 bt181.2.1 bt181.2.2).bind fun bt184 => ((spec_l1Byte.f s0_0 bt184.2.1 bt184.2.2).bind fun bt187 => (if a1 = 0 then (none) else (some (Int.tmod (wrap64 ((wrap64 ((wrap64 ((wrap64 (bt178.1 * 16777216)) + (wrap64 (bt181.1 * 65536)))) + (wrap64 (bt184.1 * 256)))) + bt187.1)) a1, bt187.2.1, bt187.2.2))))))))
set_option maxHeartbeats 8000000 in
set_option maxRecDepth 100000 in
theorem spec_l1Below.calls (g : Nat) (s0_0 : List Int) (s0_1 : Int) (s0_2 : Int) (a1 : Int) (r1 : Int) (r2 : Int) (r3 : Int) (w0 w : World) (hI : IsS92 w0 w g s0_0 s0_1 s0_2) (hB : Below w0.heap.size w0 w) (h : spec_l1Below.f s0_0 s0_1 s0_2 a1 = some (r1, r2, r3)) :
  Calls Try.prog 79 #[.pointer (some ⟨g, 0, none⟩), .int .i64 a1] w fun e w' => e = .returned (.int .i64 r1) ∧ IsS92 w0 w' g s0_0 r2 r3 ∧ Below w0.heap.size w0 w' ∧ KeepBut w w' g none := by
 have HI0 := Aside0.mk hI
 have HK := Aside0.mk (KeepBut.refl w g none)
 have HL := Aside0.mk hB.size
 clear hI
 have HW0 := Aside0.mk hB.size
 have HB := Aside0.mk hB
 clear hB
 have H : (if a1 ≤ 0 then (some (0, s0_1, s0_2)) else (if a1 ≤ 256 then ((spec_l1Byte.f s0_0 s0_1 s0_2).bind fun bt175 => (if a1 = 0 then (none) else (some (Int.tmod bt175.1 a1, bt175.2.1, bt175.2.2)))) else ((spec_l1Byte.f s0_0 s0_1 s0_2).bind fun bt178 => ((spec_l1Byte.f s0_0 bt178.2.1 bt178.2.2).bind fun bt181 => ((spec_l1Byte.f s0_0 bt181.2.1 bt181.2.2).bind fun bt184 => ((spec_l1Byte.f s0_0 bt184.2.1 bt184.2.2).bind fun bt187 => (if a1 = 0 then (none) else (some (Int.tmod (wrap64 ((wrap64 ((wrap64 ((wrap64 (bt178.1 * 16777216)) + (wrap64 (bt181.1 * 65536)))) + (wrap64 (bt184.1 * 256)))) + bt187.1)) a1, bt187.2.1, bt187.2.2))))))))) = some (r1, r2, r3) := h
 clear h
 by_cases c3 : a1 ≤ 0
 ·rw [if_pos c3] at H
  have c3b0 : decide (a1 ≤ 0) = true := decide_eq_true c3
  clear c3
  simp only [Option.some.injEq, Prod.mk.injEq] at H
  obtain ⟨rfl, rfl, rfl⟩ := H
  go_enter Try.func79, Try.ntmps79
  go_wp2
  go_ret
  exact ⟨ze, zi92 HI0.out, zj HB.out (IsS92.ge HI0.out), zq HK.out⟩
 ·rw [if_neg c3] at H
  have c3b0 : decide (a1 ≤ 0) = false := decide_eq_false c3
  clear c3
  by_cases c4 : a1 ≤ 256
  ·rw [if_pos c4] at H
   have c4b0 : decide (a1 ≤ 256) = true := decide_eq_true c4
   clear c4
   replace H := Option.bind_eq_some_iff.mp H
   obtain ⟨⟨t175, t176, t177⟩, A50, H⟩ := H
   replace H : (if a1 = 0 then (none) else (some (Int.tmod t175 a1, t176, t177))) = some (r1, r2, r3) := H
   have A5 := Aside0.mk A50
   clear A50
   by_cases c6 : a1 = 0
   ·rw [if_pos c6] at H
    exact absurd H (by simp)
   ·rw [if_neg c6] at H
    have c6b0 : (a1 == 0) = false := beq_eq_false_iff_ne.mpr c6
    have c6b1 : (a1 != 0) = true := bne_iff_ne.mpr c6
    simp only [Option.some.injEq, Prod.mk.injEq] at H
    obtain ⟨rfl, rfl, rfl⟩ := H
    go_enter Try.func79, Try.ntmps79
    go_wp2_with (first | ((with_reducible refine gate_callee (f := 97) rfl ?_); refine goesL_ (some 14) rfl rfl Try.func97 (by kernel_rfl) rfl #[.pointer (some ⟨g, 0, none⟩)] rfl zl ?_; (with_reducible refine (spec_l1Byte.calls g s0_0 s0_1 s0_2 t175 t176 t177 w0 _ ?side1 ?side2 A5.out).mono ?_); (case side1 => exact zi92 HI0.out); (case side2 => exact zj HB.out (IsS92.ge HI0.out)); rintro e w7 ⟨rfl, hi, hb, hk⟩; refine ⟨_, rfl, ?_⟩; have n0_ := Aside0.mk (KeepBut.trans (zq HK.out) hk (.inl rfl)); have n1_ := Aside0.mk (hb); have n2_ := Aside0.mk (hi); clear HK; clear HB; clear HI0; have HK := n0_; have HB := n1_; have HI0 := n2_; clear n0_ n1_ n2_; (try clear hb); (try clear hb2); (try clear hk); (try clear hi)))
    go_ret
    exact ⟨ze, zi92 HI0.out, zj HB.out (IsS92.ge HI0.out), zq HK.out⟩
  ·rw [if_neg c4] at H
   have c4b0 : decide (a1 ≤ 256) = false := decide_eq_false c4
   clear c4
   replace H := Option.bind_eq_some_iff.mp H
   obtain ⟨⟨t178, t179, t180⟩, A80, H⟩ := H
   replace H : ((spec_l1Byte.f s0_0 t179 t180).bind fun bt181 => ((spec_l1Byte.f s0_0 bt181.2.1 bt181.2.2).bind fun bt184 => ((spec_l1Byte.f s0_0 bt184.2.1 bt184.2.2).bind fun bt187 => (if a1 = 0 then (none) else (some (Int.tmod (wrap64 ((wrap64 ((wrap64 ((wrap64 (t178 * 16777216)) + (wrap64 (bt181.1 * 65536)))) + (wrap64 (bt184.1 * 256)))) + bt187.1)) a1, bt187.2.1, bt187.2.2)))))) = some (r1, r2, r3) := H
   have A8 := Aside0.mk A80
   clear A80
   replace H := Option.bind_eq_some_iff.mp H
   obtain ⟨⟨t181, t182, t183⟩, A90, H⟩ := H
   replace H : ((spec_l1Byte.f s0_0 t182 t183).bind fun bt184 => ((spec_l1Byte.f s0_0 bt184.2.1 bt184.2.2).bind fun bt187 => (if a1 = 0 then (none) else (some (Int.tmod (wrap64 ((wrap64 ((wrap64 ((wrap64 (t178 * 16777216)) + (wrap64 (t181 * 65536)))) + (wrap64 (bt184.1 * 256)))) + bt187.1)) a1, bt187.2.1, bt187.2.2))))) = some (r1, r2, r3) := H
   have A9 := Aside0.mk A90
   clear A90
   replace H := Option.bind_eq_some_iff.mp H
   obtain ⟨⟨t184, t185, t186⟩, A100, H⟩ := H
   replace H : ((spec_l1Byte.f s0_0 t185 t186).bind fun bt187 => (if a1 = 0 then (none) else (some (Int.tmod (wrap64 ((wrap64 ((wrap64 ((wrap64 (t178 * 16777216)) + (wrap64 (t181 * 65536)))) + (wrap64 (t184 * 256)))) + bt187.1)) a1, bt187.2.1, bt187.2.2)))) = some (r1, r2, r3) := H
   have A10 := Aside0.mk A100
   clear A100
   replace H := Option.bind_eq_some_iff.mp H
   obtain ⟨⟨t187, t188, t189⟩, A110, H⟩ := H
   replace H : (if a1 = 0 then (none) else (some (Int.tmod (wrap64 ((wrap64 ((wrap64 ((wrap64 (t178 * 16777216)) + (wrap64 (t181 * 65536)))) + (wrap64 (t184 * 256)))) + t187)) a1, t188, t189))) = some (r1, r2, r3) := H
   have A11 := Aside0.mk A110
   clear A110
   by_cases c12 : a1 = 0
   ·rw [if_pos c12] at H
    exact absurd H (by simp)
   ·rw [if_neg c12] at H
    have c12b0 : (a1 == 0) = false := beq_eq_false_iff_ne.mpr c12
    have c12b1 : (a1 != 0) = true := bne_iff_ne.mpr c12
    simp only [Option.some.injEq, Prod.mk.injEq] at H
    obtain ⟨rfl, rfl, rfl⟩ := H
    go_enter Try.func79, Try.ntmps79
    go_wp2_with (first | ((with_reducible refine gate_callee (f := 97) rfl ?_); refine goesL_ (some 18) rfl rfl Try.func97 (by kernel_rfl) rfl #[.pointer (some ⟨g, 0, none⟩)] rfl zl ?_; (with_reducible refine (spec_l1Byte.calls g s0_0 s0_1 s0_2 t178 t179 t180 w0 _ ?side1 ?side2 A8.out).mono ?_); (case side1 => exact zi92 HI0.out); (case side2 => exact zj HB.out (IsS92.ge HI0.out)); rintro e w13 ⟨rfl, hi, hb, hk⟩; refine ⟨_, rfl, ?_⟩; have n0_ := Aside0.mk (KeepBut.trans (zq HK.out) hk (.inl rfl)); have n1_ := Aside0.mk (hb); have n2_ := Aside0.mk (hi); clear HK; clear HB; clear HI0; have HK := n0_; have HB := n1_; have HI0 := n2_; clear n0_ n1_ n2_; (try clear hb); (try clear hb2); (try clear hk); (try clear hi)) | ((with_reducible refine gate_callee (f := 97) rfl ?_); refine goesL_ (some 20) rfl rfl Try.func97 (by kernel_rfl) rfl #[.pointer (some ⟨g, 0, none⟩)] rfl zl ?_; (with_reducible refine (spec_l1Byte.calls g s0_0 t179 t180 t181 t182 t183 w0 _ ?side1 ?side2 A9.out).mono ?_); (case side1 => exact zi92 HI0.out); (case side2 => exact zj HB.out (IsS92.ge HI0.out)); rintro e w14 ⟨rfl, hi, hb, hk⟩; refine ⟨_, rfl, ?_⟩; have n0_ := Aside0.mk (KeepBut.trans (zq HK.out) hk (.inl rfl)); have n1_ := Aside0.mk (hb); have n2_ := Aside0.mk (hi); clear HK; clear HB; clear HI0; have HK := n0_; have HB := n1_; have HI0 := n2_; clear n0_ n1_ n2_; (try clear hb); (try clear hb2); (try clear hk); (try clear hi)) | ((with_reducible refine gate_callee (f := 97) rfl ?_); refine goesL_ (some 22) rfl rfl Try.func97 (by kernel_rfl) rfl #[.pointer (some ⟨g, 0, none⟩)] rfl zl ?_; (with_reducible refine (spec_l1Byte.calls g s0_0 t182 t183 t184 t185 t186 w0 _ ?side1 ?side2 A10.out).mono ?_); (case side1 => exact zi92 HI0.out); (case side2 => exact zj HB.out (IsS92.ge HI0.out)); rintro e w15 ⟨rfl, hi, hb, hk⟩; refine ⟨_, rfl, ?_⟩; have n0_ := Aside0.mk (KeepBut.trans (zq HK.out) hk (.inl rfl)); have n1_ := Aside0.mk (hb); have n2_ := Aside0.mk (hi); clear HK; clear HB; clear HI0; have HK := n0_; have HB := n1_; have HI0 := n2_; clear n0_ n1_ n2_; (try clear hb); (try clear hb2); (try clear hk); (try clear hi)) | ((with_reducible refine gate_callee (f := 97) rfl ?_); refine goesL_ (some 24) rfl rfl Try.func97 (by kernel_rfl) rfl #[.pointer (some ⟨g, 0, none⟩)] rfl zl ?_; (with_reducible refine (spec_l1Byte.calls g s0_0 t185 t186 t187 t188 t189 w0 _ ?side1 ?side2 A11.out).mono ?_); (case side1 => exact zi92 HI0.out); (case side2 => exact zj HB.out (IsS92.ge HI0.out)); rintro e w16 ⟨rfl, hi, hb, hk⟩; refine ⟨_, rfl, ?_⟩; have n0_ := Aside0.mk (KeepBut.trans (zq HK.out) hk (.inl rfl)); have n1_ := Aside0.mk (hb); have n2_ := Aside0.mk (hi); clear HK; clear HB; clear HI0; have HK := n0_; have HB := n1_; have HI0 := n2_; clear n0_ n1_ n2_; (try clear hb); (try clear hb2); (try clear hk); (try clear hi)))
    go_ret
    exact ⟨ze, zi92 HI0.out, zj HB.out (IsS92.ge HI0.out), zq HK.out⟩

/-! ### spec_l1Once: function 81 -/
def spec_l1Once.f (s0_0 : List Int) (s0_1 : Int) (s0_2 : Int) (a1 : Int) : Option (Bool × Int × Int) := (spec_l1Below.f s0_0 s0_1 s0_2 a1).bind fun bt190 => (some ((bt190.1 == 0), bt190.2.1, bt190.2.2))
set_option maxHeartbeats 8000000 in
set_option maxRecDepth 100000 in
theorem spec_l1Once.calls (g : Nat) (s0_0 : List Int) (s0_1 : Int) (s0_2 : Int) (a1 : Int) (r1 : Bool) (r2 : Int) (r3 : Int) (w0 w : World) (hI : IsS92 w0 w g s0_0 s0_1 s0_2) (hB : Below w0.heap.size w0 w) (h : spec_l1Once.f s0_0 s0_1 s0_2 a1 = some (r1, r2, r3)) :
  Calls Try.prog 81 #[.pointer (some ⟨g, 0, none⟩), .int .i64 a1] w fun e w' => e = .returned (.bool r1) ∧ IsS92 w0 w' g s0_0 r2 r3 ∧ Below w0.heap.size w0 w' ∧ KeepBut w w' g none := by
 have HI0 := Aside0.mk hI
 have HK := Aside0.mk (KeepBut.refl w g none)
 have HL := Aside0.mk hB.size
 clear hI
 have HW0 := Aside0.mk hB.size
 have HB := Aside0.mk hB
 clear hB
 have H : ((spec_l1Below.f s0_0 s0_1 s0_2 a1).bind fun bt190 => (some ((bt190.1 == 0), bt190.2.1, bt190.2.2))) = some (r1, r2, r3) := h
 clear h
 replace H := Option.bind_eq_some_iff.mp H
 obtain ⟨⟨t190, t191, t192⟩, A30, H⟩ := H
 replace H : (some ((t190 == 0), t191, t192)) = some (r1, r2, r3) := H
 have A3 := Aside0.mk A30
 clear A30
 simp only [Option.some.injEq, Prod.mk.injEq] at H
 obtain ⟨rfl, rfl, rfl⟩ := H
 go_enter Try.func81, Try.ntmps81
 go_wp2_with (first | ((with_reducible refine gate_callee (f := 79) rfl ?_); refine goesL_ (some 7) rfl rfl Try.func79 (by kernel_rfl) rfl #[.pointer (some ⟨g, 0, none⟩), .int .i64 a1] rfl zl ?_; (with_reducible refine (spec_l1Below.calls g s0_0 s0_1 s0_2 a1 t190 t191 t192 w0 _ ?side1 ?side2 A3.out).mono ?_); (case side1 => exact zi92 HI0.out); (case side2 => exact zj HB.out (IsS92.ge HI0.out)); rintro e w4 ⟨rfl, hi, hb, hk⟩; refine ⟨_, rfl, ?_⟩; have n0_ := Aside0.mk (KeepBut.trans (zq HK.out) hk (.inl rfl)); have n1_ := Aside0.mk (hb); have n2_ := Aside0.mk (hi); clear HK; clear HB; clear HI0; have HK := n0_; have HB := n1_; have HI0 := n2_; clear n0_ n1_ n2_; (try clear hb); (try clear hb2); (try clear hk); (try clear hi)))
 go_ret
 exact ⟨ze, zi92 HI0.out, zj HB.out (IsS92.ge HI0.out), zq HK.out⟩

/-! ### spec_l1PickInt: function 83 -/
def spec_l1PickInt.f (s0_0 : List Int) (s0_1 : Int) (s0_2 : Int) (l1 : List Int) : Option (Int × Int × Int) := (spec_l1Below.f s0_0 s0_1 s0_2 (l1.length : Int)).bind fun bt193 => (if 0 ≤ bt193.1 then (if bt193.1 < (l1.length : Int) then (some (rd l1 bt193.1, bt193.2.1, bt193.2.2)) else (none)) else (none))
set_option maxHeartbeats 8000000 in
set_option maxRecDepth 100000 in
theorem spec_l1PickInt.calls (g : Nat) (s0_0 : List Int) (s0_1 : Int) (s0_2 : Int) (A1 : Option Addr) (c1 : Nat) (l1 : List Int) (r1 : Int) (r2 : Int) (r3 : Int) (w0 w : World) (hI : IsS92 w0 w g s0_0 s0_1 s0_2) (hB : Below w0.heap.size w0 w) (hr1 : Kd.C (Kd.int .i64) w A1 l1.length l1) (hc1 : l1.length ≤ c1) (hf1 : ∀ ad, A1 = some ad → 0 < l1.length → ad.block ≠ g) (h : spec_l1PickInt.f s0_0 s0_1 s0_2 l1 = some (r1, r2, r3)) :
  Calls Try.prog 83 #[.pointer (some ⟨g, 0, none⟩), .slice A1 l1.length c1] w fun e w' => e = .returned (.int .i64 r1) ∧ IsS92 w0 w' g s0_0 r2 r3 ∧ Below w0.heap.size w0 w' ∧ KeepBut w w' g none := by
 have HR1 := Aside0.mk hr1
 have HC1 := Aside0.mk hc1
 clear hr1 hc1
 have HI0 := Aside0.mk hI
 have HK := Aside0.mk (KeepBut.refl w g none)
 have HL := Aside0.mk hB.size
 clear hI
 have HW0 := Aside0.mk hB.size
 have HB := Aside0.mk hB
 clear hB
 have H : ((spec_l1Below.f s0_0 s0_1 s0_2 (l1.length : Int)).bind fun bt193 => (if 0 ≤ bt193.1 then (if bt193.1 < (l1.length : Int) then (some (rd l1 bt193.1, bt193.2.1, bt193.2.2)) else (none)) else (none))) = some (r1, r2, r3) := h
 clear h
 replace H := Option.bind_eq_some_iff.mp H
 obtain ⟨⟨t193, t194, t195⟩, A30, H⟩ := H
 replace H : (if 0 ≤ t193 then (if t193 < (l1.length : Int) then (some (rd l1 t193, t194, t195)) else (none)) else (none)) = some (r1, r2, r3) := H
 have A3 := Aside0.mk A30
 clear A30
 by_cases c4 : 0 ≤ t193
 ·rw [if_pos c4] at H
  have c4b0 : decide (0 ≤ t193) = true := decide_eq_true c4
  clear c4
  by_cases c5 : t193 < (l1.length : Int)
  ·rw [if_pos c5] at H
   have c5b0 : decide (t193 < (l1.length : Int)) = true := decide_eq_true c5
   clear c5
   simp only [Option.some.injEq, Prod.mk.injEq] at H
   obtain ⟨rfl, rfl, rfl⟩ := H
   go_enter Try.func83, Try.ntmps83
   go_wp2_with (first | ((with_reducible refine gate_callee (f := 79) rfl ?_); refine goesL_ (some 9) rfl rfl Try.func79 (by kernel_rfl) rfl #[.pointer (some ⟨g, 0, none⟩), .int .i64 (l1.length : Int)] rfl zl ?_; (with_reducible refine (spec_l1Below.calls g s0_0 s0_1 s0_2 (l1.length : Int) t193 t194 t195 w0 _ ?side1 ?side2 A3.out).mono ?_); (case side1 => exact zi92 HI0.out); (case side2 => exact zj HB.out (IsS92.ge HI0.out)); rintro e w6 ⟨rfl, hi, hb, hk⟩; refine ⟨_, rfl, ?_⟩; have n0_ := Aside0.mk (KeepBut.trans (zq HK.out) hk (.inl rfl)); have n1_ := Aside0.mk (hb); have n2_ := Aside0.mk (hi); clear HK; clear HB; clear HI0; have HK := n0_; have HB := n1_; have HI0 := n2_; clear n0_ n1_ n2_; (try clear hb); (try clear hb2); (try clear hk); (try clear hi); have p196 : 0 ≤ (t193 : Int) := of_decide_eq_true (by first | (with_reducible assumption) | assumption); have q196 : t193 < (l1.length : Int) := of_decide_eq_true (by first | (with_reducible assumption) | assumption); obtain ⟨ad196, e196, hx196_0⟩ := Kd.at_int HR1.out t193 p196 q196; cases e196; replace hx196_0 := keep_cell HK.out hx196_0 (by first | (rw [add_block]; exact hf1 _ rfl (by omega)) | exact hf1 _ rfl (by omega) | exact hf1 ad196 rfl (by omega)); replace p196 := eq_true p196; replace q196 := eq_true q196))
   go_ret
   exact ⟨ze, zi92 HI0.out, zj HB.out (IsS92.ge HI0.out), zq HK.out⟩
  ·rw [if_neg c5] at H
   exact absurd H (by simp)
 ·rw [if_neg c4] at H
  exact absurd H (by simp)

/-! ### spec_l1Draw: function 84 -/
def spec_l1Draw.j0 : Nat → Int → Bool → List Int → Int → Int → Option (Int × Int × Int)
 | 0, _, _, _, _, _ => none
 | k + 1, x1, x10, x1000, x1001, x1002 => if x10 = true then ((spec_l1Below.f x1000 x1001 x1002 6).bind fun bt200 => (some (wrap64 ((wrap64 (x1 - 1)) - bt200.1), bt200.2.1, bt200.2.2))) else ((spec_l1Below.f x1000 x1001 x1002 x1).bind fun bt203 => (some (bt203.1, bt203.2.1, bt203.2.2)))
def spec_l1Draw.f (k : Nat) (s0_0 : List Int) (s0_1 : Int) (s0_2 : Int) (a1 : Int) : Option (Int × Int × Int) := if a1 > 6 then ((spec_l1Once.f s0_0 s0_1 s0_2 2).bind fun bt197 => (spec_l1Draw.j0 k a1 bt197.1 s0_0 bt197.2.1 bt197.2.2)) else (spec_l1Draw.j0 k a1 false s0_0 s0_1 s0_2)
theorem spec_l1Draw.mono_l : ∀ k, (∀ y0 y1 y2 y3 y4, LeO (spec_l1Draw.j0 k y0 y1 y2 y3 y4) (spec_l1Draw.j0 (k + 1) y0 y1 y2 y3 y4))
 | 0 => fun _ _ _ _ _ r h => by simp [spec_l1Draw.j0] at h
 | k + 1 => by
  have ih0 := spec_l1Draw.mono_l k
  ·intro y0 y1 y2 y3 y4
   unfold spec_l1Draw.j0
   repeat' first
   | (with_reducible exact ih0 _ _ _ _ _)
   | (with_reducible exact LeO.refl _)
   | (with_reducible exact LeO.none _)
   | (with_reducible refine LeO.ite ?_ ?_)
   | (with_reducible refine LeO.bind ?_ (fun _ => ?_))
   | exact ih0 _ _ _ _ _
   | exact LeO.none _
   | refine LeO.ite ?_ ?_
   | refine LeO.bind ?_ (fun _ => ?_)
theorem spec_l1Draw.mono : ∀ a0 a1 a2 a3 k, LeO (spec_l1Draw.f k a0 a1 a2 a3) (spec_l1Draw.f (k + 1) a0 a1 a2 a3) := by
 intro a0 a1 a2 a3 k
 have ih0 := spec_l1Draw.mono_l k
 unfold spec_l1Draw.f
 repeat' first
   | (with_reducible exact ih0 _ _ _ _ _)
   | (with_reducible exact LeO.refl _)
   | (with_reducible exact LeO.none _)
   | (with_reducible refine LeO.ite ?_ ?_)
   | (with_reducible refine LeO.bind ?_ (fun _ => ?_))
   | exact ih0 _ _ _ _ _
   | exact LeO.none _
   | refine LeO.ite ?_ ?_
   | refine LeO.bind ?_ (fun _ => ?_)
set_option maxHeartbeats 8000000 in
set_option maxRecDepth 100000 in
theorem spec_l1Draw.calls (k : Nat) (g : Nat) (s0_0 : List Int) (s0_1 : Int) (s0_2 : Int) (a1 : Int) (r1 : Int) (r2 : Int) (r3 : Int) (w0 w : World) (hI : IsS92 w0 w g s0_0 s0_1 s0_2) (hB : Below w0.heap.size w0 w) (h : spec_l1Draw.f k s0_0 s0_1 s0_2 a1 = some (r1, r2, r3)) :
  Calls Try.prog 84 #[.pointer (some ⟨g, 0, none⟩), .int .i64 a1] w fun e w' => e = .returned (.int .i64 r1) ∧ IsS92 w0 w' g s0_0 r2 r3 ∧ Below w0.heap.size w0 w' ∧ KeepBut w w' g none := by
 have HI0 := Aside0.mk hI
 have HK := Aside0.mk (KeepBut.refl w g none)
 have HL := Aside0.mk hB.size
 clear hI
 have HW0 := Aside0.mk hB.size
 have HB := Aside0.mk hB
 clear hB
 have H : (if a1 > 6 then ((spec_l1Once.f s0_0 s0_1 s0_2 2).bind fun bt197 => (spec_l1Draw.j0 k a1 bt197.1 s0_0 bt197.2.1 bt197.2.2)) else (spec_l1Draw.j0 k a1 false s0_0 s0_1 s0_2)) = some (r1, r2, r3) := h
 clear h
 have HC3 := Aside0.mk H
 clear H
 go_enter Try.func84, Try.ntmps84
 go_upto_region 1 with (fail)
 go_cut [10] (fun v10 wc => ∃ (kq : Nat) (x10_2 : Bool) (x1001_2 : Int) (x1002_2 : Int), v10 = .bool x10_2 ∧ Aside0 (spec_l1Draw.j0 kq a1 x10_2 s0_0 x1001_2 x1002_2 = some (r1, r2, r3)) ∧ Aside0 (kq ≤ k) ∧ Aside0 (IsS92 w0 wc g s0_0 x1001_2 x1002_2) ∧ Aside0 (KeepBut w wc g none) ∧ Aside0 (Below w0.heap.size w0 wc))
 case first =>
  have H := HC3.out
  clear HC3
  by_cases c4 : a1 > 6
  ·rw [if_pos c4] at H
   have c4b0 : decide (6 < a1) = true := decide_eq_true c4
   clear c4
   (first | rw [c4b0] | (simp only [i64_w, i32_w]; rw [c4b0]) | skip)
   replace H := Option.bind_eq_some_iff.mp H
   obtain ⟨⟨t197, t198, t199⟩, A50, H⟩ := H
   replace H : (spec_l1Draw.j0 k a1 t197 s0_0 t198 t199) = some (r1, r2, r3) := H
   have A5 := Aside0.mk A50
   clear A50
   have H' := Aside0.mk H
   clear H
   go_wp2_with (first | (go_at_call 81; (with_reducible refine (spec_l1Once.calls g s0_0 s0_1 s0_2 2 t197 t198 t199 w0 _ ?side1 ?side2 A5.out).mono ?_); (case side1 => exact zi92 HI0.out); (case side2 => exact zj HB.out (IsS92.ge HI0.out)); rintro e w6 ⟨rfl, hi, hb, hk⟩; have n0_ := Aside0.mk (KeepBut.trans (zq HK.out) hk (.inl rfl)); have n1_ := Aside0.mk (hb); have n2_ := Aside0.mk (hi); clear HK; clear HB; clear HI0; have HK := n0_; have HB := n1_; have HI0 := n2_; clear n0_ n1_ n2_; (try clear hb); (try clear hb2); (try clear hk); (try clear hi)))
   go_meet
   case rel => exact ⟨_, (t197), (t198), (t199), (by first | rfl | (simp; done) | (simp [*]; done)), H', ⟨by first | omega | exact Nat.le_refl _⟩, ⟨zi92 HI0.out⟩, ⟨zq HK.out⟩, ⟨zj HB.out (IsS92.ge HI0.out)⟩⟩
  ·rw [if_neg c4] at H
   have c4b0 : decide (6 < a1) = false := decide_eq_false c4
   clear c4
   (first | rw [c4b0] | (simp only [i64_w, i32_w]; rw [c4b0]) | skip)
   have H' := Aside0.mk H
   clear H
   go_wp2
   go_meet
   case rel => exact ⟨_, (false), (s0_1), (s0_2), (by first | rfl | (simp; done) | (simp [*]; done)), H', ⟨by first | omega | exact Nat.le_refl _⟩, ⟨zi92 HI0.out⟩, ⟨zq HK.out⟩, ⟨zj HB.out (IsS92.ge HI0.out)⟩⟩
 case rest =>
  clear HC3
  try clear p2
  try clear c4
  try clear c4b0
  obtain ⟨kq, x10_2, x1001_2, x1002_2, rfl, HA, HJ2, HI0, HK, HB⟩ := hcut
  cases kq with
  | zero => exact absurd HA.out (by simp [spec_l1Draw.j0])
  | succ kj2 =>
   have H := HA.out
   clear HA
   simp only [spec_l1Draw.j0] at H
   by_cases c7 : x10_2 = true
   ·subst c7
    have H1 : ((spec_l1Below.f s0_0 x1001_2 x1002_2 6).bind fun bt200 => (some (wrap64 ((wrap64 (a1 - 1)) - bt200.1), bt200.2.1, bt200.2.2))) = some (r1, r2, r3) := by rw [if_pos rfl] at H; exact H
    clear H
    have H := H1
    clear H1
    replace H := Option.bind_eq_some_iff.mp H
    obtain ⟨⟨t200, t201, t202⟩, A80, H⟩ := H
    replace H : (some (wrap64 ((wrap64 (a1 - 1)) - t200), t201, t202)) = some (r1, r2, r3) := H
    have A8 := Aside0.mk A80
    clear A80
    simp only [Option.some.injEq, Prod.mk.injEq] at H
    obtain ⟨rfl, rfl, rfl⟩ := H
    go_wp2_with (first | ((with_reducible refine gate_callee (f := 79) rfl ?_); refine goesL_ (some 14) rfl rfl Try.func79 (by kernel_rfl) rfl #[.pointer (some ⟨g, 0, none⟩), .int .i64 6] rfl zl ?_; (with_reducible refine (spec_l1Below.calls g s0_0 x1001_2 x1002_2 6 t200 t201 t202 w0 _ ?side1 ?side2 A8.out).mono ?_); (case side1 => exact zi92 HI0.out); (case side2 => exact zj HB.out (IsS92.ge HI0.out)); rintro e w9 ⟨rfl, hi, hb, hk⟩; refine ⟨_, rfl, ?_⟩; have n0_ := Aside0.mk (KeepBut.trans (zq HK.out) hk (.inl rfl)); have n1_ := Aside0.mk (hb); have n2_ := Aside0.mk (hi); clear HK; clear HB; clear HI0; have HK := n0_; have HB := n1_; have HI0 := n2_; clear n0_ n1_ n2_; (try clear hb); (try clear hb2); (try clear hk); (try clear hi)))
    go_ret
    exact ⟨ze, zi92 HI0.out, zj HB.out (IsS92.ge HI0.out), zq HK.out⟩
   ·replace c7 := Bool.eq_false_iff.mpr c7
    subst c7
    have H1 : ((spec_l1Below.f s0_0 x1001_2 x1002_2 a1).bind fun bt203 => (some (bt203.1, bt203.2.1, bt203.2.2))) = some (r1, r2, r3) := by rw [if_neg (show ¬ (false = true) by decide)] at H; exact H
    clear H
    have H := H1
    clear H1
    replace H := Option.bind_eq_some_iff.mp H
    obtain ⟨⟨t203, t204, t205⟩, A100, H⟩ := H
    replace H : (some (t203, t204, t205)) = some (r1, r2, r3) := H
    have A10 := Aside0.mk A100
    clear A100
    simp only [Option.some.injEq, Prod.mk.injEq] at H
    obtain ⟨rfl, rfl, rfl⟩ := H
    go_wp2_with (first | ((with_reducible refine gate_callee (f := 79) rfl ?_); refine goesL_ (some 18) rfl rfl Try.func79 (by kernel_rfl) rfl #[.pointer (some ⟨g, 0, none⟩), .int .i64 a1] rfl zl ?_; (with_reducible refine (spec_l1Below.calls g s0_0 x1001_2 x1002_2 a1 t203 t204 t205 w0 _ ?side1 ?side2 A10.out).mono ?_); (case side1 => exact zi92 HI0.out); (case side2 => exact zj HB.out (IsS92.ge HI0.out)); rintro e w11 ⟨rfl, hi, hb, hk⟩; refine ⟨_, rfl, ?_⟩; have n0_ := Aside0.mk (KeepBut.trans (zq HK.out) hk (.inl rfl)); have n1_ := Aside0.mk (hb); have n2_ := Aside0.mk (hi); clear HK; clear HB; clear HI0; have HK := n0_; have HB := n1_; have HI0 := n2_; clear n0_ n1_ n2_; (try clear hb); (try clear hb2); (try clear hk); (try clear hi)))
    go_ret
    exact ⟨ze, zi92 HI0.out, zj HB.out (IsS92.ge HI0.out), zq HK.out⟩

/-! ### spec_l1DrawNode: function 80 -/
def spec_l1DrawNode.j0 : Nat → Int → Bool → List Int → Int → Int → Option (Int × Int × Int × Int × Int)
 | 0, _, _, _, _, _ => none
 | k + 1, x1, x11, x1000, x1001, x1002 => if x11 = true then ((spec_l1PickInt.f x1000 x1001 x1002 (([0, 1, 5, 6, 50, 51, 62, 90, 91, 100, 101, 102, 199] : List Int))).bind fun bt213 => (some (1, bt213.1, 0, bt213.2.1, bt213.2.2))) else ((spec_l1Draw.f k x1000 x1001 x1002 7).bind fun bt216 => ((spec_l1Draw.f k x1000 bt216.2.1 bt216.2.2 x1).bind fun bt219 => ((spec_l1Parts.f k (wrap64 (2 + bt216.1))).bind fun t223 => (if t223 = 2 then ((spec_l1Draw.f k x1000 bt219.2.1 bt219.2.2 x1).bind fun bt224 => (some (wrap64 (2 + bt216.1), bt219.1, bt224.1, bt224.2.1, bt224.2.2))) else (some (wrap64 (2 + bt216.1), bt219.1, 0, bt219.2.1, bt219.2.2))))))
def spec_l1DrawNode.f (k : Nat) (s0_0 : List Int) (s0_1 : Int) (s0_2 : Int) (a1 : Int) : Option (Int × Int × Int × Int × Int) := if a1 = 0 then (spec_l1DrawNode.j0 k a1 true s0_0 s0_1 s0_2) else ((spec_l1Once.f s0_0 s0_1 s0_2 4).bind fun bt207 => (spec_l1DrawNode.j0 k a1 bt207.1 s0_0 bt207.2.1 bt207.2.2))
theorem spec_l1DrawNode.mono_l : ∀ k, (∀ y0 y1 y2 y3 y4, LeO (spec_l1DrawNode.j0 k y0 y1 y2 y3 y4) (spec_l1DrawNode.j0 (k + 1) y0 y1 y2 y3 y4))
 | 0 => fun _ _ _ _ _ r h => by simp [spec_l1DrawNode.j0] at h
 | k + 1 => by
  have ih0 := spec_l1DrawNode.mono_l k
  ·intro y0 y1 y2 y3 y4
   unfold spec_l1DrawNode.j0
   repeat' first
   | (with_reducible exact ih0 _ _ _ _ _)
   | (with_reducible exact spec_l1Draw.mono _ _ _ _ _)
   | (with_reducible exact spec_l1Parts.mono _ _)
   | (with_reducible exact LeO.refl _)
   | (with_reducible exact LeO.none _)
   | (with_reducible refine LeO.ite ?_ ?_)
   | (with_reducible refine LeO.bind ?_ (fun _ => ?_))
   | exact ih0 _ _ _ _ _
   | exact spec_l1Draw.mono _ _ _ _ _
   | exact spec_l1Parts.mono _ _
   | exact LeO.none _
   | refine LeO.ite ?_ ?_
   | refine LeO.bind ?_ (fun _ => ?_)
theorem spec_l1DrawNode.mono : ∀ a0 a1 a2 a3 k, LeO (spec_l1DrawNode.f k a0 a1 a2 a3) (spec_l1DrawNode.f (k + 1) a0 a1 a2 a3) := by
 intro a0 a1 a2 a3 k
 have ih0 := spec_l1DrawNode.mono_l k
 unfold spec_l1DrawNode.f
 repeat' first
   | (with_reducible exact ih0 _ _ _ _ _)
   | (with_reducible exact spec_l1Draw.mono _ _ _ _ _)
   | (with_reducible exact spec_l1Parts.mono _ _)
   | (with_reducible exact LeO.refl _)
   | (with_reducible exact LeO.none _)
   | (with_reducible refine LeO.ite ?_ ?_)
   | (with_reducible refine LeO.bind ?_ (fun _ => ?_))
   | exact ih0 _ _ _ _ _
   | exact spec_l1Draw.mono _ _ _ _ _
   | exact spec_l1Parts.mono _ _
   | exact LeO.none _
   | refine LeO.ite ?_ ?_
   | refine LeO.bind ?_ (fun _ => ?_)
set_option maxHeartbeats 8000000 in
set_option maxRecDepth 100000 in
theorem spec_l1DrawNode.calls (k : Nat) (g : Nat) (s0_0 : List Int) (s0_1 : Int) (s0_2 : Int) (a1 : Int) (r1 : Int) (r2 : Int) (r3 : Int) (r4 : Int) (r5 : Int) (w0 w : World) (hI : IsS92 w0 w g s0_0 s0_1 s0_2) (hB : Below w0.heap.size w0 w) (h : spec_l1DrawNode.f k s0_0 s0_1 s0_2 a1 = some (r1, r2, r3, r4, r5)) :
  Calls Try.prog 80 #[.pointer (some ⟨g, 0, none⟩), .int .i64 a1] w fun e w' => e = .returned (.agg #[.int .i64 r1, .int .i64 r2, .int .i64 r3]) ∧ IsS92 w0 w' g s0_0 r4 r5 ∧ Below w0.heap.size w0 w' ∧ KeepBut w w' g none := by
 have hu67 := Try.underlying67
 have HI0 := Aside0.mk hI
 have HK := Aside0.mk (KeepBut.refl w g none)
 have HL := Aside0.mk hB.size
 clear hI
 have HW0 := Aside0.mk hB.size
 have HB := Aside0.mk hB
 clear hB
 have H : (if a1 = 0 then (spec_l1DrawNode.j0 k a1 true s0_0 s0_1 s0_2) else ((spec_l1Once.f s0_0 s0_1 s0_2 4).bind fun bt207 => (spec_l1DrawNode.j0 k a1 bt207.1 s0_0 bt207.2.1 bt207.2.2))) = some (r1, r2, r3, r4, r5) := h
 clear h
 have HC3 := Aside0.mk H
 clear H
 go_enter Try.func80, Try.ntmps80
 go_upto_region 1 with (first | ((with_reducible refine gate_dst (N := 4) rfl ?_); refine box_event ?hg (N := 4) ?hd (cs := #[.int .i64 0, .int .i64 0, .int .i64 0]) (t := 67) ?hr ?_; (case hd => rfl); (case hg => rfl); (case hr => first | (go_simp; done) | (go_simp; rfl)); intro gb206 hg w4 hbox hb; have n0_ := Aside0.mk (IsS92.below (zi92 HI0.out) hb); have n1_ := Aside0.mk (KeepBut.trans (zq HK.out) (KeepBut.of_below hb g none) (.inl rfl)); have n2_ := Aside0.mk (below_step (zj HB.out (IsS92.ge HI0.out)) hb); have n3_ := Aside0.mk (hbox); have n4_ := Aside0.mk ((by rw [hg]; exact (keep_size (w := w) (g := g) (row := none) (zq HK.out)) : w.heap.size ≤ gb206)); have n5_ := Aside0.mk ((Nat.le_trans HW0.out (by rw [hg]; exact (keep_size (w := w) (g := g) (row := none) (zq HK.out)) : w.heap.size ≤ gb206) : w0.heap.size ≤ gb206)); have n6_ := Aside0.mk ((by rw [hg]; exact Nat.ne_of_lt (IsS92.lt (show IsS92 w0 _ g s0_0 s0_1 s0_2 from zi92 HI0.out)) : g ≠ gb206)); have n7_ := Aside0.mk ((by rw [hg]; exact Nat.ne_of_gt (IsS92.lt (show IsS92 w0 _ g s0_0 s0_1 s0_2 from zi92 HI0.out)) : gb206 ≠ g)); clear HI0; clear HK; clear HB; have HI0 := n0_; have HK := n1_; have HB := n2_; have BK206 := n3_; have GW206 := n4_; have GE206 := n5_; have NB0_206 := n6_; have NB206_0 := n7_; clear n0_ n1_ n2_ n3_ n4_ n5_ n6_ n7_; clear hb hbox hg))
 (try simp only [Act.put, List.setIfInBounds_toArray, List.set_cons_zero, List.set_cons_succ])
 go_cut [11] (fun v11 wc => ∃ (kq : Nat) (x11_2 : Bool) (x1001_2 : Int) (x1002_2 : Int), v11 = .bool x11_2 ∧ Aside0 (spec_l1DrawNode.j0 kq a1 x11_2 s0_0 x1001_2 x1002_2 = some (r1, r2, r3, r4, r5)) ∧ Aside0 (kq ≤ k) ∧ Aside0 (wc.heap[gb206]? = some (.cells #[.int .i64 0, .int .i64 0, .int .i64 0] 67 (0, 0))) ∧ Aside0 (IsS92 w0 wc g s0_0 x1001_2 x1002_2) ∧ Aside0 (KeepBut w wc g none) ∧ Aside0 (Below w0.heap.size w0 wc))
 case first =>
  have H := HC3.out
  clear HC3
  by_cases c5 : a1 = 0
  ·rw [if_pos c5] at H
   have c5b0 : (a1 == 0) = true := beq_iff_eq.mpr c5
   have c5b1 : (a1 != 0) = false := bne_eq_false_iff_eq.mpr c5
   clear c5
   (first | rw [c5b0] | (simp only [i64_w, i32_w]; rw [c5b0]) | skip)
   have H' := Aside0.mk H
   clear H
   go_wp2
   go_meet
   case rel => exact ⟨_, (true), (s0_1), (s0_2), (by first | rfl | (simp; done) | (simp [*]; done)), H', ⟨by first | omega | exact Nat.le_refl _⟩, ⟨zh BK206.out⟩, ⟨zi92 HI0.out⟩, ⟨zq HK.out⟩, ⟨zj HB.out (IsS92.ge HI0.out)⟩⟩
  ·rw [if_neg c5] at H
   have c5b0 : (a1 == 0) = false := beq_eq_false_iff_ne.mpr c5
   have c5b1 : (a1 != 0) = true := bne_iff_ne.mpr c5
   (first | rw [c5b0] | (simp only [i64_w, i32_w]; rw [c5b0]) | skip)
   replace H := Option.bind_eq_some_iff.mp H
   obtain ⟨⟨t207, t208, t209⟩, A60, H⟩ := H
   replace H : (spec_l1DrawNode.j0 k a1 t207 s0_0 t208 t209) = some (r1, r2, r3, r4, r5) := H
   have A6 := Aside0.mk A60
   clear A60
   have H' := Aside0.mk H
   clear H
   go_wp2_with (first | (go_at_call 81; (with_reducible refine (spec_l1Once.calls g s0_0 s0_1 s0_2 4 t207 t208 t209 w0 _ ?side1 ?side2 A6.out).mono ?_); (case side1 => exact zi92 HI0.out); (case side2 => exact zj HB.out (IsS92.ge HI0.out)); rintro e w7 ⟨rfl, hi, hb, hk⟩; have n0_ := Aside0.mk (KeepBut.blk hk (g' := gb206) (o := .cells #[.int .i64 0, .int .i64 0, .int .i64 0] 67 (0, 0)) (zh BK206.out) NB206_0.out (by simp)); have n1_ := Aside0.mk (KeepBut.trans (zq HK.out) hk (.inl rfl)); have n2_ := Aside0.mk (hb); have n3_ := Aside0.mk (hi); clear BK206; clear HK; clear HB; clear HI0; have BK206 := n0_; have HK := n1_; have HB := n2_; have HI0 := n3_; clear n0_ n1_ n2_ n3_; (try clear hb); (try clear hb2); (try clear hk); (try clear hi)))
   go_meet
   case rel => exact ⟨_, (t207), (t208), (t209), (by first | rfl | (simp; done) | (simp [*]; done)), H', ⟨by first | omega | exact Nat.le_refl _⟩, ⟨zh BK206.out⟩, ⟨zi92 HI0.out⟩, ⟨zq HK.out⟩, ⟨zj HB.out (IsS92.ge HI0.out)⟩⟩
 case rest =>
  clear HC3
  try clear p2
  try clear c5
  try clear c5b0
  try clear c5b1
  obtain ⟨kq, x11_2, x1001_2, x1002_2, rfl, HA, HJ2, BK206, HI0, HK, HB⟩ := hcut
  cases kq with
  | zero => exact absurd HA.out (by simp [spec_l1DrawNode.j0])
  | succ kj2 =>
   have H := HA.out
   clear HA
   simp only [spec_l1DrawNode.j0] at H
   by_cases c8 : x11_2 = true
   ·subst c8
    have H1 : ((spec_l1PickInt.f s0_0 x1001_2 x1002_2 (([0, 1, 5, 6, 50, 51, 62, 90, 91, 100, 101, 102, 199] : List Int))).bind fun bt213 => (some (1, bt213.1, 0, bt213.2.1, bt213.2.2))) = some (r1, r2, r3, r4, r5) := by rw [if_pos rfl] at H; exact H
    clear H
    have H := H1
    clear H1
    obtain ⟨y210, hy210⟩ : ∃ y_ : List Int, y_ = (([0, 1, 5, 6, 50, 51, 62, 90, 91, 100, 101, 102, 199] : List Int)) := ⟨_, rfl⟩
    replace H : ((spec_l1PickInt.f s0_0 x1001_2 x1002_2 y210).bind fun bt213 => (some (1, bt213.1, 0, bt213.2.1, bt213.2.2))) = some (r1, r2, r3, r4, r5) := by first | (rw [hy210]; with_reducible exact H) | (have H2_ := (Option.bind_some _ _).symm.trans H; rw [hy210]; with_reducible exact H2_) | (have H2_ := (Option.bind_some _ _).symm.trans H; with_reducible exact H2_) | with_reducible exact H | (rw [hy210]; exact H) | exact H
    have Ny210 := Aside0.mk hy210
    clear hy210
    replace H := Option.bind_eq_some_iff.mp H
    obtain ⟨⟨t213, t214, t215⟩, A90, H⟩ := H
    replace H : (some (1, t213, 0, t214, t215)) = some (r1, r2, r3, r4, r5) := H
    have A9 := Aside0.mk A90
    clear A90
    simp only [Option.some.injEq, Prod.mk.injEq] at H
    obtain ⟨rfl, rfl, rfl, rfl, rfl⟩ := H
    go_wp2_with (first | ((with_reducible refine gate_dst (N := 13) rfl ?_); refine Kd.R_lit (Kd.int .i64) _ 3 ?hg (N := 13) ?hd (xs := ([0, 1, 5, 6, 50, 51, 62, 90, 91, 100, 101, 102, 199] : List Int)) (inner := [.int .i64 0, .int .i64 1, .int .i64 5, .int .i64 6, .int .i64 50, .int .i64 51, .int .i64 62, .int .i64 90, .int .i64 91, .int .i64 100, .int .i64 101, .int .i64 102, .int .i64 199]) (ok := fun _ => True) (okp := fun _ => True) ?hr ?hp (fun _ hk => hk) trivial (Below.refl _ _) (Nat.le_refl _) (by simp) ?_; (case hd => rfl); (case hg => rfl); (case hr => first | (go_simp; done) | (go_simp; rfl)); (case hp => exact (Reps.one (show Kd.M (Kd.int .i64) _ _ _ 0 [.int .i64 0] from rfl) (Reps.one (show Kd.M (Kd.int .i64) _ _ _ 1 [.int .i64 1] from rfl) (Reps.one (show Kd.M (Kd.int .i64) _ _ _ 5 [.int .i64 5] from rfl) (Reps.one (show Kd.M (Kd.int .i64) _ _ _ 6 [.int .i64 6] from rfl) (Reps.one (show Kd.M (Kd.int .i64) _ _ _ 50 [.int .i64 50] from rfl) (Reps.one (show Kd.M (Kd.int .i64) _ _ _ 51 [.int .i64 51] from rfl) (Reps.one (show Kd.M (Kd.int .i64) _ _ _ 62 [.int .i64 62] from rfl) (Reps.one (show Kd.M (Kd.int .i64) _ _ _ 90 [.int .i64 90] from rfl) (Reps.one (show Kd.M (Kd.int .i64) _ _ _ 91 [.int .i64 91] from rfl) (Reps.one (show Kd.M (Kd.int .i64) _ _ _ 100 [.int .i64 100] from rfl) (Reps.one (show Kd.M (Kd.int .i64) _ _ _ 101 [.int .i64 101] from rfl) (Reps.one (show Kd.M (Kd.int .i64) _ _ _ 102 [.int .i64 102] from rfl) (Reps.one (show Kd.M (Kd.int .i64) _ _ _ 199 [.int .i64 199] from rfl) (Reps.none _ _))))))))))))))); intro v211 w10 ho11 hb hg_ hnew_; clear hg_ hnew_; (first | rw [← Ny210.out] at ho11 | (simp only [Int.reduceToNat] at ho11; rw [← Ny210.out] at ho11)); have n0_ := Aside0.mk (Kd.R_lower ho11 (keep_size (w := w) (g := g) (row := none) (zq HK.out))); have n1_ := Aside0.mk (blk_below (zh BK206.out) hb); have n2_ := Aside0.mk (IsS92.below (zi92 HI0.out) hb); have n3_ := Aside0.mk (KeepBut.trans (zq HK.out) (KeepBut.of_below hb g none) (.inl rfl)); have n4_ := Aside0.mk (below_step (zj HB.out (IsS92.ge HI0.out)) hb); clear BK206; clear HI0; clear HK; clear HB; have HO212 := n0_; have BK206 := n1_; have HI0 := n2_; have HK := n3_; have HB := n4_; clear n0_ n1_ n2_ n3_ n4_; clear hb ho11; obtain ⟨Ao12, co12, eo12⟩ := Kd.R_slice HO212.out; subst eo12) | ((with_reducible refine gate_callee (f := 83) rfl ?_); refine goesL_ (some 14) rfl rfl Try.func83 (by kernel_rfl) rfl #[.pointer (some ⟨g, 0, none⟩), .slice Ao12 y210.length co12] rfl zl ?_; (with_reducible refine (spec_l1PickInt.calls g s0_0 x1001_2 x1002_2 _ _ y210 t213 t214 t215 w0 _ ?side1 ?side2 ?side3 ?side4 ?side5 A9.out).mono ?_); (case side1 => exact zi92 HI0.out); (case side2 => exact zj HB.out (IsS92.ge HI0.out)); (case side3 => exact zc (Kd.R_reads' HO212.out).2.2); (case side4 => exact (Kd.R_reads' HO212.out).2.1); (case side5 => exact far_slice (IsS92.own_ne HI0.out HO212.out (by decide))); rintro e w13 ⟨rfl, hi, hb, hk⟩; refine ⟨_, rfl, ?_⟩; have n0_ := Aside0.mk (KeepBut.blk hk (g' := gb206) (o := .cells #[.int .i64 0, .int .i64 0, .int .i64 0] 67 (0, 0)) (zh BK206.out) NB206_0.out (by simp)); have n1_ := Aside0.mk (Kd.R_mono (Kd.R_keep (IsS92.apart (show IsS92 w0 _ g s0_0 x1001_2 x1002_2 from zi92 HI0.out) (zr HO212.out) (by decide)) hk (fun _ h => h.2)) (fun _ h => h.1)); have n2_ := Aside0.mk (KeepBut.trans (zq HK.out) hk (.inl rfl)); have n3_ := Aside0.mk (hb); have n4_ := Aside0.mk (hi); clear BK206; clear HO212; clear HK; clear HB; clear HI0; have BK206 := n0_; have HO212 := n1_; have HK := n2_; have HB := n3_; have HI0 := n4_; clear n0_ n1_ n2_ n3_ n4_; (try clear hb); (try clear hb2); (try clear hk); (try clear hi); have hnb14 := NB206_0.out; have hnc14 := NB0_206.out; have hcz15_0 : w13.cell? ⟨gb206, 0, none⟩ = some (.int .i64 0) := (blk_cell BK206.out 0).trans rfl; have hcz15_1 : w13.cell? ⟨gb206, 1, none⟩ = some (.int .i64 0) := (blk_cell BK206.out 1).trans rfl; have hcz15_2 : w13.cell? ⟨gb206, 2, none⟩ = some (.int .i64 0) := (blk_cell BK206.out 2).trans rfl; have hfz15_0 := blk_frozen BK206.out 0; have hfz15_1 := blk_frozen BK206.out 1; have hfz15_2 := blk_frozen BK206.out 2))
    refine bodyPost_ret (results_cell_row rfl _ _ gb206 67 #[.int .i64 1, .int .i64 t213, .int .i64 0] (0, 0) _ rfl (by (with_reducible repeat (first | refine blk_drewN ?_ _ | refine blk_drew ?_ | refine blk_alloc ?_ _)); refine blk_put (cs := #[.int .i64 1, .int .i64 t213, .int .i64 0]) ?_ 2 _ rfl; (with_reducible repeat (first | refine blk_drewN ?_ _ | refine blk_drew ?_ | refine blk_alloc ?_ _)); refine blk_put (cs := #[.int .i64 1, .int .i64 0, .int .i64 0]) ?_ 1 _ rfl; (with_reducible repeat (first | refine blk_drewN ?_ _ | refine blk_drew ?_ | refine blk_alloc ?_ _)); refine blk_put (cs := #[.int .i64 0, .int .i64 0, .int .i64 0]) ?_ 0 _ rfl; (with_reducible repeat (first | refine blk_drewN ?_ _ | refine blk_drew ?_ | refine blk_alloc ?_ _)); exact BK206.out) Try.underlying67 rfl (by kernel_rfl)) rfl ?_
    exact ⟨ze, zi92 HI0.out, zj HB.out (IsS92.ge HI0.out), zq HK.out⟩
   ·replace c8 := Bool.eq_false_iff.mpr c8
    subst c8
    have H1 : ((spec_l1Draw.f kj2 s0_0 x1001_2 x1002_2 7).bind fun bt216 => ((spec_l1Draw.f kj2 s0_0 bt216.2.1 bt216.2.2 a1).bind fun bt219 => ((spec_l1Parts.f kj2 (wrap64 (2 + bt216.1))).bind fun t223 => (if t223 = 2 then ((spec_l1Draw.f kj2 s0_0 bt219.2.1 bt219.2.2 a1).bind fun bt224 => (some (wrap64 (2 + bt216.1), bt219.1, bt224.1, bt224.2.1, bt224.2.2))) else (some (wrap64 (2 + bt216.1), bt219.1, 0, bt219.2.1, bt219.2.2)))))) = some (r1, r2, r3, r4, r5) := by rw [if_neg (show ¬ (false = true) by decide)] at H; exact H
    clear H
    have H := H1
    clear H1
    replace H := Option.bind_eq_some_iff.mp H
    obtain ⟨⟨t216, t217, t218⟩, A160, H⟩ := H
    replace H : ((spec_l1Draw.f kj2 s0_0 t217 t218 a1).bind fun bt219 => ((spec_l1Parts.f kj2 (wrap64 (2 + t216))).bind fun t223 => (if t223 = 2 then ((spec_l1Draw.f kj2 s0_0 bt219.2.1 bt219.2.2 a1).bind fun bt224 => (some (wrap64 (2 + t216), bt219.1, bt224.1, bt224.2.1, bt224.2.2))) else (some (wrap64 (2 + t216), bt219.1, 0, bt219.2.1, bt219.2.2))))) = some (r1, r2, r3, r4, r5) := H
    have A16 := Aside0.mk A160
    clear A160
    replace H := Option.bind_eq_some_iff.mp H
    obtain ⟨⟨t219, t220, t221⟩, A170, H⟩ := H
    replace H : ((spec_l1Parts.f kj2 (wrap64 (2 + t216))).bind fun t223 => (if t223 = 2 then ((spec_l1Draw.f kj2 s0_0 t220 t221 a1).bind fun bt224 => (some (wrap64 (2 + t216), t219, bt224.1, bt224.2.1, bt224.2.2))) else (some (wrap64 (2 + t216), t219, 0, t220, t221)))) = some (r1, r2, r3, r4, r5) := H
    have A17 := Aside0.mk A170
    clear A170
    replace H := Option.bind_eq_some_iff.mp H
    obtain ⟨t223, A180, H⟩ := H
    replace H : (if t223 = 2 then ((spec_l1Draw.f kj2 s0_0 t220 t221 a1).bind fun bt224 => (some (wrap64 (2 + t216), t219, bt224.1, bt224.2.1, bt224.2.2))) else (some (wrap64 (2 + t216), t219, 0, t220, t221))) = some (r1, r2, r3, r4, r5) := H
    have A18 := Aside0.mk A180
    clear A180
    by_cases c19 : t223 = 2
    ·rw [if_pos c19] at H
     have c19b0 : (t223 == 2) = true := beq_iff_eq.mpr c19
     have c19b1 : (t223 != 2) = false := bne_eq_false_iff_eq.mpr c19
     clear c19
     replace H := Option.bind_eq_some_iff.mp H
     obtain ⟨⟨t224, t225, t226⟩, A200, H⟩ := H
     replace H : (some (wrap64 (2 + t216), t219, t224, t225, t226)) = some (r1, r2, r3, r4, r5) := H
     have A20 := Aside0.mk A200
     clear A200
     simp only [Option.some.injEq, Prod.mk.injEq] at H
     obtain ⟨rfl, rfl, rfl, rfl, rfl⟩ := H
     go_wp2_with (first | ((with_reducible refine gate_callee (f := 84) rfl ?_); refine goesL_ (some 17) rfl rfl Try.func84 (by kernel_rfl) rfl #[.pointer (some ⟨g, 0, none⟩), .int .i64 7] rfl zl ?_; (with_reducible refine (spec_l1Draw.calls kj2 g s0_0 x1001_2 x1002_2 7 t216 t217 t218 w0 _ ?side1 ?side2 A16.out).mono ?_); (case side1 => exact zi92 HI0.out); (case side2 => exact zj HB.out (IsS92.ge HI0.out)); rintro e w21 ⟨rfl, hi, hb, hk⟩; refine ⟨_, rfl, ?_⟩; have n0_ := Aside0.mk (KeepBut.blk hk (g' := gb206) (o := .cells #[.int .i64 0, .int .i64 0, .int .i64 0] 67 (0, 0)) (zh BK206.out) NB206_0.out (by simp)); have n1_ := Aside0.mk (KeepBut.trans (zq HK.out) hk (.inl rfl)); have n2_ := Aside0.mk (hb); have n3_ := Aside0.mk (hi); clear BK206; clear HK; clear HB; clear HI0; have BK206 := n0_; have HK := n1_; have HB := n2_; have HI0 := n3_; clear n0_ n1_ n2_ n3_; (try clear hb); (try clear hb2); (try clear hk); (try clear hi)) | ((with_reducible refine gate_callee (f := 84) rfl ?_); refine goesL_ (some 21) rfl rfl Try.func84 (by kernel_rfl) rfl #[.pointer (some ⟨g, 0, none⟩), .int .i64 a1] rfl zl ?_; (with_reducible refine (spec_l1Draw.calls kj2 g s0_0 t217 t218 a1 t219 t220 t221 w0 _ ?side1 ?side2 A17.out).mono ?_); (case side1 => exact zi92 HI0.out); (case side2 => exact zj HB.out (IsS92.ge HI0.out)); rintro e w22 ⟨rfl, hi, hb, hk⟩; refine ⟨_, rfl, ?_⟩; have n0_ := Aside0.mk (KeepBut.blk hk (g' := gb206) (o := .cells #[.int .i64 0, .int .i64 0, .int .i64 0] 67 (0, 0)) (zh BK206.out) NB206_0.out (by simp)); have n1_ := Aside0.mk (KeepBut.trans (zq HK.out) hk (.inl rfl)); have n2_ := Aside0.mk (hb); have n3_ := Aside0.mk (hi); clear BK206; clear HK; clear HB; clear HI0; have BK206 := n0_; have HK := n1_; have HB := n2_; have HI0 := n3_; clear n0_ n1_ n2_ n3_; (try clear hb); (try clear hb2); (try clear hk); (try clear hi)) | ((with_reducible refine gate_dst (N := 5) rfl ?_); refine box_event ?hg (N := 5) ?hd (cs := #[.int .i64 0, .int .i64 0, .int .i64 0]) (t := 67) ?hr ?_; (case hd => rfl); (case hg => rfl); (case hr => first | (go_simp; done) | (go_simp; rfl)); intro gb222 hg w23 hbox hb; have n0_ := Aside0.mk (blk_below (zh BK206.out) hb); have n1_ := Aside0.mk (IsS92.below (zi92 HI0.out) hb); have n2_ := Aside0.mk (KeepBut.trans (zq HK.out) (KeepBut.of_below hb g none) (.inl rfl)); have n3_ := Aside0.mk (below_step (zj HB.out (IsS92.ge HI0.out)) hb); have n4_ := Aside0.mk (hbox); have n5_ := Aside0.mk ((by rw [hg]; exact (keep_size (w := w) (g := g) (row := none) (zq HK.out)) : w.heap.size ≤ gb222)); have n6_ := Aside0.mk ((Nat.le_trans HW0.out (by rw [hg]; exact (keep_size (w := w) (g := g) (row := none) (zq HK.out)) : w.heap.size ≤ gb222) : w0.heap.size ≤ gb222)); have n7_ := Aside0.mk ((by rw [hg]; exact Nat.ne_of_lt (blk_lt (zh BK206.out)) : gb206 ≠ gb222)); have n8_ := Aside0.mk ((by rw [hg]; exact Nat.ne_of_gt (blk_lt (zh BK206.out)) : gb222 ≠ gb206)); have n9_ := Aside0.mk ((by rw [hg]; exact Nat.ne_of_lt (IsS92.lt (show IsS92 w0 _ g s0_0 t220 t221 from zi92 HI0.out)) : g ≠ gb222)); have n10_ := Aside0.mk ((by rw [hg]; exact Nat.ne_of_gt (IsS92.lt (show IsS92 w0 _ g s0_0 t220 t221 from zi92 HI0.out)) : gb222 ≠ g)); clear BK206; clear HI0; clear HK; clear HB; have BK206 := n0_; have HI0 := n1_; have HK := n2_; have HB := n3_; have BK222 := n4_; have GW222 := n5_; have GE222 := n6_; have NB206_222 := n7_; have NB222_206 := n8_; have NB0_222 := n9_; have NB222_0 := n10_; clear n0_ n1_ n2_ n3_ n4_ n5_ n6_ n7_ n8_ n9_ n10_; clear hb hbox hg; have hnb24 := NB222_206.out; have hnc24 := NB206_222.out; have hnb25 := NB222_0.out; have hnc25 := NB0_222.out; have hcz26_0 : w23.cell? ⟨gb222, 0, none⟩ = some (.int .i64 0) := (blk_cell BK222.out 0).trans rfl; have hcz26_1 : w23.cell? ⟨gb222, 1, none⟩ = some (.int .i64 0) := (blk_cell BK222.out 1).trans rfl; have hcz26_2 : w23.cell? ⟨gb222, 2, none⟩ = some (.int .i64 0) := (blk_cell BK222.out 2).trans rfl; have hfz26_0 := blk_frozen BK222.out 0; have hfz26_1 := blk_frozen BK222.out 1; have hfz26_2 := blk_frozen BK222.out 2) | ((with_reducible refine gate_callee (f := 86) rfl ?_); refine goesL_ (some 25) rfl rfl Try.func86 (by kernel_rfl) rfl #[.int .i64 (wrap64 (2 + t216))] rfl zl ?_; (with_reducible refine (spec_l1Parts.calls kj2 (wrap64 (2 + t216)) t223 _ A18.out).mono ?_); rintro e w' ⟨rfl, ⟨nd, rfl⟩⟩; refine ⟨_, rfl, ?_⟩) | ((with_reducible refine gate_callee (f := 84) rfl ?_); refine goesL_ (some 29) rfl rfl Try.func84 (by kernel_rfl) rfl #[.pointer (some ⟨g, 0, none⟩), .int .i64 a1] rfl zl ?_; (with_reducible refine (spec_l1Draw.calls kj2 g s0_0 t220 t221 a1 t224 t225 t226 w0 _ ?side1 ?side2 A20.out).mono ?_); (case side1 => exact zi92 HI0.out); (case side2 => exact zj HB.out (IsS92.ge HI0.out)); rintro e w27 ⟨rfl, hi, hb, hk⟩; refine ⟨_, rfl, ?_⟩; have n0_ := Aside0.mk (KeepBut.blk hk (g' := gb206) (o := .cells #[.int .i64 0, .int .i64 0, .int .i64 0] 67 (0, 0)) (zf BK206.out) NB206_0.out (by simp)); have n1_ := Aside0.mk (KeepBut.blk hk (g' := gb222) (o := .cells #[.int .i64 (wrap64 (2 + t216)), .int .i64 t219, .int .i64 0] 67 (0, 0)) (by (with_reducible repeat (first | refine blk_drewN ?_ _ | refine blk_drew ?_ | refine blk_alloc ?_ _)); refine blk_put (cs := #[.int .i64 (wrap64 (2 + t216)), .int .i64 t219, .int .i64 0]) ?_ 2 _ rfl; (with_reducible repeat (first | refine blk_drewN ?_ _ | refine blk_drew ?_ | refine blk_alloc ?_ _)); refine blk_put (cs := #[.int .i64 (wrap64 (2 + t216)), .int .i64 0, .int .i64 0]) ?_ 1 _ rfl; (with_reducible repeat (first | refine blk_drewN ?_ _ | refine blk_drew ?_ | refine blk_alloc ?_ _)); refine blk_put (cs := #[.int .i64 0, .int .i64 0, .int .i64 0]) ?_ 0 _ rfl; (with_reducible repeat (first | refine blk_drewN ?_ _ | refine blk_drew ?_ | refine blk_alloc ?_ _)); exact BK222.out) NB222_0.out (by simp)); have n2_ := Aside0.mk (KeepBut.trans (zq HK.out) hk (.inl rfl)); have n3_ := Aside0.mk (hb); have n4_ := Aside0.mk (hi); clear BK206; clear BK222; clear HK; clear HB; clear HI0; have BK206 := n0_; have BK222 := n1_; have HK := n2_; have HB := n3_; have HI0 := n4_; clear n0_ n1_ n2_ n3_ n4_; (try clear hb); (try clear hb2); (try clear hk); (try clear hi); have hcz28_0 : w27.cell? ⟨gb222, 0, none⟩ = some (.int .i64 (wrap64 (2 + t216))) := (blk_cell BK222.out 0).trans rfl; have hcz28_1 : w27.cell? ⟨gb222, 1, none⟩ = some (.int .i64 t219) := (blk_cell BK222.out 1).trans rfl; have hcz28_2 : w27.cell? ⟨gb222, 2, none⟩ = some (.int .i64 0) := (blk_cell BK222.out 2).trans rfl; have hfz28_0 := blk_frozen BK222.out 0; have hfz28_1 := blk_frozen BK222.out 1; have hfz28_2 := blk_frozen BK222.out 2; have hnb29 := NB206_0.out; have hnc29 := NB0_206.out; have hcz30_0 : w27.cell? ⟨gb206, 0, none⟩ = some (.int .i64 0) := (blk_cell BK206.out 0).trans rfl; have hcz30_1 : w27.cell? ⟨gb206, 1, none⟩ = some (.int .i64 0) := (blk_cell BK206.out 1).trans rfl; have hcz30_2 : w27.cell? ⟨gb206, 2, none⟩ = some (.int .i64 0) := (blk_cell BK206.out 2).trans rfl; have hfz30_0 := blk_frozen BK206.out 0; have hfz30_1 := blk_frozen BK206.out 1; have hfz30_2 := blk_frozen BK206.out 2))
     refine bodyPost_ret (results_cell_row rfl _ _ gb206 67 #[.int .i64 (wrap64 (2 + t216)), .int .i64 t219, .int .i64 t224] (0, 0) _ rfl (by (with_reducible repeat (first | refine blk_drewN ?_ _ | refine blk_drew ?_ | refine blk_alloc ?_ _)); refine blk_put (cs := #[.int .i64 (wrap64 (2 + t216)), .int .i64 t219, .int .i64 0]) ?_ 2 _ rfl; (with_reducible repeat (first | refine blk_drewN ?_ _ | refine blk_drew ?_ | refine blk_alloc ?_ _)); refine blk_put (cs := #[.int .i64 (wrap64 (2 + t216)), .int .i64 0, .int .i64 0]) ?_ 1 _ rfl; (with_reducible repeat (first | refine blk_drewN ?_ _ | refine blk_drew ?_ | refine blk_alloc ?_ _)); refine blk_put (cs := #[.int .i64 0, .int .i64 0, .int .i64 0]) ?_ 0 _ rfl; (with_reducible repeat (first | refine blk_drewN ?_ _ | refine blk_drew ?_ | refine blk_alloc ?_ _)); refine blk_far ?_ NB206_222.out _; (with_reducible repeat (first | refine blk_drewN ?_ _ | refine blk_drew ?_ | refine blk_alloc ?_ _)); exact BK206.out) Try.underlying67 rfl (by kernel_rfl)) rfl ?_
     exact ⟨ze, zi92 HI0.out, zj HB.out (IsS92.ge HI0.out), zq HK.out⟩
    ·rw [if_neg c19] at H
     have c19b0 : (t223 == 2) = false := beq_eq_false_iff_ne.mpr c19
     have c19b1 : (t223 != 2) = true := bne_iff_ne.mpr c19
     simp only [Option.some.injEq, Prod.mk.injEq] at H
     obtain ⟨rfl, rfl, rfl, rfl, rfl⟩ := H
     go_wp2_with (first | ((with_reducible refine gate_callee (f := 84) rfl ?_); refine goesL_ (some 17) rfl rfl Try.func84 (by kernel_rfl) rfl #[.pointer (some ⟨g, 0, none⟩), .int .i64 7] rfl zl ?_; (with_reducible refine (spec_l1Draw.calls kj2 g s0_0 x1001_2 x1002_2 7 t216 t217 t218 w0 _ ?side1 ?side2 A16.out).mono ?_); (case side1 => exact zi92 HI0.out); (case side2 => exact zj HB.out (IsS92.ge HI0.out)); rintro e w31 ⟨rfl, hi, hb, hk⟩; refine ⟨_, rfl, ?_⟩; have n0_ := Aside0.mk (KeepBut.blk hk (g' := gb206) (o := .cells #[.int .i64 0, .int .i64 0, .int .i64 0] 67 (0, 0)) (zh BK206.out) NB206_0.out (by simp)); have n1_ := Aside0.mk (KeepBut.trans (zq HK.out) hk (.inl rfl)); have n2_ := Aside0.mk (hb); have n3_ := Aside0.mk (hi); clear BK206; clear HK; clear HB; clear HI0; have BK206 := n0_; have HK := n1_; have HB := n2_; have HI0 := n3_; clear n0_ n1_ n2_ n3_; (try clear hb); (try clear hb2); (try clear hk); (try clear hi)) | ((with_reducible refine gate_callee (f := 84) rfl ?_); refine goesL_ (some 21) rfl rfl Try.func84 (by kernel_rfl) rfl #[.pointer (some ⟨g, 0, none⟩), .int .i64 a1] rfl zl ?_; (with_reducible refine (spec_l1Draw.calls kj2 g s0_0 t217 t218 a1 t219 t220 t221 w0 _ ?side1 ?side2 A17.out).mono ?_); (case side1 => exact zi92 HI0.out); (case side2 => exact zj HB.out (IsS92.ge HI0.out)); rintro e w32 ⟨rfl, hi, hb, hk⟩; refine ⟨_, rfl, ?_⟩; have n0_ := Aside0.mk (KeepBut.blk hk (g' := gb206) (o := .cells #[.int .i64 0, .int .i64 0, .int .i64 0] 67 (0, 0)) (zh BK206.out) NB206_0.out (by simp)); have n1_ := Aside0.mk (KeepBut.trans (zq HK.out) hk (.inl rfl)); have n2_ := Aside0.mk (hb); have n3_ := Aside0.mk (hi); clear BK206; clear HK; clear HB; clear HI0; have BK206 := n0_; have HK := n1_; have HB := n2_; have HI0 := n3_; clear n0_ n1_ n2_ n3_; (try clear hb); (try clear hb2); (try clear hk); (try clear hi)) | ((with_reducible refine gate_dst (N := 5) rfl ?_); refine box_event ?hg (N := 5) ?hd (cs := #[.int .i64 0, .int .i64 0, .int .i64 0]) (t := 67) ?hr ?_; (case hd => rfl); (case hg => rfl); (case hr => first | (go_simp; done) | (go_simp; rfl)); intro gb222 hg w33 hbox hb; have n0_ := Aside0.mk (blk_below (zh BK206.out) hb); have n1_ := Aside0.mk (IsS92.below (zi92 HI0.out) hb); have n2_ := Aside0.mk (KeepBut.trans (zq HK.out) (KeepBut.of_below hb g none) (.inl rfl)); have n3_ := Aside0.mk (below_step (zj HB.out (IsS92.ge HI0.out)) hb); have n4_ := Aside0.mk (hbox); have n5_ := Aside0.mk ((by rw [hg]; exact (keep_size (w := w) (g := g) (row := none) (zq HK.out)) : w.heap.size ≤ gb222)); have n6_ := Aside0.mk ((Nat.le_trans HW0.out (by rw [hg]; exact (keep_size (w := w) (g := g) (row := none) (zq HK.out)) : w.heap.size ≤ gb222) : w0.heap.size ≤ gb222)); have n7_ := Aside0.mk ((by rw [hg]; exact Nat.ne_of_lt (blk_lt (zh BK206.out)) : gb206 ≠ gb222)); have n8_ := Aside0.mk ((by rw [hg]; exact Nat.ne_of_gt (blk_lt (zh BK206.out)) : gb222 ≠ gb206)); have n9_ := Aside0.mk ((by rw [hg]; exact Nat.ne_of_lt (IsS92.lt (show IsS92 w0 _ g s0_0 t220 t221 from zi92 HI0.out)) : g ≠ gb222)); have n10_ := Aside0.mk ((by rw [hg]; exact Nat.ne_of_gt (IsS92.lt (show IsS92 w0 _ g s0_0 t220 t221 from zi92 HI0.out)) : gb222 ≠ g)); clear BK206; clear HI0; clear HK; clear HB; have BK206 := n0_; have HI0 := n1_; have HK := n2_; have HB := n3_; have BK222 := n4_; have GW222 := n5_; have GE222 := n6_; have NB206_222 := n7_; have NB222_206 := n8_; have NB0_222 := n9_; have NB222_0 := n10_; clear n0_ n1_ n2_ n3_ n4_ n5_ n6_ n7_ n8_ n9_ n10_; clear hb hbox hg; have hnb34 := NB222_206.out; have hnc34 := NB206_222.out; have hnb35 := NB222_0.out; have hnc35 := NB0_222.out; have hcz36_0 : w33.cell? ⟨gb222, 0, none⟩ = some (.int .i64 0) := (blk_cell BK222.out 0).trans rfl; have hcz36_1 : w33.cell? ⟨gb222, 1, none⟩ = some (.int .i64 0) := (blk_cell BK222.out 1).trans rfl; have hcz36_2 : w33.cell? ⟨gb222, 2, none⟩ = some (.int .i64 0) := (blk_cell BK222.out 2).trans rfl; have hfz36_0 := blk_frozen BK222.out 0; have hfz36_1 := blk_frozen BK222.out 1; have hfz36_2 := blk_frozen BK222.out 2) | ((with_reducible refine gate_callee (f := 86) rfl ?_); refine goesL_ (some 25) rfl rfl Try.func86 (by kernel_rfl) rfl #[.int .i64 (wrap64 (2 + t216))] rfl zl ?_; (with_reducible refine (spec_l1Parts.calls kj2 (wrap64 (2 + t216)) t223 _ A18.out).mono ?_); rintro e w' ⟨rfl, ⟨nd, rfl⟩⟩; refine ⟨_, rfl, ?_⟩; have hnb37 := NB206_0.out; have hnc37 := NB0_206.out; have hcz38_0 : w33.cell? ⟨gb206, 0, none⟩ = some (.int .i64 0) := (blk_cell BK206.out 0).trans rfl; have hcz38_1 : w33.cell? ⟨gb206, 1, none⟩ = some (.int .i64 0) := (blk_cell BK206.out 1).trans rfl; have hcz38_2 : w33.cell? ⟨gb206, 2, none⟩ = some (.int .i64 0) := (blk_cell BK206.out 2).trans rfl; have hfz38_0 := blk_frozen BK206.out 0; have hfz38_1 := blk_frozen BK206.out 1; have hfz38_2 := blk_frozen BK206.out 2))
     refine bodyPost_ret (results_cell_row rfl _ _ gb206 67 #[.int .i64 (wrap64 (2 + t216)), .int .i64 t219, .int .i64 0] (0, 0) _ rfl (by (with_reducible repeat (first | refine blk_drewN ?_ _ | refine blk_drew ?_ | refine blk_alloc ?_ _)); refine blk_put (cs := #[.int .i64 (wrap64 (2 + t216)), .int .i64 t219, .int .i64 0]) ?_ 2 _ rfl; (with_reducible repeat (first | refine blk_drewN ?_ _ | refine blk_drew ?_ | refine blk_alloc ?_ _)); refine blk_put (cs := #[.int .i64 (wrap64 (2 + t216)), .int .i64 0, .int .i64 0]) ?_ 1 _ rfl; (with_reducible repeat (first | refine blk_drewN ?_ _ | refine blk_drew ?_ | refine blk_alloc ?_ _)); refine blk_put (cs := #[.int .i64 0, .int .i64 0, .int .i64 0]) ?_ 0 _ rfl; (with_reducible repeat (first | refine blk_drewN ?_ _ | refine blk_drew ?_ | refine blk_alloc ?_ _)); refine blk_far ?_ NB206_222.out _; (with_reducible repeat (first | refine blk_drewN ?_ _ | refine blk_drew ?_ | refine blk_alloc ?_ _)); refine blk_far ?_ NB206_222.out _; (with_reducible repeat (first | refine blk_drewN ?_ _ | refine blk_drew ?_ | refine blk_alloc ?_ _)); refine blk_far ?_ NB206_222.out _; (with_reducible repeat (first | refine blk_drewN ?_ _ | refine blk_drew ?_ | refine blk_alloc ?_ _)); exact BK206.out) Try.underlying67 rfl (by kernel_rfl)) rfl ?_
     exact ⟨ze, zi92 HI0.out, zj HB.out (IsS92.ge HI0.out), zq HK.out⟩

end Go.Proofs.Ytilnfdnigjblcaa.H
end

section
-- Written by this session's program (wip/tools/gprint.py over the kit's print) out of the translation; Lean checks it.
namespace Go.Proofs.Ytilnfdnigjblcaa.H
open Go.RowKit Go.Proofs.YtilnfdnigjblcaaW.PrintWords Go.Proofs.YtilnfdnigjblcaaW.PrintLast Go.Proofs.YtilnfdnigjblcaaW.PrintMore
attribute [local go_sem] max2_int min2_int max_two min_two max_three min_three max_four min_four   -- for this text's walks alone
set_option linter.unusedVariables false
set_option linter.unusedSimpArgs false
set_option maxRecDepth 100000

/-! ### spec_l1DrawPool: function 78 -/
def spec_l1DrawPool.l0 : Nat → Int → Int → List Int → Int → Int → List (S67) → Option ((List (S67)) × Int × Int)
 | 0, _, _, _, _, _, _ => none
 | k + 1, x6, x7, x1000, x1001, x1002, x229000 => if x7 < x6 then ((spec_l1DrawNode.f k x1000 x1001 x1002 (x229000.length : Int)).bind fun bt232 => ((spec_l1Add.f k x229000 bt232.1 bt232.2.1 bt232.2.2.1).bind fun bt237 => (spec_l1DrawPool.l0 k x6 (wrap64 (x7 + 1)) x1000 bt232.2.2.2.1 bt232.2.2.2.2 bt237.1))) else (some (x229000, x1001, x1002))
def spec_l1DrawPool.f (k : Nat) (s0_0 : List Int) (s0_1 : Int) (s0_2 : Int) (a1 : Int) : Option ((List (S67)) × Int × Int) := (spec_l1Below.f s0_0 s0_1 s0_2 (wrap64 (a1 + 1))).bind fun bt229 => (spec_l1DrawPool.l0 k bt229.1 0 s0_0 bt229.2.1 bt229.2.2 ([] : List (S67)))
theorem spec_l1DrawPool.mono_l : ∀ k, (∀ y0 y1 y2 y3 y4 y5, LeO (spec_l1DrawPool.l0 k y0 y1 y2 y3 y4 y5) (spec_l1DrawPool.l0 (k + 1) y0 y1 y2 y3 y4 y5))
 | 0 => fun _ _ _ _ _ _ r h => by simp [spec_l1DrawPool.l0] at h
 | k + 1 => by
  have ih0 := spec_l1DrawPool.mono_l k
  ·intro y0 y1 y2 y3 y4 y5
   unfold spec_l1DrawPool.l0
   repeat' first
   | (with_reducible exact ih0 _ _ _ _ _ _)
   | (with_reducible exact spec_l1Add.mono _ _ _ _ _)
   | (with_reducible exact spec_l1DrawNode.mono _ _ _ _ _)
   | (with_reducible exact LeO.refl _)
   | (with_reducible exact LeO.none _)
   | (with_reducible refine LeO.ite ?_ ?_)
   | (with_reducible refine LeO.bind ?_ (fun _ => ?_))
   | exact ih0 _ _ _ _ _ _
   | exact spec_l1Add.mono _ _ _ _ _
   | exact spec_l1DrawNode.mono _ _ _ _ _
   | exact LeO.none _
   | refine LeO.ite ?_ ?_
   | refine LeO.bind ?_ (fun _ => ?_)
theorem spec_l1DrawPool.mono : ∀ a0 a1 a2 a3 k, LeO (spec_l1DrawPool.f k a0 a1 a2 a3) (spec_l1DrawPool.f (k + 1) a0 a1 a2 a3) := by
 intro a0 a1 a2 a3 k
 have ih0 := spec_l1DrawPool.mono_l k
 unfold spec_l1DrawPool.f
 repeat' first
   | (with_reducible exact ih0 _ _ _ _ _ _)
   | (with_reducible exact spec_l1Add.mono _ _ _ _ _)
   | (with_reducible exact spec_l1DrawNode.mono _ _ _ _ _)
   | (with_reducible exact LeO.refl _)
   | (with_reducible exact LeO.none _)
   | (with_reducible refine LeO.ite ?_ ?_)
   | (with_reducible refine LeO.bind ?_ (fun _ => ?_))
   | exact ih0 _ _ _ _ _ _
   | exact spec_l1Add.mono _ _ _ _ _
   | exact spec_l1DrawNode.mono _ _ _ _ _
   | exact LeO.none _
   | refine LeO.ite ?_ ?_
   | refine LeO.bind ?_ (fun _ => ?_)
def spec_l1DrawPool.T6 : Bool × List (List Nat × List Nat) := (true, [([], []), ([], []), ([], []), ([2], [2]), ([3], [3]), ([1, 4], [1, 4]), ([0, 5, 5], [0, 5]), ([6], [6]), ([7], [7]), ([7], [7]), ([8, 6, 0, 1, 2, 3, 4, 5, 6, 7, 8], [8])])
def spec_l1DrawPool.B6 : List Nat := [0, 0, 0, 4, 12, 30, 63, 127, 255, 255, 511]
theorem spec_l1DrawPool.tab6 : rtab .any (opsOf Try.f78 6) = spec_l1DrawPool.T6 := by kernel_rfl
theorem spec_l1DrawPool.bits6 : waitsOk spec_l1DrawPool.T6.2 spec_l1DrawPool.B6 = true := by kernel_rfl
set_option maxHeartbeats 8000000 in
set_option maxRecDepth 100000 in
theorem spec_l1DrawPool.calls (k : Nat) (g : Nat) (s0_0 : List Int) (s0_1 : Int) (s0_2 : Int) (a1 : Int) (r1 : List (S67)) (r2 : Int) (r3 : Int) (w0 w : World) (hI : IsS92 w0 w g s0_0 s0_1 s0_2) (hB : Below w0.heap.size w0 w) (h : spec_l1DrawPool.f k s0_0 s0_1 s0_2 a1 = some (r1, r2, r3)) :
  Calls Try.prog 78 #[.pointer (some ⟨g, 0, none⟩), .int .i64 a1] w fun e w' => ∃ v0_ : Value, e = .returned (.agg #[v0_]) ∧ Kd.R k67 67 w' w.heap.size (fun _ => True) v0_ r1 ∧ IsS92 w0 w' g s0_0 r2 r3 ∧ Below w0.heap.size w0 w' ∧ KeepBut w w' g none := by
 have hu31 := Try.underlying31
 have HI0 := Aside0.mk hI
 have HK := Aside0.mk (KeepBut.refl w g none)
 have HL := Aside0.mk hB.size
 clear hI
 have HW0 := Aside0.mk hB.size
 have HB := Aside0.mk hB
 clear hB
 have H : ((spec_l1Below.f s0_0 s0_1 s0_2 (wrap64 (a1 + 1))).bind fun bt229 => (spec_l1DrawPool.l0 k bt229.1 0 s0_0 bt229.2.1 bt229.2.2 ([] : List (S67)))) = some (r1, r2, r3) := h
 clear h
 replace H := Option.bind_eq_some_iff.mp H
 obtain ⟨⟨t229, t230, t231⟩, A30, H⟩ := H
 replace H : (spec_l1DrawPool.l0 k t229 0 s0_0 t230 t231 ([] : List (S67))) = some (r1, r2, r3) := H
 have A3 := Aside0.mk A30
 clear A30
 have H' := Aside0.mk H
 clear H
 go_enter Try.func78, Try.ntmps78
 go_wp2_with (first | ((with_reducible refine gate_dst (N := 4) rfl ?_); refine box_event ?hg (N := 4) ?hd (cs := #[.slice none 0 0]) (t := 31) ?hr ?_; (case hd => rfl); (case hg => rfl); (case hr => first | (go_simp; done) | (go_simp; rfl)); intro gb227 hg w4 hbox hb; have n0_ := Aside0.mk (IsS92.below (zi92 HI0.out) hb); have n1_ := Aside0.mk (KeepBut.trans (zq HK.out) (KeepBut.of_below hb g none) (.inl rfl)); have n2_ := Aside0.mk (below_step (zj HB.out (IsS92.ge HI0.out)) hb); have n3_ := Aside0.mk (hbox); have n4_ := Aside0.mk ((by rw [hg]; exact (keep_size (w := w) (g := g) (row := none) (zq HK.out)) : w.heap.size ≤ gb227)); have n5_ := Aside0.mk ((Nat.le_trans HW0.out (by rw [hg]; exact (keep_size (w := w) (g := g) (row := none) (zq HK.out)) : w.heap.size ≤ gb227) : w0.heap.size ≤ gb227)); have n6_ := Aside0.mk ((by rw [hg]; exact Nat.ne_of_lt (IsS92.lt (show IsS92 w0 _ g s0_0 s0_1 s0_2 from zi92 HI0.out)) : g ≠ gb227)); have n7_ := Aside0.mk ((by rw [hg]; exact Nat.ne_of_gt (IsS92.lt (show IsS92 w0 _ g s0_0 s0_1 s0_2 from zi92 HI0.out)) : gb227 ≠ g)); clear HI0; clear HK; clear HB; have HI0 := n0_; have HK := n1_; have HB := n2_; have BK227 := n3_; have GW227 := n4_; have GE227 := n5_; have NB0_227 := n6_; have NB227_0 := n7_; clear n0_ n1_ n2_ n3_ n4_ n5_ n6_ n7_; clear hb hbox hg) | ((with_reducible refine gate_dst (N := 5) rfl ?_); refine box_event ?hg (N := 5) ?hd (cs := #[.slice none 0 0]) (t := 31) ?hr ?_; (case hd => rfl); (case hg => rfl); (case hr => first | (go_simp; done) | (go_simp; rfl)); intro gb228 hg w5 hbox hb; have n0_ := Aside0.mk (IsS92.below (zi92 HI0.out) hb); have n1_ := Aside0.mk (blk_below (zh BK227.out) hb); have n2_ := Aside0.mk (KeepBut.trans (zq HK.out) (KeepBut.of_below hb g none) (.inl rfl)); have n3_ := Aside0.mk (below_step (zj HB.out (IsS92.ge HI0.out)) hb); have n4_ := Aside0.mk (hbox); have n5_ := Aside0.mk ((by rw [hg]; exact (keep_size (w := w) (g := g) (row := none) (zq HK.out)) : w.heap.size ≤ gb228)); have n6_ := Aside0.mk ((Nat.le_trans HW0.out (by rw [hg]; exact (keep_size (w := w) (g := g) (row := none) (zq HK.out)) : w.heap.size ≤ gb228) : w0.heap.size ≤ gb228)); have n7_ := Aside0.mk ((by rw [hg]; exact Nat.ne_of_lt (blk_lt (zh BK227.out)) : gb227 ≠ gb228)); have n8_ := Aside0.mk ((by rw [hg]; exact Nat.ne_of_gt (blk_lt (zh BK227.out)) : gb228 ≠ gb227)); have n9_ := Aside0.mk ((by rw [hg]; exact Nat.ne_of_lt (IsS92.lt (show IsS92 w0 _ g s0_0 s0_1 s0_2 from zi92 HI0.out)) : g ≠ gb228)); have n10_ := Aside0.mk ((by rw [hg]; exact Nat.ne_of_gt (IsS92.lt (show IsS92 w0 _ g s0_0 s0_1 s0_2 from zi92 HI0.out)) : gb228 ≠ g)); clear HI0; clear BK227; clear HK; clear HB; have HI0 := n0_; have BK227 := n1_; have HK := n2_; have HB := n3_; have BK228 := n4_; have GW228 := n5_; have GE228 := n6_; have NB227_228 := n7_; have NB228_227 := n8_; have NB0_228 := n9_; have NB228_0 := n10_; clear n0_ n1_ n2_ n3_ n4_ n5_ n6_ n7_ n8_ n9_ n10_; clear hb hbox hg; have hnb6 := NB228_227.out; have hnc6 := NB227_228.out; have hnb7 := NB228_0.out; have hnc7 := NB0_228.out; have hcz8_0 : w5.cell? ⟨gb228, 0, none⟩ = some (.slice none 0 0) := (blk_cell BK228.out 0).trans rfl; have hfz8_0 := blk_frozen BK228.out 0) | ((with_reducible refine gate_callee (f := 79) rfl ?_); refine goesL_ (some 12) rfl rfl Try.func79 (by kernel_rfl) rfl #[.pointer (some ⟨g, 0, none⟩), .int .i64 (wrap64 (a1 + 1))] rfl zl ?_; (with_reducible refine (spec_l1Below.calls g s0_0 s0_1 s0_2 (wrap64 (a1 + 1)) t229 t230 t231 w0 _ ?side1 ?side2 A3.out).mono ?_); (case side1 => exact zi92 HI0.out); (case side2 => exact zj HB.out (IsS92.ge HI0.out)); rintro e w9 ⟨rfl, hi, hb, hk⟩; refine ⟨_, rfl, ?_⟩; have n0_ := Aside0.mk (KeepBut.blk hk (g' := gb227) (o := .cells #[.slice none 0 0] 31 (0, 0)) (zf BK227.out) NB227_0.out (by simp)); have n1_ := Aside0.mk (KeepBut.blk hk (g' := gb228) (o := .cells #[.slice none 0 0] 31 (0, 0)) (by (with_reducible repeat (first | refine blk_drewN ?_ _ | refine blk_drew ?_ | refine blk_alloc ?_ _)); refine blk_put (cs := #[.slice none 0 0]) ?_ 0 _ rfl; (with_reducible repeat (first | refine blk_drewN ?_ _ | refine blk_drew ?_ | refine blk_alloc ?_ _)); exact BK228.out) NB228_0.out (by simp)); have n2_ := Aside0.mk (KeepBut.trans (zq HK.out) hk (.inl rfl)); have n3_ := Aside0.mk (hb); have n4_ := Aside0.mk (hi); clear BK227; clear BK228; clear HK; clear HB; clear HI0; have BK227 := n0_; have BK228 := n1_; have HK := n2_; have HB := n3_; have HI0 := n4_; clear n0_ n1_ n2_ n3_ n4_; (try clear hb); (try clear hb2); (try clear hk); (try clear hi)))
 go_loopg [7] k (fun kq v7 w' => ∃ (x7_1 : Int) (x1001_1 : Int) (x1002_1 : Int) (x229000_1 : List (S67)) (u229000 : Value), v7 = .int .i64 x7_1 ∧ Aside0 (spec_l1DrawPool.l0 kq t229 x7_1 s0_0 x1001_1 x1002_1 x229000_1 = some (r1, r2, r3)) ∧ Aside0 (kq ≤ k) ∧ Aside0 (Kd.R k67 67 w' w.heap.size (fun _ => True) u229000 x229000_1) ∧ Aside0 (w'.heap[gb227]? = some (.cells #[(.slice none 0 0)] 31 (0, 0))) ∧ Aside0 (w'.heap[gb228]? = some (.cells #[u229000] 31 (0, 0))) ∧ Aside0 (IsS92 w0 w' g s0_0 x1001_1 x1002_1) ∧ Aside0 (KeepBut w w' g none) ∧ Aside0 (Below w0.heap.size w0 w'))
 case atStart => exact ⟨(0), (t230), (t231), (([] : List (S67))), (.slice none 0 0), (by first | rfl | (simp; done) | (simp [*]; done)), H', ⟨Nat.le_refl _⟩, ⟨by first | exact Kd.R_nil _ _ _ _ _ | exact Kd.N_nil _ _ _ _ _ | exact Kd.V_nil _ _ _ _ _ | exact Kd.Q_nil _ _ _ _ _ | exact Kd.S_nil _ _ _ _ _⟩, ⟨zh BK227.out⟩, ⟨zh BK228.out⟩, ⟨zi92 HI0.out⟩, ⟨zq HK.out⟩, ⟨zj HB.out (IsS92.ge HI0.out)⟩⟩
 case round =>
  clear H'
  try clear p2
  try clear c6
  try clear p6
  try clear c7
  try clear hcz8_0
  try clear hfz8_0
  obtain ⟨x7_1, x1001_1, x1002_1, x229000_1, u229000, rfl, HA, HK1, HO_229000, BK227, BK228, HI0, HK, HB⟩ := hrel
  cases gk with
  | zero => exact absurd HA.out (by simp [spec_l1DrawPool.l0])
  | succ k1 =>
   have H := HA.out
   clear HA
   simp only [spec_l1DrawPool.l0] at H
   by_cases c10 : x7_1 < t229
   ·rw [if_pos c10] at H
    have c10b0 : decide (x7_1 < t229) = true := decide_eq_true c10
    clear c10
    replace H := Option.bind_eq_some_iff.mp H
    obtain ⟨⟨t232, t233, t234, t235, t236⟩, A110, H⟩ := H
    replace H : ((spec_l1Add.f k1 x229000_1 t232 t233 t234).bind fun bt237 => (spec_l1DrawPool.l0 k1 t229 (wrap64 (x7_1 + 1)) s0_0 t235 t236 bt237.1)) = some (r1, r2, r3) := H
    have A11 := Aside0.mk A110
    clear A110
    replace H := Option.bind_eq_some_iff.mp H
    obtain ⟨⟨t237, t240⟩, A120, H⟩ := H
    replace H : (spec_l1DrawPool.l0 k1 t229 (wrap64 (x7_1 + 1)) s0_0 t235 t236 t237) = some (r1, r2, r3) := H
    have A12 := Aside0.mk A120
    clear A120
    have H' := Aside0.mk H
    clear H
    try go_wp2
    have n0_ := Aside0.mk (Kd.R_drew HO_229000.out)
    have n1_ := Aside0.mk (blk_drew BK227.out)
    have n2_ := Aside0.mk (blk_drew BK228.out)
    have n3_ := Aside0.mk (IsS92.drew HI0.out)
    have n4_ := Aside0.mk (keep_drew HK.out)
    have n5_ := Aside0.mk (below_drew1 HB.out)
    clear HO_229000
    clear BK227
    clear BK228
    clear HI0
    clear HK
    clear HB
    have HO_229000 := n0_
    have BK227 := n1_
    have BK228 := n2_
    have HI0 := n3_
    have HK := n4_
    have HB := n5_
    clear n0_ n1_ n2_ n3_ n4_ n5_
    obtain ⟨Ao14, co14, eo14⟩ := Kd.R_slice HO_229000.out
    (first | subst eo14 | (injection eo14 with f1_ f2_ f3_; have f4_ := f1_.symm; have f5_ := f3_.symm; clear f1_ f2_ f3_; subst f4_; subst f5_))
    refine start_ (n := 11) (S := fun w' => w'.cell? ⟨gb228, 0, none⟩ = some (.slice Ao14 x229000_1.length co14)) (ds := [10]) #[false, false, false, false, false, false, false, false, false, false, false] (by kernel_rfl) rfl rfl ((blk_cell BK228.out 0).trans rfl) (fun hHeld => ?_); refine with_tabW spec_l1DrawPool.tab6 spec_l1DrawPool.bits6 (fun HT_ HW_ => ?_)
    generalize wr.drew = w13 at HO_229000 BK227 BK228 HI0 HK HB hHeld ⊢
    refine pure_ (i := 1) (N := some 20) (v := ?_) (a' := ?_) #[false, true, false, false, false, false, false, false, false, false, false] rfl rfl (any_of HT_.out (by kernel_rfl)) (fun _ _ _ h => h) (Or.inl ⟨by rfl, ?_⟩) ?_ ?_
    rotate_left
    ·intro w'
     go_simp
     with_reducible rfl
    rotate_left
    ·simp only [Act.put, List.setIfInBounds_toArray, List.set_cons_zero, List.set_cons_succ, i64_w, i32_w]
     rfl
    refine pure_ (i := 2) (N := some 21) (v := ?_) (a' := ?_) #[false, true, true, false, false, false, false, false, false, false, false] rfl rfl (any_of HT_.out (by kernel_rfl)) (fun _ _ _ h => h) (Or.inl ⟨by rfl, ?_⟩) ?_ ?_
    rotate_left
    ·intro w'
     go_simp
     with_reducible rfl
    rotate_left
    ·simp only [Act.put, List.setIfInBounds_toArray, List.set_cons_zero, List.set_cons_succ, i64_w, i32_w]
     rfl
    refine take_ (i := 0) (N := some 19) (v := ?_) (a' := ?_) #[true, true, true, false, false, false, false, false, false, false, false] rfl rfl (take_ofW HT_.out HW_.out (by kernel_rfl)) (fun _ _ _ h => h) (Or.inl ⟨by rfl, ?_⟩) hHeld ?_ ?_
    rotate_left
    ·intro w' s0
     go_simp
     with_reducible rfl
    rotate_left
    ·simp only [Act.put, List.setIfInBounds_toArray, List.set_cons_zero, List.set_cons_succ, i64_w, i32_w]
     rfl
    refine take_ (i := 3) (N := some 22) (v := ?_) (a' := ?_) #[true, true, true, true, false, false, false, false, false, false, false] rfl rfl (take_ofW HT_.out HW_.out (by kernel_rfl)) (fun _ _ _ h => h) (Or.inl ⟨by rfl, ?_⟩) hHeld ?_ ?_
    rotate_left
    ·intro w' s0
     go_simp
     with_reducible rfl
    rotate_left
    ·simp only [Act.put, List.setIfInBounds_toArray, List.set_cons_zero, List.set_cons_succ, i64_w, i32_w]
     rfl
    refine pure_ (i := 4) (N := some 23) (v := ?_) (a' := ?_) #[true, true, true, true, true, false, false, false, false, false, false] rfl rfl (any_of HT_.out (by kernel_rfl)) (fun _ _ _ h => h) (Or.inl ⟨by rfl, ?_⟩) ?_ ?_
    rotate_left
    ·intro w'
     go_simp
     with_reducible rfl
    rotate_left
    ·simp only [Act.put, List.setIfInBounds_toArray, List.set_cons_zero, List.set_cons_succ, i64_w, i32_w]
     rfl
    refine one_ (i := 5) (N := some 24) #[true, true, true, true, true, true, false, false, false, false, false] rfl rfl (one_of HT_.out (by kernel_rfl)) (by decide) (fun K hK => ?_)
    refine goes_ Try.func80 (by kernel_rfl) rfl #[.pointer (some ⟨g, 0, none⟩), .int .i64 (x229000_1.length : Int)] (by rfl) rfl rfl zl ?_
    with_reducible refine (spec_l1DrawNode.calls k1 g s0_0 x1001_1 x1002_1 (x229000_1.length : Int) t232 t233 t234 t235 t236 w0 _ ?side1 ?side2 A11.out).mono ?_
    (case side1 => exact zi92 HI0.out)
    (case side2 => exact zj HB.out (IsS92.ge HI0.out))
    rintro e w15 ⟨rfl, hi, hb, hk⟩
    refine ⟨_, rfl, ?_⟩
    have n0_ := Aside0.mk (Kd.R_mono (Kd.R_keep (IsS92.apart (show IsS92 w0 _ g s0_0 x1001_1 x1002_1 from zi92 HI0.out) (zr HO_229000.out) (by decide)) hk (fun _ h => h.2)) (fun _ h => h.1))
    have n1_ := Aside0.mk (KeepBut.blk hk (g' := gb227) (o := .cells #[.slice none 0 0] 31 (0, 0)) (zh BK227.out) NB227_0.out (by simp))
    have n2_ := Aside0.mk (KeepBut.blk hk (g' := gb228) (o := .cells #[.slice Ao14 x229000_1.length co14] 31 (0, 0)) (zh BK228.out) NB228_0.out (by simp))
    have n3_ := Aside0.mk (KeepBut.trans (zq HK.out) hk (.inl rfl))
    have n4_ := Aside0.mk (hb)
    have n5_ := Aside0.mk (hi)
    clear HO_229000
    clear BK227
    clear BK228
    clear HK
    clear HB
    clear HI0
    have HO_229000 := n0_
    have BK227 := n1_
    have BK228 := n2_
    have HK := n3_
    have HB := n4_
    have HI0 := n5_
    clear n0_ n1_ n2_ n3_ n4_ n5_
    (try clear hb)
    (try clear hb2)
    (try clear hk)
    (try clear hi)
    refine hK.out _ _ ((blk_cell BK228.out 0).trans rfl) (fun hHeld => ?_)
    clear hK K
    refine norm_ (a' := ?_) ?_ ?_
    rotate_left
    ·show Act.put _ (some 24) _ = _
     simp only [Act.put, List.setIfInBounds_toArray, List.set_cons_zero, List.set_cons_succ, i64_w, i32_w]
     rfl
    refine one_ (i := 6) (N := some 25) #[true, true, true, true, true, true, true, false, false, false, false] rfl rfl (one_of HT_.out (by kernel_rfl)) (by decide) (fun K hK => ?_)
    refine goes_ Try.func71 (by kernel_rfl) rfl #[.agg #[.slice Ao14 x229000_1.length co14], .agg #[.int .i64 t232, .int .i64 t233, .int .i64 t234]] (by rfl) rfl rfl zl ?_
    with_reducible refine (spec_l1Add.calls k1 (fun k_ => some k_ = (.slice Ao14 x229000_1.length co14 : Value).ownBlock) (.slice Ao14 x229000_1.length co14) x229000_1 t232 t233 t234 t237 t240 w0 _ ?side1 ?side2 A12.out).mono ?_
    (case side1 => exact zj HB.out (IsS92.ge HI0.out))
    (case side2 => exact Kd.R_lower (Kd.R_tight rfl HO_229000.out) HL.out)
    rintro e w16 ⟨v238, rfl, ho0, hb, hkp⟩
    refine ⟨_, rfl, ?_⟩
    have n0_ := Aside0.mk (blk_kept (zh BK227.out) hkp (fun hs_ => (fun e_ => (Kd.R_ne HO_229000.out BK227.out (by decide)) e_) hs_))
    have n1_ := Aside0.mk (blk_kept (zh BK228.out) hkp (fun hs_ => (fun e_ => (Kd.R_ne HO_229000.out BK228.out (by decide)) e_) hs_))
    have n2_ := Aside0.mk (IsS92.kept (zi92 HI0.out) hkp (fun hs_ => (fun e_ => (IsS92.own_ne HI0.out HO_229000.out (by decide)) e_) hs_))
    have n3_ := Aside0.mk (Kd.R_mono (ok' := fun k_ => True) (Kd.R_raise (d := k67) (b := w0.heap.size) (b' := w.heap.size) (fun _ _ _ _ h_ => h_) ho0 (fun k_ e_ => Or.elim (ho0.1 k_ e_) (fun hs_ => (fun e_ => Kd.R_base HO_229000.out k_ e_.symm) hs_) (fun hn_ => Nat.le_trans (keep_size (w := w) (g := g) (row := none) (zq HK.out)) hn_))) (fun k_ hk_ => trivial))
    have n4_ := Aside0.mk (Kept.keepG (zq HK.out) hkp (fun k_ hs_ => (fun e_ => .inr (Kd.R_base HO_229000.out k_ e_.symm)) hs_))
    have n5_ := Aside0.mk (hb)
    clear BK227
    clear BK228
    clear HI0
    clear HK
    clear HB
    clear HO_229000
    have BK227 := n0_
    have BK228 := n1_
    have HI0 := n2_
    have HO239 := n3_
    have HK := n4_
    have HB := n5_
    clear n0_ n1_ n2_ n3_ n4_ n5_
    (try clear hb)
    (try clear hkp)
    (try clear ho0)
    obtain ⟨Ao17, co17, eo17⟩ := Kd.R_slice HO239.out
    (first | subst eo17 | (injection eo17 with f1_ f2_ f3_; have f4_ := f1_.symm; have f5_ := f3_.symm; clear f1_ f2_ f3_; subst f4_; subst f5_))
    refine hK.out _ _ ((blk_cell BK228.out 0).trans rfl) (fun hHeld => ?_)
    clear hK K
    refine norm_ (a' := ?_) ?_ ?_
    rotate_left
    ·show Act.put _ (some 25) _ = _
     simp only [Act.put, List.setIfInBounds_toArray, List.set_cons_zero, List.set_cons_succ, i64_w, i32_w]
     rfl
    refine pure_ (i := 7) (N := some 18) (v := ?_) (a' := ?_) #[true, true, true, true, true, true, true, true, false, false, false] rfl rfl (any_of HT_.out (by kernel_rfl)) (fun _ _ _ h => h) (Or.inl ⟨by rfl, ?_⟩) ?_ ?_
    rotate_left
    ·intro w'
     go_simp
     with_reducible rfl
    rotate_left
    ·simp only [Act.put, List.setIfInBounds_toArray, List.set_cons_zero, List.set_cons_succ, i64_w, i32_w]
     rfl
    refine pure_ (i := 8) (N := some 26) (v := ?_) (a' := ?_) #[true, true, true, true, true, true, true, true, true, false, false] rfl rfl (any_of HT_.out (by kernel_rfl)) (fun _ _ _ h => h) (Or.inl ⟨by rfl, ?_⟩) ?_ ?_
    rotate_left
    ·intro w'
     go_simp
     with_reducible rfl
    rotate_left
    ·simp only [Act.put, List.setIfInBounds_toArray, List.set_cons_zero, List.set_cons_succ, i64_w, i32_w]
     rfl
    refine pure_ (i := 9) (N := some 27) (v := ?_) (a' := ?_) #[true, true, true, true, true, true, true, true, true, true, false] rfl rfl (any_of HT_.out (by kernel_rfl)) (fun _ _ _ h => h) (Or.inl ⟨by rfl, ?_⟩) ?_ ?_
    rotate_left
    ·intro w'
     go_simp
     with_reducible rfl
    rotate_left
    ·simp only [Act.put, List.setIfInBounds_toArray, List.set_cons_zero, List.set_cons_succ, i64_w, i32_w]
     rfl
    refine last_ (i := 10) (N := none) #[true, true, true, true, true, true, true, true, true, true, true] rfl rfl (one_of HT_.out (by kernel_rfl)) (by decide) (fun K hK => ?_)
    have hs18 : w16.cell? ⟨gb228, 0, none⟩ = some (.slice Ao14 x229000_1.length co14) := (blk_cell BK228.out 0).trans rfl
    have hfs18 := blk_frozen BK228.out 0
    have hns18_0 := NB227_228.out
    have hms18_0 := NB228_227.out
    refine skip_ (w1 := ?_) (by rfl) rfl ?_ ?_
    rotate_left
    ·go_simp
     rfl
    refine hK.out _ _ ?_
    clear hK K
    refine done_ (done_of HT_.out (by kernel_rfl)) ?_
    try go_wp2
    go_roundg k1
    case measure => have := HK1.out; omega
    case rel => exact ⟨(wrap64 (x7_1 + 1)), (t235), (t236), (t237), (.slice Ao17 t237.length co17), (by first | rfl | (simp; done) | (simp [*]; done)), H', ⟨by have := HK1.out; omega⟩, ⟨zr (Kd.R_mono (Kd.R_far (p := ⟨gb228, 0, none⟩) (Kd.R_types HO239.out BK228.out (by decide)) (fun _ hk => hk.2) (.slice Ao17 t237.length co17)) (fun _ hk => trivial))⟩, ⟨zf BK227.out⟩, ⟨by (with_reducible repeat (first | refine blk_drewN ?_ _ | refine blk_drew ?_ | refine blk_alloc ?_ _)); refine blk_put (cs := #[.slice Ao14 x229000_1.length co14]) ?_ 0 _ rfl; (with_reducible repeat (first | refine blk_drewN ?_ _ | refine blk_drew ?_ | refine blk_alloc ?_ _)); exact BK228.out⟩, ⟨zi92 HI0.out⟩, ⟨zq HK.out⟩, ⟨zj HB.out (IsS92.ge HI0.out)⟩⟩
   ·rw [if_neg c10] at H
    have c10b0 : decide (x7_1 < t229) = false := decide_eq_false c10
    clear c10
    simp only [Option.some.injEq, Prod.mk.injEq] at H
    obtain ⟨rfl, rfl, rfl⟩ := H
    have hnb19 := NB228_227.out
    have hnc19 := NB227_228.out
    have hnb20 := NB228_0.out
    have hnc20 := NB0_228.out
    have hcz21_0 : wr.cell? ⟨gb228, 0, none⟩ = some (u229000) := (blk_cell BK228.out 0).trans rfl
    have hfz21_0 := blk_frozen BK228.out 0
    obtain ⟨Ao22, co22, eo22⟩ := Kd.R_slice HO_229000.out
    subst eo22
    have hnb23 := NB227_0.out
    have hnc23 := NB0_227.out
    have hcz24_0 : wr.cell? ⟨gb227, 0, none⟩ = some (.slice none 0 0) := (blk_cell BK227.out 0).trans rfl
    have hfz24_0 := blk_frozen BK227.out 0
    go_wp2
    refine bodyPost_ret (results_cell_row rfl _ _ gb227 31 #[.slice Ao22 x229000_1.length co22] (0, 0) _ rfl (by (with_reducible repeat (first | refine blk_drewN ?_ _ | refine blk_drew ?_ | refine blk_alloc ?_ _)); refine blk_put (cs := #[.slice none 0 0]) ?_ 0 _ rfl; (with_reducible repeat (first | refine blk_drewN ?_ _ | refine blk_drew ?_ | refine blk_alloc ?_ _)); exact BK227.out) Try.underlying31 rfl (by kernel_rfl)) rfl ?_
    exact ⟨_, ze, zr (Kd.R_mono (Kd.R_far (p := ⟨gb227, 0, none⟩) (Kd.R_types HO_229000.out BK227.out (by decide)) (fun _ hk => hk.2) (.slice Ao22 x229000_1.length co22)) (fun _ hk => trivial)), zi92 HI0.out, zj HB.out (IsS92.ge HI0.out), zq HK.out⟩

end Go.Proofs.Ytilnfdnigjblcaa.H
end
