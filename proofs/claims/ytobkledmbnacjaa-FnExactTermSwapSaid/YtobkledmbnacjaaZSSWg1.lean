import Derived.Test.YtobkledmbnacjaaZSSW0
import Derived.Test.YtobkledmbnacjaaZSSWg0
section
-- Written by this session's program (wip/tools/gprint.py over the kit's print) out of the translation; Lean checks it.
namespace Go.Proofs.Ytobkledmbnacjaa.SW
open Go.RowKit Go.Proofs.YtobkledmbnacjaaW.PrintWords Go.Proofs.YtobkledmbnacjaaW.PrintLast Go.Proofs.YtobkledmbnacjaaW.PrintMore
attribute [local go_sem] max2_int min2_int max_two min_two max_three min_three max_four min_four   -- for this text's walks alone
set_option linter.unusedVariables false
set_option linter.unusedSimpArgs false
set_option maxRecDepth 100000

/-! ### spec_l1Add: function 30 -/
mutual
def spec_l1Add.j0 : Nat → Bool → List (S55) → Int → Int → Int → Option ((List (S55)) × Int)
 | 0, _, _, _, _, _ => none
 | k + 1, x17, x152000, x153000, x153001, x153002 => if x17 = true then (spec_l1Add.j1 k x152000 x153000 x153002 x153001) else (spec_l1Add.j1 k x152000 x153000 x153001 x153002)
def spec_l1Add.j1 : Nat → List (S55) → Int → Int → Int → Option ((List (S55)) × Int)
 | 0, _, _, _, _ => none
 | k + 1, x152000, x153000, x153001, x153002 => (spec_l1Find.f k x152000 x153000 x153001 x153002).bind fun t154 => (if t154 ≥ 0 then (some (x152000, t154)) else ((spec_l1Right.f k x153000 x153001 x153002 (x152000.length : Int)).bind fun t155 => (if t155 = true then (if (x152000.length : Int) = 500 then (some (x152000, (-1))) else ((spec_l1Copy.f x152000).bind fun t156 => (if t156.length < 5864062014805 then (some ((t156 ++ [(⟨x153000, x153001, x153002⟩ : S55)]), (x152000.length : Int))) else (none)))) else (some (x152000, (-1))))))
end
def spec_l1Add.f (k : Nat) (l0_0 : List (S55)) (a1_0 : Int) (a1_1 : Int) (a1_2 : Int) : Option ((List (S55)) × Int) := if a1_0 = 8 then (spec_l1Add.j0 k (decide (a1_1 > a1_2)) l0_0 a1_0 a1_1 a1_2) else (spec_l1Add.j0 k false l0_0 a1_0 a1_1 a1_2)
theorem spec_l1Add.mono_l : ∀ k, (∀ y0 y1 y2 y3 y4, LeO (spec_l1Add.j0 k y0 y1 y2 y3 y4) (spec_l1Add.j0 (k + 1) y0 y1 y2 y3 y4)) ∧ (∀ y0 y1 y2 y3, LeO (spec_l1Add.j1 k y0 y1 y2 y3) (spec_l1Add.j1 (k + 1) y0 y1 y2 y3))
 | 0 => ⟨fun _ _ _ _ _ r h => by simp [spec_l1Add.j0] at h, fun _ _ _ _ r h => by simp [spec_l1Add.j1] at h⟩
 | k + 1 => by
  obtain ⟨ih0, ih1⟩ := spec_l1Add.mono_l k
  refine ⟨?_, ?_⟩
  ·intro y0 y1 y2 y3 y4
   unfold spec_l1Add.j0
   repeat' first
   | (with_reducible exact ih0 _ _ _ _ _)
   | (with_reducible exact ih1 _ _ _ _)
   | (with_reducible exact spec_l1Find.mono _ _ _ _ _)
   | (with_reducible exact spec_l1Right.mono _ _ _ _ _)
   | (with_reducible exact LeO.refl _)
   | (with_reducible exact LeO.none _)
   | (with_reducible refine LeO.ite ?_ ?_)
   | (with_reducible refine LeO.bind ?_ (fun _ => ?_))
   | exact ih0 _ _ _ _ _
   | exact ih1 _ _ _ _
   | exact spec_l1Find.mono _ _ _ _ _
   | exact spec_l1Right.mono _ _ _ _ _
   | exact LeO.none _
   | refine LeO.ite ?_ ?_
   | refine LeO.bind ?_ (fun _ => ?_)
  ·intro y0 y1 y2 y3
   unfold spec_l1Add.j1
   repeat' first
   | (with_reducible exact ih0 _ _ _ _ _)
   | (with_reducible exact ih1 _ _ _ _)
   | (with_reducible exact spec_l1Find.mono _ _ _ _ _)
   | (with_reducible exact spec_l1Right.mono _ _ _ _ _)
   | (with_reducible exact LeO.refl _)
   | (with_reducible exact LeO.none _)
   | (with_reducible refine LeO.ite ?_ ?_)
   | (with_reducible refine LeO.bind ?_ (fun _ => ?_))
   | exact ih0 _ _ _ _ _
   | exact ih1 _ _ _ _
   | exact spec_l1Find.mono _ _ _ _ _
   | exact spec_l1Right.mono _ _ _ _ _
   | exact LeO.none _
   | refine LeO.ite ?_ ?_
   | refine LeO.bind ?_ (fun _ => ?_)
theorem spec_l1Add.mono : ∀ a0 a1 a2 a3 k, LeO (spec_l1Add.f k a0 a1 a2 a3) (spec_l1Add.f (k + 1) a0 a1 a2 a3) := by
 intro a0 a1 a2 a3 k
 obtain ⟨ih0, ih1⟩ := spec_l1Add.mono_l k
 unfold spec_l1Add.f
 repeat' first
   | (with_reducible exact ih0 _ _ _ _ _)
   | (with_reducible exact ih1 _ _ _ _)
   | (with_reducible exact spec_l1Find.mono _ _ _ _ _)
   | (with_reducible exact spec_l1Right.mono _ _ _ _ _)
   | (with_reducible exact LeO.refl _)
   | (with_reducible exact LeO.none _)
   | (with_reducible refine LeO.ite ?_ ?_)
   | (with_reducible refine LeO.bind ?_ (fun _ => ?_))
   | exact ih0 _ _ _ _ _
   | exact ih1 _ _ _ _
   | exact spec_l1Find.mono _ _ _ _ _
   | exact spec_l1Right.mono _ _ _ _ _
   | exact LeO.none _
   | refine LeO.ite ?_ ?_
   | refine LeO.bind ?_ (fun _ => ?_)
set_option maxHeartbeats 8000000 in
set_option maxRecDepth 100000 in
theorem spec_l1Add.calls (k : Nat) (P0_0_ : Nat → Prop) (A0_0 : Option Addr) (c0_0 : Nat) (l0_0 : List (S55)) (a1_0 : Int) (a1_1 : Int) (a1_2 : Int) (r1 : List (S55)) (r2 : Int) (w : World) (hs0_0 : Kd.V k55 55 w w.heap.size (fun k_ => P0_0_ k_) (.slice A0_0 l0_0.length c0_0) l0_0) (h : spec_l1Add.f k l0_0 a1_0 a1_1 a1_2 = some (r1, r2)) :
  Calls Try.prog 30 #[.agg #[.slice A0_0 l0_0.length c0_0], .agg #[.int .i64 a1_0, .int .i64 a1_1, .int .i64 a1_2]] w fun e w' => ∃ v0_ : Value, e = .returned (.tuple #[.agg #[v0_], .int .i64 r2]) ∧ Kd.V k55 55 w' w.heap.size (fun k_ => (P0_0_ k_ ∨ w.heap.size ≤ k_)) v0_ r1 ∧ Below w.heap.size w w' := by
 have hu28 := Try.underlying28
 have hu55 := Try.underlying55
 have HO0_0 := Aside0.mk (show Kd.V k55 55 w w.heap.size (fun k_ => (P0_0_ k_ ∨ w.heap.size ≤ k_)) (.slice A0_0 l0_0.length c0_0) l0_0 from Kd.V_mono hs0_0 (fun k_ hk => .inl hk))
 have HB := Aside0.mk (Below.refl w.heap.size w)
 have H : (if a1_0 = 8 then (spec_l1Add.j0 k (decide (a1_1 > a1_2)) l0_0 a1_0 a1_1 a1_2) else (spec_l1Add.j0 k false l0_0 a1_0 a1_1 a1_2)) = some (r1, r2) := h
 clear h
 have HC3 := Aside0.mk H
 clear H
 go_enter Try.func30, Try.ntmps30
 go_upto_region 1 with (first | ((with_reducible refine gate_dst (N := 2) rfl ?_); (try (refine gate_guard (by rfl) ?_; dsimp only)); refine box_event ?hg (N := 2) ?hd (cs := #[.slice A0_0 l0_0.length c0_0]) (t := 28) ?hr ?_; (case hd => rfl); (case hg => rfl); (case hr => first | (go_simp; done) | (go_simp; rfl)); intro gb151 hg w4 hbox hb; have n0_ := Aside0.mk (Kd.V_below (Kd.V_elderB (by (with_reducible repeat (first | apply Kd.V_alloc | apply Kd.V_drewN | apply Kd.V_drew)); exact HO0_0.out) gb151 (Nat.le_of_eq hg.symm)) hb); have n1_ := Aside0.mk (below_step (zb HB.out) hb); have n2_ := Aside0.mk (hbox); have n3_ := Aside0.mk ((by rw [hg]; exact (below_size (zb HB.out)) : w.heap.size ≤ gb151)); have n4_ := Aside0.mk ((by rw [hg]; exact (below_size (zb HB.out)) : w.heap.size ≤ gb151)); clear HO0_0; clear HB; have HO0_0 := n0_; have HB := n1_; have BK151 := n2_; have GW151 := n3_; have GE151 := n4_; clear n0_ n1_ n2_ n3_ n4_; clear hb hbox hg) | ((with_reducible refine gate_dst (N := 3) rfl ?_); (try (refine gate_guard (by rfl) ?_; dsimp only)); refine box_event ?hg (N := 3) ?hd (cs := #[.int .i64 a1_0, .int .i64 a1_1, .int .i64 a1_2]) (t := 55) ?hr ?_; (case hd => rfl); (case hg => rfl); (case hr => first | (go_simp; done) | (go_simp; rfl)); intro gb152 hg w5 hbox hb; have n0_ := Aside0.mk (Kd.V_below (Kd.V_elderB (by (with_reducible repeat (first | apply Kd.V_alloc | apply Kd.V_drewN | apply Kd.V_drew)); exact HO0_0.out) gb152 (Nat.le_of_eq hg.symm)) hb); have n1_ := Aside0.mk (blk_below (zh BK151.out) hb); have n2_ := Aside0.mk (below_step (zb HB.out) hb); have n3_ := Aside0.mk (hbox); have n4_ := Aside0.mk ((by rw [hg]; exact (below_size (zb HB.out)) : w.heap.size ≤ gb152)); have n5_ := Aside0.mk ((by rw [hg]; exact (below_size (zb HB.out)) : w.heap.size ≤ gb152)); have n6_ := Aside0.mk ((by rw [hg]; exact Nat.ne_of_lt (blk_lt (zh BK151.out)) : gb151 ≠ gb152)); have n7_ := Aside0.mk ((by rw [hg]; exact Nat.ne_of_gt (blk_lt (zh BK151.out)) : gb152 ≠ gb151)); clear HO0_0; clear BK151; clear HB; have HO0_0 := n0_; have BK151 := n1_; have HB := n2_; have BK152 := n3_; have GW152 := n4_; have GE152 := n5_; have NB151_152 := n6_; have NB152_151 := n7_; clear n0_ n1_ n2_ n3_ n4_ n5_ n6_ n7_; clear hb hbox hg) | ((with_reducible refine gate_dst (N := 4) rfl ?_); (try (refine gate_guard (by rfl) ?_; dsimp only)); refine box_event ?hg (N := 4) ?hd (cs := #[.slice none 0 0]) (t := 28) ?hr ?_; (case hd => rfl); (case hg => rfl); (case hr => first | (go_simp; done) | (go_simp; rfl)); intro gb153 hg w6 hbox hb; have n0_ := Aside0.mk (Kd.V_below (Kd.V_elderB (by (with_reducible repeat (first | apply Kd.V_alloc | apply Kd.V_drewN | apply Kd.V_drew)); exact HO0_0.out) gb153 (Nat.le_of_eq hg.symm)) hb); have n1_ := Aside0.mk (blk_below (zh BK151.out) hb); have n2_ := Aside0.mk (blk_below (zh BK152.out) hb); have n3_ := Aside0.mk (below_step (zb HB.out) hb); have n4_ := Aside0.mk (hbox); have n5_ := Aside0.mk ((by rw [hg]; exact (below_size (zb HB.out)) : w.heap.size ≤ gb153)); have n6_ := Aside0.mk ((by rw [hg]; exact (below_size (zb HB.out)) : w.heap.size ≤ gb153)); have n7_ := Aside0.mk ((by rw [hg]; exact Nat.ne_of_lt (blk_lt (zh BK151.out)) : gb151 ≠ gb153)); have n8_ := Aside0.mk ((by rw [hg]; exact Nat.ne_of_gt (blk_lt (zh BK151.out)) : gb153 ≠ gb151)); have n9_ := Aside0.mk ((by rw [hg]; exact Nat.ne_of_lt (blk_lt (zh BK152.out)) : gb152 ≠ gb153)); have n10_ := Aside0.mk ((by rw [hg]; exact Nat.ne_of_gt (blk_lt (zh BK152.out)) : gb153 ≠ gb152)); clear HO0_0; clear BK151; clear BK152; clear HB; have HO0_0 := n0_; have BK151 := n1_; have BK152 := n2_; have HB := n3_; have BK153 := n4_; have GW153 := n5_; have GE153 := n6_; have NB151_153 := n7_; have NB153_151 := n8_; have NB152_153 := n9_; have NB153_152 := n10_; clear n0_ n1_ n2_ n3_ n4_ n5_ n6_ n7_ n8_ n9_ n10_; clear hb hbox hg))
 (try simp only [Act.put, List.setIfInBounds_toArray, List.set_cons_zero, List.set_cons_succ])
 go_cut [17] (fun v17 wc => ∃ (kq : Nat) (x17_2 : Bool), v17 = .bool x17_2 ∧ Aside0 (spec_l1Add.j0 kq x17_2 l0_0 a1_0 a1_1 a1_2 = some (r1, r2)) ∧ Aside0 (kq ≤ k) ∧ Aside0 (Kd.V k55 55 wc w.heap.size (fun k_ => (P0_0_ k_ ∨ w.heap.size ≤ k_) ∧ k_ ≠ gb151 ∧ k_ ≠ gb152 ∧ k_ ≠ gb153) (.slice A0_0 l0_0.length c0_0) l0_0) ∧ Aside0 (wc.heap[gb151]? = some (.cells #[(.slice A0_0 l0_0.length c0_0)] 28 (0, 0))) ∧ Aside0 (wc.heap[gb152]? = some (.cells #[.int .i64 a1_0, .int .i64 a1_1, .int .i64 a1_2] 55 (0, 0))) ∧ Aside0 (wc.heap[gb153]? = some (.cells #[(.slice none 0 0)] 28 (0, 0))) ∧ Aside0 (Below w.heap.size w wc))
 case first =>
  have H := HC3.out
  clear HC3
  by_cases c7 : a1_0 = 8
  ·rw [if_pos c7] at H
   have c7b0 : (a1_0 == 8) = true := beq_iff_eq.mpr c7
   have c7b1 : (a1_0 != 8) = false := bne_eq_false_iff_eq.mpr c7
   clear c7
   (first | rw [c7b0] | (simp only [i64_w, i32_w]; rw [c7b0]) | skip)
   have H' := Aside0.mk H
   clear H
   have hnb8 := NB152_151.out
   have hnc8 := NB151_152.out
   have hnb9 := NB152_153.out
   have hnc9 := NB153_152.out
   have hcz10_0 : w6.cell? ⟨gb152, 0, none⟩ = some (.int .i64 a1_0) := (blk_cell BK152.out 0).trans rfl
   have hcz10_1 : w6.cell? ⟨gb152, 1, none⟩ = some (.int .i64 a1_1) := (blk_cell BK152.out 1).trans rfl
   have hcz10_2 : w6.cell? ⟨gb152, 2, none⟩ = some (.int .i64 a1_2) := (blk_cell BK152.out 2).trans rfl
   have hfz10_0 := blk_frozen BK152.out 0
   have hfz10_1 := blk_frozen BK152.out 1
   have hfz10_2 := blk_frozen BK152.out 2
   go_wp2
   go_meet
   case rel => exact ⟨_, (decide (a1_1 > a1_2)), (by first | rfl | (simp; done) | (simp [*]; done)), H', ⟨by first | omega | exact Nat.le_refl _⟩, ⟨by (with_reducible repeat (first | apply Kd.V_alloc | apply Kd.V_drewN | apply Kd.V_drew)); exact Kd.V_mono HO0_0.out (fun _ hk => ⟨hk.1.1.1, ⟨hk.1.1.2, ⟨hk.1.2, hk.2⟩⟩⟩)⟩, ⟨zh BK151.out⟩, ⟨zh BK152.out⟩, ⟨zh BK153.out⟩, ⟨zb HB.out⟩⟩
  ·rw [if_neg c7] at H
   have c7b0 : (a1_0 == 8) = false := beq_eq_false_iff_ne.mpr c7
   have c7b1 : (a1_0 != 8) = true := bne_iff_ne.mpr c7
   (first | rw [c7b0] | (simp only [i64_w, i32_w]; rw [c7b0]) | skip)
   have H' := Aside0.mk H
   clear H
   have hnb11 := NB152_151.out
   have hnc11 := NB151_152.out
   have hnb12 := NB152_153.out
   have hnc12 := NB153_152.out
   have hcz13_0 : w6.cell? ⟨gb152, 0, none⟩ = some (.int .i64 a1_0) := (blk_cell BK152.out 0).trans rfl
   have hcz13_1 : w6.cell? ⟨gb152, 1, none⟩ = some (.int .i64 a1_1) := (blk_cell BK152.out 1).trans rfl
   have hcz13_2 : w6.cell? ⟨gb152, 2, none⟩ = some (.int .i64 a1_2) := (blk_cell BK152.out 2).trans rfl
   have hfz13_0 := blk_frozen BK152.out 0
   have hfz13_1 := blk_frozen BK152.out 1
   have hfz13_2 := blk_frozen BK152.out 2
   go_wp2
   go_meet
   case rel => exact ⟨_, (false), (by first | rfl | (simp; done) | (simp [*]; done)), H', ⟨by first | omega | exact Nat.le_refl _⟩, ⟨by (with_reducible repeat (first | apply Kd.V_alloc | apply Kd.V_drewN | apply Kd.V_drew)); exact Kd.V_mono HO0_0.out (fun _ hk => ⟨hk.1.1.1, ⟨hk.1.1.2, ⟨hk.1.2, hk.2⟩⟩⟩)⟩, ⟨zh BK151.out⟩, ⟨zh BK152.out⟩, ⟨zh BK153.out⟩, ⟨zb HB.out⟩⟩
 case rest =>
  clear HC3
  try clear c1
  try clear p2
  try clear c3
  try clear c7
  try clear c7b0
  try clear c7b1
  try clear c8
  try clear c9
  try clear c11
  try clear c12
  try clear hcz10_0
  try clear hcz10_1
  try clear hcz10_2
  try clear hcz13_0
  try clear hcz13_1
  try clear hcz13_2
  try clear hfz10_0
  try clear hfz10_1
  try clear hfz10_2
  try clear hfz13_0
  try clear hfz13_1
  try clear hfz13_2
  obtain ⟨kq, x17_2, rfl, HA, HJ2, HO_152000, BK151, BK152, BK153, HB⟩ := hcut
  cases kq with
  | zero => exact absurd HA.out (by simp [spec_l1Add.j0])
  | succ kj2 =>
   have H := HA.out
   clear HA
   simp only [spec_l1Add.j0] at H
   have HC14 := Aside0.mk H
   clear H
   go_upto_if 17 with (fail)
   go_cut [] (fun wc => ∃ (kq : Nat) (x153000_13 : Int) (x153001_13 : Int) (x153002_13 : Int), Aside0 (spec_l1Add.j1 kq l0_0 x153000_13 x153001_13 x153002_13 = some (r1, r2)) ∧ Aside0 (kq ≤ kj2) ∧ Aside0 (Kd.V k55 55 wc w.heap.size (fun k_ => (P0_0_ k_ ∨ w.heap.size ≤ k_) ∧ k_ ≠ gb151 ∧ k_ ≠ gb152 ∧ k_ ≠ gb153) (.slice A0_0 l0_0.length c0_0) l0_0) ∧ Aside0 (wc.heap[gb151]? = some (.cells #[(.slice A0_0 l0_0.length c0_0)] 28 (0, 0))) ∧ Aside0 (wc.heap[gb152]? = some (.cells #[.int .i64 x153000_13, .int .i64 x153001_13, .int .i64 x153002_13] 55 (0, 0))) ∧ Aside0 (wc.heap[gb153]? = some (.cells #[(.slice none 0 0)] 28 (0, 0))) ∧ Aside0 (Below w.heap.size w wc))
   case first =>
    have H := HC14.out
    clear HC14
    by_cases c15 : x17_2 = true
    ·subst c15
     have H1 : (spec_l1Add.j1 kj2 l0_0 a1_0 a1_2 a1_1) = some (r1, r2) := by rw [if_pos rfl] at H; exact H
     clear H
     have H := H1
     clear H1
     have H' := Aside0.mk H
     clear H
     have hnb16 := NB152_151.out
     have hnc16 := NB151_152.out
     have hnb17 := NB152_153.out
     have hnc17 := NB153_152.out
     have hcz18_0 : wc.cell? ⟨gb152, 0, none⟩ = some (.int .i64 a1_0) := (blk_cell BK152.out 0).trans rfl
     have hcz18_1 : wc.cell? ⟨gb152, 1, none⟩ = some (.int .i64 a1_1) := (blk_cell BK152.out 1).trans rfl
     have hcz18_2 : wc.cell? ⟨gb152, 2, none⟩ = some (.int .i64 a1_2) := (blk_cell BK152.out 2).trans rfl
     have hfz18_0 := blk_frozen BK152.out 0
     have hfz18_1 := blk_frozen BK152.out 1
     have hfz18_2 := blk_frozen BK152.out 2
     go_wp2
     go_meet
     case rel => exact ⟨_, (a1_0), (a1_2), (a1_1), H', ⟨by have := HJ2.out; first | omega | exact Nat.le_refl _⟩, ⟨by (with_reducible repeat (first | apply Kd.V_alloc | apply Kd.V_drewN | apply Kd.V_drew)); exact Kd.V_mono (Kd.V_far (p := ⟨gb152, 2, none⟩) (Kd.V_far (p := ⟨gb152, 1, none⟩) (Kd.V_far (p := ⟨gb152, 0, none⟩) (Kd.V_mono HO_152000.out (fun k_ hk => (⟨hk, hk.2.2.1⟩ : _ ∧ k_ ≠ gb152))) (fun _ hk => hk.2) (.int .i64 a1_0)) (fun _ hk => hk.2) (.int .i64 a1_2)) (fun _ hk => hk.2) (.int .i64 a1_1)) (fun _ hk => ⟨hk.1.1, ⟨hk.1.2.1, ⟨hk.1.2.2.1, hk.1.2.2.2⟩⟩⟩)⟩, ⟨zf BK151.out⟩, ⟨by (with_reducible repeat (first | refine blk_drewN ?_ _ | refine blk_drew ?_ | refine blk_alloc ?_ _)); refine blk_put (cs := #[.int .i64 a1_0, .int .i64 a1_2, .int .i64 a1_2]) ?_ 2 _ rfl; (with_reducible repeat (first | refine blk_drewN ?_ _ | refine blk_drew ?_ | refine blk_alloc ?_ _)); refine blk_put (cs := #[.int .i64 a1_0, .int .i64 a1_1, .int .i64 a1_2]) ?_ 1 _ rfl; (with_reducible repeat (first | refine blk_drewN ?_ _ | refine blk_drew ?_ | refine blk_alloc ?_ _)); refine blk_put (cs := #[.int .i64 a1_0, .int .i64 a1_1, .int .i64 a1_2]) ?_ 0 _ rfl; (with_reducible repeat (first | refine blk_drewN ?_ _ | refine blk_drew ?_ | refine blk_alloc ?_ _)); exact BK152.out⟩, ⟨zf BK153.out⟩, ⟨zb HB.out⟩⟩
    ·replace c15 := Bool.eq_false_iff.mpr c15
     subst c15
     have H1 : (spec_l1Add.j1 kj2 l0_0 a1_0 a1_1 a1_2) = some (r1, r2) := by rw [if_neg (show ¬ (false = true) by decide)] at H; exact H
     clear H
     have H := H1
     clear H1
     have H' := Aside0.mk H
     clear H
     go_wp2
     go_meet
     case rel => exact ⟨_, (a1_0), (a1_1), (a1_2), H', ⟨by have := HJ2.out; first | omega | exact Nat.le_refl _⟩, ⟨by (with_reducible repeat (first | apply Kd.V_alloc | apply Kd.V_drewN | apply Kd.V_drew)); exact HO_152000.out⟩, ⟨zh BK151.out⟩, ⟨zh BK152.out⟩, ⟨zh BK153.out⟩, ⟨zb HB.out⟩⟩
   case rest =>
    clear HC14
    try clear c1
    try clear p2
    try clear c3
    try clear c7
    try clear c7b0
    try clear c7b1
    try clear c8
    try clear c9
    try clear c11
    try clear c12
    try clear c15
    try clear c16
    try clear c17
    try clear hcz10_0
    try clear hcz10_1
    try clear hcz10_2
    try clear hcz13_0
    try clear hcz13_1
    try clear hcz13_2
    try clear hcz18_0
    try clear hcz18_1
    try clear hcz18_2
    try clear hfz10_0
    try clear hfz10_1
    try clear hfz10_2
    try clear hfz13_0
    try clear hfz13_1
    try clear hfz13_2
    try clear hfz18_0
    try clear hfz18_1
    try clear hfz18_2
    try clear p2
    obtain ⟨kq, x153000_13, x153001_13, x153002_13, HA, HJ13, HO_152000, BK151, BK152, BK153, HB⟩ := hcut
    cases kq with
    | zero => exact absurd HA.out (by simp [spec_l1Add.j1])
    | succ kj13 =>
     have H := HA.out
     clear HA
     simp only [spec_l1Add.j1] at H
     replace H := Option.bind_eq_some_iff.mp H
     obtain ⟨t154, A190, H⟩ := H
     replace H : (if t154 ≥ 0 then (some (l0_0, t154)) else ((spec_l1Right.f kj13 x153000_13 x153001_13 x153002_13 (l0_0.length : Int)).bind fun t155 => (if t155 = true then (if (l0_0.length : Int) = 500 then (some (l0_0, (-1))) else ((spec_l1Copy.f l0_0).bind fun t156 => (if t156.length < 5864062014805 then (some ((t156 ++ [(⟨x153000_13, x153001_13, x153002_13⟩ : S55)]), (l0_0.length : Int))) else (none)))) else (some (l0_0, (-1)))))) = some (r1, r2) := H
     have A19 := Aside0.mk A190
     clear A190
     by_cases c20 : t154 ≥ 0
     ·rw [if_pos c20] at H
      have c20b0 : decide (0 ≤ t154) = true := decide_eq_true c20
      clear c20
      simp only [Option.some.injEq, Prod.mk.injEq] at H
      obtain ⟨rfl, rfl⟩ := H
      have hnb21 := NB151_152.out
      have hnc21 := NB152_151.out
      have hnb22 := NB151_153.out
      have hnc22 := NB153_151.out
      have hcz23_0 : wc.cell? ⟨gb151, 0, none⟩ = some (.slice A0_0 l0_0.length c0_0) := (blk_cell BK151.out 0).trans rfl
      have hfz23_0 := blk_frozen BK151.out 0
      have hnb24 := NB152_153.out
      have hnc24 := NB153_152.out
      have hcz25_0 : wc.cell? ⟨gb152, 0, none⟩ = some (.int .i64 x153000_13) := (blk_cell BK152.out 0).trans rfl
      have hcz25_1 : wc.cell? ⟨gb152, 1, none⟩ = some (.int .i64 x153001_13) := (blk_cell BK152.out 1).trans rfl
      have hcz25_2 : wc.cell? ⟨gb152, 2, none⟩ = some (.int .i64 x153002_13) := (blk_cell BK152.out 2).trans rfl
      have hfz25_0 := blk_frozen BK152.out 0
      have hfz25_1 := blk_frozen BK152.out 1
      have hfz25_2 := blk_frozen BK152.out 2
      go_wp2_with (first | ((with_reducible refine gate_callee (f := 55) rfl ?_); refine goesL_ (some 27) rfl rfl Try.func55 (by kernel_rfl) rfl #[.agg #[.slice A0_0 l0_0.length c0_0], .agg #[.int .i64 x153000_13, .int .i64 x153001_13, .int .i64 x153002_13]] rfl zl ?_; (with_reducible refine (spec_l1Find.calls kj13 _ _ l0_0 x153000_13 x153001_13 x153002_13 t154 _ ?side1 ?side2 A19.out).mono ?_); (case side1 => exact zc (Kd.V_reads' HO_152000.out).2.2); (case side2 => exact (Kd.V_reads' HO_152000.out).2.1); rintro e w26 ⟨rfl, hb⟩; refine ⟨_, rfl, ?_⟩; have n0_ := Aside0.mk (Kd.V_below (by (with_reducible repeat (first | apply Kd.V_alloc | apply Kd.V_drewN | apply Kd.V_drew)); exact HO_152000.out) hb); have n1_ := Aside0.mk (blk_below (zh BK151.out) hb); have n2_ := Aside0.mk (blk_below (zh BK152.out) hb); have n3_ := Aside0.mk (blk_below (zh BK153.out) hb); have n4_ := Aside0.mk (below_step (zb HB.out) hb); clear HO_152000; clear BK151; clear BK152; clear BK153; clear HB; have HO_152000 := n0_; have BK151 := n1_; have BK152 := n2_; have BK153 := n3_; have HB := n4_; clear n0_ n1_ n2_ n3_ n4_; (try clear hb); (try clear hb2); (try clear hk); (try clear hi); have hcz27_0 : w26.cell? ⟨gb151, 0, none⟩ = some (.slice A0_0 l0_0.length c0_0) := (blk_cell BK151.out 0).trans rfl; have hfz27_0 := blk_frozen BK151.out 0; have hcz28_0 : w26.cell? ⟨gb153, 0, none⟩ = some (.slice none 0 0) := (blk_cell BK153.out 0).trans rfl; have hfz28_0 := blk_frozen BK153.out 0))
      refine bodyPost_ret (results_ct rfl _ _ gb153 28 #[.slice A0_0 l0_0.length c0_0] (0, 0) _ rfl (by (with_reducible repeat (first | refine blk_drewN ?_ _ | refine blk_drew ?_ | refine blk_alloc ?_ _)); refine blk_put (cs := #[.slice none 0 0]) ?_ 0 _ rfl; (with_reducible repeat (first | refine blk_drewN ?_ _ | refine blk_drew ?_ | refine blk_alloc ?_ _)); exact BK153.out) Try.underlying28 rfl (by kernel_rfl)) rfl ?_
      exact ⟨_, ze, by (with_reducible repeat (first | apply Kd.V_alloc | apply Kd.V_drewN | apply Kd.V_drew)); exact Kd.V_mono (Kd.V_far (p := ⟨gb153, 0, none⟩) (Kd.V_mono HO_152000.out (fun k_ hk => (⟨hk, hk.2.2.2⟩ : _ ∧ k_ ≠ gb153))) (fun _ hk => hk.2) (.slice A0_0 l0_0.length c0_0)) (fun _ hk => hk.1.1), zb HB.out⟩
     ·rw [if_neg c20] at H
      have c20b0 : decide (0 ≤ t154) = false := decide_eq_false c20
      clear c20
      replace H := Option.bind_eq_some_iff.mp H
      obtain ⟨t155, A290, H⟩ := H
      replace H : (if t155 = true then (if (l0_0.length : Int) = 500 then (some (l0_0, (-1))) else ((spec_l1Copy.f l0_0).bind fun t156 => (if t156.length < 5864062014805 then (some ((t156 ++ [(⟨x153000_13, x153001_13, x153002_13⟩ : S55)]), (l0_0.length : Int))) else (none)))) else (some (l0_0, (-1)))) = some (r1, r2) := H
      have A29 := Aside0.mk A290
      clear A290
      by_cases c30 : t155 = true
      ·subst c30
       have H1 : (if (l0_0.length : Int) = 500 then (some (l0_0, (-1))) else ((spec_l1Copy.f l0_0).bind fun t156 => (if t156.length < 5864062014805 then (some ((t156 ++ [(⟨x153000_13, x153001_13, x153002_13⟩ : S55)]), (l0_0.length : Int))) else (none)))) = some (r1, r2) := by rw [if_pos rfl] at H; exact H
       clear H
       have H := H1
       clear H1
       by_cases c31 : (l0_0.length : Int) = 500
       ·rw [if_pos c31] at H
        have c31b0 : ((l0_0.length : Int) == 500) = true := beq_iff_eq.mpr c31
        have c31b1 : ((l0_0.length : Int) != 500) = false := bne_eq_false_iff_eq.mpr c31
        clear c31
        simp only [Option.some.injEq, Prod.mk.injEq] at H
        obtain ⟨rfl, rfl⟩ := H
        have hnb32 := NB151_152.out
        have hnc32 := NB152_151.out
        have hnb33 := NB151_153.out
        have hnc33 := NB153_151.out
        have hcz34_0 : wc.cell? ⟨gb151, 0, none⟩ = some (.slice A0_0 l0_0.length c0_0) := (blk_cell BK151.out 0).trans rfl
        have hfz34_0 := blk_frozen BK151.out 0
        have hnb35 := NB152_153.out
        have hnc35 := NB153_152.out
        have hcz36_0 : wc.cell? ⟨gb152, 0, none⟩ = some (.int .i64 x153000_13) := (blk_cell BK152.out 0).trans rfl
        have hcz36_1 : wc.cell? ⟨gb152, 1, none⟩ = some (.int .i64 x153001_13) := (blk_cell BK152.out 1).trans rfl
        have hcz36_2 : wc.cell? ⟨gb152, 2, none⟩ = some (.int .i64 x153002_13) := (blk_cell BK152.out 2).trans rfl
        have hfz36_0 := blk_frozen BK152.out 0
        have hfz36_1 := blk_frozen BK152.out 1
        have hfz36_2 := blk_frozen BK152.out 2
        go_wp2_with (first | ((with_reducible refine gate_callee (f := 55) rfl ?_); refine goesL_ (some 27) rfl rfl Try.func55 (by kernel_rfl) rfl #[.agg #[.slice A0_0 l0_0.length c0_0], .agg #[.int .i64 x153000_13, .int .i64 x153001_13, .int .i64 x153002_13]] rfl zl ?_; (with_reducible refine (spec_l1Find.calls kj13 _ _ l0_0 x153000_13 x153001_13 x153002_13 t154 _ ?side1 ?side2 A19.out).mono ?_); (case side1 => exact zc (Kd.V_reads' HO_152000.out).2.2); (case side2 => exact (Kd.V_reads' HO_152000.out).2.1); rintro e w37 ⟨rfl, hb⟩; refine ⟨_, rfl, ?_⟩; have n0_ := Aside0.mk (Kd.V_below (by (with_reducible repeat (first | apply Kd.V_alloc | apply Kd.V_drewN | apply Kd.V_drew)); exact HO_152000.out) hb); have n1_ := Aside0.mk (blk_below (zh BK151.out) hb); have n2_ := Aside0.mk (blk_below (zh BK152.out) hb); have n3_ := Aside0.mk (blk_below (zh BK153.out) hb); have n4_ := Aside0.mk (below_step (zb HB.out) hb); clear HO_152000; clear BK151; clear BK152; clear BK153; clear HB; have HO_152000 := n0_; have BK151 := n1_; have BK152 := n2_; have BK153 := n3_; have HB := n4_; clear n0_ n1_ n2_ n3_ n4_; (try clear hb); (try clear hb2); (try clear hk); (try clear hi); have hcz38_0 : w37.cell? ⟨gb152, 0, none⟩ = some (.int .i64 x153000_13) := (blk_cell BK152.out 0).trans rfl; have hcz38_1 : w37.cell? ⟨gb152, 1, none⟩ = some (.int .i64 x153001_13) := (blk_cell BK152.out 1).trans rfl; have hcz38_2 : w37.cell? ⟨gb152, 2, none⟩ = some (.int .i64 x153002_13) := (blk_cell BK152.out 2).trans rfl; have hfz38_0 := blk_frozen BK152.out 0; have hfz38_1 := blk_frozen BK152.out 1; have hfz38_2 := blk_frozen BK152.out 2; have hcz39_0 : w37.cell? ⟨gb151, 0, none⟩ = some (.slice A0_0 l0_0.length c0_0) := (blk_cell BK151.out 0).trans rfl; have hfz39_0 := blk_frozen BK151.out 0) | ((with_reducible refine gate_callee (f := 54) rfl ?_); refine goesL_ (some 36) rfl rfl Try.func54 (by kernel_rfl) rfl #[.agg #[.int .i64 x153000_13, .int .i64 x153001_13, .int .i64 x153002_13], .int .i64 (l0_0.length : Int)] rfl zl ?_; (with_reducible refine (spec_l1Right.calls kj13 x153000_13 x153001_13 x153002_13 (l0_0.length : Int) true _ A29.out).mono ?_); rintro e w40 ⟨rfl, hb⟩; refine ⟨_, rfl, ?_⟩; have n0_ := Aside0.mk (Kd.V_below (by (with_reducible repeat (first | apply Kd.V_alloc | apply Kd.V_drewN | apply Kd.V_drew)); exact HO_152000.out) hb); have n1_ := Aside0.mk (blk_below (zh BK151.out) hb); have n2_ := Aside0.mk (blk_below (zh BK152.out) hb); have n3_ := Aside0.mk (blk_below (zh BK153.out) hb); have n4_ := Aside0.mk (below_step (zb HB.out) hb); clear HO_152000; clear BK151; clear BK152; clear BK153; clear HB; have HO_152000 := n0_; have BK151 := n1_; have BK152 := n2_; have BK153 := n3_; have HB := n4_; clear n0_ n1_ n2_ n3_ n4_; (try clear hb); (try clear hb2); (try clear hk); (try clear hi); have hcz41_0 : w40.cell? ⟨gb151, 0, none⟩ = some (.slice A0_0 l0_0.length c0_0) := (blk_cell BK151.out 0).trans rfl; have hfz41_0 := blk_frozen BK151.out 0; have hcz42_0 : w40.cell? ⟨gb153, 0, none⟩ = some (.slice none 0 0) := (blk_cell BK153.out 0).trans rfl; have hfz42_0 := blk_frozen BK153.out 0))
        refine bodyPost_ret (results_ct rfl _ _ gb153 28 #[.slice A0_0 l0_0.length c0_0] (0, 0) _ rfl (by (with_reducible repeat (first | refine blk_drewN ?_ _ | refine blk_drew ?_ | refine blk_alloc ?_ _)); refine blk_put (cs := #[.slice none 0 0]) ?_ 0 _ rfl; (with_reducible repeat (first | refine blk_drewN ?_ _ | refine blk_drew ?_ | refine blk_alloc ?_ _)); exact BK153.out) Try.underlying28 rfl (by kernel_rfl)) rfl ?_
        exact ⟨_, ze, by (with_reducible repeat (first | apply Kd.V_alloc | apply Kd.V_drewN | apply Kd.V_drew)); exact Kd.V_mono (Kd.V_far (p := ⟨gb153, 0, none⟩) (Kd.V_mono HO_152000.out (fun k_ hk => (⟨hk, hk.2.2.2⟩ : _ ∧ k_ ≠ gb153))) (fun _ hk => hk.2) (.slice A0_0 l0_0.length c0_0)) (fun _ hk => hk.1.1), zb HB.out⟩
       ·rw [if_neg c31] at H
        have c31b0 : ((l0_0.length : Int) == 500) = false := beq_eq_false_iff_ne.mpr c31
        have c31b1 : ((l0_0.length : Int) != 500) = true := bne_iff_ne.mpr c31
        replace H := Option.bind_eq_some_iff.mp H
        obtain ⟨t156, A430, H⟩ := H
        replace H : (if t156.length < 5864062014805 then (some ((t156 ++ [(⟨x153000_13, x153001_13, x153002_13⟩ : S55)]), (l0_0.length : Int))) else (none)) = some (r1, r2) := H
        have A43 := Aside0.mk A430
        clear A430
        by_cases c44 : t156.length < 5864062014805
        ·rw [if_pos c44] at H
         have LMc44 := Aside0.mk c44
         clear c44
         obtain ⟨y160, hy160⟩ : ∃ y_ : List (S55), y_ = (t156 ++ [(⟨x153000_13, x153001_13, x153002_13⟩ : S55)]) := ⟨_, rfl⟩
         replace H : (some (y160, (l0_0.length : Int))) = some (r1, r2) := by first | (rw [hy160]; with_reducible exact H) | (have H2_ := (Option.bind_some _ _).symm.trans H; rw [hy160]; with_reducible exact H2_) | (have H2_ := (Option.bind_some _ _).symm.trans H; with_reducible exact H2_) | with_reducible exact H | (rw [hy160]; exact H) | exact H
         have Ny160 := Aside0.mk hy160
         clear hy160
         simp only [Option.some.injEq, Prod.mk.injEq] at H
         obtain ⟨rfl, rfl⟩ := H
         have hnb45 := NB151_152.out
         have hnc45 := NB152_151.out
         have hnb46 := NB151_153.out
         have hnc46 := NB153_151.out
         have hcz47_0 : wc.cell? ⟨gb151, 0, none⟩ = some (.slice A0_0 l0_0.length c0_0) := (blk_cell BK151.out 0).trans rfl
         have hfz47_0 := blk_frozen BK151.out 0
         have hnb48 := NB152_153.out
         have hnc48 := NB153_152.out
         have hcz49_0 : wc.cell? ⟨gb152, 0, none⟩ = some (.int .i64 x153000_13) := (blk_cell BK152.out 0).trans rfl
         have hcz49_1 : wc.cell? ⟨gb152, 1, none⟩ = some (.int .i64 x153001_13) := (blk_cell BK152.out 1).trans rfl
         have hcz49_2 : wc.cell? ⟨gb152, 2, none⟩ = some (.int .i64 x153002_13) := (blk_cell BK152.out 2).trans rfl
         have hfz49_0 := blk_frozen BK152.out 0
         have hfz49_1 := blk_frozen BK152.out 1
         have hfz49_2 := blk_frozen BK152.out 2
         try go_wp2_with (first | ((with_reducible refine gate_callee (f := 55) rfl ?_); refine goesL_ (some 27) rfl rfl Try.func55 (by kernel_rfl) rfl #[.agg #[.slice A0_0 l0_0.length c0_0], .agg #[.int .i64 x153000_13, .int .i64 x153001_13, .int .i64 x153002_13]] rfl zl ?_; (with_reducible refine (spec_l1Find.calls kj13 _ _ l0_0 x153000_13 x153001_13 x153002_13 t154 _ ?side1 ?side2 A19.out).mono ?_); (case side1 => exact zc (Kd.V_reads' HO_152000.out).2.2); (case side2 => exact (Kd.V_reads' HO_152000.out).2.1); rintro e w50 ⟨rfl, hb⟩; refine ⟨_, rfl, ?_⟩; have n0_ := Aside0.mk (Kd.V_below (by (with_reducible repeat (first | apply Kd.V_alloc | apply Kd.V_drewN | apply Kd.V_drew)); exact HO_152000.out) hb); have n1_ := Aside0.mk (blk_below (zh BK151.out) hb); have n2_ := Aside0.mk (blk_below (zh BK152.out) hb); have n3_ := Aside0.mk (blk_below (zh BK153.out) hb); have n4_ := Aside0.mk (below_step (zb HB.out) hb); clear HO_152000; clear BK151; clear BK152; clear BK153; clear HB; have HO_152000 := n0_; have BK151 := n1_; have BK152 := n2_; have BK153 := n3_; have HB := n4_; clear n0_ n1_ n2_ n3_ n4_; (try clear hb); (try clear hb2); (try clear hk); (try clear hi); have hcz51_0 : w50.cell? ⟨gb152, 0, none⟩ = some (.int .i64 x153000_13) := (blk_cell BK152.out 0).trans rfl; have hcz51_1 : w50.cell? ⟨gb152, 1, none⟩ = some (.int .i64 x153001_13) := (blk_cell BK152.out 1).trans rfl; have hcz51_2 : w50.cell? ⟨gb152, 2, none⟩ = some (.int .i64 x153002_13) := (blk_cell BK152.out 2).trans rfl; have hfz51_0 := blk_frozen BK152.out 0; have hfz51_1 := blk_frozen BK152.out 1; have hfz51_2 := blk_frozen BK152.out 2; have hcz52_0 : w50.cell? ⟨gb151, 0, none⟩ = some (.slice A0_0 l0_0.length c0_0) := (blk_cell BK151.out 0).trans rfl; have hfz52_0 := blk_frozen BK151.out 0) | ((with_reducible refine gate_callee (f := 54) rfl ?_); refine goesL_ (some 36) rfl rfl Try.func54 (by kernel_rfl) rfl #[.agg #[.int .i64 x153000_13, .int .i64 x153001_13, .int .i64 x153002_13], .int .i64 (l0_0.length : Int)] rfl zl ?_; (with_reducible refine (spec_l1Right.calls kj13 x153000_13 x153001_13 x153002_13 (l0_0.length : Int) true _ A29.out).mono ?_); rintro e w53 ⟨rfl, hb⟩; refine ⟨_, rfl, ?_⟩; have n0_ := Aside0.mk (Kd.V_below (by (with_reducible repeat (first | apply Kd.V_alloc | apply Kd.V_drewN | apply Kd.V_drew)); exact HO_152000.out) hb); have n1_ := Aside0.mk (blk_below (zh BK151.out) hb); have n2_ := Aside0.mk (blk_below (zh BK152.out) hb); have n3_ := Aside0.mk (blk_below (zh BK153.out) hb); have n4_ := Aside0.mk (below_step (zb HB.out) hb); clear HO_152000; clear BK151; clear BK152; clear BK153; clear HB; have HO_152000 := n0_; have BK151 := n1_; have BK152 := n2_; have BK153 := n3_; have HB := n4_; clear n0_ n1_ n2_ n3_ n4_; (try clear hb); (try clear hb2); (try clear hk); (try clear hi); have hcz54_0 : w53.cell? ⟨gb151, 0, none⟩ = some (.slice A0_0 l0_0.length c0_0) := (blk_cell BK151.out 0).trans rfl; have hfz54_0 := blk_frozen BK151.out 0) | ((with_reducible refine gate_callee (f := 27) rfl ?_); refine goesL_ (some 46) rfl rfl Try.func27 (by kernel_rfl) rfl #[.agg #[.slice A0_0 l0_0.length c0_0]] rfl zl ?_; (with_reducible refine (spec_l1Copy.calls _ _ l0_0 t156 _ ?side1 ?side2 A43.out).mono ?_); (case side1 => exact zc (Kd.V_reads' HO_152000.out).2.2); (case side2 => exact (Kd.V_reads' HO_152000.out).2.1); rintro e w55 ⟨v157, rfl, ho0, hb⟩; refine ⟨_, rfl, ?_⟩; have n0_ := Aside0.mk (Kd.V_elder' (by (with_reducible repeat (first | apply Kd.V_alloc | apply Kd.V_drewN | apply Kd.V_drew)); exact HO_152000.out) (Kd.R_base ho0) hb); have n1_ := Aside0.mk (Kd.R_lower (Kd.R_newB (Kd.R_newM (M := fun k_ => (w.heap.size ≤ k_)) ho0 (below_size (zb HB.out)) (fun k_ h_ => h_)) (zh BK152.out)) (below_size (zb HB.out))); have n2_ := Aside0.mk (blk_below (zh BK151.out) hb); have n3_ := Aside0.mk (blk_below (zh BK152.out) hb); have n4_ := Aside0.mk (blk_below (zh BK153.out) hb); have n5_ := Aside0.mk (below_step (zb HB.out) hb); clear HO_152000; clear BK151; clear BK152; clear BK153; clear HB; have HO_152000 := n0_; have HO158 := n1_; have BK151 := n2_; have BK152 := n3_; have BK153 := n4_; have HB := n5_; clear n0_ n1_ n2_ n3_ n4_ n5_; (try clear hb); (try clear hb2); (try clear hk); (try clear hi); (try clear ho0)) | ((with_reducible refine gate_dst (N := 7) rfl ?_); (try (refine gate_guard (by rfl) ?_; dsimp only)); refine box_event ?hg (N := 7) ?hd (cs := #[.slice none 0 0]) (t := 28) ?hr ?_; (case hd => rfl); (case hg => rfl); (case hr => first | (go_simp; done) | (go_simp; rfl)); intro gb159 hg w56 hbox hb; have n0_ := Aside0.mk (Kd.V_below (Kd.V_elderB (by (with_reducible repeat (first | apply Kd.V_alloc | apply Kd.V_drewN | apply Kd.V_drew)); exact HO_152000.out) gb159 (Nat.le_of_eq hg.symm)) hb); have n1_ := Aside0.mk (Kd.R_below (zr HO158.out) hb); have n2_ := Aside0.mk (blk_below (zh BK151.out) hb); have n3_ := Aside0.mk (blk_below (zh BK152.out) hb); have n4_ := Aside0.mk (blk_below (zh BK153.out) hb); have n5_ := Aside0.mk (below_step (zb HB.out) hb); have n6_ := Aside0.mk (hbox); have n7_ := Aside0.mk ((by rw [hg]; exact (below_size (zb HB.out)) : w.heap.size ≤ gb159)); have n8_ := Aside0.mk ((by rw [hg]; exact (below_size (zb HB.out)) : w.heap.size ≤ gb159)); have n9_ := Aside0.mk ((by rw [hg]; exact Nat.ne_of_lt (blk_lt (zh BK151.out)) : gb151 ≠ gb159)); have n10_ := Aside0.mk ((by rw [hg]; exact Nat.ne_of_gt (blk_lt (zh BK151.out)) : gb159 ≠ gb151)); have n11_ := Aside0.mk ((by rw [hg]; exact Nat.ne_of_lt (blk_lt (zh BK152.out)) : gb152 ≠ gb159)); have n12_ := Aside0.mk ((by rw [hg]; exact Nat.ne_of_gt (blk_lt (zh BK152.out)) : gb159 ≠ gb152)); have n13_ := Aside0.mk ((by rw [hg]; exact Nat.ne_of_lt (blk_lt (zh BK153.out)) : gb153 ≠ gb159)); have n14_ := Aside0.mk ((by rw [hg]; exact Nat.ne_of_gt (blk_lt (zh BK153.out)) : gb159 ≠ gb153)); clear HO_152000; clear HO158; clear BK151; clear BK152; clear BK153; clear HB; have HO_152000 := n0_; have HO158 := n1_; have BK151 := n2_; have BK152 := n3_; have BK153 := n4_; have HB := n5_; have BK159 := n6_; have GW159 := n7_; have GE159 := n8_; have NB151_159 := n9_; have NB159_151 := n10_; have NB152_159 := n11_; have NB159_152 := n12_; have NB153_159 := n13_; have NB159_153 := n14_; clear n0_ n1_ n2_ n3_ n4_ n5_ n6_ n7_ n8_ n9_ n10_ n11_ n12_ n13_ n14_; clear hb hbox hg; obtain ⟨Ao57, co57, eo57⟩ := Kd.R_slice HO158.out; subst eo57; have hnb58 := NB159_151.out; have hnc58 := NB151_159.out; have hnb59 := NB159_152.out; have hnc59 := NB152_159.out; have hnb60 := NB159_153.out; have hnc60 := NB153_159.out; have hcz61_0 : w56.cell? ⟨gb159, 0, none⟩ = some (.slice none 0 0) := (blk_cell BK159.out 0).trans rfl; have hfz61_0 := blk_frozen BK159.out 0; have hcz62_0 : w56.cell? ⟨gb152, 0, none⟩ = some (.int .i64 x153000_13) := (blk_cell BK152.out 0).trans rfl; have hcz62_1 : w56.cell? ⟨gb152, 1, none⟩ = some (.int .i64 x153001_13) := (blk_cell BK152.out 1).trans rfl; have hcz62_2 : w56.cell? ⟨gb152, 2, none⟩ = some (.int .i64 x153002_13) := (blk_cell BK152.out 2).trans rfl; have hfz62_0 := blk_frozen BK152.out 0; have hfz62_1 := blk_frozen BK152.out 1; have hfz62_2 := blk_frozen BK152.out 2) | ((with_reducible refine gate_builtin (b := .append) (xs := #[.tmp 48, .tmp 50]) rfl ?_); (try (refine gate_guard (by rfl) ?_; dsimp only)); at_builtin; refine Kd.R_append k55 (w0 := w) w.heap.size rfl (.tmp 48) (.tmp 50) 26 55 (.agg #[(.int .i64 0), (.int .i64 0), (.int .i64 0)]) 24 rfl Try.underlying26 info55 rfl (by decide) (by omega) (.slice Ao57 t156.length co57) t156 (⟨x153000_13, x153001_13, x153002_13⟩ : S55) [.int .i64 x153000_13, .int .i64 x153001_13, .int .i64 x153002_13] (fun k_ => (w.heap.size ≤ k_) ∧ k_ ≠ gb152) (fun _ => False) rfl (by first | (go_simp; done) | (go_simp; rfl)) ?aP (fun _ hk => hk.elim) ?aF ?aO ?aB ?aS ?aL ?_; (case aP => exact k55_mkM _ _ _ (⟨x153000_13, x153001_13, x153002_13⟩ : S55)); (case aB => exact (zb HB.out)); (case aF => exact (fun k_ hk => ⟨(Nat.le_trans (below_size (zb HB.out)) hk), Kd.freshB (g := gb152) (o := .cells #[.int .i64 x153000_13, .int .i64 x153001_13, .int .i64 x153002_13] 55 (0, 0)) (zf BK152.out) k_ hk⟩)); (case aO => exact (by (with_reducible repeat (first | apply Kd.R_alloc | apply Kd.R_drewN | apply Kd.R_drew)); exact Kd.R_mono (Kd.R_far (p := ⟨gb159, 0, none⟩) (Kd.R_types HO158.out BK159.out (by decide)) (fun _ hk => hk.2) (.slice Ao57 t156.length co57)) (fun _ hk => ⟨hk.1.1.1, hk.1.2⟩))); (case aS => exact (below_size (zb HB.out))); (case aL => have := LMc44.out; omega); intro v161 w63 ho hb hg hat; rw [← Ny160.out] at ho; have n0_ := Aside0.mk (Kd.V_afterv (ok := (fun k_ => (P0_0_ k_ ∨ w.heap.size ≤ k_) ∧ k_ ≠ gb151 ∧ k_ ≠ gb152 ∧ k_ ≠ gb153 ∧ k_ ≠ gb159)) (by (with_reducible repeat (first | apply Kd.V_alloc | apply Kd.V_drewN | apply Kd.V_drew)); exact Kd.V_mono (Kd.V_far (p := ⟨gb159, 0, none⟩) (Kd.V_mono HO_152000.out (fun k_ hk => (⟨hk, hk.2⟩ : _ ∧ k_ ≠ gb159))) (fun _ hk => hk.2) (.slice Ao57 t156.length co57)) (fun _ hk => ⟨⟨hk.1.1.1.1, ⟨hk.1.1.1.2.1, ⟨hk.1.1.1.2.2.1, ⟨hk.1.1.1.2.2.2, hk.1.2⟩⟩⟩⟩, hk.1.1.2⟩)) hg hat); have n1_ := Aside0.mk (blk_grown (g := gb151) (o := .cells #[.slice A0_0 l0_0.length c0_0] 28 (0, 0)) (zf BK151.out) hg (Kd.R_ne HO158.out BK151.out (by decide))); have n2_ := Aside0.mk (blk_grown (g := gb152) (o := .cells #[.int .i64 x153000_13, .int .i64 x153001_13, .int .i64 x153002_13] 55 (0, 0)) (zf BK152.out) hg (Kd.R_away HO158.out (fun _ hk => hk.2))); have n3_ := Aside0.mk (blk_grown (g := gb153) (o := .cells #[.slice none 0 0] 28 (0, 0)) (zf BK153.out) hg (Kd.R_ne HO158.out BK153.out (by decide))); have n4_ := Aside0.mk (blk_grown (g := gb159) (o := .cells #[.slice Ao57 t156.length co57] 28 (0, 0)) (by (with_reducible repeat (first | refine blk_drewN ?_ _ | refine blk_drew ?_ | refine blk_alloc ?_ _)); refine blk_put (cs := #[.slice none 0 0]) ?_ 0 _ rfl; (with_reducible repeat (first | refine blk_drewN ?_ _ | refine blk_drew ?_ | refine blk_alloc ?_ _)); exact BK159.out) hg (Kd.R_ne HO158.out BK159.out (by decide))); have n5_ := Aside0.mk (hb); have n6_ := Aside0.mk (ho); clear HO_152000; clear BK151; clear BK152; clear BK153; clear BK159; clear HB; clear HO158; have HO_152000 := n0_; have BK151 := n1_; have BK152 := n2_; have BK153 := n3_; have BK159 := n4_; have HB := n5_; have HO162 := n6_; clear n0_ n1_ n2_ n3_ n4_ n5_ n6_; clear ho hb hg hat; obtain ⟨Ao64, co64, eo64⟩ := Kd.R_slice HO162.out; subst eo64; have hcz65_0 : w63.cell? ⟨gb159, 0, none⟩ = some (.slice Ao57 t156.length co57) := (blk_cell BK159.out 0).trans rfl; have hfz65_0 := blk_frozen BK159.out 0))
         have n0_ : Aside0 (Kd.V k55 55 (w63.setCell ⟨gb159, 0, none⟩ (.slice Ao64 y160.length co64)) w.heap.size (fun k_ => (P0_0_ k_ ∨ w.heap.size ≤ k_) ∧ some k_ ≠ (.slice Ao64 y160.length co64 : Value).ownBlock ∧ k_ ≠ gb151 ∧ k_ ≠ gb152 ∧ k_ ≠ gb153 ∧ k_ ≠ gb159) (.slice A0_0 l0_0.length c0_0) l0_0) := ⟨by (with_reducible repeat (first | apply Kd.V_alloc | apply Kd.V_drewN | apply Kd.V_drew)); exact Kd.V_mono (Kd.V_far (p := ⟨gb159, 0, none⟩) (Kd.V_mono HO_152000.out (fun k_ hk => (⟨hk, hk.1.2.2.2.2⟩ : _ ∧ k_ ≠ gb159))) (fun _ hk => hk.2) (.slice Ao64 y160.length co64)) (fun _ hk => ⟨hk.1.1.1, ⟨hk.1.2, ⟨hk.1.1.2.1, ⟨hk.1.1.2.2.1, ⟨hk.1.1.2.2.2.1, hk.1.1.2.2.2.2⟩⟩⟩⟩⟩)⟩
         have n1_ : Aside0 (Kd.R k55 55 (w63.setCell ⟨gb159, 0, none⟩ (.slice Ao64 y160.length co64)) w.heap.size (fun k_ => (w.heap.size ≤ k_) ∧ k_ ≠ gb152) (.slice Ao64 y160.length co64) y160) := ⟨zr (Kd.R_mono (Kd.R_far (p := ⟨gb159, 0, none⟩) (Kd.R_types HO162.out BK159.out (by decide)) (fun _ hk => hk.2) (.slice Ao64 y160.length co64)) (fun _ hk => ⟨hk.1.1, hk.1.2⟩))⟩
         have n2_ : Aside0 ((w63.setCell ⟨gb159, 0, none⟩ (.slice Ao64 y160.length co64)).heap[gb151]? = some (.cells #[.slice A0_0 l0_0.length c0_0] 28 (0, 0))) := ⟨zf BK151.out⟩
         have n3_ : Aside0 ((w63.setCell ⟨gb159, 0, none⟩ (.slice Ao64 y160.length co64)).heap[gb152]? = some (.cells #[.int .i64 x153000_13, .int .i64 x153001_13, .int .i64 x153002_13] 55 (0, 0))) := ⟨zf BK152.out⟩
         have n4_ : Aside0 ((w63.setCell ⟨gb159, 0, none⟩ (.slice Ao64 y160.length co64)).heap[gb153]? = some (.cells #[.slice none 0 0] 28 (0, 0))) := ⟨zf BK153.out⟩
         have n5_ : Aside0 ((w63.setCell ⟨gb159, 0, none⟩ (.slice Ao64 y160.length co64)).heap[gb159]? = some (.cells #[.slice Ao64 y160.length co64] 28 (0, 0))) := ⟨by (with_reducible repeat (first | refine blk_drewN ?_ _ | refine blk_drew ?_ | refine blk_alloc ?_ _)); refine blk_put (cs := #[.slice Ao57 t156.length co57]) ?_ 0 _ rfl; (with_reducible repeat (first | refine blk_drewN ?_ _ | refine blk_drew ?_ | refine blk_alloc ?_ _)); exact BK159.out⟩
         have n6_ : Aside0 (Below w.heap.size w (w63.setCell ⟨gb159, 0, none⟩ (.slice Ao64 y160.length co64))) := ⟨zb HB.out⟩
         (try clear HO_152000)
         (try clear HO162)
         (try clear BK151)
         (try clear BK152)
         (try clear BK153)
         (try clear BK159)
         (try clear HB)
         generalize (w63.setCell ⟨gb159, 0, none⟩ (.slice Ao64 y160.length co64)) = w66 at n0_ n1_ n2_ n3_ n4_ n5_ n6_ ⊢
         have HO_152000 := n0_
         have HO162 := n1_
         have BK151 := n2_
         have BK152 := n3_
         have BK153 := n4_
         have BK159 := n5_
         have HB := n6_
         clear n0_ n1_ n2_ n3_ n4_ n5_ n6_
         have n0_ := Aside0.mk (Kd.V_drew HO_152000.out)
         have n1_ := Aside0.mk (Kd.R_drew HO162.out)
         have n2_ := Aside0.mk (blk_drew BK151.out)
         have n3_ := Aside0.mk (blk_drew BK152.out)
         have n4_ := Aside0.mk (blk_drew BK153.out)
         have n5_ := Aside0.mk (blk_drew BK159.out)
         have n6_ := Aside0.mk (below_drew1 HB.out)
         clear HO_152000
         clear HO162
         clear BK151
         clear BK152
         clear BK153
         clear BK159
         clear HB
         have HO_152000 := n0_
         have HO162 := n1_
         have BK151 := n2_
         have BK152 := n3_
         have BK153 := n4_
         have BK159 := n5_
         have HB := n6_
         clear n0_ n1_ n2_ n3_ n4_ n5_ n6_
         refine start_ (n := 6) (S := fun w' => w'.cell? ⟨gb159, 0, none⟩ = some (.slice Ao64 y160.length co64) ∧ w'.cell? ⟨gb151, 0, none⟩ = some (.slice A0_0 l0_0.length c0_0)) (ds := []) #[false, false, false, false, false, false] (by kernel_rfl) rfl rfl ⟨(blk_cell BK159.out 0).trans rfl, (blk_cell BK151.out 0).trans rfl⟩ (fun hHeld => ?_)
         generalize w66.drew = w67 at HO_152000 HO162 BK151 BK152 BK153 BK159 HB hHeld ⊢
         refine pure_ (i := 1) (N := some 54) (v := ?_) (a' := ?_) #[false, true, false, false, false, false] rfl rfl (by kernel_rfl) (fun _ _ _ h => h) (Or.inl ⟨by rfl, ?_⟩) ?_ ?_
         rotate_left
         ·intro w'
          go_simp
          with_reducible rfl
         rotate_left
         ·simp only [Act.put, List.setIfInBounds_toArray, List.set_cons_zero, List.set_cons_succ, i64_w, i32_w]
          rfl
         refine take_ (i := 0) (N := some 53) (v := ?_) (a' := ?_) #[true, true, false, false, false, false] rfl rfl (by kernel_rfl) (fun _ _ _ h => h) (Or.inl ⟨by rfl, ?_⟩) hHeld ?_ ?_
         rotate_left
         ·rintro w' ⟨s0, s1⟩
          go_simp
          with_reducible rfl
         rotate_left
         ·simp only [Act.put, List.setIfInBounds_toArray, List.set_cons_zero, List.set_cons_succ, i64_w, i32_w]
          rfl
         refine take_ (i := 2) (N := some 55) (v := ?_) (a' := ?_) #[true, true, true, false, false, false] rfl rfl (by kernel_rfl) (fun _ _ _ h => h) (Or.inl ⟨by rfl, ?_⟩) hHeld ?_ ?_
         rotate_left
         ·rintro w' ⟨s0, s1⟩
          go_simp
          with_reducible rfl
         rotate_left
         ·simp only [Act.put, List.setIfInBounds_toArray, List.set_cons_zero, List.set_cons_succ, i64_w, i32_w]
          rfl
         refine pure_ (i := 3) (N := some 56) (v := ?_) (a' := ?_) #[true, true, true, true, false, false] rfl rfl (by kernel_rfl) (fun _ _ _ h => h) (Or.inl ⟨by rfl, ?_⟩) ?_ ?_
         rotate_left
         ·intro w'
          go_simp
          with_reducible rfl
         rotate_left
         ·simp only [Act.put, List.setIfInBounds_toArray, List.set_cons_zero, List.set_cons_succ, i64_w, i32_w]
          rfl
         refine one_ (i := 4) (N := none) #[true, true, true, true, true, false] rfl rfl (by kernel_rfl) (by decide) (fun K hK => ?_)
         have hs68 : w67.cell? ⟨gb153, 0, none⟩ = some (.slice none 0 0) := (blk_cell BK153.out 0).trans rfl
         have hfs68 := blk_frozen BK153.out 0
         have hns68_0 := NB151_153.out
         have hns68_1 := NB152_153.out
         have hns68_3 := NB159_153.out
         have hms68_0 := NB153_151.out
         have hms68_1 := NB153_152.out
         have hms68_3 := NB153_159.out
         refine skip_ (w1 := ?_) (by rfl) rfl ?_ ?_
         rotate_left
         ·go_simp
          rfl
         refine hK.out _ _ ⟨((cell_far (p := ⟨gb153, _, none⟩) NB159_153.out _).trans (hHeld.1)), ((cell_far (p := ⟨gb153, _, none⟩) NB151_153.out _).trans (hHeld.2))⟩ (fun hHeld => ?_)
         clear hK K
         refine pure_ (i := 5) (N := some 5) (v := ?_) (a' := ?_) #[true, true, true, true, true, true] rfl rfl (by kernel_rfl) (fun _ _ _ h => h) (Or.inl ⟨by rfl, ?_⟩) ?_ ?_
         rotate_left
         ·intro w'
          go_simp
          with_reducible rfl
         rotate_left
         ·simp only [Act.put, List.setIfInBounds_toArray, List.set_cons_zero, List.set_cons_succ, i64_w, i32_w]
          rfl
         refine done_ (by kernel_rfl) ?_
         try go_wp2
         refine bodyPost_ret (results_ct rfl _ _ gb153 28 #[.slice Ao64 y160.length co64] (0, 0) _ rfl (by (with_reducible repeat (first | refine blk_drewN ?_ _ | refine blk_drew ?_ | refine blk_alloc ?_ _)); refine blk_put (cs := #[.slice none 0 0]) ?_ 0 _ rfl; (with_reducible repeat (first | refine blk_drewN ?_ _ | refine blk_drew ?_ | refine blk_alloc ?_ _)); exact BK153.out) Try.underlying28 rfl (by kernel_rfl)) rfl ?_
         exact ⟨_, ze, Kd.V_mono (Kd.R_V (by (with_reducible repeat (first | apply Kd.R_alloc | apply Kd.R_drewN | apply Kd.R_drew)); exact Kd.R_mono (Kd.R_far (p := ⟨gb153, 0, none⟩) (Kd.R_types HO162.out BK153.out (by decide)) (fun _ hk => hk.2) (.slice Ao64 y160.length co64)) (fun _ hk => hk.1.1))) (fun k_ hk => by first | exact ⟨(.inr (hk.1)), hk.2⟩ | exact (.inr (hk))), zb HB.out⟩
        ·rw [if_neg c44] at H
         exact absurd H (by simp)
      ·replace c30 := Bool.eq_false_iff.mpr c30
       subst c30
       have H1 : (some (l0_0, (-1))) = some (r1, r2) := by rw [if_neg (show ¬ (false = true) by decide)] at H; exact H
       clear H
       have H := H1
       clear H1
       simp only [Option.some.injEq, Prod.mk.injEq] at H
       obtain ⟨rfl, rfl⟩ := H
       have hnb69 := NB151_152.out
       have hnc69 := NB152_151.out
       have hnb70 := NB151_153.out
       have hnc70 := NB153_151.out
       have hcz71_0 : wc.cell? ⟨gb151, 0, none⟩ = some (.slice A0_0 l0_0.length c0_0) := (blk_cell BK151.out 0).trans rfl
       have hfz71_0 := blk_frozen BK151.out 0
       have hnb72 := NB152_153.out
       have hnc72 := NB153_152.out
       have hcz73_0 : wc.cell? ⟨gb152, 0, none⟩ = some (.int .i64 x153000_13) := (blk_cell BK152.out 0).trans rfl
       have hcz73_1 : wc.cell? ⟨gb152, 1, none⟩ = some (.int .i64 x153001_13) := (blk_cell BK152.out 1).trans rfl
       have hcz73_2 : wc.cell? ⟨gb152, 2, none⟩ = some (.int .i64 x153002_13) := (blk_cell BK152.out 2).trans rfl
       have hfz73_0 := blk_frozen BK152.out 0
       have hfz73_1 := blk_frozen BK152.out 1
       have hfz73_2 := blk_frozen BK152.out 2
       go_wp2_with (first | ((with_reducible refine gate_callee (f := 55) rfl ?_); refine goesL_ (some 27) rfl rfl Try.func55 (by kernel_rfl) rfl #[.agg #[.slice A0_0 l0_0.length c0_0], .agg #[.int .i64 x153000_13, .int .i64 x153001_13, .int .i64 x153002_13]] rfl zl ?_; (with_reducible refine (spec_l1Find.calls kj13 _ _ l0_0 x153000_13 x153001_13 x153002_13 t154 _ ?side1 ?side2 A19.out).mono ?_); (case side1 => exact zc (Kd.V_reads' HO_152000.out).2.2); (case side2 => exact (Kd.V_reads' HO_152000.out).2.1); rintro e w74 ⟨rfl, hb⟩; refine ⟨_, rfl, ?_⟩; have n0_ := Aside0.mk (Kd.V_below (by (with_reducible repeat (first | apply Kd.V_alloc | apply Kd.V_drewN | apply Kd.V_drew)); exact HO_152000.out) hb); have n1_ := Aside0.mk (blk_below (zh BK151.out) hb); have n2_ := Aside0.mk (blk_below (zh BK152.out) hb); have n3_ := Aside0.mk (blk_below (zh BK153.out) hb); have n4_ := Aside0.mk (below_step (zb HB.out) hb); clear HO_152000; clear BK151; clear BK152; clear BK153; clear HB; have HO_152000 := n0_; have BK151 := n1_; have BK152 := n2_; have BK153 := n3_; have HB := n4_; clear n0_ n1_ n2_ n3_ n4_; (try clear hb); (try clear hb2); (try clear hk); (try clear hi); have hcz75_0 : w74.cell? ⟨gb152, 0, none⟩ = some (.int .i64 x153000_13) := (blk_cell BK152.out 0).trans rfl; have hcz75_1 : w74.cell? ⟨gb152, 1, none⟩ = some (.int .i64 x153001_13) := (blk_cell BK152.out 1).trans rfl; have hcz75_2 : w74.cell? ⟨gb152, 2, none⟩ = some (.int .i64 x153002_13) := (blk_cell BK152.out 2).trans rfl; have hfz75_0 := blk_frozen BK152.out 0; have hfz75_1 := blk_frozen BK152.out 1; have hfz75_2 := blk_frozen BK152.out 2; have hcz76_0 : w74.cell? ⟨gb151, 0, none⟩ = some (.slice A0_0 l0_0.length c0_0) := (blk_cell BK151.out 0).trans rfl; have hfz76_0 := blk_frozen BK151.out 0) | ((with_reducible refine gate_callee (f := 54) rfl ?_); refine goesL_ (some 36) rfl rfl Try.func54 (by kernel_rfl) rfl #[.agg #[.int .i64 x153000_13, .int .i64 x153001_13, .int .i64 x153002_13], .int .i64 (l0_0.length : Int)] rfl zl ?_; (with_reducible refine (spec_l1Right.calls kj13 x153000_13 x153001_13 x153002_13 (l0_0.length : Int) false _ A29.out).mono ?_); rintro e w77 ⟨rfl, hb⟩; refine ⟨_, rfl, ?_⟩; have n0_ := Aside0.mk (Kd.V_below (by (with_reducible repeat (first | apply Kd.V_alloc | apply Kd.V_drewN | apply Kd.V_drew)); exact HO_152000.out) hb); have n1_ := Aside0.mk (blk_below (zh BK151.out) hb); have n2_ := Aside0.mk (blk_below (zh BK152.out) hb); have n3_ := Aside0.mk (blk_below (zh BK153.out) hb); have n4_ := Aside0.mk (below_step (zb HB.out) hb); clear HO_152000; clear BK151; clear BK152; clear BK153; clear HB; have HO_152000 := n0_; have BK151 := n1_; have BK152 := n2_; have BK153 := n3_; have HB := n4_; clear n0_ n1_ n2_ n3_ n4_; (try clear hb); (try clear hb2); (try clear hk); (try clear hi); have hcz78_0 : w77.cell? ⟨gb151, 0, none⟩ = some (.slice A0_0 l0_0.length c0_0) := (blk_cell BK151.out 0).trans rfl; have hfz78_0 := blk_frozen BK151.out 0; have hcz79_0 : w77.cell? ⟨gb153, 0, none⟩ = some (.slice none 0 0) := (blk_cell BK153.out 0).trans rfl; have hfz79_0 := blk_frozen BK153.out 0))
       refine bodyPost_ret (results_ct rfl _ _ gb153 28 #[.slice A0_0 l0_0.length c0_0] (0, 0) _ rfl (by (with_reducible repeat (first | refine blk_drewN ?_ _ | refine blk_drew ?_ | refine blk_alloc ?_ _)); refine blk_put (cs := #[.slice none 0 0]) ?_ 0 _ rfl; (with_reducible repeat (first | refine blk_drewN ?_ _ | refine blk_drew ?_ | refine blk_alloc ?_ _)); exact BK153.out) Try.underlying28 rfl (by kernel_rfl)) rfl ?_
       exact ⟨_, ze, by (with_reducible repeat (first | apply Kd.V_alloc | apply Kd.V_drewN | apply Kd.V_drew)); exact Kd.V_mono (Kd.V_far (p := ⟨gb153, 0, none⟩) (Kd.V_mono HO_152000.out (fun k_ hk => (⟨hk, hk.2.2.2⟩ : _ ∧ k_ ≠ gb153))) (fun _ hk => hk.2) (.slice A0_0 l0_0.length c0_0)) (fun _ hk => hk.1.1), zb HB.out⟩

end Go.Proofs.Ytobkledmbnacjaa.SW
end
