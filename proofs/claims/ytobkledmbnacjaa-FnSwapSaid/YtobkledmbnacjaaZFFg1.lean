import Derived.Test.YtobkledmbnacjaaZFF0
import Derived.Test.YtobkledmbnacjaaZFFg0
section
-- Written by this session's program (wip/tools/gprint.py over the kit's print) out of the translation; Lean checks it.
namespace Go.Proofs.Ytobkledmbnacjaa.F
open Go.RowKit Go.Proofs.YtobkledmbnacjaaW.PrintWords Go.Proofs.YtobkledmbnacjaaW.PrintLast Go.Proofs.YtobkledmbnacjaaW.PrintMore
attribute [local go_sem] max2_int min2_int max_two min_two max_three min_three max_four min_four   -- for this text's walks alone
set_option linter.unusedVariables false
set_option linter.unusedSimpArgs false
set_option maxRecDepth 100000


/-! ### spec_TermSwap: function 8 -/
-- INFO 3
-- INFO 55
set_option maxHeartbeats 8000000 in
set_option maxRecDepth 100000 in
theorem spec_TermSwap.addV (k : Nat) (P0_0_ : Nat → Prop) (A0_0 : Option Addr) (c0_0 : Nat) (l0_0 : List (S55)) (a1_0 : Int) (a1_1 : Int) (a1_2 : Int) (r1 : List (S55)) (r2 : Int) (w : World) (hs0_0 : Kd.V k55 55 w w.heap.size (fun k_ => P0_0_ k_) (.slice A0_0 l0_0.length c0_0) l0_0) (h : spec_l1Add.f k l0_0 a1_0 a1_1 a1_2 = some (r1, r2)) :
  Calls Try.prog 30 #[.agg #[.slice A0_0 l0_0.length c0_0], .agg #[.int .i64 a1_0, .int .i64 a1_1, .int .i64 a1_2]] w fun e w' => ∃ v0_ : Value, e = .returned (.tuple #[.agg #[v0_], .int .i64 r2]) ∧ Kd.V k55 55 w' w.heap.size (fun k_ => (P0_0_ k_ ∨ w.heap.size ≤ k_)) v0_ r1 ∧ Below w.heap.size w w' := by
 have hu28 := Try.underlying28
 have hu55 := Try.underlying55
 have HO0_0 := Aside0.mk (show Kd.V k55 55 w w.heap.size (fun k_ => (P0_0_ k_ ∨ w.heap.size ≤ k_)) (.slice A0_0 l0_0.length c0_0) l0_0 from Kd.V_mono hs0_0 (fun k_ hk => .inl hk))
 have HB := Aside0.mk (Below.refl w.heap.size w)
 have H : (if a1_0 = 8 then (spec_l1Add.j0 k (decide (a1_1 > a1_2)) l0_0 a1_0 a1_1 a1_2) else (spec_l1Add.j0 k false l0_0 a1_0 a1_1 a1_2)) = some (r1, r2) := h
 clear h
 have HC3 := Aside0.mk H
 clear H
 go_enter Try.func30, Try.ntmps30
 go_upto_region 1 with (first | ((with_reducible refine gate_dst (N := 2) rfl ?_); (try (refine gate_guard (by rfl) ?_; dsimp only)); refine box_event ?hg (N := 2) ?hd (cs := #[.slice A0_0 l0_0.length c0_0]) (t := 28) ?hr ?_; (case hd => rfl); (case hg => rfl); (case hr => first | (go_simp; done) | (go_simp; rfl)); intro gb151 hg w4 hbox hb; have n0_ := Aside0.mk (Kd.V_below (Kd.V_elderB (by (with_reducible repeat (first | apply Kd.V_alloc | apply Kd.V_drewN | apply Kd.V_drew)); exact HO0_0.out) gb151 (Nat.le_of_eq hg.symm)) hb); have n1_ := Aside0.mk (below_step (zb HB.out) hb); have n2_ := Aside0.mk (hbox); have n3_ := Aside0.mk ((by rw [hg]; exact (below_size (zb HB.out)) : w.heap.size ≤ gb151)); have n4_ := Aside0.mk ((by rw [hg]; exact (below_size (zb HB.out)) : w.heap.size ≤ gb151)); clear HO0_0; clear HB; have HO0_0 := n0_; have HB := n1_; have BK151 := n2_; have GW151 := n3_; have GE151 := n4_; clear n0_ n1_ n2_ n3_ n4_; clear hb hbox hg) | ((with_reducible refine gate_dst (N := 3) rfl ?_); (try (refine gate_guard (by rfl) ?_; dsimp only)); refine box_event ?hg (N := 3) ?hd (cs := #[.int .i64 a1_0, .int .i64 a1_1, .int .i64 a1_2]) (t := 55) ?hr ?_; (case hd => rfl); (case hg => rfl); (case hr => first | (go_simp; done) | (go_simp; rfl)); intro gb152 hg w5 hbox hb; have n0_ := Aside0.mk (Kd.V_below (Kd.V_elderB (by (with_reducible repeat (first | apply Kd.V_alloc | apply Kd.V_drewN | apply Kd.V_drew)); exact HO0_0.out) gb152 (Nat.le_of_eq hg.symm)) hb); have n1_ := Aside0.mk (blk_below (zh BK151.out) hb); have n2_ := Aside0.mk (below_step (zb HB.out) hb); have n3_ := Aside0.mk (hbox); have n4_ := Aside0.mk ((by rw [hg]; exact (below_size (zb HB.out)) : w.heap.size ≤ gb152)); have n5_ := Aside0.mk ((by rw [hg]; exact (below_size (zb HB.out)) : w.heap.size ≤ gb152)); have n6_ := Aside0.mk ((by rw [hg]; exact Nat.ne_of_lt (blk_lt (zh BK151.out)) : gb151 ≠ gb152)); have n7_ := Aside0.mk ((by rw [hg]; exact Nat.ne_of_gt (blk_lt (zh BK151.out)) : gb152 ≠ gb151)); clear HO0_0; clear BK151; clear HB; have HO0_0 := n0_; have BK151 := n1_; have HB := n2_; have BK152 := n3_; have GW152 := n4_; have GE152 := n5_; have NB151_152 := n6_; have NB152_151 := n7_; clear n0_ n1_ n2_ n3_ n4_ n5_ n6_ n7_; clear hb hbox hg) | ((with_reducible refine gate_dst (N := 4) rfl ?_); (try (refine gate_guard (by rfl) ?_; dsimp only)); refine box_event ?hg (N := 4) ?hd (cs := #[.slice none 0 0]) (t := 28) ?hr ?_; (case hd => rfl); (case hg => rfl); (case hr => first | (go_simp; done) | (go_simp; rfl)); intro gb153 hg w6 hbox hb; have n0_ := Aside0.mk (Kd.V_below (Kd.V_elderB (by (with_reducible repeat (first | apply Kd.V_alloc | apply Kd.V_drewN | apply Kd.V_drew)); exact HO0_0.out) gb153 (Nat.le_of_eq hg.symm)) hb); have n1_ := Aside0.mk (blk_below (zh BK151.out) hb); have n2_ := Aside0.mk (blk_below (zh BK152.out) hb); have n3_ := Aside0.mk (below_step (zb HB.out) hb); have n4_ := Aside0.mk (hbox); have n5_ := Aside0.mk ((by rw [hg]; exact (below_size (zb HB.out)) : w.heap.size ≤ gb153)); have n6_ := Aside0.mk ((by rw [hg]; exact (below_size (zb HB.out)) : w.heap.size ≤ gb153)); have n7_ := Aside0.mk ((by rw [hg]; exact Nat.ne_of_lt (blk_lt (zh BK151.out)) : gb151 ≠ gb153)); have n8_ := Aside0.mk ((by rw [hg]; exact Nat.ne_of_gt (blk_lt (zh BK151.out)) : gb153 ≠ gb151)); have n9_ := Aside0.mk ((by rw [hg]; exact Nat.ne_of_lt (blk_lt (zh BK152.out)) : gb152 ≠ gb153)); have n10_ := Aside0.mk ((by rw [hg]; exact Nat.ne_of_gt (blk_lt (zh BK152.out)) : gb153 ≠ gb152)); clear HO0_0; clear BK151; clear BK152; clear HB; have HO0_0 := n0_; have BK151 := n1_; have BK152 := n2_; have HB := n3_; have BK153 := n4_; have GW153 := n5_; have GE153 := n6_; have NB151_153 := n7_; have NB153_151 := n8_; have NB152_153 := n9_; have NB153_152 := n10_; clear n0_ n1_ n2_ n3_ n4_ n5_ n6_ n7_ n8_ n9_ n10_; clear hb hbox hg))
 (try simp only [Act.put, List.setIfInBounds_toArray, List.set_cons_zero, List.set_cons_succ])
 go_cut [17] (fun v17 wc => ∃ (kq : Nat) (x17_2 : Bool), v17 = .bool x17_2 ∧ Aside0 (spec_l1Add.j0 kq x17_2 l0_0 a1_0 a1_1 a1_2 = some (r1, r2)) ∧ Aside0 (kq ≤ k) ∧ Aside0 (Kd.V k55 55 wc w.heap.size (fun k_ => (P0_0_ k_ ∨ w.heap.size ≤ k_) ∧ k_ ≠ gb151 ∧ k_ ≠ gb152 ∧ k_ ≠ gb153) (.slice A0_0 l0_0.length c0_0) l0_0) ∧ Aside0 (wc.heap[gb151]? = some (.cells #[(.slice A0_0 l0_0.length c0_0)] 28 (0, 0))) ∧ Aside0 (wc.heap[gb152]? = some (.cells #[.int .i64 a1_0, .int .i64 a1_1, .int .i64 a1_2] 55 (0, 0))) ∧ Aside0 (wc.heap[gb153]? = some (.cells #[(.slice none 0 0)] 28 (0, 0))) ∧ Aside0 (Below w.heap.size w wc))
 case first =>
  have H := HC3.out
  clear HC3
  by_cases c7 : a1_0 = 8
  ·rw [if_pos c7] at H
   have c7b0 : (a1_0 == 8) = true := beq_iff_eq.mpr c7
   have c7b1 : (a1_0 != 8) = false := bne_eq_false_iff_eq.mpr c7
   clear c7
   (first | rw [c7b0] | (simp only [i64_w, i32_w]; rw [c7b0]) | skip)
   have H' := Aside0.mk H
   clear H
   have hnb8 := NB152_151.out
   have hnc8 := NB151_152.out
   have hnb9 := NB152_153.out
   have hnc9 := NB153_152.out
   have hcz10_0 : w6.cell? ⟨gb152, 0, none⟩ = some (.int .i64 a1_0) := (blk_cell BK152.out 0).trans rfl
   have hcz10_1 : w6.cell? ⟨gb152, 1, none⟩ = some (.int .i64 a1_1) := (blk_cell BK152.out 1).trans rfl
   have hcz10_2 : w6.cell? ⟨gb152, 2, none⟩ = some (.int .i64 a1_2) := (blk_cell BK152.out 2).trans rfl
   have hfz10_0 := blk_frozen BK152.out 0
   have hfz10_1 := blk_frozen BK152.out 1
   have hfz10_2 := blk_frozen BK152.out 2
   go_wp2
   go_meet
   case rel => exact ⟨_, (decide (a1_1 > a1_2)), (by first | rfl | (simp; done) | (simp [*]; done)), H', ⟨by first | omega | exact Nat.le_refl _⟩, ⟨by (with_reducible repeat (first | apply Kd.V_alloc | apply Kd.V_drewN | apply Kd.V_drew)); exact Kd.V_mono HO0_0.out (fun _ hk => ⟨hk.1.1.1, ⟨hk.1.1.2, ⟨hk.1.2, hk.2⟩⟩⟩)⟩, ⟨zh BK151.out⟩, ⟨zh BK152.out⟩, ⟨zh BK153.out⟩, ⟨zb HB.out⟩⟩
  ·rw [if_neg c7] at H
   have c7b0 : (a1_0 == 8) = false := beq_eq_false_iff_ne.mpr c7
   have c7b1 : (a1_0 != 8) = true := bne_iff_ne.mpr c7
   (first | rw [c7b0] | (simp only [i64_w, i32_w]; rw [c7b0]) | skip)
   have H' := Aside0.mk H
   clear H
   have hnb11 := NB152_151.out
   have hnc11 := NB151_152.out
   have hnb12 := NB152_153.out
   have hnc12 := NB153_152.out
   have hcz13_0 : w6.cell? ⟨gb152, 0, none⟩ = some (.int .i64 a1_0) := (blk_cell BK152.out 0).trans rfl
   have hcz13_1 : w6.cell? ⟨gb152, 1, none⟩ = some (.int .i64 a1_1) := (blk_cell BK152.out 1).trans rfl
   have hcz13_2 : w6.cell? ⟨gb152, 2, none⟩ = some (.int .i64 a1_2) := (blk_cell BK152.out 2).trans rfl
   have hfz13_0 := blk_frozen BK152.out 0
   have hfz13_1 := blk_frozen BK152.out 1
   have hfz13_2 := blk_frozen BK152.out 2
   go_wp2
   go_meet
   case rel => exact ⟨_, (false), (by first | rfl | (simp; done) | (simp [*]; done)), H', ⟨by first | omega | exact Nat.le_refl _⟩, ⟨by (with_reducible repeat (first | apply Kd.V_alloc | apply Kd.V_drewN | apply Kd.V_drew)); exact Kd.V_mono HO0_0.out (fun _ hk => ⟨hk.1.1.1, ⟨hk.1.1.2, ⟨hk.1.2, hk.2⟩⟩⟩)⟩, ⟨zh BK151.out⟩, ⟨zh BK152.out⟩, ⟨zh BK153.out⟩, ⟨zb HB.out⟩⟩
 case rest =>
  clear HC3
  try clear c1
  try clear p2
  try clear c3
  try clear c7
  try clear c7b0
  try clear c7b1
  try clear c8
  try clear c9
  try clear c11
  try clear c12
  try clear hcz10_0
  try clear hcz10_1
  try clear hcz10_2
  try clear hcz13_0
  try clear hcz13_1
  try clear hcz13_2
  try clear hfz10_0
  try clear hfz10_1
  try clear hfz10_2
  try clear hfz13_0
  try clear hfz13_1
  try clear hfz13_2
  obtain ⟨kq, x17_2, rfl, HA, HJ2, HO_152000, BK151, BK152, BK153, HB⟩ := hcut
  cases kq with
  | zero => exact absurd HA.out (by simp [spec_l1Add.j0])
  | succ kj2 =>
   have H := HA.out
   clear HA
   simp only [spec_l1Add.j0] at H
   have HC14 := Aside0.mk H
   clear H
   go_upto_if 17 with (fail)
   go_cut [] (fun wc => ∃ (kq : Nat) (x153000_13 : Int) (x153001_13 : Int) (x153002_13 : Int), Aside0 (spec_l1Add.j1 kq l0_0 x153000_13 x153001_13 x153002_13 = some (r1, r2)) ∧ Aside0 (kq ≤ kj2) ∧ Aside0 (Kd.V k55 55 wc w.heap.size (fun k_ => (P0_0_ k_ ∨ w.heap.size ≤ k_) ∧ k_ ≠ gb151 ∧ k_ ≠ gb152 ∧ k_ ≠ gb153) (.slice A0_0 l0_0.length c0_0) l0_0) ∧ Aside0 (wc.heap[gb151]? = some (.cells #[(.slice A0_0 l0_0.length c0_0)] 28 (0, 0))) ∧ Aside0 (wc.heap[gb152]? = some (.cells #[.int .i64 x153000_13, .int .i64 x153001_13, .int .i64 x153002_13] 55 (0, 0))) ∧ Aside0 (wc.heap[gb153]? = some (.cells #[(.slice none 0 0)] 28 (0, 0))) ∧ Aside0 (Below w.heap.size w wc))
   case first =>
    have H := HC14.out
    clear HC14
    by_cases c15 : x17_2 = true
    ·subst c15
     have H1 : (spec_l1Add.j1 kj2 l0_0 a1_0 a1_2 a1_1) = some (r1, r2) := by rw [if_pos rfl] at H; exact H
     clear H
     have H := H1
     clear H1
     have H' := Aside0.mk H
     clear H
     have hnb16 := NB152_151.out
     have hnc16 := NB151_152.out
     have hnb17 := NB152_153.out
     have hnc17 := NB153_152.out
     have hcz18_0 : wc.cell? ⟨gb152, 0, none⟩ = some (.int .i64 a1_0) := (blk_cell BK152.out 0).trans rfl
     have hcz18_1 : wc.cell? ⟨gb152, 1, none⟩ = some (.int .i64 a1_1) := (blk_cell BK152.out 1).trans rfl
     have hcz18_2 : wc.cell? ⟨gb152, 2, none⟩ = some (.int .i64 a1_2) := (blk_cell BK152.out 2).trans rfl
     have hfz18_0 := blk_frozen BK152.out 0
     have hfz18_1 := blk_frozen BK152.out 1
     have hfz18_2 := blk_frozen BK152.out 2
     go_wp2
     go_meet
     case rel => exact ⟨_, (a1_0), (a1_2), (a1_1), H', ⟨by have := HJ2.out; first | omega | exact Nat.le_refl _⟩, ⟨by (with_reducible repeat (first | apply Kd.V_alloc | apply Kd.V_drewN | apply Kd.V_drew)); exact Kd.V_mono (Kd.V_far (p := ⟨gb152, 2, none⟩) (Kd.V_far (p := ⟨gb152, 1, none⟩) (Kd.V_far (p := ⟨gb152, 0, none⟩) (Kd.V_mono HO_152000.out (fun k_ hk => (⟨hk, hk.2.2.1⟩ : _ ∧ k_ ≠ gb152))) (fun _ hk => hk.2) (.int .i64 a1_0)) (fun _ hk => hk.2) (.int .i64 a1_2)) (fun _ hk => hk.2) (.int .i64 a1_1)) (fun _ hk => ⟨hk.1.1, ⟨hk.1.2.1, ⟨hk.1.2.2.1, hk.1.2.2.2⟩⟩⟩)⟩, ⟨zf BK151.out⟩, ⟨by (with_reducible repeat (first | refine blk_drewN ?_ _ | refine blk_drew ?_ | refine blk_alloc ?_ _)); refine blk_put (cs := #[.int .i64 a1_0, .int .i64 a1_2, .int .i64 a1_2]) ?_ 2 _ rfl; (with_reducible repeat (first | refine blk_drewN ?_ _ | refine blk_drew ?_ | refine blk_alloc ?_ _)); refine blk_put (cs := #[.int .i64 a1_0, .int .i64 a1_1, .int .i64 a1_2]) ?_ 1 _ rfl; (with_reducible repeat (first | refine blk_drewN ?_ _ | refine blk_drew ?_ | refine blk_alloc ?_ _)); refine blk_put (cs := #[.int .i64 a1_0, .int .i64 a1_1, .int .i64 a1_2]) ?_ 0 _ rfl; (with_reducible repeat (first | refine blk_drewN ?_ _ | refine blk_drew ?_ | refine blk_alloc ?_ _)); exact BK152.out⟩, ⟨zf BK153.out⟩, ⟨zb HB.out⟩⟩
    ·replace c15 := Bool.eq_false_iff.mpr c15
     subst c15
     have H1 : (spec_l1Add.j1 kj2 l0_0 a1_0 a1_1 a1_2) = some (r1, r2) := by rw [if_neg (show ¬ (false = true) by decide)] at H; exact H
     clear H
     have H := H1
     clear H1
     have H' := Aside0.mk H
     clear H
     go_wp2
     go_meet
     case rel => exact ⟨_, (a1_0), (a1_1), (a1_2), H', ⟨by have := HJ2.out; first | omega | exact Nat.le_refl _⟩, ⟨by (with_reducible repeat (first | apply Kd.V_alloc | apply Kd.V_drewN | apply Kd.V_drew)); exact HO_152000.out⟩, ⟨zh BK151.out⟩, ⟨zh BK152.out⟩, ⟨zh BK153.out⟩, ⟨zb HB.out⟩⟩
   case rest =>
    clear HC14
    try clear c1
    try clear p2
    try clear c3
    try clear c7
    try clear c7b0
    try clear c7b1
    try clear c8
    try clear c9
    try clear c11
    try clear c12
    try clear c15
    try clear c16
    try clear c17
    try clear hcz10_0
    try clear hcz10_1
    try clear hcz10_2
    try clear hcz13_0
    try clear hcz13_1
    try clear hcz13_2
    try clear hcz18_0
    try clear hcz18_1
    try clear hcz18_2
    try clear hfz10_0
    try clear hfz10_1
    try clear hfz10_2
    try clear hfz13_0
    try clear hfz13_1
    try clear hfz13_2
    try clear hfz18_0
    try clear hfz18_1
    try clear hfz18_2
    try clear p2
    obtain ⟨kq, x153000_13, x153001_13, x153002_13, HA, HJ13, HO_152000, BK151, BK152, BK153, HB⟩ := hcut
    cases kq with
    | zero => exact absurd HA.out (by simp [spec_l1Add.j1])
    | succ kj13 =>
     have H := HA.out
     clear HA
     simp only [spec_l1Add.j1] at H
     replace H := Option.bind_eq_some_iff.mp H
     obtain ⟨t154, A190, H⟩ := H
     replace H : (if t154 ≥ 0 then (some (l0_0, t154)) else ((spec_l1Right.f kj13 x153000_13 x153001_13 x153002_13 (l0_0.length : Int)).bind fun t155 => (if t155 = true then (if (l0_0.length : Int) = 500 then (some (l0_0, (-1))) else ((spec_l1Copy.f l0_0).bind fun t156 => (if t156.length < 5864062014805 then (some ((t156 ++ [(⟨x153000_13, x153001_13, x153002_13⟩ : S55)]), (l0_0.length : Int))) else (none)))) else (some (l0_0, (-1)))))) = some (r1, r2) := H
     have A19 := Aside0.mk A190
     clear A190
     by_cases c20 : t154 ≥ 0
     ·rw [if_pos c20] at H
      have c20b0 : decide (0 ≤ t154) = true := decide_eq_true c20
      clear c20
      simp only [Option.some.injEq, Prod.mk.injEq] at H
      obtain ⟨rfl, rfl⟩ := H
      have hnb21 := NB151_152.out
      have hnc21 := NB152_151.out
      have hnb22 := NB151_153.out
      have hnc22 := NB153_151.out
      have hcz23_0 : wc.cell? ⟨gb151, 0, none⟩ = some (.slice A0_0 l0_0.length c0_0) := (blk_cell BK151.out 0).trans rfl
      have hfz23_0 := blk_frozen BK151.out 0
      have hnb24 := NB152_153.out
      have hnc24 := NB153_152.out
      have hcz25_0 : wc.cell? ⟨gb152, 0, none⟩ = some (.int .i64 x153000_13) := (blk_cell BK152.out 0).trans rfl
      have hcz25_1 : wc.cell? ⟨gb152, 1, none⟩ = some (.int .i64 x153001_13) := (blk_cell BK152.out 1).trans rfl
      have hcz25_2 : wc.cell? ⟨gb152, 2, none⟩ = some (.int .i64 x153002_13) := (blk_cell BK152.out 2).trans rfl
      have hfz25_0 := blk_frozen BK152.out 0
      have hfz25_1 := blk_frozen BK152.out 1
      have hfz25_2 := blk_frozen BK152.out 2
      go_wp2_with (first | ((with_reducible refine gate_callee (f := 55) rfl ?_); refine goesL_ (some 27) rfl rfl Try.func55 (by kernel_rfl) rfl #[.agg #[.slice A0_0 l0_0.length c0_0], .agg #[.int .i64 x153000_13, .int .i64 x153001_13, .int .i64 x153002_13]] rfl zl ?_; (with_reducible refine (spec_l1Find.calls kj13 _ _ l0_0 x153000_13 x153001_13 x153002_13 t154 _ ?side1 ?side2 A19.out).mono ?_); (case side1 => exact zc (Kd.V_reads' HO_152000.out).2.2); (case side2 => exact (Kd.V_reads' HO_152000.out).2.1); rintro e w26 ⟨rfl, hb⟩; refine ⟨_, rfl, ?_⟩; have n0_ := Aside0.mk (Kd.V_below (by (with_reducible repeat (first | apply Kd.V_alloc | apply Kd.V_drewN | apply Kd.V_drew)); exact HO_152000.out) hb); have n1_ := Aside0.mk (blk_below (zh BK151.out) hb); have n2_ := Aside0.mk (blk_below (zh BK152.out) hb); have n3_ := Aside0.mk (blk_below (zh BK153.out) hb); have n4_ := Aside0.mk (below_step (zb HB.out) hb); clear HO_152000; clear BK151; clear BK152; clear BK153; clear HB; have HO_152000 := n0_; have BK151 := n1_; have BK152 := n2_; have BK153 := n3_; have HB := n4_; clear n0_ n1_ n2_ n3_ n4_; (try clear hb); (try clear hb2); (try clear hk); (try clear hi); have hcz27_0 : w26.cell? ⟨gb151, 0, none⟩ = some (.slice A0_0 l0_0.length c0_0) := (blk_cell BK151.out 0).trans rfl; have hfz27_0 := blk_frozen BK151.out 0; have hcz28_0 : w26.cell? ⟨gb153, 0, none⟩ = some (.slice none 0 0) := (blk_cell BK153.out 0).trans rfl; have hfz28_0 := blk_frozen BK153.out 0))
      refine bodyPost_ret (results_ct rfl _ _ gb153 28 #[.slice A0_0 l0_0.length c0_0] (0, 0) _ rfl (by (with_reducible repeat (first | refine blk_drewN ?_ _ | refine blk_drew ?_ | refine blk_alloc ?_ _)); refine blk_put (cs := #[.slice none 0 0]) ?_ 0 _ rfl; (with_reducible repeat (first | refine blk_drewN ?_ _ | refine blk_drew ?_ | refine blk_alloc ?_ _)); exact BK153.out) Try.underlying28 rfl (by kernel_rfl)) rfl ?_
      exact ⟨_, ze, by (with_reducible repeat (first | apply Kd.V_alloc | apply Kd.V_drewN | apply Kd.V_drew)); exact Kd.V_mono (Kd.V_far (p := ⟨gb153, 0, none⟩) (Kd.V_mono HO_152000.out (fun k_ hk => (⟨hk, hk.2.2.2⟩ : _ ∧ k_ ≠ gb153))) (fun _ hk => hk.2) (.slice A0_0 l0_0.length c0_0)) (fun _ hk => hk.1.1), zb HB.out⟩
     ·rw [if_neg c20] at H
      have c20b0 : decide (0 ≤ t154) = false := decide_eq_false c20
      clear c20
      replace H := Option.bind_eq_some_iff.mp H
      obtain ⟨t155, A290, H⟩ := H
      replace H : (if t155 = true then (if (l0_0.length : Int) = 500 then (some (l0_0, (-1))) else ((spec_l1Copy.f l0_0).bind fun t156 => (if t156.length < 5864062014805 then (some ((t156 ++ [(⟨x153000_13, x153001_13, x153002_13⟩ : S55)]), (l0_0.length : Int))) else (none)))) else (some (l0_0, (-1)))) = some (r1, r2) := H
      have A29 := Aside0.mk A290
      clear A290
      by_cases c30 : t155 = true
      ·subst c30
       have H1 : (if (l0_0.length : Int) = 500 then (some (l0_0, (-1))) else ((spec_l1Copy.f l0_0).bind fun t156 => (if t156.length < 5864062014805 then (some ((t156 ++ [(⟨x153000_13, x153001_13, x153002_13⟩ : S55)]), (l0_0.length : Int))) else (none)))) = some (r1, r2) := by rw [if_pos rfl] at H; exact H
       clear H
       have H := H1
       clear H1
       by_cases c31 : (l0_0.length : Int) = 500
       ·rw [if_pos c31] at H
        have c31b0 : ((l0_0.length : Int) == 500) = true := beq_iff_eq.mpr c31
        have c31b1 : ((l0_0.length : Int) != 500) = false := bne_eq_false_iff_eq.mpr c31
        clear c31
        simp only [Option.some.injEq, Prod.mk.injEq] at H
        obtain ⟨rfl, rfl⟩ := H
        have hnb32 := NB151_152.out
        have hnc32 := NB152_151.out
        have hnb33 := NB151_153.out
        have hnc33 := NB153_151.out
        have hcz34_0 : wc.cell? ⟨gb151, 0, none⟩ = some (.slice A0_0 l0_0.length c0_0) := (blk_cell BK151.out 0).trans rfl
        have hfz34_0 := blk_frozen BK151.out 0
        have hnb35 := NB152_153.out
        have hnc35 := NB153_152.out
        have hcz36_0 : wc.cell? ⟨gb152, 0, none⟩ = some (.int .i64 x153000_13) := (blk_cell BK152.out 0).trans rfl
        have hcz36_1 : wc.cell? ⟨gb152, 1, none⟩ = some (.int .i64 x153001_13) := (blk_cell BK152.out 1).trans rfl
        have hcz36_2 : wc.cell? ⟨gb152, 2, none⟩ = some (.int .i64 x153002_13) := (blk_cell BK152.out 2).trans rfl
        have hfz36_0 := blk_frozen BK152.out 0
        have hfz36_1 := blk_frozen BK152.out 1
        have hfz36_2 := blk_frozen BK152.out 2
        go_wp2_with (first | ((with_reducible refine gate_callee (f := 55) rfl ?_); refine goesL_ (some 27) rfl rfl Try.func55 (by kernel_rfl) rfl #[.agg #[.slice A0_0 l0_0.length c0_0], .agg #[.int .i64 x153000_13, .int .i64 x153001_13, .int .i64 x153002_13]] rfl zl ?_; (with_reducible refine (spec_l1Find.calls kj13 _ _ l0_0 x153000_13 x153001_13 x153002_13 t154 _ ?side1 ?side2 A19.out).mono ?_); (case side1 => exact zc (Kd.V_reads' HO_152000.out).2.2); (case side2 => exact (Kd.V_reads' HO_152000.out).2.1); rintro e w37 ⟨rfl, hb⟩; refine ⟨_, rfl, ?_⟩; have n0_ := Aside0.mk (Kd.V_below (by (with_reducible repeat (first | apply Kd.V_alloc | apply Kd.V_drewN | apply Kd.V_drew)); exact HO_152000.out) hb); have n1_ := Aside0.mk (blk_below (zh BK151.out) hb); have n2_ := Aside0.mk (blk_below (zh BK152.out) hb); have n3_ := Aside0.mk (blk_below (zh BK153.out) hb); have n4_ := Aside0.mk (below_step (zb HB.out) hb); clear HO_152000; clear BK151; clear BK152; clear BK153; clear HB; have HO_152000 := n0_; have BK151 := n1_; have BK152 := n2_; have BK153 := n3_; have HB := n4_; clear n0_ n1_ n2_ n3_ n4_; (try clear hb); (try clear hb2); (try clear hk); (try clear hi); have hcz38_0 : w37.cell? ⟨gb152, 0, none⟩ = some (.int .i64 x153000_13) := (blk_cell BK152.out 0).trans rfl; have hcz38_1 : w37.cell? ⟨gb152, 1, none⟩ = some (.int .i64 x153001_13) := (blk_cell BK152.out 1).trans rfl; have hcz38_2 : w37.cell? ⟨gb152, 2, none⟩ = some (.int .i64 x153002_13) := (blk_cell BK152.out 2).trans rfl; have hfz38_0 := blk_frozen BK152.out 0; have hfz38_1 := blk_frozen BK152.out 1; have hfz38_2 := blk_frozen BK152.out 2; have hcz39_0 : w37.cell? ⟨gb151, 0, none⟩ = some (.slice A0_0 l0_0.length c0_0) := (blk_cell BK151.out 0).trans rfl; have hfz39_0 := blk_frozen BK151.out 0) | ((with_reducible refine gate_callee (f := 54) rfl ?_); refine goesL_ (some 36) rfl rfl Try.func54 (by kernel_rfl) rfl #[.agg #[.int .i64 x153000_13, .int .i64 x153001_13, .int .i64 x153002_13], .int .i64 (l0_0.length : Int)] rfl zl ?_; (with_reducible refine (spec_l1Right.calls kj13 x153000_13 x153001_13 x153002_13 (l0_0.length : Int) true _ A29.out).mono ?_); rintro e w40 ⟨rfl, hb⟩; refine ⟨_, rfl, ?_⟩; have n0_ := Aside0.mk (Kd.V_below (by (with_reducible repeat (first | apply Kd.V_alloc | apply Kd.V_drewN | apply Kd.V_drew)); exact HO_152000.out) hb); have n1_ := Aside0.mk (blk_below (zh BK151.out) hb); have n2_ := Aside0.mk (blk_below (zh BK152.out) hb); have n3_ := Aside0.mk (blk_below (zh BK153.out) hb); have n4_ := Aside0.mk (below_step (zb HB.out) hb); clear HO_152000; clear BK151; clear BK152; clear BK153; clear HB; have HO_152000 := n0_; have BK151 := n1_; have BK152 := n2_; have BK153 := n3_; have HB := n4_; clear n0_ n1_ n2_ n3_ n4_; (try clear hb); (try clear hb2); (try clear hk); (try clear hi); have hcz41_0 : w40.cell? ⟨gb151, 0, none⟩ = some (.slice A0_0 l0_0.length c0_0) := (blk_cell BK151.out 0).trans rfl; have hfz41_0 := blk_frozen BK151.out 0; have hcz42_0 : w40.cell? ⟨gb153, 0, none⟩ = some (.slice none 0 0) := (blk_cell BK153.out 0).trans rfl; have hfz42_0 := blk_frozen BK153.out 0))
        refine bodyPost_ret (results_ct rfl _ _ gb153 28 #[.slice A0_0 l0_0.length c0_0] (0, 0) _ rfl (by (with_reducible repeat (first | refine blk_drewN ?_ _ | refine blk_drew ?_ | refine blk_alloc ?_ _)); refine blk_put (cs := #[.slice none 0 0]) ?_ 0 _ rfl; (with_reducible repeat (first | refine blk_drewN ?_ _ | refine blk_drew ?_ | refine blk_alloc ?_ _)); exact BK153.out) Try.underlying28 rfl (by kernel_rfl)) rfl ?_
        exact ⟨_, ze, by (with_reducible repeat (first | apply Kd.V_alloc | apply Kd.V_drewN | apply Kd.V_drew)); exact Kd.V_mono (Kd.V_far (p := ⟨gb153, 0, none⟩) (Kd.V_mono HO_152000.out (fun k_ hk => (⟨hk, hk.2.2.2⟩ : _ ∧ k_ ≠ gb153))) (fun _ hk => hk.2) (.slice A0_0 l0_0.length c0_0)) (fun _ hk => hk.1.1), zb HB.out⟩
       ·rw [if_neg c31] at H
        have c31b0 : ((l0_0.length : Int) == 500) = false := beq_eq_false_iff_ne.mpr c31
        have c31b1 : ((l0_0.length : Int) != 500) = true := bne_iff_ne.mpr c31
        replace H := Option.bind_eq_some_iff.mp H
        obtain ⟨t156, A430, H⟩ := H
        replace H : (if t156.length < 5864062014805 then (some ((t156 ++ [(⟨x153000_13, x153001_13, x153002_13⟩ : S55)]), (l0_0.length : Int))) else (none)) = some (r1, r2) := H
        have A43 := Aside0.mk A430
        clear A430
        by_cases c44 : t156.length < 5864062014805
        ·rw [if_pos c44] at H
         have LMc44 := Aside0.mk c44
         clear c44
         obtain ⟨y160, hy160⟩ : ∃ y_ : List (S55), y_ = (t156 ++ [(⟨x153000_13, x153001_13, x153002_13⟩ : S55)]) := ⟨_, rfl⟩
         replace H : (some (y160, (l0_0.length : Int))) = some (r1, r2) := by first | (rw [hy160]; with_reducible exact H) | (have H2_ := (Option.bind_some _ _).symm.trans H; rw [hy160]; with_reducible exact H2_) | (have H2_ := (Option.bind_some _ _).symm.trans H; with_reducible exact H2_) | with_reducible exact H | (rw [hy160]; exact H) | exact H
         have Ny160 := Aside0.mk hy160
         clear hy160
         simp only [Option.some.injEq, Prod.mk.injEq] at H
         obtain ⟨rfl, rfl⟩ := H
         have hnb45 := NB151_152.out
         have hnc45 := NB152_151.out
         have hnb46 := NB151_153.out
         have hnc46 := NB153_151.out
         have hcz47_0 : wc.cell? ⟨gb151, 0, none⟩ = some (.slice A0_0 l0_0.length c0_0) := (blk_cell BK151.out 0).trans rfl
         have hfz47_0 := blk_frozen BK151.out 0
         have hnb48 := NB152_153.out
         have hnc48 := NB153_152.out
         have hcz49_0 : wc.cell? ⟨gb152, 0, none⟩ = some (.int .i64 x153000_13) := (blk_cell BK152.out 0).trans rfl
         have hcz49_1 : wc.cell? ⟨gb152, 1, none⟩ = some (.int .i64 x153001_13) := (blk_cell BK152.out 1).trans rfl
         have hcz49_2 : wc.cell? ⟨gb152, 2, none⟩ = some (.int .i64 x153002_13) := (blk_cell BK152.out 2).trans rfl
         have hfz49_0 := blk_frozen BK152.out 0
         have hfz49_1 := blk_frozen BK152.out 1
         have hfz49_2 := blk_frozen BK152.out 2
         try go_wp2_with (first | ((with_reducible refine gate_callee (f := 55) rfl ?_); refine goesL_ (some 27) rfl rfl Try.func55 (by kernel_rfl) rfl #[.agg #[.slice A0_0 l0_0.length c0_0], .agg #[.int .i64 x153000_13, .int .i64 x153001_13, .int .i64 x153002_13]] rfl zl ?_; (with_reducible refine (spec_l1Find.calls kj13 _ _ l0_0 x153000_13 x153001_13 x153002_13 t154 _ ?side1 ?side2 A19.out).mono ?_); (case side1 => exact zc (Kd.V_reads' HO_152000.out).2.2); (case side2 => exact (Kd.V_reads' HO_152000.out).2.1); rintro e w50 ⟨rfl, hb⟩; refine ⟨_, rfl, ?_⟩; have n0_ := Aside0.mk (Kd.V_below (by (with_reducible repeat (first | apply Kd.V_alloc | apply Kd.V_drewN | apply Kd.V_drew)); exact HO_152000.out) hb); have n1_ := Aside0.mk (blk_below (zh BK151.out) hb); have n2_ := Aside0.mk (blk_below (zh BK152.out) hb); have n3_ := Aside0.mk (blk_below (zh BK153.out) hb); have n4_ := Aside0.mk (below_step (zb HB.out) hb); clear HO_152000; clear BK151; clear BK152; clear BK153; clear HB; have HO_152000 := n0_; have BK151 := n1_; have BK152 := n2_; have BK153 := n3_; have HB := n4_; clear n0_ n1_ n2_ n3_ n4_; (try clear hb); (try clear hb2); (try clear hk); (try clear hi); have hcz51_0 : w50.cell? ⟨gb152, 0, none⟩ = some (.int .i64 x153000_13) := (blk_cell BK152.out 0).trans rfl; have hcz51_1 : w50.cell? ⟨gb152, 1, none⟩ = some (.int .i64 x153001_13) := (blk_cell BK152.out 1).trans rfl; have hcz51_2 : w50.cell? ⟨gb152, 2, none⟩ = some (.int .i64 x153002_13) := (blk_cell BK152.out 2).trans rfl; have hfz51_0 := blk_frozen BK152.out 0; have hfz51_1 := blk_frozen BK152.out 1; have hfz51_2 := blk_frozen BK152.out 2; have hcz52_0 : w50.cell? ⟨gb151, 0, none⟩ = some (.slice A0_0 l0_0.length c0_0) := (blk_cell BK151.out 0).trans rfl; have hfz52_0 := blk_frozen BK151.out 0) | ((with_reducible refine gate_callee (f := 54) rfl ?_); refine goesL_ (some 36) rfl rfl Try.func54 (by kernel_rfl) rfl #[.agg #[.int .i64 x153000_13, .int .i64 x153001_13, .int .i64 x153002_13], .int .i64 (l0_0.length : Int)] rfl zl ?_; (with_reducible refine (spec_l1Right.calls kj13 x153000_13 x153001_13 x153002_13 (l0_0.length : Int) true _ A29.out).mono ?_); rintro e w53 ⟨rfl, hb⟩; refine ⟨_, rfl, ?_⟩; have n0_ := Aside0.mk (Kd.V_below (by (with_reducible repeat (first | apply Kd.V_alloc | apply Kd.V_drewN | apply Kd.V_drew)); exact HO_152000.out) hb); have n1_ := Aside0.mk (blk_below (zh BK151.out) hb); have n2_ := Aside0.mk (blk_below (zh BK152.out) hb); have n3_ := Aside0.mk (blk_below (zh BK153.out) hb); have n4_ := Aside0.mk (below_step (zb HB.out) hb); clear HO_152000; clear BK151; clear BK152; clear BK153; clear HB; have HO_152000 := n0_; have BK151 := n1_; have BK152 := n2_; have BK153 := n3_; have HB := n4_; clear n0_ n1_ n2_ n3_ n4_; (try clear hb); (try clear hb2); (try clear hk); (try clear hi); have hcz54_0 : w53.cell? ⟨gb151, 0, none⟩ = some (.slice A0_0 l0_0.length c0_0) := (blk_cell BK151.out 0).trans rfl; have hfz54_0 := blk_frozen BK151.out 0) | ((with_reducible refine gate_callee (f := 27) rfl ?_); refine goesL_ (some 46) rfl rfl Try.func27 (by kernel_rfl) rfl #[.agg #[.slice A0_0 l0_0.length c0_0]] rfl zl ?_; (with_reducible refine (spec_l1Copy.calls _ _ l0_0 t156 _ ?side1 ?side2 A43.out).mono ?_); (case side1 => exact zc (Kd.V_reads' HO_152000.out).2.2); (case side2 => exact (Kd.V_reads' HO_152000.out).2.1); rintro e w55 ⟨v157, rfl, ho0, hb⟩; refine ⟨_, rfl, ?_⟩; have n0_ := Aside0.mk (Kd.V_elder' (by (with_reducible repeat (first | apply Kd.V_alloc | apply Kd.V_drewN | apply Kd.V_drew)); exact HO_152000.out) (Kd.R_base ho0) hb); have n1_ := Aside0.mk (Kd.R_lower (Kd.R_newB (Kd.R_newM (M := fun k_ => (w.heap.size ≤ k_)) ho0 (below_size (zb HB.out)) (fun k_ h_ => h_)) (zh BK152.out)) (below_size (zb HB.out))); have n2_ := Aside0.mk (blk_below (zh BK151.out) hb); have n3_ := Aside0.mk (blk_below (zh BK152.out) hb); have n4_ := Aside0.mk (blk_below (zh BK153.out) hb); have n5_ := Aside0.mk (below_step (zb HB.out) hb); clear HO_152000; clear BK151; clear BK152; clear BK153; clear HB; have HO_152000 := n0_; have HO158 := n1_; have BK151 := n2_; have BK152 := n3_; have BK153 := n4_; have HB := n5_; clear n0_ n1_ n2_ n3_ n4_ n5_; (try clear hb); (try clear hb2); (try clear hk); (try clear hi); (try clear ho0)) | ((with_reducible refine gate_dst (N := 7) rfl ?_); (try (refine gate_guard (by rfl) ?_; dsimp only)); refine box_event ?hg (N := 7) ?hd (cs := #[.slice none 0 0]) (t := 28) ?hr ?_; (case hd => rfl); (case hg => rfl); (case hr => first | (go_simp; done) | (go_simp; rfl)); intro gb159 hg w56 hbox hb; have n0_ := Aside0.mk (Kd.V_below (Kd.V_elderB (by (with_reducible repeat (first | apply Kd.V_alloc | apply Kd.V_drewN | apply Kd.V_drew)); exact HO_152000.out) gb159 (Nat.le_of_eq hg.symm)) hb); have n1_ := Aside0.mk (Kd.R_below (zr HO158.out) hb); have n2_ := Aside0.mk (blk_below (zh BK151.out) hb); have n3_ := Aside0.mk (blk_below (zh BK152.out) hb); have n4_ := Aside0.mk (blk_below (zh BK153.out) hb); have n5_ := Aside0.mk (below_step (zb HB.out) hb); have n6_ := Aside0.mk (hbox); have n7_ := Aside0.mk ((by rw [hg]; exact (below_size (zb HB.out)) : w.heap.size ≤ gb159)); have n8_ := Aside0.mk ((by rw [hg]; exact (below_size (zb HB.out)) : w.heap.size ≤ gb159)); have n9_ := Aside0.mk ((by rw [hg]; exact Nat.ne_of_lt (blk_lt (zh BK151.out)) : gb151 ≠ gb159)); have n10_ := Aside0.mk ((by rw [hg]; exact Nat.ne_of_gt (blk_lt (zh BK151.out)) : gb159 ≠ gb151)); have n11_ := Aside0.mk ((by rw [hg]; exact Nat.ne_of_lt (blk_lt (zh BK152.out)) : gb152 ≠ gb159)); have n12_ := Aside0.mk ((by rw [hg]; exact Nat.ne_of_gt (blk_lt (zh BK152.out)) : gb159 ≠ gb152)); have n13_ := Aside0.mk ((by rw [hg]; exact Nat.ne_of_lt (blk_lt (zh BK153.out)) : gb153 ≠ gb159)); have n14_ := Aside0.mk ((by rw [hg]; exact Nat.ne_of_gt (blk_lt (zh BK153.out)) : gb159 ≠ gb153)); clear HO_152000; clear HO158; clear BK151; clear BK152; clear BK153; clear HB; have HO_152000 := n0_; have HO158 := n1_; have BK151 := n2_; have BK152 := n3_; have BK153 := n4_; have HB := n5_; have BK159 := n6_; have GW159 := n7_; have GE159 := n8_; have NB151_159 := n9_; have NB159_151 := n10_; have NB152_159 := n11_; have NB159_152 := n12_; have NB153_159 := n13_; have NB159_153 := n14_; clear n0_ n1_ n2_ n3_ n4_ n5_ n6_ n7_ n8_ n9_ n10_ n11_ n12_ n13_ n14_; clear hb hbox hg; obtain ⟨Ao57, co57, eo57⟩ := Kd.R_slice HO158.out; subst eo57; have hnb58 := NB159_151.out; have hnc58 := NB151_159.out; have hnb59 := NB159_152.out; have hnc59 := NB152_159.out; have hnb60 := NB159_153.out; have hnc60 := NB153_159.out; have hcz61_0 : w56.cell? ⟨gb159, 0, none⟩ = some (.slice none 0 0) := (blk_cell BK159.out 0).trans rfl; have hfz61_0 := blk_frozen BK159.out 0; have hcz62_0 : w56.cell? ⟨gb152, 0, none⟩ = some (.int .i64 x153000_13) := (blk_cell BK152.out 0).trans rfl; have hcz62_1 : w56.cell? ⟨gb152, 1, none⟩ = some (.int .i64 x153001_13) := (blk_cell BK152.out 1).trans rfl; have hcz62_2 : w56.cell? ⟨gb152, 2, none⟩ = some (.int .i64 x153002_13) := (blk_cell BK152.out 2).trans rfl; have hfz62_0 := blk_frozen BK152.out 0; have hfz62_1 := blk_frozen BK152.out 1; have hfz62_2 := blk_frozen BK152.out 2) | ((with_reducible refine gate_builtin (b := .append) (xs := #[.tmp 48, .tmp 50]) rfl ?_); (try (refine gate_guard (by rfl) ?_; dsimp only)); at_builtin; refine Kd.R_append k55 (w0 := w) w.heap.size rfl (.tmp 48) (.tmp 50) 26 55 (.agg #[(.int .i64 0), (.int .i64 0), (.int .i64 0)]) 24 rfl Try.underlying26 info55 rfl (by decide) (by omega) (.slice Ao57 t156.length co57) t156 (⟨x153000_13, x153001_13, x153002_13⟩ : S55) [.int .i64 x153000_13, .int .i64 x153001_13, .int .i64 x153002_13] (fun k_ => (w.heap.size ≤ k_) ∧ k_ ≠ gb152) (fun _ => False) rfl (by first | (go_simp; done) | (go_simp; rfl)) ?aP (fun _ hk => hk.elim) ?aF ?aO ?aB ?aS ?aL ?_; (case aP => exact k55_mkM _ _ _ (⟨x153000_13, x153001_13, x153002_13⟩ : S55)); (case aB => exact (zb HB.out)); (case aF => exact (fun k_ hk => ⟨(Nat.le_trans (below_size (zb HB.out)) hk), Kd.freshB (g := gb152) (o := .cells #[.int .i64 x153000_13, .int .i64 x153001_13, .int .i64 x153002_13] 55 (0, 0)) (zf BK152.out) k_ hk⟩)); (case aO => exact (by (with_reducible repeat (first | apply Kd.R_alloc | apply Kd.R_drewN | apply Kd.R_drew)); exact Kd.R_mono (Kd.R_far (p := ⟨gb159, 0, none⟩) (Kd.R_types HO158.out BK159.out (by decide)) (fun _ hk => hk.2) (.slice Ao57 t156.length co57)) (fun _ hk => ⟨hk.1.1.1, hk.1.2⟩))); (case aS => exact (below_size (zb HB.out))); (case aL => have := LMc44.out; omega); intro v161 w63 ho hb hg hat; rw [← Ny160.out] at ho; have n0_ := Aside0.mk (Kd.V_afterv (ok := (fun k_ => (P0_0_ k_ ∨ w.heap.size ≤ k_) ∧ k_ ≠ gb151 ∧ k_ ≠ gb152 ∧ k_ ≠ gb153 ∧ k_ ≠ gb159)) (by (with_reducible repeat (first | apply Kd.V_alloc | apply Kd.V_drewN | apply Kd.V_drew)); exact Kd.V_mono (Kd.V_far (p := ⟨gb159, 0, none⟩) (Kd.V_mono HO_152000.out (fun k_ hk => (⟨hk, hk.2⟩ : _ ∧ k_ ≠ gb159))) (fun _ hk => hk.2) (.slice Ao57 t156.length co57)) (fun _ hk => ⟨⟨hk.1.1.1.1, ⟨hk.1.1.1.2.1, ⟨hk.1.1.1.2.2.1, ⟨hk.1.1.1.2.2.2, hk.1.2⟩⟩⟩⟩, hk.1.1.2⟩)) hg hat); have n1_ := Aside0.mk (blk_grown (g := gb151) (o := .cells #[.slice A0_0 l0_0.length c0_0] 28 (0, 0)) (zf BK151.out) hg (Kd.R_ne HO158.out BK151.out (by decide))); have n2_ := Aside0.mk (blk_grown (g := gb152) (o := .cells #[.int .i64 x153000_13, .int .i64 x153001_13, .int .i64 x153002_13] 55 (0, 0)) (zf BK152.out) hg (Kd.R_away HO158.out (fun _ hk => hk.2))); have n3_ := Aside0.mk (blk_grown (g := gb153) (o := .cells #[.slice none 0 0] 28 (0, 0)) (zf BK153.out) hg (Kd.R_ne HO158.out BK153.out (by decide))); have n4_ := Aside0.mk (blk_grown (g := gb159) (o := .cells #[.slice Ao57 t156.length co57] 28 (0, 0)) (by (with_reducible repeat (first | refine blk_drewN ?_ _ | refine blk_drew ?_ | refine blk_alloc ?_ _)); refine blk_put (cs := #[.slice none 0 0]) ?_ 0 _ rfl; (with_reducible repeat (first | refine blk_drewN ?_ _ | refine blk_drew ?_ | refine blk_alloc ?_ _)); exact BK159.out) hg (Kd.R_ne HO158.out BK159.out (by decide))); have n5_ := Aside0.mk (hb); have n6_ := Aside0.mk (ho); clear HO_152000; clear BK151; clear BK152; clear BK153; clear BK159; clear HB; clear HO158; have HO_152000 := n0_; have BK151 := n1_; have BK152 := n2_; have BK153 := n3_; have BK159 := n4_; have HB := n5_; have HO162 := n6_; clear n0_ n1_ n2_ n3_ n4_ n5_ n6_; clear ho hb hg hat; obtain ⟨Ao64, co64, eo64⟩ := Kd.R_slice HO162.out; subst eo64; have hcz65_0 : w63.cell? ⟨gb159, 0, none⟩ = some (.slice Ao57 t156.length co57) := (blk_cell BK159.out 0).trans rfl; have hfz65_0 := blk_frozen BK159.out 0))
         have n0_ : Aside0 (Kd.V k55 55 (w63.setCell ⟨gb159, 0, none⟩ (.slice Ao64 y160.length co64)) w.heap.size (fun k_ => (P0_0_ k_ ∨ w.heap.size ≤ k_) ∧ some k_ ≠ (.slice Ao64 y160.length co64 : Value).ownBlock ∧ k_ ≠ gb151 ∧ k_ ≠ gb152 ∧ k_ ≠ gb153 ∧ k_ ≠ gb159) (.slice A0_0 l0_0.length c0_0) l0_0) := ⟨by (with_reducible repeat (first | apply Kd.V_alloc | apply Kd.V_drewN | apply Kd.V_drew)); exact Kd.V_mono (Kd.V_far (p := ⟨gb159, 0, none⟩) (Kd.V_mono HO_152000.out (fun k_ hk => (⟨hk, hk.1.2.2.2.2⟩ : _ ∧ k_ ≠ gb159))) (fun _ hk => hk.2) (.slice Ao64 y160.length co64)) (fun _ hk => ⟨hk.1.1.1, ⟨hk.1.2, ⟨hk.1.1.2.1, ⟨hk.1.1.2.2.1, ⟨hk.1.1.2.2.2.1, hk.1.1.2.2.2.2⟩⟩⟩⟩⟩)⟩
         have n1_ : Aside0 (Kd.R k55 55 (w63.setCell ⟨gb159, 0, none⟩ (.slice Ao64 y160.length co64)) w.heap.size (fun k_ => (w.heap.size ≤ k_) ∧ k_ ≠ gb152) (.slice Ao64 y160.length co64) y160) := ⟨zr (Kd.R_mono (Kd.R_far (p := ⟨gb159, 0, none⟩) (Kd.R_types HO162.out BK159.out (by decide)) (fun _ hk => hk.2) (.slice Ao64 y160.length co64)) (fun _ hk => ⟨hk.1.1, hk.1.2⟩))⟩
         have n2_ : Aside0 ((w63.setCell ⟨gb159, 0, none⟩ (.slice Ao64 y160.length co64)).heap[gb151]? = some (.cells #[.slice A0_0 l0_0.length c0_0] 28 (0, 0))) := ⟨zf BK151.out⟩
         have n3_ : Aside0 ((w63.setCell ⟨gb159, 0, none⟩ (.slice Ao64 y160.length co64)).heap[gb152]? = some (.cells #[.int .i64 x153000_13, .int .i64 x153001_13, .int .i64 x153002_13] 55 (0, 0))) := ⟨zf BK152.out⟩
         have n4_ : Aside0 ((w63.setCell ⟨gb159, 0, none⟩ (.slice Ao64 y160.length co64)).heap[gb153]? = some (.cells #[.slice none 0 0] 28 (0, 0))) := ⟨zf BK153.out⟩
         have n5_ : Aside0 ((w63.setCell ⟨gb159, 0, none⟩ (.slice Ao64 y160.length co64)).heap[gb159]? = some (.cells #[.slice Ao64 y160.length co64] 28 (0, 0))) := ⟨by (with_reducible repeat (first | refine blk_drewN ?_ _ | refine blk_drew ?_ | refine blk_alloc ?_ _)); refine blk_put (cs := #[.slice Ao57 t156.length co57]) ?_ 0 _ rfl; (with_reducible repeat (first | refine blk_drewN ?_ _ | refine blk_drew ?_ | refine blk_alloc ?_ _)); exact BK159.out⟩
         have n6_ : Aside0 (Below w.heap.size w (w63.setCell ⟨gb159, 0, none⟩ (.slice Ao64 y160.length co64))) := ⟨zb HB.out⟩
         (try clear HO_152000)
         (try clear HO162)
         (try clear BK151)
         (try clear BK152)
         (try clear BK153)
         (try clear BK159)
         (try clear HB)
         generalize (w63.setCell ⟨gb159, 0, none⟩ (.slice Ao64 y160.length co64)) = w66 at n0_ n1_ n2_ n3_ n4_ n5_ n6_ ⊢
         have HO_152000 := n0_
         have HO162 := n1_
         have BK151 := n2_
         have BK152 := n3_
         have BK153 := n4_
         have BK159 := n5_
         have HB := n6_
         clear n0_ n1_ n2_ n3_ n4_ n5_ n6_
         have n0_ := Aside0.mk (Kd.V_drew HO_152000.out)
         have n1_ := Aside0.mk (Kd.R_drew HO162.out)
         have n2_ := Aside0.mk (blk_drew BK151.out)
         have n3_ := Aside0.mk (blk_drew BK152.out)
         have n4_ := Aside0.mk (blk_drew BK153.out)
         have n5_ := Aside0.mk (blk_drew BK159.out)
         have n6_ := Aside0.mk (below_drew1 HB.out)
         clear HO_152000
         clear HO162
         clear BK151
         clear BK152
         clear BK153
         clear BK159
         clear HB
         have HO_152000 := n0_
         have HO162 := n1_
         have BK151 := n2_
         have BK152 := n3_
         have BK153 := n4_
         have BK159 := n5_
         have HB := n6_
         clear n0_ n1_ n2_ n3_ n4_ n5_ n6_
         refine start_ (n := 6) (S := fun w' => w'.cell? ⟨gb159, 0, none⟩ = some (.slice Ao64 y160.length co64) ∧ w'.cell? ⟨gb151, 0, none⟩ = some (.slice A0_0 l0_0.length c0_0)) (ds := []) #[false, false, false, false, false, false] (by kernel_rfl) rfl rfl ⟨(blk_cell BK159.out 0).trans rfl, (blk_cell BK151.out 0).trans rfl⟩ (fun hHeld => ?_)
         generalize w66.drew = w67 at HO_152000 HO162 BK151 BK152 BK153 BK159 HB hHeld ⊢
         refine pure_ (i := 1) (N := some 54) (v := ?_) (a' := ?_) #[false, true, false, false, false, false] rfl rfl (by kernel_rfl) (fun _ _ _ h => h) (Or.inl ⟨by rfl, ?_⟩) ?_ ?_
         rotate_left
         ·intro w'
          go_simp
          with_reducible rfl
         rotate_left
         ·simp only [Act.put, List.setIfInBounds_toArray, List.set_cons_zero, List.set_cons_succ, i64_w, i32_w]
          rfl
         refine take_ (i := 0) (N := some 53) (v := ?_) (a' := ?_) #[true, true, false, false, false, false] rfl rfl (by kernel_rfl) (fun _ _ _ h => h) (Or.inl ⟨by rfl, ?_⟩) hHeld ?_ ?_
         rotate_left
         ·rintro w' ⟨s0, s1⟩
          go_simp
          with_reducible rfl
         rotate_left
         ·simp only [Act.put, List.setIfInBounds_toArray, List.set_cons_zero, List.set_cons_succ, i64_w, i32_w]
          rfl
         refine take_ (i := 2) (N := some 55) (v := ?_) (a' := ?_) #[true, true, true, false, false, false] rfl rfl (by kernel_rfl) (fun _ _ _ h => h) (Or.inl ⟨by rfl, ?_⟩) hHeld ?_ ?_
         rotate_left
         ·rintro w' ⟨s0, s1⟩
          go_simp
          with_reducible rfl
         rotate_left
         ·simp only [Act.put, List.setIfInBounds_toArray, List.set_cons_zero, List.set_cons_succ, i64_w, i32_w]
          rfl
         refine pure_ (i := 3) (N := some 56) (v := ?_) (a' := ?_) #[true, true, true, true, false, false] rfl rfl (by kernel_rfl) (fun _ _ _ h => h) (Or.inl ⟨by rfl, ?_⟩) ?_ ?_
         rotate_left
         ·intro w'
          go_simp
          with_reducible rfl
         rotate_left
         ·simp only [Act.put, List.setIfInBounds_toArray, List.set_cons_zero, List.set_cons_succ, i64_w, i32_w]
          rfl
         refine one_ (i := 4) (N := none) #[true, true, true, true, true, false] rfl rfl (by kernel_rfl) (by decide) (fun K hK => ?_)
         have hs68 : w67.cell? ⟨gb153, 0, none⟩ = some (.slice none 0 0) := (blk_cell BK153.out 0).trans rfl
         have hfs68 := blk_frozen BK153.out 0
         have hns68_0 := NB151_153.out
         have hns68_1 := NB152_153.out
         have hns68_3 := NB159_153.out
         have hms68_0 := NB153_151.out
         have hms68_1 := NB153_152.out
         have hms68_3 := NB153_159.out
         refine skip_ (w1 := ?_) (by rfl) rfl ?_ ?_
         rotate_left
         ·go_simp
          rfl
         refine hK.out _ _ ⟨((cell_far (p := ⟨gb153, _, none⟩) NB159_153.out _).trans (hHeld.1)), ((cell_far (p := ⟨gb153, _, none⟩) NB151_153.out _).trans (hHeld.2))⟩ (fun hHeld => ?_)
         clear hK K
         refine pure_ (i := 5) (N := some 5) (v := ?_) (a' := ?_) #[true, true, true, true, true, true] rfl rfl (by kernel_rfl) (fun _ _ _ h => h) (Or.inl ⟨by rfl, ?_⟩) ?_ ?_
         rotate_left
         ·intro w'
          go_simp
          with_reducible rfl
         rotate_left
         ·simp only [Act.put, List.setIfInBounds_toArray, List.set_cons_zero, List.set_cons_succ, i64_w, i32_w]
          rfl
         refine done_ (by kernel_rfl) ?_
         try go_wp2
         refine bodyPost_ret (results_ct rfl _ _ gb153 28 #[.slice Ao64 y160.length co64] (0, 0) _ rfl (by (with_reducible repeat (first | refine blk_drewN ?_ _ | refine blk_drew ?_ | refine blk_alloc ?_ _)); refine blk_put (cs := #[.slice none 0 0]) ?_ 0 _ rfl; (with_reducible repeat (first | refine blk_drewN ?_ _ | refine blk_drew ?_ | refine blk_alloc ?_ _)); exact BK153.out) Try.underlying28 rfl (by kernel_rfl)) rfl ?_
         exact ⟨_, ze, Kd.V_mono (Kd.R_V (by (with_reducible repeat (first | apply Kd.R_alloc | apply Kd.R_drewN | apply Kd.R_drew)); exact Kd.R_mono (Kd.R_far (p := ⟨gb153, 0, none⟩) (Kd.R_types HO162.out BK153.out (by decide)) (fun _ hk => hk.2) (.slice Ao64 y160.length co64)) (fun _ hk => hk.1.1))) (fun k_ hk => by first | exact ⟨(.inr (hk.1)), hk.2⟩ | exact (.inr (hk))), zb HB.out⟩
        ·rw [if_neg c44] at H
         exact absurd H (by simp)
      ·replace c30 := Bool.eq_false_iff.mpr c30
       subst c30
       have H1 : (some (l0_0, (-1))) = some (r1, r2) := by rw [if_neg (show ¬ (false = true) by decide)] at H; exact H
       clear H
       have H := H1
       clear H1
       simp only [Option.some.injEq, Prod.mk.injEq] at H
       obtain ⟨rfl, rfl⟩ := H
       have hnb69 := NB151_152.out
       have hnc69 := NB152_151.out
       have hnb70 := NB151_153.out
       have hnc70 := NB153_151.out
       have hcz71_0 : wc.cell? ⟨gb151, 0, none⟩ = some (.slice A0_0 l0_0.length c0_0) := (blk_cell BK151.out 0).trans rfl
       have hfz71_0 := blk_frozen BK151.out 0
       have hnb72 := NB152_153.out
       have hnc72 := NB153_152.out
       have hcz73_0 : wc.cell? ⟨gb152, 0, none⟩ = some (.int .i64 x153000_13) := (blk_cell BK152.out 0).trans rfl
       have hcz73_1 : wc.cell? ⟨gb152, 1, none⟩ = some (.int .i64 x153001_13) := (blk_cell BK152.out 1).trans rfl
       have hcz73_2 : wc.cell? ⟨gb152, 2, none⟩ = some (.int .i64 x153002_13) := (blk_cell BK152.out 2).trans rfl
       have hfz73_0 := blk_frozen BK152.out 0
       have hfz73_1 := blk_frozen BK152.out 1
       have hfz73_2 := blk_frozen BK152.out 2
       go_wp2_with (first | ((with_reducible refine gate_callee (f := 55) rfl ?_); refine goesL_ (some 27) rfl rfl Try.func55 (by kernel_rfl) rfl #[.agg #[.slice A0_0 l0_0.length c0_0], .agg #[.int .i64 x153000_13, .int .i64 x153001_13, .int .i64 x153002_13]] rfl zl ?_; (with_reducible refine (spec_l1Find.calls kj13 _ _ l0_0 x153000_13 x153001_13 x153002_13 t154 _ ?side1 ?side2 A19.out).mono ?_); (case side1 => exact zc (Kd.V_reads' HO_152000.out).2.2); (case side2 => exact (Kd.V_reads' HO_152000.out).2.1); rintro e w74 ⟨rfl, hb⟩; refine ⟨_, rfl, ?_⟩; have n0_ := Aside0.mk (Kd.V_below (by (with_reducible repeat (first | apply Kd.V_alloc | apply Kd.V_drewN | apply Kd.V_drew)); exact HO_152000.out) hb); have n1_ := Aside0.mk (blk_below (zh BK151.out) hb); have n2_ := Aside0.mk (blk_below (zh BK152.out) hb); have n3_ := Aside0.mk (blk_below (zh BK153.out) hb); have n4_ := Aside0.mk (below_step (zb HB.out) hb); clear HO_152000; clear BK151; clear BK152; clear BK153; clear HB; have HO_152000 := n0_; have BK151 := n1_; have BK152 := n2_; have BK153 := n3_; have HB := n4_; clear n0_ n1_ n2_ n3_ n4_; (try clear hb); (try clear hb2); (try clear hk); (try clear hi); have hcz75_0 : w74.cell? ⟨gb152, 0, none⟩ = some (.int .i64 x153000_13) := (blk_cell BK152.out 0).trans rfl; have hcz75_1 : w74.cell? ⟨gb152, 1, none⟩ = some (.int .i64 x153001_13) := (blk_cell BK152.out 1).trans rfl; have hcz75_2 : w74.cell? ⟨gb152, 2, none⟩ = some (.int .i64 x153002_13) := (blk_cell BK152.out 2).trans rfl; have hfz75_0 := blk_frozen BK152.out 0; have hfz75_1 := blk_frozen BK152.out 1; have hfz75_2 := blk_frozen BK152.out 2; have hcz76_0 : w74.cell? ⟨gb151, 0, none⟩ = some (.slice A0_0 l0_0.length c0_0) := (blk_cell BK151.out 0).trans rfl; have hfz76_0 := blk_frozen BK151.out 0) | ((with_reducible refine gate_callee (f := 54) rfl ?_); refine goesL_ (some 36) rfl rfl Try.func54 (by kernel_rfl) rfl #[.agg #[.int .i64 x153000_13, .int .i64 x153001_13, .int .i64 x153002_13], .int .i64 (l0_0.length : Int)] rfl zl ?_; (with_reducible refine (spec_l1Right.calls kj13 x153000_13 x153001_13 x153002_13 (l0_0.length : Int) false _ A29.out).mono ?_); rintro e w77 ⟨rfl, hb⟩; refine ⟨_, rfl, ?_⟩; have n0_ := Aside0.mk (Kd.V_below (by (with_reducible repeat (first | apply Kd.V_alloc | apply Kd.V_drewN | apply Kd.V_drew)); exact HO_152000.out) hb); have n1_ := Aside0.mk (blk_below (zh BK151.out) hb); have n2_ := Aside0.mk (blk_below (zh BK152.out) hb); have n3_ := Aside0.mk (blk_below (zh BK153.out) hb); have n4_ := Aside0.mk (below_step (zb HB.out) hb); clear HO_152000; clear BK151; clear BK152; clear BK153; clear HB; have HO_152000 := n0_; have BK151 := n1_; have BK152 := n2_; have BK153 := n3_; have HB := n4_; clear n0_ n1_ n2_ n3_ n4_; (try clear hb); (try clear hb2); (try clear hk); (try clear hi); have hcz78_0 : w77.cell? ⟨gb151, 0, none⟩ = some (.slice A0_0 l0_0.length c0_0) := (blk_cell BK151.out 0).trans rfl; have hfz78_0 := blk_frozen BK151.out 0; have hcz79_0 : w77.cell? ⟨gb153, 0, none⟩ = some (.slice none 0 0) := (blk_cell BK153.out 0).trans rfl; have hfz79_0 := blk_frozen BK153.out 0))
       refine bodyPost_ret (results_ct rfl _ _ gb153 28 #[.slice A0_0 l0_0.length c0_0] (0, 0) _ rfl (by (with_reducible repeat (first | refine blk_drewN ?_ _ | refine blk_drew ?_ | refine blk_alloc ?_ _)); refine blk_put (cs := #[.slice none 0 0]) ?_ 0 _ rfl; (with_reducible repeat (first | refine blk_drewN ?_ _ | refine blk_drew ?_ | refine blk_alloc ?_ _)); exact BK153.out) Try.underlying28 rfl (by kernel_rfl)) rfl ?_
       exact ⟨_, ze, by (with_reducible repeat (first | apply Kd.V_alloc | apply Kd.V_drewN | apply Kd.V_drew)); exact Kd.V_mono (Kd.V_far (p := ⟨gb153, 0, none⟩) (Kd.V_mono HO_152000.out (fun k_ hk => (⟨hk, hk.2.2.2⟩ : _ ∧ k_ ≠ gb153))) (fun _ hk => hk.2) (.slice A0_0 l0_0.length c0_0)) (fun _ hk => hk.1.1), zb HB.out⟩

mutual
def spec_TermSwap.j0 : Nat → Int → Int → Int → Bool → List (S55) → Option ((List (S55)) × Int)
 | 0, _, _, _, _, _ => none
 | k + 1, x1, x2, x3, x36, x164000 => if x36 = true then ((spec_l1Copy.f x164000).bind fun t169 => (some (t169, (-1)))) else (if 0 ≤ (x164000.length : Int) then (if ((x164000.length : Int) : Int).toNat ≤ 35184372088832 then ((spec_l1Inside.f k x164000 x1).bind fun t176 => (spec_TermSwap.l0 k x1 x2 x3 (List.replicate ((x164000.length : Int) : Int).toNat 0) t176 0 x164000 x164000)) else (none)) else (none))
def spec_TermSwap.l0 : Nat → Int → Int → Int → List Int → List Bool → Int → List (S55) → List (S55) → Option ((List (S55)) × Int)
 | 0, _, _, _, _, _, _, _, _ => none
 | k + 1, x1, x2, x3, x11, x12, x13, x164000, x173000 => if x13 ≤ x1 then (if 0 ≤ x13 then (if x13 < (x11.length : Int) then ((some (x11.set (x13 : Int).toNat x13 : List Int)).bind fun y183 => (if x13 = x2 then (spec_TermSwap.j2 k x1 x2 x3 (y183.set (x13 : Int).toNat x3) x12 x13 x164000 x173000) else (spec_TermSwap.j2 k x1 x2 x3 y183 x12 x13 x164000 x173000))) else (none)) else (none)) else ((spec_l1Copy.f x173000).bind fun t179 => (if 0 ≤ x1 then (if x1 < (x11.length : Int) then (some (t179, rd x11 x1)) else (none)) else (none)))
def spec_TermSwap.j2 : Nat → Int → Int → Int → List Int → List Bool → Int → List (S55) → List (S55) → Option ((List (S55)) × Int)
 | 0, _, _, _, _, _, _, _, _ => none
 | k + 1, x1, x2, x3, x11, x12, x13, x164000, x173000 => if x13 = x2 then (spec_TermSwap.j3 k x1 x2 x3 x11 x12 x13 true x164000 x173000) else (if 0 ≤ x13 then (if x13 < (x12.length : Int) then (if rdOf false x12 x13 = true then (if x13 < (x164000.length : Int) then ((spec_l1Parts.f k ((rd_T55 x164000 x13).f0)).bind fun t187 => (spec_TermSwap.j3 k x1 x2 x3 x11 x12 x13 (t187 == 0) x164000 x173000)) else (none)) else (spec_TermSwap.j3 k x1 x2 x3 x11 x12 x13 true x164000 x173000)) else (none)) else (none))
def spec_TermSwap.j3 : Nat → Int → Int → Int → List Int → List Bool → Int → Bool → List (S55) → List (S55) → Option ((List (S55)) × Int)
 | 0, _, _, _, _, _, _, _, _, _ => none
 | k + 1, x1, x2, x3, x11, x12, x13, x82, x164000, x173000 => if x82 = true then (spec_TermSwap.l0 k x1 x2 x3 x11 x12 (wrap64 (x13 + 1)) x164000 x173000) else (if 0 ≤ x13 then (if x13 < (x164000.length : Int) then (if 0 ≤ ((rd_T55 x164000 x13).f1) then (if ((rd_T55 x164000 x13).f1) < (x11.length : Int) then ((spec_l1Parts.f k ((rd_T55 x164000 x13).f0)).bind fun t191 => (if t191 > 1 then (if 0 ≤ ((rd_T55 x164000 x13).f2) then (if ((rd_T55 x164000 x13).f2) < (x11.length : Int) then (spec_TermSwap.j4 k x1 x2 x3 x11 x12 x13 x164000 x173000 ((rd_T55 x164000 x13).f0) (rd x11 ((rd_T55 x164000 x13).f1)) (rd x11 ((rd_T55 x164000 x13).f2))) else (none)) else (none)) else (spec_TermSwap.j4 k x1 x2 x3 x11 x12 x13 x164000 x173000 ((rd_T55 x164000 x13).f0) (rd x11 ((rd_T55 x164000 x13).f1)) ((rd_T55 x164000 x13).f2)))) else (none)) else (none)) else (none)) else (none))
def spec_TermSwap.j4 : Nat → Int → Int → Int → List Int → List Bool → Int → List (S55) → List (S55) → Int → Int → Int → Option ((List (S55)) × Int)
 | 0, _, _, _, _, _, _, _, _, _, _, _ => none
 | k + 1, x1, x2, x3, x11, x12, x13, x164000, x173000, x190000, x190001, x190002 => (spec_l1Add.f k x173000 x190000 x190001 x190002).bind fun bt193 => (if bt193.2 < 0 then ((spec_l1Copy.f x164000).bind fun t198 => (some (t198, (-1)))) else (if 0 ≤ x13 then (if x13 < (x11.length : Int) then (spec_TermSwap.l0 k x1 x2 x3 (x11.set (x13 : Int).toNat bt193.2) x12 (wrap64 (x13 + 1)) x164000 bt193.1) else (none)) else (none)))
end
def spec_TermSwap.f (k : Nat) (l0_0 : List (S55)) (a1 : Int) (a2 : Int) (a3 : Int) : Option ((List (S55)) × Int) := (spec_PoolOk.f k l0_0).bind fun t165 => (if t165 = true then ((spec_l1Has.f l0_0 a1).bind fun t166 => (if t166 = true then ((spec_l1Has.f l0_0 a2).bind fun t167 => (if t167 = true then ((spec_l1Has.f l0_0 a3).bind fun t168 => (spec_TermSwap.j0 k a1 a2 a3 (!t168) l0_0)) else (spec_TermSwap.j0 k a1 a2 a3 true l0_0))) else (spec_TermSwap.j0 k a1 a2 a3 true l0_0))) else (some (([] : List (S55)), (-1))))
theorem spec_TermSwap.mono_l : ∀ k, (∀ y0 y1 y2 y3 y4, LeO (spec_TermSwap.j0 k y0 y1 y2 y3 y4) (spec_TermSwap.j0 (k + 1) y0 y1 y2 y3 y4)) ∧ (∀ y0 y1 y2 y3 y4 y5 y6 y7, LeO (spec_TermSwap.l0 k y0 y1 y2 y3 y4 y5 y6 y7) (spec_TermSwap.l0 (k + 1) y0 y1 y2 y3 y4 y5 y6 y7)) ∧ (∀ y0 y1 y2 y3 y4 y5 y6 y7, LeO (spec_TermSwap.j2 k y0 y1 y2 y3 y4 y5 y6 y7) (spec_TermSwap.j2 (k + 1) y0 y1 y2 y3 y4 y5 y6 y7)) ∧ (∀ y0 y1 y2 y3 y4 y5 y6 y7 y8, LeO (spec_TermSwap.j3 k y0 y1 y2 y3 y4 y5 y6 y7 y8) (spec_TermSwap.j3 (k + 1) y0 y1 y2 y3 y4 y5 y6 y7 y8)) ∧ (∀ y0 y1 y2 y3 y4 y5 y6 y7 y8 y9 y10, LeO (spec_TermSwap.j4 k y0 y1 y2 y3 y4 y5 y6 y7 y8 y9 y10) (spec_TermSwap.j4 (k + 1) y0 y1 y2 y3 y4 y5 y6 y7 y8 y9 y10))
 | 0 => ⟨fun _ _ _ _ _ r h => by simp [spec_TermSwap.j0] at h, fun _ _ _ _ _ _ _ _ r h => by simp [spec_TermSwap.l0] at h, fun _ _ _ _ _ _ _ _ r h => by simp [spec_TermSwap.j2] at h, fun _ _ _ _ _ _ _ _ _ r h => by simp [spec_TermSwap.j3] at h, fun _ _ _ _ _ _ _ _ _ _ _ r h => by simp [spec_TermSwap.j4] at h⟩
 | k + 1 => by
  obtain ⟨ih0, ih1, ih2, ih3, ih4⟩ := spec_TermSwap.mono_l k
  refine ⟨?_, ?_, ?_, ?_, ?_⟩
  ·intro y0 y1 y2 y3 y4
   unfold spec_TermSwap.j0
   repeat' first
   | (with_reducible exact ih0 _ _ _ _ _)
   | (with_reducible exact ih1 _ _ _ _ _ _ _ _)
   | (with_reducible exact ih2 _ _ _ _ _ _ _ _)
   | (with_reducible exact ih3 _ _ _ _ _ _ _ _ _)
   | (with_reducible exact ih4 _ _ _ _ _ _ _ _ _ _ _)
   | (with_reducible exact spec_PoolOk.mono _ _)
   | (with_reducible exact spec_l1Add.mono _ _ _ _ _)
   | (with_reducible exact spec_l1Inside.mono _ _ _)
   | (with_reducible exact spec_l1Parts.mono _ _)
   | (with_reducible exact LeO.refl _)
   | (with_reducible exact LeO.none _)
   | (with_reducible refine LeO.ite ?_ ?_)
   | (with_reducible refine LeO.bind ?_ (fun _ => ?_))
   | exact ih0 _ _ _ _ _
   | exact ih1 _ _ _ _ _ _ _ _
   | exact ih2 _ _ _ _ _ _ _ _
   | exact ih3 _ _ _ _ _ _ _ _ _
   | exact ih4 _ _ _ _ _ _ _ _ _ _ _
   | exact spec_PoolOk.mono _ _
   | exact spec_l1Add.mono _ _ _ _ _
   | exact spec_l1Inside.mono _ _ _
   | exact spec_l1Parts.mono _ _
   | exact LeO.none _
   | refine LeO.ite ?_ ?_
   | refine LeO.bind ?_ (fun _ => ?_)
  ·intro y0 y1 y2 y3 y4 y5 y6 y7
   unfold spec_TermSwap.l0
   repeat' first
   | (with_reducible exact ih0 _ _ _ _ _)
   | (with_reducible exact ih1 _ _ _ _ _ _ _ _)
   | (with_reducible exact ih2 _ _ _ _ _ _ _ _)
   | (with_reducible exact ih3 _ _ _ _ _ _ _ _ _)
   | (with_reducible exact ih4 _ _ _ _ _ _ _ _ _ _ _)
   | (with_reducible exact spec_PoolOk.mono _ _)
   | (with_reducible exact spec_l1Add.mono _ _ _ _ _)
   | (with_reducible exact spec_l1Inside.mono _ _ _)
   | (with_reducible exact spec_l1Parts.mono _ _)
   | (with_reducible exact LeO.refl _)
   | (with_reducible exact LeO.none _)
   | (with_reducible refine LeO.ite ?_ ?_)
   | (with_reducible refine LeO.bind ?_ (fun _ => ?_))
   | exact ih0 _ _ _ _ _
   | exact ih1 _ _ _ _ _ _ _ _
   | exact ih2 _ _ _ _ _ _ _ _
   | exact ih3 _ _ _ _ _ _ _ _ _
   | exact ih4 _ _ _ _ _ _ _ _ _ _ _
   | exact spec_PoolOk.mono _ _
   | exact spec_l1Add.mono _ _ _ _ _
   | exact spec_l1Inside.mono _ _ _
   | exact spec_l1Parts.mono _ _
   | exact LeO.none _
   | refine LeO.ite ?_ ?_
   | refine LeO.bind ?_ (fun _ => ?_)
  ·intro y0 y1 y2 y3 y4 y5 y6 y7
   unfold spec_TermSwap.j2
   repeat' first
   | (with_reducible exact ih0 _ _ _ _ _)
   | (with_reducible exact ih1 _ _ _ _ _ _ _ _)
   | (with_reducible exact ih2 _ _ _ _ _ _ _ _)
   | (with_reducible exact ih3 _ _ _ _ _ _ _ _ _)
   | (with_reducible exact ih4 _ _ _ _ _ _ _ _ _ _ _)
   | (with_reducible exact spec_PoolOk.mono _ _)
   | (with_reducible exact spec_l1Add.mono _ _ _ _ _)
   | (with_reducible exact spec_l1Inside.mono _ _ _)
   | (with_reducible exact spec_l1Parts.mono _ _)
   | (with_reducible exact LeO.refl _)
   | (with_reducible exact LeO.none _)
   | (with_reducible refine LeO.ite ?_ ?_)
   | (with_reducible refine LeO.bind ?_ (fun _ => ?_))
   | exact ih0 _ _ _ _ _
   | exact ih1 _ _ _ _ _ _ _ _
   | exact ih2 _ _ _ _ _ _ _ _
   | exact ih3 _ _ _ _ _ _ _ _ _
   | exact ih4 _ _ _ _ _ _ _ _ _ _ _
   | exact spec_PoolOk.mono _ _
   | exact spec_l1Add.mono _ _ _ _ _
   | exact spec_l1Inside.mono _ _ _
   | exact spec_l1Parts.mono _ _
   | exact LeO.none _
   | refine LeO.ite ?_ ?_
   | refine LeO.bind ?_ (fun _ => ?_)
  ·intro y0 y1 y2 y3 y4 y5 y6 y7 y8
   unfold spec_TermSwap.j3
   repeat' first
   | (with_reducible exact ih0 _ _ _ _ _)
   | (with_reducible exact ih1 _ _ _ _ _ _ _ _)
   | (with_reducible exact ih2 _ _ _ _ _ _ _ _)
   | (with_reducible exact ih3 _ _ _ _ _ _ _ _ _)
   | (with_reducible exact ih4 _ _ _ _ _ _ _ _ _ _ _)
   | (with_reducible exact spec_PoolOk.mono _ _)
   | (with_reducible exact spec_l1Add.mono _ _ _ _ _)
   | (with_reducible exact spec_l1Inside.mono _ _ _)
   | (with_reducible exact spec_l1Parts.mono _ _)
   | (with_reducible exact LeO.refl _)
   | (with_reducible exact LeO.none _)
   | (with_reducible refine LeO.ite ?_ ?_)
   | (with_reducible refine LeO.bind ?_ (fun _ => ?_))
   | exact ih0 _ _ _ _ _
   | exact ih1 _ _ _ _ _ _ _ _
   | exact ih2 _ _ _ _ _ _ _ _
   | exact ih3 _ _ _ _ _ _ _ _ _
   | exact ih4 _ _ _ _ _ _ _ _ _ _ _
   | exact spec_PoolOk.mono _ _
   | exact spec_l1Add.mono _ _ _ _ _
   | exact spec_l1Inside.mono _ _ _
   | exact spec_l1Parts.mono _ _
   | exact LeO.none _
   | refine LeO.ite ?_ ?_
   | refine LeO.bind ?_ (fun _ => ?_)
  ·intro y0 y1 y2 y3 y4 y5 y6 y7 y8 y9 y10
   unfold spec_TermSwap.j4
   repeat' first
   | (with_reducible exact ih0 _ _ _ _ _)
   | (with_reducible exact ih1 _ _ _ _ _ _ _ _)
   | (with_reducible exact ih2 _ _ _ _ _ _ _ _)
   | (with_reducible exact ih3 _ _ _ _ _ _ _ _ _)
   | (with_reducible exact ih4 _ _ _ _ _ _ _ _ _ _ _)
   | (with_reducible exact spec_PoolOk.mono _ _)
   | (with_reducible exact spec_l1Add.mono _ _ _ _ _)
   | (with_reducible exact spec_l1Inside.mono _ _ _)
   | (with_reducible exact spec_l1Parts.mono _ _)
   | (with_reducible exact LeO.refl _)
   | (with_reducible exact LeO.none _)
   | (with_reducible refine LeO.ite ?_ ?_)
   | (with_reducible refine LeO.bind ?_ (fun _ => ?_))
   | exact ih0 _ _ _ _ _
   | exact ih1 _ _ _ _ _ _ _ _
   | exact ih2 _ _ _ _ _ _ _ _
   | exact ih3 _ _ _ _ _ _ _ _ _
   | exact ih4 _ _ _ _ _ _ _ _ _ _ _
   | exact spec_PoolOk.mono _ _
   | exact spec_l1Add.mono _ _ _ _ _
   | exact spec_l1Inside.mono _ _ _
   | exact spec_l1Parts.mono _ _
   | exact LeO.none _
   | refine LeO.ite ?_ ?_
   | refine LeO.bind ?_ (fun _ => ?_)
theorem spec_TermSwap.mono : ∀ a0 a1 a2 a3 k, LeO (spec_TermSwap.f k a0 a1 a2 a3) (spec_TermSwap.f (k + 1) a0 a1 a2 a3) := by
 intro a0 a1 a2 a3 k
 obtain ⟨ih0, ih1, ih2, ih3, ih4⟩ := spec_TermSwap.mono_l k
 unfold spec_TermSwap.f
 repeat' first
   | (with_reducible exact ih0 _ _ _ _ _)
   | (with_reducible exact ih1 _ _ _ _ _ _ _ _)
   | (with_reducible exact ih2 _ _ _ _ _ _ _ _)
   | (with_reducible exact ih3 _ _ _ _ _ _ _ _ _)
   | (with_reducible exact ih4 _ _ _ _ _ _ _ _ _ _ _)
   | (with_reducible exact spec_PoolOk.mono _ _)
   | (with_reducible exact spec_l1Add.mono _ _ _ _ _)
   | (with_reducible exact spec_l1Inside.mono _ _ _)
   | (with_reducible exact spec_l1Parts.mono _ _)
   | (with_reducible exact LeO.refl _)
   | (with_reducible exact LeO.none _)
   | (with_reducible refine LeO.ite ?_ ?_)
   | (with_reducible refine LeO.bind ?_ (fun _ => ?_))
   | exact ih0 _ _ _ _ _
   | exact ih1 _ _ _ _ _ _ _ _
   | exact ih2 _ _ _ _ _ _ _ _
   | exact ih3 _ _ _ _ _ _ _ _ _
   | exact ih4 _ _ _ _ _ _ _ _ _ _ _
   | exact spec_PoolOk.mono _ _
   | exact spec_l1Add.mono _ _ _ _ _
   | exact spec_l1Inside.mono _ _ _
   | exact spec_l1Parts.mono _ _
   | exact LeO.none _
   | refine LeO.ite ?_ ?_
   | refine LeO.bind ?_ (fun _ => ?_)
def spec_TermSwap.T24 : Bool × List (List Nat × List Nat) := (true, [([], []), ([0], [0]), ([], []), ([], []), ([2, 3], [2, 3]), ([4], [4]), ([1, 1, 0, 1], [1]), ([5, 6, 0, 1, 2, 3, 4, 5, 6], [5])])
def spec_TermSwap.B24 : List Nat := [0, 1, 0, 0, 12, 28, 3, 127]
theorem spec_TermSwap.tab24 : rtab .any (opsOf Try.f8 24) = spec_TermSwap.T24 := by kernel_rfl
theorem spec_TermSwap.bits24 : waitsOk spec_TermSwap.T24.2 spec_TermSwap.B24 = true := by kernel_rfl
set_option maxHeartbeats 8000000 in
set_option maxRecDepth 100000 in
theorem spec_TermSwap.callsV (k : Nat) (P0_0_ : Nat → Prop) (A0_0 : Option Addr) (c0_0 : Nat) (l0_0 : List (S55)) (a1 : Int) (a2 : Int) (a3 : Int) (r1 : List (S55)) (r2 : Int) (w : World) (hs0_0 : Kd.V k55 55 w w.heap.size (fun k_ => P0_0_ k_) (.slice A0_0 l0_0.length c0_0) l0_0) (h : spec_TermSwap.f k l0_0 a1 a2 a3 = some (r1, r2)) :
  Calls Try.prog 8 #[.agg #[.slice A0_0 l0_0.length c0_0], .int .i64 a1, .int .i64 a2, .int .i64 a3] w fun e w' => ∃ v0_ : Value, e = .returned (.tuple #[.agg #[v0_], .int .i64 r2]) ∧ Kd.R k55 55 w' w.heap.size (fun k_ => (w.heap.size ≤ k_)) v0_ r1 ∧ Below w.heap.size w w' := by
 have hu28 := Try.underlying28
 have hu55 := Try.underlying55
 have HO0_0 := Aside0.mk (show Kd.V k55 55 w w.heap.size (fun k_ => (P0_0_ k_ ∨ w.heap.size ≤ k_)) (.slice A0_0 l0_0.length c0_0) l0_0 from Kd.V_mono hs0_0 (fun k_ hk => .inl hk))
 have HB := Aside0.mk (Below.refl w.heap.size w)
 have H : ((spec_PoolOk.f k l0_0).bind fun t165 => (if t165 = true then ((spec_l1Has.f l0_0 a1).bind fun t166 => (if t166 = true then ((spec_l1Has.f l0_0 a2).bind fun t167 => (if t167 = true then ((spec_l1Has.f l0_0 a3).bind fun t168 => (spec_TermSwap.j0 k a1 a2 a3 (!t168) l0_0)) else (spec_TermSwap.j0 k a1 a2 a3 true l0_0))) else (spec_TermSwap.j0 k a1 a2 a3 true l0_0))) else (some (([] : List (S55)), (-1))))) = some (r1, r2) := h
 clear h
 replace H := Option.bind_eq_some_iff.mp H
 obtain ⟨t165, A50, H⟩ := H
 replace H : (if t165 = true then ((spec_l1Has.f l0_0 a1).bind fun t166 => (if t166 = true then ((spec_l1Has.f l0_0 a2).bind fun t167 => (if t167 = true then ((spec_l1Has.f l0_0 a3).bind fun t168 => (spec_TermSwap.j0 k a1 a2 a3 (!t168) l0_0)) else (spec_TermSwap.j0 k a1 a2 a3 true l0_0))) else (spec_TermSwap.j0 k a1 a2 a3 true l0_0))) else (some (([] : List (S55)), (-1)))) = some (r1, r2) := H
 have A5 := Aside0.mk A50
 clear A50
 by_cases c6 : t165 = true
 ·subst c6
  have H1 : ((spec_l1Has.f l0_0 a1).bind fun t166 => (if t166 = true then ((spec_l1Has.f l0_0 a2).bind fun t167 => (if t167 = true then ((spec_l1Has.f l0_0 a3).bind fun t168 => (spec_TermSwap.j0 k a1 a2 a3 (!t168) l0_0)) else (spec_TermSwap.j0 k a1 a2 a3 true l0_0))) else (spec_TermSwap.j0 k a1 a2 a3 true l0_0))) = some (r1, r2) := by rw [if_pos rfl] at H; exact H
  clear H
  have H := H1
  clear H1
  have HC7 := Aside0.mk H
  clear H
  go_enter Try.func8, Try.ntmps8
  go_upto_region 3 with (first | ((with_reducible refine gate_dst (N := 4) rfl ?_); refine box_event ?hg (N := 4) ?hd (cs := #[.slice A0_0 l0_0.length c0_0]) (t := 28) ?hr ?_; (case hd => rfl); (case hg => rfl); (case hr => first | (go_simp; done) | (go_simp; rfl)); intro gb163 hg w8 hbox hb; have n0_ := Aside0.mk (Kd.V_below (Kd.V_elderB (by (with_reducible repeat (first | apply Kd.V_alloc | apply Kd.V_drewN | apply Kd.V_drew)); exact HO0_0.out) gb163 (Nat.le_of_eq hg.symm)) hb); have n1_ := Aside0.mk (below_step (zb HB.out) hb); have n2_ := Aside0.mk (hbox); have n3_ := Aside0.mk ((by rw [hg]; exact (below_size (zb HB.out)) : w.heap.size ≤ gb163)); have n4_ := Aside0.mk ((by rw [hg]; exact (below_size (zb HB.out)) : w.heap.size ≤ gb163)); clear HO0_0; clear HB; have HO0_0 := n0_; have HB := n1_; have BK163 := n2_; have GW163 := n3_; have GE163 := n4_; clear n0_ n1_ n2_ n3_ n4_; clear hb hbox hg) | ((with_reducible refine gate_dst (N := 8) rfl ?_); refine box_event ?hg (N := 8) ?hd (cs := #[.slice none 0 0]) (t := 28) ?hr ?_; (case hd => rfl); (case hg => rfl); (case hr => first | (go_simp; done) | (go_simp; rfl)); intro gb164 hg w9 hbox hb; have n0_ := Aside0.mk (Kd.V_below (Kd.V_elderB (by (with_reducible repeat (first | apply Kd.V_alloc | apply Kd.V_drewN | apply Kd.V_drew)); exact HO0_0.out) gb164 (Nat.le_of_eq hg.symm)) hb); have n1_ := Aside0.mk (blk_below (zh BK163.out) hb); have n2_ := Aside0.mk (below_step (zb HB.out) hb); have n3_ := Aside0.mk (hbox); have n4_ := Aside0.mk ((by rw [hg]; exact (below_size (zb HB.out)) : w.heap.size ≤ gb164)); have n5_ := Aside0.mk ((by rw [hg]; exact (below_size (zb HB.out)) : w.heap.size ≤ gb164)); have n6_ := Aside0.mk ((by rw [hg]; exact Nat.ne_of_lt (blk_lt (zh BK163.out)) : gb163 ≠ gb164)); have n7_ := Aside0.mk ((by rw [hg]; exact Nat.ne_of_gt (blk_lt (zh BK163.out)) : gb164 ≠ gb163)); clear HO0_0; clear BK163; clear HB; have HO0_0 := n0_; have BK163 := n1_; have HB := n2_; have BK164 := n3_; have GW164 := n4_; have GE164 := n5_; have NB163_164 := n6_; have NB164_163 := n7_; clear n0_ n1_ n2_ n3_ n4_ n5_ n6_ n7_; clear hb hbox hg; have hnb10 := NB163_164.out; have hnc10 := NB164_163.out; have hcz11_0 : w9.cell? ⟨gb163, 0, none⟩ = some (.slice A0_0 l0_0.length c0_0) := (blk_cell BK163.out 0).trans rfl; have hfz11_0 := blk_frozen BK163.out 0) | ((with_reducible refine gate_callee (f := 25) rfl ?_); refine goesL_ (some 18) rfl rfl Try.func25 (by kernel_rfl) rfl #[.agg #[.slice A0_0 l0_0.length c0_0]] rfl zl ?_; (with_reducible refine (spec_PoolOk.calls k _ _ l0_0 true _ ?side1 ?side2 A5.out).mono ?_); (case side1 => exact zc (Kd.V_reads' HO0_0.out).2.2); (case side2 => exact (Kd.V_reads' HO0_0.out).2.1); rintro e w12 ⟨rfl, hb⟩; refine ⟨_, rfl, ?_⟩; have n0_ := Aside0.mk (Kd.V_below (by (with_reducible repeat (first | apply Kd.V_alloc | apply Kd.V_drewN | apply Kd.V_drew)); exact HO0_0.out) hb); have n1_ := Aside0.mk (blk_below (zh BK163.out) hb); have n2_ := Aside0.mk (blk_below (zh BK164.out) hb); have n3_ := Aside0.mk (below_step (zb HB.out) hb); clear HO0_0; clear BK163; clear BK164; clear HB; have HO0_0 := n0_; have BK163 := n1_; have BK164 := n2_; have HB := n3_; clear n0_ n1_ n2_ n3_; (try clear hb); (try clear hb2); (try clear hk); (try clear hi)))
  (try simp only [Act.put, List.setIfInBounds_toArray, List.set_cons_zero, List.set_cons_succ])
  go_cut [36] (fun v36 wc => ∃ (kq : Nat) (x36_6 : Bool), v36 = .bool x36_6 ∧ Aside0 (spec_TermSwap.j0 kq a1 a2 a3 x36_6 l0_0 = some (r1, r2)) ∧ Aside0 (kq ≤ k) ∧ Aside0 (Kd.V k55 55 wc w.heap.size (fun k_ => (P0_0_ k_ ∨ w.heap.size ≤ k_) ∧ k_ ≠ gb163 ∧ k_ ≠ gb164) (.slice A0_0 l0_0.length c0_0) l0_0) ∧ Aside0 (wc.heap[gb163]? = some (.cells #[(.slice A0_0 l0_0.length c0_0)] 28 (0, 0))) ∧ Aside0 (wc.heap[gb164]? = some (.cells #[(.slice none 0 0)] 28 (0, 0))) ∧ Aside0 (Below w.heap.size w wc))
  case first =>
   have H := HC7.out
   clear HC7
   replace H := Option.bind_eq_some_iff.mp H
   obtain ⟨t166, A130, H⟩ := H
   replace H : (if t166 = true then ((spec_l1Has.f l0_0 a2).bind fun t167 => (if t167 = true then ((spec_l1Has.f l0_0 a3).bind fun t168 => (spec_TermSwap.j0 k a1 a2 a3 (!t168) l0_0)) else (spec_TermSwap.j0 k a1 a2 a3 true l0_0))) else (spec_TermSwap.j0 k a1 a2 a3 true l0_0)) = some (r1, r2) := H
   have A13 := Aside0.mk A130
   clear A130
   by_cases c14 : t166 = true
   ·subst c14
    have H1 : ((spec_l1Has.f l0_0 a2).bind fun t167 => (if t167 = true then ((spec_l1Has.f l0_0 a3).bind fun t168 => (spec_TermSwap.j0 k a1 a2 a3 (!t168) l0_0)) else (spec_TermSwap.j0 k a1 a2 a3 true l0_0))) = some (r1, r2) := by rw [if_pos rfl] at H; exact H
    clear H
    have H := H1
    clear H1
    replace H := Option.bind_eq_some_iff.mp H
    obtain ⟨t167, A150, H⟩ := H
    replace H : (if t167 = true then ((spec_l1Has.f l0_0 a3).bind fun t168 => (spec_TermSwap.j0 k a1 a2 a3 (!t168) l0_0)) else (spec_TermSwap.j0 k a1 a2 a3 true l0_0)) = some (r1, r2) := H
    have A15 := Aside0.mk A150
    clear A150
    by_cases c16 : t167 = true
    ·subst c16
     have H1 : ((spec_l1Has.f l0_0 a3).bind fun t168 => (spec_TermSwap.j0 k a1 a2 a3 (!t168) l0_0)) = some (r1, r2) := by rw [if_pos rfl] at H; exact H
     clear H
     have H := H1
     clear H1
     replace H := Option.bind_eq_some_iff.mp H
     obtain ⟨t168, A170, H⟩ := H
     replace H : (spec_TermSwap.j0 k a1 a2 a3 (!t168) l0_0) = some (r1, r2) := H
     have A17 := Aside0.mk A170
     clear A170
     have H' := Aside0.mk H
     clear H
     have hnb18 := NB163_164.out
     have hnc18 := NB164_163.out
     have hcz19_0 : w12.cell? ⟨gb163, 0, none⟩ = some (.slice A0_0 l0_0.length c0_0) := (blk_cell BK163.out 0).trans rfl
     have hfz19_0 := blk_frozen BK163.out 0
     go_wp2_with (first | ((with_reducible refine gate_callee (f := 26) rfl ?_); refine goesL_ (some 23) rfl rfl Try.func26 (by kernel_rfl) rfl #[.agg #[.slice A0_0 l0_0.length c0_0], .int .i64 a1] rfl zl ?_; (with_reducible refine (spec_l1Has.calls _ _ l0_0 a1 true _ ?side1 ?side2 A13.out).mono ?_); (case side1 => exact zc (Kd.V_reads' HO0_0.out).2.2); (case side2 => exact (Kd.V_reads' HO0_0.out).2.1); rintro e w20 ⟨rfl, hb⟩; refine ⟨_, rfl, ?_⟩; have n0_ := Aside0.mk (Kd.V_below (by (with_reducible repeat (first | apply Kd.V_alloc | apply Kd.V_drewN | apply Kd.V_drew)); exact HO0_0.out) hb); have n1_ := Aside0.mk (blk_below (zh BK163.out) hb); have n2_ := Aside0.mk (blk_below (zh BK164.out) hb); have n3_ := Aside0.mk (below_step (zb HB.out) hb); clear HO0_0; clear BK163; clear BK164; clear HB; have HO0_0 := n0_; have BK163 := n1_; have BK164 := n2_; have HB := n3_; clear n0_ n1_ n2_ n3_; (try clear hb); (try clear hb2); (try clear hk); (try clear hi); have hcz21_0 : w20.cell? ⟨gb163, 0, none⟩ = some (.slice A0_0 l0_0.length c0_0) := (blk_cell BK163.out 0).trans rfl; have hfz21_0 := blk_frozen BK163.out 0) | (go_at_call 26; (with_reducible refine (spec_l1Has.calls _ _ l0_0 a2 true _ ?side1 ?side2 A15.out).mono ?_); (case side1 => exact zc (Kd.V_reads' HO0_0.out).2.2); (case side2 => exact (Kd.V_reads' HO0_0.out).2.1); rintro e w22 ⟨rfl, hb⟩; have n0_ := Aside0.mk (Kd.V_below (by (with_reducible repeat (first | apply Kd.V_alloc | apply Kd.V_drewN | apply Kd.V_drew)); exact HO0_0.out) hb); have n1_ := Aside0.mk (blk_below (zh BK163.out) hb); have n2_ := Aside0.mk (blk_below (zh BK164.out) hb); have n3_ := Aside0.mk (below_step (zb HB.out) hb); clear HO0_0; clear BK163; clear BK164; clear HB; have HO0_0 := n0_; have BK163 := n1_; have BK164 := n2_; have HB := n3_; clear n0_ n1_ n2_ n3_; (try clear hb); (try clear hb2); (try clear hk); (try clear hi); have hcz23_0 : w22.cell? ⟨gb163, 0, none⟩ = some (.slice A0_0 l0_0.length c0_0) := (blk_cell BK163.out 0).trans rfl; have hfz23_0 := blk_frozen BK163.out 0) | (go_at_call 26; (with_reducible refine (spec_l1Has.calls _ _ l0_0 a3 t168 _ ?side1 ?side2 A17.out).mono ?_); (case side1 => exact zc (Kd.V_reads' HO0_0.out).2.2); (case side2 => exact (Kd.V_reads' HO0_0.out).2.1); rintro e w24 ⟨rfl, hb⟩; have n0_ := Aside0.mk (Kd.V_below (by (with_reducible repeat (first | apply Kd.V_alloc | apply Kd.V_drewN | apply Kd.V_drew)); exact HO0_0.out) hb); have n1_ := Aside0.mk (blk_below (zh BK163.out) hb); have n2_ := Aside0.mk (blk_below (zh BK164.out) hb); have n3_ := Aside0.mk (below_step (zb HB.out) hb); clear HO0_0; clear BK163; clear BK164; clear HB; have HO0_0 := n0_; have BK163 := n1_; have BK164 := n2_; have HB := n3_; clear n0_ n1_ n2_ n3_; (try clear hb); (try clear hb2); (try clear hk); (try clear hi)))
     go_meet
     case rel => exact ⟨_, (!t168), (by first | rfl | (simp; done) | (simp [*]; done)), H', ⟨by first | omega | exact Nat.le_refl _⟩, ⟨by (with_reducible repeat (first | apply Kd.V_alloc | apply Kd.V_drewN | apply Kd.V_drew)); exact Kd.V_mono HO0_0.out (fun _ hk => ⟨hk.1.1, ⟨hk.1.2, hk.2⟩⟩)⟩, ⟨zh BK163.out⟩, ⟨zh BK164.out⟩, ⟨zb HB.out⟩⟩
    ·replace c16 := Bool.eq_false_iff.mpr c16
     subst c16
     have H1 : (spec_TermSwap.j0 k a1 a2 a3 true l0_0) = some (r1, r2) := by rw [if_neg (show ¬ (false = true) by decide)] at H; exact H
     clear H
     have H := H1
     clear H1
     have H' := Aside0.mk H
     clear H
     have hnb25 := NB163_164.out
     have hnc25 := NB164_163.out
     have hcz26_0 : w12.cell? ⟨gb163, 0, none⟩ = some (.slice A0_0 l0_0.length c0_0) := (blk_cell BK163.out 0).trans rfl
     have hfz26_0 := blk_frozen BK163.out 0
     go_wp2_with (first | ((with_reducible refine gate_callee (f := 26) rfl ?_); refine goesL_ (some 23) rfl rfl Try.func26 (by kernel_rfl) rfl #[.agg #[.slice A0_0 l0_0.length c0_0], .int .i64 a1] rfl zl ?_; (with_reducible refine (spec_l1Has.calls _ _ l0_0 a1 true _ ?side1 ?side2 A13.out).mono ?_); (case side1 => exact zc (Kd.V_reads' HO0_0.out).2.2); (case side2 => exact (Kd.V_reads' HO0_0.out).2.1); rintro e w27 ⟨rfl, hb⟩; refine ⟨_, rfl, ?_⟩; have n0_ := Aside0.mk (Kd.V_below (by (with_reducible repeat (first | apply Kd.V_alloc | apply Kd.V_drewN | apply Kd.V_drew)); exact HO0_0.out) hb); have n1_ := Aside0.mk (blk_below (zh BK163.out) hb); have n2_ := Aside0.mk (blk_below (zh BK164.out) hb); have n3_ := Aside0.mk (below_step (zb HB.out) hb); clear HO0_0; clear BK163; clear BK164; clear HB; have HO0_0 := n0_; have BK163 := n1_; have BK164 := n2_; have HB := n3_; clear n0_ n1_ n2_ n3_; (try clear hb); (try clear hb2); (try clear hk); (try clear hi); have hcz28_0 : w27.cell? ⟨gb163, 0, none⟩ = some (.slice A0_0 l0_0.length c0_0) := (blk_cell BK163.out 0).trans rfl; have hfz28_0 := blk_frozen BK163.out 0) | (go_at_call 26; (with_reducible refine (spec_l1Has.calls _ _ l0_0 a2 false _ ?side1 ?side2 A15.out).mono ?_); (case side1 => exact zc (Kd.V_reads' HO0_0.out).2.2); (case side2 => exact (Kd.V_reads' HO0_0.out).2.1); rintro e w29 ⟨rfl, hb⟩; have n0_ := Aside0.mk (Kd.V_below (by (with_reducible repeat (first | apply Kd.V_alloc | apply Kd.V_drewN | apply Kd.V_drew)); exact HO0_0.out) hb); have n1_ := Aside0.mk (blk_below (zh BK163.out) hb); have n2_ := Aside0.mk (blk_below (zh BK164.out) hb); have n3_ := Aside0.mk (below_step (zb HB.out) hb); clear HO0_0; clear BK163; clear BK164; clear HB; have HO0_0 := n0_; have BK163 := n1_; have BK164 := n2_; have HB := n3_; clear n0_ n1_ n2_ n3_; (try clear hb); (try clear hb2); (try clear hk); (try clear hi)))
     go_meet
     case rel => exact ⟨_, (true), (by first | rfl | (simp; done) | (simp [*]; done)), H', ⟨by first | omega | exact Nat.le_refl _⟩, ⟨by (with_reducible repeat (first | apply Kd.V_alloc | apply Kd.V_drewN | apply Kd.V_drew)); exact Kd.V_mono HO0_0.out (fun _ hk => ⟨hk.1.1, ⟨hk.1.2, hk.2⟩⟩)⟩, ⟨zh BK163.out⟩, ⟨zh BK164.out⟩, ⟨zb HB.out⟩⟩
   ·replace c14 := Bool.eq_false_iff.mpr c14
    subst c14
    have H1 : (spec_TermSwap.j0 k a1 a2 a3 true l0_0) = some (r1, r2) := by rw [if_neg (show ¬ (false = true) by decide)] at H; exact H
    clear H
    have H := H1
    clear H1
    have H' := Aside0.mk H
    clear H
    have hnb30 := NB163_164.out
    have hnc30 := NB164_163.out
    have hcz31_0 : w12.cell? ⟨gb163, 0, none⟩ = some (.slice A0_0 l0_0.length c0_0) := (blk_cell BK163.out 0).trans rfl
    have hfz31_0 := blk_frozen BK163.out 0
    go_wp2_with (first | ((with_reducible refine gate_callee (f := 26) rfl ?_); refine goesL_ (some 23) rfl rfl Try.func26 (by kernel_rfl) rfl #[.agg #[.slice A0_0 l0_0.length c0_0], .int .i64 a1] rfl zl ?_; (with_reducible refine (spec_l1Has.calls _ _ l0_0 a1 false _ ?side1 ?side2 A13.out).mono ?_); (case side1 => exact zc (Kd.V_reads' HO0_0.out).2.2); (case side2 => exact (Kd.V_reads' HO0_0.out).2.1); rintro e w32 ⟨rfl, hb⟩; refine ⟨_, rfl, ?_⟩; have n0_ := Aside0.mk (Kd.V_below (by (with_reducible repeat (first | apply Kd.V_alloc | apply Kd.V_drewN | apply Kd.V_drew)); exact HO0_0.out) hb); have n1_ := Aside0.mk (blk_below (zh BK163.out) hb); have n2_ := Aside0.mk (blk_below (zh BK164.out) hb); have n3_ := Aside0.mk (below_step (zb HB.out) hb); clear HO0_0; clear BK163; clear BK164; clear HB; have HO0_0 := n0_; have BK163 := n1_; have BK164 := n2_; have HB := n3_; clear n0_ n1_ n2_ n3_; (try clear hb); (try clear hb2); (try clear hk); (try clear hi)))
    go_meet
    case rel => exact ⟨_, (true), (by first | rfl | (simp; done) | (simp [*]; done)), H', ⟨by first | omega | exact Nat.le_refl _⟩, ⟨by (with_reducible repeat (first | apply Kd.V_alloc | apply Kd.V_drewN | apply Kd.V_drew)); exact Kd.V_mono HO0_0.out (fun _ hk => ⟨hk.1.1, ⟨hk.1.2, hk.2⟩⟩)⟩, ⟨zh BK163.out⟩, ⟨zh BK164.out⟩, ⟨zb HB.out⟩⟩
  case rest =>
   clear HC7
   try clear c1
   try clear c2
   try clear p2
   try clear c3
   try clear c6
   try clear c8
   try clear c10
   try clear c14
   try clear c16
   try clear c18
   try clear c25
   try clear c26
   try clear c30
   try clear hcz11_0
   try clear hcz19_0
   try clear hcz21_0
   try clear hcz23_0
   try clear hcz26_0
   try clear hcz28_0
   try clear hcz31_0
   try clear hfz11_0
   try clear hfz19_0
   try clear hfz21_0
   try clear hfz23_0
   try clear hfz26_0
   try clear hfz28_0
   try clear hfz31_0
   try clear HO_164000
   try clear BK163
   try clear BK164
   try clear HB
   obtain ⟨kq, x36_6, rfl, HA, HJ6, HO_164000, BK163, BK164, HB⟩ := hcut
   cases kq with
   | zero => exact absurd HA.out (by simp [spec_TermSwap.j0])
   | succ kj6 =>
    have H := HA.out
    clear HA
    simp only [spec_TermSwap.j0] at H
    by_cases c33 : x36_6 = true
    ·subst c33
     have H1 : ((spec_l1Copy.f l0_0).bind fun t169 => (some (t169, (-1)))) = some (r1, r2) := by rw [if_pos rfl] at H; exact H
     clear H
     have H := H1
     clear H1
     replace H := Option.bind_eq_some_iff.mp H
     obtain ⟨t169, A340, H⟩ := H
     replace H : (some (t169, (-1))) = some (r1, r2) := H
     have A34 := Aside0.mk A340
     clear A340
     simp only [Option.some.injEq, Prod.mk.injEq] at H
     obtain ⟨rfl, rfl⟩ := H
     have hnb35 := NB163_164.out
     have hnc35 := NB164_163.out
     have hcz36_0 : wc.cell? ⟨gb163, 0, none⟩ = some (.slice A0_0 l0_0.length c0_0) := (blk_cell BK163.out 0).trans rfl
     have hfz36_0 := blk_frozen BK163.out 0
     go_wp2_with (first | ((with_reducible refine gate_callee (f := 27) rfl ?_); refine goesL_ (some 38) rfl rfl Try.func27 (by kernel_rfl) rfl #[.agg #[.slice A0_0 l0_0.length c0_0]] rfl zl ?_; (with_reducible refine (spec_l1Copy.calls _ _ l0_0 t169 _ ?side1 ?side2 A34.out).mono ?_); (case side1 => exact zc (Kd.V_reads' HO_164000.out).2.2); (case side2 => exact (Kd.V_reads' HO_164000.out).2.1); rintro e w37 ⟨v170, rfl, ho0, hb⟩; refine ⟨_, rfl, ?_⟩; have n0_ := Aside0.mk (Kd.V_elder' (by (with_reducible repeat (first | apply Kd.V_alloc | apply Kd.V_drewN | apply Kd.V_drew)); exact HO_164000.out) (Kd.R_base ho0) hb); have n1_ := Aside0.mk (Kd.R_lower (Kd.R_newM (M := fun k_ => (w.heap.size ≤ k_)) ho0 (below_size (zb HB.out)) (fun k_ h_ => h_)) (below_size (zb HB.out))); have n2_ := Aside0.mk (blk_below (zh BK163.out) hb); have n3_ := Aside0.mk (blk_below (zh BK164.out) hb); have n4_ := Aside0.mk (below_step (zb HB.out) hb); clear HO_164000; clear BK163; clear BK164; clear HB; have HO_164000 := n0_; have HO171 := n1_; have BK163 := n2_; have BK164 := n3_; have HB := n4_; clear n0_ n1_ n2_ n3_ n4_; (try clear hb); (try clear hb2); (try clear hk); (try clear hi); (try clear ho0); obtain ⟨Ao38, co38, eo38⟩ := Kd.R_slice HO171.out; subst eo38; have hcz39_0 : w37.cell? ⟨gb164, 0, none⟩ = some (.slice none 0 0) := (blk_cell BK164.out 0).trans rfl; have hfz39_0 := blk_frozen BK164.out 0))
     refine bodyPost_ret (results_ct rfl _ _ gb164 28 #[.slice Ao38 t169.length co38] (0, 0) _ rfl (by (with_reducible repeat (first | refine blk_drewN ?_ _ | refine blk_drew ?_ | refine blk_alloc ?_ _)); refine blk_put (cs := #[.slice none 0 0]) ?_ 0 _ rfl; (with_reducible repeat (first | refine blk_drewN ?_ _ | refine blk_drew ?_ | refine blk_alloc ?_ _)); exact BK164.out) Try.underlying28 rfl (by kernel_rfl)) rfl ?_
     exact ⟨_, ze, zr (Kd.R_mono (Kd.R_far (p := ⟨gb164, 0, none⟩) (Kd.R_types HO171.out BK164.out (by decide)) (fun _ hk => hk.2) (.slice Ao38 t169.length co38)) (fun _ hk => hk.1.1)), zb HB.out⟩
    ·replace c33 := Bool.eq_false_iff.mpr c33
     subst c33
     have H1 : (if 0 ≤ (l0_0.length : Int) then (if ((l0_0.length : Int) : Int).toNat ≤ 35184372088832 then ((spec_l1Inside.f kj6 l0_0 a1).bind fun t176 => (spec_TermSwap.l0 kj6 a1 a2 a3 (List.replicate ((l0_0.length : Int) : Int).toNat 0) t176 0 l0_0 l0_0)) else (none)) else (none)) = some (r1, r2) := by rw [if_neg (show ¬ (false = true) by decide)] at H; exact H
     clear H
     have H := H1
     clear H1
     by_cases c40 : 0 ≤ (l0_0.length : Int)
     ·rw [if_pos c40] at H
      have c40b0 := eq_true c40
      have c40b1 : decide (0 ≤ (l0_0.length : Int)) = true := decide_eq_true c40
      clear c40
      by_cases c41 : ((l0_0.length : Int) : Int).toNat ≤ 35184372088832
      ·rw [if_pos c41] at H
       have c41b0 := eq_true c41
       have c41b1 : decide (((l0_0.length : Int) : Int).toNat ≤ 35184372088832) = true := decide_eq_true c41
       clear c41
       obtain ⟨y173, hy173⟩ : ∃ y_ : List Int, y_ = (List.replicate ((l0_0.length : Int) : Int).toNat 0) := ⟨_, rfl⟩
       replace H : ((spec_l1Inside.f kj6 l0_0 a1).bind fun t176 => (spec_TermSwap.l0 kj6 a1 a2 a3 y173 t176 0 l0_0 l0_0)) = some (r1, r2) := by first | (rw [hy173]; with_reducible exact H) | (have H2_ := (Option.bind_some _ _).symm.trans H; rw [hy173]; with_reducible exact H2_) | (have H2_ := (Option.bind_some _ _).symm.trans H; with_reducible exact H2_) | with_reducible exact H | (rw [hy173]; exact H) | exact H
       have Ny173 := Aside0.mk hy173
       clear hy173
       replace H := Option.bind_eq_some_iff.mp H
       obtain ⟨t176, A420, H⟩ := H
       replace H : (spec_TermSwap.l0 kj6 a1 a2 a3 y173 t176 0 l0_0 l0_0) = some (r1, r2) := H
       have A42 := Aside0.mk A420
       clear A420
       have H' := Aside0.mk H
       clear H
       have hnb43 := NB163_164.out
       have hnc43 := NB164_163.out
       have hcz44_0 : wc.cell? ⟨gb163, 0, none⟩ = some (.slice A0_0 l0_0.length c0_0) := (blk_cell BK163.out 0).trans rfl
       have hfz44_0 := blk_frozen BK163.out 0
       go_wp2_with (first | ((with_reducible refine gate_dst (N := 10) rfl ?_); refine box_event ?hg (N := 10) ?hd (cs := #[.slice none 0 0]) (t := 28) ?hr ?_; (case hd => rfl); (case hg => rfl); (case hr => first | (go_simp; done) | (go_simp; rfl)); intro gb172 hg w45 hbox hb; have n0_ := Aside0.mk (Kd.V_below (Kd.V_elderB (by (with_reducible repeat (first | apply Kd.V_alloc | apply Kd.V_drewN | apply Kd.V_drew)); exact HO_164000.out) gb172 (Nat.le_of_eq hg.symm)) hb); have n1_ := Aside0.mk (blk_below (zh BK163.out) hb); have n2_ := Aside0.mk (blk_below (zh BK164.out) hb); have n3_ := Aside0.mk (below_step (zb HB.out) hb); have n4_ := Aside0.mk (hbox); have n5_ := Aside0.mk ((by rw [hg]; exact (below_size (zb HB.out)) : w.heap.size ≤ gb172)); have n6_ := Aside0.mk ((by rw [hg]; exact (below_size (zb HB.out)) : w.heap.size ≤ gb172)); have n7_ := Aside0.mk ((by rw [hg]; exact Nat.ne_of_lt (blk_lt (zh BK163.out)) : gb163 ≠ gb172)); have n8_ := Aside0.mk ((by rw [hg]; exact Nat.ne_of_gt (blk_lt (zh BK163.out)) : gb172 ≠ gb163)); have n9_ := Aside0.mk ((by rw [hg]; exact Nat.ne_of_lt (blk_lt (zh BK164.out)) : gb164 ≠ gb172)); have n10_ := Aside0.mk ((by rw [hg]; exact Nat.ne_of_gt (blk_lt (zh BK164.out)) : gb172 ≠ gb164)); clear HO_164000; clear BK163; clear BK164; clear HB; have HO_164000 := n0_; have BK163 := n1_; have BK164 := n2_; have HB := n3_; have BK172 := n4_; have GW172 := n5_; have GE172 := n6_; have NB163_172 := n7_; have NB172_163 := n8_; have NB164_172 := n9_; have NB172_164 := n10_; clear n0_ n1_ n2_ n3_ n4_ n5_ n6_ n7_ n8_ n9_ n10_; clear hb hbox hg; have hnb46 := NB172_163.out; have hnc46 := NB163_172.out; have hnb47 := NB172_164.out; have hnc47 := NB164_172.out; have hcz48_0 : w45.cell? ⟨gb172, 0, none⟩ = some (.slice none 0 0) := (blk_cell BK172.out 0).trans rfl; have hfz48_0 := blk_frozen BK172.out 0; have hcz49_0 : w45.cell? ⟨gb163, 0, none⟩ = some (.slice A0_0 l0_0.length c0_0) := (blk_cell BK163.out 0).trans rfl; have hfz49_0 := blk_frozen BK163.out 0) | ((with_reducible refine gate_dst (N := 43) rfl ?_); refine Kd.R_make (Kd.int .i64) _ 3 rfl (N := 43) rfl 45 _ _ rfl (l0_0.length : Int) rfl rfl Try.underlying45 (.int .i64 0) 8 info3 rfl (by decide) (by omega) 0 (ok := fun _ => True) (okp := fun _ => True) rfl (fun _ hk => hk) trivial (of_decide_eq_true (by first | (with_reducible assumption) | assumption)) (Nat.le_trans (Nat.mul_le_mul_right _ (of_decide_eq_true (by first | (with_reducible assumption) | assumption) : (l0_0.length : Int).toNat ≤ 35184372088832)) (by omega)) (Below.refl _ _) (Nat.le_refl _) ?_; intro v174 w50 ho51 hb hg_ hnew_; clear hg_ hnew_; (first | rw [← Ny173.out] at ho51 | (simp only [Int.reduceToNat] at ho51; rw [← Ny173.out] at ho51)); have n0_ := Aside0.mk (Kd.V_elder' (by (with_reducible repeat (first | apply Kd.V_alloc | apply Kd.V_drewN | apply Kd.V_drew)); exact (Kd.V_mono (Kd.V_far (p := ⟨gb172, 0, none⟩) (Kd.V_mono HO_164000.out (fun k_ hk => (⟨hk, hk.2⟩ : _ ∧ k_ ≠ gb172))) (fun _ hk => hk.2) (.slice A0_0 l0_0.length c0_0)) (fun _ h_ => h_.1))) (Kd.R_base ho51) hb); have n1_ := Aside0.mk (Kd.R_lower (Kd.R_newM (M := fun k_ => (w.heap.size ≤ k_)) ho51 (below_size (zb HB.out)) (fun k_ h_ => h_)) (below_size (zb HB.out))); have n2_ := Aside0.mk (blk_below (g := gb163) (o := .cells #[.slice A0_0 l0_0.length c0_0] 28 (0, 0)) (zf BK163.out) hb); have n3_ := Aside0.mk (blk_below (g := gb164) (o := .cells #[.slice none 0 0] 28 (0, 0)) (zf BK164.out) hb); have n4_ := Aside0.mk (blk_below (g := gb172) (o := .cells #[.slice A0_0 l0_0.length c0_0] 28 (0, 0)) (by (with_reducible repeat (first | refine blk_drewN ?_ _ | refine blk_drew ?_ | refine blk_alloc ?_ _)); refine blk_put (cs := #[.slice none 0 0]) ?_ 0 _ rfl; (with_reducible repeat (first | refine blk_drewN ?_ _ | refine blk_drew ?_ | refine blk_alloc ?_ _)); exact BK172.out) hb); have n5_ := Aside0.mk (below_step (zb HB.out) hb); clear HO_164000; clear BK163; clear BK164; clear BK172; clear HB; have HO_164000 := n0_; have HO175 := n1_; have BK163 := n2_; have BK164 := n3_; have BK172 := n4_; have HB := n5_; clear n0_ n1_ n2_ n3_ n4_ n5_; clear hb ho51; have hcz52_0 : w50.cell? ⟨gb163, 0, none⟩ = some (.slice A0_0 l0_0.length c0_0) := (blk_cell BK163.out 0).trans rfl; have hfz52_0 := blk_frozen BK163.out 0) | ((with_reducible refine gate_callee (f := 28) rfl ?_); refine goesL_ (some 46) rfl rfl Try.func28 (by kernel_rfl) rfl #[.agg #[.slice A0_0 l0_0.length c0_0], .int .i64 a1] rfl zl ?_; (with_reducible refine (spec_l1Inside.calls kj6 _ _ l0_0 a1 t176 _ ?side1 ?side2 A42.out).mono ?_); (case side1 => exact zc (Kd.V_reads' HO_164000.out).2.2); (case side2 => exact (Kd.V_reads' HO_164000.out).2.1); rintro e w53 ⟨v177, rfl, ho0, hb⟩; refine ⟨_, rfl, ?_⟩; have n0_ := Aside0.mk (Kd.V_elder' (by (with_reducible repeat (first | apply Kd.V_alloc | apply Kd.V_drewN | apply Kd.V_drew)); exact HO_164000.out) (Kd.R_base ho0) hb); have n1_ := Aside0.mk (Kd.R_below (zr HO175.out) hb); have n2_ := Aside0.mk (Kd.R_lower (Kd.R_newM (M := fun k_ => (w.heap.size ≤ k_)) ho0 (below_size (zb HB.out)) (fun k_ h_ => h_)) (below_size (zb HB.out))); have n3_ := Aside0.mk (blk_below (zh BK163.out) hb); have n4_ := Aside0.mk (blk_below (zh BK164.out) hb); have n5_ := Aside0.mk (blk_below (zh BK172.out) hb); have n6_ := Aside0.mk (below_step (zb HB.out) hb); clear HO_164000; clear HO175; clear BK163; clear BK164; clear BK172; clear HB; have HO_164000 := n0_; have HO175 := n1_; have HO178 := n2_; have BK163 := n3_; have BK164 := n4_; have BK172 := n5_; have HB := n6_; clear n0_ n1_ n2_ n3_ n4_ n5_ n6_; (try clear hb); (try clear hb2); (try clear hk); (try clear hi); (try clear ho0)))
       go_loopg [13] kj6 (fun kq v13 w' => ∃ (x11_2 : List Int) (x13_2 : Int) (x173000_2 : List (S55)) (u173000 : Value), v13 = .int .i64 x13_2 ∧ Aside0 (spec_TermSwap.l0 kq a1 a2 a3 x11_2 t176 x13_2 l0_0 x173000_2 = some (r1, r2)) ∧ Aside0 (kq ≤ kj6) ∧ Aside0 (Kd.R (Kd.int .i64) 3 w' w.heap.size (fun k_ => (w.heap.size ≤ k_)) v174 x11_2) ∧ Aside0 (Kd.R Kd.bool 4 w' w.heap.size (fun k_ => (w.heap.size ≤ k_)) v177 t176) ∧ Aside0 (Kd.V k55 55 w' w.heap.size (fun k_ => (P0_0_ k_ ∨ w.heap.size ≤ k_) ∧ some k_ ≠ (v174 : Value).ownBlock ∧ some k_ ≠ (v177 : Value).ownBlock ∧ k_ ≠ gb163 ∧ k_ ≠ gb164 ∧ k_ ≠ gb172) (.slice A0_0 l0_0.length c0_0) l0_0) ∧ Aside0 (Kd.V k55 55 w' w.heap.size (fun k_ => (P0_0_ k_ ∨ w.heap.size ≤ k_) ∧ some k_ ≠ (v174 : Value).ownBlock ∧ some k_ ≠ (v177 : Value).ownBlock ∧ k_ ≠ gb163 ∧ k_ ≠ gb164 ∧ k_ ≠ gb172) u173000 x173000_2) ∧ Aside0 (w'.heap[gb163]? = some (.cells #[(.slice A0_0 l0_0.length c0_0)] 28 (0, 0))) ∧ Aside0 (w'.heap[gb164]? = some (.cells #[(.slice none 0 0)] 28 (0, 0))) ∧ Aside0 (w'.heap[gb172]? = some (.cells #[u173000] 28 (0, 0))) ∧ Aside0 (Below w.heap.size w w'))
       case atStart => exact ⟨(y173), (0), (l0_0), (.slice A0_0 l0_0.length c0_0), (by first | rfl | (simp; done) | (simp [*]; done)), H', ⟨Nat.le_refl _⟩, ⟨zr (Kd.R_mono HO175.out (fun _ hk => hk.1))⟩, ⟨zr (Kd.R_mono HO178.out (fun _ hk => hk.1))⟩, ⟨by (with_reducible repeat (first | apply Kd.V_alloc | apply Kd.V_drewN | apply Kd.V_drew)); exact Kd.V_mono HO_164000.out (fun _ hk => ⟨hk.1.1.1.1, ⟨hk.1.2, ⟨hk.2, ⟨hk.1.1.1.2.1, ⟨hk.1.1.1.2.2, hk.1.1.2⟩⟩⟩⟩⟩)⟩, ⟨by (with_reducible repeat (first | apply Kd.V_alloc | apply Kd.V_drewN | apply Kd.V_drew)); exact Kd.V_mono HO_164000.out (fun _ hk => ⟨hk.1.1.1.1, ⟨hk.1.2, ⟨hk.2, ⟨hk.1.1.1.2.1, ⟨hk.1.1.1.2.2, hk.1.1.2⟩⟩⟩⟩⟩)⟩, ⟨zh BK163.out⟩, ⟨zh BK164.out⟩, ⟨zh BK172.out⟩, ⟨zb HB.out⟩⟩
       case round =>
        clear H'
        try clear c1
        try clear c2
        try clear p2
        try clear c3
        try clear c4
        try clear c6
        try clear c8
        try clear c10
        try clear c14
        try clear c16
        try clear c18
        try clear c25
        try clear c26
        try clear c27
        try clear c28
        try clear c30
        try clear c33
        try clear c35
        try clear c40
        try clear c40b0
        try clear c40b1
        try clear c41
        try clear c41b0
        try clear c41b1
        try clear c43
        try clear c46
        try clear c47
        try clear hcz11_0
        try clear hcz19_0
        try clear hcz21_0
        try clear hcz23_0
        try clear hcz26_0
        try clear hcz28_0
        try clear hcz31_0
        try clear hcz36_0
        try clear hcz39_0
        try clear hcz44_0
        try clear hcz48_0
        try clear hcz49_0
        try clear hcz52_0
        try clear hfz11_0
        try clear hfz19_0
        try clear hfz21_0
        try clear hfz23_0
        try clear hfz26_0
        try clear hfz28_0
        try clear hfz31_0
        try clear hfz36_0
        try clear hfz39_0
        try clear hfz44_0
        try clear hfz48_0
        try clear hfz49_0
        try clear hfz52_0
        try clear p2
        try clear HO_11
        try clear HO_12
        try clear HO_164000
        try clear HO_173000
        try clear BK163
        try clear BK164
        try clear BK172
        try clear HB
        obtain ⟨x11_2, x13_2, x173000_2, u173000, rfl, HA, HK2, HO_11, HO_12, HO_164000, HO_173000, BK163, BK164, BK172, HB⟩ := hrel
        cases gk with
        | zero => exact absurd HA.out (by simp [spec_TermSwap.l0])
        | succ k2 =>
         have H := HA.out
         clear HA
         simp only [spec_TermSwap.l0] at H
         by_cases c54 : x13_2 ≤ a1
         ·rw [if_pos c54] at H
          have c54b0 : decide (x13_2 ≤ a1) = true := decide_eq_true c54
          clear c54
          by_cases c55 : 0 ≤ x13_2
          ·rw [if_pos c55] at H
           have c55b0 : decide (0 ≤ x13_2) = true := decide_eq_true c55
           clear c55
           by_cases c56 : x13_2 < (x11_2.length : Int)
           ·rw [if_pos c56] at H
            have c56b0 : decide (x13_2 < (x11_2.length : Int)) = true := decide_eq_true c56
            clear c56
            obtain ⟨y183, hy183⟩ : ∃ y_ : List Int, y_ = (x11_2.set (x13_2 : Int).toNat x13_2) := ⟨_, rfl⟩
            replace H : (if x13_2 = a2 then (spec_TermSwap.j2 k2 a1 a2 a3 (y183.set (x13_2 : Int).toNat a3) t176 x13_2 l0_0 x173000_2) else (spec_TermSwap.j2 k2 a1 a2 a3 y183 t176 x13_2 l0_0 x173000_2)) = some (r1, r2) := by first | (rw [hy183]; with_reducible exact H) | (have H2_ := (Option.bind_some _ _).symm.trans H; rw [hy183]; with_reducible exact H2_) | (have H2_ := (Option.bind_some _ _).symm.trans H; with_reducible exact H2_) | with_reducible exact H | (rw [hy183]; exact H) | exact H
            have Ny183 := Aside0.mk hy183
            clear hy183
            have HC58 := Aside0.mk H
            clear H
            have p57 : 0 ≤ (x13_2 : Int) := of_decide_eq_true (by first | (with_reducible assumption) | assumption)
            have q57 : (x13_2 : Int) < ((x11_2.length : Int) : Int) := of_decide_eq_true (by first | (with_reducible assumption) | assumption)
            obtain ⟨go57, co57, eo57, gb57, gl57, cl57, HG57⟩ := Kd.R_form HO_11.out (by omega)
            (first | cases eo57 | (injection eo57 with ea_ en_ ec_; (first | subst ea_ | (injection ea_ with ea_; subst ea_)); subst ec_; clear en_))
            have GB57 := Aside0.mk gb57
            have GG57 := Aside0.mk HG57
            clear gb57 gl57 HG57
            obtain ⟨hx57_0, hf57_0⟩ := Kd.R_celln 0 HO_11.out (x13_2 : Int) p57 q57
            replace p57 := eq_true p57
            replace q57 := eq_true q57
            have HP59 := Kd.R_putg HO_11.out (x13_2 : Int) x13_2
            go_upto_if 58 with (first | ((with_reducible refine gate_store (t := 3) (p := 55) rfl ?_); refine store_event (t := 3) (p := 55) (v := ?vo_w60) (w1 := (wr.setCell ⟨go57, (x13_2 : Int).toNat, none⟩ (.int .i64 x13_2))) ?hg ?ho ?hn ?hr ?_; (case ho => rfl); (case hg => rfl); (case hn => rfl); (case hr => first | (go_simp; done) | (go_simp; rfl)); intro w60 hw; have hg : wr.grownBy w60 (some go57) := (by rw [hw]; exact HP59.2); have hp_ : Kd.R (Kd.int .i64) 3 w60 w.heap.size (fun k_ => (w.heap.size ≤ k_)) (.slice (some ⟨go57, 0, none⟩) x11_2.length co57) y183 := (by rw [hw, Ny183.out]; exact HP59.1); clear HP59; have n0_ := Aside0.mk (hp_); have n1_ := Aside0.mk (Kd.R_over' (v := (.slice (some ⟨go57, 0, none⟩) x11_2.length co57)) (zr HO_12.out) (Kd.R_typed HO_11.out) (by decide) hg); have n2_ := Aside0.mk (Kd.V_afterv (v := (.slice (some ⟨go57, 0, none⟩) x11_2.length co57)) (v1 := (.slice (some ⟨go57, 0, none⟩) x11_2.length co57)) (ok := (fun k_ => (P0_0_ k_ ∨ w.heap.size ≤ k_) ∧ some k_ ≠ (v177 : Value).ownBlock ∧ k_ ≠ gb163 ∧ k_ ≠ gb164 ∧ k_ ≠ gb172)) (by (with_reducible repeat (first | apply Kd.V_alloc | apply Kd.V_drewN | apply Kd.V_drew)); exact Kd.V_mono HO_164000.out (fun _ hk => ⟨⟨hk.1, ⟨hk.2.2.1, ⟨hk.2.2.2.1, ⟨hk.2.2.2.2.1, hk.2.2.2.2.2⟩⟩⟩⟩, hk.2.1⟩)) hg (.inl rfl)); have n3_ := Aside0.mk (Kd.V_afterv (v := (.slice (some ⟨go57, 0, none⟩) x11_2.length co57)) (v1 := (.slice (some ⟨go57, 0, none⟩) x11_2.length co57)) (ok := (fun k_ => (P0_0_ k_ ∨ w.heap.size ≤ k_) ∧ some k_ ≠ (v177 : Value).ownBlock ∧ k_ ≠ gb163 ∧ k_ ≠ gb164 ∧ k_ ≠ gb172)) (by (with_reducible repeat (first | apply Kd.V_alloc | apply Kd.V_drewN | apply Kd.V_drew)); exact Kd.V_mono HO_173000.out (fun _ hk => ⟨⟨hk.1, ⟨hk.2.2.1, ⟨hk.2.2.2.1, ⟨hk.2.2.2.2.1, hk.2.2.2.2.2⟩⟩⟩⟩, hk.2.1⟩)) hg (.inl rfl)); have n4_ := Aside0.mk (blk_grown (zh BK163.out) hg (Kd.R_ne HO_11.out BK163.out (by decide))); have n5_ := Aside0.mk (blk_grown (zh BK164.out) hg (Kd.R_ne HO_11.out BK164.out (by decide))); have n6_ := Aside0.mk (blk_grown (zh BK172.out) hg (Kd.R_ne HO_11.out BK172.out (by decide))); have n7_ := Aside0.mk ((by rw [hw]; exact below_set (HB.out) GB57.out : Below w.heap.size w w60)); clear HO_11; clear HO_12; clear HO_164000; clear HO_173000; clear BK163; clear BK164; clear BK172; clear HB; have HO_11 := n0_; have HO_12 := n1_; have HO_164000 := n2_; have HO_173000 := n3_; have BK163 := n4_; have BK164 := n5_; have BK172 := n6_; have HB := n7_; clear n0_ n1_ n2_ n3_ n4_ n5_ n6_ n7_; clear hg hw hp_))
            (try simp only [Act.put, List.setIfInBounds_toArray, List.set_cons_zero, List.set_cons_succ])
            go_cut [] (fun wc => ∃ (kq : Nat) (x11_57 : List Int), Aside0 (spec_TermSwap.j2 kq a1 a2 a3 x11_57 t176 x13_2 l0_0 x173000_2 = some (r1, r2)) ∧ Aside0 (kq ≤ k2) ∧ Aside0 (Kd.R (Kd.int .i64) 3 wc w.heap.size (fun k_ => (w.heap.size ≤ k_)) (.slice (some ⟨go57, 0, none⟩) x11_2.length co57) x11_57) ∧ Aside0 (Kd.R Kd.bool 4 wc w.heap.size (fun k_ => (w.heap.size ≤ k_)) v177 t176) ∧ Aside0 (Kd.V k55 55 wc w.heap.size (fun k_ => (P0_0_ k_ ∨ w.heap.size ≤ k_) ∧ some k_ ≠ ((.slice (some ⟨go57, 0, none⟩) x11_2.length co57) : Value).ownBlock ∧ some k_ ≠ (v177 : Value).ownBlock ∧ k_ ≠ gb163 ∧ k_ ≠ gb164 ∧ k_ ≠ gb172) (.slice A0_0 l0_0.length c0_0) l0_0) ∧ Aside0 (Kd.V k55 55 wc w.heap.size (fun k_ => (P0_0_ k_ ∨ w.heap.size ≤ k_) ∧ some k_ ≠ ((.slice (some ⟨go57, 0, none⟩) x11_2.length co57) : Value).ownBlock ∧ some k_ ≠ (v177 : Value).ownBlock ∧ k_ ≠ gb163 ∧ k_ ≠ gb164 ∧ k_ ≠ gb172) u173000 x173000_2) ∧ Aside0 (wc.heap[gb163]? = some (.cells #[(.slice A0_0 l0_0.length c0_0)] 28 (0, 0))) ∧ Aside0 (wc.heap[gb164]? = some (.cells #[(.slice none 0 0)] 28 (0, 0))) ∧ Aside0 (wc.heap[gb172]? = some (.cells #[u173000] 28 (0, 0))) ∧ Aside0 (Below w.heap.size w wc))
            case first =>
             have H := HC58.out
             clear HC58
             by_cases c61 : x13_2 = a2
             ·rw [if_pos c61] at H
              have c61b0 : (x13_2 == a2) = true := beq_iff_eq.mpr c61
              have c61b1 : (x13_2 != a2) = false := bne_eq_false_iff_eq.mpr c61
              clear c61
              (first | rw [c61b0] | (simp only [i64_w, i32_w]; rw [c61b0]) | skip)
              obtain ⟨y184, hy184⟩ : ∃ y_ : List Int, y_ = (y183.set (x13_2 : Int).toNat a3) := ⟨_, rfl⟩
              replace H : (spec_TermSwap.j2 k2 a1 a2 a3 y184 t176 x13_2 l0_0 x173000_2) = some (r1, r2) := by first | (rw [hy184]; with_reducible exact H) | (have H2_ := (Option.bind_some _ _).symm.trans H; rw [hy184]; with_reducible exact H2_) | (have H2_ := (Option.bind_some _ _).symm.trans H; with_reducible exact H2_) | with_reducible exact H | (rw [hy184]; exact H) | exact H
              have Ny184 := Aside0.mk hy184
              clear hy184
              have H' := Aside0.mk H
              clear H
              have p62 : 0 ≤ (x13_2 : Int) := of_decide_eq_true (by first | (with_reducible assumption) | assumption)
              have q62 : (x13_2 : Int) < ((x11_2.length : Int) : Int) := of_decide_eq_true (by first | (with_reducible assumption) | assumption)
              obtain ⟨hx62_0, hf62_0⟩ := Kd.R_celln 0 HO_11.out (x13_2 : Int) p62 q62
              replace p62 := eq_true p62
              replace q62 := eq_true q62
              have HP63 := Kd.R_putg HO_11.out (x13_2 : Int) a3
              go_wp2_with (first | ((with_reducible refine gate_store (t := 3) (p := 62) rfl ?_); refine store_event (t := 3) (p := 62) (v := ?vo_w64) (w1 := (w60.setCell ⟨go57, (x13_2 : Int).toNat, none⟩ (.int .i64 a3))) ?hg ?ho ?hn ?hr ?_; (case ho => rfl); (case hg => rfl); (case hn => rfl); (case hr => first | (go_simp; done) | (go_simp; rfl)); intro w64 hw; have hg : w60.grownBy w64 (some go57) := (by rw [hw]; exact HP63.2); have hp_ : Kd.R (Kd.int .i64) 3 w64 w.heap.size (fun k_ => (w.heap.size ≤ k_)) (.slice (some ⟨go57, 0, none⟩) x11_2.length co57) y184 := (by rw [hw, Ny184.out]; exact HP63.1); clear HP63; have n0_ := Aside0.mk (hp_); have n1_ := Aside0.mk (Kd.R_over' (v := (.slice (some ⟨go57, 0, none⟩) x11_2.length co57)) (zr HO_12.out) (Kd.R_typed HO_11.out) (by decide) hg); have n2_ := Aside0.mk (Kd.V_afterv (v := (.slice (some ⟨go57, 0, none⟩) x11_2.length co57)) (v1 := (.slice (some ⟨go57, 0, none⟩) x11_2.length co57)) (ok := (fun k_ => (P0_0_ k_ ∨ w.heap.size ≤ k_) ∧ some k_ ≠ (v177 : Value).ownBlock ∧ k_ ≠ gb163 ∧ k_ ≠ gb164 ∧ k_ ≠ gb172)) (by (with_reducible repeat (first | apply Kd.V_alloc | apply Kd.V_drewN | apply Kd.V_drew)); exact HO_164000.out) hg (.inl rfl)); have n3_ := Aside0.mk (Kd.V_afterv (v := (.slice (some ⟨go57, 0, none⟩) x11_2.length co57)) (v1 := (.slice (some ⟨go57, 0, none⟩) x11_2.length co57)) (ok := (fun k_ => (P0_0_ k_ ∨ w.heap.size ≤ k_) ∧ some k_ ≠ (v177 : Value).ownBlock ∧ k_ ≠ gb163 ∧ k_ ≠ gb164 ∧ k_ ≠ gb172)) (by (with_reducible repeat (first | apply Kd.V_alloc | apply Kd.V_drewN | apply Kd.V_drew)); exact HO_173000.out) hg (.inl rfl)); have n4_ := Aside0.mk (blk_grown (zh BK163.out) hg (Kd.R_ne HO_11.out BK163.out (by decide))); have n5_ := Aside0.mk (blk_grown (zh BK164.out) hg (Kd.R_ne HO_11.out BK164.out (by decide))); have n6_ := Aside0.mk (blk_grown (zh BK172.out) hg (Kd.R_ne HO_11.out BK172.out (by decide))); have n7_ := Aside0.mk ((by rw [hw]; exact below_set (HB.out) GB57.out : Below w.heap.size w w64)); clear HO_11; clear HO_12; clear HO_164000; clear HO_173000; clear BK163; clear BK164; clear BK172; clear HB; have HO_11 := n0_; have HO_12 := n1_; have HO_164000 := n2_; have HO_173000 := n3_; have BK163 := n4_; have BK164 := n5_; have BK172 := n6_; have HB := n7_; clear n0_ n1_ n2_ n3_ n4_ n5_ n6_ n7_; clear hg hw hp_))
              go_meet
              case rel => exact ⟨_, (y184), H', ⟨by have := HJ6.out; have := HK2.out; first | omega | exact Nat.le_refl _⟩, ⟨zr HO_11.out⟩, ⟨zr HO_12.out⟩, ⟨by (with_reducible repeat (first | apply Kd.V_alloc | apply Kd.V_drewN | apply Kd.V_drew)); exact Kd.V_mono HO_164000.out (fun _ hk => ⟨hk.1.1, ⟨hk.2, ⟨hk.1.2.1, ⟨hk.1.2.2.1, ⟨hk.1.2.2.2.1, hk.1.2.2.2.2⟩⟩⟩⟩⟩)⟩, ⟨by (with_reducible repeat (first | apply Kd.V_alloc | apply Kd.V_drewN | apply Kd.V_drew)); exact Kd.V_mono HO_173000.out (fun _ hk => ⟨hk.1.1, ⟨hk.2, ⟨hk.1.2.1, ⟨hk.1.2.2.1, ⟨hk.1.2.2.2.1, hk.1.2.2.2.2⟩⟩⟩⟩⟩)⟩, ⟨zh BK163.out⟩, ⟨zh BK164.out⟩, ⟨zh BK172.out⟩, ⟨zb HB.out⟩⟩
             ·rw [if_neg c61] at H
              have c61b0 : (x13_2 == a2) = false := beq_eq_false_iff_ne.mpr c61
              have c61b1 : (x13_2 != a2) = true := bne_iff_ne.mpr c61
              (first | rw [c61b0] | (simp only [i64_w, i32_w]; rw [c61b0]) | skip)
              have H' := Aside0.mk H
              clear H
              go_wp2
              go_meet
              case rel => exact ⟨_, (y183), H', ⟨by have := HJ6.out; have := HK2.out; first | omega | exact Nat.le_refl _⟩, ⟨zr HO_11.out⟩, ⟨zr HO_12.out⟩, ⟨by (with_reducible repeat (first | apply Kd.V_alloc | apply Kd.V_drewN | apply Kd.V_drew)); exact Kd.V_mono HO_164000.out (fun _ hk => ⟨hk.1.1, ⟨hk.2, ⟨hk.1.2.1, ⟨hk.1.2.2.1, ⟨hk.1.2.2.2.1, hk.1.2.2.2.2⟩⟩⟩⟩⟩)⟩, ⟨by (with_reducible repeat (first | apply Kd.V_alloc | apply Kd.V_drewN | apply Kd.V_drew)); exact Kd.V_mono HO_173000.out (fun _ hk => ⟨hk.1.1, ⟨hk.2, ⟨hk.1.2.1, ⟨hk.1.2.2.1, ⟨hk.1.2.2.2.1, hk.1.2.2.2.2⟩⟩⟩⟩⟩)⟩, ⟨zh BK163.out⟩, ⟨zh BK164.out⟩, ⟨zh BK172.out⟩, ⟨zb HB.out⟩⟩
            case rest =>
             clear HC58
             try clear c1
             try clear c2
             try clear p2
             try clear c3
             try clear c4
             try clear c5
             try clear p5
             try clear q5
             try clear hx5
             try clear hf5
             try clear c6
             try clear p6
             try clear q6
             try clear hx6
             try clear hf6
             try clear c8
             try clear c10
             try clear c14
             try clear c16
             try clear c18
             try clear c25
             try clear c26
             try clear c27
             try clear c28
             try clear c30
             try clear c33
             try clear c35
             try clear c40
             try clear c40b0
             try clear c40b1
             try clear c41
             try clear c41b0
             try clear c41b1
             try clear c43
             try clear c46
             try clear c47
             try clear c54
             try clear c54b0
             try clear c55
             try clear c55b0
             try clear c56
             try clear c56b0
             try clear p57
             try clear q57
             try clear hx57
             try clear hf57
             try clear c61
             try clear c61b0
             try clear c61b1
             try clear p62
             try clear q62
             try clear hx62
             try clear hf62
             try clear hcz11_0
             try clear hcz19_0
             try clear hcz21_0
             try clear hcz23_0
             try clear hcz26_0
             try clear hcz28_0
             try clear hcz31_0
             try clear hcz36_0
             try clear hcz39_0
             try clear hcz44_0
             try clear hcz48_0
             try clear hcz49_0
             try clear hcz52_0
             try clear hfz11_0
             try clear hfz19_0
             try clear hfz21_0
             try clear hfz23_0
             try clear hfz26_0
             try clear hfz28_0
             try clear hfz31_0
             try clear hfz36_0
             try clear hfz39_0
             try clear hfz44_0
             try clear hfz48_0
             try clear hfz49_0
             try clear hfz52_0
             try clear hx57_0
             try clear hx62_0
             try clear p2
             try clear p57
             try clear p62
             try clear q57
             try clear q62
             try clear HO_11
             try clear HO_12
             try clear HO_164000
             try clear HO_173000
             try clear BK163
             try clear BK164
             try clear BK172
             try clear HB
             obtain ⟨kq, x11_57, HA, HJ57, HO_11, HO_12, HO_164000, HO_173000, BK163, BK164, BK172, HB⟩ := hcut
             have hl11_57 := (Kd.R_reads' HO_11.out).1
             rw [hl11_57] at HO_11
             (try simp only [hl11_57])
             (try simp only [hl11_57] at BK163)
             (try simp only [hl11_57] at BK164)
             (try simp only [hl11_57] at BK172)
             (try simp only [hl11_57] at HO_12)
             (try simp only [hl11_57] at HO_164000)
             (try simp only [hl11_57] at HO_173000)
             cases kq with
             | zero => exact absurd HA.out (by simp [spec_TermSwap.j2])
             | succ kj57 =>
              have H := HA.out
              clear HA
              simp only [spec_TermSwap.j2] at H
              have HC65 := Aside0.mk H
              clear H
              go_upto_region 14 with (fail)
              go_cut [82] (fun v82 wc => ∃ (kq : Nat) (x82_64 : Bool), v82 = .bool x82_64 ∧ Aside0 (spec_TermSwap.j3 kq a1 a2 a3 x11_57 t176 x13_2 x82_64 l0_0 x173000_2 = some (r1, r2)) ∧ Aside0 (kq ≤ kj57) ∧ Aside0 (Kd.R (Kd.int .i64) 3 wc w.heap.size (fun k_ => (w.heap.size ≤ k_)) (.slice (some ⟨go57, 0, none⟩) x11_57.length co57) x11_57) ∧ Aside0 (Kd.R Kd.bool 4 wc w.heap.size (fun k_ => (w.heap.size ≤ k_)) v177 t176) ∧ Aside0 (Kd.V k55 55 wc w.heap.size (fun k_ => (P0_0_ k_ ∨ w.heap.size ≤ k_) ∧ some k_ ≠ ((.slice (some ⟨go57, 0, none⟩) x11_57.length co57) : Value).ownBlock ∧ some k_ ≠ (v177 : Value).ownBlock ∧ k_ ≠ gb163 ∧ k_ ≠ gb164 ∧ k_ ≠ gb172) (.slice A0_0 l0_0.length c0_0) l0_0) ∧ Aside0 (Kd.V k55 55 wc w.heap.size (fun k_ => (P0_0_ k_ ∨ w.heap.size ≤ k_) ∧ some k_ ≠ ((.slice (some ⟨go57, 0, none⟩) x11_57.length co57) : Value).ownBlock ∧ some k_ ≠ (v177 : Value).ownBlock ∧ k_ ≠ gb163 ∧ k_ ≠ gb164 ∧ k_ ≠ gb172) u173000 x173000_2) ∧ Aside0 (wc.heap[gb163]? = some (.cells #[(.slice A0_0 l0_0.length c0_0)] 28 (0, 0))) ∧ Aside0 (wc.heap[gb164]? = some (.cells #[(.slice none 0 0)] 28 (0, 0))) ∧ Aside0 (wc.heap[gb172]? = some (.cells #[u173000] 28 (0, 0))) ∧ Aside0 (Below w.heap.size w wc))
              case first =>
               have H := HC65.out
               clear HC65
               by_cases c66 : x13_2 = a2
               ·rw [if_pos c66] at H
                have c66b0 : (x13_2 == a2) = true := beq_iff_eq.mpr c66
                have c66b1 : (x13_2 != a2) = false := bne_eq_false_iff_eq.mpr c66
                clear c66
                (first | rw [c66b0] | (simp only [i64_w, i32_w]; rw [c66b0]) | skip)
                have H' := Aside0.mk H
                clear H
                go_wp2
                go_meet
                case rel => exact ⟨_, (true), (by first | rfl | (simp; done) | (simp [*]; done)), H', ⟨by have := HJ6.out; have := HK2.out; have := HJ57.out; first | omega | exact Nat.le_refl _⟩, ⟨by (try simp only [hl11_57]); (with_reducible repeat (first | apply Kd.R_alloc | apply Kd.R_drewN | apply Kd.R_drew)); exact HO_11.out⟩, ⟨by (try simp only [hl11_57]); (with_reducible repeat (first | apply Kd.R_alloc | apply Kd.R_drewN | apply Kd.R_drew)); exact HO_12.out⟩, ⟨by (try simp only [hl11_57]); (with_reducible repeat (first | apply Kd.V_alloc | apply Kd.V_drewN | apply Kd.V_drew)); exact HO_164000.out⟩, ⟨by (try simp only [hl11_57]); (with_reducible repeat (first | apply Kd.V_alloc | apply Kd.V_drewN | apply Kd.V_drew)); exact HO_173000.out⟩, ⟨by (try simp only [hl11_57]); (with_reducible repeat (first | refine blk_drewN ?_ _ | refine blk_drew ?_ | refine blk_alloc ?_ _)); exact BK163.out⟩, ⟨by (try simp only [hl11_57]); (with_reducible repeat (first | refine blk_drewN ?_ _ | refine blk_drew ?_ | refine blk_alloc ?_ _)); exact BK164.out⟩, ⟨by (try simp only [hl11_57]); (with_reducible repeat (first | refine blk_drewN ?_ _ | refine blk_drew ?_ | refine blk_alloc ?_ _)); exact BK172.out⟩, ⟨zb HB.out⟩⟩
               ·rw [if_neg c66] at H
                have c66b0 : (x13_2 == a2) = false := beq_eq_false_iff_ne.mpr c66
                have c66b1 : (x13_2 != a2) = true := bne_iff_ne.mpr c66
                (first | rw [c66b0] | (simp only [i64_w, i32_w]; rw [c66b0]) | skip)
                by_cases c67 : 0 ≤ x13_2
                ·rw [if_pos c67] at H
                 have c67b0 : decide (0 ≤ x13_2) = true := decide_eq_true c67
                 clear c67
                 by_cases c68 : x13_2 < (t176.length : Int)
                 ·rw [if_pos c68] at H
                  have c68b0 : decide (x13_2 < (t176.length : Int)) = true := decide_eq_true c68
                  (try (have c68b0h := c68b0; simp only [hl11_57] at c68b0h))
                  clear c68
                  obtain ⟨bq69, hbq69⟩ : ∃ b_ : Bool, b_ = (rdOf false t176 x13_2) := ⟨_, rfl⟩
                  replace H : (if bq69 = true then (if x13_2 < (l0_0.length : Int) then ((spec_l1Parts.f kj57 ((rd_T55 l0_0 x13_2).f0)).bind fun t187 => (spec_TermSwap.j3 kj57 a1 a2 a3 x11_57 t176 x13_2 (t187 == 0) l0_0 x173000_2)) else (none)) else (spec_TermSwap.j3 kj57 a1 a2 a3 x11_57 t176 x13_2 true l0_0 x173000_2)) = some (r1, r2) := by rw [← hbq69] at H; exact H
                  have Nbq69 := Aside0.mk hbq69
                  clear hbq69
                  by_cases c70 : bq69 = true
                  ·subst c70
                   have H1 : (if x13_2 < (l0_0.length : Int) then ((spec_l1Parts.f kj57 ((rd_T55 l0_0 x13_2).f0)).bind fun t187 => (spec_TermSwap.j3 kj57 a1 a2 a3 x11_57 t176 x13_2 (t187 == 0) l0_0 x173000_2)) else (none)) = some (r1, r2) := by rw [if_pos rfl] at H; exact H
                   clear H
                   have H := H1
                   clear H1
                   by_cases c71 : x13_2 < (l0_0.length : Int)
                   ·rw [if_pos c71] at H
                    have c71b0 : decide (x13_2 < (l0_0.length : Int)) = true := decide_eq_true c71
                    (try (have c71b0h := c71b0; simp only [hl11_57] at c71b0h))
                    clear c71
                    replace H := Option.bind_eq_some_iff.mp H
                    obtain ⟨t187, A720, H⟩ := H
                    replace H : (spec_TermSwap.j3 kj57 a1 a2 a3 x11_57 t176 x13_2 (t187 == 0) l0_0 x173000_2) = some (r1, r2) := H
                    have A72 := Aside0.mk A720
                    clear A720
                    have H' := Aside0.mk H
                    clear H
                    obtain ⟨Ao73, co73, eo73⟩ := Kd.R_slice HO_12.out
                    subst eo73
                    have p185 : 0 ≤ (x13_2 : Int) := of_decide_eq_true (by first | (with_reducible assumption) | assumption)
                    have q185 : x13_2 < (t176.length : Int) := of_decide_eq_true (by first | (with_reducible assumption) | assumption)
                    obtain ⟨ad185, e185, hx185_0⟩ := Kd.at_bool (Kd.R_reads' HO_12.out).2.2 x13_2 p185 q185
                    (try rw [← Nbq69.out] at hx185_0)
                    cases e185
                    replace p185 := eq_true p185
                    replace q185 := eq_true q185
                    have hnb74 := NB163_164.out
                    have hnc74 := NB164_163.out
                    have hnb75 := NB163_172.out
                    have hnc75 := NB172_163.out
                    have hcz76_0 : wc.cell? ⟨gb163, 0, none⟩ = some (.slice A0_0 l0_0.length c0_0) := (blk_cell BK163.out 0).trans rfl
                    have hfz76_0 := blk_frozen BK163.out 0
                    have p186 : 0 ≤ (x13_2 : Int) := of_decide_eq_true (by first | (with_reducible assumption) | assumption)
                    have q186 : x13_2 < (l0_0.length : Int) := of_decide_eq_true (by first | (with_reducible assumption) | assumption)
                    obtain ⟨ad186, e186, hx186_0, hx186_1, hx186_2⟩ := at_T55 (Kd.V_reads' HO_164000.out).2.2 x13_2 p186 q186
                    cases e186
                    replace p186 := eq_true p186
                    replace q186 := eq_true q186
                    go_wp2_with (first | (go_at_call 29; (with_reducible refine (spec_l1Parts.calls kj57 ((rd_T55 l0_0 x13_2).f0) t187 _ A72.out).mono ?_); rintro e w' ⟨rfl, ⟨nd, rfl⟩⟩))
                    go_meet
                    case rel => exact ⟨_, ((t187 == 0)), (by first | rfl | (simp; done) | (simp [*]; done)), H', ⟨by have := HJ6.out; have := HK2.out; have := HJ57.out; first | omega | exact Nat.le_refl _⟩, ⟨by (try simp only [hl11_57]); (with_reducible repeat (first | apply Kd.R_alloc | apply Kd.R_drewN | apply Kd.R_drew)); exact HO_11.out⟩, ⟨by (try simp only [hl11_57]); (with_reducible repeat (first | apply Kd.R_alloc | apply Kd.R_drewN | apply Kd.R_drew)); exact HO_12.out⟩, ⟨by (try simp only [hl11_57]); (with_reducible repeat (first | apply Kd.V_alloc | apply Kd.V_drewN | apply Kd.V_drew)); exact HO_164000.out⟩, ⟨by (try simp only [hl11_57]); (with_reducible repeat (first | apply Kd.V_alloc | apply Kd.V_drewN | apply Kd.V_drew)); exact HO_173000.out⟩, ⟨by (try simp only [hl11_57]); (with_reducible repeat (first | refine blk_drewN ?_ _ | refine blk_drew ?_ | refine blk_alloc ?_ _)); exact BK163.out⟩, ⟨by (try simp only [hl11_57]); (with_reducible repeat (first | refine blk_drewN ?_ _ | refine blk_drew ?_ | refine blk_alloc ?_ _)); exact BK164.out⟩, ⟨by (try simp only [hl11_57]); (with_reducible repeat (first | refine blk_drewN ?_ _ | refine blk_drew ?_ | refine blk_alloc ?_ _)); exact BK172.out⟩, ⟨zb HB.out⟩⟩
                   ·rw [if_neg c71] at H
                    exact absurd H (by simp)
                  ·replace c70 := Bool.eq_false_iff.mpr c70
                   subst c70
                   have H1 : (spec_TermSwap.j3 kj57 a1 a2 a3 x11_57 t176 x13_2 true l0_0 x173000_2) = some (r1, r2) := by rw [if_neg (show ¬ (false = true) by decide)] at H; exact H
                   clear H
                   have H := H1
                   clear H1
                   have H' := Aside0.mk H
                   clear H
                   obtain ⟨Ao77, co77, eo77⟩ := Kd.R_slice HO_12.out
                   subst eo77
                   have p185 : 0 ≤ (x13_2 : Int) := of_decide_eq_true (by first | (with_reducible assumption) | assumption)
                   have q185 : x13_2 < (t176.length : Int) := of_decide_eq_true (by first | (with_reducible assumption) | assumption)
                   obtain ⟨ad185, e185, hx185_0⟩ := Kd.at_bool (Kd.R_reads' HO_12.out).2.2 x13_2 p185 q185
                   (try rw [← Nbq69.out] at hx185_0)
                   cases e185
                   replace p185 := eq_true p185
                   replace q185 := eq_true q185
                   go_wp2
                   go_meet
                   case rel => exact ⟨_, (true), (by first | rfl | (simp; done) | (simp [*]; done)), H', ⟨by have := HJ6.out; have := HK2.out; have := HJ57.out; first | omega | exact Nat.le_refl _⟩, ⟨by (try simp only [hl11_57]); (with_reducible repeat (first | apply Kd.R_alloc | apply Kd.R_drewN | apply Kd.R_drew)); exact HO_11.out⟩, ⟨by (try simp only [hl11_57]); (with_reducible repeat (first | apply Kd.R_alloc | apply Kd.R_drewN | apply Kd.R_drew)); exact HO_12.out⟩, ⟨by (try simp only [hl11_57]); (with_reducible repeat (first | apply Kd.V_alloc | apply Kd.V_drewN | apply Kd.V_drew)); exact HO_164000.out⟩, ⟨by (try simp only [hl11_57]); (with_reducible repeat (first | apply Kd.V_alloc | apply Kd.V_drewN | apply Kd.V_drew)); exact HO_173000.out⟩, ⟨by (try simp only [hl11_57]); (with_reducible repeat (first | refine blk_drewN ?_ _ | refine blk_drew ?_ | refine blk_alloc ?_ _)); exact BK163.out⟩, ⟨by (try simp only [hl11_57]); (with_reducible repeat (first | refine blk_drewN ?_ _ | refine blk_drew ?_ | refine blk_alloc ?_ _)); exact BK164.out⟩, ⟨by (try simp only [hl11_57]); (with_reducible repeat (first | refine blk_drewN ?_ _ | refine blk_drew ?_ | refine blk_alloc ?_ _)); exact BK172.out⟩, ⟨zb HB.out⟩⟩
                 ·rw [if_neg c68] at H
                  exact absurd H (by simp)
                ·rw [if_neg c67] at H
                 exact absurd H (by simp)
              case rest =>
               clear HC65
               try clear c1
               try clear p1
               try clear q1
               try clear hx1
               try clear c2
               try clear p2
               try clear c3
               try clear c4
               try clear c5
               try clear p5
               try clear q5
               try clear hx5
               try clear hf5
               try clear c6
               try clear p6
               try clear q6
               try clear hx6
               try clear hf6
               try clear c7
               try clear c8
               try clear c10
               try clear c14
               try clear c16
               try clear c18
               try clear p18
               try clear q18
               try clear hx18
               try clear c25
               try clear c26
               try clear c27
               try clear c28
               try clear c30
               try clear c33
               try clear c35
               try clear c40
               try clear c40b0
               try clear c40b1
               try clear c41
               try clear c41b0
               try clear c41b1
               try clear c43
               try clear c46
               try clear c47
               try clear c54
               try clear c54b0
               try clear c55
               try clear c55b0
               try clear c56
               try clear c56b0
               try clear p57
               try clear q57
               try clear hx57
               try clear hf57
               try clear c61
               try clear c61b0
               try clear c61b1
               try clear p62
               try clear q62
               try clear hx62
               try clear hf62
               try clear c66
               try clear c66b0
               try clear c66b1
               try clear c67
               try clear c67b0
               try clear c68
               try clear c68b0
               try clear q69
               try clear c70
               try clear c71
               try clear c71b0
               try clear c74
               try clear c75
               try clear hcz11_0
               try clear hcz19_0
               try clear hcz21_0
               try clear hcz23_0
               try clear hcz26_0
               try clear hcz28_0
               try clear hcz31_0
               try clear hcz36_0
               try clear hcz39_0
               try clear hcz44_0
               try clear hcz48_0
               try clear hcz49_0
               try clear hcz52_0
               try clear hcz76_0
               try clear hfz11_0
               try clear hfz19_0
               try clear hfz21_0
               try clear hfz23_0
               try clear hfz26_0
               try clear hfz28_0
               try clear hfz31_0
               try clear hfz36_0
               try clear hfz39_0
               try clear hfz44_0
               try clear hfz48_0
               try clear hfz49_0
               try clear hfz52_0
               try clear hfz76_0
               try clear hx185_0
               try clear hx186_0
               try clear hx186_1
               try clear hx186_2
               try clear hx57_0
               try clear hx62_0
               try clear p185
               try clear p186
               try clear p2
               try clear p5
               try clear p57
               try clear p6
               try clear p62
               try clear q185
               try clear q186
               try clear q5
               try clear q57
               try clear q6
               try clear q62
               try clear HO_11
               try clear HO_12
               try clear HO_164000
               try clear HO_173000
               try clear BK163
               try clear BK164
               try clear BK172
               try clear HB
               obtain ⟨kq, x82_64, rfl, HA, HJ64, HO_11, HO_12, HO_164000, HO_173000, BK163, BK164, BK172, HB⟩ := hcut
               cases kq with
               | zero => exact absurd HA.out (by simp [spec_TermSwap.j3])
               | succ kj64 =>
                have H := HA.out
                clear HA
                simp only [spec_TermSwap.j3] at H
                by_cases c78 : x82_64 = true
                ·subst c78
                 have H1 : (spec_TermSwap.l0 kj64 a1 a2 a3 x11_57 t176 (wrap64 (x13_2 + 1)) l0_0 x173000_2) = some (r1, r2) := by rw [if_pos rfl] at H; exact H
                 clear H
                 have H := H1
                 clear H1
                 have H' := Aside0.mk H
                 clear H
                 go_wp2
                 (try simp only [← hl11_57])
                 go_roundg kj64
                 case measure => have := HJ6.out; have := HK2.out; have := HJ57.out; have := HJ64.out; omega
                 case rel => exact ⟨(x11_57), (wrap64 (x13_2 + 1)), (x173000_2), (u173000), (by first | rfl | (simp; done) | (simp [*]; done)), H', ⟨by have := HJ6.out; have := HK2.out; have := HJ57.out; have := HJ64.out; omega⟩, ⟨by (try simp only [hl11_57]); (with_reducible repeat (first | apply Kd.R_alloc | apply Kd.R_drewN | apply Kd.R_drew)); exact HO_11.out⟩, ⟨by (try simp only [hl11_57]); (with_reducible repeat (first | apply Kd.R_alloc | apply Kd.R_drewN | apply Kd.R_drew)); exact HO_12.out⟩, ⟨by (try simp only [hl11_57]); (with_reducible repeat (first | apply Kd.V_alloc | apply Kd.V_drewN | apply Kd.V_drew)); exact HO_164000.out⟩, ⟨by (try simp only [hl11_57]); (with_reducible repeat (first | apply Kd.V_alloc | apply Kd.V_drewN | apply Kd.V_drew)); exact HO_173000.out⟩, ⟨by (try simp only [hl11_57]); (with_reducible repeat (first | refine blk_drewN ?_ _ | refine blk_drew ?_ | refine blk_alloc ?_ _)); exact BK163.out⟩, ⟨by (try simp only [hl11_57]); (with_reducible repeat (first | refine blk_drewN ?_ _ | refine blk_drew ?_ | refine blk_alloc ?_ _)); exact BK164.out⟩, ⟨by (try simp only [hl11_57]); (with_reducible repeat (first | refine blk_drewN ?_ _ | refine blk_drew ?_ | refine blk_alloc ?_ _)); exact BK172.out⟩, ⟨zb HB.out⟩⟩
                ·replace c78 := Bool.eq_false_iff.mpr c78
                 subst c78
                 have H1 : (if 0 ≤ x13_2 then (if x13_2 < (l0_0.length : Int) then (if 0 ≤ ((rd_T55 l0_0 x13_2).f1) then (if ((rd_T55 l0_0 x13_2).f1) < (x11_57.length : Int) then ((spec_l1Parts.f kj64 ((rd_T55 l0_0 x13_2).f0)).bind fun t191 => (if t191 > 1 then (if 0 ≤ ((rd_T55 l0_0 x13_2).f2) then (if ((rd_T55 l0_0 x13_2).f2) < (x11_57.length : Int) then (spec_TermSwap.j4 kj64 a1 a2 a3 x11_57 t176 x13_2 l0_0 x173000_2 ((rd_T55 l0_0 x13_2).f0) (rd x11_57 ((rd_T55 l0_0 x13_2).f1)) (rd x11_57 ((rd_T55 l0_0 x13_2).f2))) else (none)) else (none)) else (spec_TermSwap.j4 kj64 a1 a2 a3 x11_57 t176 x13_2 l0_0 x173000_2 ((rd_T55 l0_0 x13_2).f0) (rd x11_57 ((rd_T55 l0_0 x13_2).f1)) ((rd_T55 l0_0 x13_2).f2)))) else (none)) else (none)) else (none)) else (none)) = some (r1, r2) := by rw [if_neg (show ¬ (false = true) by decide)] at H; exact H
                 clear H
                 have H := H1
                 clear H1
                 by_cases c79 : 0 ≤ x13_2
                 ·rw [if_pos c79] at H
                  have c79b0 : decide (0 ≤ x13_2) = true := decide_eq_true c79
                  clear c79
                  by_cases c80 : x13_2 < (l0_0.length : Int)
                  ·rw [if_pos c80] at H
                   have c80b0 : decide (x13_2 < (l0_0.length : Int)) = true := decide_eq_true c80
                   (try (have c80b0h := c80b0; simp only [hl11_57] at c80b0h))
                   clear c80
                   by_cases c81 : 0 ≤ ((rd_T55 l0_0 x13_2).f1)
                   ·rw [if_pos c81] at H
                    have c81b0 : decide (0 ≤ ((rd_T55 l0_0 x13_2).f1)) = true := decide_eq_true c81
                    clear c81
                    by_cases c82 : ((rd_T55 l0_0 x13_2).f1) < (x11_57.length : Int)
                    ·rw [if_pos c82] at H
                     have c82b0 : decide (((rd_T55 l0_0 x13_2).f1) < (x11_57.length : Int)) = true := decide_eq_true c82
                     (try (have c82b0h := c82b0; simp only [hl11_57] at c82b0h))
                     clear c82
                     replace H := Option.bind_eq_some_iff.mp H
                     obtain ⟨t191, A830, H⟩ := H
                     replace H : (if t191 > 1 then (if 0 ≤ ((rd_T55 l0_0 x13_2).f2) then (if ((rd_T55 l0_0 x13_2).f2) < (x11_57.length : Int) then (spec_TermSwap.j4 kj64 a1 a2 a3 x11_57 t176 x13_2 l0_0 x173000_2 ((rd_T55 l0_0 x13_2).f0) (rd x11_57 ((rd_T55 l0_0 x13_2).f1)) (rd x11_57 ((rd_T55 l0_0 x13_2).f2))) else (none)) else (none)) else (spec_TermSwap.j4 kj64 a1 a2 a3 x11_57 t176 x13_2 l0_0 x173000_2 ((rd_T55 l0_0 x13_2).f0) (rd x11_57 ((rd_T55 l0_0 x13_2).f1)) ((rd_T55 l0_0 x13_2).f2))) = some (r1, r2) := H
                     have A83 := Aside0.mk A830
                     clear A830
                     have HC84 := Aside0.mk H
                     clear H
                     have hnb85 := NB163_164.out
                     have hnc85 := NB164_163.out
                     have hnb86 := NB163_172.out
                     have hnc86 := NB172_163.out
                     have hcz87_0 : wc.cell? ⟨gb163, 0, none⟩ = some (.slice A0_0 l0_0.length c0_0) := (blk_cell BK163.out 0).trans rfl
                     have hfz87_0 := blk_frozen BK163.out 0
                     have p188 : 0 ≤ (x13_2 : Int) := of_decide_eq_true (by first | (with_reducible assumption) | assumption)
                     have q188 : x13_2 < (l0_0.length : Int) := of_decide_eq_true (by first | (with_reducible assumption) | assumption)
                     obtain ⟨ad188, e188, hx188_0, hx188_1, hx188_2⟩ := at_T55 (Kd.V_reads' HO_164000.out).2.2 x13_2 p188 q188
                     cases e188
                     replace p188 := eq_true p188
                     replace q188 := eq_true q188
                     go_upto_if 97 with (first | ((with_reducible refine gate_dst (N := 14) rfl ?_); refine box_event ?hg (N := 14) ?hd (cs := #[.int .i64 0, .int .i64 0, .int .i64 0]) (t := 55) ?hr ?_; (case hd => rfl); (case hg => rfl); (case hr => first | (go_simp; done) | (go_simp; rfl)); intro gb189 hg w88 hbox hb; have n0_ := Aside0.mk (Kd.R_below (zr HO_11.out) hb); have n1_ := Aside0.mk (Kd.R_below (zr HO_12.out) hb); have n2_ := Aside0.mk (Kd.V_below (Kd.V_elderB (by (with_reducible repeat (first | apply Kd.V_alloc | apply Kd.V_drewN | apply Kd.V_drew)); exact HO_164000.out) gb189 (Nat.le_of_eq hg.symm)) hb); have n3_ := Aside0.mk (Kd.V_below (Kd.V_elderB (by (with_reducible repeat (first | apply Kd.V_alloc | apply Kd.V_drewN | apply Kd.V_drew)); exact HO_173000.out) gb189 (Nat.le_of_eq hg.symm)) hb); have n4_ := Aside0.mk (blk_below (zh BK163.out) hb); have n5_ := Aside0.mk (blk_below (zh BK164.out) hb); have n6_ := Aside0.mk (blk_below (zh BK172.out) hb); have n7_ := Aside0.mk (below_step (zb HB.out) hb); have n8_ := Aside0.mk (hbox); have n9_ := Aside0.mk ((by rw [hg]; exact (below_size (zb HB.out)) : w.heap.size ≤ gb189)); have n10_ := Aside0.mk ((by rw [hg]; exact (below_size (zb HB.out)) : w.heap.size ≤ gb189)); have n11_ := Aside0.mk ((by rw [hg]; exact Nat.ne_of_lt (blk_lt (zh BK163.out)) : gb163 ≠ gb189)); have n12_ := Aside0.mk ((by rw [hg]; exact Nat.ne_of_gt (blk_lt (zh BK163.out)) : gb189 ≠ gb163)); have n13_ := Aside0.mk ((by rw [hg]; exact Nat.ne_of_lt (blk_lt (zh BK164.out)) : gb164 ≠ gb189)); have n14_ := Aside0.mk ((by rw [hg]; exact Nat.ne_of_gt (blk_lt (zh BK164.out)) : gb189 ≠ gb164)); have n15_ := Aside0.mk ((by rw [hg]; exact Nat.ne_of_lt (blk_lt (zh BK172.out)) : gb172 ≠ gb189)); have n16_ := Aside0.mk ((by rw [hg]; exact Nat.ne_of_gt (blk_lt (zh BK172.out)) : gb189 ≠ gb172)); clear HO_11; clear HO_12; clear HO_164000; clear HO_173000; clear BK163; clear BK164; clear BK172; clear HB; have HO_11 := n0_; have HO_12 := n1_; have HO_164000 := n2_; have HO_173000 := n3_; have BK163 := n4_; have BK164 := n5_; have BK172 := n6_; have HB := n7_; have BK189 := n8_; have GW189 := n9_; have GE189 := n10_; have NB163_189 := n11_; have NB189_163 := n12_; have NB164_189 := n13_; have NB189_164 := n14_; have NB172_189 := n15_; have NB189_172 := n16_; clear n0_ n1_ n2_ n3_ n4_ n5_ n6_ n7_ n8_ n9_ n10_ n11_ n12_ n13_ n14_ n15_ n16_; clear hb hbox hg; have hnb89 := NB189_163.out; have hnc89 := NB163_189.out; have hnb90 := NB189_164.out; have hnc90 := NB164_189.out; have hnb91 := NB189_172.out; have hnc91 := NB172_189.out; have hcz92_0 : w88.cell? ⟨gb189, 0, none⟩ = some (.int .i64 0) := (blk_cell BK189.out 0).trans rfl; have hcz92_1 : w88.cell? ⟨gb189, 1, none⟩ = some (.int .i64 0) := (blk_cell BK189.out 1).trans rfl; have hcz92_2 : w88.cell? ⟨gb189, 2, none⟩ = some (.int .i64 0) := (blk_cell BK189.out 2).trans rfl; have hfz92_0 := blk_frozen BK189.out 0; have hfz92_1 := blk_frozen BK189.out 1; have hfz92_2 := blk_frozen BK189.out 2; have p190 : 0 ≤ (((rd_T55 l0_0 x13_2).f1) : Int) := of_decide_eq_true (by first | (with_reducible assumption) | assumption); have q190 : ((rd_T55 l0_0 x13_2).f1) < (x11_57.length : Int) := of_decide_eq_true (by first | (with_reducible assumption) | assumption); obtain ⟨ad190, e190, hx190_0⟩ := Kd.at_int (Kd.R_reads' HO_11.out).2.2 ((rd_T55 l0_0 x13_2).f1) p190 q190; obtain rfl : (⟨go57, 0, none⟩ : Addr) = ad190 := (by injection e190); (first | simp only [add_plain] at hx190_0 | simp only [add_at] at hx190_0 | simp only [Addr.add, Nat.zero_add] at hx190_0 | skip); have hn190_0 : (⟨go57, 0, none⟩ : Addr).block ≠ gb189 := Kd.own_blk (Kd.R_ne HO_11.out BK189.out (by decide)); have hn190_1 : (⟨go57, 0, none⟩ : Addr).block ≠ gb189 := Kd.own_blk (Kd.R_ne HO_11.out BK189.out (by decide)); have hn190_2 : (⟨go57, 0, none⟩ : Addr).block ≠ gb189 := Kd.own_blk (Kd.R_ne HO_11.out BK189.out (by decide)); replace hx190_0 := (cell_far (p := ⟨gb189, 0, none⟩) (by first | (rw [add_block]; exact hn190_0) | (show (Addr.add _ _).block ≠ _; rw [add_block]; exact hn190_0) | exact hn190_0) (.int .i64 ((rd_T55 l0_0 x13_2).f0))).trans hx190_0; replace hx190_0 := (cell_far (p := ⟨gb189, 1, none⟩) (by first | (rw [add_block]; exact hn190_1) | (show (Addr.add _ _).block ≠ _; rw [add_block]; exact hn190_1) | exact hn190_1) (.int .i64 ((rd_T55 l0_0 x13_2).f1))).trans hx190_0; replace hx190_0 := (cell_far (p := ⟨gb189, 2, none⟩) (by first | (rw [add_block]; exact hn190_2) | (show (Addr.add _ _).block ≠ _; rw [add_block]; exact hn190_2) | exact hn190_2) (.int .i64 ((rd_T55 l0_0 x13_2).f2))).trans hx190_0; clear hn190_0; clear hn190_1; clear hn190_2; replace p190 := eq_true p190; replace q190 := eq_true q190) | ((with_reducible refine gate_callee (f := 29) rfl ?_); refine goesL_ (some 96) rfl rfl Try.func29 (by kernel_rfl) rfl #[.int .i64 ((rd_T55 l0_0 x13_2).f0)] rfl zl ?_; (with_reducible refine (spec_l1Parts.calls kj64 ((rd_T55 l0_0 x13_2).f0) t191 _ A83.out).mono ?_); rintro e w' ⟨rfl, ⟨nd, rfl⟩⟩; refine ⟨_, rfl, ?_⟩))
                     (try simp only [Act.put, List.setIfInBounds_toArray, List.set_cons_zero, List.set_cons_succ])
                     go_cut [] (fun wc => ∃ (kq : Nat) (x190002_83 : Int), Aside0 (spec_TermSwap.j4 kq a1 a2 a3 x11_57 t176 x13_2 l0_0 x173000_2 ((rd_T55 l0_0 x13_2).f0) (rd x11_57 ((rd_T55 l0_0 x13_2).f1)) x190002_83 = some (r1, r2)) ∧ Aside0 (kq ≤ kj64) ∧ Aside0 (Kd.R (Kd.int .i64) 3 wc w.heap.size (fun k_ => (w.heap.size ≤ k_)) (.slice (some ⟨go57, 0, none⟩) x11_57.length co57) x11_57) ∧ Aside0 (Kd.R Kd.bool 4 wc w.heap.size (fun k_ => (w.heap.size ≤ k_)) v177 t176) ∧ Aside0 (Kd.V k55 55 wc w.heap.size (fun k_ => (P0_0_ k_ ∨ w.heap.size ≤ k_) ∧ some k_ ≠ ((.slice (some ⟨go57, 0, none⟩) x11_57.length co57) : Value).ownBlock ∧ some k_ ≠ (v177 : Value).ownBlock ∧ k_ ≠ gb163 ∧ k_ ≠ gb164 ∧ k_ ≠ gb172 ∧ k_ ≠ gb189) (.slice (some ad188) l0_0.length c0_0) l0_0) ∧ Aside0 (Kd.V k55 55 wc w.heap.size (fun k_ => (P0_0_ k_ ∨ w.heap.size ≤ k_) ∧ some k_ ≠ ((.slice (some ⟨go57, 0, none⟩) x11_57.length co57) : Value).ownBlock ∧ some k_ ≠ (v177 : Value).ownBlock ∧ k_ ≠ gb163 ∧ k_ ≠ gb164 ∧ k_ ≠ gb172 ∧ k_ ≠ gb189) u173000 x173000_2) ∧ Aside0 (wc.heap[gb163]? = some (.cells #[(.slice (some ad188) l0_0.length c0_0)] 28 (0, 0))) ∧ Aside0 (wc.heap[gb164]? = some (.cells #[(.slice none 0 0)] 28 (0, 0))) ∧ Aside0 (wc.heap[gb172]? = some (.cells #[u173000] 28 (0, 0))) ∧ Aside0 (wc.heap[gb189]? = some (.cells #[.int .i64 ((rd_T55 l0_0 x13_2).f0), .int .i64 (rd x11_57 ((rd_T55 l0_0 x13_2).f1)), .int .i64 x190002_83] 55 (0, 0))) ∧ Aside0 (Below w.heap.size w wc))
                     case first =>
                      have H := HC84.out
                      clear HC84
                      by_cases c93 : t191 > 1
                      ·rw [if_pos c93] at H
                       have c93b0 : decide (1 < t191) = true := decide_eq_true c93
                       clear c93
                       (first | rw [c93b0] | (simp only [i64_w, i32_w]; rw [c93b0]) | skip)
                       by_cases c94 : 0 ≤ ((rd_T55 l0_0 x13_2).f2)
                       ·rw [if_pos c94] at H
                        have c94b0 : decide (0 ≤ ((rd_T55 l0_0 x13_2).f2)) = true := decide_eq_true c94
                        clear c94
                        by_cases c95 : ((rd_T55 l0_0 x13_2).f2) < (x11_57.length : Int)
                        ·rw [if_pos c95] at H
                         have c95b0 : decide (((rd_T55 l0_0 x13_2).f2) < (x11_57.length : Int)) = true := decide_eq_true c95
                         (try (have c95b0h := c95b0; simp only [hl11_57] at c95b0h))
                         clear c95
                         have H' := Aside0.mk H
                         clear H
                         have hnb96 := NB189_163.out
                         have hnc96 := NB163_189.out
                         have hnb97 := NB189_164.out
                         have hnc97 := NB164_189.out
                         have hnb98 := NB189_172.out
                         have hnc98 := NB172_189.out
                         have hcz99_0 : w88.cell? ⟨gb189, 0, none⟩ = some (.int .i64 0) := (blk_cell BK189.out 0).trans rfl
                         have hcz99_1 : w88.cell? ⟨gb189, 1, none⟩ = some (.int .i64 0) := (blk_cell BK189.out 1).trans rfl
                         have hcz99_2 : w88.cell? ⟨gb189, 2, none⟩ = some (.int .i64 0) := (blk_cell BK189.out 2).trans rfl
                         have hfz99_0 := blk_frozen BK189.out 0
                         have hfz99_1 := blk_frozen BK189.out 1
                         have hfz99_2 := blk_frozen BK189.out 2
                         have p192 : 0 ≤ (((rd_T55 l0_0 x13_2).f2) : Int) := of_decide_eq_true (by first | (with_reducible assumption) | assumption)
                         have q192 : ((rd_T55 l0_0 x13_2).f2) < (x11_57.length : Int) := of_decide_eq_true (by first | (with_reducible assumption) | assumption)
                         obtain ⟨ad192, e192, hx192_0⟩ := Kd.at_int (Kd.R_reads' HO_11.out).2.2 ((rd_T55 l0_0 x13_2).f2) p192 q192
                         obtain rfl : (⟨go57, 0, none⟩ : Addr) = ad192 := (by injection e192)
                         (first | simp only [add_plain] at hx192_0 | simp only [add_at] at hx192_0 | simp only [Addr.add, Nat.zero_add] at hx192_0 | skip)
                         have hn192_0 : (⟨go57, 0, none⟩ : Addr).block ≠ gb189 := Kd.own_blk (Kd.R_ne HO_11.out BK189.out (by decide))
                         have hn192_1 : (⟨go57, 0, none⟩ : Addr).block ≠ gb189 := Kd.own_blk (Kd.R_ne HO_11.out BK189.out (by decide))
                         have hn192_2 : (⟨go57, 0, none⟩ : Addr).block ≠ gb189 := Kd.own_blk (Kd.R_ne HO_11.out BK189.out (by decide))
                         have hn192_3 : (⟨go57, 0, none⟩ : Addr).block ≠ gb189 := Kd.own_blk (Kd.R_ne HO_11.out BK189.out (by decide))
                         replace hx192_0 := (cell_far (p := ⟨gb189, 0, none⟩) (by first | (rw [add_block]; exact hn192_0) | (show (Addr.add _ _).block ≠ _; rw [add_block]; exact hn192_0) | exact hn192_0) (.int .i64 ((rd_T55 l0_0 x13_2).f0))).trans hx192_0
                         replace hx192_0 := (cell_far (p := ⟨gb189, 1, none⟩) (by first | (rw [add_block]; exact hn192_1) | (show (Addr.add _ _).block ≠ _; rw [add_block]; exact hn192_1) | exact hn192_1) (.int .i64 ((rd_T55 l0_0 x13_2).f1))).trans hx192_0
                         replace hx192_0 := (cell_far (p := ⟨gb189, 2, none⟩) (by first | (rw [add_block]; exact hn192_2) | (show (Addr.add _ _).block ≠ _; rw [add_block]; exact hn192_2) | exact hn192_2) (.int .i64 ((rd_T55 l0_0 x13_2).f2))).trans hx192_0
                         replace hx192_0 := (cell_far (p := ⟨gb189, 1, none⟩) (by first | (rw [add_block]; exact hn192_3) | (show (Addr.add _ _).block ≠ _; rw [add_block]; exact hn192_3) | exact hn192_3) (.int .i64 (rd x11_57 ((rd_T55 l0_0 x13_2).f1)))).trans hx192_0
                         clear hn192_0
                         clear hn192_1
                         clear hn192_2
                         clear hn192_3
                         replace p192 := eq_true p192
                         replace q192 := eq_true q192
                         go_wp2
                         go_meet
                         case rel => exact ⟨_, (rd x11_57 ((rd_T55 l0_0 x13_2).f2)), H', ⟨by have := HJ6.out; have := HK2.out; have := HJ57.out; have := HJ64.out; first | omega | exact Nat.le_refl _⟩, ⟨by (try simp only [hl11_57]); (with_reducible repeat (first | apply Kd.R_alloc | apply Kd.R_drewN | apply Kd.R_drew)); exact Kd.R_mono (Kd.R_far (p := ⟨gb189, 2, none⟩) (Kd.R_far (p := ⟨gb189, 1, none⟩) (Kd.R_far (p := ⟨gb189, 2, none⟩) (Kd.R_far (p := ⟨gb189, 1, none⟩) (Kd.R_far (p := ⟨gb189, 0, none⟩) (Kd.R_types HO_11.out BK189.out (by decide)) (fun _ hk => hk.2) (.int .i64 ((rd_T55 l0_0 x13_2).f0))) (fun _ hk => hk.2) (.int .i64 ((rd_T55 l0_0 x13_2).f1))) (fun _ hk => hk.2) (.int .i64 ((rd_T55 l0_0 x13_2).f2))) (fun _ hk => hk.2) (.int .i64 (rd x11_57 ((rd_T55 l0_0 x13_2).f1)))) (fun _ hk => hk.2) (.int .i64 (rd x11_57 ((rd_T55 l0_0 x13_2).f2)))) (fun _ hk => hk.1)⟩, ⟨by (try simp only [hl11_57]); (with_reducible repeat (first | apply Kd.R_alloc | apply Kd.R_drewN | apply Kd.R_drew)); exact Kd.R_mono (Kd.R_far (p := ⟨gb189, 2, none⟩) (Kd.R_far (p := ⟨gb189, 1, none⟩) (Kd.R_far (p := ⟨gb189, 2, none⟩) (Kd.R_far (p := ⟨gb189, 1, none⟩) (Kd.R_far (p := ⟨gb189, 0, none⟩) (Kd.R_types HO_12.out BK189.out (by decide)) (fun _ hk => hk.2) (.int .i64 ((rd_T55 l0_0 x13_2).f0))) (fun _ hk => hk.2) (.int .i64 ((rd_T55 l0_0 x13_2).f1))) (fun _ hk => hk.2) (.int .i64 ((rd_T55 l0_0 x13_2).f2))) (fun _ hk => hk.2) (.int .i64 (rd x11_57 ((rd_T55 l0_0 x13_2).f1)))) (fun _ hk => hk.2) (.int .i64 (rd x11_57 ((rd_T55 l0_0 x13_2).f2)))) (fun _ hk => hk.1)⟩, ⟨by (try simp only [hl11_57]); (with_reducible repeat (first | apply Kd.V_alloc | apply Kd.V_drewN | apply Kd.V_drew)); exact Kd.V_mono (Kd.V_far (p := ⟨gb189, 2, none⟩) (Kd.V_far (p := ⟨gb189, 1, none⟩) (Kd.V_far (p := ⟨gb189, 2, none⟩) (Kd.V_far (p := ⟨gb189, 1, none⟩) (Kd.V_far (p := ⟨gb189, 0, none⟩) (Kd.V_mono HO_164000.out (fun k_ hk => (⟨hk, hk.2⟩ : _ ∧ k_ ≠ gb189))) (fun _ hk => hk.2) (.int .i64 ((rd_T55 l0_0 x13_2).f0))) (fun _ hk => hk.2) (.int .i64 ((rd_T55 l0_0 x13_2).f1))) (fun _ hk => hk.2) (.int .i64 ((rd_T55 l0_0 x13_2).f2))) (fun _ hk => hk.2) (.int .i64 (rd x11_57 ((rd_T55 l0_0 x13_2).f1)))) (fun _ hk => hk.2) (.int .i64 (rd x11_57 ((rd_T55 l0_0 x13_2).f2)))) (fun _ hk => ⟨hk.1.1.1, ⟨hk.1.1.2.1, ⟨hk.1.1.2.2.1, ⟨hk.1.1.2.2.2.1, ⟨hk.1.1.2.2.2.2.1, ⟨hk.1.1.2.2.2.2.2, hk.1.2⟩⟩⟩⟩⟩⟩)⟩, ⟨by (try simp only [hl11_57]); (with_reducible repeat (first | apply Kd.V_alloc | apply Kd.V_drewN | apply Kd.V_drew)); exact Kd.V_mono (Kd.V_far (p := ⟨gb189, 2, none⟩) (Kd.V_far (p := ⟨gb189, 1, none⟩) (Kd.V_far (p := ⟨gb189, 2, none⟩) (Kd.V_far (p := ⟨gb189, 1, none⟩) (Kd.V_far (p := ⟨gb189, 0, none⟩) (Kd.V_mono HO_173000.out (fun k_ hk => (⟨hk, hk.2⟩ : _ ∧ k_ ≠ gb189))) (fun _ hk => hk.2) (.int .i64 ((rd_T55 l0_0 x13_2).f0))) (fun _ hk => hk.2) (.int .i64 ((rd_T55 l0_0 x13_2).f1))) (fun _ hk => hk.2) (.int .i64 ((rd_T55 l0_0 x13_2).f2))) (fun _ hk => hk.2) (.int .i64 (rd x11_57 ((rd_T55 l0_0 x13_2).f1)))) (fun _ hk => hk.2) (.int .i64 (rd x11_57 ((rd_T55 l0_0 x13_2).f2)))) (fun _ hk => ⟨hk.1.1.1, ⟨hk.1.1.2.1, ⟨hk.1.1.2.2.1, ⟨hk.1.1.2.2.2.1, ⟨hk.1.1.2.2.2.2.1, ⟨hk.1.1.2.2.2.2.2, hk.1.2⟩⟩⟩⟩⟩⟩)⟩, ⟨by (try simp only [hl11_57]); (with_reducible repeat (first | refine blk_drewN ?_ _ | refine blk_drew ?_ | refine blk_alloc ?_ _)); refine blk_far ?_ NB163_189.out _; (with_reducible repeat (first | refine blk_drewN ?_ _ | refine blk_drew ?_ | refine blk_alloc ?_ _)); refine blk_far ?_ NB163_189.out _; (with_reducible repeat (first | refine blk_drewN ?_ _ | refine blk_drew ?_ | refine blk_alloc ?_ _)); refine blk_far ?_ NB163_189.out _; (with_reducible repeat (first | refine blk_drewN ?_ _ | refine blk_drew ?_ | refine blk_alloc ?_ _)); refine blk_far ?_ NB163_189.out _; (with_reducible repeat (first | refine blk_drewN ?_ _ | refine blk_drew ?_ | refine blk_alloc ?_ _)); refine blk_far ?_ NB163_189.out _; (with_reducible repeat (first | refine blk_drewN ?_ _ | refine blk_drew ?_ | refine blk_alloc ?_ _)); exact BK163.out⟩, ⟨by (try simp only [hl11_57]); (with_reducible repeat (first | refine blk_drewN ?_ _ | refine blk_drew ?_ | refine blk_alloc ?_ _)); refine blk_far ?_ NB164_189.out _; (with_reducible repeat (first | refine blk_drewN ?_ _ | refine blk_drew ?_ | refine blk_alloc ?_ _)); refine blk_far ?_ NB164_189.out _; (with_reducible repeat (first | refine blk_drewN ?_ _ | refine blk_drew ?_ | refine blk_alloc ?_ _)); refine blk_far ?_ NB164_189.out _; (with_reducible repeat (first | refine blk_drewN ?_ _ | refine blk_drew ?_ | refine blk_alloc ?_ _)); refine blk_far ?_ NB164_189.out _; (with_reducible repeat (first | refine blk_drewN ?_ _ | refine blk_drew ?_ | refine blk_alloc ?_ _)); refine blk_far ?_ NB164_189.out _; (with_reducible repeat (first | refine blk_drewN ?_ _ | refine blk_drew ?_ | refine blk_alloc ?_ _)); exact BK164.out⟩, ⟨by (try simp only [hl11_57]); (with_reducible repeat (first | refine blk_drewN ?_ _ | refine blk_drew ?_ | refine blk_alloc ?_ _)); refine blk_far ?_ NB172_189.out _; (with_reducible repeat (first | refine blk_drewN ?_ _ | refine blk_drew ?_ | refine blk_alloc ?_ _)); refine blk_far ?_ NB172_189.out _; (with_reducible repeat (first | refine blk_drewN ?_ _ | refine blk_drew ?_ | refine blk_alloc ?_ _)); refine blk_far ?_ NB172_189.out _; (with_reducible repeat (first | refine blk_drewN ?_ _ | refine blk_drew ?_ | refine blk_alloc ?_ _)); refine blk_far ?_ NB172_189.out _; (with_reducible repeat (first | refine blk_drewN ?_ _ | refine blk_drew ?_ | refine blk_alloc ?_ _)); refine blk_far ?_ NB172_189.out _; (with_reducible repeat (first | refine blk_drewN ?_ _ | refine blk_drew ?_ | refine blk_alloc ?_ _)); exact BK172.out⟩, ⟨by (try simp only [hl11_57]); (with_reducible repeat (first | refine blk_drewN ?_ _ | refine blk_drew ?_ | refine blk_alloc ?_ _)); refine blk_put (cs := #[.int .i64 ((rd_T55 l0_0 x13_2).f0), .int .i64 (rd x11_57 ((rd_T55 l0_0 x13_2).f1)), .int .i64 ((rd_T55 l0_0 x13_2).f2)]) ?_ 2 _ rfl; (with_reducible repeat (first | refine blk_drewN ?_ _ | refine blk_drew ?_ | refine blk_alloc ?_ _)); refine blk_put (cs := #[.int .i64 ((rd_T55 l0_0 x13_2).f0), .int .i64 ((rd_T55 l0_0 x13_2).f1), .int .i64 ((rd_T55 l0_0 x13_2).f2)]) ?_ 1 _ rfl; (with_reducible repeat (first | refine blk_drewN ?_ _ | refine blk_drew ?_ | refine blk_alloc ?_ _)); refine blk_put (cs := #[.int .i64 ((rd_T55 l0_0 x13_2).f0), .int .i64 ((rd_T55 l0_0 x13_2).f1), .int .i64 0]) ?_ 2 _ rfl; (with_reducible repeat (first | refine blk_drewN ?_ _ | refine blk_drew ?_ | refine blk_alloc ?_ _)); refine blk_put (cs := #[.int .i64 ((rd_T55 l0_0 x13_2).f0), .int .i64 0, .int .i64 0]) ?_ 1 _ rfl; (with_reducible repeat (first | refine blk_drewN ?_ _ | refine blk_drew ?_ | refine blk_alloc ?_ _)); refine blk_put (cs := #[.int .i64 0, .int .i64 0, .int .i64 0]) ?_ 0 _ rfl; (with_reducible repeat (first | refine blk_drewN ?_ _ | refine blk_drew ?_ | refine blk_alloc ?_ _)); exact BK189.out⟩, ⟨zb HB.out⟩⟩
                        ·rw [if_neg c95] at H
                         exact absurd H (by simp)
                       ·rw [if_neg c94] at H
                        exact absurd H (by simp)
                      ·rw [if_neg c93] at H
                       have c93b0 : decide (1 < t191) = false := decide_eq_false c93
                       clear c93
                       (first | rw [c93b0] | (simp only [i64_w, i32_w]; rw [c93b0]) | skip)
                       have H' := Aside0.mk H
                       clear H
                       go_wp2
                       go_meet
                       case rel => exact ⟨_, ((rd_T55 l0_0 x13_2).f2), H', ⟨by have := HJ6.out; have := HK2.out; have := HJ57.out; have := HJ64.out; first | omega | exact Nat.le_refl _⟩, ⟨by (try simp only [hl11_57]); (with_reducible repeat (first | apply Kd.R_alloc | apply Kd.R_drewN | apply Kd.R_drew)); exact Kd.R_mono (Kd.R_far (p := ⟨gb189, 1, none⟩) (Kd.R_far (p := ⟨gb189, 2, none⟩) (Kd.R_far (p := ⟨gb189, 1, none⟩) (Kd.R_far (p := ⟨gb189, 0, none⟩) (Kd.R_types HO_11.out BK189.out (by decide)) (fun _ hk => hk.2) (.int .i64 ((rd_T55 l0_0 x13_2).f0))) (fun _ hk => hk.2) (.int .i64 ((rd_T55 l0_0 x13_2).f1))) (fun _ hk => hk.2) (.int .i64 ((rd_T55 l0_0 x13_2).f2))) (fun _ hk => hk.2) (.int .i64 (rd x11_57 ((rd_T55 l0_0 x13_2).f1)))) (fun _ hk => hk.1)⟩, ⟨by (try simp only [hl11_57]); (with_reducible repeat (first | apply Kd.R_alloc | apply Kd.R_drewN | apply Kd.R_drew)); exact Kd.R_mono (Kd.R_far (p := ⟨gb189, 1, none⟩) (Kd.R_far (p := ⟨gb189, 2, none⟩) (Kd.R_far (p := ⟨gb189, 1, none⟩) (Kd.R_far (p := ⟨gb189, 0, none⟩) (Kd.R_types HO_12.out BK189.out (by decide)) (fun _ hk => hk.2) (.int .i64 ((rd_T55 l0_0 x13_2).f0))) (fun _ hk => hk.2) (.int .i64 ((rd_T55 l0_0 x13_2).f1))) (fun _ hk => hk.2) (.int .i64 ((rd_T55 l0_0 x13_2).f2))) (fun _ hk => hk.2) (.int .i64 (rd x11_57 ((rd_T55 l0_0 x13_2).f1)))) (fun _ hk => hk.1)⟩, ⟨by (try simp only [hl11_57]); (with_reducible repeat (first | apply Kd.V_alloc | apply Kd.V_drewN | apply Kd.V_drew)); exact Kd.V_mono (Kd.V_far (p := ⟨gb189, 1, none⟩) (Kd.V_far (p := ⟨gb189, 2, none⟩) (Kd.V_far (p := ⟨gb189, 1, none⟩) (Kd.V_far (p := ⟨gb189, 0, none⟩) (Kd.V_mono HO_164000.out (fun k_ hk => (⟨hk, hk.2⟩ : _ ∧ k_ ≠ gb189))) (fun _ hk => hk.2) (.int .i64 ((rd_T55 l0_0 x13_2).f0))) (fun _ hk => hk.2) (.int .i64 ((rd_T55 l0_0 x13_2).f1))) (fun _ hk => hk.2) (.int .i64 ((rd_T55 l0_0 x13_2).f2))) (fun _ hk => hk.2) (.int .i64 (rd x11_57 ((rd_T55 l0_0 x13_2).f1)))) (fun _ hk => ⟨hk.1.1.1, ⟨hk.1.1.2.1, ⟨hk.1.1.2.2.1, ⟨hk.1.1.2.2.2.1, ⟨hk.1.1.2.2.2.2.1, ⟨hk.1.1.2.2.2.2.2, hk.1.2⟩⟩⟩⟩⟩⟩)⟩, ⟨by (try simp only [hl11_57]); (with_reducible repeat (first | apply Kd.V_alloc | apply Kd.V_drewN | apply Kd.V_drew)); exact Kd.V_mono (Kd.V_far (p := ⟨gb189, 1, none⟩) (Kd.V_far (p := ⟨gb189, 2, none⟩) (Kd.V_far (p := ⟨gb189, 1, none⟩) (Kd.V_far (p := ⟨gb189, 0, none⟩) (Kd.V_mono HO_173000.out (fun k_ hk => (⟨hk, hk.2⟩ : _ ∧ k_ ≠ gb189))) (fun _ hk => hk.2) (.int .i64 ((rd_T55 l0_0 x13_2).f0))) (fun _ hk => hk.2) (.int .i64 ((rd_T55 l0_0 x13_2).f1))) (fun _ hk => hk.2) (.int .i64 ((rd_T55 l0_0 x13_2).f2))) (fun _ hk => hk.2) (.int .i64 (rd x11_57 ((rd_T55 l0_0 x13_2).f1)))) (fun _ hk => ⟨hk.1.1.1, ⟨hk.1.1.2.1, ⟨hk.1.1.2.2.1, ⟨hk.1.1.2.2.2.1, ⟨hk.1.1.2.2.2.2.1, ⟨hk.1.1.2.2.2.2.2, hk.1.2⟩⟩⟩⟩⟩⟩)⟩, ⟨by (try simp only [hl11_57]); (with_reducible repeat (first | refine blk_drewN ?_ _ | refine blk_drew ?_ | refine blk_alloc ?_ _)); refine blk_far ?_ NB163_189.out _; (with_reducible repeat (first | refine blk_drewN ?_ _ | refine blk_drew ?_ | refine blk_alloc ?_ _)); refine blk_far ?_ NB163_189.out _; (with_reducible repeat (first | refine blk_drewN ?_ _ | refine blk_drew ?_ | refine blk_alloc ?_ _)); refine blk_far ?_ NB163_189.out _; (with_reducible repeat (first | refine blk_drewN ?_ _ | refine blk_drew ?_ | refine blk_alloc ?_ _)); refine blk_far ?_ NB163_189.out _; (with_reducible repeat (first | refine blk_drewN ?_ _ | refine blk_drew ?_ | refine blk_alloc ?_ _)); exact BK163.out⟩, ⟨by (try simp only [hl11_57]); (with_reducible repeat (first | refine blk_drewN ?_ _ | refine blk_drew ?_ | refine blk_alloc ?_ _)); refine blk_far ?_ NB164_189.out _; (with_reducible repeat (first | refine blk_drewN ?_ _ | refine blk_drew ?_ | refine blk_alloc ?_ _)); refine blk_far ?_ NB164_189.out _; (with_reducible repeat (first | refine blk_drewN ?_ _ | refine blk_drew ?_ | refine blk_alloc ?_ _)); refine blk_far ?_ NB164_189.out _; (with_reducible repeat (first | refine blk_drewN ?_ _ | refine blk_drew ?_ | refine blk_alloc ?_ _)); refine blk_far ?_ NB164_189.out _; (with_reducible repeat (first | refine blk_drewN ?_ _ | refine blk_drew ?_ | refine blk_alloc ?_ _)); exact BK164.out⟩, ⟨by (try simp only [hl11_57]); (with_reducible repeat (first | refine blk_drewN ?_ _ | refine blk_drew ?_ | refine blk_alloc ?_ _)); refine blk_far ?_ NB172_189.out _; (with_reducible repeat (first | refine blk_drewN ?_ _ | refine blk_drew ?_ | refine blk_alloc ?_ _)); refine blk_far ?_ NB172_189.out _; (with_reducible repeat (first | refine blk_drewN ?_ _ | refine blk_drew ?_ | refine blk_alloc ?_ _)); refine blk_far ?_ NB172_189.out _; (with_reducible repeat (first | refine blk_drewN ?_ _ | refine blk_drew ?_ | refine blk_alloc ?_ _)); refine blk_far ?_ NB172_189.out _; (with_reducible repeat (first | refine blk_drewN ?_ _ | refine blk_drew ?_ | refine blk_alloc ?_ _)); exact BK172.out⟩, ⟨by (try simp only [hl11_57]); (with_reducible repeat (first | refine blk_drewN ?_ _ | refine blk_drew ?_ | refine blk_alloc ?_ _)); refine blk_put (cs := #[.int .i64 ((rd_T55 l0_0 x13_2).f0), .int .i64 ((rd_T55 l0_0 x13_2).f1), .int .i64 ((rd_T55 l0_0 x13_2).f2)]) ?_ 1 _ rfl; (with_reducible repeat (first | refine blk_drewN ?_ _ | refine blk_drew ?_ | refine blk_alloc ?_ _)); refine blk_put (cs := #[.int .i64 ((rd_T55 l0_0 x13_2).f0), .int .i64 ((rd_T55 l0_0 x13_2).f1), .int .i64 0]) ?_ 2 _ rfl; (with_reducible repeat (first | refine blk_drewN ?_ _ | refine blk_drew ?_ | refine blk_alloc ?_ _)); refine blk_put (cs := #[.int .i64 ((rd_T55 l0_0 x13_2).f0), .int .i64 0, .int .i64 0]) ?_ 1 _ rfl; (with_reducible repeat (first | refine blk_drewN ?_ _ | refine blk_drew ?_ | refine blk_alloc ?_ _)); refine blk_put (cs := #[.int .i64 0, .int .i64 0, .int .i64 0]) ?_ 0 _ rfl; (with_reducible repeat (first | refine blk_drewN ?_ _ | refine blk_drew ?_ | refine blk_alloc ?_ _)); exact BK189.out⟩, ⟨zb HB.out⟩⟩
                     case rest =>
                      clear HC84
                      try clear c1
                      try clear p1
                      try clear q1
                      try clear hx1
                      try clear c2
                      try clear p2
                      try clear c3
                      try clear c4
                      try clear c5
                      try clear p5
                      try clear q5
                      try clear hx5
                      try clear hf5
                      try clear c6
                      try clear p6
                      try clear q6
                      try clear hx6
                      try clear hf6
                      try clear c7
                      try clear c8
                      try clear c9
                      try clear c10
                      try clear c14
                      try clear c16
                      try clear c18
                      try clear p18
                      try clear q18
                      try clear hx18
                      try clear p19
                      try clear q19
                      try clear hx19
                      try clear c25
                      try clear c26
                      try clear c27
                      try clear c28
                      try clear c29
                      try clear c30
                      try clear c33
                      try clear c35
                      try clear c40
                      try clear c40b0
                      try clear c40b1
                      try clear c41
                      try clear c41b0
                      try clear c41b1
                      try clear c43
                      try clear c46
                      try clear c47
                      try clear c54
                      try clear c54b0
                      try clear c55
                      try clear c55b0
                      try clear c56
                      try clear c56b0
                      try clear p57
                      try clear q57
                      try clear hx57
                      try clear hf57
                      try clear c61
                      try clear c61b0
                      try clear c61b1
                      try clear p62
                      try clear q62
                      try clear hx62
                      try clear hf62
                      try clear p64
                      try clear c66
                      try clear c66b0
                      try clear c66b1
                      try clear c67
                      try clear c67b0
                      try clear c68
                      try clear c68b0
                      try clear q69
                      try clear c70
                      try clear c71
                      try clear c71b0
                      try clear c74
                      try clear c75
                      try clear c78
                      try clear c79
                      try clear c79b0
                      try clear c80
                      try clear c80b0
                      try clear c81
                      try clear c81b0
                      try clear c82
                      try clear c82b0
                      try clear c85
                      try clear c86
                      try clear c89
                      try clear c90
                      try clear c91
                      try clear c93
                      try clear c93b0
                      try clear c94
                      try clear c94b0
                      try clear c95
                      try clear c95b0
                      try clear c96
                      try clear c97
                      try clear c98
                      try clear hcz11_0
                      try clear hcz19_0
                      try clear hcz21_0
                      try clear hcz23_0
                      try clear hcz26_0
                      try clear hcz28_0
                      try clear hcz31_0
                      try clear hcz36_0
                      try clear hcz39_0
                      try clear hcz44_0
                      try clear hcz48_0
                      try clear hcz49_0
                      try clear hcz52_0
                      try clear hcz76_0
                      try clear hcz87_0
                      try clear hcz92_0
                      try clear hcz92_1
                      try clear hcz92_2
                      try clear hcz99_0
                      try clear hcz99_1
                      try clear hcz99_2
                      try clear hfz11_0
                      try clear hfz19_0
                      try clear hfz21_0
                      try clear hfz23_0
                      try clear hfz26_0
                      try clear hfz28_0
                      try clear hfz31_0
                      try clear hfz36_0
                      try clear hfz39_0
                      try clear hfz44_0
                      try clear hfz48_0
                      try clear hfz49_0
                      try clear hfz52_0
                      try clear hfz76_0
                      try clear hfz87_0
                      try clear hfz92_0
                      try clear hfz92_1
                      try clear hfz92_2
                      try clear hfz99_0
                      try clear hfz99_1
                      try clear hfz99_2
                      try clear hx185_0
                      try clear hx186_0
                      try clear hx186_1
                      try clear hx186_2
                      try clear hx188_0
                      try clear hx188_1
                      try clear hx188_2
                      try clear hx190_0
                      try clear hx192_0
                      try clear hx57_0
                      try clear hx62_0
                      try clear p1
                      try clear p18
                      try clear p185
                      try clear p186
                      try clear p188
                      try clear p190
                      try clear p192
                      try clear p2
                      try clear p5
                      try clear p57
                      try clear p6
                      try clear p62
                      try clear q1
                      try clear q18
                      try clear q185
                      try clear q186
                      try clear q188
                      try clear q190
                      try clear q192
                      try clear q5
                      try clear q57
                      try clear q6
                      try clear q62
                      try clear q69
                      try clear HO_11
                      try clear HO_12
                      try clear HO_164000
                      try clear HO_173000
                      try clear BK163
                      try clear BK164
                      try clear BK172
                      try clear BK189
                      try clear HB
                      obtain ⟨kq, x190002_83, HA, HJ83, HO_11, HO_12, HO_164000, HO_173000, BK163, BK164, BK172, BK189, HB⟩ := hcut
                      cases kq with
                      | zero => exact absurd HA.out (by simp [spec_TermSwap.j4])
                      | succ kj83 =>
                       have H := HA.out
                       clear HA
                       simp only [spec_TermSwap.j4] at H
                       replace H := Option.bind_eq_some_iff.mp H
                       obtain ⟨⟨t193, t196⟩, A1000, H⟩ := H
                       replace H : (if t196 < 0 then ((spec_l1Copy.f l0_0).bind fun t198 => (some (t198, (-1)))) else (if 0 ≤ x13_2 then (if x13_2 < (x11_57.length : Int) then (spec_TermSwap.l0 kj83 a1 a2 a3 (x11_57.set (x13_2 : Int).toNat t196) t176 (wrap64 (x13_2 + 1)) l0_0 t193) else (none)) else (none))) = some (r1, r2) := H
                       have A100 := Aside0.mk A1000
                       clear A1000
                       by_cases c101 : t196 < 0
                       ·rw [if_pos c101] at H
                        have c101b0 : decide (t196 < 0) = true := decide_eq_true c101
                        clear c101
                        replace H := Option.bind_eq_some_iff.mp H
                        obtain ⟨t198, A1020, H⟩ := H
                        replace H : (some (t198, (-1))) = some (r1, r2) := H
                        have A102 := Aside0.mk A1020
                        clear A1020
                        simp only [Option.some.injEq, Prod.mk.injEq] at H
                        obtain ⟨rfl, rfl⟩ := H
                        have hnb103 := NB172_163.out
                        have hnc103 := NB163_172.out
                        have hnb104 := NB172_164.out
                        have hnc104 := NB164_172.out
                        have hnb105 := NB172_189.out
                        have hnc105 := NB189_172.out
                        have hcz106_0 : wc.cell? ⟨gb172, 0, none⟩ = some (u173000) := (blk_cell BK172.out 0).trans rfl
                        have hfz106_0 := blk_frozen BK172.out 0
                        have hnb107 := NB189_163.out
                        have hnc107 := NB163_189.out
                        have hnb108 := NB189_164.out
                        have hnc108 := NB164_189.out
                        have hcz109_0 : wc.cell? ⟨gb189, 0, none⟩ = some (.int .i64 ((rd_T55 l0_0 x13_2).f0)) := (blk_cell BK189.out 0).trans rfl
                        have hcz109_1 : wc.cell? ⟨gb189, 1, none⟩ = some (.int .i64 (rd x11_57 ((rd_T55 l0_0 x13_2).f1))) := (blk_cell BK189.out 1).trans rfl
                        have hcz109_2 : wc.cell? ⟨gb189, 2, none⟩ = some (.int .i64 x190002_83) := (blk_cell BK189.out 2).trans rfl
                        have hfz109_0 := blk_frozen BK189.out 0
                        have hfz109_1 := blk_frozen BK189.out 1
                        have hfz109_2 := blk_frozen BK189.out 2
                        obtain ⟨Ao110, co110, eo110⟩ := Kd.V_slice HO_173000.out
                        subst eo110
                        go_wp2_with (first | ((with_reducible refine gate_callee (f := 30) rfl ?_); refine goesL_ (some 107) rfl rfl Try.func30 (by kernel_rfl) rfl #[.agg #[.slice Ao110 x173000_2.length co110], .agg #[.int .i64 ((rd_T55 l0_0 x13_2).f0), .int .i64 (rd x11_57 ((rd_T55 l0_0 x13_2).f1)), .int .i64 x190002_83]] rfl zl ?_; (with_reducible refine (spec_TermSwap.addV kj83 (fun k_ => ((P0_0_ k_ ∨ w.heap.size ≤ k_) ∧ (some k_ ≠ (.slice (some ⟨go57, 0, none⟩) x11_57.length co57 : Value).ownBlock ∧ (some k_ ≠ (v177 : Value).ownBlock ∧ (k_ ≠ gb163 ∧ (k_ ≠ gb164 ∧ (k_ ≠ gb172 ∧ k_ ≠ gb189))))))) _ _ x173000_2 ((rd_T55 l0_0 x13_2).f0) (rd x11_57 ((rd_T55 l0_0 x13_2).f1)) x190002_83 t193 t196 _ ?side1 A100.out).mono ?_); (case side1 => exact HO_173000.out); rintro e w111 ⟨v194, rfl, ho0, hb⟩; refine ⟨_, rfl, ?_⟩; have n0_ := Aside0.mk (Kd.R_below (zr HO_11.out) hb); have n1_ := Aside0.mk (Kd.R_below (zr HO_12.out) hb); have n2_ := Aside0.mk (Kd.V_below (by (with_reducible repeat (first | apply Kd.V_alloc | apply Kd.V_drewN | apply Kd.V_drew)); exact HO_164000.out) hb); have n3_ := Aside0.mk (Kd.V_below (by (with_reducible repeat (first | apply Kd.V_alloc | apply Kd.V_drewN | apply Kd.V_drew)); exact HO_173000.out) hb); have n4_ := Aside0.mk (Kd.V_lower (Kd.V_mono (ok' := fun k_ => (P0_0_ k_ ∨ w.heap.size ≤ k_) ∧ some k_ ≠ (.slice (some ⟨go57, 0, none⟩) x11_57.length co57 : Value).ownBlock ∧ some k_ ≠ (v177 : Value).ownBlock ∧ k_ ≠ gb163 ∧ k_ ≠ gb164 ∧ k_ ≠ gb172 ∧ k_ ≠ gb189) ho0 (fun k_ hk_ => by first | exact ⟨Or.elim hk_ (fun hs_ => hs_.1) (fun hn_ => (.inr (Nat.le_trans (below_size (zb HB.out)) hn_))), Or.elim hk_ (fun hs_ => hs_.2.1) (fun hn_ => (Kd.fresh' (Kd.R_lt (zr HO_11.out)) k_ hn_)), Or.elim hk_ (fun hs_ => hs_.2.2.1) (fun hn_ => (Kd.fresh' (Kd.R_lt (zr HO_12.out)) k_ hn_)), Or.elim hk_ (fun hs_ => hs_.2.2.2.1) (fun hn_ => (Kd.freshB (zh BK163.out) k_ hn_)), Or.elim hk_ (fun hs_ => hs_.2.2.2.2.1) (fun hn_ => (Kd.freshB (zh BK164.out) k_ hn_)), Or.elim hk_ (fun hs_ => hs_.2.2.2.2.2.1) (fun hn_ => (Kd.freshB (zh BK172.out) k_ hn_)), Or.elim hk_ (fun hs_ => hs_.2.2.2.2.2.2) (fun hn_ => (Kd.freshB (zh BK189.out) k_ hn_))⟩ | (revert hk_; simp only [and_imp]; intros; and_intros <;> assumption))) (below_size (zb HB.out))); have n5_ := Aside0.mk (blk_below (zh BK163.out) hb); have n6_ := Aside0.mk (blk_below (zh BK164.out) hb); have n7_ := Aside0.mk (blk_below (zh BK172.out) hb); have n8_ := Aside0.mk (blk_below (zh BK189.out) hb); have n9_ := Aside0.mk (below_step (zb HB.out) hb); clear HO_11; clear HO_12; clear HO_164000; clear HO_173000; clear BK163; clear BK164; clear BK172; clear BK189; clear HB; have HO_11 := n0_; have HO_12 := n1_; have HO_164000 := n2_; have HO_173000 := n3_; have HO195 := n4_; have BK163 := n5_; have BK164 := n6_; have BK172 := n7_; have BK189 := n8_; have HB := n9_; clear n0_ n1_ n2_ n3_ n4_ n5_ n6_ n7_ n8_ n9_; (try clear hb); (try clear hb2); (try clear hk); (try clear hi); (try clear ho0)) | ((with_reducible refine gate_dst (N := 15) rfl ?_); refine box_event ?hg (N := 15) ?hd (cs := #[.slice none 0 0]) (t := 28) ?hr ?_; (case hd => rfl); (case hg => rfl); (case hr => first | (go_simp; done) | (go_simp; rfl)); intro gb197 hg w112 hbox hb; have n0_ := Aside0.mk (Kd.R_below (zr HO_11.out) hb); have n1_ := Aside0.mk (Kd.R_below (zr HO_12.out) hb); have n2_ := Aside0.mk (Kd.V_below (Kd.V_elderB (by (with_reducible repeat (first | apply Kd.V_alloc | apply Kd.V_drewN | apply Kd.V_drew)); exact HO_164000.out) gb197 (Nat.le_of_eq hg.symm)) hb); have n3_ := Aside0.mk (Kd.V_below (Kd.V_elderB (by (with_reducible repeat (first | apply Kd.V_alloc | apply Kd.V_drewN | apply Kd.V_drew)); exact HO_173000.out) gb197 (Nat.le_of_eq hg.symm)) hb); have n4_ := Aside0.mk (Kd.V_below (Kd.V_elderB (by (with_reducible repeat (first | apply Kd.V_alloc | apply Kd.V_drewN | apply Kd.V_drew)); exact HO195.out) gb197 (Nat.le_of_eq hg.symm)) hb); have n5_ := Aside0.mk (blk_below (zh BK163.out) hb); have n6_ := Aside0.mk (blk_below (zh BK164.out) hb); have n7_ := Aside0.mk (blk_below (zh BK172.out) hb); have n8_ := Aside0.mk (blk_below (zh BK189.out) hb); have n9_ := Aside0.mk (below_step (zb HB.out) hb); have n10_ := Aside0.mk (hbox); have n11_ := Aside0.mk ((by rw [hg]; exact (below_size (zb HB.out)) : w.heap.size ≤ gb197)); have n12_ := Aside0.mk ((by rw [hg]; exact (below_size (zb HB.out)) : w.heap.size ≤ gb197)); have n13_ := Aside0.mk ((by rw [hg]; exact Nat.ne_of_lt (blk_lt (zh BK163.out)) : gb163 ≠ gb197)); have n14_ := Aside0.mk ((by rw [hg]; exact Nat.ne_of_gt (blk_lt (zh BK163.out)) : gb197 ≠ gb163)); have n15_ := Aside0.mk ((by rw [hg]; exact Nat.ne_of_lt (blk_lt (zh BK164.out)) : gb164 ≠ gb197)); have n16_ := Aside0.mk ((by rw [hg]; exact Nat.ne_of_gt (blk_lt (zh BK164.out)) : gb197 ≠ gb164)); have n17_ := Aside0.mk ((by rw [hg]; exact Nat.ne_of_lt (blk_lt (zh BK172.out)) : gb172 ≠ gb197)); have n18_ := Aside0.mk ((by rw [hg]; exact Nat.ne_of_gt (blk_lt (zh BK172.out)) : gb197 ≠ gb172)); have n19_ := Aside0.mk ((by rw [hg]; exact Nat.ne_of_lt (blk_lt (zh BK189.out)) : gb189 ≠ gb197)); have n20_ := Aside0.mk ((by rw [hg]; exact Nat.ne_of_gt (blk_lt (zh BK189.out)) : gb197 ≠ gb189)); clear HO_11; clear HO_12; clear HO_164000; clear HO_173000; clear HO195; clear BK163; clear BK164; clear BK172; clear BK189; clear HB; have HO_11 := n0_; have HO_12 := n1_; have HO_164000 := n2_; have HO_173000 := n3_; have HO195 := n4_; have BK163 := n5_; have BK164 := n6_; have BK172 := n7_; have BK189 := n8_; have HB := n9_; have BK197 := n10_; have GW197 := n11_; have GE197 := n12_; have NB163_197 := n13_; have NB197_163 := n14_; have NB164_197 := n15_; have NB197_164 := n16_; have NB172_197 := n17_; have NB197_172 := n18_; have NB189_197 := n19_; have NB197_189 := n20_; clear n0_ n1_ n2_ n3_ n4_ n5_ n6_ n7_ n8_ n9_ n10_ n11_ n12_ n13_ n14_ n15_ n16_ n17_ n18_ n19_ n20_; clear hb hbox hg; obtain ⟨Ao113, co113, eo113⟩ := Kd.V_slice HO195.out; subst eo113; have hnb114 := NB197_163.out; have hnc114 := NB163_197.out; have hnb115 := NB197_164.out; have hnc115 := NB164_197.out; have hnb116 := NB197_172.out; have hnc116 := NB172_197.out; have hnb117 := NB197_189.out; have hnc117 := NB189_197.out; have hcz118_0 : w112.cell? ⟨gb197, 0, none⟩ = some (.slice none 0 0) := (blk_cell BK197.out 0).trans rfl; have hfz118_0 := blk_frozen BK197.out 0; have hnb119 := NB163_164.out; have hnc119 := NB164_163.out; have hcz120_0 : w112.cell? ⟨gb163, 0, none⟩ = some (.slice (some ad188) l0_0.length c0_0) := (blk_cell BK163.out 0).trans rfl; have hfz120_0 := blk_frozen BK163.out 0) | ((with_reducible refine gate_callee (f := 27) rfl ?_); refine goesL_ (some 113) rfl rfl Try.func27 (by kernel_rfl) rfl #[.agg #[.slice (some ad188) l0_0.length c0_0]] rfl zl ?_; (with_reducible refine (spec_l1Copy.calls _ _ l0_0 t198 _ ?side1 ?side2 A102.out).mono ?_); (case side1 => refine (Kd.V_reads' (e := 55) (base := w.heap.size) (ok := fun k_ => (((P0_0_ k_ ∨ w.heap.size ≤ k_) ∧ (some k_ ≠ (.slice (some ⟨go57, 0, none⟩) x11_57.length co57 : Value).ownBlock ∧ (some k_ ≠ (v177 : Value).ownBlock ∧ (k_ ≠ gb163 ∧ (k_ ≠ gb164 ∧ (k_ ≠ gb172 ∧ k_ ≠ gb189)))))) ∧ k_ ≠ gb197)) (n := l0_0.length) (c := c0_0) ?_).2.2; exact (by (with_reducible repeat (first | apply Kd.V_alloc | apply Kd.V_drewN | apply Kd.V_drew)); exact (Kd.V_mono (Kd.V_far (p := ⟨gb197, 0, none⟩) (Kd.V_mono HO_164000.out (fun k_ hk => (⟨hk, hk.2⟩ : _ ∧ k_ ≠ gb197))) (fun _ hk => hk.2) (.slice Ao113 t193.length co113)) (fun _ h_ => h_.1)))); (case side2 => exact (Kd.V_reads' HO_164000.out).2.1); rintro e w121 ⟨v199, rfl, ho0, hb⟩; refine ⟨_, rfl, ?_⟩; have n0_ := Aside0.mk (Kd.R_below (by (with_reducible repeat (first | apply Kd.R_alloc | apply Kd.R_drewN | apply Kd.R_drew)); exact (Kd.R_mono (Kd.R_far (p := ⟨gb197, 0, none⟩) (Kd.R_types HO_11.out BK197.out (by decide)) (fun _ hk => hk.2) (.slice Ao113 t193.length co113)) (fun _ h_ => h_.1))) hb); have n1_ := Aside0.mk (Kd.R_below (by (with_reducible repeat (first | apply Kd.R_alloc | apply Kd.R_drewN | apply Kd.R_drew)); exact (Kd.R_mono (Kd.R_far (p := ⟨gb197, 0, none⟩) (Kd.R_types HO_12.out BK197.out (by decide)) (fun _ hk => hk.2) (.slice Ao113 t193.length co113)) (fun _ h_ => h_.1))) hb); have n2_ := Aside0.mk (Kd.V_elder' (by (with_reducible repeat (first | apply Kd.V_alloc | apply Kd.V_drewN | apply Kd.V_drew)); exact (Kd.V_mono (Kd.V_far (p := ⟨gb197, 0, none⟩) (Kd.V_mono HO_164000.out (fun k_ hk => (⟨hk, hk.2⟩ : _ ∧ k_ ≠ gb197))) (fun _ hk => hk.2) (.slice Ao113 t193.length co113)) (fun _ h_ => h_.1))) (Kd.R_base ho0) hb); have n3_ := Aside0.mk (Kd.V_elder' (by (with_reducible repeat (first | apply Kd.V_alloc | apply Kd.V_drewN | apply Kd.V_drew)); exact (Kd.V_mono (Kd.V_far (p := ⟨gb197, 0, none⟩) (Kd.V_mono HO_173000.out (fun k_ hk => (⟨hk, hk.2⟩ : _ ∧ k_ ≠ gb197))) (fun _ hk => hk.2) (.slice Ao113 t193.length co113)) (fun _ h_ => h_.1))) (Kd.R_base ho0) hb); have n4_ := Aside0.mk (Kd.V_elder' (by (with_reducible repeat (first | apply Kd.V_alloc | apply Kd.V_drewN | apply Kd.V_drew)); exact (Kd.V_mono (Kd.V_far (p := ⟨gb197, 0, none⟩) (Kd.V_mono HO195.out (fun k_ hk => (⟨hk, hk.2⟩ : _ ∧ k_ ≠ gb197))) (fun _ hk => hk.2) (.slice Ao113 t193.length co113)) (fun _ h_ => h_.1))) (Kd.R_base ho0) hb); have n5_ := Aside0.mk (Kd.R_lower (Kd.R_newB (Kd.R_newM (M := fun k_ => (w.heap.size ≤ k_)) ho0 (below_size (zb HB.out)) (fun k_ h_ => h_)) (g := gb189) (o := .cells #[.int .i64 ((rd_T55 l0_0 x13_2).f0), .int .i64 (rd x11_57 ((rd_T55 l0_0 x13_2).f1)), .int .i64 x190002_83] 55 (0, 0)) (zf BK189.out)) (below_size (zb HB.out))); have n6_ := Aside0.mk (blk_below (g := gb163) (o := .cells #[.slice (some ad188) l0_0.length c0_0] 28 (0, 0)) (zf BK163.out) hb); have n7_ := Aside0.mk (blk_below (g := gb164) (o := .cells #[.slice none 0 0] 28 (0, 0)) (zf BK164.out) hb); have n8_ := Aside0.mk (blk_below (g := gb172) (o := .cells #[.slice Ao110 x173000_2.length co110] 28 (0, 0)) (zf BK172.out) hb); have n9_ := Aside0.mk (blk_below (g := gb189) (o := .cells #[.int .i64 ((rd_T55 l0_0 x13_2).f0), .int .i64 (rd x11_57 ((rd_T55 l0_0 x13_2).f1)), .int .i64 x190002_83] 55 (0, 0)) (zf BK189.out) hb); have n10_ := Aside0.mk (blk_below (g := gb197) (o := .cells #[.slice Ao113 t193.length co113] 28 (0, 0)) (by (with_reducible repeat (first | refine blk_drewN ?_ _ | refine blk_drew ?_ | refine blk_alloc ?_ _)); refine blk_put (cs := #[.slice none 0 0]) ?_ 0 _ rfl; (with_reducible repeat (first | refine blk_drewN ?_ _ | refine blk_drew ?_ | refine blk_alloc ?_ _)); exact BK197.out) hb); have n11_ := Aside0.mk (below_step (zb HB.out) hb); clear HO_11; clear HO_12; clear HO_164000; clear HO_173000; clear HO195; clear BK163; clear BK164; clear BK172; clear BK189; clear BK197; clear HB; have HO_11 := n0_; have HO_12 := n1_; have HO_164000 := n2_; have HO_173000 := n3_; have HO195 := n4_; have HO200 := n5_; have BK163 := n6_; have BK164 := n7_; have BK172 := n8_; have BK189 := n9_; have BK197 := n10_; have HB := n11_; clear n0_ n1_ n2_ n3_ n4_ n5_ n6_ n7_ n8_ n9_ n10_ n11_; (try clear hb); (try clear hb2); (try clear hk); (try clear hi); (try clear ho0); obtain ⟨Ao122, co122, eo122⟩ := Kd.R_slice HO200.out; subst eo122; have hcz123_0 : w121.cell? ⟨gb164, 0, none⟩ = some (.slice none 0 0) := (blk_cell BK164.out 0).trans rfl; have hfz123_0 := blk_frozen BK164.out 0))
                        refine bodyPost_ret (results_ct rfl _ _ gb164 28 #[.slice Ao122 t198.length co122] (0, 0) _ rfl (by (with_reducible repeat (first | refine blk_drewN ?_ _ | refine blk_drew ?_ | refine blk_alloc ?_ _)); refine blk_put (cs := #[.slice none 0 0]) ?_ 0 _ rfl; (with_reducible repeat (first | refine blk_drewN ?_ _ | refine blk_drew ?_ | refine blk_alloc ?_ _)); exact BK164.out) Try.underlying28 rfl (by kernel_rfl)) rfl ?_
                        exact ⟨_, ze, zr (Kd.R_mono (Kd.R_far (p := ⟨gb164, 0, none⟩) (Kd.R_types HO200.out BK164.out (by decide)) (fun _ hk => hk.2) (.slice Ao122 t198.length co122)) (fun _ hk => hk.1.1.1)), zb HB.out⟩
                       ·rw [if_neg c101] at H
                        have c101b0 : decide (t196 < 0) = false := decide_eq_false c101
                        clear c101
                        by_cases c124 : 0 ≤ x13_2
                        ·rw [if_pos c124] at H
                         have c124b0 : decide (0 ≤ x13_2) = true := decide_eq_true c124
                         clear c124
                         by_cases c125 : x13_2 < (x11_57.length : Int)
                         ·rw [if_pos c125] at H
                          have c125b0 : decide (x13_2 < (x11_57.length : Int)) = true := decide_eq_true c125
                          (try (have c125b0h := c125b0; simp only [hl11_57] at c125b0h))
                          clear c125
                          obtain ⟨y201, hy201⟩ : ∃ y_ : List Int, y_ = (x11_57.set (x13_2 : Int).toNat t196) := ⟨_, rfl⟩
                          replace H : (spec_TermSwap.l0 kj83 a1 a2 a3 y201 t176 (wrap64 (x13_2 + 1)) l0_0 t193) = some (r1, r2) := by first | (rw [hy201]; with_reducible exact H) | (have H2_ := (Option.bind_some _ _).symm.trans H; rw [hy201]; with_reducible exact H2_) | (have H2_ := (Option.bind_some _ _).symm.trans H; with_reducible exact H2_) | with_reducible exact H | (rw [hy201]; exact H) | exact H
                          have Ny201 := Aside0.mk hy201
                          clear hy201
                          have H' := Aside0.mk H
                          clear H
                          have hnb127 := NB172_163.out
                          have hnc127 := NB163_172.out
                          have hnb128 := NB172_164.out
                          have hnc128 := NB164_172.out
                          have hnb129 := NB172_189.out
                          have hnc129 := NB189_172.out
                          have hcz130_0 : wc.cell? ⟨gb172, 0, none⟩ = some (u173000) := (blk_cell BK172.out 0).trans rfl
                          have hfz130_0 := blk_frozen BK172.out 0
                          have hnb131 := NB189_163.out
                          have hnc131 := NB163_189.out
                          have hnb132 := NB189_164.out
                          have hnc132 := NB164_189.out
                          have hcz133_0 : wc.cell? ⟨gb189, 0, none⟩ = some (.int .i64 ((rd_T55 l0_0 x13_2).f0)) := (blk_cell BK189.out 0).trans rfl
                          have hcz133_1 : wc.cell? ⟨gb189, 1, none⟩ = some (.int .i64 (rd x11_57 ((rd_T55 l0_0 x13_2).f1))) := (blk_cell BK189.out 1).trans rfl
                          have hcz133_2 : wc.cell? ⟨gb189, 2, none⟩ = some (.int .i64 x190002_83) := (blk_cell BK189.out 2).trans rfl
                          have hfz133_0 := blk_frozen BK189.out 0
                          have hfz133_1 := blk_frozen BK189.out 1
                          have hfz133_2 := blk_frozen BK189.out 2
                          obtain ⟨Ao134, co134, eo134⟩ := Kd.V_slice HO_173000.out
                          subst eo134
                          go_wp2_with (first | ((with_reducible refine gate_callee (f := 30) rfl ?_); refine goesL_ (some 107) rfl rfl Try.func30 (by kernel_rfl) rfl #[.agg #[.slice Ao134 x173000_2.length co134], .agg #[.int .i64 ((rd_T55 l0_0 x13_2).f0), .int .i64 (rd x11_57 ((rd_T55 l0_0 x13_2).f1)), .int .i64 x190002_83]] rfl zl ?_; (with_reducible refine (spec_TermSwap.addV kj83 (fun k_ => ((P0_0_ k_ ∨ w.heap.size ≤ k_) ∧ (some k_ ≠ (.slice (some ⟨go57, 0, none⟩) x11_57.length co57 : Value).ownBlock ∧ (some k_ ≠ (v177 : Value).ownBlock ∧ (k_ ≠ gb163 ∧ (k_ ≠ gb164 ∧ (k_ ≠ gb172 ∧ k_ ≠ gb189))))))) _ _ x173000_2 ((rd_T55 l0_0 x13_2).f0) (rd x11_57 ((rd_T55 l0_0 x13_2).f1)) x190002_83 t193 t196 _ ?side1 A100.out).mono ?_); (case side1 => exact HO_173000.out); rintro e w135 ⟨v194, rfl, ho0, hb⟩; refine ⟨_, rfl, ?_⟩; have n0_ := Aside0.mk (Kd.R_below (zr HO_11.out) hb); have n1_ := Aside0.mk (Kd.R_below (zr HO_12.out) hb); have n2_ := Aside0.mk (Kd.V_below (by (with_reducible repeat (first | apply Kd.V_alloc | apply Kd.V_drewN | apply Kd.V_drew)); exact HO_164000.out) hb); have n3_ := Aside0.mk (Kd.V_below (by (with_reducible repeat (first | apply Kd.V_alloc | apply Kd.V_drewN | apply Kd.V_drew)); exact HO_173000.out) hb); have n4_ := Aside0.mk (Kd.V_lower (Kd.V_mono (ok' := fun k_ => (P0_0_ k_ ∨ w.heap.size ≤ k_) ∧ some k_ ≠ (.slice (some ⟨go57, 0, none⟩) x11_57.length co57 : Value).ownBlock ∧ some k_ ≠ (v177 : Value).ownBlock ∧ k_ ≠ gb163 ∧ k_ ≠ gb164 ∧ k_ ≠ gb172 ∧ k_ ≠ gb189) ho0 (fun k_ hk_ => by first | exact ⟨Or.elim hk_ (fun hs_ => hs_.1) (fun hn_ => (.inr (Nat.le_trans (below_size (zb HB.out)) hn_))), Or.elim hk_ (fun hs_ => hs_.2.1) (fun hn_ => (Kd.fresh' (Kd.R_lt (zr HO_11.out)) k_ hn_)), Or.elim hk_ (fun hs_ => hs_.2.2.1) (fun hn_ => (Kd.fresh' (Kd.R_lt (zr HO_12.out)) k_ hn_)), Or.elim hk_ (fun hs_ => hs_.2.2.2.1) (fun hn_ => (Kd.freshB (zh BK163.out) k_ hn_)), Or.elim hk_ (fun hs_ => hs_.2.2.2.2.1) (fun hn_ => (Kd.freshB (zh BK164.out) k_ hn_)), Or.elim hk_ (fun hs_ => hs_.2.2.2.2.2.1) (fun hn_ => (Kd.freshB (zh BK172.out) k_ hn_)), Or.elim hk_ (fun hs_ => hs_.2.2.2.2.2.2) (fun hn_ => (Kd.freshB (zh BK189.out) k_ hn_))⟩ | (revert hk_; simp only [and_imp]; intros; and_intros <;> assumption))) (below_size (zb HB.out))); have n5_ := Aside0.mk (blk_below (zh BK163.out) hb); have n6_ := Aside0.mk (blk_below (zh BK164.out) hb); have n7_ := Aside0.mk (blk_below (zh BK172.out) hb); have n8_ := Aside0.mk (blk_below (zh BK189.out) hb); have n9_ := Aside0.mk (below_step (zb HB.out) hb); clear HO_11; clear HO_12; clear HO_164000; clear HO_173000; clear BK163; clear BK164; clear BK172; clear BK189; clear HB; have HO_11 := n0_; have HO_12 := n1_; have HO_164000 := n2_; have HO_173000 := n3_; have HO195 := n4_; have BK163 := n5_; have BK164 := n6_; have BK172 := n7_; have BK189 := n8_; have HB := n9_; clear n0_ n1_ n2_ n3_ n4_ n5_ n6_ n7_ n8_ n9_; (try clear hb); (try clear hb2); (try clear hk); (try clear hi); (try clear ho0)) | ((with_reducible refine gate_dst (N := 15) rfl ?_); refine box_event ?hg (N := 15) ?hd (cs := #[.slice none 0 0]) (t := 28) ?hr ?_; (case hd => rfl); (case hg => rfl); (case hr => first | (go_simp; done) | (go_simp; rfl)); intro gb197 hg w136 hbox hb; have n0_ := Aside0.mk (Kd.R_below (zr HO_11.out) hb); have n1_ := Aside0.mk (Kd.R_below (zr HO_12.out) hb); have n2_ := Aside0.mk (Kd.V_below (Kd.V_elderB (by (with_reducible repeat (first | apply Kd.V_alloc | apply Kd.V_drewN | apply Kd.V_drew)); exact HO_164000.out) gb197 (Nat.le_of_eq hg.symm)) hb); have n3_ := Aside0.mk (Kd.V_below (Kd.V_elderB (by (with_reducible repeat (first | apply Kd.V_alloc | apply Kd.V_drewN | apply Kd.V_drew)); exact HO_173000.out) gb197 (Nat.le_of_eq hg.symm)) hb); have n4_ := Aside0.mk (Kd.V_below (Kd.V_elderB (by (with_reducible repeat (first | apply Kd.V_alloc | apply Kd.V_drewN | apply Kd.V_drew)); exact HO195.out) gb197 (Nat.le_of_eq hg.symm)) hb); have n5_ := Aside0.mk (blk_below (zh BK163.out) hb); have n6_ := Aside0.mk (blk_below (zh BK164.out) hb); have n7_ := Aside0.mk (blk_below (zh BK172.out) hb); have n8_ := Aside0.mk (blk_below (zh BK189.out) hb); have n9_ := Aside0.mk (below_step (zb HB.out) hb); have n10_ := Aside0.mk (hbox); have n11_ := Aside0.mk ((by rw [hg]; exact (below_size (zb HB.out)) : w.heap.size ≤ gb197)); have n12_ := Aside0.mk ((by rw [hg]; exact (below_size (zb HB.out)) : w.heap.size ≤ gb197)); have n13_ := Aside0.mk ((by rw [hg]; exact Nat.ne_of_lt (blk_lt (zh BK163.out)) : gb163 ≠ gb197)); have n14_ := Aside0.mk ((by rw [hg]; exact Nat.ne_of_gt (blk_lt (zh BK163.out)) : gb197 ≠ gb163)); have n15_ := Aside0.mk ((by rw [hg]; exact Nat.ne_of_lt (blk_lt (zh BK164.out)) : gb164 ≠ gb197)); have n16_ := Aside0.mk ((by rw [hg]; exact Nat.ne_of_gt (blk_lt (zh BK164.out)) : gb197 ≠ gb164)); have n17_ := Aside0.mk ((by rw [hg]; exact Nat.ne_of_lt (blk_lt (zh BK172.out)) : gb172 ≠ gb197)); have n18_ := Aside0.mk ((by rw [hg]; exact Nat.ne_of_gt (blk_lt (zh BK172.out)) : gb197 ≠ gb172)); have n19_ := Aside0.mk ((by rw [hg]; exact Nat.ne_of_lt (blk_lt (zh BK189.out)) : gb189 ≠ gb197)); have n20_ := Aside0.mk ((by rw [hg]; exact Nat.ne_of_gt (blk_lt (zh BK189.out)) : gb197 ≠ gb189)); clear HO_11; clear HO_12; clear HO_164000; clear HO_173000; clear HO195; clear BK163; clear BK164; clear BK172; clear BK189; clear HB; have HO_11 := n0_; have HO_12 := n1_; have HO_164000 := n2_; have HO_173000 := n3_; have HO195 := n4_; have BK163 := n5_; have BK164 := n6_; have BK172 := n7_; have BK189 := n8_; have HB := n9_; have BK197 := n10_; have GW197 := n11_; have GE197 := n12_; have NB163_197 := n13_; have NB197_163 := n14_; have NB164_197 := n15_; have NB197_164 := n16_; have NB172_197 := n17_; have NB197_172 := n18_; have NB189_197 := n19_; have NB197_189 := n20_; clear n0_ n1_ n2_ n3_ n4_ n5_ n6_ n7_ n8_ n9_ n10_ n11_ n12_ n13_ n14_ n15_ n16_ n17_ n18_ n19_ n20_; clear hb hbox hg; obtain ⟨Ao137, co137, eo137⟩ := Kd.V_slice HO195.out; subst eo137; have hnb138 := NB197_163.out; have hnc138 := NB163_197.out; have hnb139 := NB197_164.out; have hnc139 := NB164_197.out; have hnb140 := NB197_172.out; have hnc140 := NB172_197.out; have hnb141 := NB197_189.out; have hnc141 := NB189_197.out; have hcz142_0 : w136.cell? ⟨gb197, 0, none⟩ = some (.slice none 0 0) := (blk_cell BK197.out 0).trans rfl; have hfz142_0 := blk_frozen BK197.out 0) | ((with_reducible refine gate_store (t := 28) (p := 15) rfl ?_); refine store_event (t := 28) (p := 15) (v := ?vo_w143) (w1 := (w136.setCell ⟨gb197, 0, none⟩ (.slice Ao137 t193.length co137))) ?hg ?ho ?hn ?hr ?_; (case ho => rfl); (case hg => rfl); (case hn => rfl); (case hr => first | (go_simp; done) | (go_simp; rfl)); intro w143 hw; have n0_ : Aside0 (Kd.R (Kd.int .i64) 3 w143 w.heap.size (fun k_ => (w.heap.size ≤ k_)) (.slice (some ⟨go57, 0, none⟩) x11_57.length co57) x11_57) := ⟨(by rw [hw]; exact (by (with_reducible repeat (first | apply Kd.R_alloc | apply Kd.R_drewN | apply Kd.R_drew)); exact Kd.R_mono (Kd.R_far (p := ⟨gb197, 0, none⟩) (Kd.R_types HO_11.out BK197.out (by decide)) (fun _ hk => hk.2) (.slice Ao137 t193.length co137)) (fun _ hk => hk.1)))⟩; have n1_ : Aside0 (Kd.R Kd.bool 4 w143 w.heap.size (fun k_ => (w.heap.size ≤ k_)) v177 t176) := ⟨(by rw [hw]; exact (by (with_reducible repeat (first | apply Kd.R_alloc | apply Kd.R_drewN | apply Kd.R_drew)); exact Kd.R_mono (Kd.R_far (p := ⟨gb197, 0, none⟩) (Kd.R_types HO_12.out BK197.out (by decide)) (fun _ hk => hk.2) (.slice Ao137 t193.length co137)) (fun _ hk => hk.1)))⟩; have n2_ : Aside0 (Kd.V k55 55 w143 w.heap.size (fun k_ => (P0_0_ k_ ∨ w.heap.size ≤ k_) ∧ some k_ ≠ (.slice (some ⟨go57, 0, none⟩) x11_57.length co57 : Value).ownBlock ∧ some k_ ≠ (v177 : Value).ownBlock ∧ k_ ≠ gb163 ∧ k_ ≠ gb164 ∧ k_ ≠ gb172 ∧ k_ ≠ gb189 ∧ k_ ≠ gb197) (.slice (some ad188) l0_0.length c0_0) l0_0) := ⟨(by rw [hw]; exact (by (with_reducible repeat (first | apply Kd.V_alloc | apply Kd.V_drewN | apply Kd.V_drew)); exact Kd.V_mono (Kd.V_far (p := ⟨gb197, 0, none⟩) (Kd.V_mono HO_164000.out (fun k_ hk => (⟨hk, hk.2⟩ : _ ∧ k_ ≠ gb197))) (fun _ hk => hk.2) (.slice Ao137 t193.length co137)) (fun _ hk => ⟨hk.1.1.1, ⟨hk.1.1.2.1, ⟨hk.1.1.2.2.1, ⟨hk.1.1.2.2.2.1, ⟨hk.1.1.2.2.2.2.1, ⟨hk.1.1.2.2.2.2.2.1, ⟨hk.1.1.2.2.2.2.2.2, hk.1.2⟩⟩⟩⟩⟩⟩⟩)))⟩; have n3_ : Aside0 (Kd.V k55 55 w143 w.heap.size (fun k_ => (P0_0_ k_ ∨ w.heap.size ≤ k_) ∧ some k_ ≠ (.slice (some ⟨go57, 0, none⟩) x11_57.length co57 : Value).ownBlock ∧ some k_ ≠ (v177 : Value).ownBlock ∧ k_ ≠ gb163 ∧ k_ ≠ gb164 ∧ k_ ≠ gb172 ∧ k_ ≠ gb189 ∧ k_ ≠ gb197) (.slice Ao134 x173000_2.length co134) x173000_2) := ⟨(by rw [hw]; exact (by (with_reducible repeat (first | apply Kd.V_alloc | apply Kd.V_drewN | apply Kd.V_drew)); exact Kd.V_mono (Kd.V_far (p := ⟨gb197, 0, none⟩) (Kd.V_mono HO_173000.out (fun k_ hk => (⟨hk, hk.2⟩ : _ ∧ k_ ≠ gb197))) (fun _ hk => hk.2) (.slice Ao137 t193.length co137)) (fun _ hk => ⟨hk.1.1.1, ⟨hk.1.1.2.1, ⟨hk.1.1.2.2.1, ⟨hk.1.1.2.2.2.1, ⟨hk.1.1.2.2.2.2.1, ⟨hk.1.1.2.2.2.2.2.1, ⟨hk.1.1.2.2.2.2.2.2, hk.1.2⟩⟩⟩⟩⟩⟩⟩)))⟩; have n4_ : Aside0 (Kd.V k55 55 w143 w.heap.size (fun k_ => (P0_0_ k_ ∨ w.heap.size ≤ k_) ∧ some k_ ≠ (.slice (some ⟨go57, 0, none⟩) x11_57.length co57 : Value).ownBlock ∧ some k_ ≠ (v177 : Value).ownBlock ∧ k_ ≠ gb163 ∧ k_ ≠ gb164 ∧ k_ ≠ gb172 ∧ k_ ≠ gb189 ∧ k_ ≠ gb197) (.slice Ao137 t193.length co137) t193) := ⟨(by rw [hw]; exact (by (with_reducible repeat (first | apply Kd.V_alloc | apply Kd.V_drewN | apply Kd.V_drew)); exact Kd.V_mono (Kd.V_far (p := ⟨gb197, 0, none⟩) (Kd.V_mono HO195.out (fun k_ hk => (⟨hk, hk.2⟩ : _ ∧ k_ ≠ gb197))) (fun _ hk => hk.2) (.slice Ao137 t193.length co137)) (fun _ hk => ⟨hk.1.1.1, ⟨hk.1.1.2.1, ⟨hk.1.1.2.2.1, ⟨hk.1.1.2.2.2.1, ⟨hk.1.1.2.2.2.2.1, ⟨hk.1.1.2.2.2.2.2.1, ⟨hk.1.1.2.2.2.2.2.2, hk.1.2⟩⟩⟩⟩⟩⟩⟩)))⟩; have n5_ : Aside0 (w143.heap[gb163]? = some (.cells #[.slice (some ad188) l0_0.length c0_0] 28 (0, 0))) := ⟨(by rw [hw]; exact (zf BK163.out))⟩; have n6_ : Aside0 (w143.heap[gb164]? = some (.cells #[.slice none 0 0] 28 (0, 0))) := ⟨(by rw [hw]; exact (zf BK164.out))⟩; have n7_ : Aside0 (w143.heap[gb172]? = some (.cells #[.slice Ao134 x173000_2.length co134] 28 (0, 0))) := ⟨(by rw [hw]; exact (zf BK172.out))⟩; have n8_ : Aside0 (w143.heap[gb189]? = some (.cells #[.int .i64 ((rd_T55 l0_0 x13_2).f0), .int .i64 (rd x11_57 ((rd_T55 l0_0 x13_2).f1)), .int .i64 x190002_83] 55 (0, 0))) := ⟨(by rw [hw]; exact (zf BK189.out))⟩; have n9_ : Aside0 (w143.heap[gb197]? = some (.cells #[.slice Ao137 t193.length co137] 28 (0, 0))) := ⟨(by rw [hw]; exact (by (with_reducible repeat (first | refine blk_drewN ?_ _ | refine blk_drew ?_ | refine blk_alloc ?_ _)); refine blk_put (cs := #[.slice none 0 0]) ?_ 0 _ rfl; (with_reducible repeat (first | refine blk_drewN ?_ _ | refine blk_drew ?_ | refine blk_alloc ?_ _)); exact BK197.out))⟩; have n10_ : Aside0 (Below w.heap.size w w143) := ⟨(by rw [hw]; exact (zb HB.out))⟩; clear hw; clear HO_11; clear HO_12; clear HO_164000; clear HO_173000; clear HO195; clear BK163; clear BK164; clear BK172; clear BK189; clear BK197; clear HB; have HO_11 := n0_; have HO_12 := n1_; have HO_164000 := n2_; have HO_173000 := n3_; have HO195 := n4_; have BK163 := n5_; have BK164 := n6_; have BK172 := n7_; have BK189 := n8_; have BK197 := n9_; have HB := n10_; clear n0_ n1_ n2_ n3_ n4_ n5_ n6_ n7_ n8_ n9_ n10_; have hcz144_0 : w143.cell? ⟨gb197, 0, none⟩ = some (.slice Ao137 t193.length co137) := (blk_cell BK197.out 0).trans rfl; have hfz144_0 := blk_frozen BK197.out 0; have hcz145_0 : w143.cell? ⟨gb172, 0, none⟩ = some (.slice Ao134 x173000_2.length co134) := (blk_cell BK172.out 0).trans rfl; have hfz145_0 := blk_frozen BK172.out 0) | ((with_reducible refine gate_store (t := 28) (p := 10) rfl ?_); refine store_event (t := 28) (p := 10) (v := ?vo_w146) (w1 := (w143.setCell ⟨gb172, 0, none⟩ (.slice Ao137 t193.length co137))) ?hg ?ho ?hn ?hr ?_; (case ho => rfl); (case hg => rfl); (case hn => rfl); (case hr => first | (go_simp; done) | (go_simp; rfl)); intro w146 hw; have n0_ : Aside0 (Kd.R (Kd.int .i64) 3 w146 w.heap.size (fun k_ => (w.heap.size ≤ k_)) (.slice (some ⟨go57, 0, none⟩) x11_57.length co57) x11_57) := ⟨(by rw [hw]; exact (by (with_reducible repeat (first | apply Kd.R_alloc | apply Kd.R_drewN | apply Kd.R_drew)); exact Kd.R_mono (Kd.R_far (p := ⟨gb172, 0, none⟩) (Kd.R_types HO_11.out BK172.out (by decide)) (fun _ hk => hk.2) (.slice Ao137 t193.length co137)) (fun _ hk => hk.1)))⟩; have n1_ : Aside0 (Kd.R Kd.bool 4 w146 w.heap.size (fun k_ => (w.heap.size ≤ k_)) v177 t176) := ⟨(by rw [hw]; exact (by (with_reducible repeat (first | apply Kd.R_alloc | apply Kd.R_drewN | apply Kd.R_drew)); exact Kd.R_mono (Kd.R_far (p := ⟨gb172, 0, none⟩) (Kd.R_types HO_12.out BK172.out (by decide)) (fun _ hk => hk.2) (.slice Ao137 t193.length co137)) (fun _ hk => hk.1)))⟩; have n2_ : Aside0 (Kd.V k55 55 w146 w.heap.size (fun k_ => (P0_0_ k_ ∨ w.heap.size ≤ k_) ∧ some k_ ≠ (.slice (some ⟨go57, 0, none⟩) x11_57.length co57 : Value).ownBlock ∧ some k_ ≠ (v177 : Value).ownBlock ∧ k_ ≠ gb163 ∧ k_ ≠ gb164 ∧ k_ ≠ gb172 ∧ k_ ≠ gb189 ∧ k_ ≠ gb197) (.slice (some ad188) l0_0.length c0_0) l0_0) := ⟨(by rw [hw]; exact (by (with_reducible repeat (first | apply Kd.V_alloc | apply Kd.V_drewN | apply Kd.V_drew)); exact Kd.V_mono (Kd.V_far (p := ⟨gb172, 0, none⟩) (Kd.V_mono HO_164000.out (fun k_ hk => (⟨hk, hk.2.2.2.2.2.1⟩ : _ ∧ k_ ≠ gb172))) (fun _ hk => hk.2) (.slice Ao137 t193.length co137)) (fun _ hk => ⟨hk.1.1, ⟨hk.1.2.1, ⟨hk.1.2.2.1, ⟨hk.1.2.2.2.1, ⟨hk.1.2.2.2.2.1, ⟨hk.1.2.2.2.2.2.1, ⟨hk.1.2.2.2.2.2.2.1, hk.1.2.2.2.2.2.2.2⟩⟩⟩⟩⟩⟩⟩)))⟩; have n3_ : Aside0 (Kd.V k55 55 w146 w.heap.size (fun k_ => (P0_0_ k_ ∨ w.heap.size ≤ k_) ∧ some k_ ≠ (.slice (some ⟨go57, 0, none⟩) x11_57.length co57 : Value).ownBlock ∧ some k_ ≠ (v177 : Value).ownBlock ∧ k_ ≠ gb163 ∧ k_ ≠ gb164 ∧ k_ ≠ gb172 ∧ k_ ≠ gb189 ∧ k_ ≠ gb197) (.slice Ao134 x173000_2.length co134) x173000_2) := ⟨(by rw [hw]; exact (by (with_reducible repeat (first | apply Kd.V_alloc | apply Kd.V_drewN | apply Kd.V_drew)); exact Kd.V_mono (Kd.V_far (p := ⟨gb172, 0, none⟩) (Kd.V_mono HO_173000.out (fun k_ hk => (⟨hk, hk.2.2.2.2.2.1⟩ : _ ∧ k_ ≠ gb172))) (fun _ hk => hk.2) (.slice Ao137 t193.length co137)) (fun _ hk => ⟨hk.1.1, ⟨hk.1.2.1, ⟨hk.1.2.2.1, ⟨hk.1.2.2.2.1, ⟨hk.1.2.2.2.2.1, ⟨hk.1.2.2.2.2.2.1, ⟨hk.1.2.2.2.2.2.2.1, hk.1.2.2.2.2.2.2.2⟩⟩⟩⟩⟩⟩⟩)))⟩; have n4_ : Aside0 (Kd.V k55 55 w146 w.heap.size (fun k_ => (P0_0_ k_ ∨ w.heap.size ≤ k_) ∧ some k_ ≠ (.slice (some ⟨go57, 0, none⟩) x11_57.length co57 : Value).ownBlock ∧ some k_ ≠ (v177 : Value).ownBlock ∧ k_ ≠ gb163 ∧ k_ ≠ gb164 ∧ k_ ≠ gb172 ∧ k_ ≠ gb189 ∧ k_ ≠ gb197) (.slice Ao137 t193.length co137) t193) := ⟨(by rw [hw]; exact (by (with_reducible repeat (first | apply Kd.V_alloc | apply Kd.V_drewN | apply Kd.V_drew)); exact Kd.V_mono (Kd.V_far (p := ⟨gb172, 0, none⟩) (Kd.V_mono HO195.out (fun k_ hk => (⟨hk, hk.2.2.2.2.2.1⟩ : _ ∧ k_ ≠ gb172))) (fun _ hk => hk.2) (.slice Ao137 t193.length co137)) (fun _ hk => ⟨hk.1.1, ⟨hk.1.2.1, ⟨hk.1.2.2.1, ⟨hk.1.2.2.2.1, ⟨hk.1.2.2.2.2.1, ⟨hk.1.2.2.2.2.2.1, ⟨hk.1.2.2.2.2.2.2.1, hk.1.2.2.2.2.2.2.2⟩⟩⟩⟩⟩⟩⟩)))⟩; have n5_ : Aside0 (w146.heap[gb163]? = some (.cells #[.slice (some ad188) l0_0.length c0_0] 28 (0, 0))) := ⟨(by rw [hw]; exact (zf BK163.out))⟩; have n6_ : Aside0 (w146.heap[gb164]? = some (.cells #[.slice none 0 0] 28 (0, 0))) := ⟨(by rw [hw]; exact (zf BK164.out))⟩; have n7_ : Aside0 (w146.heap[gb172]? = some (.cells #[.slice Ao137 t193.length co137] 28 (0, 0))) := ⟨(by rw [hw]; exact (by (with_reducible repeat (first | refine blk_drewN ?_ _ | refine blk_drew ?_ | refine blk_alloc ?_ _)); refine blk_put (cs := #[.slice Ao134 x173000_2.length co134]) ?_ 0 _ rfl; (with_reducible repeat (first | refine blk_drewN ?_ _ | refine blk_drew ?_ | refine blk_alloc ?_ _)); exact BK172.out))⟩; have n8_ : Aside0 (w146.heap[gb189]? = some (.cells #[.int .i64 ((rd_T55 l0_0 x13_2).f0), .int .i64 (rd x11_57 ((rd_T55 l0_0 x13_2).f1)), .int .i64 x190002_83] 55 (0, 0))) := ⟨(by rw [hw]; exact (zf BK189.out))⟩; have n9_ : Aside0 (w146.heap[gb197]? = some (.cells #[.slice Ao137 t193.length co137] 28 (0, 0))) := ⟨(by rw [hw]; exact (zf BK197.out))⟩; have n10_ : Aside0 (Below w.heap.size w w146) := ⟨(by rw [hw]; exact (zb HB.out))⟩; clear hw; clear HO_11; clear HO_12; clear HO_164000; clear HO_173000; clear HO195; clear BK163; clear BK164; clear BK172; clear BK189; clear BK197; clear HB; have HO_11 := n0_; have HO_12 := n1_; have HO_164000 := n2_; have HO_173000 := n3_; have HO195 := n4_; have BK163 := n5_; have BK164 := n6_; have BK172 := n7_; have BK189 := n8_; have BK197 := n9_; have HB := n10_; clear n0_ n1_ n2_ n3_ n4_ n5_ n6_ n7_ n8_ n9_ n10_; have p126 : 0 ≤ (x13_2 : Int) := of_decide_eq_true (by first | (with_reducible assumption) | assumption); have q126 : (x13_2 : Int) < ((x11_57.length : Int) : Int) := of_decide_eq_true (by first | (with_reducible assumption) | assumption); obtain ⟨hx126_0, hf126_0⟩ := Kd.R_celln 0 HO_11.out (x13_2 : Int) p126 q126; replace p126 := eq_true p126; replace q126 := eq_true q126; obtain ⟨hy147_, hz147_⟩ := Kd.R_celln 0 HO_11.out (x13_2 : Int) (of_decide_eq_true (by first | (with_reducible assumption) | assumption)) (of_decide_eq_true (by first | (with_reducible assumption) | assumption)); have HP147 := Kd.R_putg HO_11.out (x13_2 : Int) t196) | ((with_reducible refine gate_store (t := 3) (p := 118) rfl ?_); refine store_event (t := 3) (p := 118) (v := ?vo_w148) (w1 := (w146.setCell ⟨go57, (x13_2 : Int).toNat, none⟩ (.int .i64 t196))) ?hg ?ho ?hn ?hr ?_; (case ho => rfl); (case hg => rfl); (case hn => rfl); (case hr => first | (go_simp; done) | (go_simp; rfl)); intro w148 hw; have hg : w146.grownBy w148 (some go57) := (by rw [hw]; exact HP147.2); have hp_ : Kd.R (Kd.int .i64) 3 w148 w.heap.size (fun k_ => (w.heap.size ≤ k_)) (.slice (some ⟨go57, 0, none⟩) x11_57.length co57) y201 := (by rw [hw, Ny201.out]; exact HP147.1); clear HP147; have n0_ := Aside0.mk (hp_); have n1_ := Aside0.mk (Kd.R_over' (v := (.slice (some ⟨go57, 0, none⟩) x11_57.length co57)) (zr HO_12.out) (Kd.R_typed HO_11.out) (by decide) hg); have n2_ := Aside0.mk (Kd.V_afterv (v := (.slice (some ⟨go57, 0, none⟩) x11_57.length co57)) (v1 := (.slice (some ⟨go57, 0, none⟩) x11_57.length co57)) (ok := (fun k_ => (P0_0_ k_ ∨ w.heap.size ≤ k_) ∧ some k_ ≠ (v177 : Value).ownBlock ∧ k_ ≠ gb163 ∧ k_ ≠ gb164 ∧ k_ ≠ gb172 ∧ k_ ≠ gb189 ∧ k_ ≠ gb197)) (by (with_reducible repeat (first | apply Kd.V_alloc | apply Kd.V_drewN | apply Kd.V_drew)); exact Kd.V_mono HO_164000.out (fun _ hk => ⟨⟨hk.1, ⟨hk.2.2.1, ⟨hk.2.2.2.1, ⟨hk.2.2.2.2.1, ⟨hk.2.2.2.2.2.1, ⟨hk.2.2.2.2.2.2.1, hk.2.2.2.2.2.2.2⟩⟩⟩⟩⟩⟩, hk.2.1⟩)) hg (.inl rfl)); have n3_ := Aside0.mk (Kd.V_afterv (v := (.slice (some ⟨go57, 0, none⟩) x11_57.length co57)) (v1 := (.slice (some ⟨go57, 0, none⟩) x11_57.length co57)) (ok := (fun k_ => (P0_0_ k_ ∨ w.heap.size ≤ k_) ∧ some k_ ≠ (v177 : Value).ownBlock ∧ k_ ≠ gb163 ∧ k_ ≠ gb164 ∧ k_ ≠ gb172 ∧ k_ ≠ gb189 ∧ k_ ≠ gb197)) (by (with_reducible repeat (first | apply Kd.V_alloc | apply Kd.V_drewN | apply Kd.V_drew)); exact Kd.V_mono HO_173000.out (fun _ hk => ⟨⟨hk.1, ⟨hk.2.2.1, ⟨hk.2.2.2.1, ⟨hk.2.2.2.2.1, ⟨hk.2.2.2.2.2.1, ⟨hk.2.2.2.2.2.2.1, hk.2.2.2.2.2.2.2⟩⟩⟩⟩⟩⟩, hk.2.1⟩)) hg (.inl rfl)); have n4_ := Aside0.mk (blk_grown (zh BK163.out) hg (Kd.R_ne HO_11.out BK163.out (by decide))); have n5_ := Aside0.mk (blk_grown (zh BK164.out) hg (Kd.R_ne HO_11.out BK164.out (by decide))); have n6_ := Aside0.mk (blk_grown (zh BK172.out) hg (Kd.R_ne HO_11.out BK172.out (by decide))); have n7_ := Aside0.mk (blk_grown (zh BK189.out) hg (Kd.R_ne HO_11.out BK189.out (by decide))); have n8_ := Aside0.mk (Kd.V_afterv (v := (.slice (some ⟨go57, 0, none⟩) x11_57.length co57)) (v1 := (.slice (some ⟨go57, 0, none⟩) x11_57.length co57)) (ok := (fun k_ => (P0_0_ k_ ∨ w.heap.size ≤ k_) ∧ some k_ ≠ (v177 : Value).ownBlock ∧ k_ ≠ gb163 ∧ k_ ≠ gb164 ∧ k_ ≠ gb172 ∧ k_ ≠ gb189 ∧ k_ ≠ gb197)) (by (with_reducible repeat (first | apply Kd.V_alloc | apply Kd.V_drewN | apply Kd.V_drew)); exact Kd.V_mono HO195.out (fun _ hk => ⟨⟨hk.1, ⟨hk.2.2.1, ⟨hk.2.2.2.1, ⟨hk.2.2.2.2.1, ⟨hk.2.2.2.2.2.1, ⟨hk.2.2.2.2.2.2.1, hk.2.2.2.2.2.2.2⟩⟩⟩⟩⟩⟩, hk.2.1⟩)) hg (.inl rfl)); have n9_ := Aside0.mk (blk_grown (zh BK197.out) hg (Kd.R_ne HO_11.out BK197.out (by decide))); have n10_ := Aside0.mk ((by rw [hw]; exact below_set (HB.out) GB57.out : Below w.heap.size w w148)); clear HO_11; clear HO_12; clear HO_164000; clear HO_173000; clear BK163; clear BK164; clear BK172; clear BK189; clear HO195; clear BK197; clear HB; have HO_11 := n0_; have HO_12 := n1_; have HO_164000 := n2_; have HO_173000 := n3_; have BK163 := n4_; have BK164 := n5_; have BK172 := n6_; have BK189 := n7_; have HO195 := n8_; have BK197 := n9_; have HB := n10_; clear n0_ n1_ n2_ n3_ n4_ n5_ n6_ n7_ n8_ n9_ n10_; clear hg hw hp_))
                          (try simp only [← hl11_57])
                          go_roundg kj83
                          case measure => have := HJ6.out; have := HK2.out; have := HJ57.out; have := HJ64.out; have := HJ83.out; omega
                          case rel => exact ⟨(y201), (wrap64 (x13_2 + 1)), (t193), (.slice Ao137 t193.length co137), (by first | rfl | (simp; done) | (simp [*]; done)), H', ⟨by have := HJ6.out; have := HK2.out; have := HJ57.out; have := HJ64.out; have := HJ83.out; omega⟩, ⟨by (try simp only [hl11_57]); (with_reducible repeat (first | apply Kd.R_alloc | apply Kd.R_drewN | apply Kd.R_drew)); exact HO_11.out⟩, ⟨by (try simp only [hl11_57]); (with_reducible repeat (first | apply Kd.R_alloc | apply Kd.R_drewN | apply Kd.R_drew)); exact HO_12.out⟩, ⟨by (try simp only [hl11_57]); (with_reducible repeat (first | apply Kd.V_alloc | apply Kd.V_drewN | apply Kd.V_drew)); exact Kd.V_mono HO_164000.out (fun _ hk => ⟨hk.1.1, ⟨hk.2, ⟨hk.1.2.1, ⟨hk.1.2.2.1, ⟨hk.1.2.2.2.1, hk.1.2.2.2.2.1⟩⟩⟩⟩⟩)⟩, ⟨by (try simp only [hl11_57]); (with_reducible repeat (first | apply Kd.V_alloc | apply Kd.V_drewN | apply Kd.V_drew)); exact Kd.V_mono HO195.out (fun _ hk => ⟨hk.1.1, ⟨hk.2, ⟨hk.1.2.1, ⟨hk.1.2.2.1, ⟨hk.1.2.2.2.1, hk.1.2.2.2.2.1⟩⟩⟩⟩⟩)⟩, ⟨by (try simp only [hl11_57]); (with_reducible repeat (first | refine blk_drewN ?_ _ | refine blk_drew ?_ | refine blk_alloc ?_ _)); exact BK163.out⟩, ⟨by (try simp only [hl11_57]); (with_reducible repeat (first | refine blk_drewN ?_ _ | refine blk_drew ?_ | refine blk_alloc ?_ _)); exact BK164.out⟩, ⟨by (try simp only [hl11_57]); (with_reducible repeat (first | refine blk_drewN ?_ _ | refine blk_drew ?_ | refine blk_alloc ?_ _)); exact BK172.out⟩, ⟨zb HB.out⟩⟩
                         ·rw [if_neg c125] at H
                          exact absurd H (by simp)
                        ·rw [if_neg c124] at H
                         exact absurd H (by simp)
                    ·rw [if_neg c82] at H
                     exact absurd H (by simp)
                   ·rw [if_neg c81] at H
                    exact absurd H (by simp)
                  ·rw [if_neg c80] at H
                   exact absurd H (by simp)
                 ·rw [if_neg c79] at H
                  exact absurd H (by simp)
           ·rw [if_neg c56] at H
            exact absurd H (by simp)
          ·rw [if_neg c55] at H
           exact absurd H (by simp)
         ·rw [if_neg c54] at H
          have c54b0 : decide (x13_2 ≤ a1) = false := decide_eq_false c54
          clear c54
          replace H := Option.bind_eq_some_iff.mp H
          obtain ⟨t179, A1490, H⟩ := H
          replace H : (if 0 ≤ a1 then (if a1 < (x11_2.length : Int) then (some (t179, rd x11_2 a1)) else (none)) else (none)) = some (r1, r2) := H
          have A149 := Aside0.mk A1490
          clear A1490
          by_cases c150 : 0 ≤ a1
          ·rw [if_pos c150] at H
           have c150b0 : decide (0 ≤ a1) = true := decide_eq_true c150
           clear c150
           by_cases c151 : a1 < (x11_2.length : Int)
           ·rw [if_pos c151] at H
            have c151b0 : decide (a1 < (x11_2.length : Int)) = true := decide_eq_true c151
            clear c151
            simp only [Option.some.injEq, Prod.mk.injEq] at H
            obtain ⟨rfl, rfl⟩ := H
            try go_wp2
            have n0_ := Aside0.mk (Kd.R_drew HO_11.out)
            have n1_ := Aside0.mk (Kd.R_drew HO_12.out)
            have n2_ := Aside0.mk (Kd.V_drew HO_164000.out)
            have n3_ := Aside0.mk (Kd.V_drew HO_173000.out)
            have n4_ := Aside0.mk (blk_drew BK163.out)
            have n5_ := Aside0.mk (blk_drew BK164.out)
            have n6_ := Aside0.mk (blk_drew BK172.out)
            have n7_ := Aside0.mk (below_drew1 HB.out)
            clear HO_11
            clear HO_12
            clear HO_164000
            clear HO_173000
            clear BK163
            clear BK164
            clear BK172
            clear HB
            have HO_11 := n0_
            have HO_12 := n1_
            have HO_164000 := n2_
            have HO_173000 := n3_
            have BK163 := n4_
            have BK164 := n5_
            have BK172 := n6_
            have HB := n7_
            clear n0_ n1_ n2_ n3_ n4_ n5_ n6_ n7_
            obtain ⟨Ao153, co153, eo153⟩ := Kd.R_slice HO_11.out
            (first | subst eo153 | (injection eo153 with f1_ f2_ f3_; have f4_ := f1_.symm; have f5_ := f3_.symm; clear f1_ f2_ f3_; subst f4_; subst f5_))
            have p182 : 0 ≤ (a1 : Int) := of_decide_eq_true (by first | (with_reducible assumption) | assumption)
            have q182 : a1 < (x11_2.length : Int) := of_decide_eq_true (by first | (with_reducible assumption) | assumption)
            obtain ⟨ad182, e182, hx182_0⟩ := Kd.at_int (Kd.R_reads' HO_11.out).2.2 a1 p182 q182
            cases e182
            replace p182 := eq_true p182
            replace q182 := eq_true q182
            obtain ⟨Ao154, co154, eo154⟩ := Kd.V_slice HO_173000.out
            (first | subst eo154 | (injection eo154 with f1_ f2_ f3_; have f4_ := f1_.symm; have f5_ := f3_.symm; clear f1_ f2_ f3_; subst f4_; subst f5_))
            refine start_ (n := 8) (S := fun w' => w'.cell? ⟨gb172, 0, none⟩ = some (.slice Ao154 x173000_2.length co154) ∧ w'.cell? (ad182.add (a1).toNat) = some (.int .i64 (rd x11_2 a1))) (ds := []) #[false, false, false, false, false, false, false, false] (by kernel_rfl) rfl rfl ⟨(blk_cell BK172.out 0).trans rfl, hx182_0⟩ (fun hHeld => ?_); refine with_tabW spec_TermSwap.tab24 spec_TermSwap.bits24 (fun HT_ HW_ => ?_)
            generalize wr.drew = w152 at HO_11 HO_12 HO_164000 HO_173000 BK163 BK164 BK172 HB hx182_0 hHeld ⊢
            refine pure_ (i := 2) (N := some 121) (v := ?_) (a' := ?_) #[false, false, true, false, false, false, false, false] rfl rfl (any_of HT_.out (by kernel_rfl)) (fun _ _ _ h => h) (Or.inl ⟨by rfl, ?_⟩) ?_ ?_
            rotate_left
            ·intro w'
             go_simp
             with_reducible rfl
            rotate_left
            ·simp only [Act.put, List.setIfInBounds_toArray, List.set_cons_zero, List.set_cons_succ, i64_w, i32_w]
             rfl
            refine pure_ (i := 3) (N := some 122) (v := ?_) (a' := ?_) #[false, false, true, true, false, false, false, false] rfl rfl (any_of HT_.out (by kernel_rfl)) (fun _ _ _ h => h) (Or.inl ⟨by rfl, ?_⟩) ?_ ?_
            rotate_left
            ·intro w'
             go_simp
             with_reducible rfl
            rotate_left
            ·simp only [Act.put, List.setIfInBounds_toArray, List.set_cons_zero, List.set_cons_succ, i64_w, i32_w]
             rfl
            refine pure_ (i := 4) (N := some 123) (v := ?_) (a' := ?_) #[false, false, true, true, true, false, false, false] rfl rfl (any_of HT_.out (by kernel_rfl)) (fun _ _ _ h => h) (Or.inl ⟨by rfl, ?_⟩) ?_ ?_
            rotate_left
            ·intro w'
             go_simp
             with_reducible rfl
            rotate_left
            ·simp only [Act.put, List.setIfInBounds_toArray, List.set_cons_zero, List.set_cons_succ, i64_w, i32_w]
             rfl
            refine take_ (i := 0) (N := some 119) (v := ?_) (a' := ?_) #[true, false, true, true, true, false, false, false] rfl rfl (take_ofW HT_.out HW_.out (by kernel_rfl)) (fun _ _ _ h => h) (Or.inl ⟨by rfl, ?_⟩) hHeld ?_ ?_
            rotate_left
            ·rintro w' ⟨s0, s1⟩
             go_simp
             with_reducible rfl
            rotate_left
            ·simp only [Act.put, List.setIfInBounds_toArray, List.set_cons_zero, List.set_cons_succ, i64_w, i32_w]
             rfl
            refine take_ (i := 5) (N := some 124) (v := ?_) (a' := ?_) #[true, false, true, true, true, true, false, false] rfl rfl (take_ofW HT_.out HW_.out (by kernel_rfl)) (fun _ _ _ h => h) (Or.inl ⟨by rfl, ?_⟩) hHeld ?_ ?_
            rotate_left
            ·rintro w' ⟨s0, s1⟩
             go_simp
             with_reducible rfl
            rotate_left
            ·simp only [Act.put, List.setIfInBounds_toArray, List.set_cons_zero, List.set_cons_succ, i64_w, i32_w]
             rfl
            refine one_ (i := 1) (N := some 120) #[true, true, true, true, true, true, false, false] rfl rfl (one_of HT_.out (by kernel_rfl)) (by decide) (fun K hK => ?_)
            refine goes_ Try.func27 (by kernel_rfl) rfl #[.agg #[.slice Ao154 x173000_2.length co154]] (by rfl) rfl rfl zl ?_
            with_reducible refine (spec_l1Copy.calls _ _ x173000_2 t179 _ ?side1 ?side2 A149.out).mono ?_
            (case side1 => exact zc (Kd.V_reads' HO_173000.out).2.2)
            (case side2 => exact (Kd.V_reads' HO_173000.out).2.1)
            rintro e w155 ⟨v180, rfl, ho0, hb⟩
            have HS1_ := (hb.cell (World.block_lt_of_cell? _ _ (hHeld.2))).trans (hHeld.2)
            refine ⟨_, rfl, ?_⟩
            have n0_ := Aside0.mk (Kd.R_below (zr HO_11.out) hb)
            have n1_ := Aside0.mk (Kd.R_below (zr HO_12.out) hb)
            have n2_ := Aside0.mk (Kd.V_elder' (by (with_reducible repeat (first | apply Kd.V_alloc | apply Kd.V_drewN | apply Kd.V_drew)); exact HO_164000.out) (Kd.R_base ho0) hb)
            have n3_ := Aside0.mk (Kd.V_elder' (by (with_reducible repeat (first | apply Kd.V_alloc | apply Kd.V_drewN | apply Kd.V_drew)); exact HO_173000.out) (Kd.R_base ho0) hb)
            have n4_ := Aside0.mk (Kd.R_lower (Kd.R_newM (M := fun k_ => (w.heap.size ≤ k_)) ho0 (below_size (zb HB.out)) (fun k_ h_ => h_)) (below_size (zb HB.out)))
            have n5_ := Aside0.mk (blk_below (zh BK163.out) hb)
            have n6_ := Aside0.mk (blk_below (zh BK164.out) hb)
            have n7_ := Aside0.mk (blk_below (zh BK172.out) hb)
            have n8_ := Aside0.mk (below_step (zb HB.out) hb)
            clear HO_11
            clear HO_12
            clear HO_164000
            clear HO_173000
            clear BK163
            clear BK164
            clear BK172
            clear HB
            have HO_11 := n0_
            have HO_12 := n1_
            have HO_164000 := n2_
            have HO_173000 := n3_
            have HO181 := n4_
            have BK163 := n5_
            have BK164 := n6_
            have BK172 := n7_
            have HB := n8_
            clear n0_ n1_ n2_ n3_ n4_ n5_ n6_ n7_ n8_
            (try clear hb)
            (try clear hb2)
            (try clear hk)
            (try clear hi)
            (try clear ho0)
            obtain ⟨Ao156, co156, eo156⟩ := Kd.R_slice HO181.out
            (first | subst eo156 | (injection eo156 with f1_ f2_ f3_; have f4_ := f1_.symm; have f5_ := f3_.symm; clear f1_ f2_ f3_; subst f4_; subst f5_))
            refine hK.out _ _ ⟨(blk_cell BK172.out 0).trans rfl, HS1_⟩ (fun hHeld => ?_)
            clear hK K
            refine norm_ (a' := ?_) ?_ ?_
            rotate_left
            ·show Act.put _ (some 120) _ = _
             simp only [Act.put, List.setIfInBounds_toArray, List.set_cons_zero, List.set_cons_succ, i64_w, i32_w]
             rfl
            refine one_ (i := 6) (N := none) #[true, true, true, true, true, true, true, false] rfl rfl (one_of HT_.out (by kernel_rfl)) (by decide) (fun K hK => ?_)
            have hs157 : w155.cell? ⟨gb164, 0, none⟩ = some (.slice none 0 0) := (blk_cell BK164.out 0).trans rfl
            have hfs157 := blk_frozen BK164.out 0
            have hns157_0 := NB163_164.out
            have hns157_2 := NB172_164.out
            have hms157_0 := NB164_163.out
            have hms157_2 := NB164_172.out
            refine skip_ (w1 := ?_) (by rfl) rfl ?_ ?_
            rotate_left
            ·go_simp
             rfl
            refine hK.out _ _ ⟨((cell_far (p := ⟨gb164, _, none⟩) NB172_164.out _).trans (hHeld.1)), ((cell_far (p := ⟨gb164, _, none⟩) (by first | exact Kd.own_blk (Kd.R_ne HO_11.out BK164.out (by decide)) | (rw [add_block]; exact Kd.own_blk (Kd.R_ne HO_11.out BK164.out (by decide))) | (show (Addr.add _ _).block ≠ _; rw [add_block]; exact Kd.own_blk (Kd.R_ne HO_11.out BK164.out (by decide))) | (dsimp only; exact Kd.own_blk (Kd.R_ne HO_11.out BK164.out (by decide)))) _).trans (hHeld.2))⟩ (fun hHeld => ?_)
            clear hK K
            refine pure_ (i := 7) (N := some 9) (v := ?_) (a' := ?_) #[true, true, true, true, true, true, true, true] rfl rfl (any_of HT_.out (by kernel_rfl)) (fun _ _ _ h => h) (Or.inl ⟨by rfl, ?_⟩) ?_ ?_
            rotate_left
            ·intro w'
             go_simp
             with_reducible rfl
            rotate_left
            ·simp only [Act.put, List.setIfInBounds_toArray, List.set_cons_zero, List.set_cons_succ, i64_w, i32_w]
             rfl
            refine done_ (done_of HT_.out (by kernel_rfl)) ?_
            try go_wp2
            refine bodyPost_ret (results_ct rfl _ _ gb164 28 #[.slice Ao156 t179.length co156] (0, 0) _ rfl (by (with_reducible repeat (first | refine blk_drewN ?_ _ | refine blk_drew ?_ | refine blk_alloc ?_ _)); refine blk_put (cs := #[.slice none 0 0]) ?_ 0 _ rfl; (with_reducible repeat (first | refine blk_drewN ?_ _ | refine blk_drew ?_ | refine blk_alloc ?_ _)); exact BK164.out) Try.underlying28 rfl (by kernel_rfl)) rfl ?_
            exact ⟨_, ze, zr (Kd.R_mono (Kd.R_far (p := ⟨gb164, 0, none⟩) (Kd.R_types HO181.out BK164.out (by decide)) (fun _ hk => hk.2) (.slice Ao156 t179.length co156)) (fun _ hk => hk.1.1)), zb HB.out⟩
           ·rw [if_neg c151] at H
            exact absurd H (by simp)
          ·rw [if_neg c150] at H
           exact absurd H (by simp)
      ·rw [if_neg c41] at H
       exact absurd H (by simp)
     ·rw [if_neg c40] at H
      exact absurd H (by simp)
 ·replace c6 := Bool.eq_false_iff.mpr c6
  subst c6
  have H1 : (some (([] : List (S55)), (-1))) = some (r1, r2) := by rw [if_neg (show ¬ (false = true) by decide)] at H; exact H
  clear H
  have H := H1
  clear H1
  simp only [Option.some.injEq, Prod.mk.injEq] at H
  obtain ⟨rfl, rfl⟩ := H
  go_enter Try.func8, Try.ntmps8
  go_wp2_with (first | ((with_reducible refine gate_dst (N := 4) rfl ?_); refine box_event ?hg (N := 4) ?hd (cs := #[.slice A0_0 l0_0.length c0_0]) (t := 28) ?hr ?_; (case hd => rfl); (case hg => rfl); (case hr => first | (go_simp; done) | (go_simp; rfl)); intro gb163 hg w158 hbox hb; have n0_ := Aside0.mk (Kd.V_below (Kd.V_elderB (by (with_reducible repeat (first | apply Kd.V_alloc | apply Kd.V_drewN | apply Kd.V_drew)); exact HO0_0.out) gb163 (Nat.le_of_eq hg.symm)) hb); have n1_ := Aside0.mk (below_step (zb HB.out) hb); have n2_ := Aside0.mk (hbox); have n3_ := Aside0.mk ((by rw [hg]; exact (below_size (zb HB.out)) : w.heap.size ≤ gb163)); have n4_ := Aside0.mk ((by rw [hg]; exact (below_size (zb HB.out)) : w.heap.size ≤ gb163)); clear HO0_0; clear HB; have HO0_0 := n0_; have HB := n1_; have BK163 := n2_; have GW163 := n3_; have GE163 := n4_; clear n0_ n1_ n2_ n3_ n4_; clear hb hbox hg) | ((with_reducible refine gate_dst (N := 8) rfl ?_); refine box_event ?hg (N := 8) ?hd (cs := #[.slice none 0 0]) (t := 28) ?hr ?_; (case hd => rfl); (case hg => rfl); (case hr => first | (go_simp; done) | (go_simp; rfl)); intro gb164 hg w159 hbox hb; have n0_ := Aside0.mk (Kd.V_below (Kd.V_elderB (by (with_reducible repeat (first | apply Kd.V_alloc | apply Kd.V_drewN | apply Kd.V_drew)); exact HO0_0.out) gb164 (Nat.le_of_eq hg.symm)) hb); have n1_ := Aside0.mk (blk_below (zh BK163.out) hb); have n2_ := Aside0.mk (below_step (zb HB.out) hb); have n3_ := Aside0.mk (hbox); have n4_ := Aside0.mk ((by rw [hg]; exact (below_size (zb HB.out)) : w.heap.size ≤ gb164)); have n5_ := Aside0.mk ((by rw [hg]; exact (below_size (zb HB.out)) : w.heap.size ≤ gb164)); have n6_ := Aside0.mk ((by rw [hg]; exact Nat.ne_of_lt (blk_lt (zh BK163.out)) : gb163 ≠ gb164)); have n7_ := Aside0.mk ((by rw [hg]; exact Nat.ne_of_gt (blk_lt (zh BK163.out)) : gb164 ≠ gb163)); clear HO0_0; clear BK163; clear HB; have HO0_0 := n0_; have BK163 := n1_; have HB := n2_; have BK164 := n3_; have GW164 := n4_; have GE164 := n5_; have NB163_164 := n6_; have NB164_163 := n7_; clear n0_ n1_ n2_ n3_ n4_ n5_ n6_ n7_; clear hb hbox hg; have hnb160 := NB163_164.out; have hnc160 := NB164_163.out; have hcz161_0 : w159.cell? ⟨gb163, 0, none⟩ = some (.slice A0_0 l0_0.length c0_0) := (blk_cell BK163.out 0).trans rfl; have hfz161_0 := blk_frozen BK163.out 0) | ((with_reducible refine gate_callee (f := 25) rfl ?_); refine goesL_ (some 18) rfl rfl Try.func25 (by kernel_rfl) rfl #[.agg #[.slice A0_0 l0_0.length c0_0]] rfl zl ?_; (with_reducible refine (spec_PoolOk.calls k _ _ l0_0 false _ ?side1 ?side2 A5.out).mono ?_); (case side1 => exact zc (Kd.V_reads' HO0_0.out).2.2); (case side2 => exact (Kd.V_reads' HO0_0.out).2.1); rintro e w162 ⟨rfl, hb⟩; refine ⟨_, rfl, ?_⟩; have n0_ := Aside0.mk (Kd.V_below (by (with_reducible repeat (first | apply Kd.V_alloc | apply Kd.V_drewN | apply Kd.V_drew)); exact HO0_0.out) hb); have n1_ := Aside0.mk (blk_below (zh BK163.out) hb); have n2_ := Aside0.mk (blk_below (zh BK164.out) hb); have n3_ := Aside0.mk (below_step (zb HB.out) hb); clear HO0_0; clear BK163; clear BK164; clear HB; have HO0_0 := n0_; have BK163 := n1_; have BK164 := n2_; have HB := n3_; clear n0_ n1_ n2_ n3_; (try clear hb); (try clear hb2); (try clear hk); (try clear hi); have hcz163_0 : w162.cell? ⟨gb164, 0, none⟩ = some (.slice none 0 0) := (blk_cell BK164.out 0).trans rfl; have hfz163_0 := blk_frozen BK164.out 0))
  refine bodyPost_ret (results_ct rfl _ _ gb164 28 #[.slice none 0 0] (0, 0) _ rfl (by (with_reducible repeat (first | refine blk_drewN ?_ _ | refine blk_drew ?_ | refine blk_alloc ?_ _)); refine blk_put (cs := #[.slice none 0 0]) ?_ 0 _ rfl; (with_reducible repeat (first | refine blk_drewN ?_ _ | refine blk_drew ?_ | refine blk_alloc ?_ _)); exact BK164.out) Try.underlying28 rfl (by kernel_rfl)) rfl ?_
  exact ⟨_, ze, by first | exact Kd.R_nil _ _ _ _ _ | exact Kd.N_nil _ _ _ _ _ | exact Kd.V_nil _ _ _ _ _ | exact Kd.Q_nil _ _ _ _ _ | exact Kd.S_nil _ _ _ _ _, zb HB.out⟩

theorem spec_TermSwap.calls (k : Nat) (A0_0 : Option Addr) (c0_0 : Nat) (l0_0 : List (S55)) (a1 : Int) (a2 : Int) (a3 : Int) (r1 : List (S55)) (r2 : Int) (w : World) (hr0_0 : Kd.C k55 w A0_0 l0_0.length l0_0) (hc0_0 : l0_0.length ≤ c0_0) (h : spec_TermSwap.f k l0_0 a1 a2 a3 = some (r1, r2)) :
  Calls Try.prog 8 #[.agg #[.slice A0_0 l0_0.length c0_0], .int .i64 a1, .int .i64 a2, .int .i64 a3] w fun e w' => ∃ v0_ : Value, e = .returned (.tuple #[.agg #[v0_], .int .i64 r2]) ∧ Kd.R k55 55 w' w.heap.size (fun _ => True) v0_ r1 ∧ Below w.heap.size w w' :=
 (spec_TermSwap.callsV k (fun k_ => k_ < w.heap.size) A0_0 c0_0 l0_0 a1 a2 a3 r1 r2 w (Kd.V_mk hc0_0 (Kd.C_F k55_heap hr0_0)) h).mono (fun _ _ h_ => by obtain ⟨v0, e, hR, hb⟩ := h_; exact ⟨v0, e, Kd.R_mono hR (fun _ _ => trivial), hb⟩)



end Go.Proofs.Ytobkledmbnacjaa.F
end
