import Derived.Test.YtobkledmbnacjaaZNM0
import Derived.Test.YtobkledmbnacjaaZNMg0
section
namespace Go.Proofs.Ytobkledmbnacjaa.M
open Go.RowKit Go.Proofs.YtobkledmbnacjaaW.PrintWords Go.Proofs.YtobkledmbnacjaaW.PrintLast Go.Proofs.YtobkledmbnacjaaW.PrintMore
attribute [local go_sem] max2_int min2_int max_two min_two max_three min_three max_four min_four   -- for this text's walks alone
set_option linter.unusedVariables false
set_option linter.unusedSimpArgs false
set_option maxRecDepth 100000


/-! ### spec_l5Carry: function 40 -/
set_option maxHeartbeats 8000000 in
set_option maxRecDepth 100000 in
theorem spec_l5Carry.addV (k : Nat) (P0_0_ : Nat → Prop) (A0_0 : Option Addr) (c0_0 : Nat) (l0_0 : List (S55)) (a1_0 : Int) (a1_1 : Int) (a1_2 : Int) (r1 : List (S55)) (r2 : Int) (w : World) (hs0_0 : Kd.V k55 55 w w.heap.size (fun k_ => P0_0_ k_) (.slice A0_0 l0_0.length c0_0) l0_0) (h : spec_l1Add.f k l0_0 a1_0 a1_1 a1_2 = some (r1, r2)) :
  Calls Try.prog 30 #[.agg #[.slice A0_0 l0_0.length c0_0], .agg #[.int .i64 a1_0, .int .i64 a1_1, .int .i64 a1_2]] w fun e w' => ∃ v0_ : Value, e = .returned (.tuple #[.agg #[v0_], .int .i64 r2]) ∧ Kd.V k55 55 w' w.heap.size (fun k_ => (P0_0_ k_ ∨ w.heap.size ≤ k_)) v0_ r1 ∧ Below w.heap.size w w' := by
 have hu28 := Try.underlying28
 have hu55 := Try.underlying55
 have HO0_0 := Aside0.mk (show Kd.V k55 55 w w.heap.size (fun k_ => (P0_0_ k_ ∨ w.heap.size ≤ k_)) (.slice A0_0 l0_0.length c0_0) l0_0 from Kd.V_mono hs0_0 (fun k_ hk => .inl hk))
 have HB := Aside0.mk (Below.refl w.heap.size w)
 have H : (if a1_0 = 8 then (spec_l1Add.j0 k (decide (a1_1 > a1_2)) l0_0 a1_0 a1_1 a1_2) else (spec_l1Add.j0 k false l0_0 a1_0 a1_1 a1_2)) = some (r1, r2) := h
 clear h
 have HC3 := Aside0.mk H
 clear H
 go_enter Try.func30, Try.ntmps30
 go_upto_region 1 with (first | ((with_reducible refine gate_dst (N := 2) rfl ?_); (try (refine gate_guard (by rfl) ?_; dsimp only)); refine box_event ?hg (N := 2) ?hd (cs := #[.slice A0_0 l0_0.length c0_0]) (t := 28) ?hr ?_; (case hd => rfl); (case hg => rfl); (case hr => first | (go_simp; done) | (go_simp; rfl)); intro gb187 hg w4 hbox hb; have n0_ := Aside0.mk (Kd.V_below (Kd.V_elderB (by (with_reducible repeat (first | apply Kd.V_alloc | apply Kd.V_drewN | apply Kd.V_drew)); exact HO0_0.out) gb187 (Nat.le_of_eq hg.symm)) hb); have n1_ := Aside0.mk (below_step (zb HB.out) hb); have n2_ := Aside0.mk (hbox); have n3_ := Aside0.mk ((by rw [hg]; exact (below_size (zb HB.out)) : w.heap.size ≤ gb187)); have n4_ := Aside0.mk ((by rw [hg]; exact (below_size (zb HB.out)) : w.heap.size ≤ gb187)); clear HO0_0 HB; have HO0_0 := n0_; have HB := n1_; have BK187 := n2_; have GW187 := n3_; have GE187 := n4_; clear n0_ n1_ n2_ n3_ n4_ hb hbox hg) | ((with_reducible refine gate_dst (N := 3) rfl ?_); (try (refine gate_guard (by rfl) ?_; dsimp only)); refine box_event ?hg (N := 3) ?hd (cs := #[.int .i64 a1_0, .int .i64 a1_1, .int .i64 a1_2]) (t := 55) ?hr ?_; (case hd => rfl); (case hg => rfl); (case hr => first | (go_simp; done) | (go_simp; rfl)); intro gb188 hg w5 hbox hb; have n0_ := Aside0.mk (Kd.V_below (Kd.V_elderB (by (with_reducible repeat (first | apply Kd.V_alloc | apply Kd.V_drewN | apply Kd.V_drew)); exact HO0_0.out) gb188 (Nat.le_of_eq hg.symm)) hb); have n1_ := Aside0.mk (blk_below (zh BK187.out) hb); have n2_ := Aside0.mk (below_step (zb HB.out) hb); have n3_ := Aside0.mk (hbox); have n4_ := Aside0.mk ((by rw [hg]; exact (below_size (zb HB.out)) : w.heap.size ≤ gb188)); have n5_ := Aside0.mk ((by rw [hg]; exact (below_size (zb HB.out)) : w.heap.size ≤ gb188)); have n6_ := Aside0.mk ((by rw [hg]; exact Nat.ne_of_lt (blk_lt (zh BK187.out)) : gb187 ≠ gb188)); have n7_ := Aside0.mk ((by rw [hg]; exact Nat.ne_of_gt (blk_lt (zh BK187.out)) : gb188 ≠ gb187)); clear HO0_0 BK187 HB; have HO0_0 := n0_; have BK187 := n1_; have HB := n2_; have BK188 := n3_; have GW188 := n4_; have GE188 := n5_; have NB187_188 := n6_; have NB188_187 := n7_; clear n0_ n1_ n2_ n3_ n4_ n5_ n6_ n7_ hb hbox hg) | ((with_reducible refine gate_dst (N := 4) rfl ?_); (try (refine gate_guard (by rfl) ?_; dsimp only)); refine box_event ?hg (N := 4) ?hd (cs := #[.slice none 0 0]) (t := 28) ?hr ?_; (case hd => rfl); (case hg => rfl); (case hr => first | (go_simp; done) | (go_simp; rfl)); intro gb189 hg w6 hbox hb; have n0_ := Aside0.mk (Kd.V_below (Kd.V_elderB (by (with_reducible repeat (first | apply Kd.V_alloc | apply Kd.V_drewN | apply Kd.V_drew)); exact HO0_0.out) gb189 (Nat.le_of_eq hg.symm)) hb); have n1_ := Aside0.mk (blk_below (zh BK187.out) hb); have n2_ := Aside0.mk (blk_below (zh BK188.out) hb); have n3_ := Aside0.mk (below_step (zb HB.out) hb); have n4_ := Aside0.mk (hbox); have n5_ := Aside0.mk ((by rw [hg]; exact (below_size (zb HB.out)) : w.heap.size ≤ gb189)); have n6_ := Aside0.mk ((by rw [hg]; exact (below_size (zb HB.out)) : w.heap.size ≤ gb189)); have n7_ := Aside0.mk ((by rw [hg]; exact Nat.ne_of_lt (blk_lt (zh BK187.out)) : gb187 ≠ gb189)); have n8_ := Aside0.mk ((by rw [hg]; exact Nat.ne_of_gt (blk_lt (zh BK187.out)) : gb189 ≠ gb187)); have n9_ := Aside0.mk ((by rw [hg]; exact Nat.ne_of_lt (blk_lt (zh BK188.out)) : gb188 ≠ gb189)); have n10_ := Aside0.mk ((by rw [hg]; exact Nat.ne_of_gt (blk_lt (zh BK188.out)) : gb189 ≠ gb188)); clear HO0_0 BK187 BK188 HB; have HO0_0 := n0_; have BK187 := n1_; have BK188 := n2_; have HB := n3_; have BK189 := n4_; have GW189 := n5_; have GE189 := n6_; have NB187_189 := n7_; have NB189_187 := n8_; have NB188_189 := n9_; have NB189_188 := n10_; clear n0_ n1_ n2_ n3_ n4_ n5_ n6_ n7_ n8_ n9_ n10_ hb hbox hg))
 (try simp only [Act.put, List.setIfInBounds_toArray, List.set_cons_zero, List.set_cons_succ])
 go_cut [17] (fun v17 wc => ∃ (kq : Nat) (x17_2 : Bool), v17 = .bool x17_2 ∧ Aside0 (spec_l1Add.j0 kq x17_2 l0_0 a1_0 a1_1 a1_2 = some (r1, r2)) ∧ Aside0 (kq ≤ k) ∧ Aside0 (Kd.V k55 55 wc w.heap.size (fun k_ => (P0_0_ k_ ∨ w.heap.size ≤ k_) ∧ k_ ≠ gb187 ∧ k_ ≠ gb188 ∧ k_ ≠ gb189) (.slice A0_0 l0_0.length c0_0) l0_0) ∧ Aside0 (wc.heap[gb187]? = some (.cells #[(.slice A0_0 l0_0.length c0_0)] 28 (0, 0))) ∧ Aside0 (wc.heap[gb188]? = some (.cells #[.int .i64 a1_0, .int .i64 a1_1, .int .i64 a1_2] 55 (0, 0))) ∧ Aside0 (wc.heap[gb189]? = some (.cells #[(.slice none 0 0)] 28 (0, 0))) ∧ Aside0 (Below w.heap.size w wc))
 case first =>
  have H := HC3.out
  clear HC3
  by_cases c7 : a1_0 = 8
  rotate_left
  ·rw [if_neg c7] at H
   have c7b0 : (a1_0 == 8) = false := beq_eq_false_iff_ne.mpr c7
   have c7b1 : (a1_0 != 8) = true := bne_iff_ne.mpr c7
   (first | rw [c7b0] | (simp only [i64_w, i32_w]; rw [c7b0]) | skip)
   have H' := Aside0.mk H
   clear H
   have hnb11 := NB188_187.out
   have hnc11 := NB187_188.out
   have hnb12 := NB188_189.out
   have hnc12 := NB189_188.out
   have hcz13_0 : w6.cell? ⟨gb188, 0, none⟩ = some (.int .i64 a1_0) := (blk_cell BK188.out 0).trans rfl
   have hcz13_1 : w6.cell? ⟨gb188, 1, none⟩ = some (.int .i64 a1_1) := (blk_cell BK188.out 1).trans rfl
   have hcz13_2 : w6.cell? ⟨gb188, 2, none⟩ = some (.int .i64 a1_2) := (blk_cell BK188.out 2).trans rfl
   have hfz13_0 := blk_frozen BK188.out 0
   have hfz13_1 := blk_frozen BK188.out 1
   have hfz13_2 := blk_frozen BK188.out 2
   go_wp2
   go_meet
   case rel => exact ⟨_, (false), (by first | rfl | (simp; done) | (simp [*]; done)), H', ⟨by first | omega | exact Nat.le_refl _⟩, ⟨by (with_reducible repeat (first | apply Kd.V_alloc | apply Kd.V_drewN | apply Kd.V_drew)); exact Kd.V_mono HO0_0.out (fun _ hk => ⟨hk.1.1.1, ⟨hk.1.1.2, ⟨hk.1.2, hk.2⟩⟩⟩)⟩, ⟨zh BK187.out⟩, ⟨zh BK188.out⟩, ⟨zh BK189.out⟩, ⟨zb HB.out⟩⟩
  rw [if_pos c7] at H
  have c7b0 : (a1_0 == 8) = true := beq_iff_eq.mpr c7
  have c7b1 : (a1_0 != 8) = false := bne_eq_false_iff_eq.mpr c7
  clear c7
  (first | rw [c7b0] | (simp only [i64_w, i32_w]; rw [c7b0]) | skip)
  have H' := Aside0.mk H
  clear H
  have hnb8 := NB188_187.out
  have hnc8 := NB187_188.out
  have hnb9 := NB188_189.out
  have hnc9 := NB189_188.out
  have hcz10_0 : w6.cell? ⟨gb188, 0, none⟩ = some (.int .i64 a1_0) := (blk_cell BK188.out 0).trans rfl
  have hcz10_1 : w6.cell? ⟨gb188, 1, none⟩ = some (.int .i64 a1_1) := (blk_cell BK188.out 1).trans rfl
  have hcz10_2 : w6.cell? ⟨gb188, 2, none⟩ = some (.int .i64 a1_2) := (blk_cell BK188.out 2).trans rfl
  have hfz10_0 := blk_frozen BK188.out 0
  have hfz10_1 := blk_frozen BK188.out 1
  have hfz10_2 := blk_frozen BK188.out 2
  go_wp2
  go_meet
  case rel => exact ⟨_, (decide (a1_1 > a1_2)), (by first | rfl | (simp; done) | (simp [*]; done)), H', ⟨by first | omega | exact Nat.le_refl _⟩, ⟨by (with_reducible repeat (first | apply Kd.V_alloc | apply Kd.V_drewN | apply Kd.V_drew)); exact Kd.V_mono HO0_0.out (fun _ hk => ⟨hk.1.1.1, ⟨hk.1.1.2, ⟨hk.1.2, hk.2⟩⟩⟩)⟩, ⟨zh BK187.out⟩, ⟨zh BK188.out⟩, ⟨zh BK189.out⟩, ⟨zb HB.out⟩⟩
 case rest =>
  clear HC3
  try clear c1
  try clear p2
  try clear c3
  try clear c7
  try clear c7b0
  try clear c7b1
  try clear c8
  try clear c9
  try clear c11
  try clear c12
  try clear hcz10_0
  try clear hcz10_1
  try clear hcz10_2
  try clear hcz13_0
  try clear hcz13_1
  try clear hcz13_2
  try clear hfz10_0
  try clear hfz10_1
  try clear hfz10_2
  try clear hfz13_0
  try clear hfz13_1
  try clear hfz13_2
  obtain ⟨kq, x17_2, rfl, HA, HJ2, HO_188000, BK187, BK188, BK189, HB⟩ := hcut
  cases kq with
  | zero => exact absurd HA.out (by simp [spec_l1Add.j0])
  | succ kj2 =>
   have H := HA.out
   clear HA
   simp only [spec_l1Add.j0] at H
   have HC14 := Aside0.mk H
   clear H
   go_upto_if 17 with (fail)
   go_cut [] (fun wc => ∃ (kq : Nat) (x189000_13 : Int) (x189001_13 : Int) (x189002_13 : Int), Aside0 (spec_l1Add.j1 kq l0_0 x189000_13 x189001_13 x189002_13 = some (r1, r2)) ∧ Aside0 (kq ≤ kj2) ∧ Aside0 (Kd.V k55 55 wc w.heap.size (fun k_ => (P0_0_ k_ ∨ w.heap.size ≤ k_) ∧ k_ ≠ gb187 ∧ k_ ≠ gb188 ∧ k_ ≠ gb189) (.slice A0_0 l0_0.length c0_0) l0_0) ∧ Aside0 (wc.heap[gb187]? = some (.cells #[(.slice A0_0 l0_0.length c0_0)] 28 (0, 0))) ∧ Aside0 (wc.heap[gb188]? = some (.cells #[.int .i64 x189000_13, .int .i64 x189001_13, .int .i64 x189002_13] 55 (0, 0))) ∧ Aside0 (wc.heap[gb189]? = some (.cells #[(.slice none 0 0)] 28 (0, 0))) ∧ Aside0 (Below w.heap.size w wc))
   case first =>
    have H := HC14.out
    clear HC14
    by_cases c15 : x17_2 = true
    rotate_left
    ·replace c15 := Bool.eq_false_iff.mpr c15
     subst c15
     have H1 : (spec_l1Add.j1 kj2 l0_0 a1_0 a1_1 a1_2) = some (r1, r2) := by rw [if_neg (show ¬ (false = true) by decide)] at H; exact H
     clear H
     have H := H1
     clear H1
     have H' := Aside0.mk H
     clear H
     go_wp2
     go_meet
     case rel => exact ⟨_, (a1_0), (a1_1), (a1_2), H', ⟨by have := HJ2.out; first | omega | exact Nat.le_refl _⟩, ⟨by (with_reducible repeat (first | apply Kd.V_alloc | apply Kd.V_drewN | apply Kd.V_drew)); exact HO_188000.out⟩, ⟨zh BK187.out⟩, ⟨zh BK188.out⟩, ⟨zh BK189.out⟩, ⟨zb HB.out⟩⟩
    subst c15
    have H1 : (spec_l1Add.j1 kj2 l0_0 a1_0 a1_2 a1_1) = some (r1, r2) := by rw [if_pos rfl] at H; exact H
    clear H
    have H := H1
    clear H1
    have H' := Aside0.mk H
    clear H
    have hnb16 := NB188_187.out
    have hnc16 := NB187_188.out
    have hnb17 := NB188_189.out
    have hnc17 := NB189_188.out
    have hcz18_0 : wc.cell? ⟨gb188, 0, none⟩ = some (.int .i64 a1_0) := (blk_cell BK188.out 0).trans rfl
    have hcz18_1 : wc.cell? ⟨gb188, 1, none⟩ = some (.int .i64 a1_1) := (blk_cell BK188.out 1).trans rfl
    have hcz18_2 : wc.cell? ⟨gb188, 2, none⟩ = some (.int .i64 a1_2) := (blk_cell BK188.out 2).trans rfl
    have hfz18_0 := blk_frozen BK188.out 0
    have hfz18_1 := blk_frozen BK188.out 1
    have hfz18_2 := blk_frozen BK188.out 2
    go_wp2
    go_meet
    case rel => exact ⟨_, (a1_0), (a1_2), (a1_1), H', ⟨by have := HJ2.out; first | omega | exact Nat.le_refl _⟩, ⟨by (with_reducible repeat (first | apply Kd.V_alloc | apply Kd.V_drewN | apply Kd.V_drew)); exact Kd.V_mono (Kd.V_far (p := ⟨gb188, 2, none⟩) (Kd.V_far (p := ⟨gb188, 1, none⟩) (Kd.V_far (p := ⟨gb188, 0, none⟩) (Kd.V_mono HO_188000.out (fun k_ hk => (⟨hk, hk.2.2.1⟩ : _ ∧ k_ ≠ gb188))) (fun _ hk => hk.2) (.int .i64 a1_0)) (fun _ hk => hk.2) (.int .i64 a1_2)) (fun _ hk => hk.2) (.int .i64 a1_1)) (fun _ hk => ⟨hk.1.1, ⟨hk.1.2.1, ⟨hk.1.2.2.1, hk.1.2.2.2⟩⟩⟩)⟩, ⟨zf BK187.out⟩, ⟨by (with_reducible repeat (first | refine blk_drewN ?_ _ | refine blk_drew ?_ | refine blk_alloc ?_ _)); refine blk_put (cs := #[.int .i64 a1_0, .int .i64 a1_2, .int .i64 a1_2]) ?_ 2 _ rfl; (with_reducible repeat (first | refine blk_drewN ?_ _ | refine blk_drew ?_ | refine blk_alloc ?_ _)); refine blk_put (cs := #[.int .i64 a1_0, .int .i64 a1_1, .int .i64 a1_2]) ?_ 1 _ rfl; (with_reducible repeat (first | refine blk_drewN ?_ _ | refine blk_drew ?_ | refine blk_alloc ?_ _)); refine blk_put (cs := #[.int .i64 a1_0, .int .i64 a1_1, .int .i64 a1_2]) ?_ 0 _ rfl; (with_reducible repeat (first | refine blk_drewN ?_ _ | refine blk_drew ?_ | refine blk_alloc ?_ _)); exact BK188.out⟩, ⟨zf BK189.out⟩, ⟨zb HB.out⟩⟩
   case rest =>
    clear HC14
    try clear c1
    try clear p2
    try clear c3
    try clear c7
    try clear c7b0
    try clear c7b1
    try clear c8
    try clear c9
    try clear c11
    try clear c12
    try clear c15
    try clear c16
    try clear c17
    try clear hcz10_0
    try clear hcz10_1
    try clear hcz10_2
    try clear hcz13_0
    try clear hcz13_1
    try clear hcz13_2
    try clear hcz18_0
    try clear hcz18_1
    try clear hcz18_2
    try clear hfz10_0
    try clear hfz10_1
    try clear hfz10_2
    try clear hfz13_0
    try clear hfz13_1
    try clear hfz13_2
    try clear hfz18_0
    try clear hfz18_1
    try clear hfz18_2
    try clear p2
    obtain ⟨kq, x189000_13, x189001_13, x189002_13, HA, HJ13, HO_188000, BK187, BK188, BK189, HB⟩ := hcut
    cases kq with
    | zero => exact absurd HA.out (by simp [spec_l1Add.j1])
    | succ kj13 =>
     have H := HA.out
     clear HA
     simp only [spec_l1Add.j1] at H
     replace H := Option.bind_eq_some_iff.mp H
     obtain ⟨t190, A190, H⟩ := H
     replace H : (if t190 ≥ 0 then (some (l0_0, t190)) else ((spec_l1Right.f kj13 x189000_13 x189001_13 x189002_13 (l0_0.length : Int)).bind fun t191 => (if t191 = true then (if (l0_0.length : Int) = 500 then (some (l0_0, (-1))) else ((spec_l1Copy.f l0_0).bind fun t192 => (if t192.length < 5864062014805 then (some ((t192 ++ [(⟨x189000_13, x189001_13, x189002_13⟩ : S55)]), (l0_0.length : Int))) else (none)))) else (some (l0_0, (-1)))))) = some (r1, r2) := H
     have A19 := Aside0.mk A190
     clear A190
     by_cases c20 : t190 ≥ 0
     ·rw [if_pos c20] at H
      have c20b0 : decide (0 ≤ t190) = true := decide_eq_true c20
      clear c20
      simp only [Option.some.injEq, Prod.mk.injEq] at H
      obtain ⟨rfl, rfl⟩ := H
      have hnb21 := NB187_188.out
      have hnc21 := NB188_187.out
      have hnb22 := NB187_189.out
      have hnc22 := NB189_187.out
      have hcz23_0 : wc.cell? ⟨gb187, 0, none⟩ = some (.slice A0_0 l0_0.length c0_0) := (blk_cell BK187.out 0).trans rfl
      have hfz23_0 := blk_frozen BK187.out 0
      have hnb24 := NB188_189.out
      have hnc24 := NB189_188.out
      have hcz25_0 : wc.cell? ⟨gb188, 0, none⟩ = some (.int .i64 x189000_13) := (blk_cell BK188.out 0).trans rfl
      have hcz25_1 : wc.cell? ⟨gb188, 1, none⟩ = some (.int .i64 x189001_13) := (blk_cell BK188.out 1).trans rfl
      have hcz25_2 : wc.cell? ⟨gb188, 2, none⟩ = some (.int .i64 x189002_13) := (blk_cell BK188.out 2).trans rfl
      have hfz25_0 := blk_frozen BK188.out 0
      have hfz25_1 := blk_frozen BK188.out 1
      have hfz25_2 := blk_frozen BK188.out 2
      go_wp2_with (first | ((with_reducible refine gate_callee (f := 55) rfl ?_); refine goesL_ (some 27) rfl rfl Try.func55 (by kernel_rfl) rfl #[.agg #[.slice A0_0 l0_0.length c0_0], .agg #[.int .i64 x189000_13, .int .i64 x189001_13, .int .i64 x189002_13]] rfl zl ?_; (with_reducible refine (spec_l1Find.calls kj13 _ _ l0_0 x189000_13 x189001_13 x189002_13 t190 _ ?side1 ?side2 A19.out).mono ?_); (case side1 => exact zc (Kd.V_reads' HO_188000.out).2.2); (case side2 => exact (Kd.V_reads' HO_188000.out).2.1); rintro e w26 ⟨rfl, hb⟩; refine ⟨_, rfl, ?_⟩; have n0_ := Aside0.mk (Kd.V_below (by (with_reducible repeat (first | apply Kd.V_alloc | apply Kd.V_drewN | apply Kd.V_drew)); exact HO_188000.out) hb); have n1_ := Aside0.mk (blk_below (zh BK187.out) hb); have n2_ := Aside0.mk (blk_below (zh BK188.out) hb); have n3_ := Aside0.mk (blk_below (zh BK189.out) hb); have n4_ := Aside0.mk (below_step (zb HB.out) hb); clear HO_188000 BK187 BK188 BK189 HB; have HO_188000 := n0_; have BK187 := n1_; have BK188 := n2_; have BK189 := n3_; have HB := n4_; clear n0_ n1_ n2_ n3_ n4_; (try clear hb); (try clear hb2); (try clear hk); (try clear hi); have hcz27_0 : w26.cell? ⟨gb187, 0, none⟩ = some (.slice A0_0 l0_0.length c0_0) := (blk_cell BK187.out 0).trans rfl; have hfz27_0 := blk_frozen BK187.out 0; have hcz28_0 : w26.cell? ⟨gb189, 0, none⟩ = some (.slice none 0 0) := (blk_cell BK189.out 0).trans rfl; have hfz28_0 := blk_frozen BK189.out 0))
      refine bodyPost_ret (results_ct rfl _ _ gb189 28 #[.slice A0_0 l0_0.length c0_0] (0, 0) _ rfl (by (with_reducible repeat (first | refine blk_drewN ?_ _ | refine blk_drew ?_ | refine blk_alloc ?_ _)); refine blk_put (cs := #[.slice none 0 0]) ?_ 0 _ rfl; (with_reducible repeat (first | refine blk_drewN ?_ _ | refine blk_drew ?_ | refine blk_alloc ?_ _)); exact BK189.out) Try.underlying28 rfl (by kernel_rfl)) rfl ?_
      exact ⟨_, ze, by (with_reducible repeat (first | apply Kd.V_alloc | apply Kd.V_drewN | apply Kd.V_drew)); exact Kd.V_mono (Kd.V_far (p := ⟨gb189, 0, none⟩) (Kd.V_mono HO_188000.out (fun k_ hk => (⟨hk, hk.2.2.2⟩ : _ ∧ k_ ≠ gb189))) (fun _ hk => hk.2) (.slice A0_0 l0_0.length c0_0)) (fun _ hk => hk.1.1), zb HB.out⟩
     rw [if_neg c20] at H
     have c20b0 : decide (0 ≤ t190) = false := decide_eq_false c20
     clear c20
     replace H := Option.bind_eq_some_iff.mp H
     obtain ⟨t191, A290, H⟩ := H
     replace H : (if t191 = true then (if (l0_0.length : Int) = 500 then (some (l0_0, (-1))) else ((spec_l1Copy.f l0_0).bind fun t192 => (if t192.length < 5864062014805 then (some ((t192 ++ [(⟨x189000_13, x189001_13, x189002_13⟩ : S55)]), (l0_0.length : Int))) else (none)))) else (some (l0_0, (-1)))) = some (r1, r2) := H
     have A29 := Aside0.mk A290
     clear A290
     by_cases c30 : t191 = true
     rotate_left
     ·replace c30 := Bool.eq_false_iff.mpr c30
      subst c30
      have H1 : (some (l0_0, (-1))) = some (r1, r2) := by rw [if_neg (show ¬ (false = true) by decide)] at H; exact H
      clear H
      have H := H1
      clear H1
      simp only [Option.some.injEq, Prod.mk.injEq] at H
      obtain ⟨rfl, rfl⟩ := H
      have hnb69 := NB187_188.out
      have hnc69 := NB188_187.out
      have hnb70 := NB187_189.out
      have hnc70 := NB189_187.out
      have hcz71_0 : wc.cell? ⟨gb187, 0, none⟩ = some (.slice A0_0 l0_0.length c0_0) := (blk_cell BK187.out 0).trans rfl
      have hfz71_0 := blk_frozen BK187.out 0
      have hnb72 := NB188_189.out
      have hnc72 := NB189_188.out
      have hcz73_0 : wc.cell? ⟨gb188, 0, none⟩ = some (.int .i64 x189000_13) := (blk_cell BK188.out 0).trans rfl
      have hcz73_1 : wc.cell? ⟨gb188, 1, none⟩ = some (.int .i64 x189001_13) := (blk_cell BK188.out 1).trans rfl
      have hcz73_2 : wc.cell? ⟨gb188, 2, none⟩ = some (.int .i64 x189002_13) := (blk_cell BK188.out 2).trans rfl
      have hfz73_0 := blk_frozen BK188.out 0
      have hfz73_1 := blk_frozen BK188.out 1
      have hfz73_2 := blk_frozen BK188.out 2
      go_wp2_with (first | ((with_reducible refine gate_callee (f := 55) rfl ?_); refine goesL_ (some 27) rfl rfl Try.func55 (by kernel_rfl) rfl #[.agg #[.slice A0_0 l0_0.length c0_0], .agg #[.int .i64 x189000_13, .int .i64 x189001_13, .int .i64 x189002_13]] rfl zl ?_; (with_reducible refine (spec_l1Find.calls kj13 _ _ l0_0 x189000_13 x189001_13 x189002_13 t190 _ ?side1 ?side2 A19.out).mono ?_); (case side1 => exact zc (Kd.V_reads' HO_188000.out).2.2); (case side2 => exact (Kd.V_reads' HO_188000.out).2.1); rintro e w74 ⟨rfl, hb⟩; refine ⟨_, rfl, ?_⟩; have n0_ := Aside0.mk (Kd.V_below (by (with_reducible repeat (first | apply Kd.V_alloc | apply Kd.V_drewN | apply Kd.V_drew)); exact HO_188000.out) hb); have n1_ := Aside0.mk (blk_below (zh BK187.out) hb); have n2_ := Aside0.mk (blk_below (zh BK188.out) hb); have n3_ := Aside0.mk (blk_below (zh BK189.out) hb); have n4_ := Aside0.mk (below_step (zb HB.out) hb); clear HO_188000 BK187 BK188 BK189 HB; have HO_188000 := n0_; have BK187 := n1_; have BK188 := n2_; have BK189 := n3_; have HB := n4_; clear n0_ n1_ n2_ n3_ n4_; (try clear hb); (try clear hb2); (try clear hk); (try clear hi); have hcz75_0 : w74.cell? ⟨gb188, 0, none⟩ = some (.int .i64 x189000_13) := (blk_cell BK188.out 0).trans rfl; have hcz75_1 : w74.cell? ⟨gb188, 1, none⟩ = some (.int .i64 x189001_13) := (blk_cell BK188.out 1).trans rfl; have hcz75_2 : w74.cell? ⟨gb188, 2, none⟩ = some (.int .i64 x189002_13) := (blk_cell BK188.out 2).trans rfl; have hfz75_0 := blk_frozen BK188.out 0; have hfz75_1 := blk_frozen BK188.out 1; have hfz75_2 := blk_frozen BK188.out 2; have hcz76_0 : w74.cell? ⟨gb187, 0, none⟩ = some (.slice A0_0 l0_0.length c0_0) := (blk_cell BK187.out 0).trans rfl; have hfz76_0 := blk_frozen BK187.out 0) | ((with_reducible refine gate_callee (f := 54) rfl ?_); refine goesL_ (some 36) rfl rfl Try.func54 (by kernel_rfl) rfl #[.agg #[.int .i64 x189000_13, .int .i64 x189001_13, .int .i64 x189002_13], .int .i64 (l0_0.length : Int)] rfl zl ?_; (with_reducible refine (spec_l1Right.calls kj13 x189000_13 x189001_13 x189002_13 (l0_0.length : Int) false _ A29.out).mono ?_); rintro e w77 ⟨rfl, hb⟩; refine ⟨_, rfl, ?_⟩; have n0_ := Aside0.mk (Kd.V_below (by (with_reducible repeat (first | apply Kd.V_alloc | apply Kd.V_drewN | apply Kd.V_drew)); exact HO_188000.out) hb); have n1_ := Aside0.mk (blk_below (zh BK187.out) hb); have n2_ := Aside0.mk (blk_below (zh BK188.out) hb); have n3_ := Aside0.mk (blk_below (zh BK189.out) hb); have n4_ := Aside0.mk (below_step (zb HB.out) hb); clear HO_188000 BK187 BK188 BK189 HB; have HO_188000 := n0_; have BK187 := n1_; have BK188 := n2_; have BK189 := n3_; have HB := n4_; clear n0_ n1_ n2_ n3_ n4_; (try clear hb); (try clear hb2); (try clear hk); (try clear hi); have hcz78_0 : w77.cell? ⟨gb187, 0, none⟩ = some (.slice A0_0 l0_0.length c0_0) := (blk_cell BK187.out 0).trans rfl; have hfz78_0 := blk_frozen BK187.out 0; have hcz79_0 : w77.cell? ⟨gb189, 0, none⟩ = some (.slice none 0 0) := (blk_cell BK189.out 0).trans rfl; have hfz79_0 := blk_frozen BK189.out 0))
      refine bodyPost_ret (results_ct rfl _ _ gb189 28 #[.slice A0_0 l0_0.length c0_0] (0, 0) _ rfl (by (with_reducible repeat (first | refine blk_drewN ?_ _ | refine blk_drew ?_ | refine blk_alloc ?_ _)); refine blk_put (cs := #[.slice none 0 0]) ?_ 0 _ rfl; (with_reducible repeat (first | refine blk_drewN ?_ _ | refine blk_drew ?_ | refine blk_alloc ?_ _)); exact BK189.out) Try.underlying28 rfl (by kernel_rfl)) rfl ?_
      exact ⟨_, ze, by (with_reducible repeat (first | apply Kd.V_alloc | apply Kd.V_drewN | apply Kd.V_drew)); exact Kd.V_mono (Kd.V_far (p := ⟨gb189, 0, none⟩) (Kd.V_mono HO_188000.out (fun k_ hk => (⟨hk, hk.2.2.2⟩ : _ ∧ k_ ≠ gb189))) (fun _ hk => hk.2) (.slice A0_0 l0_0.length c0_0)) (fun _ hk => hk.1.1), zb HB.out⟩

     subst c30
     have H1 : (if (l0_0.length : Int) = 500 then (some (l0_0, (-1))) else ((spec_l1Copy.f l0_0).bind fun t192 => (if t192.length < 5864062014805 then (some ((t192 ++ [(⟨x189000_13, x189001_13, x189002_13⟩ : S55)]), (l0_0.length : Int))) else (none)))) = some (r1, r2) := by rw [if_pos rfl] at H; exact H
     clear H
     have H := H1
     clear H1
     by_cases c31 : (l0_0.length : Int) = 500
     ·rw [if_pos c31] at H
      have c31b0 : ((l0_0.length : Int) == 500) = true := beq_iff_eq.mpr c31
      have c31b1 : ((l0_0.length : Int) != 500) = false := bne_eq_false_iff_eq.mpr c31
      clear c31
      simp only [Option.some.injEq, Prod.mk.injEq] at H
      obtain ⟨rfl, rfl⟩ := H
      have hnb32 := NB187_188.out
      have hnc32 := NB188_187.out
      have hnb33 := NB187_189.out
      have hnc33 := NB189_187.out
      have hcz34_0 : wc.cell? ⟨gb187, 0, none⟩ = some (.slice A0_0 l0_0.length c0_0) := (blk_cell BK187.out 0).trans rfl
      have hfz34_0 := blk_frozen BK187.out 0
      have hnb35 := NB188_189.out
      have hnc35 := NB189_188.out
      have hcz36_0 : wc.cell? ⟨gb188, 0, none⟩ = some (.int .i64 x189000_13) := (blk_cell BK188.out 0).trans rfl
      have hcz36_1 : wc.cell? ⟨gb188, 1, none⟩ = some (.int .i64 x189001_13) := (blk_cell BK188.out 1).trans rfl
      have hcz36_2 : wc.cell? ⟨gb188, 2, none⟩ = some (.int .i64 x189002_13) := (blk_cell BK188.out 2).trans rfl
      have hfz36_0 := blk_frozen BK188.out 0
      have hfz36_1 := blk_frozen BK188.out 1
      have hfz36_2 := blk_frozen BK188.out 2
      go_wp2_with (first | ((with_reducible refine gate_callee (f := 55) rfl ?_); refine goesL_ (some 27) rfl rfl Try.func55 (by kernel_rfl) rfl #[.agg #[.slice A0_0 l0_0.length c0_0], .agg #[.int .i64 x189000_13, .int .i64 x189001_13, .int .i64 x189002_13]] rfl zl ?_; (with_reducible refine (spec_l1Find.calls kj13 _ _ l0_0 x189000_13 x189001_13 x189002_13 t190 _ ?side1 ?side2 A19.out).mono ?_); (case side1 => exact zc (Kd.V_reads' HO_188000.out).2.2); (case side2 => exact (Kd.V_reads' HO_188000.out).2.1); rintro e w37 ⟨rfl, hb⟩; refine ⟨_, rfl, ?_⟩; have n0_ := Aside0.mk (Kd.V_below (by (with_reducible repeat (first | apply Kd.V_alloc | apply Kd.V_drewN | apply Kd.V_drew)); exact HO_188000.out) hb); have n1_ := Aside0.mk (blk_below (zh BK187.out) hb); have n2_ := Aside0.mk (blk_below (zh BK188.out) hb); have n3_ := Aside0.mk (blk_below (zh BK189.out) hb); have n4_ := Aside0.mk (below_step (zb HB.out) hb); clear HO_188000 BK187 BK188 BK189 HB; have HO_188000 := n0_; have BK187 := n1_; have BK188 := n2_; have BK189 := n3_; have HB := n4_; clear n0_ n1_ n2_ n3_ n4_; (try clear hb); (try clear hb2); (try clear hk); (try clear hi); have hcz38_0 : w37.cell? ⟨gb188, 0, none⟩ = some (.int .i64 x189000_13) := (blk_cell BK188.out 0).trans rfl; have hcz38_1 : w37.cell? ⟨gb188, 1, none⟩ = some (.int .i64 x189001_13) := (blk_cell BK188.out 1).trans rfl; have hcz38_2 : w37.cell? ⟨gb188, 2, none⟩ = some (.int .i64 x189002_13) := (blk_cell BK188.out 2).trans rfl; have hfz38_0 := blk_frozen BK188.out 0; have hfz38_1 := blk_frozen BK188.out 1; have hfz38_2 := blk_frozen BK188.out 2; have hcz39_0 : w37.cell? ⟨gb187, 0, none⟩ = some (.slice A0_0 l0_0.length c0_0) := (blk_cell BK187.out 0).trans rfl; have hfz39_0 := blk_frozen BK187.out 0) | ((with_reducible refine gate_callee (f := 54) rfl ?_); refine goesL_ (some 36) rfl rfl Try.func54 (by kernel_rfl) rfl #[.agg #[.int .i64 x189000_13, .int .i64 x189001_13, .int .i64 x189002_13], .int .i64 (l0_0.length : Int)] rfl zl ?_; (with_reducible refine (spec_l1Right.calls kj13 x189000_13 x189001_13 x189002_13 (l0_0.length : Int) true _ A29.out).mono ?_); rintro e w40 ⟨rfl, hb⟩; refine ⟨_, rfl, ?_⟩; have n0_ := Aside0.mk (Kd.V_below (by (with_reducible repeat (first | apply Kd.V_alloc | apply Kd.V_drewN | apply Kd.V_drew)); exact HO_188000.out) hb); have n1_ := Aside0.mk (blk_below (zh BK187.out) hb); have n2_ := Aside0.mk (blk_below (zh BK188.out) hb); have n3_ := Aside0.mk (blk_below (zh BK189.out) hb); have n4_ := Aside0.mk (below_step (zb HB.out) hb); clear HO_188000 BK187 BK188 BK189 HB; have HO_188000 := n0_; have BK187 := n1_; have BK188 := n2_; have BK189 := n3_; have HB := n4_; clear n0_ n1_ n2_ n3_ n4_; (try clear hb); (try clear hb2); (try clear hk); (try clear hi); have hcz41_0 : w40.cell? ⟨gb187, 0, none⟩ = some (.slice A0_0 l0_0.length c0_0) := (blk_cell BK187.out 0).trans rfl; have hfz41_0 := blk_frozen BK187.out 0; have hcz42_0 : w40.cell? ⟨gb189, 0, none⟩ = some (.slice none 0 0) := (blk_cell BK189.out 0).trans rfl; have hfz42_0 := blk_frozen BK189.out 0))
      refine bodyPost_ret (results_ct rfl _ _ gb189 28 #[.slice A0_0 l0_0.length c0_0] (0, 0) _ rfl (by (with_reducible repeat (first | refine blk_drewN ?_ _ | refine blk_drew ?_ | refine blk_alloc ?_ _)); refine blk_put (cs := #[.slice none 0 0]) ?_ 0 _ rfl; (with_reducible repeat (first | refine blk_drewN ?_ _ | refine blk_drew ?_ | refine blk_alloc ?_ _)); exact BK189.out) Try.underlying28 rfl (by kernel_rfl)) rfl ?_
      exact ⟨_, ze, by (with_reducible repeat (first | apply Kd.V_alloc | apply Kd.V_drewN | apply Kd.V_drew)); exact Kd.V_mono (Kd.V_far (p := ⟨gb189, 0, none⟩) (Kd.V_mono HO_188000.out (fun k_ hk => (⟨hk, hk.2.2.2⟩ : _ ∧ k_ ≠ gb189))) (fun _ hk => hk.2) (.slice A0_0 l0_0.length c0_0)) (fun _ hk => hk.1.1), zb HB.out⟩
     rw [if_neg c31] at H
     have c31b0 : ((l0_0.length : Int) == 500) = false := beq_eq_false_iff_ne.mpr c31
     have c31b1 : ((l0_0.length : Int) != 500) = true := bne_iff_ne.mpr c31
     replace H := Option.bind_eq_some_iff.mp H
     obtain ⟨t192, A430, H⟩ := H
     replace H : (if t192.length < 5864062014805 then (some ((t192 ++ [(⟨x189000_13, x189001_13, x189002_13⟩ : S55)]), (l0_0.length : Int))) else (none)) = some (r1, r2) := H
     have A43 := Aside0.mk A430
     clear A430
     by_cases c44 : t192.length < 5864062014805
     rotate_left
     ·rw [if_neg c44] at H
      exact absurd H (by simp)
     rw [if_pos c44] at H
     have LMc44 := Aside0.mk c44
     clear c44
     obtain ⟨y196, hy196⟩ : ∃ y_ : List (S55), y_ = (t192 ++ [(⟨x189000_13, x189001_13, x189002_13⟩ : S55)]) := ⟨_, rfl⟩
     replace H : (some (y196, (l0_0.length : Int))) = some (r1, r2) := by first | (rw [hy196]; with_reducible exact H) | (have H2_ := (Option.bind_some _ _).symm.trans H; rw [hy196]; with_reducible exact H2_) | (have H2_ := (Option.bind_some _ _).symm.trans H; with_reducible exact H2_) | with_reducible exact H | (rw [hy196]; exact H) | exact H
     have Ny196 := Aside0.mk hy196
     clear hy196
     simp only [Option.some.injEq, Prod.mk.injEq] at H
     obtain ⟨rfl, rfl⟩ := H
     have hnb45 := NB187_188.out
     have hnc45 := NB188_187.out
     have hnb46 := NB187_189.out
     have hnc46 := NB189_187.out
     have hcz47_0 : wc.cell? ⟨gb187, 0, none⟩ = some (.slice A0_0 l0_0.length c0_0) := (blk_cell BK187.out 0).trans rfl
     have hfz47_0 := blk_frozen BK187.out 0
     have hnb48 := NB188_189.out
     have hnc48 := NB189_188.out
     have hcz49_0 : wc.cell? ⟨gb188, 0, none⟩ = some (.int .i64 x189000_13) := (blk_cell BK188.out 0).trans rfl
     have hcz49_1 : wc.cell? ⟨gb188, 1, none⟩ = some (.int .i64 x189001_13) := (blk_cell BK188.out 1).trans rfl
     have hcz49_2 : wc.cell? ⟨gb188, 2, none⟩ = some (.int .i64 x189002_13) := (blk_cell BK188.out 2).trans rfl
     have hfz49_0 := blk_frozen BK188.out 0
     have hfz49_1 := blk_frozen BK188.out 1
     have hfz49_2 := blk_frozen BK188.out 2
     try go_wp2_with (first | ((with_reducible refine gate_callee (f := 55) rfl ?_); refine goesL_ (some 27) rfl rfl Try.func55 (by kernel_rfl) rfl #[.agg #[.slice A0_0 l0_0.length c0_0], .agg #[.int .i64 x189000_13, .int .i64 x189001_13, .int .i64 x189002_13]] rfl zl ?_; (with_reducible refine (spec_l1Find.calls kj13 _ _ l0_0 x189000_13 x189001_13 x189002_13 t190 _ ?side1 ?side2 A19.out).mono ?_); (case side1 => exact zc (Kd.V_reads' HO_188000.out).2.2); (case side2 => exact (Kd.V_reads' HO_188000.out).2.1); rintro e w50 ⟨rfl, hb⟩; refine ⟨_, rfl, ?_⟩; have n0_ := Aside0.mk (Kd.V_below (by (with_reducible repeat (first | apply Kd.V_alloc | apply Kd.V_drewN | apply Kd.V_drew)); exact HO_188000.out) hb); have n1_ := Aside0.mk (blk_below (zh BK187.out) hb); have n2_ := Aside0.mk (blk_below (zh BK188.out) hb); have n3_ := Aside0.mk (blk_below (zh BK189.out) hb); have n4_ := Aside0.mk (below_step (zb HB.out) hb); clear HO_188000 BK187 BK188 BK189 HB; have HO_188000 := n0_; have BK187 := n1_; have BK188 := n2_; have BK189 := n3_; have HB := n4_; clear n0_ n1_ n2_ n3_ n4_; (try clear hb); (try clear hb2); (try clear hk); (try clear hi); have hcz51_0 : w50.cell? ⟨gb188, 0, none⟩ = some (.int .i64 x189000_13) := (blk_cell BK188.out 0).trans rfl; have hcz51_1 : w50.cell? ⟨gb188, 1, none⟩ = some (.int .i64 x189001_13) := (blk_cell BK188.out 1).trans rfl; have hcz51_2 : w50.cell? ⟨gb188, 2, none⟩ = some (.int .i64 x189002_13) := (blk_cell BK188.out 2).trans rfl; have hfz51_0 := blk_frozen BK188.out 0; have hfz51_1 := blk_frozen BK188.out 1; have hfz51_2 := blk_frozen BK188.out 2; have hcz52_0 : w50.cell? ⟨gb187, 0, none⟩ = some (.slice A0_0 l0_0.length c0_0) := (blk_cell BK187.out 0).trans rfl; have hfz52_0 := blk_frozen BK187.out 0) | ((with_reducible refine gate_callee (f := 54) rfl ?_); refine goesL_ (some 36) rfl rfl Try.func54 (by kernel_rfl) rfl #[.agg #[.int .i64 x189000_13, .int .i64 x189001_13, .int .i64 x189002_13], .int .i64 (l0_0.length : Int)] rfl zl ?_; (with_reducible refine (spec_l1Right.calls kj13 x189000_13 x189001_13 x189002_13 (l0_0.length : Int) true _ A29.out).mono ?_); rintro e w53 ⟨rfl, hb⟩; refine ⟨_, rfl, ?_⟩; have n0_ := Aside0.mk (Kd.V_below (by (with_reducible repeat (first | apply Kd.V_alloc | apply Kd.V_drewN | apply Kd.V_drew)); exact HO_188000.out) hb); have n1_ := Aside0.mk (blk_below (zh BK187.out) hb); have n2_ := Aside0.mk (blk_below (zh BK188.out) hb); have n3_ := Aside0.mk (blk_below (zh BK189.out) hb); have n4_ := Aside0.mk (below_step (zb HB.out) hb); clear HO_188000 BK187 BK188 BK189 HB; have HO_188000 := n0_; have BK187 := n1_; have BK188 := n2_; have BK189 := n3_; have HB := n4_; clear n0_ n1_ n2_ n3_ n4_; (try clear hb); (try clear hb2); (try clear hk); (try clear hi); have hcz54_0 : w53.cell? ⟨gb187, 0, none⟩ = some (.slice A0_0 l0_0.length c0_0) := (blk_cell BK187.out 0).trans rfl; have hfz54_0 := blk_frozen BK187.out 0) | ((with_reducible refine gate_callee (f := 27) rfl ?_); refine goesL_ (some 46) rfl rfl Try.func27 (by kernel_rfl) rfl #[.agg #[.slice A0_0 l0_0.length c0_0]] rfl zl ?_; (with_reducible refine (spec_l1Copy.calls _ _ l0_0 t192 _ ?side1 ?side2 A43.out).mono ?_); (case side1 => exact zc (Kd.V_reads' HO_188000.out).2.2); (case side2 => exact (Kd.V_reads' HO_188000.out).2.1); rintro e w55 ⟨v193, rfl, ho0, hb⟩; refine ⟨_, rfl, ?_⟩; have n0_ := Aside0.mk (Kd.V_elder' (by (with_reducible repeat (first | apply Kd.V_alloc | apply Kd.V_drewN | apply Kd.V_drew)); exact HO_188000.out) (Kd.R_base ho0) hb); have n1_ := Aside0.mk (Kd.R_lower (Kd.R_newB (Kd.R_newM (M := fun k_ => (w.heap.size ≤ k_)) ho0 (below_size (zb HB.out)) (fun k_ h_ => h_)) (zh BK188.out)) (below_size (zb HB.out))); have n2_ := Aside0.mk (blk_below (zh BK187.out) hb); have n3_ := Aside0.mk (blk_below (zh BK188.out) hb); have n4_ := Aside0.mk (blk_below (zh BK189.out) hb); have n5_ := Aside0.mk (below_step (zb HB.out) hb); clear HO_188000 BK187 BK188 BK189 HB; have HO_188000 := n0_; have HO194 := n1_; have BK187 := n2_; have BK188 := n3_; have BK189 := n4_; have HB := n5_; clear n0_ n1_ n2_ n3_ n4_ n5_; (try clear hb); (try clear hb2); (try clear hk); (try clear hi); (try clear ho0)) | ((with_reducible refine gate_dst (N := 7) rfl ?_); (try (refine gate_guard (by rfl) ?_; dsimp only)); refine box_event ?hg (N := 7) ?hd (cs := #[.slice none 0 0]) (t := 28) ?hr ?_; (case hd => rfl); (case hg => rfl); (case hr => first | (go_simp; done) | (go_simp; rfl)); intro gb195 hg w56 hbox hb; have n0_ := Aside0.mk (Kd.V_below (Kd.V_elderB (by (with_reducible repeat (first | apply Kd.V_alloc | apply Kd.V_drewN | apply Kd.V_drew)); exact HO_188000.out) gb195 (Nat.le_of_eq hg.symm)) hb); have n1_ := Aside0.mk (Kd.R_below (zr HO194.out) hb); have n2_ := Aside0.mk (blk_below (zh BK187.out) hb); have n3_ := Aside0.mk (blk_below (zh BK188.out) hb); have n4_ := Aside0.mk (blk_below (zh BK189.out) hb); have n5_ := Aside0.mk (below_step (zb HB.out) hb); have n6_ := Aside0.mk (hbox); have n7_ := Aside0.mk ((by rw [hg]; exact (below_size (zb HB.out)) : w.heap.size ≤ gb195)); have n8_ := Aside0.mk ((by rw [hg]; exact (below_size (zb HB.out)) : w.heap.size ≤ gb195)); have n9_ := Aside0.mk ((by rw [hg]; exact Nat.ne_of_lt (blk_lt (zh BK187.out)) : gb187 ≠ gb195)); have n10_ := Aside0.mk ((by rw [hg]; exact Nat.ne_of_gt (blk_lt (zh BK187.out)) : gb195 ≠ gb187)); have n11_ := Aside0.mk ((by rw [hg]; exact Nat.ne_of_lt (blk_lt (zh BK188.out)) : gb188 ≠ gb195)); have n12_ := Aside0.mk ((by rw [hg]; exact Nat.ne_of_gt (blk_lt (zh BK188.out)) : gb195 ≠ gb188)); have n13_ := Aside0.mk ((by rw [hg]; exact Nat.ne_of_lt (blk_lt (zh BK189.out)) : gb189 ≠ gb195)); have n14_ := Aside0.mk ((by rw [hg]; exact Nat.ne_of_gt (blk_lt (zh BK189.out)) : gb195 ≠ gb189)); clear HO_188000 HO194 BK187 BK188 BK189 HB; have HO_188000 := n0_; have HO194 := n1_; have BK187 := n2_; have BK188 := n3_; have BK189 := n4_; have HB := n5_; have BK195 := n6_; have GW195 := n7_; have GE195 := n8_; have NB187_195 := n9_; have NB195_187 := n10_; have NB188_195 := n11_; have NB195_188 := n12_; have NB189_195 := n13_; have NB195_189 := n14_; clear n0_ n1_ n2_ n3_ n4_ n5_ n6_ n7_ n8_ n9_ n10_ n11_ n12_ n13_ n14_ hb hbox hg; obtain ⟨Ao57, co57, eo57⟩ := Kd.R_slice HO194.out; subst eo57; have hnb58 := NB195_187.out; have hnc58 := NB187_195.out; have hnb59 := NB195_188.out; have hnc59 := NB188_195.out; have hnb60 := NB195_189.out; have hnc60 := NB189_195.out; have hcz61_0 : w56.cell? ⟨gb195, 0, none⟩ = some (.slice none 0 0) := (blk_cell BK195.out 0).trans rfl; have hfz61_0 := blk_frozen BK195.out 0; have hcz62_0 : w56.cell? ⟨gb188, 0, none⟩ = some (.int .i64 x189000_13) := (blk_cell BK188.out 0).trans rfl; have hcz62_1 : w56.cell? ⟨gb188, 1, none⟩ = some (.int .i64 x189001_13) := (blk_cell BK188.out 1).trans rfl; have hcz62_2 : w56.cell? ⟨gb188, 2, none⟩ = some (.int .i64 x189002_13) := (blk_cell BK188.out 2).trans rfl; have hfz62_0 := blk_frozen BK188.out 0; have hfz62_1 := blk_frozen BK188.out 1; have hfz62_2 := blk_frozen BK188.out 2) | ((with_reducible refine gate_builtin (b := .append) (xs := #[.tmp 48, .tmp 50]) rfl ?_); (try (refine gate_guard (by rfl) ?_; dsimp only)); at_builtin; refine Kd.R_append k55 (w0 := w) w.heap.size rfl (.tmp 48) (.tmp 50) 26 55 (.agg #[(.int .i64 0), (.int .i64 0), (.int .i64 0)]) 24 rfl Try.underlying26 info55 rfl (by decide) (by omega) (.slice Ao57 t192.length co57) t192 (⟨x189000_13, x189001_13, x189002_13⟩ : S55) [.int .i64 x189000_13, .int .i64 x189001_13, .int .i64 x189002_13] (fun k_ => (w.heap.size ≤ k_) ∧ k_ ≠ gb188) (fun _ => False) rfl (by first | (go_simp; done) | (go_simp; rfl)) ?aP (fun _ hk => hk.elim) ?aF ?aO ?aB ?aS ?aL ?_; (case aP => exact k55_mkM _ _ _ (⟨x189000_13, x189001_13, x189002_13⟩ : S55)); (case aB => exact (zb HB.out)); (case aF => exact (fun k_ hk => ⟨(Nat.le_trans (below_size (zb HB.out)) hk), Kd.freshB (g := gb188) (o := .cells #[.int .i64 x189000_13, .int .i64 x189001_13, .int .i64 x189002_13] 55 (0, 0)) (zf BK188.out) k_ hk⟩)); (case aO => exact (by (with_reducible repeat (first | apply Kd.R_alloc | apply Kd.R_drewN | apply Kd.R_drew)); exact Kd.R_mono (Kd.R_far (p := ⟨gb195, 0, none⟩) (Kd.R_types HO194.out BK195.out (by decide)) (fun _ hk => hk.2) (.slice Ao57 t192.length co57)) (fun _ hk => ⟨hk.1.1.1, hk.1.2⟩))); (case aS => exact (below_size (zb HB.out))); (case aL => have := LMc44.out; omega); intro v197 w63 ho hb hg hat; rw [← Ny196.out] at ho; have n0_ := Aside0.mk (Kd.V_afterv (ok := (fun k_ => (P0_0_ k_ ∨ w.heap.size ≤ k_) ∧ k_ ≠ gb187 ∧ k_ ≠ gb188 ∧ k_ ≠ gb189 ∧ k_ ≠ gb195)) (by (with_reducible repeat (first | apply Kd.V_alloc | apply Kd.V_drewN | apply Kd.V_drew)); exact Kd.V_mono (Kd.V_far (p := ⟨gb195, 0, none⟩) (Kd.V_mono HO_188000.out (fun k_ hk => (⟨hk, hk.2⟩ : _ ∧ k_ ≠ gb195))) (fun _ hk => hk.2) (.slice Ao57 t192.length co57)) (fun _ hk => ⟨⟨hk.1.1.1.1, ⟨hk.1.1.1.2.1, ⟨hk.1.1.1.2.2.1, ⟨hk.1.1.1.2.2.2, hk.1.2⟩⟩⟩⟩, hk.1.1.2⟩)) hg hat); have n1_ := Aside0.mk (blk_grown (g := gb187) (o := .cells #[.slice A0_0 l0_0.length c0_0] 28 (0, 0)) (zf BK187.out) hg (Kd.R_ne HO194.out BK187.out (by decide))); have n2_ := Aside0.mk (blk_grown (g := gb188) (o := .cells #[.int .i64 x189000_13, .int .i64 x189001_13, .int .i64 x189002_13] 55 (0, 0)) (zf BK188.out) hg (Kd.R_away HO194.out (fun _ hk => hk.2))); have n3_ := Aside0.mk (blk_grown (g := gb189) (o := .cells #[.slice none 0 0] 28 (0, 0)) (zf BK189.out) hg (Kd.R_ne HO194.out BK189.out (by decide))); have n4_ := Aside0.mk (blk_grown (g := gb195) (o := .cells #[.slice Ao57 t192.length co57] 28 (0, 0)) (by (with_reducible repeat (first | refine blk_drewN ?_ _ | refine blk_drew ?_ | refine blk_alloc ?_ _)); refine blk_put (cs := #[.slice none 0 0]) ?_ 0 _ rfl; (with_reducible repeat (first | refine blk_drewN ?_ _ | refine blk_drew ?_ | refine blk_alloc ?_ _)); exact BK195.out) hg (Kd.R_ne HO194.out BK195.out (by decide))); have n5_ := Aside0.mk (hb); have n6_ := Aside0.mk (ho); clear HO_188000 BK187 BK188 BK189 BK195 HB HO194; have HO_188000 := n0_; have BK187 := n1_; have BK188 := n2_; have BK189 := n3_; have BK195 := n4_; have HB := n5_; have HO198 := n6_; clear n0_ n1_ n2_ n3_ n4_ n5_ n6_ ho hb hg hat; obtain ⟨Ao64, co64, eo64⟩ := Kd.R_slice HO198.out; subst eo64; have hcz65_0 : w63.cell? ⟨gb195, 0, none⟩ = some (.slice Ao57 t192.length co57) := (blk_cell BK195.out 0).trans rfl; have hfz65_0 := blk_frozen BK195.out 0))
     have n0_ : Aside0 (Kd.V k55 55 (w63.setCell ⟨gb195, 0, none⟩ (.slice Ao64 y196.length co64)) w.heap.size (fun k_ => (P0_0_ k_ ∨ w.heap.size ≤ k_) ∧ some k_ ≠ (.slice Ao64 y196.length co64 : Value).ownBlock ∧ k_ ≠ gb187 ∧ k_ ≠ gb188 ∧ k_ ≠ gb189 ∧ k_ ≠ gb195) (.slice A0_0 l0_0.length c0_0) l0_0) := ⟨by (with_reducible repeat (first | apply Kd.V_alloc | apply Kd.V_drewN | apply Kd.V_drew)); exact Kd.V_mono (Kd.V_far (p := ⟨gb195, 0, none⟩) (Kd.V_mono HO_188000.out (fun k_ hk => (⟨hk, hk.1.2.2.2.2⟩ : _ ∧ k_ ≠ gb195))) (fun _ hk => hk.2) (.slice Ao64 y196.length co64)) (fun _ hk => ⟨hk.1.1.1, ⟨hk.1.2, ⟨hk.1.1.2.1, ⟨hk.1.1.2.2.1, ⟨hk.1.1.2.2.2.1, hk.1.1.2.2.2.2⟩⟩⟩⟩⟩)⟩
     have n1_ : Aside0 (Kd.R k55 55 (w63.setCell ⟨gb195, 0, none⟩ (.slice Ao64 y196.length co64)) w.heap.size (fun k_ => (w.heap.size ≤ k_) ∧ k_ ≠ gb188) (.slice Ao64 y196.length co64) y196) := ⟨zr (Kd.R_mono (Kd.R_far (p := ⟨gb195, 0, none⟩) (Kd.R_types HO198.out BK195.out (by decide)) (fun _ hk => hk.2) (.slice Ao64 y196.length co64)) (fun _ hk => ⟨hk.1.1, hk.1.2⟩))⟩
     have n2_ : Aside0 ((w63.setCell ⟨gb195, 0, none⟩ (.slice Ao64 y196.length co64)).heap[gb187]? = some (.cells #[.slice A0_0 l0_0.length c0_0] 28 (0, 0))) := ⟨zf BK187.out⟩
     have n3_ : Aside0 ((w63.setCell ⟨gb195, 0, none⟩ (.slice Ao64 y196.length co64)).heap[gb188]? = some (.cells #[.int .i64 x189000_13, .int .i64 x189001_13, .int .i64 x189002_13] 55 (0, 0))) := ⟨zf BK188.out⟩
     have n4_ : Aside0 ((w63.setCell ⟨gb195, 0, none⟩ (.slice Ao64 y196.length co64)).heap[gb189]? = some (.cells #[.slice none 0 0] 28 (0, 0))) := ⟨zf BK189.out⟩
     have n5_ : Aside0 ((w63.setCell ⟨gb195, 0, none⟩ (.slice Ao64 y196.length co64)).heap[gb195]? = some (.cells #[.slice Ao64 y196.length co64] 28 (0, 0))) := ⟨by (with_reducible repeat (first | refine blk_drewN ?_ _ | refine blk_drew ?_ | refine blk_alloc ?_ _)); refine blk_put (cs := #[.slice Ao57 t192.length co57]) ?_ 0 _ rfl; (with_reducible repeat (first | refine blk_drewN ?_ _ | refine blk_drew ?_ | refine blk_alloc ?_ _)); exact BK195.out⟩
     have n6_ : Aside0 (Below w.heap.size w (w63.setCell ⟨gb195, 0, none⟩ (.slice Ao64 y196.length co64))) := ⟨zb HB.out⟩
     (try clear HO_188000)
     (try clear HO198)
     (try clear BK187)
     (try clear BK188)
     (try clear BK189)
     (try clear BK195)
     (try clear HB)
     generalize (w63.setCell ⟨gb195, 0, none⟩ (.slice Ao64 y196.length co64)) = w66 at n0_ n1_ n2_ n3_ n4_ n5_ n6_ ⊢
     have HO_188000 := n0_
     have HO198 := n1_
     have BK187 := n2_
     have BK188 := n3_
     have BK189 := n4_
     have BK195 := n5_
     have HB := n6_
     clear n0_ n1_ n2_ n3_ n4_ n5_ n6_
     have n0_ := Aside0.mk (Kd.V_drew HO_188000.out)
     have n1_ := Aside0.mk (Kd.R_drew HO198.out)
     have n2_ := Aside0.mk (blk_drew BK187.out)
     have n3_ := Aside0.mk (blk_drew BK188.out)
     have n4_ := Aside0.mk (blk_drew BK189.out)
     have n5_ := Aside0.mk (blk_drew BK195.out)
     have n6_ := Aside0.mk (below_drew1 HB.out)
     clear HO_188000 HO198 BK187 BK188 BK189 BK195 HB
     have HO_188000 := n0_
     have HO198 := n1_
     have BK187 := n2_
     have BK188 := n3_
     have BK189 := n4_
     have BK195 := n5_
     have HB := n6_
     clear n0_ n1_ n2_ n3_ n4_ n5_ n6_
     refine start_ (n := 6) (S := fun w' => w'.cell? ⟨gb195, 0, none⟩ = some (.slice Ao64 y196.length co64) ∧ w'.cell? ⟨gb187, 0, none⟩ = some (.slice A0_0 l0_0.length c0_0)) (ds := []) #[false, false, false, false, false, false] (by kernel_rfl) rfl rfl ⟨(blk_cell BK195.out 0).trans rfl, (blk_cell BK187.out 0).trans rfl⟩ (fun hHeld => ?_)
     generalize w66.drew = w67 at HO_188000 HO198 BK187 BK188 BK189 BK195 HB hHeld ⊢
     refine pure_ (i := 1) (N := some 54) (v := ?_) (a' := ?_) (zB 6 2) rfl rfl (by kernel_rfl) (fun _ _ _ h => h) (Or.inl ⟨by rfl, ?_⟩) ?_ ?_
     rotate_left
     ·intro w'
      go_simp
      with_reducible rfl
     rotate_left
     ·exact zn
     refine take_ (i := 0) (N := some 53) (v := ?_) (a' := ?_) (zB 6 3) rfl rfl (by kernel_rfl) (fun _ _ _ h => h) (Or.inl ⟨by rfl, ?_⟩) hHeld ?_ ?_
     rotate_left
     ·rintro w' ⟨s0, s1⟩
      go_simp
      with_reducible rfl
     rotate_left
     ·exact zn
     refine take_ (i := 2) (N := some 55) (v := ?_) (a' := ?_) (zB 6 7) rfl rfl (by kernel_rfl) (fun _ _ _ h => h) (Or.inl ⟨by rfl, ?_⟩) hHeld ?_ ?_
     rotate_left
     ·rintro w' ⟨s0, s1⟩
      go_simp
      with_reducible rfl
     rotate_left
     ·exact zn
     refine pure_ (i := 3) (N := some 56) (v := ?_) (a' := ?_) (zB 6 15) rfl rfl (by kernel_rfl) (fun _ _ _ h => h) (Or.inl ⟨by rfl, ?_⟩) ?_ ?_
     rotate_left
     ·intro w'
      go_simp
      with_reducible rfl
     rotate_left
     ·exact zn
     refine one_ (i := 4) (N := none) (zB 6 31) rfl rfl (by kernel_rfl) (by decide) (fun K hK => ?_)
     have hs68 : w67.cell? ⟨gb189, 0, none⟩ = some (.slice none 0 0) := (blk_cell BK189.out 0).trans rfl
     have hfs68 := blk_frozen BK189.out 0
     have hns68_0 := NB187_189.out
     have hns68_1 := NB188_189.out
     have hns68_3 := NB195_189.out
     have hms68_0 := NB189_187.out
     have hms68_1 := NB189_188.out
     have hms68_3 := NB189_195.out
     refine skip_ (w1 := ?_) (by rfl) rfl ?_ ?_
     rotate_left
     ·go_simp
      rfl
     refine hK.out _ _ ⟨((cell_far (p := ⟨gb189, _, none⟩) NB195_189.out _).trans (hHeld.1)), ((cell_far (p := ⟨gb189, _, none⟩) NB187_189.out _).trans (hHeld.2))⟩ (fun hHeld => ?_)
     clear hK K
     refine pure_ (i := 5) (N := some 5) (v := ?_) (a' := ?_) (zB 6 63) rfl rfl (by kernel_rfl) (fun _ _ _ h => h) (Or.inl ⟨by rfl, ?_⟩) ?_ ?_
     rotate_left
     ·intro w'
      go_simp
      with_reducible rfl
     rotate_left
     ·exact zn
     refine done_ (by kernel_rfl) ?_
     try go_wp2
     refine bodyPost_ret (results_ct rfl _ _ gb189 28 #[.slice Ao64 y196.length co64] (0, 0) _ rfl (by (with_reducible repeat (first | refine blk_drewN ?_ _ | refine blk_drew ?_ | refine blk_alloc ?_ _)); refine blk_put (cs := #[.slice none 0 0]) ?_ 0 _ rfl; (with_reducible repeat (first | refine blk_drewN ?_ _ | refine blk_drew ?_ | refine blk_alloc ?_ _)); exact BK189.out) Try.underlying28 rfl (by kernel_rfl)) rfl ?_
     exact ⟨_, ze, Kd.V_mono (Kd.R_V (by (with_reducible repeat (first | apply Kd.R_alloc | apply Kd.R_drewN | apply Kd.R_drew)); exact Kd.R_mono (Kd.R_far (p := ⟨gb189, 0, none⟩) (Kd.R_types HO198.out BK189.out (by decide)) (fun _ hk => hk.2) (.slice Ao64 y196.length co64)) (fun _ hk => hk.1.1))) (fun k_ hk => by first | exact ⟨(.inr (hk.1)), hk.2⟩ | exact (.inr (hk))), zb HB.out⟩
mutual
def spec_l5Carry.l0 : Nat → Int → List Bool → List Int → Int → List (S55) → List (S55) → Option ((List (S55)) × Int)
 | 0, _, _, _, _, _, _ => none
 | k + 1, x1, x8, x9, x10, x200000, x201000 => if x10 ≤ x1 then (if 0 ≤ x10 then (if x10 < (x8.length : Int) then (if rdOf false x8 x10 = true then (if x10 < (x200000.length : Int) then ((spec_l1Parts.f k ((rd_T55 x200000 x10).f0)).bind fun t212 => (if t212 > 0 then (if 0 ≤ ((rd_T55 x200000 x10).f1) then (if ((rd_T55 x200000 x10).f1) < (x9.length : Int) then (spec_l5Carry.j1 k x1 x8 x9 x10 t212 x200000 x201000 ((rd_T55 x200000 x10).f0) (rd x9 ((rd_T55 x200000 x10).f1)) ((rd_T55 x200000 x10).f2)) else (none)) else (none)) else (spec_l5Carry.j1 k x1 x8 x9 x10 t212 x200000 x201000 ((rd_T55 x200000 x10).f0) ((rd_T55 x200000 x10).f1) ((rd_T55 x200000 x10).f2)))) else (none)) else (spec_l5Carry.l0 k x1 x8 x9 (wrap64 (x10 + 1)) x200000 x201000)) else (none)) else (none)) else (if 0 ≤ x1 then (if x1 < (x9.length : Int) then (some (x201000, rd x9 x1)) else (none)) else (none))
def spec_l5Carry.j1 : Nat → Int → List Bool → List Int → Int → Int → List (S55) → List (S55) → Int → Int → Int → Option ((List (S55)) × Int)
 | 0, _, _, _, _, _, _, _, _, _, _ => none
 | k + 1, x1, x8, x9, x10, x12, x200000, x201000, x212000, x212001, x212002 => if x12 > 1 then (if 0 ≤ x212002 then (if x212002 < (x9.length : Int) then ((spec_l1Add.f k x201000 x212000 x212001 (rd x9 x212002)).bind fun bt215 => (if bt215.2 < 0 then (some (x201000, (-1))) else (if 0 ≤ x10 then (if x10 < (x9.length : Int) then (spec_l5Carry.l0 k x1 x8 (x9.set (x10 : Int).toNat bt215.2) (wrap64 (x10 + 1)) x200000 bt215.1) else (none)) else (none)))) else (none)) else (none)) else ((spec_l1Add.f k x201000 x212000 x212001 x212002).bind fun bt221 => (if bt221.2 < 0 then (some (x201000, (-1))) else (if 0 ≤ x10 then (if x10 < (x9.length : Int) then (spec_l5Carry.l0 k x1 x8 (x9.set (x10 : Int).toNat bt221.2) (wrap64 (x10 + 1)) x200000 bt221.1) else (none)) else (none))))
end
def spec_l5Carry.f (k : Nat) (l0_0 : List (S55)) (a1 : Int) (l2_0 : List (S55)) : Option ((List (S55)) × Int) := (spec_l1Inside.f k l0_0 a1).bind fun t202 => (if 0 ≤ (l0_0.length : Int) then (if ((l0_0.length : Int) : Int).toNat ≤ 35184372088832 then (spec_l5Carry.l0 k a1 t202 (List.replicate ((l0_0.length : Int) : Int).toNat 0) 0 l0_0 l2_0) else (none)) else (none))
set_option maxHeartbeats 8000000 in
set_option maxRecDepth 100000 in
theorem spec_l5Carry.calls (k : Nat) (A0_0 : Option Addr) (c0_0 : Nat) (l0_0 : List (S55)) (a1 : Int) (P2_0_ : Nat → Prop) (A2_0 : Option Addr) (c2_0 : Nat) (l2_0 : List (S55)) (r1 : List (S55)) (r2 : Int) (w : World) (hr0_0 : Kd.C k55 w A0_0 l0_0.length l0_0) (hc0_0 : l0_0.length ≤ c0_0) (hs2_0 : Kd.V k55 55 w w.heap.size (fun k_ => P2_0_ k_) (.slice A2_0 l2_0.length c2_0) l2_0) (h : spec_l5Carry.f k l0_0 a1 l2_0 = some (r1, r2)) :
  Calls Try.prog 40 #[.agg #[.slice A0_0 l0_0.length c0_0], .int .i64 a1, .agg #[.slice A2_0 l2_0.length c2_0]] w fun e w' => ∃ v0_ : Value, e = .returned (.tuple #[.agg #[v0_], .int .i64 r2]) ∧ Kd.V k55 55 w' w.heap.size (fun k_ => (P2_0_ k_ ∨ w.heap.size ≤ k_)) v0_ r1 ∧ Below w.heap.size w w' := by
 have hu28 := Try.underlying28
 have hu55 := Try.underlying55
 have HR0_0 := Aside0.mk hr0_0
 have HC0_0 := Aside0.mk hc0_0
 clear hr0_0 hc0_0
 have HO2_0 := Aside0.mk (show Kd.V k55 55 w w.heap.size (fun k_ => (P2_0_ k_ ∨ w.heap.size ≤ k_)) (.slice A2_0 l2_0.length c2_0) l2_0 from Kd.V_mono hs2_0 (fun k_ hk => .inl hk))
 have HB := Aside0.mk (Below.refl w.heap.size w)
 have H : ((spec_l1Inside.f k l0_0 a1).bind fun t202 => (if 0 ≤ (l0_0.length : Int) then (if ((l0_0.length : Int) : Int).toNat ≤ 35184372088832 then (spec_l5Carry.l0 k a1 t202 (List.replicate ((l0_0.length : Int) : Int).toNat 0) 0 l0_0 l2_0) else (none)) else (none))) = some (r1, r2) := h
 clear h
 replace H := Option.bind_eq_some_iff.mp H
 obtain ⟨t202, A40, H⟩ := H
 replace H : (if 0 ≤ (l0_0.length : Int) then (if ((l0_0.length : Int) : Int).toNat ≤ 35184372088832 then (spec_l5Carry.l0 k a1 t202 (List.replicate ((l0_0.length : Int) : Int).toNat 0) 0 l0_0 l2_0) else (none)) else (none)) = some (r1, r2) := H
 have A4 := Aside0.mk A40
 clear A40
 by_cases c5 : 0 ≤ (l0_0.length : Int)
 rotate_left
 ·rw [if_neg c5] at H
  exact absurd H (by simp)




 rw [if_pos c5] at H
 have c5b0 := eq_true c5
 have c5b1 : decide (0 ≤ (l0_0.length : Int)) = true := decide_eq_true c5
 clear c5
 by_cases c6 : ((l0_0.length : Int) : Int).toNat ≤ 35184372088832
 rotate_left
 ·rw [if_neg c6] at H
  exact absurd H (by simp)
 rw [if_pos c6] at H
 have c6b0 := eq_true c6
 have c6b1 : decide (((l0_0.length : Int) : Int).toNat ≤ 35184372088832) = true := decide_eq_true c6
 clear c6
 obtain ⟨y205, hy205⟩ : ∃ y_ : List Int, y_ = (List.replicate ((l0_0.length : Int) : Int).toNat 0) := ⟨_, rfl⟩
 replace H : (spec_l5Carry.l0 k a1 t202 y205 0 l0_0 l2_0) = some (r1, r2) := by first | (rw [hy205]; with_reducible exact H) | (have H2_ := (Option.bind_some _ _).symm.trans H; rw [hy205]; with_reducible exact H2_) | (have H2_ := (Option.bind_some _ _).symm.trans H; with_reducible exact H2_) | with_reducible exact H | (rw [hy205]; exact H) | exact H
 have Ny205 := Aside0.mk hy205
 clear hy205
 have H' := Aside0.mk H
 clear H
 go_enter Try.func40, Try.ntmps40
 go_wp2_with (first | ((with_reducible refine gate_dst (N := 3) rfl ?_); refine box_event ?hg (N := 3) ?hd (cs := #[.slice A0_0 l0_0.length c0_0]) (t := 28) ?hr ?_; (case hd => rfl); (case hg => rfl); (case hr => first | (go_simp; done) | (go_simp; rfl)); intro gb199 hg w7 hbox hb; have n0_ := Aside0.mk (Kd.V_below (Kd.V_elderB (by (with_reducible repeat (first | apply Kd.V_alloc | apply Kd.V_drewN | apply Kd.V_drew)); exact HO2_0.out) gb199 (Nat.le_of_eq hg.symm)) hb); have n1_ := Aside0.mk (below_step (zb HB.out) hb); have n2_ := Aside0.mk (hbox); have n3_ := Aside0.mk ((by rw [hg]; exact (below_size (zb HB.out)) : w.heap.size ≤ gb199)); have n4_ := Aside0.mk ((by rw [hg]; exact (below_size (zb HB.out)) : w.heap.size ≤ gb199)); clear HO2_0 HB; have HO2_0 := n0_; have HB := n1_; have BK199 := n2_; have GW199 := n3_; have GE199 := n4_; clear n0_ n1_ n2_ n3_ n4_ hb hbox hg) | ((with_reducible refine gate_dst (N := 5) rfl ?_); refine box_event ?hg (N := 5) ?hd (cs := #[.slice A2_0 l2_0.length c2_0]) (t := 28) ?hr ?_; (case hd => rfl); (case hg => rfl); (case hr => first | (go_simp; done) | (go_simp; rfl)); intro gb200 hg w8 hbox hb; have n0_ := Aside0.mk (Kd.V_below (Kd.V_elderB (by (with_reducible repeat (first | apply Kd.V_alloc | apply Kd.V_drewN | apply Kd.V_drew)); exact HO2_0.out) gb200 (Nat.le_of_eq hg.symm)) hb); have n1_ := Aside0.mk (blk_below (zh BK199.out) hb); have n2_ := Aside0.mk (below_step (zb HB.out) hb); have n3_ := Aside0.mk (hbox); have n4_ := Aside0.mk ((by rw [hg]; exact (below_size (zb HB.out)) : w.heap.size ≤ gb200)); have n5_ := Aside0.mk ((by rw [hg]; exact (below_size (zb HB.out)) : w.heap.size ≤ gb200)); have n6_ := Aside0.mk ((by rw [hg]; exact Nat.ne_of_lt (blk_lt (zh BK199.out)) : gb199 ≠ gb200)); have n7_ := Aside0.mk ((by rw [hg]; exact Nat.ne_of_gt (blk_lt (zh BK199.out)) : gb200 ≠ gb199)); clear HO2_0 BK199 HB; have HO2_0 := n0_; have BK199 := n1_; have HB := n2_; have BK200 := n3_; have GW200 := n4_; have GE200 := n5_; have NB199_200 := n6_; have NB200_199 := n7_; clear n0_ n1_ n2_ n3_ n4_ n5_ n6_ n7_ hb hbox hg) | ((with_reducible refine gate_dst (N := 6) rfl ?_); refine box_event ?hg (N := 6) ?hd (cs := #[.slice none 0 0]) (t := 28) ?hr ?_; (case hd => rfl); (case hg => rfl); (case hr => first | (go_simp; done) | (go_simp; rfl)); intro gb201 hg w9 hbox hb; have n0_ := Aside0.mk (Kd.V_below (Kd.V_elderB (by (with_reducible repeat (first | apply Kd.V_alloc | apply Kd.V_drewN | apply Kd.V_drew)); exact HO2_0.out) gb201 (Nat.le_of_eq hg.symm)) hb); have n1_ := Aside0.mk (blk_below (zh BK199.out) hb); have n2_ := Aside0.mk (blk_below (zh BK200.out) hb); have n3_ := Aside0.mk (below_step (zb HB.out) hb); have n4_ := Aside0.mk (hbox); have n5_ := Aside0.mk ((by rw [hg]; exact (below_size (zb HB.out)) : w.heap.size ≤ gb201)); have n6_ := Aside0.mk ((by rw [hg]; exact (below_size (zb HB.out)) : w.heap.size ≤ gb201)); have n7_ := Aside0.mk ((by rw [hg]; exact Nat.ne_of_lt (blk_lt (zh BK199.out)) : gb199 ≠ gb201)); have n8_ := Aside0.mk ((by rw [hg]; exact Nat.ne_of_gt (blk_lt (zh BK199.out)) : gb201 ≠ gb199)); have n9_ := Aside0.mk ((by rw [hg]; exact Nat.ne_of_lt (blk_lt (zh BK200.out)) : gb200 ≠ gb201)); have n10_ := Aside0.mk ((by rw [hg]; exact Nat.ne_of_gt (blk_lt (zh BK200.out)) : gb201 ≠ gb200)); clear HO2_0 BK199 BK200 HB; have HO2_0 := n0_; have BK199 := n1_; have BK200 := n2_; have HB := n3_; have BK201 := n4_; have GW201 := n5_; have GE201 := n6_; have NB199_201 := n7_; have NB201_199 := n8_; have NB200_201 := n9_; have NB201_200 := n10_; clear n0_ n1_ n2_ n3_ n4_ n5_ n6_ n7_ n8_ n9_ n10_ hb hbox hg; have hnb10 := NB199_200.out; have hnc10 := NB200_199.out; have hnb11 := NB199_201.out; have hnc11 := NB201_199.out; have hcz12_0 : w9.cell? ⟨gb199, 0, none⟩ = some (.slice A0_0 l0_0.length c0_0) := (blk_cell BK199.out 0).trans rfl; have hfz12_0 := blk_frozen BK199.out 0) | ((with_reducible refine gate_callee (f := 28) rfl ?_); refine goesL_ (some 17) rfl rfl Try.func28 (by kernel_rfl) rfl #[.agg #[.slice A0_0 l0_0.length c0_0], .int .i64 a1] rfl zl ?_; (with_reducible refine (spec_l1Inside.calls k _ _ l0_0 a1 t202 _ ?side1 ?side2 A4.out).mono ?_); (case side1 => exact zc (Kd.C_below HR0_0.out HB.out)); (case side2 => exact HC0_0.out); rintro e w13 ⟨v203, rfl, ho0, hb⟩; refine ⟨_, rfl, ?_⟩; have n0_ := Aside0.mk (Kd.V_elder' (by (with_reducible repeat (first | apply Kd.V_alloc | apply Kd.V_drewN | apply Kd.V_drew)); exact HO2_0.out) (Kd.R_base ho0) hb); have n1_ := Aside0.mk (Kd.R_lower (Kd.R_newM (M := fun k_ => (w.heap.size ≤ k_)) ho0 (below_size (zb HB.out)) (fun k_ h_ => h_)) (below_size (zb HB.out))); have n2_ := Aside0.mk (blk_below (zh BK199.out) hb); have n3_ := Aside0.mk (blk_below (zh BK200.out) hb); have n4_ := Aside0.mk (blk_below (zh BK201.out) hb); have n5_ := Aside0.mk (below_step (zb HB.out) hb); clear HO2_0 BK199 BK200 BK201 HB; have HO2_0 := n0_; have HO204 := n1_; have BK199 := n2_; have BK200 := n3_; have BK201 := n4_; have HB := n5_; clear n0_ n1_ n2_ n3_ n4_ n5_; (try clear hb); (try clear hb2); (try clear hk); (try clear hi); (try clear ho0); have hcz14_0 : w13.cell? ⟨gb199, 0, none⟩ = some (.slice A0_0 l0_0.length c0_0) := (blk_cell BK199.out 0).trans rfl; have hfz14_0 := blk_frozen BK199.out 0) | ((with_reducible refine gate_dst (N := 21) rfl ?_); refine Kd.R_make (Kd.int .i64) _ 3 rfl (N := 21) rfl 45 _ _ rfl (l0_0.length : Int) rfl rfl Try.underlying45 (.int .i64 0) 8 info3 rfl (by decide) (by omega) 0 (ok := fun _ => True) (okp := fun _ => True) rfl (fun _ hk => hk) trivial (of_decide_eq_true (by first | (with_reducible assumption) | assumption)) (Nat.le_trans (Nat.mul_le_mul_right _ (of_decide_eq_true (by first | (with_reducible assumption) | assumption) : (l0_0.length : Int).toNat ≤ 35184372088832)) (by omega)) (Below.refl _ _) (Nat.le_refl _) ?_; intro v206 w15 ho16 hb hg_ hnew_; clear hg_ hnew_; (first | rw [← Ny205.out] at ho16 | (simp only [Int.reduceToNat] at ho16; rw [← Ny205.out] at ho16)); have n0_ := Aside0.mk (Kd.V_elder' (by (with_reducible repeat (first | apply Kd.V_alloc | apply Kd.V_drewN | apply Kd.V_drew)); exact HO2_0.out) (Kd.R_base ho16) hb); have n1_ := Aside0.mk (Kd.R_below (zr HO204.out) hb); have n2_ := Aside0.mk (Kd.R_lower (Kd.R_newM (M := fun k_ => (w.heap.size ≤ k_)) ho16 (below_size (zb HB.out)) (fun k_ h_ => h_)) (below_size (zb HB.out))); have n3_ := Aside0.mk (blk_below (zh BK199.out) hb); have n4_ := Aside0.mk (blk_below (zh BK200.out) hb); have n5_ := Aside0.mk (blk_below (zh BK201.out) hb); have n6_ := Aside0.mk (below_step (zb HB.out) hb); clear HO2_0 HO204 BK199 BK200 BK201 HB; have HO2_0 := n0_; have HO204 := n1_; have HO207 := n2_; have BK199 := n3_; have BK200 := n4_; have BK201 := n5_; have HB := n6_; clear n0_ n1_ n2_ n3_ n4_ n5_ n6_ hb ho16))
 go_loopg [10] k (fun kq v10 w' => ∃ (x9_1 : List Int) (x10_1 : Int) (x201000_1 : List (S55)) (u201000 : Value), v10 = .int .i64 x10_1 ∧ Aside0 (spec_l5Carry.l0 kq a1 t202 x9_1 x10_1 l0_0 x201000_1 = some (r1, r2)) ∧ Aside0 (kq ≤ k) ∧ Aside0 (Kd.R Kd.bool 4 w' w.heap.size (fun k_ => (w.heap.size ≤ k_)) v203 t202) ∧ Aside0 (Kd.R (Kd.int .i64) 3 w' w.heap.size (fun k_ => (w.heap.size ≤ k_)) v206 x9_1) ∧ Aside0 (Kd.V k55 55 w' w.heap.size (fun k_ => (P2_0_ k_ ∨ w.heap.size ≤ k_) ∧ some k_ ≠ (v203 : Value).ownBlock ∧ some k_ ≠ (v206 : Value).ownBlock ∧ k_ ≠ gb199 ∧ k_ ≠ gb200 ∧ k_ ≠ gb201) u201000 x201000_1) ∧ Aside0 (w'.heap[gb199]? = some (.cells #[(.slice A0_0 l0_0.length c0_0)] 28 (0, 0))) ∧ Aside0 (w'.heap[gb200]? = some (.cells #[u201000] 28 (0, 0))) ∧ Aside0 (w'.heap[gb201]? = some (.cells #[(.slice none 0 0)] 28 (0, 0))) ∧ Aside0 (Below w.heap.size w w'))
 case atStart => exact ⟨(y205), (0), (l2_0), (.slice A2_0 l2_0.length c2_0), (by first | rfl | (simp; done) | (simp [*]; done)), H', ⟨Nat.le_refl _⟩, ⟨zr (Kd.R_mono HO204.out (fun _ hk => hk.1))⟩, ⟨zr (Kd.R_mono HO207.out (fun _ hk => hk.1))⟩, ⟨by (with_reducible repeat (first | apply Kd.V_alloc | apply Kd.V_drewN | apply Kd.V_drew)); exact Kd.V_mono HO2_0.out (fun _ hk => ⟨hk.1.1.1.1.1, ⟨hk.1.2, ⟨hk.2, ⟨hk.1.1.1.1.2, ⟨hk.1.1.1.2, hk.1.1.2⟩⟩⟩⟩⟩)⟩, ⟨zh BK199.out⟩, ⟨zh BK200.out⟩, ⟨zh BK201.out⟩, ⟨zb HB.out⟩⟩
 case round =>
  clear H'
  try clear c1
  try clear c2
  try clear p2
  try clear c4
  try clear c5
  try clear c5b0
  try clear c5b1
  try clear c6
  try clear c6b0
  try clear c6b1
  try clear c10
  try clear c11
  try clear hcz12_0
  try clear hcz14_0
  try clear hfz12_0
  try clear hfz14_0
  try clear HO_8
  try clear HO_9
  try clear HO_201000
  try clear BK199
  try clear BK200
  try clear BK201
  try clear HB
  obtain ⟨x9_1, x10_1, x201000_1, u201000, rfl, HA, HK1, HO_8, HO_9, HO_201000, BK199, BK200, BK201, HB⟩ := hrel
  cases gk with
  | zero => exact absurd HA.out (by simp [spec_l5Carry.l0])
  | succ k1 =>
   have H := HA.out
   clear HA
   simp only [spec_l5Carry.l0] at H
   by_cases c17 : x10_1 ≤ a1
   rotate_left
   ·rw [if_neg c17] at H
    have c17b0 : decide (x10_1 ≤ a1) = false := decide_eq_false c17
    clear c17
    by_cases c144 : 0 ≤ a1
    rotate_left
    ·rw [if_neg c144] at H
     exact absurd H (by simp)
    rw [if_pos c144] at H
    have c144b0 : decide (0 ≤ a1) = true := decide_eq_true c144
    clear c144
    by_cases c145 : a1 < (x9_1.length : Int)
    rotate_left
    ·rw [if_neg c145] at H
     exact absurd H (by simp)
    rw [if_pos c145] at H
    have c145b0 : decide (a1 < (x9_1.length : Int)) = true := decide_eq_true c145
    clear c145
    simp only [Option.some.injEq, Prod.mk.injEq] at H
    obtain ⟨rfl, rfl⟩ := H
    try go_wp2
    have n0_ := Aside0.mk (Kd.R_drew HO_8.out)
    have n1_ := Aside0.mk (Kd.R_drew HO_9.out)
    have n2_ := Aside0.mk (Kd.V_drew HO_201000.out)
    have n3_ := Aside0.mk (blk_drew BK199.out)
    have n4_ := Aside0.mk (blk_drew BK200.out)
    have n5_ := Aside0.mk (blk_drew BK201.out)
    have n6_ := Aside0.mk (below_drew1 HB.out)
    clear HO_8 HO_9 HO_201000 BK199 BK200 BK201 HB
    have HO_8 := n0_
    have HO_9 := n1_
    have HO_201000 := n2_
    have BK199 := n3_
    have BK200 := n4_
    have BK201 := n5_
    have HB := n6_
    clear n0_ n1_ n2_ n3_ n4_ n5_ n6_
    obtain ⟨Ao147, co147, eo147⟩ := Kd.R_slice HO_9.out
    (first | subst eo147 | (injection eo147 with f1_ f2_ f3_; have f4_ := f1_.symm; have f5_ := f3_.symm; clear f1_ f2_ f3_; subst f4_; subst f5_))
    have p208 : 0 ≤ (a1 : Int) := of_decide_eq_true (by first | (with_reducible assumption) | assumption)
    have q208 : a1 < (x9_1.length : Int) := of_decide_eq_true (by first | (with_reducible assumption) | assumption)
    obtain ⟨ad208, e208, hx208_0⟩ := Kd.at_int (Kd.R_reads' HO_9.out).2.2 a1 p208 q208
    cases e208
    replace p208 := eq_true p208
    replace q208 := eq_true q208
    obtain ⟨Ao148, co148, eo148⟩ := Kd.V_slice HO_201000.out
    (first | subst eo148 | (injection eo148 with f1_ f2_ f3_; have f4_ := f1_.symm; have f5_ := f3_.symm; clear f1_ f2_ f3_; subst f4_; subst f5_))
    refine start_ (n := 7) (S := fun w' => w'.cell? ⟨gb200, 0, none⟩ = some (.slice Ao148 x201000_1.length co148) ∧ w'.cell? (ad208.add (a1).toNat) = some (.int .i64 (rd x9_1 a1))) (ds := []) #[false, false, false, false, false, false, false] (by kernel_rfl) rfl rfl ⟨(blk_cell BK200.out 0).trans rfl, hx208_0⟩ (fun hHeld => ?_)
    generalize wr.drew = w146 at HO_8 HO_9 HO_201000 BK199 BK200 BK201 HB hx208_0 hHeld ⊢
    refine pure_ (i := 1) (N := some 71) (v := ?_) (a' := ?_) (zB 7 2) rfl rfl (by kernel_rfl) (fun _ _ _ h => h) (Or.inl ⟨by rfl, ?_⟩) ?_ ?_
    rotate_left
    ·intro w'
     go_simp
     with_reducible rfl
    rotate_left
    ·exact zn
    refine pure_ (i := 2) (N := some 72) (v := ?_) (a' := ?_) (zB 7 6) rfl rfl (by kernel_rfl) (fun _ _ _ h => h) (Or.inl ⟨by rfl, ?_⟩) ?_ ?_
    rotate_left
    ·intro w'
     go_simp
     with_reducible rfl
    rotate_left
    ·exact zn
    refine pure_ (i := 3) (N := some 73) (v := ?_) (a' := ?_) (zB 7 14) rfl rfl (by kernel_rfl) (fun _ _ _ h => h) (Or.inl ⟨by rfl, ?_⟩) ?_ ?_
    rotate_left
    ·intro w'
     go_simp
     with_reducible rfl
    rotate_left
    ·exact zn
    refine take_ (i := 0) (N := some 70) (v := ?_) (a' := ?_) (zB 7 15) rfl rfl (by kernel_rfl) (fun _ _ _ h => h) (Or.inl ⟨by rfl, ?_⟩) hHeld ?_ ?_
    rotate_left
    ·rintro w' ⟨s0, s1⟩
     go_simp
     with_reducible rfl
    rotate_left
    ·exact zn
    refine take_ (i := 4) (N := some 74) (v := ?_) (a' := ?_) (zB 7 31) rfl rfl (by kernel_rfl) (fun _ _ _ h => h) (Or.inl ⟨by rfl, ?_⟩) hHeld ?_ ?_
    rotate_left
    ·rintro w' ⟨s0, s1⟩
     go_simp
     with_reducible rfl
    rotate_left
    ·exact zn
    refine one_ (i := 5) (N := none) (zB 7 63) rfl rfl (by kernel_rfl) (by decide) (fun K hK => ?_)
    have hs149 : w146.cell? ⟨gb201, 0, none⟩ = some (.slice none 0 0) := (blk_cell BK201.out 0).trans rfl
    have hfs149 := blk_frozen BK201.out 0
    have hns149_0 := NB199_201.out
    have hns149_1 := NB200_201.out
    have hms149_0 := NB201_199.out
    have hms149_1 := NB201_200.out
    refine skip_ (w1 := ?_) (by rfl) rfl ?_ ?_
    rotate_left
    ·go_simp
     rfl
    refine hK.out _ _ ⟨((cell_far (p := ⟨gb201, _, none⟩) NB200_201.out _).trans (hHeld.1)), ((cell_far (p := ⟨gb201, _, none⟩) (by first | exact Kd.own_blk (Kd.R_ne HO_9.out BK201.out (by decide)) | (rw [add_block]; exact Kd.own_blk (Kd.R_ne HO_9.out BK201.out (by decide))) | (show (Addr.add _ _).block ≠ _; rw [add_block]; exact Kd.own_blk (Kd.R_ne HO_9.out BK201.out (by decide))) | (dsimp only; exact Kd.own_blk (Kd.R_ne HO_9.out BK201.out (by decide)))) _).trans (hHeld.2))⟩ (fun hHeld => ?_)
    clear hK K
    refine pure_ (i := 6) (N := some 7) (v := ?_) (a' := ?_) (zB 7 127) rfl rfl (by kernel_rfl) (fun _ _ _ h => h) (Or.inl ⟨by rfl, ?_⟩) ?_ ?_
    rotate_left
    ·intro w'
     go_simp
     with_reducible rfl
    rotate_left
    ·exact zn
    refine done_ (by kernel_rfl) ?_
    try go_wp2
    refine bodyPost_ret (results_ct rfl _ _ gb201 28 #[.slice Ao148 x201000_1.length co148] (0, 0) _ rfl (by (with_reducible repeat (first | refine blk_drewN ?_ _ | refine blk_drew ?_ | refine blk_alloc ?_ _)); refine blk_put (cs := #[.slice none 0 0]) ?_ 0 _ rfl; (with_reducible repeat (first | refine blk_drewN ?_ _ | refine blk_drew ?_ | refine blk_alloc ?_ _)); exact BK201.out) Try.underlying28 rfl (by kernel_rfl)) rfl ?_
    exact ⟨_, ze, by (with_reducible repeat (first | apply Kd.V_alloc | apply Kd.V_drewN | apply Kd.V_drew)); exact Kd.V_mono (Kd.V_far (p := ⟨gb201, 0, none⟩) (Kd.V_mono HO_201000.out (fun k_ hk => (⟨hk, hk.2.2.2.2.2⟩ : _ ∧ k_ ≠ gb201))) (fun _ hk => hk.2) (.slice Ao148 x201000_1.length co148)) (fun _ hk => hk.1.1), zb HB.out⟩
   rw [if_pos c17] at H
   have c17b0 : decide (x10_1 ≤ a1) = true := decide_eq_true c17
   clear c17
   by_cases c18 : 0 ≤ x10_1
   rotate_left
   ·rw [if_neg c18] at H
    exact absurd H (by simp)
   rw [if_pos c18] at H
   have c18b0 : decide (0 ≤ x10_1) = true := decide_eq_true c18
   clear c18
   by_cases c19 : x10_1 < (t202.length : Int)
   rotate_left
   ·rw [if_neg c19] at H
    exact absurd H (by simp)
   rw [if_pos c19] at H
   have c19b0 : decide (x10_1 < (t202.length : Int)) = true := decide_eq_true c19
   clear c19
   obtain ⟨bq20, hbq20⟩ : ∃ b_ : Bool, b_ = (rdOf false t202 x10_1) := ⟨_, rfl⟩
   replace H : (if bq20 = true then (if x10_1 < (l0_0.length : Int) then ((spec_l1Parts.f k1 ((rd_T55 l0_0 x10_1).f0)).bind fun t212 => (if t212 > 0 then (if 0 ≤ ((rd_T55 l0_0 x10_1).f1) then (if ((rd_T55 l0_0 x10_1).f1) < (x9_1.length : Int) then (spec_l5Carry.j1 k1 a1 t202 x9_1 x10_1 t212 l0_0 x201000_1 ((rd_T55 l0_0 x10_1).f0) (rd x9_1 ((rd_T55 l0_0 x10_1).f1)) ((rd_T55 l0_0 x10_1).f2)) else (none)) else (none)) else (spec_l5Carry.j1 k1 a1 t202 x9_1 x10_1 t212 l0_0 x201000_1 ((rd_T55 l0_0 x10_1).f0) ((rd_T55 l0_0 x10_1).f1) ((rd_T55 l0_0 x10_1).f2)))) else (none)) else (spec_l5Carry.l0 k1 a1 t202 x9_1 (wrap64 (x10_1 + 1)) l0_0 x201000_1)) = some (r1, r2) := by rw [← hbq20] at H; exact H
   have Nbq20 := Aside0.mk hbq20
   clear hbq20
   by_cases c21 : bq20 = true
   rotate_left
   ·replace c21 := Bool.eq_false_iff.mpr c21
    subst c21
    have H1 : (spec_l5Carry.l0 k1 a1 t202 x9_1 (wrap64 (x10_1 + 1)) l0_0 x201000_1) = some (r1, r2) := by rw [if_neg (show ¬ (false = true) by decide)] at H; exact H
    clear H
    have H := H1
    clear H1
    have H' := Aside0.mk H
    clear H
    obtain ⟨Ao143, co143, eo143⟩ := Kd.R_slice HO_8.out
    subst eo143
    have p209 : 0 ≤ (x10_1 : Int) := of_decide_eq_true (by first | (with_reducible assumption) | assumption)
    have q209 : x10_1 < (t202.length : Int) := of_decide_eq_true (by first | (with_reducible assumption) | assumption)
    obtain ⟨ad209, e209, hx209_0⟩ := Kd.at_bool (Kd.R_reads' HO_8.out).2.2 x10_1 p209 q209
    (try rw [← Nbq20.out] at hx209_0)
    cases e209
    replace p209 := eq_true p209
    replace q209 := eq_true q209
    go_wp2
    go_roundg k1
    case measure => have := HK1.out; omega
    case rel => exact ⟨(x9_1), (wrap64 (x10_1 + 1)), (x201000_1), (u201000), (by first | rfl | (simp; done) | (simp [*]; done)), H', ⟨by have := HK1.out; omega⟩, ⟨zr HO_8.out⟩, ⟨zr HO_9.out⟩, ⟨by (with_reducible repeat (first | apply Kd.V_alloc | apply Kd.V_drewN | apply Kd.V_drew)); exact HO_201000.out⟩, ⟨zh BK199.out⟩, ⟨zh BK200.out⟩, ⟨zh BK201.out⟩, ⟨zb HB.out⟩⟩
   subst c21
   have H1 : (if x10_1 < (l0_0.length : Int) then ((spec_l1Parts.f k1 ((rd_T55 l0_0 x10_1).f0)).bind fun t212 => (if t212 > 0 then (if 0 ≤ ((rd_T55 l0_0 x10_1).f1) then (if ((rd_T55 l0_0 x10_1).f1) < (x9_1.length : Int) then (spec_l5Carry.j1 k1 a1 t202 x9_1 x10_1 t212 l0_0 x201000_1 ((rd_T55 l0_0 x10_1).f0) (rd x9_1 ((rd_T55 l0_0 x10_1).f1)) ((rd_T55 l0_0 x10_1).f2)) else (none)) else (none)) else (spec_l5Carry.j1 k1 a1 t202 x9_1 x10_1 t212 l0_0 x201000_1 ((rd_T55 l0_0 x10_1).f0) ((rd_T55 l0_0 x10_1).f1) ((rd_T55 l0_0 x10_1).f2)))) else (none)) = some (r1, r2) := by rw [if_pos rfl] at H; exact H
   clear H
   have H := H1
   clear H1
   by_cases c22 : x10_1 < (l0_0.length : Int)
   rotate_left
   ·rw [if_neg c22] at H
    exact absurd H (by simp)
   rw [if_pos c22] at H
   have c22b0 : decide (x10_1 < (l0_0.length : Int)) = true := decide_eq_true c22
   clear c22
   replace H := Option.bind_eq_some_iff.mp H
   obtain ⟨t212, A230, H⟩ := H
   replace H : (if t212 > 0 then (if 0 ≤ ((rd_T55 l0_0 x10_1).f1) then (if ((rd_T55 l0_0 x10_1).f1) < (x9_1.length : Int) then (spec_l5Carry.j1 k1 a1 t202 x9_1 x10_1 t212 l0_0 x201000_1 ((rd_T55 l0_0 x10_1).f0) (rd x9_1 ((rd_T55 l0_0 x10_1).f1)) ((rd_T55 l0_0 x10_1).f2)) else (none)) else (none)) else (spec_l5Carry.j1 k1 a1 t202 x9_1 x10_1 t212 l0_0 x201000_1 ((rd_T55 l0_0 x10_1).f0) ((rd_T55 l0_0 x10_1).f1) ((rd_T55 l0_0 x10_1).f2))) = some (r1, r2) := H
   have A23 := Aside0.mk A230
   clear A230
   have HC24 := Aside0.mk H
   clear H
   obtain ⟨Ao25, co25, eo25⟩ := Kd.R_slice HO_8.out
   subst eo25
   have p209 : 0 ≤ (x10_1 : Int) := of_decide_eq_true (by first | (with_reducible assumption) | assumption)
   have q209 : x10_1 < (t202.length : Int) := of_decide_eq_true (by first | (with_reducible assumption) | assumption)
   obtain ⟨ad209, e209, hx209_0⟩ := Kd.at_bool (Kd.R_reads' HO_8.out).2.2 x10_1 p209 q209
   (try rw [← Nbq20.out] at hx209_0)
   cases e209
   replace p209 := eq_true p209
   replace q209 := eq_true q209
   have hnb26 := NB199_200.out
   have hnc26 := NB200_199.out
   have hnb27 := NB199_201.out
   have hnc27 := NB201_199.out
   have hcz28_0 : wr.cell? ⟨gb199, 0, none⟩ = some (.slice A0_0 l0_0.length c0_0) := (blk_cell BK199.out 0).trans rfl
   have hfz28_0 := blk_frozen BK199.out 0
   have p210 : 0 ≤ (x10_1 : Int) := of_decide_eq_true (by first | (with_reducible assumption) | assumption)
   have q210 : x10_1 < (l0_0.length : Int) := of_decide_eq_true (by first | (with_reducible assumption) | assumption)
   obtain ⟨ad210, e210, hx210_0, hx210_1, hx210_2⟩ := at_T55 HR0_0.out x10_1 p210 q210
   cases e210
   replace hx210_0 := (HB.out.cell (World.block_lt_of_cell? w _ hx210_0)).trans hx210_0
   replace hx210_1 := (HB.out.cell (World.block_lt_of_cell? w _ hx210_1)).trans hx210_1
   replace hx210_2 := (HB.out.cell (World.block_lt_of_cell? w _ hx210_2)).trans hx210_2
   replace p210 := eq_true p210
   replace q210 := eq_true q210
   go_upto_if 41 with (first | ((with_reducible refine gate_dst (N := 11) rfl ?_); refine box_event ?hg (N := 11) ?hd (cs := #[.int .i64 0, .int .i64 0, .int .i64 0]) (t := 55) ?hr ?_; (case hd => rfl); (case hg => rfl); (case hr => first | (go_simp; done) | (go_simp; rfl)); intro gb211 hg w29 hbox hb; have n0_ := Aside0.mk (Kd.R_below (zr HO_8.out) hb); have n1_ := Aside0.mk (Kd.R_below (zr HO_9.out) hb); have n2_ := Aside0.mk (Kd.V_below (Kd.V_elderB (by (with_reducible repeat (first | apply Kd.V_alloc | apply Kd.V_drewN | apply Kd.V_drew)); exact HO_201000.out) gb211 (Nat.le_of_eq hg.symm)) hb); have n3_ := Aside0.mk (blk_below (zh BK199.out) hb); have n4_ := Aside0.mk (blk_below (zh BK200.out) hb); have n5_ := Aside0.mk (blk_below (zh BK201.out) hb); have n6_ := Aside0.mk (below_step (zb HB.out) hb); have n7_ := Aside0.mk (hbox); have n8_ := Aside0.mk ((by rw [hg]; exact (below_size (zb HB.out)) : w.heap.size ≤ gb211)); have n9_ := Aside0.mk ((by rw [hg]; exact (below_size (zb HB.out)) : w.heap.size ≤ gb211)); have n10_ := Aside0.mk ((by rw [hg]; exact Nat.ne_of_lt (blk_lt (zh BK199.out)) : gb199 ≠ gb211)); have n11_ := Aside0.mk ((by rw [hg]; exact Nat.ne_of_gt (blk_lt (zh BK199.out)) : gb211 ≠ gb199)); have n12_ := Aside0.mk ((by rw [hg]; exact Nat.ne_of_lt (blk_lt (zh BK200.out)) : gb200 ≠ gb211)); have n13_ := Aside0.mk ((by rw [hg]; exact Nat.ne_of_gt (blk_lt (zh BK200.out)) : gb211 ≠ gb200)); have n14_ := Aside0.mk ((by rw [hg]; exact Nat.ne_of_lt (blk_lt (zh BK201.out)) : gb201 ≠ gb211)); have n15_ := Aside0.mk ((by rw [hg]; exact Nat.ne_of_gt (blk_lt (zh BK201.out)) : gb211 ≠ gb201)); clear HO_8 HO_9 HO_201000 BK199 BK200 BK201 HB; have HO_8 := n0_; have HO_9 := n1_; have HO_201000 := n2_; have BK199 := n3_; have BK200 := n4_; have BK201 := n5_; have HB := n6_; have BK211 := n7_; have GW211 := n8_; have GE211 := n9_; have NB199_211 := n10_; have NB211_199 := n11_; have NB200_211 := n12_; have NB211_200 := n13_; have NB201_211 := n14_; have NB211_201 := n15_; clear n0_ n1_ n2_ n3_ n4_ n5_ n6_ n7_ n8_ n9_ n10_ n11_ n12_ n13_ n14_ n15_ hb hbox hg; have hnb30 := NB211_199.out; have hnc30 := NB199_211.out; have hnb31 := NB211_200.out; have hnc31 := NB200_211.out; have hnb32 := NB211_201.out; have hnc32 := NB201_211.out; have hcz33_0 : w29.cell? ⟨gb211, 0, none⟩ = some (.int .i64 0) := (blk_cell BK211.out 0).trans rfl; have hcz33_1 : w29.cell? ⟨gb211, 1, none⟩ = some (.int .i64 0) := (blk_cell BK211.out 1).trans rfl; have hcz33_2 : w29.cell? ⟨gb211, 2, none⟩ = some (.int .i64 0) := (blk_cell BK211.out 2).trans rfl; have hfz33_0 := blk_frozen BK211.out 0; have hfz33_1 := blk_frozen BK211.out 1; have hfz33_2 := blk_frozen BK211.out 2) | ((with_reducible refine gate_callee (f := 29) rfl ?_); refine goesL_ (some 39) rfl rfl Try.func29 (by kernel_rfl) rfl #[.int .i64 ((rd_T55 l0_0 x10_1).f0)] rfl zl ?_; (with_reducible refine (spec_l1Parts.calls k1 ((rd_T55 l0_0 x10_1).f0) t212 _ A23.out).mono ?_); rintro e w' ⟨rfl, ⟨nd, rfl⟩⟩; refine ⟨_, rfl, ?_⟩))
   (try simp only [Act.put, List.setIfInBounds_toArray, List.set_cons_zero, List.set_cons_succ])
   go_cut [] (fun wc => ∃ (kq : Nat) (x212001_23 : Int), Aside0 (spec_l5Carry.j1 kq a1 t202 x9_1 x10_1 t212 l0_0 x201000_1 ((rd_T55 l0_0 x10_1).f0) x212001_23 ((rd_T55 l0_0 x10_1).f2) = some (r1, r2)) ∧ Aside0 (kq ≤ k1) ∧ Aside0 (Kd.R Kd.bool 4 wc w.heap.size (fun k_ => (w.heap.size ≤ k_)) (.slice (some ad209) t202.length co25) t202) ∧ Aside0 (Kd.R (Kd.int .i64) 3 wc w.heap.size (fun k_ => (w.heap.size ≤ k_)) v206 x9_1) ∧ Aside0 (Kd.V k55 55 wc w.heap.size (fun k_ => (P2_0_ k_ ∨ w.heap.size ≤ k_) ∧ some k_ ≠ ((.slice (some ad209) t202.length co25) : Value).ownBlock ∧ some k_ ≠ (v206 : Value).ownBlock ∧ k_ ≠ gb199 ∧ k_ ≠ gb200 ∧ k_ ≠ gb201 ∧ k_ ≠ gb211) u201000 x201000_1) ∧ Aside0 (wc.heap[gb199]? = some (.cells #[(.slice (some ad210) l0_0.length c0_0)] 28 (0, 0))) ∧ Aside0 (wc.heap[gb200]? = some (.cells #[u201000] 28 (0, 0))) ∧ Aside0 (wc.heap[gb201]? = some (.cells #[(.slice none 0 0)] 28 (0, 0))) ∧ Aside0 (wc.heap[gb211]? = some (.cells #[.int .i64 ((rd_T55 l0_0 x10_1).f0), .int .i64 x212001_23, .int .i64 ((rd_T55 l0_0 x10_1).f2)] 55 (0, 0))) ∧ Aside0 (Below w.heap.size w wc))
   case first =>
    have H := HC24.out
    clear HC24
    by_cases c34 : t212 > 0
    rotate_left
    ·rw [if_neg c34] at H
     have c34b0 : decide (0 < t212) = false := decide_eq_false c34
     clear c34
     (first | rw [c34b0] | (simp only [i64_w, i32_w]; rw [c34b0]) | skip)
     have H' := Aside0.mk H
     clear H
     go_wp2
     go_meet
     case rel => exact ⟨_, ((rd_T55 l0_0 x10_1).f1), H', ⟨by have := HK1.out; first | omega | exact Nat.le_refl _⟩, ⟨zr (Kd.R_mono (Kd.R_far (p := ⟨gb211, 2, none⟩) (Kd.R_far (p := ⟨gb211, 1, none⟩) (Kd.R_far (p := ⟨gb211, 0, none⟩) (Kd.R_types HO_8.out BK211.out (by decide)) (fun _ hk => hk.2) (.int .i64 ((rd_T55 l0_0 x10_1).f0))) (fun _ hk => hk.2) (.int .i64 ((rd_T55 l0_0 x10_1).f1))) (fun _ hk => hk.2) (.int .i64 ((rd_T55 l0_0 x10_1).f2))) (fun _ hk => hk.1))⟩, ⟨zr (Kd.R_mono (Kd.R_far (p := ⟨gb211, 2, none⟩) (Kd.R_far (p := ⟨gb211, 1, none⟩) (Kd.R_far (p := ⟨gb211, 0, none⟩) (Kd.R_types HO_9.out BK211.out (by decide)) (fun _ hk => hk.2) (.int .i64 ((rd_T55 l0_0 x10_1).f0))) (fun _ hk => hk.2) (.int .i64 ((rd_T55 l0_0 x10_1).f1))) (fun _ hk => hk.2) (.int .i64 ((rd_T55 l0_0 x10_1).f2))) (fun _ hk => hk.1))⟩, ⟨by (with_reducible repeat (first | apply Kd.V_alloc | apply Kd.V_drewN | apply Kd.V_drew)); exact Kd.V_mono (Kd.V_far (p := ⟨gb211, 2, none⟩) (Kd.V_far (p := ⟨gb211, 1, none⟩) (Kd.V_far (p := ⟨gb211, 0, none⟩) (Kd.V_mono HO_201000.out (fun k_ hk => (⟨hk, hk.2⟩ : _ ∧ k_ ≠ gb211))) (fun _ hk => hk.2) (.int .i64 ((rd_T55 l0_0 x10_1).f0))) (fun _ hk => hk.2) (.int .i64 ((rd_T55 l0_0 x10_1).f1))) (fun _ hk => hk.2) (.int .i64 ((rd_T55 l0_0 x10_1).f2))) (fun _ hk => ⟨hk.1.1.1, ⟨hk.1.1.2.1, ⟨hk.1.1.2.2.1, ⟨hk.1.1.2.2.2.1, ⟨hk.1.1.2.2.2.2.1, ⟨hk.1.1.2.2.2.2.2, hk.1.2⟩⟩⟩⟩⟩⟩)⟩, ⟨zf BK199.out⟩, ⟨zf BK200.out⟩, ⟨zf BK201.out⟩, ⟨by (with_reducible repeat (first | refine blk_drewN ?_ _ | refine blk_drew ?_ | refine blk_alloc ?_ _)); refine blk_put (cs := #[.int .i64 ((rd_T55 l0_0 x10_1).f0), .int .i64 ((rd_T55 l0_0 x10_1).f1), .int .i64 0]) ?_ 2 _ rfl; (with_reducible repeat (first | refine blk_drewN ?_ _ | refine blk_drew ?_ | refine blk_alloc ?_ _)); refine blk_put (cs := #[.int .i64 ((rd_T55 l0_0 x10_1).f0), .int .i64 0, .int .i64 0]) ?_ 1 _ rfl; (with_reducible repeat (first | refine blk_drewN ?_ _ | refine blk_drew ?_ | refine blk_alloc ?_ _)); refine blk_put (cs := #[.int .i64 0, .int .i64 0, .int .i64 0]) ?_ 0 _ rfl; (with_reducible repeat (first | refine blk_drewN ?_ _ | refine blk_drew ?_ | refine blk_alloc ?_ _)); exact BK211.out⟩, ⟨zb HB.out⟩⟩
    rw [if_pos c34] at H
    have c34b0 : decide (0 < t212) = true := decide_eq_true c34
    clear c34
    (first | rw [c34b0] | (simp only [i64_w, i32_w]; rw [c34b0]) | skip)
    by_cases c35 : 0 ≤ ((rd_T55 l0_0 x10_1).f1)
    rotate_left
    ·rw [if_neg c35] at H
     exact absurd H (by simp)
    rw [if_pos c35] at H
    have c35b0 : decide (0 ≤ ((rd_T55 l0_0 x10_1).f1)) = true := decide_eq_true c35
    clear c35
    by_cases c36 : ((rd_T55 l0_0 x10_1).f1) < (x9_1.length : Int)
    rotate_left
    ·rw [if_neg c36] at H
     exact absurd H (by simp)
    rw [if_pos c36] at H
    have c36b0 : decide (((rd_T55 l0_0 x10_1).f1) < (x9_1.length : Int)) = true := decide_eq_true c36
    clear c36
    have H' := Aside0.mk H
    clear H
    have hnb37 := NB211_199.out
    have hnc37 := NB199_211.out
    have hnb38 := NB211_200.out
    have hnc38 := NB200_211.out
    have hnb39 := NB211_201.out
    have hnc39 := NB201_211.out
    have hcz40_0 : w29.cell? ⟨gb211, 0, none⟩ = some (.int .i64 0) := (blk_cell BK211.out 0).trans rfl
    have hcz40_1 : w29.cell? ⟨gb211, 1, none⟩ = some (.int .i64 0) := (blk_cell BK211.out 1).trans rfl
    have hcz40_2 : w29.cell? ⟨gb211, 2, none⟩ = some (.int .i64 0) := (blk_cell BK211.out 2).trans rfl
    have hfz40_0 := blk_frozen BK211.out 0
    have hfz40_1 := blk_frozen BK211.out 1
    have hfz40_2 := blk_frozen BK211.out 2
    obtain ⟨Ao41, co41, eo41⟩ := Kd.R_slice HO_9.out
    subst eo41
    have p213 : 0 ≤ (((rd_T55 l0_0 x10_1).f1) : Int) := of_decide_eq_true (by first | (with_reducible assumption) | assumption)
    have q213 : ((rd_T55 l0_0 x10_1).f1) < (x9_1.length : Int) := of_decide_eq_true (by first | (with_reducible assumption) | assumption)
    obtain ⟨ad213, e213, hx213_0⟩ := Kd.at_int (Kd.R_reads' HO_9.out).2.2 ((rd_T55 l0_0 x10_1).f1) p213 q213
    cases e213
    have hn213_0 : ad213.block ≠ gb211 := Kd.own_blk (Kd.R_ne HO_9.out BK211.out (by decide))
    have hn213_1 : ad213.block ≠ gb211 := Kd.own_blk (Kd.R_ne HO_9.out BK211.out (by decide))
    have hn213_2 : ad213.block ≠ gb211 := Kd.own_blk (Kd.R_ne HO_9.out BK211.out (by decide))
    replace hx213_0 := (cell_far (p := ⟨gb211, 0, none⟩) (by first | (rw [add_block]; exact hn213_0) | (show (Addr.add _ _).block ≠ _; rw [add_block]; exact hn213_0) | exact hn213_0) (.int .i64 ((rd_T55 l0_0 x10_1).f0))).trans hx213_0
    replace hx213_0 := (cell_far (p := ⟨gb211, 1, none⟩) (by first | (rw [add_block]; exact hn213_1) | (show (Addr.add _ _).block ≠ _; rw [add_block]; exact hn213_1) | exact hn213_1) (.int .i64 ((rd_T55 l0_0 x10_1).f1))).trans hx213_0
    replace hx213_0 := (cell_far (p := ⟨gb211, 2, none⟩) (by first | (rw [add_block]; exact hn213_2) | (show (Addr.add _ _).block ≠ _; rw [add_block]; exact hn213_2) | exact hn213_2) (.int .i64 ((rd_T55 l0_0 x10_1).f2))).trans hx213_0
    clear hn213_0 hn213_1 hn213_2
    replace p213 := eq_true p213
    replace q213 := eq_true q213
    go_wp2
    go_meet
    case rel => exact ⟨_, (rd x9_1 ((rd_T55 l0_0 x10_1).f1)), H', ⟨by have := HK1.out; first | omega | exact Nat.le_refl _⟩, ⟨zr (Kd.R_mono (Kd.R_far (p := ⟨gb211, 1, none⟩) (Kd.R_far (p := ⟨gb211, 2, none⟩) (Kd.R_far (p := ⟨gb211, 1, none⟩) (Kd.R_far (p := ⟨gb211, 0, none⟩) (Kd.R_types HO_8.out BK211.out (by decide)) (fun _ hk => hk.2) (.int .i64 ((rd_T55 l0_0 x10_1).f0))) (fun _ hk => hk.2) (.int .i64 ((rd_T55 l0_0 x10_1).f1))) (fun _ hk => hk.2) (.int .i64 ((rd_T55 l0_0 x10_1).f2))) (fun _ hk => hk.2) (.int .i64 (rd x9_1 ((rd_T55 l0_0 x10_1).f1)))) (fun _ hk => hk.1))⟩, ⟨zr (Kd.R_mono (Kd.R_far (p := ⟨gb211, 1, none⟩) (Kd.R_far (p := ⟨gb211, 2, none⟩) (Kd.R_far (p := ⟨gb211, 1, none⟩) (Kd.R_far (p := ⟨gb211, 0, none⟩) (Kd.R_types HO_9.out BK211.out (by decide)) (fun _ hk => hk.2) (.int .i64 ((rd_T55 l0_0 x10_1).f0))) (fun _ hk => hk.2) (.int .i64 ((rd_T55 l0_0 x10_1).f1))) (fun _ hk => hk.2) (.int .i64 ((rd_T55 l0_0 x10_1).f2))) (fun _ hk => hk.2) (.int .i64 (rd x9_1 ((rd_T55 l0_0 x10_1).f1)))) (fun _ hk => hk.1))⟩, ⟨by (with_reducible repeat (first | apply Kd.V_alloc | apply Kd.V_drewN | apply Kd.V_drew)); exact Kd.V_mono (Kd.V_far (p := ⟨gb211, 1, none⟩) (Kd.V_far (p := ⟨gb211, 2, none⟩) (Kd.V_far (p := ⟨gb211, 1, none⟩) (Kd.V_far (p := ⟨gb211, 0, none⟩) (Kd.V_mono HO_201000.out (fun k_ hk => (⟨hk, hk.2⟩ : _ ∧ k_ ≠ gb211))) (fun _ hk => hk.2) (.int .i64 ((rd_T55 l0_0 x10_1).f0))) (fun _ hk => hk.2) (.int .i64 ((rd_T55 l0_0 x10_1).f1))) (fun _ hk => hk.2) (.int .i64 ((rd_T55 l0_0 x10_1).f2))) (fun _ hk => hk.2) (.int .i64 (rd x9_1 ((rd_T55 l0_0 x10_1).f1)))) (fun _ hk => ⟨hk.1.1.1, ⟨hk.1.1.2.1, ⟨hk.1.1.2.2.1, ⟨hk.1.1.2.2.2.1, ⟨hk.1.1.2.2.2.2.1, ⟨hk.1.1.2.2.2.2.2, hk.1.2⟩⟩⟩⟩⟩⟩)⟩, ⟨zf BK199.out⟩, ⟨zf BK200.out⟩, ⟨zf BK201.out⟩, ⟨by (with_reducible repeat (first | refine blk_drewN ?_ _ | refine blk_drew ?_ | refine blk_alloc ?_ _)); refine blk_put (cs := #[.int .i64 ((rd_T55 l0_0 x10_1).f0), .int .i64 ((rd_T55 l0_0 x10_1).f1), .int .i64 ((rd_T55 l0_0 x10_1).f2)]) ?_ 1 _ rfl; (with_reducible repeat (first | refine blk_drewN ?_ _ | refine blk_drew ?_ | refine blk_alloc ?_ _)); refine blk_put (cs := #[.int .i64 ((rd_T55 l0_0 x10_1).f0), .int .i64 ((rd_T55 l0_0 x10_1).f1), .int .i64 0]) ?_ 2 _ rfl; (with_reducible repeat (first | refine blk_drewN ?_ _ | refine blk_drew ?_ | refine blk_alloc ?_ _)); refine blk_put (cs := #[.int .i64 ((rd_T55 l0_0 x10_1).f0), .int .i64 0, .int .i64 0]) ?_ 1 _ rfl; (with_reducible repeat (first | refine blk_drewN ?_ _ | refine blk_drew ?_ | refine blk_alloc ?_ _)); refine blk_put (cs := #[.int .i64 0, .int .i64 0, .int .i64 0]) ?_ 0 _ rfl; (with_reducible repeat (first | refine blk_drewN ?_ _ | refine blk_drew ?_ | refine blk_alloc ?_ _)); exact BK211.out⟩, ⟨zb HB.out⟩⟩
   case rest =>
    clear HC24
    try clear c1
    try clear c2
    try clear p2
    try clear q2
    try clear hx2
    try clear c3
    try clear c4
    try clear c5
    try clear c5b0
    try clear c5b1
    try clear c6
    try clear c6b0
    try clear c6b1
    try clear p6
    try clear c10
    try clear c11
    try clear c17
    try clear c17b0
    try clear c18
    try clear c18b0
    try clear c19
    try clear c19b0
    try clear p20
    try clear q20
    try clear hx20
    try clear c21
    try clear p21
    try clear q21
    try clear hx21
    try clear c22
    try clear c22b0
    try clear c26
    try clear c27
    try clear c28
    try clear c29
    try clear c30
    try clear c31
    try clear c32
    try clear c34
    try clear c34b0
    try clear c35
    try clear c35b0
    try clear c36
    try clear c36b0
    try clear c37
    try clear c38
    try clear c39
    try clear c40
    try clear hcz12_0
    try clear hcz14_0
    try clear hcz28_0
    try clear hcz33_0
    try clear hcz33_1
    try clear hcz33_2
    try clear hcz40_0
    try clear hcz40_1
    try clear hcz40_2
    try clear hfz12_0
    try clear hfz14_0
    try clear hfz28_0
    try clear hfz33_0
    try clear hfz33_1
    try clear hfz33_2
    try clear hfz40_0
    try clear hfz40_1
    try clear hfz40_2
    try clear hx209_0
    try clear hx210_0
    try clear hx210_1
    try clear hx210_2
    try clear hx213_0
    try clear p2
    try clear p209
    try clear p210
    try clear p213
    try clear q209
    try clear q210
    try clear q213
    try clear HO_8
    try clear HO_9
    try clear HO_201000
    try clear BK199
    try clear BK200
    try clear BK201
    try clear BK211
    try clear HB
    obtain ⟨kq, x212001_23, HA, HJ23, HO_8, HO_9, HO_201000, BK199, BK200, BK201, BK211, HB⟩ := hcut
    cases kq with
    | zero => exact absurd HA.out (by simp [spec_l5Carry.j1])
    | succ kj23 =>
     have H := HA.out
     clear HA
     simp only [spec_l5Carry.j1] at H
     by_cases c42 : t212 > 1
     rotate_left
     ·rw [if_neg c42] at H
      have c42b0 : decide (1 < t212) = false := decide_eq_false c42
      clear c42
      replace H := Option.bind_eq_some_iff.mp H
      obtain ⟨⟨t221, t224⟩, A970, H⟩ := H
      replace H : (if t224 < 0 then (some (x201000_1, (-1))) else (if 0 ≤ x10_1 then (if x10_1 < (x9_1.length : Int) then (spec_l5Carry.l0 kj23 a1 t202 (x9_1.set (x10_1 : Int).toNat t224) (wrap64 (x10_1 + 1)) l0_0 t221) else (none)) else (none))) = some (r1, r2) := H
      have A97 := Aside0.mk A970
      clear A970
      by_cases c98 : t224 < 0
      ·rw [if_pos c98] at H
       have c98b0 : decide (t224 < 0) = true := decide_eq_true c98
       clear c98
       simp only [Option.some.injEq, Prod.mk.injEq] at H
       obtain ⟨rfl, rfl⟩ := H
       have hnb99 := NB200_199.out
       have hnc99 := NB199_200.out
       have hnb100 := NB200_201.out
       have hnc100 := NB201_200.out
       have hnb101 := NB200_211.out
       have hnc101 := NB211_200.out
       have hcz102_0 : wc.cell? ⟨gb200, 0, none⟩ = some (u201000) := (blk_cell BK200.out 0).trans rfl
       have hfz102_0 := blk_frozen BK200.out 0
       have hnb103 := NB211_199.out
       have hnc103 := NB199_211.out
       have hnb104 := NB211_201.out
       have hnc104 := NB201_211.out
       have hcz105_0 : wc.cell? ⟨gb211, 0, none⟩ = some (.int .i64 ((rd_T55 l0_0 x10_1).f0)) := (blk_cell BK211.out 0).trans rfl
       have hcz105_1 : wc.cell? ⟨gb211, 1, none⟩ = some (.int .i64 x212001_23) := (blk_cell BK211.out 1).trans rfl
       have hcz105_2 : wc.cell? ⟨gb211, 2, none⟩ = some (.int .i64 ((rd_T55 l0_0 x10_1).f2)) := (blk_cell BK211.out 2).trans rfl
       have hfz105_0 := blk_frozen BK211.out 0
       have hfz105_1 := blk_frozen BK211.out 1
       have hfz105_2 := blk_frozen BK211.out 2
       obtain ⟨Ao106, co106, eo106⟩ := Kd.V_slice HO_201000.out
       subst eo106
       go_wp2_with (first | ((with_reducible refine gate_callee (f := 30) rfl ?_); refine goesL_ (some 59) rfl rfl Try.func30 (by kernel_rfl) rfl #[.agg #[.slice Ao106 x201000_1.length co106], .agg #[.int .i64 ((rd_T55 l0_0 x10_1).f0), .int .i64 x212001_23, .int .i64 ((rd_T55 l0_0 x10_1).f2)]] rfl zl ?_; (with_reducible refine (spec_l5Carry.addV kj23 (fun k_ => ((P2_0_ k_ ∨ w.heap.size ≤ k_) ∧ (some k_ ≠ (.slice (some ad209) t202.length co25 : Value).ownBlock ∧ (some k_ ≠ (v206 : Value).ownBlock ∧ (k_ ≠ gb199 ∧ (k_ ≠ gb200 ∧ (k_ ≠ gb201 ∧ k_ ≠ gb211))))))) _ _ x201000_1 ((rd_T55 l0_0 x10_1).f0) x212001_23 ((rd_T55 l0_0 x10_1).f2) t221 t224 _ ?side1 A97.out).mono ?_); (case side1 => exact HO_201000.out); rintro e w107 ⟨v222, rfl, ho0, hb⟩; refine ⟨_, rfl, ?_⟩; have n0_ := Aside0.mk (Kd.R_below (zr HO_8.out) hb); have n1_ := Aside0.mk (Kd.R_below (zr HO_9.out) hb); have n2_ := Aside0.mk (Kd.V_below (by (with_reducible repeat (first | apply Kd.V_alloc | apply Kd.V_drewN | apply Kd.V_drew)); exact HO_201000.out) hb); have n3_ := Aside0.mk (Kd.V_lower (Kd.V_mono (ok' := fun k_ => (P2_0_ k_ ∨ w.heap.size ≤ k_) ∧ some k_ ≠ (.slice (some ad209) t202.length co25 : Value).ownBlock ∧ some k_ ≠ (v206 : Value).ownBlock ∧ k_ ≠ gb199 ∧ k_ ≠ gb200 ∧ k_ ≠ gb201 ∧ k_ ≠ gb211) ho0 (fun k_ hk_ => by first | exact ⟨Or.elim hk_ (fun hs_ => hs_.1) (fun hn_ => (.inr (Nat.le_trans (below_size (zb HB.out)) hn_))), Or.elim hk_ (fun hs_ => hs_.2.1) (fun hn_ => (Kd.fresh' (Kd.R_lt (zr HO_8.out)) k_ hn_)), Or.elim hk_ (fun hs_ => hs_.2.2.1) (fun hn_ => (Kd.fresh' (Kd.R_lt (zr HO_9.out)) k_ hn_)), Or.elim hk_ (fun hs_ => hs_.2.2.2.1) (fun hn_ => (Kd.freshB (zh BK199.out) k_ hn_)), Or.elim hk_ (fun hs_ => hs_.2.2.2.2.1) (fun hn_ => (Kd.freshB (zh BK200.out) k_ hn_)), Or.elim hk_ (fun hs_ => hs_.2.2.2.2.2.1) (fun hn_ => (Kd.freshB (zh BK201.out) k_ hn_)), Or.elim hk_ (fun hs_ => hs_.2.2.2.2.2.2) (fun hn_ => (Kd.freshB (zh BK211.out) k_ hn_))⟩ | (revert hk_; simp only [and_imp]; intros; and_intros <;> assumption))) (below_size (zb HB.out))); have n4_ := Aside0.mk (blk_below (zh BK199.out) hb); have n5_ := Aside0.mk (blk_below (zh BK200.out) hb); have n6_ := Aside0.mk (blk_below (zh BK201.out) hb); have n7_ := Aside0.mk (blk_below (zh BK211.out) hb); have n8_ := Aside0.mk (below_step (zb HB.out) hb); clear HO_8 HO_9 HO_201000 BK199 BK200 BK201 BK211 HB; have HO_8 := n0_; have HO_9 := n1_; have HO_201000 := n2_; have HO223 := n3_; have BK199 := n4_; have BK200 := n5_; have BK201 := n6_; have BK211 := n7_; have HB := n8_; clear n0_ n1_ n2_ n3_ n4_ n5_ n6_ n7_ n8_; (try clear hb); (try clear hb2); (try clear hk); (try clear hi); (try clear ho0)) | ((with_reducible refine gate_dst (N := 13) rfl ?_); refine box_event ?hg (N := 13) ?hd (cs := #[.slice none 0 0]) (t := 28) ?hr ?_; (case hd => rfl); (case hg => rfl); (case hr => first | (go_simp; done) | (go_simp; rfl)); intro gb225 hg w108 hbox hb; have n0_ := Aside0.mk (Kd.R_below (zr HO_8.out) hb); have n1_ := Aside0.mk (Kd.R_below (zr HO_9.out) hb); have n2_ := Aside0.mk (Kd.V_below (Kd.V_elderB (by (with_reducible repeat (first | apply Kd.V_alloc | apply Kd.V_drewN | apply Kd.V_drew)); exact HO_201000.out) gb225 (Nat.le_of_eq hg.symm)) hb); have n3_ := Aside0.mk (Kd.V_below (Kd.V_elderB (by (with_reducible repeat (first | apply Kd.V_alloc | apply Kd.V_drewN | apply Kd.V_drew)); exact HO223.out) gb225 (Nat.le_of_eq hg.symm)) hb); have n4_ := Aside0.mk (blk_below (zh BK199.out) hb); have n5_ := Aside0.mk (blk_below (zh BK200.out) hb); have n6_ := Aside0.mk (blk_below (zh BK201.out) hb); have n7_ := Aside0.mk (blk_below (zh BK211.out) hb); have n8_ := Aside0.mk (below_step (zb HB.out) hb); have n9_ := Aside0.mk (hbox); have n10_ := Aside0.mk ((by rw [hg]; exact (below_size (zb HB.out)) : w.heap.size ≤ gb225)); have n11_ := Aside0.mk ((by rw [hg]; exact (below_size (zb HB.out)) : w.heap.size ≤ gb225)); have n12_ := Aside0.mk ((by rw [hg]; exact Nat.ne_of_lt (blk_lt (zh BK199.out)) : gb199 ≠ gb225)); have n13_ := Aside0.mk ((by rw [hg]; exact Nat.ne_of_gt (blk_lt (zh BK199.out)) : gb225 ≠ gb199)); have n14_ := Aside0.mk ((by rw [hg]; exact Nat.ne_of_lt (blk_lt (zh BK200.out)) : gb200 ≠ gb225)); have n15_ := Aside0.mk ((by rw [hg]; exact Nat.ne_of_gt (blk_lt (zh BK200.out)) : gb225 ≠ gb200)); have n16_ := Aside0.mk ((by rw [hg]; exact Nat.ne_of_lt (blk_lt (zh BK201.out)) : gb201 ≠ gb225)); have n17_ := Aside0.mk ((by rw [hg]; exact Nat.ne_of_gt (blk_lt (zh BK201.out)) : gb225 ≠ gb201)); have n18_ := Aside0.mk ((by rw [hg]; exact Nat.ne_of_lt (blk_lt (zh BK211.out)) : gb211 ≠ gb225)); have n19_ := Aside0.mk ((by rw [hg]; exact Nat.ne_of_gt (blk_lt (zh BK211.out)) : gb225 ≠ gb211)); clear HO_8 HO_9 HO_201000 HO223 BK199 BK200 BK201 BK211 HB; have HO_8 := n0_; have HO_9 := n1_; have HO_201000 := n2_; have HO223 := n3_; have BK199 := n4_; have BK200 := n5_; have BK201 := n6_; have BK211 := n7_; have HB := n8_; have BK225 := n9_; have GW225 := n10_; have GE225 := n11_; have NB199_225 := n12_; have NB225_199 := n13_; have NB200_225 := n14_; have NB225_200 := n15_; have NB201_225 := n16_; have NB225_201 := n17_; have NB211_225 := n18_; have NB225_211 := n19_; clear n0_ n1_ n2_ n3_ n4_ n5_ n6_ n7_ n8_ n9_ n10_ n11_ n12_ n13_ n14_ n15_ n16_ n17_ n18_ n19_ hb hbox hg; obtain ⟨Ao109, co109, eo109⟩ := Kd.V_slice HO223.out; subst eo109; have hnb110 := NB225_199.out; have hnc110 := NB199_225.out; have hnb111 := NB225_200.out; have hnc111 := NB200_225.out; have hnb112 := NB225_201.out; have hnc112 := NB201_225.out; have hnb113 := NB225_211.out; have hnc113 := NB211_225.out; have hcz114_0 : w108.cell? ⟨gb225, 0, none⟩ = some (.slice none 0 0) := (blk_cell BK225.out 0).trans rfl; have hfz114_0 := blk_frozen BK225.out 0; have hcz115_0 : w108.cell? ⟨gb200, 0, none⟩ = some (.slice Ao106 x201000_1.length co106) := (blk_cell BK200.out 0).trans rfl; have hfz115_0 := blk_frozen BK200.out 0; have hnb116 := NB201_199.out; have hnc116 := NB199_201.out; have hcz117_0 : w108.cell? ⟨gb201, 0, none⟩ = some (.slice none 0 0) := (blk_cell BK201.out 0).trans rfl; have hfz117_0 := blk_frozen BK201.out 0))
       refine bodyPost_ret (results_ct rfl _ _ gb201 28 #[.slice Ao106 x201000_1.length co106] (0, 0) _ rfl (by (with_reducible repeat (first | refine blk_drewN ?_ _ | refine blk_drew ?_ | refine blk_alloc ?_ _)); refine blk_put (cs := #[.slice none 0 0]) ?_ 0 _ rfl; (with_reducible repeat (first | refine blk_drewN ?_ _ | refine blk_drew ?_ | refine blk_alloc ?_ _)); refine blk_far ?_ NB201_225.out _; (with_reducible repeat (first | refine blk_drewN ?_ _ | refine blk_drew ?_ | refine blk_alloc ?_ _)); exact BK201.out) Try.underlying28 rfl (by kernel_rfl)) rfl ?_
       exact ⟨_, ze, by (with_reducible repeat (first | apply Kd.V_alloc | apply Kd.V_drewN | apply Kd.V_drew)); exact Kd.V_mono (Kd.V_far (p := ⟨gb201, 0, none⟩) (Kd.V_far (p := ⟨gb225, 0, none⟩) (Kd.V_mono (Kd.V_mono HO_201000.out (fun k_ hk => (⟨hk, hk.2⟩ : _ ∧ k_ ≠ gb225))) (fun k_ hk => (⟨hk, hk.1.1.2.2.2.2.2.1⟩ : _ ∧ k_ ≠ gb201))) (fun _ hk => hk.1.2) (.slice Ao109 t221.length co109)) (fun _ hk => hk.2) (.slice Ao106 x201000_1.length co106)) (fun _ hk => hk.1.1.1.1), zb HB.out⟩
      rw [if_neg c98] at H
      have c98b0 : decide (t224 < 0) = false := decide_eq_false c98
      clear c98
      by_cases c118 : 0 ≤ x10_1
      rotate_left
      ·rw [if_neg c118] at H
       exact absurd H (by simp)
      rw [if_pos c118] at H
      have c118b0 : decide (0 ≤ x10_1) = true := decide_eq_true c118
      clear c118
      by_cases c119 : x10_1 < (x9_1.length : Int)
      rotate_left
      ·rw [if_neg c119] at H
       exact absurd H (by simp)
      rw [if_pos c119] at H
      have c119b0 : decide (x10_1 < (x9_1.length : Int)) = true := decide_eq_true c119
      clear c119
      obtain ⟨y226, hy226⟩ : ∃ y_ : List Int, y_ = (x9_1.set (x10_1 : Int).toNat t224) := ⟨_, rfl⟩
      replace H : (spec_l5Carry.l0 kj23 a1 t202 y226 (wrap64 (x10_1 + 1)) l0_0 t221) = some (r1, r2) := by first | (rw [hy226]; with_reducible exact H) | (have H2_ := (Option.bind_some _ _).symm.trans H; rw [hy226]; with_reducible exact H2_) | (have H2_ := (Option.bind_some _ _).symm.trans H; with_reducible exact H2_) | with_reducible exact H | (rw [hy226]; exact H) | exact H
      have Ny226 := Aside0.mk hy226
      clear hy226
      have H' := Aside0.mk H
      clear H
      have hnb121 := NB200_199.out
      have hnc121 := NB199_200.out
      have hnb122 := NB200_201.out
      have hnc122 := NB201_200.out
      have hnb123 := NB200_211.out
      have hnc123 := NB211_200.out
      have hcz124_0 : wc.cell? ⟨gb200, 0, none⟩ = some (u201000) := (blk_cell BK200.out 0).trans rfl
      have hfz124_0 := blk_frozen BK200.out 0
      have hnb125 := NB211_199.out
      have hnc125 := NB199_211.out
      have hnb126 := NB211_201.out
      have hnc126 := NB201_211.out
      have hcz127_0 : wc.cell? ⟨gb211, 0, none⟩ = some (.int .i64 ((rd_T55 l0_0 x10_1).f0)) := (blk_cell BK211.out 0).trans rfl
      have hcz127_1 : wc.cell? ⟨gb211, 1, none⟩ = some (.int .i64 x212001_23) := (blk_cell BK211.out 1).trans rfl
      have hcz127_2 : wc.cell? ⟨gb211, 2, none⟩ = some (.int .i64 ((rd_T55 l0_0 x10_1).f2)) := (blk_cell BK211.out 2).trans rfl
      have hfz127_0 := blk_frozen BK211.out 0
      have hfz127_1 := blk_frozen BK211.out 1
      have hfz127_2 := blk_frozen BK211.out 2
      obtain ⟨Ao128, co128, eo128⟩ := Kd.V_slice HO_201000.out
      subst eo128
      go_wp2_with (first | ((with_reducible refine gate_callee (f := 30) rfl ?_); refine goesL_ (some 59) rfl rfl Try.func30 (by kernel_rfl) rfl #[.agg #[.slice Ao128 x201000_1.length co128], .agg #[.int .i64 ((rd_T55 l0_0 x10_1).f0), .int .i64 x212001_23, .int .i64 ((rd_T55 l0_0 x10_1).f2)]] rfl zl ?_; (with_reducible refine (spec_l5Carry.addV kj23 (fun k_ => ((P2_0_ k_ ∨ w.heap.size ≤ k_) ∧ (some k_ ≠ (.slice (some ad209) t202.length co25 : Value).ownBlock ∧ (some k_ ≠ (v206 : Value).ownBlock ∧ (k_ ≠ gb199 ∧ (k_ ≠ gb200 ∧ (k_ ≠ gb201 ∧ k_ ≠ gb211))))))) _ _ x201000_1 ((rd_T55 l0_0 x10_1).f0) x212001_23 ((rd_T55 l0_0 x10_1).f2) t221 t224 _ ?side1 A97.out).mono ?_); (case side1 => exact HO_201000.out); rintro e w129 ⟨v222, rfl, ho0, hb⟩; refine ⟨_, rfl, ?_⟩; have n0_ := Aside0.mk (Kd.R_below (zr HO_8.out) hb); have n1_ := Aside0.mk (Kd.R_below (zr HO_9.out) hb); have n2_ := Aside0.mk (Kd.V_below (by (with_reducible repeat (first | apply Kd.V_alloc | apply Kd.V_drewN | apply Kd.V_drew)); exact HO_201000.out) hb); have n3_ := Aside0.mk (Kd.V_lower (Kd.V_mono (ok' := fun k_ => (P2_0_ k_ ∨ w.heap.size ≤ k_) ∧ some k_ ≠ (.slice (some ad209) t202.length co25 : Value).ownBlock ∧ some k_ ≠ (v206 : Value).ownBlock ∧ k_ ≠ gb199 ∧ k_ ≠ gb200 ∧ k_ ≠ gb201 ∧ k_ ≠ gb211) ho0 (fun k_ hk_ => by first | exact ⟨Or.elim hk_ (fun hs_ => hs_.1) (fun hn_ => (.inr (Nat.le_trans (below_size (zb HB.out)) hn_))), Or.elim hk_ (fun hs_ => hs_.2.1) (fun hn_ => (Kd.fresh' (Kd.R_lt (zr HO_8.out)) k_ hn_)), Or.elim hk_ (fun hs_ => hs_.2.2.1) (fun hn_ => (Kd.fresh' (Kd.R_lt (zr HO_9.out)) k_ hn_)), Or.elim hk_ (fun hs_ => hs_.2.2.2.1) (fun hn_ => (Kd.freshB (zh BK199.out) k_ hn_)), Or.elim hk_ (fun hs_ => hs_.2.2.2.2.1) (fun hn_ => (Kd.freshB (zh BK200.out) k_ hn_)), Or.elim hk_ (fun hs_ => hs_.2.2.2.2.2.1) (fun hn_ => (Kd.freshB (zh BK201.out) k_ hn_)), Or.elim hk_ (fun hs_ => hs_.2.2.2.2.2.2) (fun hn_ => (Kd.freshB (zh BK211.out) k_ hn_))⟩ | (revert hk_; simp only [and_imp]; intros; and_intros <;> assumption))) (below_size (zb HB.out))); have n4_ := Aside0.mk (blk_below (zh BK199.out) hb); have n5_ := Aside0.mk (blk_below (zh BK200.out) hb); have n6_ := Aside0.mk (blk_below (zh BK201.out) hb); have n7_ := Aside0.mk (blk_below (zh BK211.out) hb); have n8_ := Aside0.mk (below_step (zb HB.out) hb); clear HO_8 HO_9 HO_201000 BK199 BK200 BK201 BK211 HB; have HO_8 := n0_; have HO_9 := n1_; have HO_201000 := n2_; have HO223 := n3_; have BK199 := n4_; have BK200 := n5_; have BK201 := n6_; have BK211 := n7_; have HB := n8_; clear n0_ n1_ n2_ n3_ n4_ n5_ n6_ n7_ n8_; (try clear hb); (try clear hb2); (try clear hk); (try clear hi); (try clear ho0)) | ((with_reducible refine gate_dst (N := 13) rfl ?_); refine box_event ?hg (N := 13) ?hd (cs := #[.slice none 0 0]) (t := 28) ?hr ?_; (case hd => rfl); (case hg => rfl); (case hr => first | (go_simp; done) | (go_simp; rfl)); intro gb225 hg w130 hbox hb; have n0_ := Aside0.mk (Kd.R_below (zr HO_8.out) hb); have n1_ := Aside0.mk (Kd.R_below (zr HO_9.out) hb); have n2_ := Aside0.mk (Kd.V_below (Kd.V_elderB (by (with_reducible repeat (first | apply Kd.V_alloc | apply Kd.V_drewN | apply Kd.V_drew)); exact HO_201000.out) gb225 (Nat.le_of_eq hg.symm)) hb); have n3_ := Aside0.mk (Kd.V_below (Kd.V_elderB (by (with_reducible repeat (first | apply Kd.V_alloc | apply Kd.V_drewN | apply Kd.V_drew)); exact HO223.out) gb225 (Nat.le_of_eq hg.symm)) hb); have n4_ := Aside0.mk (blk_below (zh BK199.out) hb); have n5_ := Aside0.mk (blk_below (zh BK200.out) hb); have n6_ := Aside0.mk (blk_below (zh BK201.out) hb); have n7_ := Aside0.mk (blk_below (zh BK211.out) hb); have n8_ := Aside0.mk (below_step (zb HB.out) hb); have n9_ := Aside0.mk (hbox); have n10_ := Aside0.mk ((by rw [hg]; exact (below_size (zb HB.out)) : w.heap.size ≤ gb225)); have n11_ := Aside0.mk ((by rw [hg]; exact (below_size (zb HB.out)) : w.heap.size ≤ gb225)); have n12_ := Aside0.mk ((by rw [hg]; exact Nat.ne_of_lt (blk_lt (zh BK199.out)) : gb199 ≠ gb225)); have n13_ := Aside0.mk ((by rw [hg]; exact Nat.ne_of_gt (blk_lt (zh BK199.out)) : gb225 ≠ gb199)); have n14_ := Aside0.mk ((by rw [hg]; exact Nat.ne_of_lt (blk_lt (zh BK200.out)) : gb200 ≠ gb225)); have n15_ := Aside0.mk ((by rw [hg]; exact Nat.ne_of_gt (blk_lt (zh BK200.out)) : gb225 ≠ gb200)); have n16_ := Aside0.mk ((by rw [hg]; exact Nat.ne_of_lt (blk_lt (zh BK201.out)) : gb201 ≠ gb225)); have n17_ := Aside0.mk ((by rw [hg]; exact Nat.ne_of_gt (blk_lt (zh BK201.out)) : gb225 ≠ gb201)); have n18_ := Aside0.mk ((by rw [hg]; exact Nat.ne_of_lt (blk_lt (zh BK211.out)) : gb211 ≠ gb225)); have n19_ := Aside0.mk ((by rw [hg]; exact Nat.ne_of_gt (blk_lt (zh BK211.out)) : gb225 ≠ gb211)); clear HO_8 HO_9 HO_201000 HO223 BK199 BK200 BK201 BK211 HB; have HO_8 := n0_; have HO_9 := n1_; have HO_201000 := n2_; have HO223 := n3_; have BK199 := n4_; have BK200 := n5_; have BK201 := n6_; have BK211 := n7_; have HB := n8_; have BK225 := n9_; have GW225 := n10_; have GE225 := n11_; have NB199_225 := n12_; have NB225_199 := n13_; have NB200_225 := n14_; have NB225_200 := n15_; have NB201_225 := n16_; have NB225_201 := n17_; have NB211_225 := n18_; have NB225_211 := n19_; clear n0_ n1_ n2_ n3_ n4_ n5_ n6_ n7_ n8_ n9_ n10_ n11_ n12_ n13_ n14_ n15_ n16_ n17_ n18_ n19_ hb hbox hg; obtain ⟨Ao131, co131, eo131⟩ := Kd.V_slice HO223.out; subst eo131; have hnb132 := NB225_199.out; have hnc132 := NB199_225.out; have hnb133 := NB225_200.out; have hnc133 := NB200_225.out; have hnb134 := NB225_201.out; have hnc134 := NB201_225.out; have hnb135 := NB225_211.out; have hnc135 := NB211_225.out; have hcz136_0 : w130.cell? ⟨gb225, 0, none⟩ = some (.slice none 0 0) := (blk_cell BK225.out 0).trans rfl; have hfz136_0 := blk_frozen BK225.out 0) | ((with_reducible refine gate_store (t := 28) (p := 13) rfl ?_); refine store_event (t := 28) (p := 13) (v := ?vo_w137) (w1 := (w130.setCell ⟨gb225, 0, none⟩ (.slice Ao131 t221.length co131))) ?hg ?ho ?hn ?hr ?_; (case ho => rfl); (case hg => rfl); (case hn => rfl); (case hr => first | (go_simp; done) | (go_simp; rfl)); intro w137 hw; have n0_ : Aside0 (Kd.R Kd.bool 4 w137 w.heap.size (fun k_ => (w.heap.size ≤ k_)) (.slice (some ad209) t202.length co25) t202) := ⟨(by rw [hw]; exact (by (with_reducible repeat (first | apply Kd.R_alloc | apply Kd.R_drewN | apply Kd.R_drew)); exact Kd.R_mono (Kd.R_far (p := ⟨gb225, 0, none⟩) (Kd.R_types HO_8.out BK225.out (by decide)) (fun _ hk => hk.2) (.slice Ao131 t221.length co131)) (fun _ hk => hk.1)))⟩; have n1_ : Aside0 (Kd.R (Kd.int .i64) 3 w137 w.heap.size (fun k_ => (w.heap.size ≤ k_)) v206 x9_1) := ⟨(by rw [hw]; exact (by (with_reducible repeat (first | apply Kd.R_alloc | apply Kd.R_drewN | apply Kd.R_drew)); exact Kd.R_mono (Kd.R_far (p := ⟨gb225, 0, none⟩) (Kd.R_types HO_9.out BK225.out (by decide)) (fun _ hk => hk.2) (.slice Ao131 t221.length co131)) (fun _ hk => hk.1)))⟩; have n2_ : Aside0 (Kd.V k55 55 w137 w.heap.size (fun k_ => (P2_0_ k_ ∨ w.heap.size ≤ k_) ∧ some k_ ≠ (.slice (some ad209) t202.length co25 : Value).ownBlock ∧ some k_ ≠ (v206 : Value).ownBlock ∧ k_ ≠ gb199 ∧ k_ ≠ gb200 ∧ k_ ≠ gb201 ∧ k_ ≠ gb211 ∧ k_ ≠ gb225) (.slice Ao128 x201000_1.length co128) x201000_1) := ⟨(by rw [hw]; exact (by (with_reducible repeat (first | apply Kd.V_alloc | apply Kd.V_drewN | apply Kd.V_drew)); exact Kd.V_mono (Kd.V_far (p := ⟨gb225, 0, none⟩) (Kd.V_mono HO_201000.out (fun k_ hk => (⟨hk, hk.2⟩ : _ ∧ k_ ≠ gb225))) (fun _ hk => hk.2) (.slice Ao131 t221.length co131)) (fun _ hk => ⟨hk.1.1.1, ⟨hk.1.1.2.1, ⟨hk.1.1.2.2.1, ⟨hk.1.1.2.2.2.1, ⟨hk.1.1.2.2.2.2.1, ⟨hk.1.1.2.2.2.2.2.1, ⟨hk.1.1.2.2.2.2.2.2, hk.1.2⟩⟩⟩⟩⟩⟩⟩)))⟩; have n3_ : Aside0 (Kd.V k55 55 w137 w.heap.size (fun k_ => (P2_0_ k_ ∨ w.heap.size ≤ k_) ∧ some k_ ≠ (.slice (some ad209) t202.length co25 : Value).ownBlock ∧ some k_ ≠ (v206 : Value).ownBlock ∧ k_ ≠ gb199 ∧ k_ ≠ gb200 ∧ k_ ≠ gb201 ∧ k_ ≠ gb211 ∧ k_ ≠ gb225) (.slice Ao131 t221.length co131) t221) := ⟨(by rw [hw]; exact (by (with_reducible repeat (first | apply Kd.V_alloc | apply Kd.V_drewN | apply Kd.V_drew)); exact Kd.V_mono (Kd.V_far (p := ⟨gb225, 0, none⟩) (Kd.V_mono HO223.out (fun k_ hk => (⟨hk, hk.2⟩ : _ ∧ k_ ≠ gb225))) (fun _ hk => hk.2) (.slice Ao131 t221.length co131)) (fun _ hk => ⟨hk.1.1.1, ⟨hk.1.1.2.1, ⟨hk.1.1.2.2.1, ⟨hk.1.1.2.2.2.1, ⟨hk.1.1.2.2.2.2.1, ⟨hk.1.1.2.2.2.2.2.1, ⟨hk.1.1.2.2.2.2.2.2, hk.1.2⟩⟩⟩⟩⟩⟩⟩)))⟩; have n4_ : Aside0 (w137.heap[gb199]? = some (.cells #[.slice (some ad210) l0_0.length c0_0] 28 (0, 0))) := ⟨(by rw [hw]; exact (zf BK199.out))⟩; have n5_ : Aside0 (w137.heap[gb200]? = some (.cells #[.slice Ao128 x201000_1.length co128] 28 (0, 0))) := ⟨(by rw [hw]; exact (zf BK200.out))⟩; have n6_ : Aside0 (w137.heap[gb201]? = some (.cells #[.slice none 0 0] 28 (0, 0))) := ⟨(by rw [hw]; exact (zf BK201.out))⟩; have n7_ : Aside0 (w137.heap[gb211]? = some (.cells #[.int .i64 ((rd_T55 l0_0 x10_1).f0), .int .i64 x212001_23, .int .i64 ((rd_T55 l0_0 x10_1).f2)] 55 (0, 0))) := ⟨(by rw [hw]; exact (zf BK211.out))⟩; have n8_ : Aside0 (w137.heap[gb225]? = some (.cells #[.slice Ao131 t221.length co131] 28 (0, 0))) := ⟨(by rw [hw]; exact (by (with_reducible repeat (first | refine blk_drewN ?_ _ | refine blk_drew ?_ | refine blk_alloc ?_ _)); refine blk_put (cs := #[.slice none 0 0]) ?_ 0 _ rfl; (with_reducible repeat (first | refine blk_drewN ?_ _ | refine blk_drew ?_ | refine blk_alloc ?_ _)); exact BK225.out))⟩; have n9_ : Aside0 (Below w.heap.size w w137) := ⟨(by rw [hw]; exact (zb HB.out))⟩; clear hw HO_8 HO_9 HO_201000 HO223 BK199 BK200 BK201 BK211 BK225 HB; have HO_8 := n0_; have HO_9 := n1_; have HO_201000 := n2_; have HO223 := n3_; have BK199 := n4_; have BK200 := n5_; have BK201 := n6_; have BK211 := n7_; have BK225 := n8_; have HB := n9_; clear n0_ n1_ n2_ n3_ n4_ n5_ n6_ n7_ n8_ n9_; have hcz138_0 : w137.cell? ⟨gb225, 0, none⟩ = some (.slice Ao131 t221.length co131) := (blk_cell BK225.out 0).trans rfl; have hfz138_0 := blk_frozen BK225.out 0; have hcz139_0 : w137.cell? ⟨gb200, 0, none⟩ = some (.slice Ao128 x201000_1.length co128) := (blk_cell BK200.out 0).trans rfl; have hfz139_0 := blk_frozen BK200.out 0) | ((with_reducible refine gate_store (t := 28) (p := 5) rfl ?_); refine store_event (t := 28) (p := 5) (v := ?vo_w140) (w1 := (w137.setCell ⟨gb200, 0, none⟩ (.slice Ao131 t221.length co131))) ?hg ?ho ?hn ?hr ?_; (case ho => rfl); (case hg => rfl); (case hn => rfl); (case hr => first | (go_simp; done) | (go_simp; rfl)); intro w140 hw; have n0_ : Aside0 (Kd.R Kd.bool 4 w140 w.heap.size (fun k_ => (w.heap.size ≤ k_)) (.slice (some ad209) t202.length co25) t202) := ⟨(by rw [hw]; exact (by (with_reducible repeat (first | apply Kd.R_alloc | apply Kd.R_drewN | apply Kd.R_drew)); exact Kd.R_mono (Kd.R_far (p := ⟨gb200, 0, none⟩) (Kd.R_types HO_8.out BK200.out (by decide)) (fun _ hk => hk.2) (.slice Ao131 t221.length co131)) (fun _ hk => hk.1)))⟩; have n1_ : Aside0 (Kd.R (Kd.int .i64) 3 w140 w.heap.size (fun k_ => (w.heap.size ≤ k_)) v206 x9_1) := ⟨(by rw [hw]; exact (by (with_reducible repeat (first | apply Kd.R_alloc | apply Kd.R_drewN | apply Kd.R_drew)); exact Kd.R_mono (Kd.R_far (p := ⟨gb200, 0, none⟩) (Kd.R_types HO_9.out BK200.out (by decide)) (fun _ hk => hk.2) (.slice Ao131 t221.length co131)) (fun _ hk => hk.1)))⟩; have n2_ : Aside0 (Kd.V k55 55 w140 w.heap.size (fun k_ => (P2_0_ k_ ∨ w.heap.size ≤ k_) ∧ some k_ ≠ (.slice (some ad209) t202.length co25 : Value).ownBlock ∧ some k_ ≠ (v206 : Value).ownBlock ∧ k_ ≠ gb199 ∧ k_ ≠ gb200 ∧ k_ ≠ gb201 ∧ k_ ≠ gb211 ∧ k_ ≠ gb225) (.slice Ao128 x201000_1.length co128) x201000_1) := ⟨(by rw [hw]; exact (by (with_reducible repeat (first | apply Kd.V_alloc | apply Kd.V_drewN | apply Kd.V_drew)); exact Kd.V_mono (Kd.V_far (p := ⟨gb200, 0, none⟩) (Kd.V_mono HO_201000.out (fun k_ hk => (⟨hk, hk.2.2.2.2.1⟩ : _ ∧ k_ ≠ gb200))) (fun _ hk => hk.2) (.slice Ao131 t221.length co131)) (fun _ hk => ⟨hk.1.1, ⟨hk.1.2.1, ⟨hk.1.2.2.1, ⟨hk.1.2.2.2.1, ⟨hk.1.2.2.2.2.1, ⟨hk.1.2.2.2.2.2.1, ⟨hk.1.2.2.2.2.2.2.1, hk.1.2.2.2.2.2.2.2⟩⟩⟩⟩⟩⟩⟩)))⟩; have n3_ : Aside0 (Kd.V k55 55 w140 w.heap.size (fun k_ => (P2_0_ k_ ∨ w.heap.size ≤ k_) ∧ some k_ ≠ (.slice (some ad209) t202.length co25 : Value).ownBlock ∧ some k_ ≠ (v206 : Value).ownBlock ∧ k_ ≠ gb199 ∧ k_ ≠ gb200 ∧ k_ ≠ gb201 ∧ k_ ≠ gb211 ∧ k_ ≠ gb225) (.slice Ao131 t221.length co131) t221) := ⟨(by rw [hw]; exact (by (with_reducible repeat (first | apply Kd.V_alloc | apply Kd.V_drewN | apply Kd.V_drew)); exact Kd.V_mono (Kd.V_far (p := ⟨gb200, 0, none⟩) (Kd.V_mono HO223.out (fun k_ hk => (⟨hk, hk.2.2.2.2.1⟩ : _ ∧ k_ ≠ gb200))) (fun _ hk => hk.2) (.slice Ao131 t221.length co131)) (fun _ hk => ⟨hk.1.1, ⟨hk.1.2.1, ⟨hk.1.2.2.1, ⟨hk.1.2.2.2.1, ⟨hk.1.2.2.2.2.1, ⟨hk.1.2.2.2.2.2.1, ⟨hk.1.2.2.2.2.2.2.1, hk.1.2.2.2.2.2.2.2⟩⟩⟩⟩⟩⟩⟩)))⟩; have n4_ : Aside0 (w140.heap[gb199]? = some (.cells #[.slice (some ad210) l0_0.length c0_0] 28 (0, 0))) := ⟨(by rw [hw]; exact (zf BK199.out))⟩; have n5_ : Aside0 (w140.heap[gb200]? = some (.cells #[.slice Ao131 t221.length co131] 28 (0, 0))) := ⟨(by rw [hw]; exact (by (with_reducible repeat (first | refine blk_drewN ?_ _ | refine blk_drew ?_ | refine blk_alloc ?_ _)); refine blk_put (cs := #[.slice Ao128 x201000_1.length co128]) ?_ 0 _ rfl; (with_reducible repeat (first | refine blk_drewN ?_ _ | refine blk_drew ?_ | refine blk_alloc ?_ _)); exact BK200.out))⟩; have n6_ : Aside0 (w140.heap[gb201]? = some (.cells #[.slice none 0 0] 28 (0, 0))) := ⟨(by rw [hw]; exact (zf BK201.out))⟩; have n7_ : Aside0 (w140.heap[gb211]? = some (.cells #[.int .i64 ((rd_T55 l0_0 x10_1).f0), .int .i64 x212001_23, .int .i64 ((rd_T55 l0_0 x10_1).f2)] 55 (0, 0))) := ⟨(by rw [hw]; exact (zf BK211.out))⟩; have n8_ : Aside0 (w140.heap[gb225]? = some (.cells #[.slice Ao131 t221.length co131] 28 (0, 0))) := ⟨(by rw [hw]; exact (zf BK225.out))⟩; have n9_ : Aside0 (Below w.heap.size w w140) := ⟨(by rw [hw]; exact (zb HB.out))⟩; clear hw HO_8 HO_9 HO_201000 HO223 BK199 BK200 BK201 BK211 BK225 HB; have HO_8 := n0_; have HO_9 := n1_; have HO_201000 := n2_; have HO223 := n3_; have BK199 := n4_; have BK200 := n5_; have BK201 := n6_; have BK211 := n7_; have BK225 := n8_; have HB := n9_; clear n0_ n1_ n2_ n3_ n4_ n5_ n6_ n7_ n8_ n9_; have p120 : 0 ≤ (x10_1 : Int) := of_decide_eq_true (by first | (with_reducible assumption) | assumption); have q120 : (x10_1 : Int) < ((x9_1.length : Int) : Int) := of_decide_eq_true (by first | (with_reducible assumption) | assumption); obtain ⟨go120, co120, eo120, gb120, gl120, cl120, HG120⟩ := Kd.R_form HO_9.out (by omega); (first | cases eo120 | (injection eo120 with ea_ en_ ec_; (first | subst ea_ | (injection ea_ with ea_; subst ea_)); subst ec_; clear en_)); have GB120 := Aside0.mk gb120; have GG120 := Aside0.mk HG120; clear gb120 gl120 HG120; obtain ⟨hx120_0, hf120_0⟩ := Kd.R_celln 0 HO_9.out (x10_1 : Int) p120 q120; replace p120 := eq_true p120; replace q120 := eq_true q120; obtain ⟨hy141_, hz141_⟩ := Kd.R_celln 0 HO_9.out (x10_1 : Int) (of_decide_eq_true (by first | (with_reducible assumption) | assumption)) (of_decide_eq_true (by first | (with_reducible assumption) | assumption)); have HP141 := Kd.R_putg HO_9.out (x10_1 : Int) t224) | ((with_reducible refine gate_store (t := 3) (p := 69) rfl ?_); refine store_event (t := 3) (p := 69) (v := ?vo_w142) (w1 := (w140.setCell ⟨go120, (x10_1 : Int).toNat, none⟩ (.int .i64 t224))) ?hg ?ho ?hn ?hr ?_; (case ho => rfl); (case hg => rfl); (case hn => rfl); (case hr => first | (go_simp; done) | (go_simp; rfl)); intro w142 hw; have hg : w140.grownBy w142 (some go120) := (by rw [hw]; exact HP141.2); have hp_ : Kd.R (Kd.int .i64) 3 w142 w.heap.size (fun k_ => (w.heap.size ≤ k_)) (.slice (some ⟨go120, 0, none⟩) x9_1.length co120) y226 := (by rw [hw, Ny226.out]; exact HP141.1); clear HP141; have n0_ := Aside0.mk (Kd.R_over' (v := (.slice (some ⟨go120, 0, none⟩) x9_1.length co120)) (zr HO_8.out) (Kd.R_typed HO_9.out) (by decide) hg); have n1_ := Aside0.mk (hp_); have n2_ := Aside0.mk (Kd.V_afterv (v := (.slice (some ⟨go120, 0, none⟩) x9_1.length co120)) (v1 := (.slice (some ⟨go120, 0, none⟩) x9_1.length co120)) (ok := (fun k_ => (P2_0_ k_ ∨ w.heap.size ≤ k_) ∧ some k_ ≠ (.slice (some ad209) t202.length co25 : Value).ownBlock ∧ k_ ≠ gb199 ∧ k_ ≠ gb200 ∧ k_ ≠ gb201 ∧ k_ ≠ gb211 ∧ k_ ≠ gb225)) (by (with_reducible repeat (first | apply Kd.V_alloc | apply Kd.V_drewN | apply Kd.V_drew)); exact Kd.V_mono HO_201000.out (fun _ hk => ⟨⟨hk.1, ⟨hk.2.1, ⟨hk.2.2.2.1, ⟨hk.2.2.2.2.1, ⟨hk.2.2.2.2.2.1, ⟨hk.2.2.2.2.2.2.1, hk.2.2.2.2.2.2.2⟩⟩⟩⟩⟩⟩, hk.2.2.1⟩)) hg (.inl rfl)); have n3_ := Aside0.mk (blk_grown (zh BK199.out) hg (Kd.R_ne HO_9.out BK199.out (by decide))); have n4_ := Aside0.mk (blk_grown (zh BK200.out) hg (Kd.R_ne HO_9.out BK200.out (by decide))); have n5_ := Aside0.mk (blk_grown (zh BK201.out) hg (Kd.R_ne HO_9.out BK201.out (by decide))); have n6_ := Aside0.mk (blk_grown (zh BK211.out) hg (Kd.R_ne HO_9.out BK211.out (by decide))); have n7_ := Aside0.mk (Kd.V_afterv (v := (.slice (some ⟨go120, 0, none⟩) x9_1.length co120)) (v1 := (.slice (some ⟨go120, 0, none⟩) x9_1.length co120)) (ok := (fun k_ => (P2_0_ k_ ∨ w.heap.size ≤ k_) ∧ some k_ ≠ (.slice (some ad209) t202.length co25 : Value).ownBlock ∧ k_ ≠ gb199 ∧ k_ ≠ gb200 ∧ k_ ≠ gb201 ∧ k_ ≠ gb211 ∧ k_ ≠ gb225)) (by (with_reducible repeat (first | apply Kd.V_alloc | apply Kd.V_drewN | apply Kd.V_drew)); exact Kd.V_mono HO223.out (fun _ hk => ⟨⟨hk.1, ⟨hk.2.1, ⟨hk.2.2.2.1, ⟨hk.2.2.2.2.1, ⟨hk.2.2.2.2.2.1, ⟨hk.2.2.2.2.2.2.1, hk.2.2.2.2.2.2.2⟩⟩⟩⟩⟩⟩, hk.2.2.1⟩)) hg (.inl rfl)); have n8_ := Aside0.mk (blk_grown (zh BK225.out) hg (Kd.R_ne HO_9.out BK225.out (by decide))); have n9_ := Aside0.mk ((by rw [hw]; exact below_set (HB.out) GB120.out : Below w.heap.size w w142)); clear HO_8 HO_9 HO_201000 BK199 BK200 BK201 BK211 HO223 BK225 HB; have HO_8 := n0_; have HO_9 := n1_; have HO_201000 := n2_; have BK199 := n3_; have BK200 := n4_; have BK201 := n5_; have BK211 := n6_; have HO223 := n7_; have BK225 := n8_; have HB := n9_; clear n0_ n1_ n2_ n3_ n4_ n5_ n6_ n7_ n8_ n9_ hg hw hp_))
      go_roundg kj23
      case measure => have := HK1.out; have := HJ23.out; omega
      case rel => exact ⟨(y226), (wrap64 (x10_1 + 1)), (t221), (.slice Ao131 t221.length co131), (by first | rfl | (simp; done) | (simp [*]; done)), H', ⟨by have := HK1.out; have := HJ23.out; omega⟩, ⟨zr HO_8.out⟩, ⟨zr HO_9.out⟩, ⟨by (with_reducible repeat (first | apply Kd.V_alloc | apply Kd.V_drewN | apply Kd.V_drew)); exact Kd.V_mono HO223.out (fun _ hk => ⟨hk.1.1, ⟨hk.1.2.1, ⟨hk.2, ⟨hk.1.2.2.1, ⟨hk.1.2.2.2.1, hk.1.2.2.2.2.1⟩⟩⟩⟩⟩)⟩, ⟨zh BK199.out⟩, ⟨zh BK200.out⟩, ⟨zh BK201.out⟩, ⟨zb HB.out⟩⟩
     rw [if_pos c42] at H
     have c42b0 : decide (1 < t212) = true := decide_eq_true c42
     clear c42
     by_cases c43 : 0 ≤ ((rd_T55 l0_0 x10_1).f2)
     rotate_left
     ·rw [if_neg c43] at H
      exact absurd H (by simp)
     rw [if_pos c43] at H
     have c43b0 : decide (0 ≤ ((rd_T55 l0_0 x10_1).f2)) = true := decide_eq_true c43
     clear c43
     by_cases c44 : ((rd_T55 l0_0 x10_1).f2) < (x9_1.length : Int)
     rotate_left
     ·rw [if_neg c44] at H
      exact absurd H (by simp)
     rw [if_pos c44] at H
     have c44b0 : decide (((rd_T55 l0_0 x10_1).f2) < (x9_1.length : Int)) = true := decide_eq_true c44
     clear c44
     replace H := Option.bind_eq_some_iff.mp H
     obtain ⟨⟨t215, t218⟩, A450, H⟩ := H
     replace H : (if t218 < 0 then (some (x201000_1, (-1))) else (if 0 ≤ x10_1 then (if x10_1 < (x9_1.length : Int) then (spec_l5Carry.l0 kj23 a1 t202 (x9_1.set (x10_1 : Int).toNat t218) (wrap64 (x10_1 + 1)) l0_0 t215) else (none)) else (none))) = some (r1, r2) := H
     have A45 := Aside0.mk A450
     clear A450
     by_cases c46 : t218 < 0
     ·rw [if_pos c46] at H
      have c46b0 : decide (t218 < 0) = true := decide_eq_true c46
      clear c46
      simp only [Option.some.injEq, Prod.mk.injEq] at H
      obtain ⟨rfl, rfl⟩ := H
      have hnb47 := NB211_199.out
      have hnc47 := NB199_211.out
      have hnb48 := NB211_200.out
      have hnc48 := NB200_211.out
      have hnb49 := NB211_201.out
      have hnc49 := NB201_211.out
      have hcz50_0 : wc.cell? ⟨gb211, 0, none⟩ = some (.int .i64 ((rd_T55 l0_0 x10_1).f0)) := (blk_cell BK211.out 0).trans rfl
      have hcz50_1 : wc.cell? ⟨gb211, 1, none⟩ = some (.int .i64 x212001_23) := (blk_cell BK211.out 1).trans rfl
      have hcz50_2 : wc.cell? ⟨gb211, 2, none⟩ = some (.int .i64 ((rd_T55 l0_0 x10_1).f2)) := (blk_cell BK211.out 2).trans rfl
      have hfz50_0 := blk_frozen BK211.out 0
      have hfz50_1 := blk_frozen BK211.out 1
      have hfz50_2 := blk_frozen BK211.out 2
      obtain ⟨Ao51, co51, eo51⟩ := Kd.R_slice HO_9.out
      subst eo51
      have p214 : 0 ≤ (((rd_T55 l0_0 x10_1).f2) : Int) := of_decide_eq_true (by first | (with_reducible assumption) | assumption)
      have q214 : ((rd_T55 l0_0 x10_1).f2) < (x9_1.length : Int) := of_decide_eq_true (by first | (with_reducible assumption) | assumption)
      obtain ⟨ad214, e214, hx214_0⟩ := Kd.at_int (Kd.R_reads' HO_9.out).2.2 ((rd_T55 l0_0 x10_1).f2) p214 q214
      cases e214
      replace p214 := eq_true p214
      replace q214 := eq_true q214
      go_wp2_with (first | ((with_reducible refine gate_store (t := 3) (p := 55) rfl ?_); refine store_event (t := 3) (p := 55) (v := ?vo_w52) (w1 := (wc.setCell ⟨gb211, 2, none⟩ (.int .i64 (rd x9_1 ((rd_T55 l0_0 x10_1).f2))))) ?hg ?ho ?hn ?hr ?_; (case ho => rfl); (case hg => rfl); (case hn => rfl); (case hr => first | (go_simp; done) | (go_simp; rfl)); intro w52 hw; have n0_ : Aside0 (Kd.R Kd.bool 4 w52 w.heap.size (fun k_ => (w.heap.size ≤ k_)) (.slice (some ad209) t202.length co25) t202) := ⟨(by rw [hw]; exact (by (with_reducible repeat (first | apply Kd.R_alloc | apply Kd.R_drewN | apply Kd.R_drew)); exact Kd.R_mono (Kd.R_far (p := ⟨gb211, 2, none⟩) (Kd.R_types HO_8.out BK211.out (by decide)) (fun _ hk => hk.2) (.int .i64 (rd x9_1 ((rd_T55 l0_0 x10_1).f2)))) (fun _ hk => hk.1)))⟩; have n1_ : Aside0 (Kd.R (Kd.int .i64) 3 w52 w.heap.size (fun k_ => (w.heap.size ≤ k_)) (.slice (some ad214) x9_1.length co51) x9_1) := ⟨(by rw [hw]; exact (by (with_reducible repeat (first | apply Kd.R_alloc | apply Kd.R_drewN | apply Kd.R_drew)); exact Kd.R_mono (Kd.R_far (p := ⟨gb211, 2, none⟩) (Kd.R_types HO_9.out BK211.out (by decide)) (fun _ hk => hk.2) (.int .i64 (rd x9_1 ((rd_T55 l0_0 x10_1).f2)))) (fun _ hk => hk.1)))⟩; have n2_ : Aside0 (Kd.V k55 55 w52 w.heap.size (fun k_ => (P2_0_ k_ ∨ w.heap.size ≤ k_) ∧ some k_ ≠ (.slice (some ad209) t202.length co25 : Value).ownBlock ∧ some k_ ≠ (.slice (some ad214) x9_1.length co51 : Value).ownBlock ∧ k_ ≠ gb199 ∧ k_ ≠ gb200 ∧ k_ ≠ gb201 ∧ k_ ≠ gb211) u201000 x201000_1) := ⟨(by rw [hw]; exact (by (with_reducible repeat (first | apply Kd.V_alloc | apply Kd.V_drewN | apply Kd.V_drew)); exact Kd.V_mono (Kd.V_far (p := ⟨gb211, 2, none⟩) (Kd.V_mono HO_201000.out (fun k_ hk => (⟨hk, hk.2.2.2.2.2.2⟩ : _ ∧ k_ ≠ gb211))) (fun _ hk => hk.2) (.int .i64 (rd x9_1 ((rd_T55 l0_0 x10_1).f2)))) (fun _ hk => ⟨hk.1.1, ⟨hk.1.2.1, ⟨hk.1.2.2.1, ⟨hk.1.2.2.2.1, ⟨hk.1.2.2.2.2.1, ⟨hk.1.2.2.2.2.2.1, hk.1.2.2.2.2.2.2⟩⟩⟩⟩⟩⟩)))⟩; have n3_ : Aside0 (w52.heap[gb199]? = some (.cells #[.slice (some ad210) l0_0.length c0_0] 28 (0, 0))) := ⟨(by rw [hw]; exact (zf BK199.out))⟩; have n4_ : Aside0 (w52.heap[gb200]? = some (.cells #[u201000] 28 (0, 0))) := ⟨(by rw [hw]; exact (zf BK200.out))⟩; have n5_ : Aside0 (w52.heap[gb201]? = some (.cells #[.slice none 0 0] 28 (0, 0))) := ⟨(by rw [hw]; exact (zf BK201.out))⟩; have n6_ : Aside0 (w52.heap[gb211]? = some (.cells #[.int .i64 ((rd_T55 l0_0 x10_1).f0), .int .i64 x212001_23, .int .i64 (rd x9_1 ((rd_T55 l0_0 x10_1).f2))] 55 (0, 0))) := ⟨(by rw [hw]; exact (by (with_reducible repeat (first | refine blk_drewN ?_ _ | refine blk_drew ?_ | refine blk_alloc ?_ _)); refine blk_put (cs := #[.int .i64 ((rd_T55 l0_0 x10_1).f0), .int .i64 x212001_23, .int .i64 ((rd_T55 l0_0 x10_1).f2)]) ?_ 2 _ rfl; (with_reducible repeat (first | refine blk_drewN ?_ _ | refine blk_drew ?_ | refine blk_alloc ?_ _)); exact BK211.out))⟩; have n7_ : Aside0 (Below w.heap.size w w52) := ⟨(by rw [hw]; exact (zb HB.out))⟩; clear hw HO_8 HO_9 HO_201000 BK199 BK200 BK201 BK211 HB; have HO_8 := n0_; have HO_9 := n1_; have HO_201000 := n2_; have BK199 := n3_; have BK200 := n4_; have BK201 := n5_; have BK211 := n6_; have HB := n7_; clear n0_ n1_ n2_ n3_ n4_ n5_ n6_ n7_; have hnb53 := NB200_199.out; have hnc53 := NB199_200.out; have hnb54 := NB200_201.out; have hnc54 := NB201_200.out; have hcz55_0 : w52.cell? ⟨gb200, 0, none⟩ = some (u201000) := (blk_cell BK200.out 0).trans rfl; have hfz55_0 := blk_frozen BK200.out 0; have hcz56_0 : w52.cell? ⟨gb211, 0, none⟩ = some (.int .i64 ((rd_T55 l0_0 x10_1).f0)) := (blk_cell BK211.out 0).trans rfl; have hcz56_1 : w52.cell? ⟨gb211, 1, none⟩ = some (.int .i64 x212001_23) := (blk_cell BK211.out 1).trans rfl; have hcz56_2 : w52.cell? ⟨gb211, 2, none⟩ = some (.int .i64 (rd x9_1 ((rd_T55 l0_0 x10_1).f2))) := (blk_cell BK211.out 2).trans rfl; have hfz56_0 := blk_frozen BK211.out 0; have hfz56_1 := blk_frozen BK211.out 1; have hfz56_2 := blk_frozen BK211.out 2; obtain ⟨Ao57, co57, eo57⟩ := Kd.V_slice HO_201000.out; subst eo57) | ((with_reducible refine gate_callee (f := 30) rfl ?_); refine goesL_ (some 59) rfl rfl Try.func30 (by kernel_rfl) rfl #[.agg #[.slice Ao57 x201000_1.length co57], .agg #[.int .i64 ((rd_T55 l0_0 x10_1).f0), .int .i64 x212001_23, .int .i64 (rd x9_1 ((rd_T55 l0_0 x10_1).f2))]] rfl zl ?_; (with_reducible refine (spec_l5Carry.addV kj23 (fun k_ => ((P2_0_ k_ ∨ w.heap.size ≤ k_) ∧ (some k_ ≠ (.slice (some ad209) t202.length co25 : Value).ownBlock ∧ (some k_ ≠ (.slice (some ad214) x9_1.length co51 : Value).ownBlock ∧ (k_ ≠ gb199 ∧ (k_ ≠ gb200 ∧ (k_ ≠ gb201 ∧ k_ ≠ gb211))))))) _ _ x201000_1 ((rd_T55 l0_0 x10_1).f0) x212001_23 (rd x9_1 ((rd_T55 l0_0 x10_1).f2)) t215 t218 _ ?side1 A45.out).mono ?_); (case side1 => exact HO_201000.out); rintro e w58 ⟨v216, rfl, ho0, hb⟩; refine ⟨_, rfl, ?_⟩; have n0_ := Aside0.mk (Kd.R_below (zr HO_8.out) hb); have n1_ := Aside0.mk (Kd.R_below (zr HO_9.out) hb); have n2_ := Aside0.mk (Kd.V_below (by (with_reducible repeat (first | apply Kd.V_alloc | apply Kd.V_drewN | apply Kd.V_drew)); exact HO_201000.out) hb); have n3_ := Aside0.mk (Kd.V_lower (Kd.V_mono (ok' := fun k_ => (P2_0_ k_ ∨ w.heap.size ≤ k_) ∧ some k_ ≠ (.slice (some ad209) t202.length co25 : Value).ownBlock ∧ some k_ ≠ (.slice (some ad214) x9_1.length co51 : Value).ownBlock ∧ k_ ≠ gb199 ∧ k_ ≠ gb200 ∧ k_ ≠ gb201 ∧ k_ ≠ gb211) ho0 (fun k_ hk_ => by first | exact ⟨Or.elim hk_ (fun hs_ => hs_.1) (fun hn_ => (.inr (Nat.le_trans (below_size (zb HB.out)) hn_))), Or.elim hk_ (fun hs_ => hs_.2.1) (fun hn_ => (Kd.fresh' (Kd.R_lt (zr HO_8.out)) k_ hn_)), Or.elim hk_ (fun hs_ => hs_.2.2.1) (fun hn_ => (Kd.fresh' (Kd.R_lt (zr HO_9.out)) k_ hn_)), Or.elim hk_ (fun hs_ => hs_.2.2.2.1) (fun hn_ => (Kd.freshB (zh BK199.out) k_ hn_)), Or.elim hk_ (fun hs_ => hs_.2.2.2.2.1) (fun hn_ => (Kd.freshB (zh BK200.out) k_ hn_)), Or.elim hk_ (fun hs_ => hs_.2.2.2.2.2.1) (fun hn_ => (Kd.freshB (zh BK201.out) k_ hn_)), Or.elim hk_ (fun hs_ => hs_.2.2.2.2.2.2) (fun hn_ => (Kd.freshB (zh BK211.out) k_ hn_))⟩ | (revert hk_; simp only [and_imp]; intros; and_intros <;> assumption))) (below_size (zb HB.out))); have n4_ := Aside0.mk (blk_below (zh BK199.out) hb); have n5_ := Aside0.mk (blk_below (zh BK200.out) hb); have n6_ := Aside0.mk (blk_below (zh BK201.out) hb); have n7_ := Aside0.mk (blk_below (zh BK211.out) hb); have n8_ := Aside0.mk (below_step (zb HB.out) hb); clear HO_8 HO_9 HO_201000 BK199 BK200 BK201 BK211 HB; have HO_8 := n0_; have HO_9 := n1_; have HO_201000 := n2_; have HO217 := n3_; have BK199 := n4_; have BK200 := n5_; have BK201 := n6_; have BK211 := n7_; have HB := n8_; clear n0_ n1_ n2_ n3_ n4_ n5_ n6_ n7_ n8_; (try clear hb); (try clear hb2); (try clear hk); (try clear hi); (try clear ho0)) | ((with_reducible refine gate_dst (N := 13) rfl ?_); refine box_event ?hg (N := 13) ?hd (cs := #[.slice none 0 0]) (t := 28) ?hr ?_; (case hd => rfl); (case hg => rfl); (case hr => first | (go_simp; done) | (go_simp; rfl)); intro gb219 hg w59 hbox hb; have n0_ := Aside0.mk (Kd.R_below (zr HO_8.out) hb); have n1_ := Aside0.mk (Kd.R_below (zr HO_9.out) hb); have n2_ := Aside0.mk (Kd.V_below (Kd.V_elderB (by (with_reducible repeat (first | apply Kd.V_alloc | apply Kd.V_drewN | apply Kd.V_drew)); exact HO_201000.out) gb219 (Nat.le_of_eq hg.symm)) hb); have n3_ := Aside0.mk (Kd.V_below (Kd.V_elderB (by (with_reducible repeat (first | apply Kd.V_alloc | apply Kd.V_drewN | apply Kd.V_drew)); exact HO217.out) gb219 (Nat.le_of_eq hg.symm)) hb); have n4_ := Aside0.mk (blk_below (zh BK199.out) hb); have n5_ := Aside0.mk (blk_below (zh BK200.out) hb); have n6_ := Aside0.mk (blk_below (zh BK201.out) hb); have n7_ := Aside0.mk (blk_below (zh BK211.out) hb); have n8_ := Aside0.mk (below_step (zb HB.out) hb); have n9_ := Aside0.mk (hbox); have n10_ := Aside0.mk ((by rw [hg]; exact (below_size (zb HB.out)) : w.heap.size ≤ gb219)); have n11_ := Aside0.mk ((by rw [hg]; exact (below_size (zb HB.out)) : w.heap.size ≤ gb219)); have n12_ := Aside0.mk ((by rw [hg]; exact Nat.ne_of_lt (blk_lt (zh BK199.out)) : gb199 ≠ gb219)); have n13_ := Aside0.mk ((by rw [hg]; exact Nat.ne_of_gt (blk_lt (zh BK199.out)) : gb219 ≠ gb199)); have n14_ := Aside0.mk ((by rw [hg]; exact Nat.ne_of_lt (blk_lt (zh BK200.out)) : gb200 ≠ gb219)); have n15_ := Aside0.mk ((by rw [hg]; exact Nat.ne_of_gt (blk_lt (zh BK200.out)) : gb219 ≠ gb200)); have n16_ := Aside0.mk ((by rw [hg]; exact Nat.ne_of_lt (blk_lt (zh BK201.out)) : gb201 ≠ gb219)); have n17_ := Aside0.mk ((by rw [hg]; exact Nat.ne_of_gt (blk_lt (zh BK201.out)) : gb219 ≠ gb201)); have n18_ := Aside0.mk ((by rw [hg]; exact Nat.ne_of_lt (blk_lt (zh BK211.out)) : gb211 ≠ gb219)); have n19_ := Aside0.mk ((by rw [hg]; exact Nat.ne_of_gt (blk_lt (zh BK211.out)) : gb219 ≠ gb211)); clear HO_8 HO_9 HO_201000 HO217 BK199 BK200 BK201 BK211 HB; have HO_8 := n0_; have HO_9 := n1_; have HO_201000 := n2_; have HO217 := n3_; have BK199 := n4_; have BK200 := n5_; have BK201 := n6_; have BK211 := n7_; have HB := n8_; have BK219 := n9_; have GW219 := n10_; have GE219 := n11_; have NB199_219 := n12_; have NB219_199 := n13_; have NB200_219 := n14_; have NB219_200 := n15_; have NB201_219 := n16_; have NB219_201 := n17_; have NB211_219 := n18_; have NB219_211 := n19_; clear n0_ n1_ n2_ n3_ n4_ n5_ n6_ n7_ n8_ n9_ n10_ n11_ n12_ n13_ n14_ n15_ n16_ n17_ n18_ n19_ hb hbox hg; obtain ⟨Ao60, co60, eo60⟩ := Kd.V_slice HO217.out; subst eo60; have hnb61 := NB219_199.out; have hnc61 := NB199_219.out; have hnb62 := NB219_200.out; have hnc62 := NB200_219.out; have hnb63 := NB219_201.out; have hnc63 := NB201_219.out; have hnb64 := NB219_211.out; have hnc64 := NB211_219.out; have hcz65_0 : w59.cell? ⟨gb219, 0, none⟩ = some (.slice none 0 0) := (blk_cell BK219.out 0).trans rfl; have hfz65_0 := blk_frozen BK219.out 0; have hcz66_0 : w59.cell? ⟨gb200, 0, none⟩ = some (.slice Ao57 x201000_1.length co57) := (blk_cell BK200.out 0).trans rfl; have hfz66_0 := blk_frozen BK200.out 0; have hnb67 := NB201_199.out; have hnc67 := NB199_201.out; have hcz68_0 : w59.cell? ⟨gb201, 0, none⟩ = some (.slice none 0 0) := (blk_cell BK201.out 0).trans rfl; have hfz68_0 := blk_frozen BK201.out 0))
      refine bodyPost_ret (results_ct rfl _ _ gb201 28 #[.slice Ao57 x201000_1.length co57] (0, 0) _ rfl (by (with_reducible repeat (first | refine blk_drewN ?_ _ | refine blk_drew ?_ | refine blk_alloc ?_ _)); refine blk_put (cs := #[.slice none 0 0]) ?_ 0 _ rfl; (with_reducible repeat (first | refine blk_drewN ?_ _ | refine blk_drew ?_ | refine blk_alloc ?_ _)); refine blk_far ?_ NB201_219.out _; (with_reducible repeat (first | refine blk_drewN ?_ _ | refine blk_drew ?_ | refine blk_alloc ?_ _)); exact BK201.out) Try.underlying28 rfl (by kernel_rfl)) rfl ?_
      exact ⟨_, ze, by (with_reducible repeat (first | apply Kd.V_alloc | apply Kd.V_drewN | apply Kd.V_drew)); exact Kd.V_mono (Kd.V_far (p := ⟨gb201, 0, none⟩) (Kd.V_far (p := ⟨gb219, 0, none⟩) (Kd.V_mono (Kd.V_mono HO_201000.out (fun k_ hk => (⟨hk, hk.2⟩ : _ ∧ k_ ≠ gb219))) (fun k_ hk => (⟨hk, hk.1.1.2.2.2.2.2.1⟩ : _ ∧ k_ ≠ gb201))) (fun _ hk => hk.1.2) (.slice Ao60 t215.length co60)) (fun _ hk => hk.2) (.slice Ao57 x201000_1.length co57)) (fun _ hk => hk.1.1.1.1), zb HB.out⟩
     rw [if_neg c46] at H
     have c46b0 : decide (t218 < 0) = false := decide_eq_false c46
     clear c46
     by_cases c69 : 0 ≤ x10_1
     rotate_left
     ·rw [if_neg c69] at H
      exact absurd H (by simp)
     rw [if_pos c69] at H
     have c69b0 : decide (0 ≤ x10_1) = true := decide_eq_true c69
     clear c69
     by_cases c70 : x10_1 < (x9_1.length : Int)
     rotate_left
     ·rw [if_neg c70] at H
      exact absurd H (by simp)
     rw [if_pos c70] at H
     have c70b0 : decide (x10_1 < (x9_1.length : Int)) = true := decide_eq_true c70
     clear c70
     obtain ⟨y220, hy220⟩ : ∃ y_ : List Int, y_ = (x9_1.set (x10_1 : Int).toNat t218) := ⟨_, rfl⟩
     replace H : (spec_l5Carry.l0 kj23 a1 t202 y220 (wrap64 (x10_1 + 1)) l0_0 t215) = some (r1, r2) := by first | (rw [hy220]; with_reducible exact H) | (have H2_ := (Option.bind_some _ _).symm.trans H; rw [hy220]; with_reducible exact H2_) | (have H2_ := (Option.bind_some _ _).symm.trans H; with_reducible exact H2_) | with_reducible exact H | (rw [hy220]; exact H) | exact H
     have Ny220 := Aside0.mk hy220
     clear hy220
     have H' := Aside0.mk H
     clear H
     have hnb72 := NB211_199.out
     have hnc72 := NB199_211.out
     have hnb73 := NB211_200.out
     have hnc73 := NB200_211.out
     have hnb74 := NB211_201.out
     have hnc74 := NB201_211.out
     have hcz75_0 : wc.cell? ⟨gb211, 0, none⟩ = some (.int .i64 ((rd_T55 l0_0 x10_1).f0)) := (blk_cell BK211.out 0).trans rfl
     have hcz75_1 : wc.cell? ⟨gb211, 1, none⟩ = some (.int .i64 x212001_23) := (blk_cell BK211.out 1).trans rfl
     have hcz75_2 : wc.cell? ⟨gb211, 2, none⟩ = some (.int .i64 ((rd_T55 l0_0 x10_1).f2)) := (blk_cell BK211.out 2).trans rfl
     have hfz75_0 := blk_frozen BK211.out 0
     have hfz75_1 := blk_frozen BK211.out 1
     have hfz75_2 := blk_frozen BK211.out 2
     obtain ⟨Ao76, co76, eo76⟩ := Kd.R_slice HO_9.out
     subst eo76
     have p214 : 0 ≤ (((rd_T55 l0_0 x10_1).f2) : Int) := of_decide_eq_true (by first | (with_reducible assumption) | assumption)
     have q214 : ((rd_T55 l0_0 x10_1).f2) < (x9_1.length : Int) := of_decide_eq_true (by first | (with_reducible assumption) | assumption)
     obtain ⟨ad214, e214, hx214_0⟩ := Kd.at_int (Kd.R_reads' HO_9.out).2.2 ((rd_T55 l0_0 x10_1).f2) p214 q214
     cases e214
     replace p214 := eq_true p214
     replace q214 := eq_true q214
     go_wp2_with (first | ((with_reducible refine gate_store (t := 3) (p := 55) rfl ?_); refine store_event (t := 3) (p := 55) (v := ?vo_w77) (w1 := (wc.setCell ⟨gb211, 2, none⟩ (.int .i64 (rd x9_1 ((rd_T55 l0_0 x10_1).f2))))) ?hg ?ho ?hn ?hr ?_; (case ho => rfl); (case hg => rfl); (case hn => rfl); (case hr => first | (go_simp; done) | (go_simp; rfl)); intro w77 hw; have n0_ : Aside0 (Kd.R Kd.bool 4 w77 w.heap.size (fun k_ => (w.heap.size ≤ k_)) (.slice (some ad209) t202.length co25) t202) := ⟨(by rw [hw]; exact (by (with_reducible repeat (first | apply Kd.R_alloc | apply Kd.R_drewN | apply Kd.R_drew)); exact Kd.R_mono (Kd.R_far (p := ⟨gb211, 2, none⟩) (Kd.R_types HO_8.out BK211.out (by decide)) (fun _ hk => hk.2) (.int .i64 (rd x9_1 ((rd_T55 l0_0 x10_1).f2)))) (fun _ hk => hk.1)))⟩; have n1_ : Aside0 (Kd.R (Kd.int .i64) 3 w77 w.heap.size (fun k_ => (w.heap.size ≤ k_)) (.slice (some ad214) x9_1.length co76) x9_1) := ⟨(by rw [hw]; exact (by (with_reducible repeat (first | apply Kd.R_alloc | apply Kd.R_drewN | apply Kd.R_drew)); exact Kd.R_mono (Kd.R_far (p := ⟨gb211, 2, none⟩) (Kd.R_types HO_9.out BK211.out (by decide)) (fun _ hk => hk.2) (.int .i64 (rd x9_1 ((rd_T55 l0_0 x10_1).f2)))) (fun _ hk => hk.1)))⟩; have n2_ : Aside0 (Kd.V k55 55 w77 w.heap.size (fun k_ => (P2_0_ k_ ∨ w.heap.size ≤ k_) ∧ some k_ ≠ (.slice (some ad209) t202.length co25 : Value).ownBlock ∧ some k_ ≠ (.slice (some ad214) x9_1.length co76 : Value).ownBlock ∧ k_ ≠ gb199 ∧ k_ ≠ gb200 ∧ k_ ≠ gb201 ∧ k_ ≠ gb211) u201000 x201000_1) := ⟨(by rw [hw]; exact (by (with_reducible repeat (first | apply Kd.V_alloc | apply Kd.V_drewN | apply Kd.V_drew)); exact Kd.V_mono (Kd.V_far (p := ⟨gb211, 2, none⟩) (Kd.V_mono HO_201000.out (fun k_ hk => (⟨hk, hk.2.2.2.2.2.2⟩ : _ ∧ k_ ≠ gb211))) (fun _ hk => hk.2) (.int .i64 (rd x9_1 ((rd_T55 l0_0 x10_1).f2)))) (fun _ hk => ⟨hk.1.1, ⟨hk.1.2.1, ⟨hk.1.2.2.1, ⟨hk.1.2.2.2.1, ⟨hk.1.2.2.2.2.1, ⟨hk.1.2.2.2.2.2.1, hk.1.2.2.2.2.2.2⟩⟩⟩⟩⟩⟩)))⟩; have n3_ : Aside0 (w77.heap[gb199]? = some (.cells #[.slice (some ad210) l0_0.length c0_0] 28 (0, 0))) := ⟨(by rw [hw]; exact (zf BK199.out))⟩; have n4_ : Aside0 (w77.heap[gb200]? = some (.cells #[u201000] 28 (0, 0))) := ⟨(by rw [hw]; exact (zf BK200.out))⟩; have n5_ : Aside0 (w77.heap[gb201]? = some (.cells #[.slice none 0 0] 28 (0, 0))) := ⟨(by rw [hw]; exact (zf BK201.out))⟩; have n6_ : Aside0 (w77.heap[gb211]? = some (.cells #[.int .i64 ((rd_T55 l0_0 x10_1).f0), .int .i64 x212001_23, .int .i64 (rd x9_1 ((rd_T55 l0_0 x10_1).f2))] 55 (0, 0))) := ⟨(by rw [hw]; exact (by (with_reducible repeat (first | refine blk_drewN ?_ _ | refine blk_drew ?_ | refine blk_alloc ?_ _)); refine blk_put (cs := #[.int .i64 ((rd_T55 l0_0 x10_1).f0), .int .i64 x212001_23, .int .i64 ((rd_T55 l0_0 x10_1).f2)]) ?_ 2 _ rfl; (with_reducible repeat (first | refine blk_drewN ?_ _ | refine blk_drew ?_ | refine blk_alloc ?_ _)); exact BK211.out))⟩; have n7_ : Aside0 (Below w.heap.size w w77) := ⟨(by rw [hw]; exact (zb HB.out))⟩; clear hw HO_8 HO_9 HO_201000 BK199 BK200 BK201 BK211 HB; have HO_8 := n0_; have HO_9 := n1_; have HO_201000 := n2_; have BK199 := n3_; have BK200 := n4_; have BK201 := n5_; have BK211 := n6_; have HB := n7_; clear n0_ n1_ n2_ n3_ n4_ n5_ n6_ n7_; have hnb78 := NB200_199.out; have hnc78 := NB199_200.out; have hnb79 := NB200_201.out; have hnc79 := NB201_200.out; have hcz80_0 : w77.cell? ⟨gb200, 0, none⟩ = some (u201000) := (blk_cell BK200.out 0).trans rfl; have hfz80_0 := blk_frozen BK200.out 0; have hcz81_0 : w77.cell? ⟨gb211, 0, none⟩ = some (.int .i64 ((rd_T55 l0_0 x10_1).f0)) := (blk_cell BK211.out 0).trans rfl; have hcz81_1 : w77.cell? ⟨gb211, 1, none⟩ = some (.int .i64 x212001_23) := (blk_cell BK211.out 1).trans rfl; have hcz81_2 : w77.cell? ⟨gb211, 2, none⟩ = some (.int .i64 (rd x9_1 ((rd_T55 l0_0 x10_1).f2))) := (blk_cell BK211.out 2).trans rfl; have hfz81_0 := blk_frozen BK211.out 0; have hfz81_1 := blk_frozen BK211.out 1; have hfz81_2 := blk_frozen BK211.out 2; obtain ⟨Ao82, co82, eo82⟩ := Kd.V_slice HO_201000.out; subst eo82) | ((with_reducible refine gate_callee (f := 30) rfl ?_); refine goesL_ (some 59) rfl rfl Try.func30 (by kernel_rfl) rfl #[.agg #[.slice Ao82 x201000_1.length co82], .agg #[.int .i64 ((rd_T55 l0_0 x10_1).f0), .int .i64 x212001_23, .int .i64 (rd x9_1 ((rd_T55 l0_0 x10_1).f2))]] rfl zl ?_; (with_reducible refine (spec_l5Carry.addV kj23 (fun k_ => ((P2_0_ k_ ∨ w.heap.size ≤ k_) ∧ (some k_ ≠ (.slice (some ad209) t202.length co25 : Value).ownBlock ∧ (some k_ ≠ (.slice (some ad214) x9_1.length co76 : Value).ownBlock ∧ (k_ ≠ gb199 ∧ (k_ ≠ gb200 ∧ (k_ ≠ gb201 ∧ k_ ≠ gb211))))))) _ _ x201000_1 ((rd_T55 l0_0 x10_1).f0) x212001_23 (rd x9_1 ((rd_T55 l0_0 x10_1).f2)) t215 t218 _ ?side1 A45.out).mono ?_); (case side1 => exact HO_201000.out); rintro e w83 ⟨v216, rfl, ho0, hb⟩; refine ⟨_, rfl, ?_⟩; have n0_ := Aside0.mk (Kd.R_below (zr HO_8.out) hb); have n1_ := Aside0.mk (Kd.R_below (zr HO_9.out) hb); have n2_ := Aside0.mk (Kd.V_below (by (with_reducible repeat (first | apply Kd.V_alloc | apply Kd.V_drewN | apply Kd.V_drew)); exact HO_201000.out) hb); have n3_ := Aside0.mk (Kd.V_lower (Kd.V_mono (ok' := fun k_ => (P2_0_ k_ ∨ w.heap.size ≤ k_) ∧ some k_ ≠ (.slice (some ad209) t202.length co25 : Value).ownBlock ∧ some k_ ≠ (.slice (some ad214) x9_1.length co76 : Value).ownBlock ∧ k_ ≠ gb199 ∧ k_ ≠ gb200 ∧ k_ ≠ gb201 ∧ k_ ≠ gb211) ho0 (fun k_ hk_ => by first | exact ⟨Or.elim hk_ (fun hs_ => hs_.1) (fun hn_ => (.inr (Nat.le_trans (below_size (zb HB.out)) hn_))), Or.elim hk_ (fun hs_ => hs_.2.1) (fun hn_ => (Kd.fresh' (Kd.R_lt (zr HO_8.out)) k_ hn_)), Or.elim hk_ (fun hs_ => hs_.2.2.1) (fun hn_ => (Kd.fresh' (Kd.R_lt (zr HO_9.out)) k_ hn_)), Or.elim hk_ (fun hs_ => hs_.2.2.2.1) (fun hn_ => (Kd.freshB (zh BK199.out) k_ hn_)), Or.elim hk_ (fun hs_ => hs_.2.2.2.2.1) (fun hn_ => (Kd.freshB (zh BK200.out) k_ hn_)), Or.elim hk_ (fun hs_ => hs_.2.2.2.2.2.1) (fun hn_ => (Kd.freshB (zh BK201.out) k_ hn_)), Or.elim hk_ (fun hs_ => hs_.2.2.2.2.2.2) (fun hn_ => (Kd.freshB (zh BK211.out) k_ hn_))⟩ | (revert hk_; simp only [and_imp]; intros; and_intros <;> assumption))) (below_size (zb HB.out))); have n4_ := Aside0.mk (blk_below (zh BK199.out) hb); have n5_ := Aside0.mk (blk_below (zh BK200.out) hb); have n6_ := Aside0.mk (blk_below (zh BK201.out) hb); have n7_ := Aside0.mk (blk_below (zh BK211.out) hb); have n8_ := Aside0.mk (below_step (zb HB.out) hb); clear HO_8 HO_9 HO_201000 BK199 BK200 BK201 BK211 HB; have HO_8 := n0_; have HO_9 := n1_; have HO_201000 := n2_; have HO217 := n3_; have BK199 := n4_; have BK200 := n5_; have BK201 := n6_; have BK211 := n7_; have HB := n8_; clear n0_ n1_ n2_ n3_ n4_ n5_ n6_ n7_ n8_; (try clear hb); (try clear hb2); (try clear hk); (try clear hi); (try clear ho0)) | ((with_reducible refine gate_dst (N := 13) rfl ?_); refine box_event ?hg (N := 13) ?hd (cs := #[.slice none 0 0]) (t := 28) ?hr ?_; (case hd => rfl); (case hg => rfl); (case hr => first | (go_simp; done) | (go_simp; rfl)); intro gb219 hg w84 hbox hb; have n0_ := Aside0.mk (Kd.R_below (zr HO_8.out) hb); have n1_ := Aside0.mk (Kd.R_below (zr HO_9.out) hb); have n2_ := Aside0.mk (Kd.V_below (Kd.V_elderB (by (with_reducible repeat (first | apply Kd.V_alloc | apply Kd.V_drewN | apply Kd.V_drew)); exact HO_201000.out) gb219 (Nat.le_of_eq hg.symm)) hb); have n3_ := Aside0.mk (Kd.V_below (Kd.V_elderB (by (with_reducible repeat (first | apply Kd.V_alloc | apply Kd.V_drewN | apply Kd.V_drew)); exact HO217.out) gb219 (Nat.le_of_eq hg.symm)) hb); have n4_ := Aside0.mk (blk_below (zh BK199.out) hb); have n5_ := Aside0.mk (blk_below (zh BK200.out) hb); have n6_ := Aside0.mk (blk_below (zh BK201.out) hb); have n7_ := Aside0.mk (blk_below (zh BK211.out) hb); have n8_ := Aside0.mk (below_step (zb HB.out) hb); have n9_ := Aside0.mk (hbox); have n10_ := Aside0.mk ((by rw [hg]; exact (below_size (zb HB.out)) : w.heap.size ≤ gb219)); have n11_ := Aside0.mk ((by rw [hg]; exact (below_size (zb HB.out)) : w.heap.size ≤ gb219)); have n12_ := Aside0.mk ((by rw [hg]; exact Nat.ne_of_lt (blk_lt (zh BK199.out)) : gb199 ≠ gb219)); have n13_ := Aside0.mk ((by rw [hg]; exact Nat.ne_of_gt (blk_lt (zh BK199.out)) : gb219 ≠ gb199)); have n14_ := Aside0.mk ((by rw [hg]; exact Nat.ne_of_lt (blk_lt (zh BK200.out)) : gb200 ≠ gb219)); have n15_ := Aside0.mk ((by rw [hg]; exact Nat.ne_of_gt (blk_lt (zh BK200.out)) : gb219 ≠ gb200)); have n16_ := Aside0.mk ((by rw [hg]; exact Nat.ne_of_lt (blk_lt (zh BK201.out)) : gb201 ≠ gb219)); have n17_ := Aside0.mk ((by rw [hg]; exact Nat.ne_of_gt (blk_lt (zh BK201.out)) : gb219 ≠ gb201)); have n18_ := Aside0.mk ((by rw [hg]; exact Nat.ne_of_lt (blk_lt (zh BK211.out)) : gb211 ≠ gb219)); have n19_ := Aside0.mk ((by rw [hg]; exact Nat.ne_of_gt (blk_lt (zh BK211.out)) : gb219 ≠ gb211)); clear HO_8 HO_9 HO_201000 HO217 BK199 BK200 BK201 BK211 HB; have HO_8 := n0_; have HO_9 := n1_; have HO_201000 := n2_; have HO217 := n3_; have BK199 := n4_; have BK200 := n5_; have BK201 := n6_; have BK211 := n7_; have HB := n8_; have BK219 := n9_; have GW219 := n10_; have GE219 := n11_; have NB199_219 := n12_; have NB219_199 := n13_; have NB200_219 := n14_; have NB219_200 := n15_; have NB201_219 := n16_; have NB219_201 := n17_; have NB211_219 := n18_; have NB219_211 := n19_; clear n0_ n1_ n2_ n3_ n4_ n5_ n6_ n7_ n8_ n9_ n10_ n11_ n12_ n13_ n14_ n15_ n16_ n17_ n18_ n19_ hb hbox hg; obtain ⟨Ao85, co85, eo85⟩ := Kd.V_slice HO217.out; subst eo85; have hnb86 := NB219_199.out; have hnc86 := NB199_219.out; have hnb87 := NB219_200.out; have hnc87 := NB200_219.out; have hnb88 := NB219_201.out; have hnc88 := NB201_219.out; have hnb89 := NB219_211.out; have hnc89 := NB211_219.out; have hcz90_0 : w84.cell? ⟨gb219, 0, none⟩ = some (.slice none 0 0) := (blk_cell BK219.out 0).trans rfl; have hfz90_0 := blk_frozen BK219.out 0) | ((with_reducible refine gate_store (t := 28) (p := 13) rfl ?_); refine store_event (t := 28) (p := 13) (v := ?vo_w91) (w1 := (w84.setCell ⟨gb219, 0, none⟩ (.slice Ao85 t215.length co85))) ?hg ?ho ?hn ?hr ?_; (case ho => rfl); (case hg => rfl); (case hn => rfl); (case hr => first | (go_simp; done) | (go_simp; rfl)); intro w91 hw; have n0_ : Aside0 (Kd.R Kd.bool 4 w91 w.heap.size (fun k_ => (w.heap.size ≤ k_)) (.slice (some ad209) t202.length co25) t202) := ⟨(by rw [hw]; exact (by (with_reducible repeat (first | apply Kd.R_alloc | apply Kd.R_drewN | apply Kd.R_drew)); exact Kd.R_mono (Kd.R_far (p := ⟨gb219, 0, none⟩) (Kd.R_types HO_8.out BK219.out (by decide)) (fun _ hk => hk.2) (.slice Ao85 t215.length co85)) (fun _ hk => hk.1)))⟩; have n1_ : Aside0 (Kd.R (Kd.int .i64) 3 w91 w.heap.size (fun k_ => (w.heap.size ≤ k_)) (.slice (some ad214) x9_1.length co76) x9_1) := ⟨(by rw [hw]; exact (by (with_reducible repeat (first | apply Kd.R_alloc | apply Kd.R_drewN | apply Kd.R_drew)); exact Kd.R_mono (Kd.R_far (p := ⟨gb219, 0, none⟩) (Kd.R_types HO_9.out BK219.out (by decide)) (fun _ hk => hk.2) (.slice Ao85 t215.length co85)) (fun _ hk => hk.1)))⟩; have n2_ : Aside0 (Kd.V k55 55 w91 w.heap.size (fun k_ => (P2_0_ k_ ∨ w.heap.size ≤ k_) ∧ some k_ ≠ (.slice (some ad209) t202.length co25 : Value).ownBlock ∧ some k_ ≠ (.slice (some ad214) x9_1.length co76 : Value).ownBlock ∧ k_ ≠ gb199 ∧ k_ ≠ gb200 ∧ k_ ≠ gb201 ∧ k_ ≠ gb211 ∧ k_ ≠ gb219) (.slice Ao82 x201000_1.length co82) x201000_1) := ⟨(by rw [hw]; exact (by (with_reducible repeat (first | apply Kd.V_alloc | apply Kd.V_drewN | apply Kd.V_drew)); exact Kd.V_mono (Kd.V_far (p := ⟨gb219, 0, none⟩) (Kd.V_mono HO_201000.out (fun k_ hk => (⟨hk, hk.2⟩ : _ ∧ k_ ≠ gb219))) (fun _ hk => hk.2) (.slice Ao85 t215.length co85)) (fun _ hk => ⟨hk.1.1.1, ⟨hk.1.1.2.1, ⟨hk.1.1.2.2.1, ⟨hk.1.1.2.2.2.1, ⟨hk.1.1.2.2.2.2.1, ⟨hk.1.1.2.2.2.2.2.1, ⟨hk.1.1.2.2.2.2.2.2, hk.1.2⟩⟩⟩⟩⟩⟩⟩)))⟩; have n3_ : Aside0 (Kd.V k55 55 w91 w.heap.size (fun k_ => (P2_0_ k_ ∨ w.heap.size ≤ k_) ∧ some k_ ≠ (.slice (some ad209) t202.length co25 : Value).ownBlock ∧ some k_ ≠ (.slice (some ad214) x9_1.length co76 : Value).ownBlock ∧ k_ ≠ gb199 ∧ k_ ≠ gb200 ∧ k_ ≠ gb201 ∧ k_ ≠ gb211 ∧ k_ ≠ gb219) (.slice Ao85 t215.length co85) t215) := ⟨(by rw [hw]; exact (by (with_reducible repeat (first | apply Kd.V_alloc | apply Kd.V_drewN | apply Kd.V_drew)); exact Kd.V_mono (Kd.V_far (p := ⟨gb219, 0, none⟩) (Kd.V_mono HO217.out (fun k_ hk => (⟨hk, hk.2⟩ : _ ∧ k_ ≠ gb219))) (fun _ hk => hk.2) (.slice Ao85 t215.length co85)) (fun _ hk => ⟨hk.1.1.1, ⟨hk.1.1.2.1, ⟨hk.1.1.2.2.1, ⟨hk.1.1.2.2.2.1, ⟨hk.1.1.2.2.2.2.1, ⟨hk.1.1.2.2.2.2.2.1, ⟨hk.1.1.2.2.2.2.2.2, hk.1.2⟩⟩⟩⟩⟩⟩⟩)))⟩; have n4_ : Aside0 (w91.heap[gb199]? = some (.cells #[.slice (some ad210) l0_0.length c0_0] 28 (0, 0))) := ⟨(by rw [hw]; exact (zf BK199.out))⟩; have n5_ : Aside0 (w91.heap[gb200]? = some (.cells #[.slice Ao82 x201000_1.length co82] 28 (0, 0))) := ⟨(by rw [hw]; exact (zf BK200.out))⟩; have n6_ : Aside0 (w91.heap[gb201]? = some (.cells #[.slice none 0 0] 28 (0, 0))) := ⟨(by rw [hw]; exact (zf BK201.out))⟩; have n7_ : Aside0 (w91.heap[gb211]? = some (.cells #[.int .i64 ((rd_T55 l0_0 x10_1).f0), .int .i64 x212001_23, .int .i64 (rd x9_1 ((rd_T55 l0_0 x10_1).f2))] 55 (0, 0))) := ⟨(by rw [hw]; exact (zf BK211.out))⟩; have n8_ : Aside0 (w91.heap[gb219]? = some (.cells #[.slice Ao85 t215.length co85] 28 (0, 0))) := ⟨(by rw [hw]; exact (by (with_reducible repeat (first | refine blk_drewN ?_ _ | refine blk_drew ?_ | refine blk_alloc ?_ _)); refine blk_put (cs := #[.slice none 0 0]) ?_ 0 _ rfl; (with_reducible repeat (first | refine blk_drewN ?_ _ | refine blk_drew ?_ | refine blk_alloc ?_ _)); exact BK219.out))⟩; have n9_ : Aside0 (Below w.heap.size w w91) := ⟨(by rw [hw]; exact (zb HB.out))⟩; clear hw HO_8 HO_9 HO_201000 HO217 BK199 BK200 BK201 BK211 BK219 HB; have HO_8 := n0_; have HO_9 := n1_; have HO_201000 := n2_; have HO217 := n3_; have BK199 := n4_; have BK200 := n5_; have BK201 := n6_; have BK211 := n7_; have BK219 := n8_; have HB := n9_; clear n0_ n1_ n2_ n3_ n4_ n5_ n6_ n7_ n8_ n9_; have hcz92_0 : w91.cell? ⟨gb219, 0, none⟩ = some (.slice Ao85 t215.length co85) := (blk_cell BK219.out 0).trans rfl; have hfz92_0 := blk_frozen BK219.out 0; have hcz93_0 : w91.cell? ⟨gb200, 0, none⟩ = some (.slice Ao82 x201000_1.length co82) := (blk_cell BK200.out 0).trans rfl; have hfz93_0 := blk_frozen BK200.out 0) | ((with_reducible refine gate_store (t := 28) (p := 5) rfl ?_); refine store_event (t := 28) (p := 5) (v := ?vo_w94) (w1 := (w91.setCell ⟨gb200, 0, none⟩ (.slice Ao85 t215.length co85))) ?hg ?ho ?hn ?hr ?_; (case ho => rfl); (case hg => rfl); (case hn => rfl); (case hr => first | (go_simp; done) | (go_simp; rfl)); intro w94 hw; have n0_ : Aside0 (Kd.R Kd.bool 4 w94 w.heap.size (fun k_ => (w.heap.size ≤ k_)) (.slice (some ad209) t202.length co25) t202) := ⟨(by rw [hw]; exact (by (with_reducible repeat (first | apply Kd.R_alloc | apply Kd.R_drewN | apply Kd.R_drew)); exact Kd.R_mono (Kd.R_far (p := ⟨gb200, 0, none⟩) (Kd.R_types HO_8.out BK200.out (by decide)) (fun _ hk => hk.2) (.slice Ao85 t215.length co85)) (fun _ hk => hk.1)))⟩; have n1_ : Aside0 (Kd.R (Kd.int .i64) 3 w94 w.heap.size (fun k_ => (w.heap.size ≤ k_)) (.slice (some ad214) x9_1.length co76) x9_1) := ⟨(by rw [hw]; exact (by (with_reducible repeat (first | apply Kd.R_alloc | apply Kd.R_drewN | apply Kd.R_drew)); exact Kd.R_mono (Kd.R_far (p := ⟨gb200, 0, none⟩) (Kd.R_types HO_9.out BK200.out (by decide)) (fun _ hk => hk.2) (.slice Ao85 t215.length co85)) (fun _ hk => hk.1)))⟩; have n2_ : Aside0 (Kd.V k55 55 w94 w.heap.size (fun k_ => (P2_0_ k_ ∨ w.heap.size ≤ k_) ∧ some k_ ≠ (.slice (some ad209) t202.length co25 : Value).ownBlock ∧ some k_ ≠ (.slice (some ad214) x9_1.length co76 : Value).ownBlock ∧ k_ ≠ gb199 ∧ k_ ≠ gb200 ∧ k_ ≠ gb201 ∧ k_ ≠ gb211 ∧ k_ ≠ gb219) (.slice Ao82 x201000_1.length co82) x201000_1) := ⟨(by rw [hw]; exact (by (with_reducible repeat (first | apply Kd.V_alloc | apply Kd.V_drewN | apply Kd.V_drew)); exact Kd.V_mono (Kd.V_far (p := ⟨gb200, 0, none⟩) (Kd.V_mono HO_201000.out (fun k_ hk => (⟨hk, hk.2.2.2.2.1⟩ : _ ∧ k_ ≠ gb200))) (fun _ hk => hk.2) (.slice Ao85 t215.length co85)) (fun _ hk => ⟨hk.1.1, ⟨hk.1.2.1, ⟨hk.1.2.2.1, ⟨hk.1.2.2.2.1, ⟨hk.1.2.2.2.2.1, ⟨hk.1.2.2.2.2.2.1, ⟨hk.1.2.2.2.2.2.2.1, hk.1.2.2.2.2.2.2.2⟩⟩⟩⟩⟩⟩⟩)))⟩; have n3_ : Aside0 (Kd.V k55 55 w94 w.heap.size (fun k_ => (P2_0_ k_ ∨ w.heap.size ≤ k_) ∧ some k_ ≠ (.slice (some ad209) t202.length co25 : Value).ownBlock ∧ some k_ ≠ (.slice (some ad214) x9_1.length co76 : Value).ownBlock ∧ k_ ≠ gb199 ∧ k_ ≠ gb200 ∧ k_ ≠ gb201 ∧ k_ ≠ gb211 ∧ k_ ≠ gb219) (.slice Ao85 t215.length co85) t215) := ⟨(by rw [hw]; exact (by (with_reducible repeat (first | apply Kd.V_alloc | apply Kd.V_drewN | apply Kd.V_drew)); exact Kd.V_mono (Kd.V_far (p := ⟨gb200, 0, none⟩) (Kd.V_mono HO217.out (fun k_ hk => (⟨hk, hk.2.2.2.2.1⟩ : _ ∧ k_ ≠ gb200))) (fun _ hk => hk.2) (.slice Ao85 t215.length co85)) (fun _ hk => ⟨hk.1.1, ⟨hk.1.2.1, ⟨hk.1.2.2.1, ⟨hk.1.2.2.2.1, ⟨hk.1.2.2.2.2.1, ⟨hk.1.2.2.2.2.2.1, ⟨hk.1.2.2.2.2.2.2.1, hk.1.2.2.2.2.2.2.2⟩⟩⟩⟩⟩⟩⟩)))⟩; have n4_ : Aside0 (w94.heap[gb199]? = some (.cells #[.slice (some ad210) l0_0.length c0_0] 28 (0, 0))) := ⟨(by rw [hw]; exact (zf BK199.out))⟩; have n5_ : Aside0 (w94.heap[gb200]? = some (.cells #[.slice Ao85 t215.length co85] 28 (0, 0))) := ⟨(by rw [hw]; exact (by (with_reducible repeat (first | refine blk_drewN ?_ _ | refine blk_drew ?_ | refine blk_alloc ?_ _)); refine blk_put (cs := #[.slice Ao82 x201000_1.length co82]) ?_ 0 _ rfl; (with_reducible repeat (first | refine blk_drewN ?_ _ | refine blk_drew ?_ | refine blk_alloc ?_ _)); exact BK200.out))⟩; have n6_ : Aside0 (w94.heap[gb201]? = some (.cells #[.slice none 0 0] 28 (0, 0))) := ⟨(by rw [hw]; exact (zf BK201.out))⟩; have n7_ : Aside0 (w94.heap[gb211]? = some (.cells #[.int .i64 ((rd_T55 l0_0 x10_1).f0), .int .i64 x212001_23, .int .i64 (rd x9_1 ((rd_T55 l0_0 x10_1).f2))] 55 (0, 0))) := ⟨(by rw [hw]; exact (zf BK211.out))⟩; have n8_ : Aside0 (w94.heap[gb219]? = some (.cells #[.slice Ao85 t215.length co85] 28 (0, 0))) := ⟨(by rw [hw]; exact (zf BK219.out))⟩; have n9_ : Aside0 (Below w.heap.size w w94) := ⟨(by rw [hw]; exact (zb HB.out))⟩; clear hw HO_8 HO_9 HO_201000 HO217 BK199 BK200 BK201 BK211 BK219 HB; have HO_8 := n0_; have HO_9 := n1_; have HO_201000 := n2_; have HO217 := n3_; have BK199 := n4_; have BK200 := n5_; have BK201 := n6_; have BK211 := n7_; have BK219 := n8_; have HB := n9_; clear n0_ n1_ n2_ n3_ n4_ n5_ n6_ n7_ n8_ n9_; have p71 : 0 ≤ (x10_1 : Int) := of_decide_eq_true (by first | (with_reducible assumption) | assumption); have q71 : (x10_1 : Int) < ((x9_1.length : Int) : Int) := of_decide_eq_true (by first | (with_reducible assumption) | assumption); obtain ⟨go71, co71, eo71, gb71, gl71, cl71, HG71⟩ := Kd.R_form HO_9.out (by omega); (first | cases eo71 | (injection eo71 with ea_ en_ ec_; (first | subst ea_ | (injection ea_ with ea_; subst ea_)); subst ec_; clear en_)); have GB71 := Aside0.mk gb71; have GG71 := Aside0.mk HG71; clear gb71 gl71 HG71; (first | simp only [add_plain] at hx214_0 | skip); obtain ⟨hx71_0, hf71_0⟩ := Kd.R_celln 0 HO_9.out (x10_1 : Int) p71 q71; replace p71 := eq_true p71; replace q71 := eq_true q71; obtain ⟨hy95_, hz95_⟩ := Kd.R_celln 0 HO_9.out (x10_1 : Int) (of_decide_eq_true (by first | (with_reducible assumption) | assumption)) (of_decide_eq_true (by first | (with_reducible assumption) | assumption)); have HP95 := Kd.R_putg HO_9.out (x10_1 : Int) t218) | ((with_reducible refine gate_store (t := 3) (p := 69) rfl ?_); refine store_event (t := 3) (p := 69) (v := ?vo_w96) (w1 := (w94.setCell ⟨go71, (x10_1 : Int).toNat, none⟩ (.int .i64 t218))) ?hg ?ho ?hn ?hr ?_; (case ho => rfl); (case hg => rfl); (case hn => rfl); (case hr => first | (go_simp; done) | (go_simp; rfl)); intro w96 hw; have hg : w94.grownBy w96 (some go71) := (by rw [hw]; exact HP95.2); have hp_ : Kd.R (Kd.int .i64) 3 w96 w.heap.size (fun k_ => (w.heap.size ≤ k_)) (.slice (some ⟨go71, 0, none⟩) x9_1.length co76) y220 := (by rw [hw, Ny220.out]; exact HP95.1); clear HP95; have n0_ := Aside0.mk (Kd.R_over' (v := (.slice (some ⟨go71, 0, none⟩) x9_1.length co76)) (zr HO_8.out) (Kd.R_typed HO_9.out) (by decide) hg); have n1_ := Aside0.mk (hp_); have n2_ := Aside0.mk (Kd.V_afterv (v := (.slice (some ⟨go71, 0, none⟩) x9_1.length co76)) (v1 := (.slice (some ⟨go71, 0, none⟩) x9_1.length co76)) (ok := (fun k_ => (P2_0_ k_ ∨ w.heap.size ≤ k_) ∧ some k_ ≠ (.slice (some ad209) t202.length co25 : Value).ownBlock ∧ k_ ≠ gb199 ∧ k_ ≠ gb200 ∧ k_ ≠ gb201 ∧ k_ ≠ gb211 ∧ k_ ≠ gb219)) (by (with_reducible repeat (first | apply Kd.V_alloc | apply Kd.V_drewN | apply Kd.V_drew)); exact Kd.V_mono HO_201000.out (fun _ hk => ⟨⟨hk.1, ⟨hk.2.1, ⟨hk.2.2.2.1, ⟨hk.2.2.2.2.1, ⟨hk.2.2.2.2.2.1, ⟨hk.2.2.2.2.2.2.1, hk.2.2.2.2.2.2.2⟩⟩⟩⟩⟩⟩, hk.2.2.1⟩)) hg (.inl rfl)); have n3_ := Aside0.mk (blk_grown (zh BK199.out) hg (Kd.R_ne HO_9.out BK199.out (by decide))); have n4_ := Aside0.mk (blk_grown (zh BK200.out) hg (Kd.R_ne HO_9.out BK200.out (by decide))); have n5_ := Aside0.mk (blk_grown (zh BK201.out) hg (Kd.R_ne HO_9.out BK201.out (by decide))); have n6_ := Aside0.mk (blk_grown (zh BK211.out) hg (Kd.R_ne HO_9.out BK211.out (by decide))); have n7_ := Aside0.mk (Kd.V_afterv (v := (.slice (some ⟨go71, 0, none⟩) x9_1.length co76)) (v1 := (.slice (some ⟨go71, 0, none⟩) x9_1.length co76)) (ok := (fun k_ => (P2_0_ k_ ∨ w.heap.size ≤ k_) ∧ some k_ ≠ (.slice (some ad209) t202.length co25 : Value).ownBlock ∧ k_ ≠ gb199 ∧ k_ ≠ gb200 ∧ k_ ≠ gb201 ∧ k_ ≠ gb211 ∧ k_ ≠ gb219)) (by (with_reducible repeat (first | apply Kd.V_alloc | apply Kd.V_drewN | apply Kd.V_drew)); exact Kd.V_mono HO217.out (fun _ hk => ⟨⟨hk.1, ⟨hk.2.1, ⟨hk.2.2.2.1, ⟨hk.2.2.2.2.1, ⟨hk.2.2.2.2.2.1, ⟨hk.2.2.2.2.2.2.1, hk.2.2.2.2.2.2.2⟩⟩⟩⟩⟩⟩, hk.2.2.1⟩)) hg (.inl rfl)); have n8_ := Aside0.mk (blk_grown (zh BK219.out) hg (Kd.R_ne HO_9.out BK219.out (by decide))); have n9_ := Aside0.mk ((by rw [hw]; exact below_set (HB.out) GB71.out : Below w.heap.size w w96)); clear HO_8 HO_9 HO_201000 BK199 BK200 BK201 BK211 HO217 BK219 HB; have HO_8 := n0_; have HO_9 := n1_; have HO_201000 := n2_; have BK199 := n3_; have BK200 := n4_; have BK201 := n5_; have BK211 := n6_; have HO217 := n7_; have BK219 := n8_; have HB := n9_; clear n0_ n1_ n2_ n3_ n4_ n5_ n6_ n7_ n8_ n9_ hg hw hp_))
     go_roundg kj23
     case measure => have := HK1.out; have := HJ23.out; omega
     case rel => exact ⟨(y220), (wrap64 (x10_1 + 1)), (t215), (.slice Ao85 t215.length co85), (by first | rfl | (simp; done) | (simp [*]; done)), H', ⟨by have := HK1.out; have := HJ23.out; omega⟩, ⟨zr HO_8.out⟩, ⟨zr HO_9.out⟩, ⟨by (with_reducible repeat (first | apply Kd.V_alloc | apply Kd.V_drewN | apply Kd.V_drew)); exact Kd.V_mono HO217.out (fun _ hk => ⟨hk.1.1, ⟨hk.1.2.1, ⟨hk.2, ⟨hk.1.2.2.1, ⟨hk.1.2.2.2.1, hk.1.2.2.2.2.1⟩⟩⟩⟩⟩)⟩, ⟨zh BK199.out⟩, ⟨zh BK200.out⟩, ⟨zh BK201.out⟩, ⟨zb HB.out⟩⟩
end Go.Proofs.Ytobkledmbnacjaa.M
end

section
namespace Go.Proofs.Ytobkledmbnacjaa.M
open Go.RowKit Go.Proofs.YtobkledmbnacjaaW.PrintWords Go.Proofs.YtobkledmbnacjaaW.PrintLast Go.Proofs.YtobkledmbnacjaaW.PrintMore
attribute [local go_sem] max2_int min2_int max_two min_two max_three min_three max_four min_four   -- for this text's walks alone
set_option linter.unusedVariables false
set_option linter.unusedSimpArgs false
set_option maxRecDepth 100000


/-! ### spec_TermMove: function 14 -/
def spec_TermMove.j0 : Nat → Int → Bool → List (S55) → List (S55) → Option ((List (S55)) × Int)
 | 0, _, _, _, _ => none
 | k + 1, x1, x22, x228000, x229000 => if x22 = true then ((spec_l1Copy.f x229000).bind fun t233 => (some (t233, (-1)))) else ((spec_l5Carry.f k x228000 x1 x229000).bind fun bt236 => (if bt236.2 < 0 then ((spec_l1Copy.f x229000).bind fun t241 => (some (t241, (-1)))) else ((spec_l1Copy.f bt236.1).bind fun t244 => (some (t244, bt236.2)))))
def spec_TermMove.f (k : Nat) (l0_0 : List (S55)) (a1 : Int) (l2_0 : List (S55)) : Option ((List (S55)) × Int) := (spec_PoolOk.f k l2_0).bind fun t230 => (if t230 = true then ((spec_PoolOk.f k l0_0).bind fun t231 => (if t231 = true then ((spec_l1Has.f l0_0 a1).bind fun t232 => (spec_TermMove.j0 k a1 (!t232) l0_0 l2_0)) else (spec_TermMove.j0 k a1 true l0_0 l2_0))) else (some (([] : List (S55)), (-1))))
set_option maxHeartbeats 8000000 in
set_option maxRecDepth 100000 in
theorem spec_TermMove.calls (k : Nat) (A0_0 : Option Addr) (c0_0 : Nat) (l0_0 : List (S55)) (a1 : Int) (A2_0 : Option Addr) (c2_0 : Nat) (l2_0 : List (S55)) (r1 : List (S55)) (r2 : Int) (w : World) (hr0_0 : Kd.C k55 w A0_0 l0_0.length l0_0) (hc0_0 : l0_0.length ≤ c0_0) (hr2_0 : Kd.C k55 w A2_0 l2_0.length l2_0) (hc2_0 : l2_0.length ≤ c2_0) (h : spec_TermMove.f k l0_0 a1 l2_0 = some (r1, r2)) :
  Calls Try.prog 14 #[.agg #[.slice A0_0 l0_0.length c0_0], .int .i64 a1, .agg #[.slice A2_0 l2_0.length c2_0]] w fun e w' => ∃ v0_ : Value, e = .returned (.tuple #[.agg #[v0_], .int .i64 r2]) ∧ Kd.R k55 55 w' w.heap.size (fun _ => True) v0_ r1 ∧ Below w.heap.size w w' := by
 have hu28 := Try.underlying28
 have HR0_0 := Aside0.mk hr0_0
 have HC0_0 := Aside0.mk hc0_0
 clear hr0_0 hc0_0
 have HR2_0 := Aside0.mk hr2_0
 have HC2_0 := Aside0.mk hc2_0
 clear hr2_0 hc2_0
 have HB := Aside0.mk (Below.refl w.heap.size w)
 have H : ((spec_PoolOk.f k l2_0).bind fun t230 => (if t230 = true then ((spec_PoolOk.f k l0_0).bind fun t231 => (if t231 = true then ((spec_l1Has.f l0_0 a1).bind fun t232 => (spec_TermMove.j0 k a1 (!t232) l0_0 l2_0)) else (spec_TermMove.j0 k a1 true l0_0 l2_0))) else (some (([] : List (S55)), (-1))))) = some (r1, r2) := h
 clear h
 replace H := Option.bind_eq_some_iff.mp H
 obtain ⟨t230, A40, H⟩ := H
 replace H : (if t230 = true then ((spec_PoolOk.f k l0_0).bind fun t231 => (if t231 = true then ((spec_l1Has.f l0_0 a1).bind fun t232 => (spec_TermMove.j0 k a1 (!t232) l0_0 l2_0)) else (spec_TermMove.j0 k a1 true l0_0 l2_0))) else (some (([] : List (S55)), (-1)))) = some (r1, r2) := H
 have A4 := Aside0.mk A40
 clear A40
 by_cases c5 : t230 = true
 rotate_left
 ·replace c5 := Bool.eq_false_iff.mpr c5
  subst c5
  have H1 : (some (([] : List (S55)), (-1))) = some (r1, r2) := by rw [if_neg (show ¬ (false = true) by decide)] at H; exact H
  clear H
  have H := H1
  clear H1
  simp only [Option.some.injEq, Prod.mk.injEq] at H
  obtain ⟨rfl, rfl⟩ := H
  go_enter Try.func14, Try.ntmps14
  go_wp2_with (first | ((with_reducible refine gate_dst (N := 3) rfl ?_); refine box_event ?hg (N := 3) ?hd (cs := #[.slice A0_0 l0_0.length c0_0]) (t := 28) ?hr ?_; (case hd => rfl); (case hg => rfl); (case hr => first | (go_simp; done) | (go_simp; rfl)); intro gb227 hg w71 hbox hb; have n0_ := Aside0.mk (below_step (zb HB.out) hb); have n1_ := Aside0.mk (hbox); have n2_ := Aside0.mk ((by rw [hg]; exact (below_size (zb HB.out)) : w.heap.size ≤ gb227)); have n3_ := Aside0.mk ((by rw [hg]; exact (below_size (zb HB.out)) : w.heap.size ≤ gb227)); clear HB; have HB := n0_; have BK227 := n1_; have GW227 := n2_; have GE227 := n3_; clear n0_ n1_ n2_ n3_ hb hbox hg) | ((with_reducible refine gate_dst (N := 5) rfl ?_); refine box_event ?hg (N := 5) ?hd (cs := #[.slice A2_0 l2_0.length c2_0]) (t := 28) ?hr ?_; (case hd => rfl); (case hg => rfl); (case hr => first | (go_simp; done) | (go_simp; rfl)); intro gb228 hg w72 hbox hb; have n0_ := Aside0.mk (blk_below (zh BK227.out) hb); have n1_ := Aside0.mk (below_step (zb HB.out) hb); have n2_ := Aside0.mk (hbox); have n3_ := Aside0.mk ((by rw [hg]; exact (below_size (zb HB.out)) : w.heap.size ≤ gb228)); have n4_ := Aside0.mk ((by rw [hg]; exact (below_size (zb HB.out)) : w.heap.size ≤ gb228)); have n5_ := Aside0.mk ((by rw [hg]; exact Nat.ne_of_lt (blk_lt (zh BK227.out)) : gb227 ≠ gb228)); have n6_ := Aside0.mk ((by rw [hg]; exact Nat.ne_of_gt (blk_lt (zh BK227.out)) : gb228 ≠ gb227)); clear BK227 HB; have BK227 := n0_; have HB := n1_; have BK228 := n2_; have GW228 := n3_; have GE228 := n4_; have NB227_228 := n5_; have NB228_227 := n6_; clear n0_ n1_ n2_ n3_ n4_ n5_ n6_ hb hbox hg) | ((with_reducible refine gate_dst (N := 6) rfl ?_); refine box_event ?hg (N := 6) ?hd (cs := #[.slice none 0 0]) (t := 28) ?hr ?_; (case hd => rfl); (case hg => rfl); (case hr => first | (go_simp; done) | (go_simp; rfl)); intro gb229 hg w73 hbox hb; have n0_ := Aside0.mk (blk_below (zh BK227.out) hb); have n1_ := Aside0.mk (blk_below (zh BK228.out) hb); have n2_ := Aside0.mk (below_step (zb HB.out) hb); have n3_ := Aside0.mk (hbox); have n4_ := Aside0.mk ((by rw [hg]; exact (below_size (zb HB.out)) : w.heap.size ≤ gb229)); have n5_ := Aside0.mk ((by rw [hg]; exact (below_size (zb HB.out)) : w.heap.size ≤ gb229)); have n6_ := Aside0.mk ((by rw [hg]; exact Nat.ne_of_lt (blk_lt (zh BK227.out)) : gb227 ≠ gb229)); have n7_ := Aside0.mk ((by rw [hg]; exact Nat.ne_of_gt (blk_lt (zh BK227.out)) : gb229 ≠ gb227)); have n8_ := Aside0.mk ((by rw [hg]; exact Nat.ne_of_lt (blk_lt (zh BK228.out)) : gb228 ≠ gb229)); have n9_ := Aside0.mk ((by rw [hg]; exact Nat.ne_of_gt (blk_lt (zh BK228.out)) : gb229 ≠ gb228)); clear BK227 BK228 HB; have BK227 := n0_; have BK228 := n1_; have HB := n2_; have BK229 := n3_; have GW229 := n4_; have GE229 := n5_; have NB227_229 := n6_; have NB229_227 := n7_; have NB228_229 := n8_; have NB229_228 := n9_; clear n0_ n1_ n2_ n3_ n4_ n5_ n6_ n7_ n8_ n9_ hb hbox hg; have hnb74 := NB228_227.out; have hnc74 := NB227_228.out; have hnb75 := NB228_229.out; have hnc75 := NB229_228.out; have hcz76_0 : w73.cell? ⟨gb228, 0, none⟩ = some (.slice A2_0 l2_0.length c2_0) := (blk_cell BK228.out 0).trans rfl; have hfz76_0 := blk_frozen BK228.out 0) | ((with_reducible refine gate_callee (f := 25) rfl ?_); refine goesL_ (some 11) rfl rfl Try.func25 (by kernel_rfl) rfl #[.agg #[.slice A2_0 l2_0.length c2_0]] rfl zl ?_; (with_reducible refine (spec_PoolOk.calls k _ _ l2_0 false _ ?side1 ?side2 A4.out).mono ?_); (case side1 => exact zc (Kd.C_below HR2_0.out HB.out)); (case side2 => exact HC2_0.out); rintro e w77 ⟨rfl, hb⟩; refine ⟨_, rfl, ?_⟩; have n0_ := Aside0.mk (blk_below (zh BK227.out) hb); have n1_ := Aside0.mk (blk_below (zh BK228.out) hb); have n2_ := Aside0.mk (blk_below (zh BK229.out) hb); have n3_ := Aside0.mk (below_step (zb HB.out) hb); clear BK227 BK228 BK229 HB; have BK227 := n0_; have BK228 := n1_; have BK229 := n2_; have HB := n3_; clear n0_ n1_ n2_ n3_; (try clear hb); (try clear hb2); (try clear hk); (try clear hi); have hnb78 := NB229_227.out; have hnc78 := NB227_229.out; have hcz79_0 : w77.cell? ⟨gb229, 0, none⟩ = some (.slice none 0 0) := (blk_cell BK229.out 0).trans rfl; have hfz79_0 := blk_frozen BK229.out 0))
  refine bodyPost_ret (results_ct rfl _ _ gb229 28 #[.slice none 0 0] (0, 0) _ rfl (by (with_reducible repeat (first | refine blk_drewN ?_ _ | refine blk_drew ?_ | refine blk_alloc ?_ _)); refine blk_put (cs := #[.slice none 0 0]) ?_ 0 _ rfl; (with_reducible repeat (first | refine blk_drewN ?_ _ | refine blk_drew ?_ | refine blk_alloc ?_ _)); exact BK229.out) Try.underlying28 rfl (by kernel_rfl)) rfl ?_
  exact ⟨_, ze, by first | exact Kd.R_nil _ _ _ _ _ | exact Kd.N_nil _ _ _ _ _ | exact Kd.V_nil _ _ _ _ _ | exact Kd.Q_nil _ _ _ _ _ | exact Kd.S_nil _ _ _ _ _, zb HB.out⟩




 subst c5
 have H1 : ((spec_PoolOk.f k l0_0).bind fun t231 => (if t231 = true then ((spec_l1Has.f l0_0 a1).bind fun t232 => (spec_TermMove.j0 k a1 (!t232) l0_0 l2_0)) else (spec_TermMove.j0 k a1 true l0_0 l2_0))) = some (r1, r2) := by rw [if_pos rfl] at H; exact H
 clear H
 have H := H1
 clear H1
 have HC6 := Aside0.mk H
 clear H
 go_enter Try.func14, Try.ntmps14
 go_upto_region 3 with (first | ((with_reducible refine gate_dst (N := 3) rfl ?_); refine box_event ?hg (N := 3) ?hd (cs := #[.slice A0_0 l0_0.length c0_0]) (t := 28) ?hr ?_; (case hd => rfl); (case hg => rfl); (case hr => first | (go_simp; done) | (go_simp; rfl)); intro gb227 hg w7 hbox hb; have n0_ := Aside0.mk (below_step (zb HB.out) hb); have n1_ := Aside0.mk (hbox); have n2_ := Aside0.mk ((by rw [hg]; exact (below_size (zb HB.out)) : w.heap.size ≤ gb227)); have n3_ := Aside0.mk ((by rw [hg]; exact (below_size (zb HB.out)) : w.heap.size ≤ gb227)); clear HB; have HB := n0_; have BK227 := n1_; have GW227 := n2_; have GE227 := n3_; clear n0_ n1_ n2_ n3_ hb hbox hg) | ((with_reducible refine gate_dst (N := 5) rfl ?_); refine box_event ?hg (N := 5) ?hd (cs := #[.slice A2_0 l2_0.length c2_0]) (t := 28) ?hr ?_; (case hd => rfl); (case hg => rfl); (case hr => first | (go_simp; done) | (go_simp; rfl)); intro gb228 hg w8 hbox hb; have n0_ := Aside0.mk (blk_below (zh BK227.out) hb); have n1_ := Aside0.mk (below_step (zb HB.out) hb); have n2_ := Aside0.mk (hbox); have n3_ := Aside0.mk ((by rw [hg]; exact (below_size (zb HB.out)) : w.heap.size ≤ gb228)); have n4_ := Aside0.mk ((by rw [hg]; exact (below_size (zb HB.out)) : w.heap.size ≤ gb228)); have n5_ := Aside0.mk ((by rw [hg]; exact Nat.ne_of_lt (blk_lt (zh BK227.out)) : gb227 ≠ gb228)); have n6_ := Aside0.mk ((by rw [hg]; exact Nat.ne_of_gt (blk_lt (zh BK227.out)) : gb228 ≠ gb227)); clear BK227 HB; have BK227 := n0_; have HB := n1_; have BK228 := n2_; have GW228 := n3_; have GE228 := n4_; have NB227_228 := n5_; have NB228_227 := n6_; clear n0_ n1_ n2_ n3_ n4_ n5_ n6_ hb hbox hg) | ((with_reducible refine gate_dst (N := 6) rfl ?_); refine box_event ?hg (N := 6) ?hd (cs := #[.slice none 0 0]) (t := 28) ?hr ?_; (case hd => rfl); (case hg => rfl); (case hr => first | (go_simp; done) | (go_simp; rfl)); intro gb229 hg w9 hbox hb; have n0_ := Aside0.mk (blk_below (zh BK227.out) hb); have n1_ := Aside0.mk (blk_below (zh BK228.out) hb); have n2_ := Aside0.mk (below_step (zb HB.out) hb); have n3_ := Aside0.mk (hbox); have n4_ := Aside0.mk ((by rw [hg]; exact (below_size (zb HB.out)) : w.heap.size ≤ gb229)); have n5_ := Aside0.mk ((by rw [hg]; exact (below_size (zb HB.out)) : w.heap.size ≤ gb229)); have n6_ := Aside0.mk ((by rw [hg]; exact Nat.ne_of_lt (blk_lt (zh BK227.out)) : gb227 ≠ gb229)); have n7_ := Aside0.mk ((by rw [hg]; exact Nat.ne_of_gt (blk_lt (zh BK227.out)) : gb229 ≠ gb227)); have n8_ := Aside0.mk ((by rw [hg]; exact Nat.ne_of_lt (blk_lt (zh BK228.out)) : gb228 ≠ gb229)); have n9_ := Aside0.mk ((by rw [hg]; exact Nat.ne_of_gt (blk_lt (zh BK228.out)) : gb229 ≠ gb228)); clear BK227 BK228 HB; have BK227 := n0_; have BK228 := n1_; have HB := n2_; have BK229 := n3_; have GW229 := n4_; have GE229 := n5_; have NB227_229 := n6_; have NB229_227 := n7_; have NB228_229 := n8_; have NB229_228 := n9_; clear n0_ n1_ n2_ n3_ n4_ n5_ n6_ n7_ n8_ n9_ hb hbox hg; have hnb10 := NB228_227.out; have hnc10 := NB227_228.out; have hnb11 := NB228_229.out; have hnc11 := NB229_228.out; have hcz12_0 : w9.cell? ⟨gb228, 0, none⟩ = some (.slice A2_0 l2_0.length c2_0) := (blk_cell BK228.out 0).trans rfl; have hfz12_0 := blk_frozen BK228.out 0) | ((with_reducible refine gate_callee (f := 25) rfl ?_); refine goesL_ (some 11) rfl rfl Try.func25 (by kernel_rfl) rfl #[.agg #[.slice A2_0 l2_0.length c2_0]] rfl zl ?_; (with_reducible refine (spec_PoolOk.calls k _ _ l2_0 true _ ?side1 ?side2 A4.out).mono ?_); (case side1 => exact zc (Kd.C_below HR2_0.out HB.out)); (case side2 => exact HC2_0.out); rintro e w13 ⟨rfl, hb⟩; refine ⟨_, rfl, ?_⟩; have n0_ := Aside0.mk (blk_below (zh BK227.out) hb); have n1_ := Aside0.mk (blk_below (zh BK228.out) hb); have n2_ := Aside0.mk (blk_below (zh BK229.out) hb); have n3_ := Aside0.mk (below_step (zb HB.out) hb); clear BK227 BK228 BK229 HB; have BK227 := n0_; have BK228 := n1_; have BK229 := n2_; have HB := n3_; clear n0_ n1_ n2_ n3_; (try clear hb); (try clear hb2); (try clear hk); (try clear hi)))
 (try simp only [Act.put, List.setIfInBounds_toArray, List.set_cons_zero, List.set_cons_succ])
 go_cut [22] (fun v22 wc => ∃ (kq : Nat) (x22_5 : Bool), v22 = .bool x22_5 ∧ Aside0 (spec_TermMove.j0 kq a1 x22_5 l0_0 l2_0 = some (r1, r2)) ∧ Aside0 (kq ≤ k) ∧ Aside0 (wc.heap[gb227]? = some (.cells #[(.slice A0_0 l0_0.length c0_0)] 28 (0, 0))) ∧ Aside0 (wc.heap[gb228]? = some (.cells #[(.slice A2_0 l2_0.length c2_0)] 28 (0, 0))) ∧ Aside0 (wc.heap[gb229]? = some (.cells #[(.slice none 0 0)] 28 (0, 0))) ∧ Aside0 (Below w.heap.size w wc))
 case first =>
  have H := HC6.out
  clear HC6
  replace H := Option.bind_eq_some_iff.mp H
  obtain ⟨t231, A140, H⟩ := H
  replace H : (if t231 = true then ((spec_l1Has.f l0_0 a1).bind fun t232 => (spec_TermMove.j0 k a1 (!t232) l0_0 l2_0)) else (spec_TermMove.j0 k a1 true l0_0 l2_0)) = some (r1, r2) := H
  have A14 := Aside0.mk A140
  clear A140
  by_cases c15 : t231 = true
  rotate_left
  ·replace c15 := Bool.eq_false_iff.mpr c15
   subst c15
   have H1 : (spec_TermMove.j0 k a1 true l0_0 l2_0) = some (r1, r2) := by rw [if_neg (show ¬ (false = true) by decide)] at H; exact H
   clear H
   have H := H1
   clear H1
   have H' := Aside0.mk H
   clear H
   have hnb23 := NB227_228.out
   have hnc23 := NB228_227.out
   have hnb24 := NB227_229.out
   have hnc24 := NB229_227.out
   have hcz25_0 : w13.cell? ⟨gb227, 0, none⟩ = some (.slice A0_0 l0_0.length c0_0) := (blk_cell BK227.out 0).trans rfl
   have hfz25_0 := blk_frozen BK227.out 0
   go_wp2_with (first | ((with_reducible refine gate_callee (f := 25) rfl ?_); refine goesL_ (some 15) rfl rfl Try.func25 (by kernel_rfl) rfl #[.agg #[.slice A0_0 l0_0.length c0_0]] rfl zl ?_; (with_reducible refine (spec_PoolOk.calls k _ _ l0_0 false _ ?side1 ?side2 A14.out).mono ?_); (case side1 => exact zc (Kd.C_below HR0_0.out HB.out)); (case side2 => exact HC0_0.out); rintro e w26 ⟨rfl, hb⟩; refine ⟨_, rfl, ?_⟩; have n0_ := Aside0.mk (blk_below (zh BK227.out) hb); have n1_ := Aside0.mk (blk_below (zh BK228.out) hb); have n2_ := Aside0.mk (blk_below (zh BK229.out) hb); have n3_ := Aside0.mk (below_step (zb HB.out) hb); clear BK227 BK228 BK229 HB; have BK227 := n0_; have BK228 := n1_; have BK229 := n2_; have HB := n3_; clear n0_ n1_ n2_ n3_; (try clear hb); (try clear hb2); (try clear hk); (try clear hi)))
   go_meet
   case rel => exact ⟨_, (true), (by first | rfl | (simp; done) | (simp [*]; done)), H', ⟨by first | omega | exact Nat.le_refl _⟩, ⟨zh BK227.out⟩, ⟨zh BK228.out⟩, ⟨zh BK229.out⟩, ⟨zb HB.out⟩⟩
  subst c15
  have H1 : ((spec_l1Has.f l0_0 a1).bind fun t232 => (spec_TermMove.j0 k a1 (!t232) l0_0 l2_0)) = some (r1, r2) := by rw [if_pos rfl] at H; exact H
  clear H
  have H := H1
  clear H1
  replace H := Option.bind_eq_some_iff.mp H
  obtain ⟨t232, A160, H⟩ := H
  replace H : (spec_TermMove.j0 k a1 (!t232) l0_0 l2_0) = some (r1, r2) := H
  have A16 := Aside0.mk A160
  clear A160
  have H' := Aside0.mk H
  clear H
  have hnb17 := NB227_228.out
  have hnc17 := NB228_227.out
  have hnb18 := NB227_229.out
  have hnc18 := NB229_227.out
  have hcz19_0 : w13.cell? ⟨gb227, 0, none⟩ = some (.slice A0_0 l0_0.length c0_0) := (blk_cell BK227.out 0).trans rfl
  have hfz19_0 := blk_frozen BK227.out 0
  go_wp2_with (first | ((with_reducible refine gate_callee (f := 25) rfl ?_); refine goesL_ (some 15) rfl rfl Try.func25 (by kernel_rfl) rfl #[.agg #[.slice A0_0 l0_0.length c0_0]] rfl zl ?_; (with_reducible refine (spec_PoolOk.calls k _ _ l0_0 true _ ?side1 ?side2 A14.out).mono ?_); (case side1 => exact zc (Kd.C_below HR0_0.out HB.out)); (case side2 => exact HC0_0.out); rintro e w20 ⟨rfl, hb⟩; refine ⟨_, rfl, ?_⟩; have n0_ := Aside0.mk (blk_below (zh BK227.out) hb); have n1_ := Aside0.mk (blk_below (zh BK228.out) hb); have n2_ := Aside0.mk (blk_below (zh BK229.out) hb); have n3_ := Aside0.mk (below_step (zb HB.out) hb); clear BK227 BK228 BK229 HB; have BK227 := n0_; have BK228 := n1_; have BK229 := n2_; have HB := n3_; clear n0_ n1_ n2_ n3_; (try clear hb); (try clear hb2); (try clear hk); (try clear hi); have hcz21_0 : w20.cell? ⟨gb227, 0, none⟩ = some (.slice A0_0 l0_0.length c0_0) := (blk_cell BK227.out 0).trans rfl; have hfz21_0 := blk_frozen BK227.out 0) | (go_at_call 26; (with_reducible refine (spec_l1Has.calls _ _ l0_0 a1 t232 _ ?side1 ?side2 A16.out).mono ?_); (case side1 => exact zc (Kd.C_below HR0_0.out HB.out)); (case side2 => exact HC0_0.out); rintro e w22 ⟨rfl, hb⟩; have n0_ := Aside0.mk (blk_below (zh BK227.out) hb); have n1_ := Aside0.mk (blk_below (zh BK228.out) hb); have n2_ := Aside0.mk (blk_below (zh BK229.out) hb); have n3_ := Aside0.mk (below_step (zb HB.out) hb); clear BK227 BK228 BK229 HB; have BK227 := n0_; have BK228 := n1_; have BK229 := n2_; have HB := n3_; clear n0_ n1_ n2_ n3_; (try clear hb); (try clear hb2); (try clear hk); (try clear hi)))
  go_meet
  case rel => exact ⟨_, (!t232), (by first | rfl | (simp; done) | (simp [*]; done)), H', ⟨by first | omega | exact Nat.le_refl _⟩, ⟨zh BK227.out⟩, ⟨zh BK228.out⟩, ⟨zh BK229.out⟩, ⟨zb HB.out⟩⟩
 case rest =>
  clear HC6
  try clear c1
  try clear c2
  try clear p2
  try clear c5
  try clear c10
  try clear c11
  try clear c14
  try clear c15
  try clear c17
  try clear c18
  try clear c23
  try clear c24
  try clear c25
  try clear hcz12_0
  try clear hcz19_0
  try clear hcz21_0
  try clear hcz25_0
  try clear hfz12_0
  try clear hfz19_0
  try clear hfz21_0
  try clear hfz25_0
  try clear BK227
  try clear BK228
  try clear BK229
  try clear HB
  obtain ⟨kq, x22_5, rfl, HA, HJ5, BK227, BK228, BK229, HB⟩ := hcut
  cases kq with
  | zero => exact absurd HA.out (by simp [spec_TermMove.j0])
  | succ kj5 =>
   have H := HA.out
   clear HA
   simp only [spec_TermMove.j0] at H
   by_cases c27 : x22_5 = true
   ·subst c27
    have H1 : ((spec_l1Copy.f l2_0).bind fun t233 => (some (t233, (-1)))) = some (r1, r2) := by rw [if_pos rfl] at H; exact H
    clear H
    have H := H1
    clear H1
    replace H := Option.bind_eq_some_iff.mp H
    obtain ⟨t233, A280, H⟩ := H
    replace H : (some (t233, (-1))) = some (r1, r2) := H
    have A28 := Aside0.mk A280
    clear A280
    simp only [Option.some.injEq, Prod.mk.injEq] at H
    obtain ⟨rfl, rfl⟩ := H
    have hnb29 := NB228_227.out
    have hnc29 := NB227_228.out
    have hnb30 := NB228_229.out
    have hnc30 := NB229_228.out
    have hcz31_0 : wc.cell? ⟨gb228, 0, none⟩ = some (.slice A2_0 l2_0.length c2_0) := (blk_cell BK228.out 0).trans rfl
    have hfz31_0 := blk_frozen BK228.out 0
    go_wp2_with (first | ((with_reducible refine gate_callee (f := 27) rfl ?_); refine goesL_ (some 24) rfl rfl Try.func27 (by kernel_rfl) rfl #[.agg #[.slice A2_0 l2_0.length c2_0]] rfl zl ?_; (with_reducible refine (spec_l1Copy.calls _ _ l2_0 t233 _ ?side1 ?side2 A28.out).mono ?_); (case side1 => exact zc (Kd.C_below HR2_0.out HB.out)); (case side2 => exact HC2_0.out); rintro e w32 ⟨v234, rfl, ho0, hb⟩; refine ⟨_, rfl, ?_⟩; have n0_ := Aside0.mk (Kd.R_lower ho0 (below_size (zb HB.out))); have n1_ := Aside0.mk (blk_below (zh BK227.out) hb); have n2_ := Aside0.mk (blk_below (zh BK228.out) hb); have n3_ := Aside0.mk (blk_below (zh BK229.out) hb); have n4_ := Aside0.mk (below_step (zb HB.out) hb); clear BK227 BK228 BK229 HB; have HO235 := n0_; have BK227 := n1_; have BK228 := n2_; have BK229 := n3_; have HB := n4_; clear n0_ n1_ n2_ n3_ n4_; (try clear hb); (try clear hb2); (try clear hk); (try clear hi); (try clear ho0); obtain ⟨Ao33, co33, eo33⟩ := Kd.R_slice HO235.out; subst eo33; have hnb34 := NB229_227.out; have hnc34 := NB227_229.out; have hcz35_0 : w32.cell? ⟨gb229, 0, none⟩ = some (.slice none 0 0) := (blk_cell BK229.out 0).trans rfl; have hfz35_0 := blk_frozen BK229.out 0))
    refine bodyPost_ret (results_ct rfl _ _ gb229 28 #[.slice Ao33 t233.length co33] (0, 0) _ rfl (by (with_reducible repeat (first | refine blk_drewN ?_ _ | refine blk_drew ?_ | refine blk_alloc ?_ _)); refine blk_put (cs := #[.slice none 0 0]) ?_ 0 _ rfl; (with_reducible repeat (first | refine blk_drewN ?_ _ | refine blk_drew ?_ | refine blk_alloc ?_ _)); exact BK229.out) Try.underlying28 rfl (by kernel_rfl)) rfl ?_
    exact ⟨_, ze, zr (Kd.R_mono (Kd.R_far (p := ⟨gb229, 0, none⟩) (Kd.R_types HO235.out BK229.out (by decide)) (fun _ hk => hk.2) (.slice Ao33 t233.length co33)) (fun _ hk => trivial)), zb HB.out⟩
   replace c27 := Bool.eq_false_iff.mpr c27
   subst c27
   have H1 : ((spec_l5Carry.f kj5 l0_0 a1 l2_0).bind fun bt236 => (if bt236.2 < 0 then ((spec_l1Copy.f l2_0).bind fun t241 => (some (t241, (-1)))) else ((spec_l1Copy.f bt236.1).bind fun t244 => (some (t244, bt236.2))))) = some (r1, r2) := by rw [if_neg (show ¬ (false = true) by decide)] at H; exact H
   clear H
   have H := H1
   clear H1
   replace H := Option.bind_eq_some_iff.mp H
   obtain ⟨⟨t236, t239⟩, A360, H⟩ := H
   replace H : (if t239 < 0 then ((spec_l1Copy.f l2_0).bind fun t241 => (some (t241, (-1)))) else ((spec_l1Copy.f t236).bind fun t244 => (some (t244, t239)))) = some (r1, r2) := H
   have A36 := Aside0.mk A360
   clear A360
   by_cases c37 : t239 < 0
   ·rw [if_pos c37] at H
    have c37b0 : decide (t239 < 0) = true := decide_eq_true c37
    clear c37
    replace H := Option.bind_eq_some_iff.mp H
    obtain ⟨t241, A380, H⟩ := H
    replace H : (some (t241, (-1))) = some (r1, r2) := H
    have A38 := Aside0.mk A380
    clear A380
    simp only [Option.some.injEq, Prod.mk.injEq] at H
    obtain ⟨rfl, rfl⟩ := H
    have hnb39 := NB227_228.out
    have hnc39 := NB228_227.out
    have hnb40 := NB227_229.out
    have hnc40 := NB229_227.out
    have hcz41_0 : wc.cell? ⟨gb227, 0, none⟩ = some (.slice A0_0 l0_0.length c0_0) := (blk_cell BK227.out 0).trans rfl
    have hfz41_0 := blk_frozen BK227.out 0
    have hnb42 := NB228_229.out
    have hnc42 := NB229_228.out
    have hcz43_0 : wc.cell? ⟨gb228, 0, none⟩ = some (.slice A2_0 l2_0.length c2_0) := (blk_cell BK228.out 0).trans rfl
    have hfz43_0 := blk_frozen BK228.out 0
    go_wp2_with (first | ((with_reducible refine gate_callee (f := 40) rfl ?_); refine goesL_ (some 29) rfl rfl Try.func40 (by kernel_rfl) rfl #[.agg #[.slice A0_0 l0_0.length c0_0], .int .i64 a1, .agg #[.slice A2_0 l2_0.length c2_0]] rfl zl ?_; (with_reducible refine (spec_l5Carry.calls kj5 _ _ l0_0 a1 (fun k_ => k_ < w.heap.size) _ _ l2_0 t236 t239 _ ?side1 ?side2 ?side3 A36.out).mono ?_); (case side1 => exact zc (Kd.C_below HR0_0.out HB.out)); (case side2 => exact HC0_0.out); (case side3 => exact Kd.V_mk HC2_0.out (Kd.F_below (Kd.C_F k55_heap HR2_0.out) (zb HB.out))); rintro e w44 ⟨v237, rfl, ho0, hb⟩; refine ⟨_, rfl, ?_⟩; have n0_ := Aside0.mk (Kd.V_lower (Kd.V_mono (ok' := fun k_ => k_ ≠ gb227 ∧ k_ ≠ gb228 ∧ k_ ≠ gb229) ho0 (fun k_ hk_ => by first | exact ⟨Or.elim hk_ (fun hs_ => fun e_ => Nat.not_le.2 hs_ (by rw [e_]; exact GW227.out)) (fun hn_ => (Kd.freshB (zh BK227.out) k_ hn_)), Or.elim hk_ (fun hs_ => fun e_ => Nat.not_le.2 hs_ (by rw [e_]; exact GW228.out)) (fun hn_ => (Kd.freshB (zh BK228.out) k_ hn_)), Or.elim hk_ (fun hs_ => fun e_ => Nat.not_le.2 hs_ (by rw [e_]; exact GW229.out)) (fun hn_ => (Kd.freshB (zh BK229.out) k_ hn_))⟩ | (revert hk_; simp only [and_imp]; intros; and_intros <;> assumption))) (below_size (zb HB.out))); have n1_ := Aside0.mk (blk_below (zh BK227.out) hb); have n2_ := Aside0.mk (blk_below (zh BK228.out) hb); have n3_ := Aside0.mk (blk_below (zh BK229.out) hb); have n4_ := Aside0.mk (below_step (zb HB.out) hb); clear BK227 BK228 BK229 HB; have HO238 := n0_; have BK227 := n1_; have BK228 := n2_; have BK229 := n3_; have HB := n4_; clear n0_ n1_ n2_ n3_ n4_; (try clear hb); (try clear hb2); (try clear hk); (try clear hi); (try clear ho0)) | ((with_reducible refine gate_dst (N := 8) rfl ?_); refine box_event ?hg (N := 8) ?hd (cs := #[.slice none 0 0]) (t := 28) ?hr ?_; (case hd => rfl); (case hg => rfl); (case hr => first | (go_simp; done) | (go_simp; rfl)); intro gb240 hg w45 hbox hb; have n0_ := Aside0.mk (Kd.V_below (Kd.V_elderB (by (with_reducible repeat (first | apply Kd.V_alloc | apply Kd.V_drewN | apply Kd.V_drew)); exact HO238.out) gb240 (Nat.le_of_eq hg.symm)) hb); have n1_ := Aside0.mk (blk_below (zh BK227.out) hb); have n2_ := Aside0.mk (blk_below (zh BK228.out) hb); have n3_ := Aside0.mk (blk_below (zh BK229.out) hb); have n4_ := Aside0.mk (below_step (zb HB.out) hb); have n5_ := Aside0.mk (hbox); have n6_ := Aside0.mk ((by rw [hg]; exact (below_size (zb HB.out)) : w.heap.size ≤ gb240)); have n7_ := Aside0.mk ((by rw [hg]; exact (below_size (zb HB.out)) : w.heap.size ≤ gb240)); have n8_ := Aside0.mk ((by rw [hg]; exact Nat.ne_of_lt (blk_lt (zh BK227.out)) : gb227 ≠ gb240)); have n9_ := Aside0.mk ((by rw [hg]; exact Nat.ne_of_gt (blk_lt (zh BK227.out)) : gb240 ≠ gb227)); have n10_ := Aside0.mk ((by rw [hg]; exact Nat.ne_of_lt (blk_lt (zh BK228.out)) : gb228 ≠ gb240)); have n11_ := Aside0.mk ((by rw [hg]; exact Nat.ne_of_gt (blk_lt (zh BK228.out)) : gb240 ≠ gb228)); have n12_ := Aside0.mk ((by rw [hg]; exact Nat.ne_of_lt (blk_lt (zh BK229.out)) : gb229 ≠ gb240)); have n13_ := Aside0.mk ((by rw [hg]; exact Nat.ne_of_gt (blk_lt (zh BK229.out)) : gb240 ≠ gb229)); clear HO238 BK227 BK228 BK229 HB; have HO238 := n0_; have BK227 := n1_; have BK228 := n2_; have BK229 := n3_; have HB := n4_; have BK240 := n5_; have GW240 := n6_; have GE240 := n7_; have NB227_240 := n8_; have NB240_227 := n9_; have NB228_240 := n10_; have NB240_228 := n11_; have NB229_240 := n12_; have NB240_229 := n13_; clear n0_ n1_ n2_ n3_ n4_ n5_ n6_ n7_ n8_ n9_ n10_ n11_ n12_ n13_ hb hbox hg; obtain ⟨Ao46, co46, eo46⟩ := Kd.V_slice HO238.out; subst eo46; have hnb47 := NB240_227.out; have hnc47 := NB227_240.out; have hnb48 := NB240_228.out; have hnc48 := NB228_240.out; have hnb49 := NB240_229.out; have hnc49 := NB229_240.out; have hcz50_0 : w45.cell? ⟨gb240, 0, none⟩ = some (.slice none 0 0) := (blk_cell BK240.out 0).trans rfl; have hfz50_0 := blk_frozen BK240.out 0; have hcz51_0 : w45.cell? ⟨gb228, 0, none⟩ = some (.slice A2_0 l2_0.length c2_0) := (blk_cell BK228.out 0).trans rfl; have hfz51_0 := blk_frozen BK228.out 0) | ((with_reducible refine gate_callee (f := 27) rfl ?_); refine goesL_ (some 35) rfl rfl Try.func27 (by kernel_rfl) rfl #[.agg #[.slice A2_0 l2_0.length c2_0]] rfl zl ?_; (with_reducible refine (spec_l1Copy.calls _ _ l2_0 t241 _ ?side1 ?side2 A38.out).mono ?_); (case side1 => exact Kd.C_below HR2_0.out (zb HB.out)); (case side2 => exact HC2_0.out); rintro e w52 ⟨v242, rfl, ho0, hb⟩; refine ⟨_, rfl, ?_⟩; have n0_ := Aside0.mk (Kd.V_elder' (by (with_reducible repeat (first | apply Kd.V_alloc | apply Kd.V_drewN | apply Kd.V_drew)); exact (Kd.V_mono (Kd.V_far (p := ⟨gb240, 0, none⟩) (Kd.V_mono HO238.out (fun k_ hk => (⟨hk, hk.2⟩ : _ ∧ k_ ≠ gb240))) (fun _ hk => hk.2) (.slice Ao46 t236.length co46)) (fun _ h_ => h_.1))) (Kd.R_base ho0) hb); have n1_ := Aside0.mk (Kd.R_lower ho0 (below_size (zb HB.out))); have n2_ := Aside0.mk (blk_below (g := gb227) (o := .cells #[.slice A0_0 l0_0.length c0_0] 28 (0, 0)) (zf BK227.out) hb); have n3_ := Aside0.mk (blk_below (g := gb228) (o := .cells #[.slice A2_0 l2_0.length c2_0] 28 (0, 0)) (zf BK228.out) hb); have n4_ := Aside0.mk (blk_below (g := gb229) (o := .cells #[.slice none 0 0] 28 (0, 0)) (zf BK229.out) hb); have n5_ := Aside0.mk (blk_below (g := gb240) (o := .cells #[.slice Ao46 t236.length co46] 28 (0, 0)) (by (with_reducible repeat (first | refine blk_drewN ?_ _ | refine blk_drew ?_ | refine blk_alloc ?_ _)); refine blk_put (cs := #[.slice none 0 0]) ?_ 0 _ rfl; (with_reducible repeat (first | refine blk_drewN ?_ _ | refine blk_drew ?_ | refine blk_alloc ?_ _)); exact BK240.out) hb); have n6_ := Aside0.mk (below_step (zb HB.out) hb); clear HO238 BK227 BK228 BK229 BK240 HB; have HO238 := n0_; have HO243 := n1_; have BK227 := n2_; have BK228 := n3_; have BK229 := n4_; have BK240 := n5_; have HB := n6_; clear n0_ n1_ n2_ n3_ n4_ n5_ n6_; (try clear hb); (try clear hb2); (try clear hk); (try clear hi); (try clear ho0); obtain ⟨Ao53, co53, eo53⟩ := Kd.R_slice HO243.out; subst eo53; have hcz54_0 : w52.cell? ⟨gb229, 0, none⟩ = some (.slice none 0 0) := (blk_cell BK229.out 0).trans rfl; have hfz54_0 := blk_frozen BK229.out 0))
    refine bodyPost_ret (results_ct rfl _ _ gb229 28 #[.slice Ao53 t241.length co53] (0, 0) _ rfl (by (with_reducible repeat (first | refine blk_drewN ?_ _ | refine blk_drew ?_ | refine blk_alloc ?_ _)); refine blk_put (cs := #[.slice none 0 0]) ?_ 0 _ rfl; (with_reducible repeat (first | refine blk_drewN ?_ _ | refine blk_drew ?_ | refine blk_alloc ?_ _)); exact BK229.out) Try.underlying28 rfl (by kernel_rfl)) rfl ?_
    exact ⟨_, ze, zr (Kd.R_mono (Kd.R_far (p := ⟨gb229, 0, none⟩) (Kd.R_types HO243.out BK229.out (by decide)) (fun _ hk => hk.2) (.slice Ao53 t241.length co53)) (fun _ hk => trivial)), zb HB.out⟩
   rw [if_neg c37] at H
   have c37b0 : decide (t239 < 0) = false := decide_eq_false c37
   clear c37
   replace H := Option.bind_eq_some_iff.mp H
   obtain ⟨t244, A550, H⟩ := H
   replace H : (some (t244, t239)) = some (r1, r2) := H
   have A55 := Aside0.mk A550
   clear A550
   simp only [Option.some.injEq, Prod.mk.injEq] at H
   obtain ⟨rfl, rfl⟩ := H
   have hnb56 := NB227_228.out
   have hnc56 := NB228_227.out
   have hnb57 := NB227_229.out
   have hnc57 := NB229_227.out
   have hcz58_0 : wc.cell? ⟨gb227, 0, none⟩ = some (.slice A0_0 l0_0.length c0_0) := (blk_cell BK227.out 0).trans rfl
   have hfz58_0 := blk_frozen BK227.out 0
   have hnb59 := NB228_229.out
   have hnc59 := NB229_228.out
   have hcz60_0 : wc.cell? ⟨gb228, 0, none⟩ = some (.slice A2_0 l2_0.length c2_0) := (blk_cell BK228.out 0).trans rfl
   have hfz60_0 := blk_frozen BK228.out 0
   go_wp2_with (first | ((with_reducible refine gate_callee (f := 40) rfl ?_); refine goesL_ (some 29) rfl rfl Try.func40 (by kernel_rfl) rfl #[.agg #[.slice A0_0 l0_0.length c0_0], .int .i64 a1, .agg #[.slice A2_0 l2_0.length c2_0]] rfl zl ?_; (with_reducible refine (spec_l5Carry.calls kj5 _ _ l0_0 a1 (fun k_ => k_ < w.heap.size) _ _ l2_0 t236 t239 _ ?side1 ?side2 ?side3 A36.out).mono ?_); (case side1 => exact zc (Kd.C_below HR0_0.out HB.out)); (case side2 => exact HC0_0.out); (case side3 => exact Kd.V_mk HC2_0.out (Kd.F_below (Kd.C_F k55_heap HR2_0.out) (zb HB.out))); rintro e w61 ⟨v237, rfl, ho0, hb⟩; refine ⟨_, rfl, ?_⟩; have n0_ := Aside0.mk (Kd.V_lower (Kd.V_mono (ok' := fun k_ => k_ ≠ gb227 ∧ k_ ≠ gb228 ∧ k_ ≠ gb229) ho0 (fun k_ hk_ => by first | exact ⟨Or.elim hk_ (fun hs_ => fun e_ => Nat.not_le.2 hs_ (by rw [e_]; exact GW227.out)) (fun hn_ => (Kd.freshB (zh BK227.out) k_ hn_)), Or.elim hk_ (fun hs_ => fun e_ => Nat.not_le.2 hs_ (by rw [e_]; exact GW228.out)) (fun hn_ => (Kd.freshB (zh BK228.out) k_ hn_)), Or.elim hk_ (fun hs_ => fun e_ => Nat.not_le.2 hs_ (by rw [e_]; exact GW229.out)) (fun hn_ => (Kd.freshB (zh BK229.out) k_ hn_))⟩ | (revert hk_; simp only [and_imp]; intros; and_intros <;> assumption))) (below_size (zb HB.out))); have n1_ := Aside0.mk (blk_below (zh BK227.out) hb); have n2_ := Aside0.mk (blk_below (zh BK228.out) hb); have n3_ := Aside0.mk (blk_below (zh BK229.out) hb); have n4_ := Aside0.mk (below_step (zb HB.out) hb); clear BK227 BK228 BK229 HB; have HO238 := n0_; have BK227 := n1_; have BK228 := n2_; have BK229 := n3_; have HB := n4_; clear n0_ n1_ n2_ n3_ n4_; (try clear hb); (try clear hb2); (try clear hk); (try clear hi); (try clear ho0)) | ((with_reducible refine gate_dst (N := 8) rfl ?_); refine box_event ?hg (N := 8) ?hd (cs := #[.slice none 0 0]) (t := 28) ?hr ?_; (case hd => rfl); (case hg => rfl); (case hr => first | (go_simp; done) | (go_simp; rfl)); intro gb240 hg w62 hbox hb; have n0_ := Aside0.mk (Kd.V_below (Kd.V_elderB (by (with_reducible repeat (first | apply Kd.V_alloc | apply Kd.V_drewN | apply Kd.V_drew)); exact HO238.out) gb240 (Nat.le_of_eq hg.symm)) hb); have n1_ := Aside0.mk (blk_below (zh BK227.out) hb); have n2_ := Aside0.mk (blk_below (zh BK228.out) hb); have n3_ := Aside0.mk (blk_below (zh BK229.out) hb); have n4_ := Aside0.mk (below_step (zb HB.out) hb); have n5_ := Aside0.mk (hbox); have n6_ := Aside0.mk ((by rw [hg]; exact (below_size (zb HB.out)) : w.heap.size ≤ gb240)); have n7_ := Aside0.mk ((by rw [hg]; exact (below_size (zb HB.out)) : w.heap.size ≤ gb240)); have n8_ := Aside0.mk ((by rw [hg]; exact Nat.ne_of_lt (blk_lt (zh BK227.out)) : gb227 ≠ gb240)); have n9_ := Aside0.mk ((by rw [hg]; exact Nat.ne_of_gt (blk_lt (zh BK227.out)) : gb240 ≠ gb227)); have n10_ := Aside0.mk ((by rw [hg]; exact Nat.ne_of_lt (blk_lt (zh BK228.out)) : gb228 ≠ gb240)); have n11_ := Aside0.mk ((by rw [hg]; exact Nat.ne_of_gt (blk_lt (zh BK228.out)) : gb240 ≠ gb228)); have n12_ := Aside0.mk ((by rw [hg]; exact Nat.ne_of_lt (blk_lt (zh BK229.out)) : gb229 ≠ gb240)); have n13_ := Aside0.mk ((by rw [hg]; exact Nat.ne_of_gt (blk_lt (zh BK229.out)) : gb240 ≠ gb229)); clear HO238 BK227 BK228 BK229 HB; have HO238 := n0_; have BK227 := n1_; have BK228 := n2_; have BK229 := n3_; have HB := n4_; have BK240 := n5_; have GW240 := n6_; have GE240 := n7_; have NB227_240 := n8_; have NB240_227 := n9_; have NB228_240 := n10_; have NB240_228 := n11_; have NB229_240 := n12_; have NB240_229 := n13_; clear n0_ n1_ n2_ n3_ n4_ n5_ n6_ n7_ n8_ n9_ n10_ n11_ n12_ n13_ hb hbox hg; obtain ⟨Ao63, co63, eo63⟩ := Kd.V_slice HO238.out; subst eo63; have hnb64 := NB240_227.out; have hnc64 := NB227_240.out; have hnb65 := NB240_228.out; have hnc65 := NB228_240.out; have hnb66 := NB240_229.out; have hnc66 := NB229_240.out; have hcz67_0 : w62.cell? ⟨gb240, 0, none⟩ = some (.slice none 0 0) := (blk_cell BK240.out 0).trans rfl; have hfz67_0 := blk_frozen BK240.out 0) | ((with_reducible refine gate_callee (f := 27) rfl ?_); refine goesL_ (some 37) rfl rfl Try.func27 (by kernel_rfl) rfl #[.agg #[.slice Ao63 t236.length co63]] rfl zl ?_; (with_reducible refine (spec_l1Copy.calls _ _ t236 t244 _ ?side1 ?side2 A55.out).mono ?_); (case side1 => refine (Kd.V_reads' (e := 55) (base := w.heap.size) (ok := fun k_ => ((k_ ≠ gb227 ∧ (k_ ≠ gb228 ∧ k_ ≠ gb229)) ∧ k_ ≠ gb240)) (n := t236.length) (c := co63) ?_).2.2; exact (by (with_reducible repeat (first | apply Kd.V_alloc | apply Kd.V_drewN | apply Kd.V_drew)); exact (Kd.V_mono (Kd.V_far (p := ⟨gb240, 0, none⟩) (Kd.V_mono HO238.out (fun k_ hk => (⟨hk, hk.2⟩ : _ ∧ k_ ≠ gb240))) (fun _ hk => hk.2) (.slice Ao63 t236.length co63)) (fun _ h_ => h_.1)))); (case side2 => exact (Kd.V_reads' HO238.out).2.1); rintro e w68 ⟨v245, rfl, ho0, hb⟩; refine ⟨_, rfl, ?_⟩; have n0_ := Aside0.mk (Kd.V_elder' (by (with_reducible repeat (first | apply Kd.V_alloc | apply Kd.V_drewN | apply Kd.V_drew)); exact (Kd.V_mono (Kd.V_far (p := ⟨gb240, 0, none⟩) (Kd.V_mono HO238.out (fun k_ hk => (⟨hk, hk.2⟩ : _ ∧ k_ ≠ gb240))) (fun _ hk => hk.2) (.slice Ao63 t236.length co63)) (fun _ h_ => h_.1))) (Kd.R_base ho0) hb); have n1_ := Aside0.mk (Kd.R_lower ho0 (below_size (zb HB.out))); have n2_ := Aside0.mk (blk_below (g := gb227) (o := .cells #[.slice A0_0 l0_0.length c0_0] 28 (0, 0)) (zf BK227.out) hb); have n3_ := Aside0.mk (blk_below (g := gb228) (o := .cells #[.slice A2_0 l2_0.length c2_0] 28 (0, 0)) (zf BK228.out) hb); have n4_ := Aside0.mk (blk_below (g := gb229) (o := .cells #[.slice none 0 0] 28 (0, 0)) (zf BK229.out) hb); have n5_ := Aside0.mk (blk_below (g := gb240) (o := .cells #[.slice Ao63 t236.length co63] 28 (0, 0)) (by (with_reducible repeat (first | refine blk_drewN ?_ _ | refine blk_drew ?_ | refine blk_alloc ?_ _)); refine blk_put (cs := #[.slice none 0 0]) ?_ 0 _ rfl; (with_reducible repeat (first | refine blk_drewN ?_ _ | refine blk_drew ?_ | refine blk_alloc ?_ _)); exact BK240.out) hb); have n6_ := Aside0.mk (below_step (zb HB.out) hb); clear HO238 BK227 BK228 BK229 BK240 HB; have HO238 := n0_; have HO246 := n1_; have BK227 := n2_; have BK228 := n3_; have BK229 := n4_; have BK240 := n5_; have HB := n6_; clear n0_ n1_ n2_ n3_ n4_ n5_ n6_; (try clear hb); (try clear hb2); (try clear hk); (try clear hi); (try clear ho0); obtain ⟨Ao69, co69, eo69⟩ := Kd.R_slice HO246.out; subst eo69; have hcz70_0 : w68.cell? ⟨gb229, 0, none⟩ = some (.slice none 0 0) := (blk_cell BK229.out 0).trans rfl; have hfz70_0 := blk_frozen BK229.out 0))
   refine bodyPost_ret (results_ct rfl _ _ gb229 28 #[.slice Ao69 t244.length co69] (0, 0) _ rfl (by (with_reducible repeat (first | refine blk_drewN ?_ _ | refine blk_drew ?_ | refine blk_alloc ?_ _)); refine blk_put (cs := #[.slice none 0 0]) ?_ 0 _ rfl; (with_reducible repeat (first | refine blk_drewN ?_ _ | refine blk_drew ?_ | refine blk_alloc ?_ _)); exact BK229.out) Try.underlying28 rfl (by kernel_rfl)) rfl ?_
   exact ⟨_, ze, zr (Kd.R_mono (Kd.R_far (p := ⟨gb229, 0, none⟩) (Kd.R_types HO246.out BK229.out (by decide)) (fun _ hk => hk.2) (.slice Ao69 t244.length co69)) (fun _ hk => trivial)), zb HB.out⟩
/-! ### impl_inRange: function 60 -/
def impl_inRange.f (a0 : Int) (a1 : Int) (a2 : Int) : Option (Bool) := if a0 ≥ a1 then (some (decide (a0 ≤ a2))) else (some false)
set_option maxHeartbeats 8000000 in
set_option maxRecDepth 100000 in
theorem impl_inRange.calls (a0 : Int) (a1 : Int) (a2 : Int) (r : Bool) (w : World) (h : impl_inRange.f a0 a1 a2 = some r) :
  Calls Try.prog 60 #[.int .i64 a0, .int .i64 a1, .int .i64 a2] w fun e w' => e = .returned (.bool r) ∧ Drawn0 w w' := by
 have H : (if a0 ≥ a1 then (some (decide (a0 ≤ a2))) else (some false)) = some r := h
 clear h
 by_cases c4 : a0 ≥ a1
 ·rw [if_pos c4] at H
  have c4b0 : decide (a1 ≤ a0) = true := decide_eq_true c4
  clear c4
  obtain rfl := Option.some.inj H
  go_enter Try.func60, Try.ntmps60
  go_wp2
  go_ret
  exact ⟨by first | rfl | (simp; done) | (simp [*]; done), by repeat (first | exact Drawn0.refl _ | apply Drawn0.step)⟩
 rw [if_neg c4] at H
 have c4b0 : decide (a1 ≤ a0) = false := decide_eq_false c4
 clear c4
 obtain rfl := Option.some.inj H
 go_enter Try.func60, Try.ntmps60
 go_wp2
 go_ret
 exact ⟨by first | rfl | (simp; done) | (simp [*]; done), by repeat (first | exact Drawn0.refl _ | apply Drawn0.step)⟩

/-! ### impl_count: function 63 -/
def impl_count.j0 : Nat → Int → Bool → Option (Int)
 | 0, _, _ => none
 | k + 1, x3, x6 => if x6 = true then (some 1) else (if x3 = 2 then (some 2) else (if x3 = 3 then (some 2) else (if x3 = 4 then (some 2) else (if x3 = 6 then (some 2) else (if x3 = 8 then (some 2) else (some (-1)))))))
def impl_count.f (k : Nat) (a0 : Int) : Option (Int) := if a0 = 1 then (some 0) else (if a0 = 5 then (impl_count.j0 k a0 (a0 == 5)) else (impl_count.j0 k a0 (a0 == 7)))
set_option maxHeartbeats 8000000 in
set_option maxRecDepth 100000 in
theorem impl_count.calls (k : Nat) (a0 : Int) (r : Int) (w : World) (h : impl_count.f k a0 = some r) :
  Calls Try.prog 63 #[.int .i64 a0] w fun e w' => e = .returned (.int .i64 r) ∧ Drawn0 w w' := by
 have H : (if a0 = 1 then (some 0) else (if a0 = 5 then (impl_count.j0 k a0 (a0 == 5)) else (impl_count.j0 k a0 (a0 == 7)))) = some r := h
 clear h
 by_cases c2 : a0 = 1
 ·rw [if_pos c2] at H
  have c2b0 : (a0 == 1) = true := beq_iff_eq.mpr c2
  have c2b1 : (a0 != 1) = false := bne_eq_false_iff_eq.mpr c2
  clear c2
  obtain rfl := Option.some.inj H
  go_enter Try.func63, Try.ntmps63
  go_wp2
  go_ret
  exact ⟨by first | rfl | (simp; done) | (simp [*]; done), by repeat (first | exact Drawn0.refl _ | apply Drawn0.step)⟩
 rw [if_neg c2] at H
 have c2b0 : (a0 == 1) = false := beq_eq_false_iff_ne.mpr c2
 have c2b1 : (a0 != 1) = true := bne_iff_ne.mpr c2
 have HC3 := Aside0.mk H
 clear H
 go_enter Try.func63, Try.ntmps63
 go_upto_if 6 with (fail)
 go_cut [6] (fun v6 wc => ∃ (kq : Nat) (x6_2 : Bool), v6 = .bool x6_2 ∧ Aside0 (impl_count.j0 kq a0 x6_2 = some r) ∧ Aside0 (kq ≤ k) ∧ Drawn0 w wc)
 case first =>
  have H := HC3.out
  clear HC3
  by_cases c4 : a0 = 5
  rotate_left
  ·rw [if_neg c4] at H
   have c4b0 : (a0 == 5) = false := beq_eq_false_iff_ne.mpr c4
   have c4b1 : (a0 != 5) = true := bne_iff_ne.mpr c4
   (first | rw [c4b0] | (simp only [i64_w, i32_w]; rw [c4b0]) | skip)
   have H' := Aside0.mk H
   clear H
   go_wp2
   go_meet
   case rel => exact ⟨_, ((a0 == 7)), (by first | rfl | (simp; done) | (simp [*]; done)), H', ⟨by first | omega | exact Nat.le_refl _⟩, by repeat (first | exact Drawn0.refl _ | apply Drawn0.step)⟩
  rw [if_pos c4] at H
  have c4b0 : (a0 == 5) = true := beq_iff_eq.mpr c4
  have c4b1 : (a0 != 5) = false := bne_eq_false_iff_eq.mpr c4
  clear c4
  (first | rw [c4b0] | (simp only [i64_w, i32_w]; rw [c4b0]) | skip)
  have H' := Aside0.mk H
  clear H
  go_wp2
  go_meet
  case rel => exact ⟨_, ((a0 == 5)), (by first | rfl | (simp; done) | (simp [*]; done)), H', ⟨by first | omega | exact Nat.le_refl _⟩, by repeat (first | exact Drawn0.refl _ | apply Drawn0.step)⟩
 case rest =>
  clear HC3
  try clear c2
  try clear c2b0
  try clear c2b1
  try clear p2
  try clear c4
  try clear c4b0
  try clear c4b1
  obtain ⟨kq, x6_2, rfl, HA, HJ2, ⟨mc2, rfl⟩⟩ := hcut
  cases kq with
  | zero => exact absurd HA.out (by simp [impl_count.j0])
  | succ kj2 =>
   have H := HA.out
   clear HA
   simp only [impl_count.j0] at H
   by_cases c5 : x6_2 = true
   ·subst c5
    have H1 : (some 1) = some r := by rw [if_pos rfl] at H; exact H
    clear H
    have H := H1
    clear H1
    obtain rfl := Option.some.inj H
    go_wp2
    go_ret
    exact ⟨by first | rfl | (simp; done) | (simp [*]; done), by repeat (first | exact Drawn0.refl _ | apply Drawn0.step)⟩
   replace c5 := Bool.eq_false_iff.mpr c5
   subst c5
   have H1 : (if a0 = 2 then (some 2) else (if a0 = 3 then (some 2) else (if a0 = 4 then (some 2) else (if a0 = 6 then (some 2) else (if a0 = 8 then (some 2) else (some (-1))))))) = some r := by rw [if_neg (show ¬ (false = true) by decide)] at H; exact H
   clear H
   have H := H1
   clear H1
   by_cases c6 : a0 = 2
   ·rw [if_pos c6] at H
    have c6b0 : (a0 == 2) = true := beq_iff_eq.mpr c6
    have c6b1 : (a0 != 2) = false := bne_eq_false_iff_eq.mpr c6
    clear c6
    obtain rfl := Option.some.inj H
    go_wp2
    go_ret
    exact ⟨by first | rfl | (simp; done) | (simp [*]; done), by repeat (first | exact Drawn0.refl _ | apply Drawn0.step)⟩
   rw [if_neg c6] at H
   have c6b0 : (a0 == 2) = false := beq_eq_false_iff_ne.mpr c6
   have c6b1 : (a0 != 2) = true := bne_iff_ne.mpr c6
   by_cases c7 : a0 = 3
   ·rw [if_pos c7] at H
    have c7b0 : (a0 == 3) = true := beq_iff_eq.mpr c7
    have c7b1 : (a0 != 3) = false := bne_eq_false_iff_eq.mpr c7
    clear c7
    obtain rfl := Option.some.inj H
    go_wp2
    go_ret
    exact ⟨by first | rfl | (simp; done) | (simp [*]; done), by repeat (first | exact Drawn0.refl _ | apply Drawn0.step)⟩
   rw [if_neg c7] at H
   have c7b0 : (a0 == 3) = false := beq_eq_false_iff_ne.mpr c7
   have c7b1 : (a0 != 3) = true := bne_iff_ne.mpr c7
   by_cases c8 : a0 = 4
   ·rw [if_pos c8] at H
    have c8b0 : (a0 == 4) = true := beq_iff_eq.mpr c8
    have c8b1 : (a0 != 4) = false := bne_eq_false_iff_eq.mpr c8
    clear c8
    obtain rfl := Option.some.inj H
    go_wp2
    go_ret
    exact ⟨by first | rfl | (simp; done) | (simp [*]; done), by repeat (first | exact Drawn0.refl _ | apply Drawn0.step)⟩
   rw [if_neg c8] at H
   have c8b0 : (a0 == 4) = false := beq_eq_false_iff_ne.mpr c8
   have c8b1 : (a0 != 4) = true := bne_iff_ne.mpr c8
   by_cases c9 : a0 = 6
   ·rw [if_pos c9] at H
    have c9b0 : (a0 == 6) = true := beq_iff_eq.mpr c9
    have c9b1 : (a0 != 6) = false := bne_eq_false_iff_eq.mpr c9
    clear c9
    obtain rfl := Option.some.inj H
    go_wp2
    go_ret
    exact ⟨by first | rfl | (simp; done) | (simp [*]; done), by repeat (first | exact Drawn0.refl _ | apply Drawn0.step)⟩
   rw [if_neg c9] at H
   have c9b0 : (a0 == 6) = false := beq_eq_false_iff_ne.mpr c9
   have c9b1 : (a0 != 6) = true := bne_iff_ne.mpr c9
   by_cases c10 : a0 = 8
   rotate_left
   ·rw [if_neg c10] at H
    have c10b0 : (a0 == 8) = false := beq_eq_false_iff_ne.mpr c10
    have c10b1 : (a0 != 8) = true := bne_iff_ne.mpr c10
    obtain rfl := Option.some.inj H
    go_wp2
    go_ret
    exact ⟨by first | rfl | (simp; done) | (simp [*]; done), by repeat (first | exact Drawn0.refl _ | apply Drawn0.step)⟩

   rw [if_pos c10] at H
   have c10b0 : (a0 == 8) = true := beq_iff_eq.mpr c10
   have c10b1 : (a0 != 8) = false := bne_eq_false_iff_eq.mpr c10
   clear c10
   obtain rfl := Option.some.inj H
   go_wp2
   go_ret
   exact ⟨by first | rfl | (simp; done) | (simp [*]; done), by repeat (first | exact Drawn0.refl _ | apply Drawn0.step)⟩
end Go.Proofs.Ytobkledmbnacjaa.M
end
