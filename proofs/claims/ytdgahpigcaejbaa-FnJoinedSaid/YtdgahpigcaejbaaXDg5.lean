import Derived.Test.YtdgahpigcaejbaaXD0
import Derived.Test.YtdgahpigcaejbaaXDg0
import Derived.Test.YtdgahpigcaejbaaXDg4
import Derived.Test.YtdgahpigcaejbaaXDg1
section
-- Written by this session's program (wip/tools/gprint.py over the kit's print) out of the translation; Lean checks it.
namespace Go.Proofs.Ytdgahpigcaejbaa.D
open Go.RowKit Go.Proofs.YtdgahpigcaejbaaW.PrintWords Go.Proofs.YtdgahpigcaejbaaW.PrintLast Go.Proofs.YtdgahpigcaejbaaW.PrintMore
attribute [local go_sem] max2_int min2_int max_two min_two max_three min_three max_four min_four   -- for this text's walks alone
set_option linter.unusedVariables false
set_option linter.unusedSimpArgs false
set_option maxRecDepth 100000

/-! ### spec_l7Made: function 113 -/
def spec_l7Made.j0 : Nat → List Bool → List Int → Bool → List (S44) → Int → Int → Int → Option (Bool)
 | 0, _, _, _, _, _, _, _ => none
 | k + 1, x1, x3, x32, x473000, x475000, x475001, x475002 => if x32 = true then (some true) else (if x475000 = 8 then (if 0 ≤ x475001 then (if x475001 < (x1.length : Int) then (if rdOf false x1 x475001 = true then ((spec_l7Power.f k x473000 x1 x3 x475002).bind fun t481 => (if t481 = true then (some true) else (if 0 ≤ x475002 then (if x475002 < (x1.length : Int) then (if rdOf false x1 x475002 = true then ((spec_l7Power.f k x473000 x1 x3 x475001).bind fun t483 => (some t483)) else (some false)) else (none)) else (none)))) else (if 0 ≤ x475002 then (if x475002 < (x1.length : Int) then (if rdOf false x1 x475002 = true then ((spec_l7Power.f k x473000 x1 x3 x475001).bind fun t485 => (some t485)) else (some false)) else (none)) else (none))) else (none)) else (none)) else (some false))
def spec_l7Made.f (k : Nat) (l0_0 : List (S44)) (l1 : List Bool) (a2 : Int) (l3 : List Int) : Option (Bool) := if 0 ≤ a2 then (if a2 < (l0_0.length : Int) then (if ((rd_T44 l0_0 a2).f0) = 1 then ((spec_IsPublic.f ((rd_T44 l0_0 a2).f1)).bind fun t475 => (some t475)) else ((spec_l1Parts.f k ((rd_T44 l0_0 a2).f0)).bind fun t476 => (if t476 = 1 then (if 0 ≤ ((rd_T44 l0_0 a2).f1) then (if ((rd_T44 l0_0 a2).f1) < (l1.length : Int) then (some (rdOf false l1 ((rd_T44 l0_0 a2).f1))) else (none)) else (none)) else (if 0 ≤ ((rd_T44 l0_0 a2).f1) then (if ((rd_T44 l0_0 a2).f1) < (l1.length : Int) then (if rdOf false l1 ((rd_T44 l0_0 a2).f1) = true then (if 0 ≤ ((rd_T44 l0_0 a2).f2) then (if ((rd_T44 l0_0 a2).f2) < (l1.length : Int) then (spec_l7Made.j0 k l1 l3 (rdOf false l1 ((rd_T44 l0_0 a2).f2)) l0_0 ((rd_T44 l0_0 a2).f0) ((rd_T44 l0_0 a2).f1) ((rd_T44 l0_0 a2).f2)) else (none)) else (none)) else (spec_l7Made.j0 k l1 l3 false l0_0 ((rd_T44 l0_0 a2).f0) ((rd_T44 l0_0 a2).f1) ((rd_T44 l0_0 a2).f2))) else (none)) else (none))))) else (none)) else (none)
theorem spec_l7Made.mono_l : ∀ k, (∀ y0 y1 y2 y3 y4 y5 y6, LeO (spec_l7Made.j0 k y0 y1 y2 y3 y4 y5 y6) (spec_l7Made.j0 (k + 1) y0 y1 y2 y3 y4 y5 y6))
 | 0 => fun _ _ _ _ _ _ _ r h => by simp [spec_l7Made.j0] at h
 | k + 1 => by
  have ih0 := spec_l7Made.mono_l k
  ·intro y0 y1 y2 y3 y4 y5 y6
   unfold spec_l7Made.j0
   repeat' first
   | (with_reducible exact ih0 _ _ _ _ _ _ _)
   | (with_reducible exact spec_l1Parts.mono _ _)
   | (with_reducible exact spec_l7Power.mono _ _ _ _ _)
   | (with_reducible exact LeO.refl _)
   | (with_reducible exact LeO.none _)
   | (with_reducible refine LeO.ite ?_ ?_)
   | (with_reducible refine LeO.bind ?_ (fun _ => ?_))
   | exact ih0 _ _ _ _ _ _ _
   | exact spec_l1Parts.mono _ _
   | exact spec_l7Power.mono _ _ _ _ _
   | exact LeO.none _
   | refine LeO.ite ?_ ?_
   | refine LeO.bind ?_ (fun _ => ?_)
theorem spec_l7Made.mono : ∀ a0 a1 a2 a3 k, LeO (spec_l7Made.f k a0 a1 a2 a3) (spec_l7Made.f (k + 1) a0 a1 a2 a3) := by
 intro a0 a1 a2 a3 k
 have ih0 := spec_l7Made.mono_l k
 unfold spec_l7Made.f
 repeat' first
   | (with_reducible exact ih0 _ _ _ _ _ _ _)
   | (with_reducible exact spec_l1Parts.mono _ _)
   | (with_reducible exact spec_l7Power.mono _ _ _ _ _)
   | (with_reducible exact LeO.refl _)
   | (with_reducible exact LeO.none _)
   | (with_reducible refine LeO.ite ?_ ?_)
   | (with_reducible refine LeO.bind ?_ (fun _ => ?_))
   | exact ih0 _ _ _ _ _ _ _
   | exact spec_l1Parts.mono _ _
   | exact spec_l7Power.mono _ _ _ _ _
   | exact LeO.none _
   | refine LeO.ite ?_ ?_
   | refine LeO.bind ?_ (fun _ => ?_)
set_option maxHeartbeats 8000000 in
set_option maxRecDepth 100000 in
theorem spec_l7Made.calls (k : Nat) (A0_0 : Option Addr) (c0_0 : Nat) (l0_0 : List (S44)) (A1 : Option Addr) (c1 : Nat) (l1 : List Bool) (a2 : Int) (A3 : Option Addr) (c3 : Nat) (l3 : List Int) (r : Bool) (w : World) (hr0_0 : Kd.C k44 w A0_0 l0_0.length l0_0) (hc0_0 : l0_0.length ≤ c0_0) (hr1 : Kd.C Kd.bool w A1 l1.length l1) (hc1 : l1.length ≤ c1) (hr3 : Kd.C (Kd.int .i64) w A3 l3.length l3) (hc3 : l3.length ≤ c3) (h : spec_l7Made.f k l0_0 l1 a2 l3 = some r) :
  Calls Try.prog 113 #[.agg #[.slice A0_0 l0_0.length c0_0], .slice A1 l1.length c1, .int .i64 a2, .slice A3 l3.length c3] w fun e w' => e = .returned (.bool r) ∧ Below w.heap.size w w' := by
 have hu30 := Try.underlying30
 have hu44 := Try.underlying44
 have HR0_0 := Aside0.mk hr0_0
 have HC0_0 := Aside0.mk hc0_0
 clear hr0_0 hc0_0
 have HR1 := Aside0.mk hr1
 have HC1 := Aside0.mk hc1
 clear hr1 hc1
 have HR3 := Aside0.mk hr3
 have HC3 := Aside0.mk hc3
 clear hr3 hc3
 have HB := Aside0.mk (Below.refl w.heap.size w)
 have H : (if 0 ≤ a2 then (if a2 < (l0_0.length : Int) then (if ((rd_T44 l0_0 a2).f0) = 1 then ((spec_IsPublic.f ((rd_T44 l0_0 a2).f1)).bind fun t475 => (some t475)) else ((spec_l1Parts.f k ((rd_T44 l0_0 a2).f0)).bind fun t476 => (if t476 = 1 then (if 0 ≤ ((rd_T44 l0_0 a2).f1) then (if ((rd_T44 l0_0 a2).f1) < (l1.length : Int) then (some (rdOf false l1 ((rd_T44 l0_0 a2).f1))) else (none)) else (none)) else (if 0 ≤ ((rd_T44 l0_0 a2).f1) then (if ((rd_T44 l0_0 a2).f1) < (l1.length : Int) then (if rdOf false l1 ((rd_T44 l0_0 a2).f1) = true then (if 0 ≤ ((rd_T44 l0_0 a2).f2) then (if ((rd_T44 l0_0 a2).f2) < (l1.length : Int) then (spec_l7Made.j0 k l1 l3 (rdOf false l1 ((rd_T44 l0_0 a2).f2)) l0_0 ((rd_T44 l0_0 a2).f0) ((rd_T44 l0_0 a2).f1) ((rd_T44 l0_0 a2).f2)) else (none)) else (none)) else (spec_l7Made.j0 k l1 l3 false l0_0 ((rd_T44 l0_0 a2).f0) ((rd_T44 l0_0 a2).f1) ((rd_T44 l0_0 a2).f2))) else (none)) else (none))))) else (none)) else (none)) = some r := h
 clear h
 by_cases c5 : 0 ≤ a2
 ·rw [if_pos c5] at H
  have c5b0 : decide (0 ≤ a2) = true := decide_eq_true c5
  clear c5
  by_cases c6 : a2 < (l0_0.length : Int)
  ·rw [if_pos c6] at H
   have c6b0 : decide (a2 < (l0_0.length : Int)) = true := decide_eq_true c6
   clear c6
   by_cases c7 : ((rd_T44 l0_0 a2).f0) = 1
   ·rw [if_pos c7] at H
    have c7b0 : (((rd_T44 l0_0 a2).f0) == 1) = true := beq_iff_eq.mpr c7
    have c7b1 : (((rd_T44 l0_0 a2).f0) != 1) = false := bne_eq_false_iff_eq.mpr c7
    clear c7
    replace H := Option.bind_eq_some_iff.mp H
    obtain ⟨t475, A80, H⟩ := H
    replace H : (some t475) = some r := H
    have A8 := Aside0.mk A80
    clear A80
    obtain rfl := Option.some.inj H
    go_enter Try.func113, Try.ntmps113
    go_wp2_with (first | ((with_reducible refine gate_dst (N := 4) rfl ?_); refine box_event ?hg (N := 4) ?hd (cs := #[.slice A0_0 l0_0.length c0_0]) (t := 30) ?hr ?_; (case hd => rfl); (case hg => rfl); (case hr => first | (go_simp; done) | (go_simp; rfl)); intro gb472 hg w9 hbox hb; have n0_ := Aside0.mk (below_step (zb HB.out) hb); have n1_ := Aside0.mk (hbox); have n2_ := Aside0.mk ((by rw [hg]; exact (below_size (zb HB.out)) : w.heap.size ≤ gb472)); have n3_ := Aside0.mk ((by rw [hg]; exact (below_size (zb HB.out)) : w.heap.size ≤ gb472)); clear HB; have HB := n0_; have BK472 := n1_; have GW472 := n2_; have GE472 := n3_; clear n0_ n1_ n2_ n3_; clear hb hbox hg; have hcz10_0 : w9.cell? ⟨gb472, 0, none⟩ = some (.slice A0_0 l0_0.length c0_0) := (blk_cell BK472.out 0).trans rfl; have hfz10_0 := blk_frozen BK472.out 0; have p473 : 0 ≤ (a2 : Int) := of_decide_eq_true (by first | (with_reducible assumption) | assumption); have q473 : a2 < (l0_0.length : Int) := of_decide_eq_true (by first | (with_reducible assumption) | assumption); obtain ⟨ad473, e473, hx473_0, hx473_1, hx473_2⟩ := at_T44 HR0_0.out a2 p473 q473; cases e473; replace hx473_0 := (HB.out.cell (World.block_lt_of_cell? w _ hx473_0)).trans hx473_0; replace hx473_1 := (HB.out.cell (World.block_lt_of_cell? w _ hx473_1)).trans hx473_1; replace hx473_2 := (HB.out.cell (World.block_lt_of_cell? w _ hx473_2)).trans hx473_2; replace p473 := eq_true p473; replace q473 := eq_true q473) | ((with_reducible refine gate_dst (N := 9) rfl ?_); refine box_event ?hg (N := 9) ?hd (cs := #[.int .i64 0, .int .i64 0, .int .i64 0]) (t := 44) ?hr ?_; (case hd => rfl); (case hg => rfl); (case hr => first | (go_simp; done) | (go_simp; rfl)); intro gb474 hg w11 hbox hb; have n0_ := Aside0.mk (blk_below (zh BK472.out) hb); have n1_ := Aside0.mk (below_step (zb HB.out) hb); have n2_ := Aside0.mk (hbox); have n3_ := Aside0.mk ((by rw [hg]; exact (below_size (zb HB.out)) : w.heap.size ≤ gb474)); have n4_ := Aside0.mk ((by rw [hg]; exact (below_size (zb HB.out)) : w.heap.size ≤ gb474)); have n5_ := Aside0.mk ((by rw [hg]; exact Nat.ne_of_lt (blk_lt (zh BK472.out)) : gb472 ≠ gb474)); have n6_ := Aside0.mk ((by rw [hg]; exact Nat.ne_of_gt (blk_lt (zh BK472.out)) : gb474 ≠ gb472)); clear BK472; clear HB; have BK472 := n0_; have HB := n1_; have BK474 := n2_; have GW474 := n3_; have GE474 := n4_; have NB472_474 := n5_; have NB474_472 := n6_; clear n0_ n1_ n2_ n3_ n4_ n5_ n6_; clear hb hbox hg; have hnb12 := NB474_472.out; have hnc12 := NB472_474.out; have hcz13_0 : w11.cell? ⟨gb474, 0, none⟩ = some (.int .i64 0) := (blk_cell BK474.out 0).trans rfl; have hcz13_1 : w11.cell? ⟨gb474, 1, none⟩ = some (.int .i64 0) := (blk_cell BK474.out 1).trans rfl; have hcz13_2 : w11.cell? ⟨gb474, 2, none⟩ = some (.int .i64 0) := (blk_cell BK474.out 2).trans rfl; have hfz13_0 := blk_frozen BK474.out 0; have hfz13_1 := blk_frozen BK474.out 1; have hfz13_2 := blk_frozen BK474.out 2) | ((with_reducible refine gate_callee (f := 123) rfl ?_); refine goesL_ (some 21) rfl rfl Try.func123 (by kernel_rfl) rfl #[.int .i64 ((rd_T44 l0_0 a2).f1)] rfl zl ?_; (with_reducible refine (spec_IsPublic.calls ((rd_T44 l0_0 a2).f1) t475 _ A8.out).mono ?_); rintro e w' ⟨rfl, ⟨nd, rfl⟩⟩; refine ⟨_, rfl, ?_⟩))
    go_ret
    exact ⟨ze, zb HB.out⟩
   ·rw [if_neg c7] at H
    have c7b0 : (((rd_T44 l0_0 a2).f0) == 1) = false := beq_eq_false_iff_ne.mpr c7
    have c7b1 : (((rd_T44 l0_0 a2).f0) != 1) = true := bne_iff_ne.mpr c7
    replace H := Option.bind_eq_some_iff.mp H
    obtain ⟨t476, A140, H⟩ := H
    replace H : (if t476 = 1 then (if 0 ≤ ((rd_T44 l0_0 a2).f1) then (if ((rd_T44 l0_0 a2).f1) < (l1.length : Int) then (some (rdOf false l1 ((rd_T44 l0_0 a2).f1))) else (none)) else (none)) else (if 0 ≤ ((rd_T44 l0_0 a2).f1) then (if ((rd_T44 l0_0 a2).f1) < (l1.length : Int) then (if rdOf false l1 ((rd_T44 l0_0 a2).f1) = true then (if 0 ≤ ((rd_T44 l0_0 a2).f2) then (if ((rd_T44 l0_0 a2).f2) < (l1.length : Int) then (spec_l7Made.j0 k l1 l3 (rdOf false l1 ((rd_T44 l0_0 a2).f2)) l0_0 ((rd_T44 l0_0 a2).f0) ((rd_T44 l0_0 a2).f1) ((rd_T44 l0_0 a2).f2)) else (none)) else (none)) else (spec_l7Made.j0 k l1 l3 false l0_0 ((rd_T44 l0_0 a2).f0) ((rd_T44 l0_0 a2).f1) ((rd_T44 l0_0 a2).f2))) else (none)) else (none))) = some r := H
    have A14 := Aside0.mk A140
    clear A140
    by_cases c15 : t476 = 1
    ·rw [if_pos c15] at H
     have c15b0 : (t476 == 1) = true := beq_iff_eq.mpr c15
     have c15b1 : (t476 != 1) = false := bne_eq_false_iff_eq.mpr c15
     clear c15
     by_cases c16 : 0 ≤ ((rd_T44 l0_0 a2).f1)
     ·rw [if_pos c16] at H
      have c16b0 : decide (0 ≤ ((rd_T44 l0_0 a2).f1)) = true := decide_eq_true c16
      clear c16
      by_cases c17 : ((rd_T44 l0_0 a2).f1) < (l1.length : Int)
      ·rw [if_pos c17] at H
       have c17b0 : decide (((rd_T44 l0_0 a2).f1) < (l1.length : Int)) = true := decide_eq_true c17
       clear c17
       obtain rfl := Option.some.inj H
       go_enter Try.func113, Try.ntmps113
       go_wp2_with (first | ((with_reducible refine gate_dst (N := 4) rfl ?_); refine box_event ?hg (N := 4) ?hd (cs := #[.slice A0_0 l0_0.length c0_0]) (t := 30) ?hr ?_; (case hd => rfl); (case hg => rfl); (case hr => first | (go_simp; done) | (go_simp; rfl)); intro gb472 hg w18 hbox hb; have n0_ := Aside0.mk (below_step (zb HB.out) hb); have n1_ := Aside0.mk (hbox); have n2_ := Aside0.mk ((by rw [hg]; exact (below_size (zb HB.out)) : w.heap.size ≤ gb472)); have n3_ := Aside0.mk ((by rw [hg]; exact (below_size (zb HB.out)) : w.heap.size ≤ gb472)); clear HB; have HB := n0_; have BK472 := n1_; have GW472 := n2_; have GE472 := n3_; clear n0_ n1_ n2_ n3_; clear hb hbox hg; have hcz19_0 : w18.cell? ⟨gb472, 0, none⟩ = some (.slice A0_0 l0_0.length c0_0) := (blk_cell BK472.out 0).trans rfl; have hfz19_0 := blk_frozen BK472.out 0; have p473 : 0 ≤ (a2 : Int) := of_decide_eq_true (by first | (with_reducible assumption) | assumption); have q473 : a2 < (l0_0.length : Int) := of_decide_eq_true (by first | (with_reducible assumption) | assumption); obtain ⟨ad473, e473, hx473_0, hx473_1, hx473_2⟩ := at_T44 HR0_0.out a2 p473 q473; cases e473; replace hx473_0 := (HB.out.cell (World.block_lt_of_cell? w _ hx473_0)).trans hx473_0; replace hx473_1 := (HB.out.cell (World.block_lt_of_cell? w _ hx473_1)).trans hx473_1; replace hx473_2 := (HB.out.cell (World.block_lt_of_cell? w _ hx473_2)).trans hx473_2; replace p473 := eq_true p473; replace q473 := eq_true q473) | ((with_reducible refine gate_dst (N := 9) rfl ?_); refine box_event ?hg (N := 9) ?hd (cs := #[.int .i64 0, .int .i64 0, .int .i64 0]) (t := 44) ?hr ?_; (case hd => rfl); (case hg => rfl); (case hr => first | (go_simp; done) | (go_simp; rfl)); intro gb474 hg w20 hbox hb; have n0_ := Aside0.mk (blk_below (zh BK472.out) hb); have n1_ := Aside0.mk (below_step (zb HB.out) hb); have n2_ := Aside0.mk (hbox); have n3_ := Aside0.mk ((by rw [hg]; exact (below_size (zb HB.out)) : w.heap.size ≤ gb474)); have n4_ := Aside0.mk ((by rw [hg]; exact (below_size (zb HB.out)) : w.heap.size ≤ gb474)); have n5_ := Aside0.mk ((by rw [hg]; exact Nat.ne_of_lt (blk_lt (zh BK472.out)) : gb472 ≠ gb474)); have n6_ := Aside0.mk ((by rw [hg]; exact Nat.ne_of_gt (blk_lt (zh BK472.out)) : gb474 ≠ gb472)); clear BK472; clear HB; have BK472 := n0_; have HB := n1_; have BK474 := n2_; have GW474 := n3_; have GE474 := n4_; have NB472_474 := n5_; have NB474_472 := n6_; clear n0_ n1_ n2_ n3_ n4_ n5_ n6_; clear hb hbox hg; have hnb21 := NB474_472.out; have hnc21 := NB472_474.out; have hcz22_0 : w20.cell? ⟨gb474, 0, none⟩ = some (.int .i64 0) := (blk_cell BK474.out 0).trans rfl; have hcz22_1 : w20.cell? ⟨gb474, 1, none⟩ = some (.int .i64 0) := (blk_cell BK474.out 1).trans rfl; have hcz22_2 : w20.cell? ⟨gb474, 2, none⟩ = some (.int .i64 0) := (blk_cell BK474.out 2).trans rfl; have hfz22_0 := blk_frozen BK474.out 0; have hfz22_1 := blk_frozen BK474.out 1; have hfz22_2 := blk_frozen BK474.out 2) | ((with_reducible refine gate_callee (f := 82) rfl ?_); refine goesL_ (some 25) rfl rfl Try.func82 (by kernel_rfl) rfl #[.int .i64 ((rd_T44 l0_0 a2).f0)] rfl zl ?_; (with_reducible refine (spec_l1Parts.calls k ((rd_T44 l0_0 a2).f0) t476 _ A14.out).mono ?_); rintro e w' ⟨rfl, ⟨nd, rfl⟩⟩; refine ⟨_, rfl, ?_⟩; have p477 : 0 ≤ (((rd_T44 l0_0 a2).f1) : Int) := of_decide_eq_true (by first | (with_reducible assumption) | assumption); have q477 : ((rd_T44 l0_0 a2).f1) < (l1.length : Int) := of_decide_eq_true (by first | (with_reducible assumption) | assumption); obtain ⟨ad477, e477, hx477_0⟩ := Kd.at_bool HR1.out ((rd_T44 l0_0 a2).f1) p477 q477; cases e477; have hn477_0 : ad477.block ≠ gb474 := Nat.ne_of_lt (Nat.lt_of_lt_of_le (by have := World.block_lt_of_cell? _ _ hx477_0; first | rwa [add_block] at this | exact this) GW474.out); have hn477_1 : ad477.block ≠ gb474 := Nat.ne_of_lt (Nat.lt_of_lt_of_le (by have := World.block_lt_of_cell? _ _ hx477_0; first | rwa [add_block] at this | exact this) GW474.out); have hn477_2 : ad477.block ≠ gb474 := Nat.ne_of_lt (Nat.lt_of_lt_of_le (by have := World.block_lt_of_cell? _ _ hx477_0; first | rwa [add_block] at this | exact this) GW474.out); replace hx477_0 := (HB.out.cell (World.block_lt_of_cell? w _ hx477_0)).trans hx477_0; replace hx477_0 := (cell_far (p := ⟨gb474, 0, none⟩) (by first | (rw [add_block]; exact hn477_0) | (show (Addr.add _ _).block ≠ _; rw [add_block]; exact hn477_0) | exact hn477_0) (.int .i64 ((rd_T44 l0_0 a2).f0))).trans hx477_0; replace hx477_0 := (cell_far (p := ⟨gb474, 1, none⟩) (by first | (rw [add_block]; exact hn477_1) | (show (Addr.add _ _).block ≠ _; rw [add_block]; exact hn477_1) | exact hn477_1) (.int .i64 ((rd_T44 l0_0 a2).f1))).trans hx477_0; replace hx477_0 := (cell_far (p := ⟨gb474, 2, none⟩) (by first | (rw [add_block]; exact hn477_2) | (show (Addr.add _ _).block ≠ _; rw [add_block]; exact hn477_2) | exact hn477_2) (.int .i64 ((rd_T44 l0_0 a2).f2))).trans hx477_0; clear hn477_0; clear hn477_1; clear hn477_2; replace p477 := eq_true p477; replace q477 := eq_true q477))
       go_ret
       exact ⟨ze, zb HB.out⟩
      ·rw [if_neg c17] at H
       exact absurd H (by simp)
     ·rw [if_neg c16] at H
      exact absurd H (by simp)
    ·rw [if_neg c15] at H
     have c15b0 : (t476 == 1) = false := beq_eq_false_iff_ne.mpr c15
     have c15b1 : (t476 != 1) = true := bne_iff_ne.mpr c15
     have HC23 := Aside0.mk H
     clear H
     go_enter Try.func113, Try.ntmps113
     go_upto_region 6 with (first | ((with_reducible refine gate_dst (N := 4) rfl ?_); refine box_event ?hg (N := 4) ?hd (cs := #[.slice A0_0 l0_0.length c0_0]) (t := 30) ?hr ?_; (case hd => rfl); (case hg => rfl); (case hr => first | (go_simp; done) | (go_simp; rfl)); intro gb472 hg w24 hbox hb; have n0_ := Aside0.mk (below_step (zb HB.out) hb); have n1_ := Aside0.mk (hbox); have n2_ := Aside0.mk ((by rw [hg]; exact (below_size (zb HB.out)) : w.heap.size ≤ gb472)); have n3_ := Aside0.mk ((by rw [hg]; exact (below_size (zb HB.out)) : w.heap.size ≤ gb472)); clear HB; have HB := n0_; have BK472 := n1_; have GW472 := n2_; have GE472 := n3_; clear n0_ n1_ n2_ n3_; clear hb hbox hg; have hcz25_0 : w24.cell? ⟨gb472, 0, none⟩ = some (.slice A0_0 l0_0.length c0_0) := (blk_cell BK472.out 0).trans rfl; have hfz25_0 := blk_frozen BK472.out 0; have p473 : 0 ≤ (a2 : Int) := of_decide_eq_true (by first | (with_reducible assumption) | assumption); have q473 : a2 < (l0_0.length : Int) := of_decide_eq_true (by first | (with_reducible assumption) | assumption); obtain ⟨ad473, e473, hx473_0, hx473_1, hx473_2⟩ := at_T44 HR0_0.out a2 p473 q473; cases e473; replace hx473_0 := (HB.out.cell (World.block_lt_of_cell? w _ hx473_0)).trans hx473_0; replace hx473_1 := (HB.out.cell (World.block_lt_of_cell? w _ hx473_1)).trans hx473_1; replace hx473_2 := (HB.out.cell (World.block_lt_of_cell? w _ hx473_2)).trans hx473_2; replace p473 := eq_true p473; replace q473 := eq_true q473) | ((with_reducible refine gate_dst (N := 9) rfl ?_); refine box_event ?hg (N := 9) ?hd (cs := #[.int .i64 0, .int .i64 0, .int .i64 0]) (t := 44) ?hr ?_; (case hd => rfl); (case hg => rfl); (case hr => first | (go_simp; done) | (go_simp; rfl)); intro gb474 hg w26 hbox hb; have n0_ := Aside0.mk (blk_below (zh BK472.out) hb); have n1_ := Aside0.mk (below_step (zb HB.out) hb); have n2_ := Aside0.mk (hbox); have n3_ := Aside0.mk ((by rw [hg]; exact (below_size (zb HB.out)) : w.heap.size ≤ gb474)); have n4_ := Aside0.mk ((by rw [hg]; exact (below_size (zb HB.out)) : w.heap.size ≤ gb474)); have n5_ := Aside0.mk ((by rw [hg]; exact Nat.ne_of_lt (blk_lt (zh BK472.out)) : gb472 ≠ gb474)); have n6_ := Aside0.mk ((by rw [hg]; exact Nat.ne_of_gt (blk_lt (zh BK472.out)) : gb474 ≠ gb472)); clear BK472; clear HB; have BK472 := n0_; have HB := n1_; have BK474 := n2_; have GW474 := n3_; have GE474 := n4_; have NB472_474 := n5_; have NB474_472 := n6_; clear n0_ n1_ n2_ n3_ n4_ n5_ n6_; clear hb hbox hg; have hnb27 := NB474_472.out; have hnc27 := NB472_474.out; have hcz28_0 : w26.cell? ⟨gb474, 0, none⟩ = some (.int .i64 0) := (blk_cell BK474.out 0).trans rfl; have hcz28_1 : w26.cell? ⟨gb474, 1, none⟩ = some (.int .i64 0) := (blk_cell BK474.out 1).trans rfl; have hcz28_2 : w26.cell? ⟨gb474, 2, none⟩ = some (.int .i64 0) := (blk_cell BK474.out 2).trans rfl; have hfz28_0 := blk_frozen BK474.out 0; have hfz28_1 := blk_frozen BK474.out 1; have hfz28_2 := blk_frozen BK474.out 2) | ((with_reducible refine gate_callee (f := 82) rfl ?_); refine goesL_ (some 25) rfl rfl Try.func82 (by kernel_rfl) rfl #[.int .i64 ((rd_T44 l0_0 a2).f0)] rfl zl ?_; (with_reducible refine (spec_l1Parts.calls k ((rd_T44 l0_0 a2).f0) t476 _ A14.out).mono ?_); rintro e w' ⟨rfl, ⟨nd, rfl⟩⟩; refine ⟨_, rfl, ?_⟩))
     (try simp only [Act.put, List.setIfInBounds_toArray, List.set_cons_zero, List.set_cons_succ])
     go_cut [32] (fun v32 wc => ∃ (kq : Nat) (x32_22 : Bool), v32 = .bool x32_22 ∧ Aside0 (spec_l7Made.j0 kq l1 l3 x32_22 l0_0 ((rd_T44 l0_0 a2).f0) ((rd_T44 l0_0 a2).f1) ((rd_T44 l0_0 a2).f2) = some r) ∧ Aside0 (kq ≤ k) ∧ Aside0 (wc.heap[gb472]? = some (.cells #[(.slice (some ad473) l0_0.length c0_0)] 30 (0, 0))) ∧ Aside0 (wc.heap[gb474]? = some (.cells #[.int .i64 ((rd_T44 l0_0 a2).f0), .int .i64 ((rd_T44 l0_0 a2).f1), .int .i64 ((rd_T44 l0_0 a2).f2)] 44 (0, 0))) ∧ Aside0 (Below w.heap.size w wc))
     case first =>
      have H := HC23.out
      clear HC23
      by_cases c29 : 0 ≤ ((rd_T44 l0_0 a2).f1)
      ·rw [if_pos c29] at H
       have c29b0 : decide (0 ≤ ((rd_T44 l0_0 a2).f1)) = true := decide_eq_true c29
       clear c29
       (first | rw [c29b0] | (simp only [i64_w, i32_w]; rw [c29b0]) | skip)
       by_cases c30 : ((rd_T44 l0_0 a2).f1) < (l1.length : Int)
       ·rw [if_pos c30] at H
        have c30b0 : decide (((rd_T44 l0_0 a2).f1) < (l1.length : Int)) = true := decide_eq_true c30
        clear c30
        obtain ⟨bq31, hbq31⟩ : ∃ b_ : Bool, b_ = (rdOf false l1 ((rd_T44 l0_0 a2).f1)) := ⟨_, rfl⟩
        replace H : (if bq31 = true then (if 0 ≤ ((rd_T44 l0_0 a2).f2) then (if ((rd_T44 l0_0 a2).f2) < (l1.length : Int) then (spec_l7Made.j0 k l1 l3 (rdOf false l1 ((rd_T44 l0_0 a2).f2)) l0_0 ((rd_T44 l0_0 a2).f0) ((rd_T44 l0_0 a2).f1) ((rd_T44 l0_0 a2).f2)) else (none)) else (none)) else (spec_l7Made.j0 k l1 l3 false l0_0 ((rd_T44 l0_0 a2).f0) ((rd_T44 l0_0 a2).f1) ((rd_T44 l0_0 a2).f2))) = some r := by rw [← hbq31] at H; exact H
        have Nbq31 := Aside0.mk hbq31
        clear hbq31
        by_cases c32 : bq31 = true
        ·subst c32
         have H1 : (if 0 ≤ ((rd_T44 l0_0 a2).f2) then (if ((rd_T44 l0_0 a2).f2) < (l1.length : Int) then (spec_l7Made.j0 k l1 l3 (rdOf false l1 ((rd_T44 l0_0 a2).f2)) l0_0 ((rd_T44 l0_0 a2).f0) ((rd_T44 l0_0 a2).f1) ((rd_T44 l0_0 a2).f2)) else (none)) else (none)) = some r := by rw [if_pos rfl] at H; exact H
         clear H
         have H := H1
         clear H1
         by_cases c33 : 0 ≤ ((rd_T44 l0_0 a2).f2)
         ·rw [if_pos c33] at H
          have c33b0 : decide (0 ≤ ((rd_T44 l0_0 a2).f2)) = true := decide_eq_true c33
          clear c33
          by_cases c34 : ((rd_T44 l0_0 a2).f2) < (l1.length : Int)
          ·rw [if_pos c34] at H
           have c34b0 : decide (((rd_T44 l0_0 a2).f2) < (l1.length : Int)) = true := decide_eq_true c34
           clear c34
           have H' := Aside0.mk H
           clear H
           have hnb35 := NB474_472.out
           have hnc35 := NB472_474.out
           have hcz36_0 : w26.cell? ⟨gb474, 0, none⟩ = some (.int .i64 0) := (blk_cell BK474.out 0).trans rfl
           have hcz36_1 : w26.cell? ⟨gb474, 1, none⟩ = some (.int .i64 0) := (blk_cell BK474.out 1).trans rfl
           have hcz36_2 : w26.cell? ⟨gb474, 2, none⟩ = some (.int .i64 0) := (blk_cell BK474.out 2).trans rfl
           have hfz36_0 := blk_frozen BK474.out 0
           have hfz36_1 := blk_frozen BK474.out 1
           have hfz36_2 := blk_frozen BK474.out 2
           have p478 : 0 ≤ (((rd_T44 l0_0 a2).f1) : Int) := of_decide_eq_true (by first | (with_reducible assumption) | assumption)
           have q478 : ((rd_T44 l0_0 a2).f1) < (l1.length : Int) := of_decide_eq_true (by first | (with_reducible assumption) | assumption)
           obtain ⟨ad478, e478, hx478_0⟩ := Kd.at_bool HR1.out ((rd_T44 l0_0 a2).f1) p478 q478
           (try rw [← Nbq31.out] at hx478_0)
           cases e478
           have hn478_0 : ad478.block ≠ gb474 := Nat.ne_of_lt (Nat.lt_of_lt_of_le (by have := World.block_lt_of_cell? _ _ hx478_0; first | rwa [add_block] at this | exact this) GW474.out)
           have hn478_1 : ad478.block ≠ gb474 := Nat.ne_of_lt (Nat.lt_of_lt_of_le (by have := World.block_lt_of_cell? _ _ hx478_0; first | rwa [add_block] at this | exact this) GW474.out)
           have hn478_2 : ad478.block ≠ gb474 := Nat.ne_of_lt (Nat.lt_of_lt_of_le (by have := World.block_lt_of_cell? _ _ hx478_0; first | rwa [add_block] at this | exact this) GW474.out)
           replace hx478_0 := (HB.out.cell (World.block_lt_of_cell? w _ hx478_0)).trans hx478_0
           replace hx478_0 := (cell_far (p := ⟨gb474, 0, none⟩) (by first | (rw [add_block]; exact hn478_0) | (show (Addr.add _ _).block ≠ _; rw [add_block]; exact hn478_0) | exact hn478_0) (.int .i64 ((rd_T44 l0_0 a2).f0))).trans hx478_0
           replace hx478_0 := (cell_far (p := ⟨gb474, 1, none⟩) (by first | (rw [add_block]; exact hn478_1) | (show (Addr.add _ _).block ≠ _; rw [add_block]; exact hn478_1) | exact hn478_1) (.int .i64 ((rd_T44 l0_0 a2).f1))).trans hx478_0
           replace hx478_0 := (cell_far (p := ⟨gb474, 2, none⟩) (by first | (rw [add_block]; exact hn478_2) | (show (Addr.add _ _).block ≠ _; rw [add_block]; exact hn478_2) | exact hn478_2) (.int .i64 ((rd_T44 l0_0 a2).f2))).trans hx478_0
           clear hn478_0
           clear hn478_1
           clear hn478_2
           replace p478 := eq_true p478
           replace q478 := eq_true q478
           have p479 : 0 ≤ (((rd_T44 l0_0 a2).f2) : Int) := of_decide_eq_true (by first | (with_reducible assumption) | assumption)
           have q479 : ((rd_T44 l0_0 a2).f2) < (l1.length : Int) := of_decide_eq_true (by first | (with_reducible assumption) | assumption)
           obtain ⟨ad479, e479, hx479_0⟩ := Kd.at_bool HR1.out ((rd_T44 l0_0 a2).f2) p479 q479
           (try rw [← Nbq31.out] at hx479_0)
           obtain rfl : ad478 = ad479 := (by injection e479)
           have hn479_0 : ad478.block ≠ gb474 := Nat.ne_of_lt (Nat.lt_of_lt_of_le (by have := World.block_lt_of_cell? _ _ hx479_0; first | rwa [add_block] at this | exact this) GW474.out)
           have hn479_1 : ad478.block ≠ gb474 := Nat.ne_of_lt (Nat.lt_of_lt_of_le (by have := World.block_lt_of_cell? _ _ hx479_0; first | rwa [add_block] at this | exact this) GW474.out)
           have hn479_2 : ad478.block ≠ gb474 := Nat.ne_of_lt (Nat.lt_of_lt_of_le (by have := World.block_lt_of_cell? _ _ hx479_0; first | rwa [add_block] at this | exact this) GW474.out)
           replace hx479_0 := (HB.out.cell (World.block_lt_of_cell? w _ hx479_0)).trans hx479_0
           replace hx479_0 := (cell_far (p := ⟨gb474, 0, none⟩) (by first | (rw [add_block]; exact hn479_0) | (show (Addr.add _ _).block ≠ _; rw [add_block]; exact hn479_0) | exact hn479_0) (.int .i64 ((rd_T44 l0_0 a2).f0))).trans hx479_0
           replace hx479_0 := (cell_far (p := ⟨gb474, 1, none⟩) (by first | (rw [add_block]; exact hn479_1) | (show (Addr.add _ _).block ≠ _; rw [add_block]; exact hn479_1) | exact hn479_1) (.int .i64 ((rd_T44 l0_0 a2).f1))).trans hx479_0
           replace hx479_0 := (cell_far (p := ⟨gb474, 2, none⟩) (by first | (rw [add_block]; exact hn479_2) | (show (Addr.add _ _).block ≠ _; rw [add_block]; exact hn479_2) | exact hn479_2) (.int .i64 ((rd_T44 l0_0 a2).f2))).trans hx479_0
           clear hn479_0
           clear hn479_1
           clear hn479_2
           replace p479 := eq_true p479
           replace q479 := eq_true q479
           go_wp2
           go_meet
           case rel => exact ⟨_, (rdOf false l1 ((rd_T44 l0_0 a2).f2)), (by first | rfl | (simp; done) | (simp [*]; done)), H', ⟨by first | omega | exact Nat.le_refl _⟩, ⟨zf BK472.out⟩, ⟨by (with_reducible repeat (first | refine blk_drewN ?_ _ | refine blk_drew ?_ | refine blk_alloc ?_ _)); refine blk_put (cs := #[.int .i64 ((rd_T44 l0_0 a2).f0), .int .i64 ((rd_T44 l0_0 a2).f1), .int .i64 0]) ?_ 2 _ rfl; (with_reducible repeat (first | refine blk_drewN ?_ _ | refine blk_drew ?_ | refine blk_alloc ?_ _)); refine blk_put (cs := #[.int .i64 ((rd_T44 l0_0 a2).f0), .int .i64 0, .int .i64 0]) ?_ 1 _ rfl; (with_reducible repeat (first | refine blk_drewN ?_ _ | refine blk_drew ?_ | refine blk_alloc ?_ _)); refine blk_put (cs := #[.int .i64 0, .int .i64 0, .int .i64 0]) ?_ 0 _ rfl; (with_reducible repeat (first | refine blk_drewN ?_ _ | refine blk_drew ?_ | refine blk_alloc ?_ _)); exact BK474.out⟩, ⟨zb HB.out⟩⟩
          ·rw [if_neg c34] at H
           exact absurd H (by simp)
         ·rw [if_neg c33] at H
          exact absurd H (by simp)
        ·replace c32 := Bool.eq_false_iff.mpr c32
         subst c32
         have H1 : (spec_l7Made.j0 k l1 l3 false l0_0 ((rd_T44 l0_0 a2).f0) ((rd_T44 l0_0 a2).f1) ((rd_T44 l0_0 a2).f2)) = some r := by rw [if_neg (show ¬ (false = true) by decide)] at H; exact H
         clear H
         have H := H1
         clear H1
         have H' := Aside0.mk H
         clear H
         have hnb37 := NB474_472.out
         have hnc37 := NB472_474.out
         have hcz38_0 : w26.cell? ⟨gb474, 0, none⟩ = some (.int .i64 0) := (blk_cell BK474.out 0).trans rfl
         have hcz38_1 : w26.cell? ⟨gb474, 1, none⟩ = some (.int .i64 0) := (blk_cell BK474.out 1).trans rfl
         have hcz38_2 : w26.cell? ⟨gb474, 2, none⟩ = some (.int .i64 0) := (blk_cell BK474.out 2).trans rfl
         have hfz38_0 := blk_frozen BK474.out 0
         have hfz38_1 := blk_frozen BK474.out 1
         have hfz38_2 := blk_frozen BK474.out 2
         have p478 : 0 ≤ (((rd_T44 l0_0 a2).f1) : Int) := of_decide_eq_true (by first | (with_reducible assumption) | assumption)
         have q478 : ((rd_T44 l0_0 a2).f1) < (l1.length : Int) := of_decide_eq_true (by first | (with_reducible assumption) | assumption)
         obtain ⟨ad478, e478, hx478_0⟩ := Kd.at_bool HR1.out ((rd_T44 l0_0 a2).f1) p478 q478
         (try rw [← Nbq31.out] at hx478_0)
         cases e478
         have hn478_0 : ad478.block ≠ gb474 := Nat.ne_of_lt (Nat.lt_of_lt_of_le (by have := World.block_lt_of_cell? _ _ hx478_0; first | rwa [add_block] at this | exact this) GW474.out)
         have hn478_1 : ad478.block ≠ gb474 := Nat.ne_of_lt (Nat.lt_of_lt_of_le (by have := World.block_lt_of_cell? _ _ hx478_0; first | rwa [add_block] at this | exact this) GW474.out)
         have hn478_2 : ad478.block ≠ gb474 := Nat.ne_of_lt (Nat.lt_of_lt_of_le (by have := World.block_lt_of_cell? _ _ hx478_0; first | rwa [add_block] at this | exact this) GW474.out)
         replace hx478_0 := (HB.out.cell (World.block_lt_of_cell? w _ hx478_0)).trans hx478_0
         replace hx478_0 := (cell_far (p := ⟨gb474, 0, none⟩) (by first | (rw [add_block]; exact hn478_0) | (show (Addr.add _ _).block ≠ _; rw [add_block]; exact hn478_0) | exact hn478_0) (.int .i64 ((rd_T44 l0_0 a2).f0))).trans hx478_0
         replace hx478_0 := (cell_far (p := ⟨gb474, 1, none⟩) (by first | (rw [add_block]; exact hn478_1) | (show (Addr.add _ _).block ≠ _; rw [add_block]; exact hn478_1) | exact hn478_1) (.int .i64 ((rd_T44 l0_0 a2).f1))).trans hx478_0
         replace hx478_0 := (cell_far (p := ⟨gb474, 2, none⟩) (by first | (rw [add_block]; exact hn478_2) | (show (Addr.add _ _).block ≠ _; rw [add_block]; exact hn478_2) | exact hn478_2) (.int .i64 ((rd_T44 l0_0 a2).f2))).trans hx478_0
         clear hn478_0
         clear hn478_1
         clear hn478_2
         replace p478 := eq_true p478
         replace q478 := eq_true q478
         go_wp2
         go_meet
         case rel => exact ⟨_, (false), (by first | rfl | (simp; done) | (simp [*]; done)), H', ⟨by first | omega | exact Nat.le_refl _⟩, ⟨zf BK472.out⟩, ⟨by (with_reducible repeat (first | refine blk_drewN ?_ _ | refine blk_drew ?_ | refine blk_alloc ?_ _)); refine blk_put (cs := #[.int .i64 ((rd_T44 l0_0 a2).f0), .int .i64 ((rd_T44 l0_0 a2).f1), .int .i64 0]) ?_ 2 _ rfl; (with_reducible repeat (first | refine blk_drewN ?_ _ | refine blk_drew ?_ | refine blk_alloc ?_ _)); refine blk_put (cs := #[.int .i64 ((rd_T44 l0_0 a2).f0), .int .i64 0, .int .i64 0]) ?_ 1 _ rfl; (with_reducible repeat (first | refine blk_drewN ?_ _ | refine blk_drew ?_ | refine blk_alloc ?_ _)); refine blk_put (cs := #[.int .i64 0, .int .i64 0, .int .i64 0]) ?_ 0 _ rfl; (with_reducible repeat (first | refine blk_drewN ?_ _ | refine blk_drew ?_ | refine blk_alloc ?_ _)); exact BK474.out⟩, ⟨zb HB.out⟩⟩
       ·rw [if_neg c30] at H
        exact absurd H (by simp)
      ·rw [if_neg c29] at H
       exact absurd H (by simp)
     case rest =>
      clear HC23
      try clear c1
      try clear c2
      try clear p2
      try clear c3
      try clear q3
      try clear p4
      try clear q4
      try clear hx4
      try clear c5
      try clear c5b0
      try clear c6
      try clear c6b0
      try clear c7
      try clear c7b0
      try clear c7b1
      try clear c8
      try clear c11
      try clear c12
      try clear c15
      try clear c15b0
      try clear c15b1
      try clear c16
      try clear c16b0
      try clear c17
      try clear c17b0
      try clear c21
      try clear c27
      try clear c29
      try clear c29b0
      try clear c30
      try clear c30b0
      try clear q31
      try clear c32
      try clear c33
      try clear c33b0
      try clear c34
      try clear c34b0
      try clear c35
      try clear c37
      try clear hcz10_0
      try clear hcz13_0
      try clear hcz13_1
      try clear hcz13_2
      try clear hcz19_0
      try clear hcz22_0
      try clear hcz22_1
      try clear hcz22_2
      try clear hcz25_0
      try clear hcz28_0
      try clear hcz28_1
      try clear hcz28_2
      try clear hcz36_0
      try clear hcz36_1
      try clear hcz36_2
      try clear hcz38_0
      try clear hcz38_1
      try clear hcz38_2
      try clear hfz10_0
      try clear hfz13_0
      try clear hfz13_1
      try clear hfz13_2
      try clear hfz19_0
      try clear hfz22_0
      try clear hfz22_1
      try clear hfz22_2
      try clear hfz25_0
      try clear hfz28_0
      try clear hfz28_1
      try clear hfz28_2
      try clear hfz36_0
      try clear hfz36_1
      try clear hfz36_2
      try clear hfz38_0
      try clear hfz38_1
      try clear hfz38_2
      try clear hx473_0
      try clear hx473_1
      try clear hx473_2
      try clear hx477_0
      try clear hx478_0
      try clear hx479_0
      try clear p473
      try clear p477
      try clear p478
      try clear p479
      try clear q473
      try clear q477
      try clear q478
      try clear q479
      obtain ⟨kq, x32_22, rfl, HA, HJ22, BK472, BK474, HB⟩ := hcut
      cases kq with
      | zero => exact absurd HA.out (by simp [spec_l7Made.j0])
      | succ kj22 =>
       have H := HA.out
       clear HA
       simp only [spec_l7Made.j0] at H
       by_cases c39 : x32_22 = true
       ·subst c39
        have H1 : (some true) = some r := by rw [if_pos rfl] at H; exact H
        clear H
        have H := H1
        clear H1
        obtain rfl := Option.some.inj H
        go_wp2
        go_ret
        exact ⟨ze, zb HB.out⟩
       ·replace c39 := Bool.eq_false_iff.mpr c39
        subst c39
        have H1 : (if ((rd_T44 l0_0 a2).f0) = 8 then (if 0 ≤ ((rd_T44 l0_0 a2).f1) then (if ((rd_T44 l0_0 a2).f1) < (l1.length : Int) then (if rdOf false l1 ((rd_T44 l0_0 a2).f1) = true then ((spec_l7Power.f kj22 l0_0 l1 l3 ((rd_T44 l0_0 a2).f2)).bind fun t481 => (if t481 = true then (some true) else (if 0 ≤ ((rd_T44 l0_0 a2).f2) then (if ((rd_T44 l0_0 a2).f2) < (l1.length : Int) then (if rdOf false l1 ((rd_T44 l0_0 a2).f2) = true then ((spec_l7Power.f kj22 l0_0 l1 l3 ((rd_T44 l0_0 a2).f1)).bind fun t483 => (some t483)) else (some false)) else (none)) else (none)))) else (if 0 ≤ ((rd_T44 l0_0 a2).f2) then (if ((rd_T44 l0_0 a2).f2) < (l1.length : Int) then (if rdOf false l1 ((rd_T44 l0_0 a2).f2) = true then ((spec_l7Power.f kj22 l0_0 l1 l3 ((rd_T44 l0_0 a2).f1)).bind fun t485 => (some t485)) else (some false)) else (none)) else (none))) else (none)) else (none)) else (some false)) = some r := by rw [if_neg (show ¬ (false = true) by decide)] at H; exact H
        clear H
        have H := H1
        clear H1
        by_cases c40 : ((rd_T44 l0_0 a2).f0) = 8
        ·rw [if_pos c40] at H
         have c40b0 : (((rd_T44 l0_0 a2).f0) == 8) = true := beq_iff_eq.mpr c40
         have c40b1 : (((rd_T44 l0_0 a2).f0) != 8) = false := bne_eq_false_iff_eq.mpr c40
         clear c40
         by_cases c41 : 0 ≤ ((rd_T44 l0_0 a2).f1)
         ·rw [if_pos c41] at H
          have c41b0 : decide (0 ≤ ((rd_T44 l0_0 a2).f1)) = true := decide_eq_true c41
          clear c41
          by_cases c42 : ((rd_T44 l0_0 a2).f1) < (l1.length : Int)
          ·rw [if_pos c42] at H
           have c42b0 : decide (((rd_T44 l0_0 a2).f1) < (l1.length : Int)) = true := decide_eq_true c42
           clear c42
           obtain ⟨bq43, hbq43⟩ : ∃ b_ : Bool, b_ = (rdOf false l1 ((rd_T44 l0_0 a2).f1)) := ⟨_, rfl⟩
           replace H : (if bq43 = true then ((spec_l7Power.f kj22 l0_0 l1 l3 ((rd_T44 l0_0 a2).f2)).bind fun t481 => (if t481 = true then (some true) else (if 0 ≤ ((rd_T44 l0_0 a2).f2) then (if ((rd_T44 l0_0 a2).f2) < (l1.length : Int) then (if rdOf false l1 ((rd_T44 l0_0 a2).f2) = true then ((spec_l7Power.f kj22 l0_0 l1 l3 ((rd_T44 l0_0 a2).f1)).bind fun t483 => (some t483)) else (some false)) else (none)) else (none)))) else (if 0 ≤ ((rd_T44 l0_0 a2).f2) then (if ((rd_T44 l0_0 a2).f2) < (l1.length : Int) then (if rdOf false l1 ((rd_T44 l0_0 a2).f2) = true then ((spec_l7Power.f kj22 l0_0 l1 l3 ((rd_T44 l0_0 a2).f1)).bind fun t485 => (some t485)) else (some false)) else (none)) else (none))) = some r := by rw [← hbq43] at H; exact H
           have Nbq43 := Aside0.mk hbq43
           clear hbq43
           by_cases c44 : bq43 = true
           ·subst c44
            have H1 : ((spec_l7Power.f kj22 l0_0 l1 l3 ((rd_T44 l0_0 a2).f2)).bind fun t481 => (if t481 = true then (some true) else (if 0 ≤ ((rd_T44 l0_0 a2).f2) then (if ((rd_T44 l0_0 a2).f2) < (l1.length : Int) then (if rdOf false l1 ((rd_T44 l0_0 a2).f2) = true then ((spec_l7Power.f kj22 l0_0 l1 l3 ((rd_T44 l0_0 a2).f1)).bind fun t483 => (some t483)) else (some false)) else (none)) else (none)))) = some r := by rw [if_pos rfl] at H; exact H
            clear H
            have H := H1
            clear H1
            replace H := Option.bind_eq_some_iff.mp H
            obtain ⟨t481, A450, H⟩ := H
            replace H : (if t481 = true then (some true) else (if 0 ≤ ((rd_T44 l0_0 a2).f2) then (if ((rd_T44 l0_0 a2).f2) < (l1.length : Int) then (if rdOf false l1 ((rd_T44 l0_0 a2).f2) = true then ((spec_l7Power.f kj22 l0_0 l1 l3 ((rd_T44 l0_0 a2).f1)).bind fun t483 => (some t483)) else (some false)) else (none)) else (none))) = some r := H
            have A45 := Aside0.mk A450
            clear A450
            by_cases c46 : t481 = true
            ·subst c46
             have H1 : (some true) = some r := by rw [if_pos rfl] at H; exact H
             clear H
             have H := H1
             clear H1
             obtain rfl := Option.some.inj H
             have hnb47 := NB474_472.out
             have hnc47 := NB472_474.out
             have hcz48_0 : wc.cell? ⟨gb474, 0, none⟩ = some (.int .i64 ((rd_T44 l0_0 a2).f0)) := (blk_cell BK474.out 0).trans rfl
             have hcz48_1 : wc.cell? ⟨gb474, 1, none⟩ = some (.int .i64 ((rd_T44 l0_0 a2).f1)) := (blk_cell BK474.out 1).trans rfl
             have hcz48_2 : wc.cell? ⟨gb474, 2, none⟩ = some (.int .i64 ((rd_T44 l0_0 a2).f2)) := (blk_cell BK474.out 2).trans rfl
             have hfz48_0 := blk_frozen BK474.out 0
             have hfz48_1 := blk_frozen BK474.out 1
             have hfz48_2 := blk_frozen BK474.out 2
             have p480 : 0 ≤ (((rd_T44 l0_0 a2).f1) : Int) := of_decide_eq_true (by first | (with_reducible assumption) | assumption)
             have q480 : ((rd_T44 l0_0 a2).f1) < (l1.length : Int) := of_decide_eq_true (by first | (with_reducible assumption) | assumption)
             obtain ⟨ad480, e480, hx480_0⟩ := Kd.at_bool HR1.out ((rd_T44 l0_0 a2).f1) p480 q480
             (try rw [← Nbq43.out] at hx480_0)
             cases e480
             replace hx480_0 := (HB.out.cell (World.block_lt_of_cell? w _ hx480_0)).trans hx480_0
             replace p480 := eq_true p480
             replace q480 := eq_true q480
             have hcz49_0 : wc.cell? ⟨gb472, 0, none⟩ = some (.slice (some ad473) l0_0.length c0_0) := (blk_cell BK472.out 0).trans rfl
             have hfz49_0 := blk_frozen BK472.out 0
             go_wp2_with (first | (go_at_call 124; (with_reducible refine (spec_l7Power.calls kj22 _ _ l0_0 _ _ l1 _ _ l3 ((rd_T44 l0_0 a2).f2) true _ ?side1 ?side2 ?side3 ?side4 ?side5 ?side6 A45.out).mono ?_); (case side1 => exact zc (Kd.C_below HR0_0.out HB.out)); (case side2 => exact HC0_0.out); (case side3 => exact zc (Kd.C_below HR1.out HB.out)); (case side4 => exact HC1.out); (case side5 => exact zc (Kd.C_below HR3.out HB.out)); (case side6 => exact HC3.out); rintro e w50 ⟨rfl, hb⟩; have n0_ := Aside0.mk (blk_below (zh BK472.out) hb); have n1_ := Aside0.mk (blk_below (zh BK474.out) hb); have n2_ := Aside0.mk (below_step (zb HB.out) hb); clear BK472; clear BK474; clear HB; have BK472 := n0_; have BK474 := n1_; have HB := n2_; clear n0_ n1_ n2_; (try clear hb); (try clear hb2); (try clear hk); (try clear hi)))
             go_ret
             exact ⟨ze, zb HB.out⟩
            ·replace c46 := Bool.eq_false_iff.mpr c46
             subst c46
             have H1 : (if 0 ≤ ((rd_T44 l0_0 a2).f2) then (if ((rd_T44 l0_0 a2).f2) < (l1.length : Int) then (if rdOf false l1 ((rd_T44 l0_0 a2).f2) = true then ((spec_l7Power.f kj22 l0_0 l1 l3 ((rd_T44 l0_0 a2).f1)).bind fun t483 => (some t483)) else (some false)) else (none)) else (none)) = some r := by rw [if_neg (show ¬ (false = true) by decide)] at H; exact H
             clear H
             have H := H1
             clear H1
             by_cases c51 : 0 ≤ ((rd_T44 l0_0 a2).f2)
             ·rw [if_pos c51] at H
              have c51b0 : decide (0 ≤ ((rd_T44 l0_0 a2).f2)) = true := decide_eq_true c51
              clear c51
              by_cases c52 : ((rd_T44 l0_0 a2).f2) < (l1.length : Int)
              ·rw [if_pos c52] at H
               have c52b0 : decide (((rd_T44 l0_0 a2).f2) < (l1.length : Int)) = true := decide_eq_true c52
               clear c52
               obtain ⟨bq53, hbq53⟩ : ∃ b_ : Bool, b_ = (rdOf false l1 ((rd_T44 l0_0 a2).f2)) := ⟨_, rfl⟩
               replace H : (if bq53 = true then ((spec_l7Power.f kj22 l0_0 l1 l3 ((rd_T44 l0_0 a2).f1)).bind fun t483 => (some t483)) else (some false)) = some r := by rw [← hbq53] at H; exact H
               have Nbq53 := Aside0.mk hbq53
               clear hbq53
               by_cases c54 : bq53 = true
               ·subst c54
                have H1 : ((spec_l7Power.f kj22 l0_0 l1 l3 ((rd_T44 l0_0 a2).f1)).bind fun t483 => (some t483)) = some r := by rw [if_pos rfl] at H; exact H
                clear H
                have H := H1
                clear H1
                replace H := Option.bind_eq_some_iff.mp H
                obtain ⟨t483, A550, H⟩ := H
                replace H : (some t483) = some r := H
                have A55 := Aside0.mk A550
                clear A550
                obtain rfl := Option.some.inj H
                have hnb56 := NB474_472.out
                have hnc56 := NB472_474.out
                have hcz57_0 : wc.cell? ⟨gb474, 0, none⟩ = some (.int .i64 ((rd_T44 l0_0 a2).f0)) := (blk_cell BK474.out 0).trans rfl
                have hcz57_1 : wc.cell? ⟨gb474, 1, none⟩ = some (.int .i64 ((rd_T44 l0_0 a2).f1)) := (blk_cell BK474.out 1).trans rfl
                have hcz57_2 : wc.cell? ⟨gb474, 2, none⟩ = some (.int .i64 ((rd_T44 l0_0 a2).f2)) := (blk_cell BK474.out 2).trans rfl
                have hfz57_0 := blk_frozen BK474.out 0
                have hfz57_1 := blk_frozen BK474.out 1
                have hfz57_2 := blk_frozen BK474.out 2
                have p480 : 0 ≤ (((rd_T44 l0_0 a2).f1) : Int) := of_decide_eq_true (by first | (with_reducible assumption) | assumption)
                have q480 : ((rd_T44 l0_0 a2).f1) < (l1.length : Int) := of_decide_eq_true (by first | (with_reducible assumption) | assumption)
                obtain ⟨ad480, e480, hx480_0⟩ := Kd.at_bool HR1.out ((rd_T44 l0_0 a2).f1) p480 q480
                (try rw [← Nbq43.out] at hx480_0)
                (try rw [← Nbq53.out] at hx480_0)
                cases e480
                replace hx480_0 := (HB.out.cell (World.block_lt_of_cell? w _ hx480_0)).trans hx480_0
                replace p480 := eq_true p480
                replace q480 := eq_true q480
                have hcz58_0 : wc.cell? ⟨gb472, 0, none⟩ = some (.slice (some ad473) l0_0.length c0_0) := (blk_cell BK472.out 0).trans rfl
                have hfz58_0 := blk_frozen BK472.out 0
                go_wp2_with (first | (go_at_call 124; (with_reducible refine (spec_l7Power.calls kj22 _ _ l0_0 _ _ l1 _ _ l3 ((rd_T44 l0_0 a2).f2) false _ ?side1 ?side2 ?side3 ?side4 ?side5 ?side6 A45.out).mono ?_); (case side1 => exact zc (Kd.C_below HR0_0.out HB.out)); (case side2 => exact HC0_0.out); (case side3 => exact zc (Kd.C_below HR1.out HB.out)); (case side4 => exact HC1.out); (case side5 => exact zc (Kd.C_below HR3.out HB.out)); (case side6 => exact HC3.out); rintro e w59 ⟨rfl, hb⟩; have n0_ := Aside0.mk (blk_below (zh BK472.out) hb); have n1_ := Aside0.mk (blk_below (zh BK474.out) hb); have n2_ := Aside0.mk (below_step (zb HB.out) hb); clear BK472; clear BK474; clear HB; have BK472 := n0_; have BK474 := n1_; have HB := n2_; clear n0_ n1_ n2_; (try clear hb); (try clear hb2); (try clear hk); (try clear hi); have hcz60_0 : w59.cell? ⟨gb474, 0, none⟩ = some (.int .i64 ((rd_T44 l0_0 a2).f0)) := (blk_cell BK474.out 0).trans rfl; have hcz60_1 : w59.cell? ⟨gb474, 1, none⟩ = some (.int .i64 ((rd_T44 l0_0 a2).f1)) := (blk_cell BK474.out 1).trans rfl; have hcz60_2 : w59.cell? ⟨gb474, 2, none⟩ = some (.int .i64 ((rd_T44 l0_0 a2).f2)) := (blk_cell BK474.out 2).trans rfl; have hfz60_0 := blk_frozen BK474.out 0; have hfz60_1 := blk_frozen BK474.out 1; have hfz60_2 := blk_frozen BK474.out 2; have p482 : 0 ≤ (((rd_T44 l0_0 a2).f2) : Int) := of_decide_eq_true (by first | (with_reducible assumption) | assumption); have q482 : ((rd_T44 l0_0 a2).f2) < (l1.length : Int) := of_decide_eq_true (by first | (with_reducible assumption) | assumption); obtain ⟨ad482, e482, hx482_0⟩ := Kd.at_bool HR1.out ((rd_T44 l0_0 a2).f2) p482 q482; (try rw [← Nbq43.out] at hx482_0); (try rw [← Nbq53.out] at hx482_0); obtain rfl : ad480 = ad482 := (by injection e482); replace hx482_0 := (HB.out.cell (World.block_lt_of_cell? w _ hx482_0)).trans hx482_0; replace p482 := eq_true p482; replace q482 := eq_true q482; have hcz61_0 : w59.cell? ⟨gb472, 0, none⟩ = some (.slice (some ad473) l0_0.length c0_0) := (blk_cell BK472.out 0).trans rfl; have hfz61_0 := blk_frozen BK472.out 0) | (go_at_call 124; (with_reducible refine (spec_l7Power.calls kj22 _ _ l0_0 _ _ l1 _ _ l3 ((rd_T44 l0_0 a2).f1) t483 _ ?side1 ?side2 ?side3 ?side4 ?side5 ?side6 A55.out).mono ?_); (case side1 => exact zc (Kd.C_below HR0_0.out HB.out)); (case side2 => exact HC0_0.out); (case side3 => exact zc (Kd.C_below HR1.out HB.out)); (case side4 => exact HC1.out); (case side5 => exact zc (Kd.C_below HR3.out HB.out)); (case side6 => exact HC3.out); rintro e w62 ⟨rfl, hb⟩; have n0_ := Aside0.mk (blk_below (zh BK472.out) hb); have n1_ := Aside0.mk (blk_below (zh BK474.out) hb); have n2_ := Aside0.mk (below_step (zb HB.out) hb); clear BK472; clear BK474; clear HB; have BK472 := n0_; have BK474 := n1_; have HB := n2_; clear n0_ n1_ n2_; (try clear hb); (try clear hb2); (try clear hk); (try clear hi)))
                go_ret
                exact ⟨ze, zb HB.out⟩
               ·replace c54 := Bool.eq_false_iff.mpr c54
                subst c54
                have H1 : (some false) = some r := by rw [if_neg (show ¬ (false = true) by decide)] at H; exact H
                clear H
                have H := H1
                clear H1
                obtain rfl := Option.some.inj H
                have hnb63 := NB474_472.out
                have hnc63 := NB472_474.out
                have hcz64_0 : wc.cell? ⟨gb474, 0, none⟩ = some (.int .i64 ((rd_T44 l0_0 a2).f0)) := (blk_cell BK474.out 0).trans rfl
                have hcz64_1 : wc.cell? ⟨gb474, 1, none⟩ = some (.int .i64 ((rd_T44 l0_0 a2).f1)) := (blk_cell BK474.out 1).trans rfl
                have hcz64_2 : wc.cell? ⟨gb474, 2, none⟩ = some (.int .i64 ((rd_T44 l0_0 a2).f2)) := (blk_cell BK474.out 2).trans rfl
                have hfz64_0 := blk_frozen BK474.out 0
                have hfz64_1 := blk_frozen BK474.out 1
                have hfz64_2 := blk_frozen BK474.out 2
                have p480 : 0 ≤ (((rd_T44 l0_0 a2).f1) : Int) := of_decide_eq_true (by first | (with_reducible assumption) | assumption)
                have q480 : ((rd_T44 l0_0 a2).f1) < (l1.length : Int) := of_decide_eq_true (by first | (with_reducible assumption) | assumption)
                obtain ⟨ad480, e480, hx480_0⟩ := Kd.at_bool HR1.out ((rd_T44 l0_0 a2).f1) p480 q480
                (try rw [← Nbq43.out] at hx480_0)
                (try rw [← Nbq53.out] at hx480_0)
                cases e480
                replace hx480_0 := (HB.out.cell (World.block_lt_of_cell? w _ hx480_0)).trans hx480_0
                replace p480 := eq_true p480
                replace q480 := eq_true q480
                have hcz65_0 : wc.cell? ⟨gb472, 0, none⟩ = some (.slice (some ad473) l0_0.length c0_0) := (blk_cell BK472.out 0).trans rfl
                have hfz65_0 := blk_frozen BK472.out 0
                go_wp2_with (first | (go_at_call 124; (with_reducible refine (spec_l7Power.calls kj22 _ _ l0_0 _ _ l1 _ _ l3 ((rd_T44 l0_0 a2).f2) false _ ?side1 ?side2 ?side3 ?side4 ?side5 ?side6 A45.out).mono ?_); (case side1 => exact zc (Kd.C_below HR0_0.out HB.out)); (case side2 => exact HC0_0.out); (case side3 => exact zc (Kd.C_below HR1.out HB.out)); (case side4 => exact HC1.out); (case side5 => exact zc (Kd.C_below HR3.out HB.out)); (case side6 => exact HC3.out); rintro e w66 ⟨rfl, hb⟩; have n0_ := Aside0.mk (blk_below (zh BK472.out) hb); have n1_ := Aside0.mk (blk_below (zh BK474.out) hb); have n2_ := Aside0.mk (below_step (zb HB.out) hb); clear BK472; clear BK474; clear HB; have BK472 := n0_; have BK474 := n1_; have HB := n2_; clear n0_ n1_ n2_; (try clear hb); (try clear hb2); (try clear hk); (try clear hi); have hcz67_0 : w66.cell? ⟨gb474, 0, none⟩ = some (.int .i64 ((rd_T44 l0_0 a2).f0)) := (blk_cell BK474.out 0).trans rfl; have hcz67_1 : w66.cell? ⟨gb474, 1, none⟩ = some (.int .i64 ((rd_T44 l0_0 a2).f1)) := (blk_cell BK474.out 1).trans rfl; have hcz67_2 : w66.cell? ⟨gb474, 2, none⟩ = some (.int .i64 ((rd_T44 l0_0 a2).f2)) := (blk_cell BK474.out 2).trans rfl; have hfz67_0 := blk_frozen BK474.out 0; have hfz67_1 := blk_frozen BK474.out 1; have hfz67_2 := blk_frozen BK474.out 2; have p482 : 0 ≤ (((rd_T44 l0_0 a2).f2) : Int) := of_decide_eq_true (by first | (with_reducible assumption) | assumption); have q482 : ((rd_T44 l0_0 a2).f2) < (l1.length : Int) := of_decide_eq_true (by first | (with_reducible assumption) | assumption); obtain ⟨ad482, e482, hx482_0⟩ := Kd.at_bool HR1.out ((rd_T44 l0_0 a2).f2) p482 q482; (try rw [← Nbq43.out] at hx482_0); (try rw [← Nbq53.out] at hx482_0); obtain rfl : ad480 = ad482 := (by injection e482); replace hx482_0 := (HB.out.cell (World.block_lt_of_cell? w _ hx482_0)).trans hx482_0; replace p482 := eq_true p482; replace q482 := eq_true q482))
                go_ret
                exact ⟨ze, zb HB.out⟩
              ·rw [if_neg c52] at H
               exact absurd H (by simp)
             ·rw [if_neg c51] at H
              exact absurd H (by simp)
           ·replace c44 := Bool.eq_false_iff.mpr c44
            subst c44
            have H1 : (if 0 ≤ ((rd_T44 l0_0 a2).f2) then (if ((rd_T44 l0_0 a2).f2) < (l1.length : Int) then (if rdOf false l1 ((rd_T44 l0_0 a2).f2) = true then ((spec_l7Power.f kj22 l0_0 l1 l3 ((rd_T44 l0_0 a2).f1)).bind fun t485 => (some t485)) else (some false)) else (none)) else (none)) = some r := by rw [if_neg (show ¬ (false = true) by decide)] at H; exact H
            clear H
            have H := H1
            clear H1
            by_cases c68 : 0 ≤ ((rd_T44 l0_0 a2).f2)
            ·rw [if_pos c68] at H
             have c68b0 : decide (0 ≤ ((rd_T44 l0_0 a2).f2)) = true := decide_eq_true c68
             clear c68
             by_cases c69 : ((rd_T44 l0_0 a2).f2) < (l1.length : Int)
             ·rw [if_pos c69] at H
              have c69b0 : decide (((rd_T44 l0_0 a2).f2) < (l1.length : Int)) = true := decide_eq_true c69
              clear c69
              obtain ⟨bq70, hbq70⟩ : ∃ b_ : Bool, b_ = (rdOf false l1 ((rd_T44 l0_0 a2).f2)) := ⟨_, rfl⟩
              replace H : (if bq70 = true then ((spec_l7Power.f kj22 l0_0 l1 l3 ((rd_T44 l0_0 a2).f1)).bind fun t485 => (some t485)) else (some false)) = some r := by rw [← hbq70] at H; exact H
              have Nbq70 := Aside0.mk hbq70
              clear hbq70
              by_cases c71 : bq70 = true
              ·subst c71
               have H1 : ((spec_l7Power.f kj22 l0_0 l1 l3 ((rd_T44 l0_0 a2).f1)).bind fun t485 => (some t485)) = some r := by rw [if_pos rfl] at H; exact H
               clear H
               have H := H1
               clear H1
               replace H := Option.bind_eq_some_iff.mp H
               obtain ⟨t485, A720, H⟩ := H
               replace H : (some t485) = some r := H
               have A72 := Aside0.mk A720
               clear A720
               obtain rfl := Option.some.inj H
               have hnb73 := NB474_472.out
               have hnc73 := NB472_474.out
               have hcz74_0 : wc.cell? ⟨gb474, 0, none⟩ = some (.int .i64 ((rd_T44 l0_0 a2).f0)) := (blk_cell BK474.out 0).trans rfl
               have hcz74_1 : wc.cell? ⟨gb474, 1, none⟩ = some (.int .i64 ((rd_T44 l0_0 a2).f1)) := (blk_cell BK474.out 1).trans rfl
               have hcz74_2 : wc.cell? ⟨gb474, 2, none⟩ = some (.int .i64 ((rd_T44 l0_0 a2).f2)) := (blk_cell BK474.out 2).trans rfl
               have hfz74_0 := blk_frozen BK474.out 0
               have hfz74_1 := blk_frozen BK474.out 1
               have hfz74_2 := blk_frozen BK474.out 2
               have p480 : 0 ≤ (((rd_T44 l0_0 a2).f1) : Int) := of_decide_eq_true (by first | (with_reducible assumption) | assumption)
               have q480 : ((rd_T44 l0_0 a2).f1) < (l1.length : Int) := of_decide_eq_true (by first | (with_reducible assumption) | assumption)
               obtain ⟨ad480, e480, hx480_0⟩ := Kd.at_bool HR1.out ((rd_T44 l0_0 a2).f1) p480 q480
               (try rw [← Nbq43.out] at hx480_0)
               (try rw [← Nbq70.out] at hx480_0)
               cases e480
               replace hx480_0 := (HB.out.cell (World.block_lt_of_cell? w _ hx480_0)).trans hx480_0
               replace p480 := eq_true p480
               replace q480 := eq_true q480
               have p484 : 0 ≤ (((rd_T44 l0_0 a2).f2) : Int) := of_decide_eq_true (by first | (with_reducible assumption) | assumption)
               have q484 : ((rd_T44 l0_0 a2).f2) < (l1.length : Int) := of_decide_eq_true (by first | (with_reducible assumption) | assumption)
               obtain ⟨ad484, e484, hx484_0⟩ := Kd.at_bool HR1.out ((rd_T44 l0_0 a2).f2) p484 q484
               (try rw [← Nbq43.out] at hx484_0)
               (try rw [← Nbq70.out] at hx484_0)
               obtain rfl : ad480 = ad484 := (by injection e484)
               replace hx484_0 := (HB.out.cell (World.block_lt_of_cell? w _ hx484_0)).trans hx484_0
               replace p484 := eq_true p484
               replace q484 := eq_true q484
               have hcz75_0 : wc.cell? ⟨gb472, 0, none⟩ = some (.slice (some ad473) l0_0.length c0_0) := (blk_cell BK472.out 0).trans rfl
               have hfz75_0 := blk_frozen BK472.out 0
               go_wp2_with (first | (go_at_call 124; (with_reducible refine (spec_l7Power.calls kj22 _ _ l0_0 _ _ l1 _ _ l3 ((rd_T44 l0_0 a2).f1) t485 _ ?side1 ?side2 ?side3 ?side4 ?side5 ?side6 A72.out).mono ?_); (case side1 => exact zc (Kd.C_below HR0_0.out HB.out)); (case side2 => exact HC0_0.out); (case side3 => exact zc (Kd.C_below HR1.out HB.out)); (case side4 => exact HC1.out); (case side5 => exact zc (Kd.C_below HR3.out HB.out)); (case side6 => exact HC3.out); rintro e w76 ⟨rfl, hb⟩; have n0_ := Aside0.mk (blk_below (zh BK472.out) hb); have n1_ := Aside0.mk (blk_below (zh BK474.out) hb); have n2_ := Aside0.mk (below_step (zb HB.out) hb); clear BK472; clear BK474; clear HB; have BK472 := n0_; have BK474 := n1_; have HB := n2_; clear n0_ n1_ n2_; (try clear hb); (try clear hb2); (try clear hk); (try clear hi)))
               go_ret
               exact ⟨ze, zb HB.out⟩
              ·replace c71 := Bool.eq_false_iff.mpr c71
               subst c71
               have H1 : (some false) = some r := by rw [if_neg (show ¬ (false = true) by decide)] at H; exact H
               clear H
               have H := H1
               clear H1
               obtain rfl := Option.some.inj H
               have hnb77 := NB474_472.out
               have hnc77 := NB472_474.out
               have hcz78_0 : wc.cell? ⟨gb474, 0, none⟩ = some (.int .i64 ((rd_T44 l0_0 a2).f0)) := (blk_cell BK474.out 0).trans rfl
               have hcz78_1 : wc.cell? ⟨gb474, 1, none⟩ = some (.int .i64 ((rd_T44 l0_0 a2).f1)) := (blk_cell BK474.out 1).trans rfl
               have hcz78_2 : wc.cell? ⟨gb474, 2, none⟩ = some (.int .i64 ((rd_T44 l0_0 a2).f2)) := (blk_cell BK474.out 2).trans rfl
               have hfz78_0 := blk_frozen BK474.out 0
               have hfz78_1 := blk_frozen BK474.out 1
               have hfz78_2 := blk_frozen BK474.out 2
               have p480 : 0 ≤ (((rd_T44 l0_0 a2).f1) : Int) := of_decide_eq_true (by first | (with_reducible assumption) | assumption)
               have q480 : ((rd_T44 l0_0 a2).f1) < (l1.length : Int) := of_decide_eq_true (by first | (with_reducible assumption) | assumption)
               obtain ⟨ad480, e480, hx480_0⟩ := Kd.at_bool HR1.out ((rd_T44 l0_0 a2).f1) p480 q480
               (try rw [← Nbq43.out] at hx480_0)
               (try rw [← Nbq70.out] at hx480_0)
               cases e480
               replace hx480_0 := (HB.out.cell (World.block_lt_of_cell? w _ hx480_0)).trans hx480_0
               replace p480 := eq_true p480
               replace q480 := eq_true q480
               have p484 : 0 ≤ (((rd_T44 l0_0 a2).f2) : Int) := of_decide_eq_true (by first | (with_reducible assumption) | assumption)
               have q484 : ((rd_T44 l0_0 a2).f2) < (l1.length : Int) := of_decide_eq_true (by first | (with_reducible assumption) | assumption)
               obtain ⟨ad484, e484, hx484_0⟩ := Kd.at_bool HR1.out ((rd_T44 l0_0 a2).f2) p484 q484
               (try rw [← Nbq43.out] at hx484_0)
               (try rw [← Nbq70.out] at hx484_0)
               obtain rfl : ad480 = ad484 := (by injection e484)
               replace hx484_0 := (HB.out.cell (World.block_lt_of_cell? w _ hx484_0)).trans hx484_0
               replace p484 := eq_true p484
               replace q484 := eq_true q484
               go_wp2
               go_ret
               exact ⟨ze, zb HB.out⟩
             ·rw [if_neg c69] at H
              exact absurd H (by simp)
            ·rw [if_neg c68] at H
             exact absurd H (by simp)
          ·rw [if_neg c42] at H
           exact absurd H (by simp)
         ·rw [if_neg c41] at H
          exact absurd H (by simp)
        ·rw [if_neg c40] at H
         have c40b0 : (((rd_T44 l0_0 a2).f0) == 8) = false := beq_eq_false_iff_ne.mpr c40
         have c40b1 : (((rd_T44 l0_0 a2).f0) != 8) = true := bne_iff_ne.mpr c40
         obtain rfl := Option.some.inj H
         have hnb79 := NB474_472.out
         have hnc79 := NB472_474.out
         have hcz80_0 : wc.cell? ⟨gb474, 0, none⟩ = some (.int .i64 ((rd_T44 l0_0 a2).f0)) := (blk_cell BK474.out 0).trans rfl
         have hcz80_1 : wc.cell? ⟨gb474, 1, none⟩ = some (.int .i64 ((rd_T44 l0_0 a2).f1)) := (blk_cell BK474.out 1).trans rfl
         have hcz80_2 : wc.cell? ⟨gb474, 2, none⟩ = some (.int .i64 ((rd_T44 l0_0 a2).f2)) := (blk_cell BK474.out 2).trans rfl
         have hfz80_0 := blk_frozen BK474.out 0
         have hfz80_1 := blk_frozen BK474.out 1
         have hfz80_2 := blk_frozen BK474.out 2
         go_wp2
         go_ret
         exact ⟨ze, zb HB.out⟩
  ·rw [if_neg c6] at H
   exact absurd H (by simp)
 ·rw [if_neg c5] at H
  exact absurd H (by simp)

end Go.Proofs.Ytdgahpigcaejbaa.D
end

section
-- Written by this session's program (wip/tools/gprint.py over the kit's print) out of the translation; Lean checks it.
namespace Go.Proofs.Ytdgahpigcaejbaa.D
open Go.RowKit Go.Proofs.YtdgahpigcaejbaaW.PrintWords Go.Proofs.YtdgahpigcaejbaaW.PrintLast Go.Proofs.YtdgahpigcaejbaaW.PrintMore
attribute [local go_sem] max2_int min2_int max_two min_two max_three min_three max_four min_four   -- for this text's walks alone
set_option linter.unusedVariables false
set_option linter.unusedSimpArgs false
set_option maxRecDepth 100000

/-! ### spec_l7All: function 93 -/
def spec_l7All.l0 : Nat → List Int → List Bool → Int → List (S44) → Option (List Bool)
 | 0, _, _, _, _ => none
 | k + 1, x1, x5, x6, x487000 => if x6 < (x487000.length : Int) then ((spec_KnowHas.f k x1 x6).bind fun t490 => (if t490 = true then (if x5.length < 140737488355328 then (spec_l7All.l0 k x1 (x5 ++ [true]) (wrap64 (x6 + 1)) x487000) else (none)) else ((spec_l7Made.f k x487000 x5 x6 x1).bind fun t494 => (if x5.length < 140737488355328 then (spec_l7All.l0 k x1 (x5 ++ [t494]) (wrap64 (x6 + 1)) x487000) else (none))))) else (some x5)
def spec_l7All.f (k : Nat) (l0_0 : List (S44)) (l1 : List Int) : Option (List Bool) := spec_l7All.l0 k l1 (([] : List Bool)) 0 l0_0
theorem spec_l7All.mono_l : ∀ k, (∀ y0 y1 y2 y3, LeO (spec_l7All.l0 k y0 y1 y2 y3) (spec_l7All.l0 (k + 1) y0 y1 y2 y3))
 | 0 => fun _ _ _ _ r h => by simp [spec_l7All.l0] at h
 | k + 1 => by
  have ih0 := spec_l7All.mono_l k
  ·intro y0 y1 y2 y3
   unfold spec_l7All.l0
   repeat' first
   | (with_reducible exact ih0 _ _ _ _)
   | (with_reducible exact spec_KnowHas.mono _ _ _)
   | (with_reducible exact spec_l7Made.mono _ _ _ _ _)
   | (with_reducible exact LeO.refl _)
   | (with_reducible exact LeO.none _)
   | (with_reducible refine LeO.ite ?_ ?_)
   | (with_reducible refine LeO.bind ?_ (fun _ => ?_))
   | exact ih0 _ _ _ _
   | exact spec_KnowHas.mono _ _ _
   | exact spec_l7Made.mono _ _ _ _ _
   | exact LeO.none _
   | refine LeO.ite ?_ ?_
   | refine LeO.bind ?_ (fun _ => ?_)
theorem spec_l7All.mono : ∀ a0 a1 k, LeO (spec_l7All.f k a0 a1) (spec_l7All.f (k + 1) a0 a1) := by
 intro a0 a1 k
 have ih0 := spec_l7All.mono_l k
 unfold spec_l7All.f
 repeat' first
   | (with_reducible exact ih0 _ _ _ _)
   | (with_reducible exact spec_KnowHas.mono _ _ _)
   | (with_reducible exact spec_l7Made.mono _ _ _ _ _)
   | (with_reducible exact LeO.refl _)
   | (with_reducible exact LeO.none _)
   | (with_reducible refine LeO.ite ?_ ?_)
   | (with_reducible refine LeO.bind ?_ (fun _ => ?_))
   | exact ih0 _ _ _ _
   | exact spec_KnowHas.mono _ _ _
   | exact spec_l7Made.mono _ _ _ _ _
   | exact LeO.none _
   | refine LeO.ite ?_ ?_
   | refine LeO.bind ?_ (fun _ => ?_)
set_option maxHeartbeats 8000000 in
set_option maxRecDepth 100000 in
theorem spec_l7All.calls (k : Nat) (A0_0 : Option Addr) (c0_0 : Nat) (l0_0 : List (S44)) (A1 : Option Addr) (c1 : Nat) (l1 : List Int) (r : List Bool) (w : World) (hr0_0 : Kd.C k44 w A0_0 l0_0.length l0_0) (hc0_0 : l0_0.length ≤ c0_0) (hr1 : Kd.C (Kd.int .i64) w A1 l1.length l1) (hc1 : l1.length ≤ c1) (h : spec_l7All.f k l0_0 l1 = some r) :
  Calls Try.prog 93 #[.agg #[.slice A0_0 l0_0.length c0_0], .slice A1 l1.length c1] w fun e w' => ∃ v0_ : Value, e = .returned (v0_) ∧ Kd.R Kd.bool 4 w' w.heap.size (fun _ => True) v0_ r ∧ Below w.heap.size w w' := by
 have hu30 := Try.underlying30
 have HR0_0 := Aside0.mk hr0_0
 have HC0_0 := Aside0.mk hc0_0
 clear hr0_0 hc0_0
 have HR1 := Aside0.mk hr1
 have HC1 := Aside0.mk hc1
 clear hr1 hc1
 have HB := Aside0.mk (Below.refl w.heap.size w)
 have H : (spec_l7All.l0 k l1 (([] : List Bool)) 0 l0_0) = some r := h
 clear h
 obtain ⟨y487, hy487⟩ : ∃ y_ : List Bool, y_ = (([] : List Bool)) := ⟨_, rfl⟩
 replace H : (spec_l7All.l0 k l1 y487 0 l0_0) = some r := by first | (rw [hy487]; with_reducible exact H) | (have H2_ := (Option.bind_some _ _).symm.trans H; rw [hy487]; with_reducible exact H2_) | (have H2_ := (Option.bind_some _ _).symm.trans H; with_reducible exact H2_) | with_reducible exact H | (rw [hy487]; exact H) | exact H
 have Ny487 := Aside0.mk hy487
 clear hy487
 have H' := Aside0.mk H
 clear H
 go_enter Try.func93, Try.ntmps93
 go_wp2_with (first | ((with_reducible refine gate_dst (N := 2) rfl ?_); refine box_event ?hg (N := 2) ?hd (cs := #[.slice A0_0 l0_0.length c0_0]) (t := 30) ?hr ?_; (case hd => rfl); (case hg => rfl); (case hr => first | (go_simp; done) | (go_simp; rfl)); intro gb486 hg w3 hbox hb; have n0_ := Aside0.mk (below_step (zb HB.out) hb); have n1_ := Aside0.mk (hbox); have n2_ := Aside0.mk ((by rw [hg]; exact (below_size (zb HB.out)) : w.heap.size ≤ gb486)); have n3_ := Aside0.mk ((by rw [hg]; exact (below_size (zb HB.out)) : w.heap.size ≤ gb486)); clear HB; have HB := n0_; have BK486 := n1_; have GW486 := n2_; have GE486 := n3_; clear n0_ n1_ n2_ n3_; clear hb hbox hg) | ((with_reducible refine gate_dst (N := 7) rfl ?_); refine Kd.R_lit Kd.bool _ 4 ?hg (N := 7) ?hd (xs := ([] : List Bool)) (inner := []) (ok := fun _ => True) (okp := fun _ => True) ?hr ?hp (fun _ hk => hk) trivial (Below.refl _ _) (Nat.le_refl _) (by simp) ?_; (case hd => rfl); (case hg => rfl); (case hr => first | (go_simp; done) | (go_simp; rfl)); (case hp => exact (Reps.none _ _)); intro v488 w4 ho5 hb hg_ hnew_; clear hg_ hnew_; (first | rw [← Ny487.out] at ho5 | (simp only [Int.reduceToNat] at ho5; rw [← Ny487.out] at ho5)); have n0_ := Aside0.mk (Kd.R_lower ho5 (below_size (zb HB.out))); have n1_ := Aside0.mk (blk_below (zh BK486.out) hb); have n2_ := Aside0.mk (below_step (zb HB.out) hb); clear BK486; clear HB; have HO489 := n0_; have BK486 := n1_; have HB := n2_; clear n0_ n1_ n2_; clear hb ho5))
 go_loopg [5, 6] k (fun kq v5 v6 w' => ∃ (x5_1 : List Bool) (x6_1 : Int), v6 = .int .i64 x6_1 ∧ Aside0 (spec_l7All.l0 kq l1 x5_1 x6_1 l0_0 = some r) ∧ Aside0 (kq ≤ k) ∧ Aside0 (Kd.R Kd.bool 4 w' w.heap.size (fun _ => True) v5 x5_1) ∧ Aside0 (w'.heap[gb486]? = some (.cells #[(.slice A0_0 l0_0.length c0_0)] 30 (0, 0))) ∧ Aside0 (Below w.heap.size w w'))
 case atStart => exact ⟨(y487), (0), (by first | rfl | (simp; done) | (simp [*]; done)), H', ⟨Nat.le_refl _⟩, ⟨zr HO489.out⟩, ⟨zh BK486.out⟩, ⟨zb HB.out⟩⟩
 case round =>
  clear H'
  try clear c1
  try clear p2
  obtain ⟨x5_1, x6_1, rfl, HA, HK1, HO_5, BK486, HB⟩ := hrel
  cases gk with
  | zero => exact absurd HA.out (by simp [spec_l7All.l0])
  | succ k1 =>
   have H := HA.out
   clear HA
   simp only [spec_l7All.l0] at H
   by_cases c6 : x6_1 < (l0_0.length : Int)
   ·rw [if_pos c6] at H
    have c6b0 : decide (x6_1 < (l0_0.length : Int)) = true := decide_eq_true c6
    clear c6
    replace H := Option.bind_eq_some_iff.mp H
    obtain ⟨t490, A70, H⟩ := H
    replace H : (if t490 = true then (if x5_1.length < 140737488355328 then (spec_l7All.l0 k1 l1 (x5_1 ++ [true]) (wrap64 (x6_1 + 1)) l0_0) else (none)) else ((spec_l7Made.f k1 l0_0 x5_1 x6_1 l1).bind fun t494 => (if x5_1.length < 140737488355328 then (spec_l7All.l0 k1 l1 (x5_1 ++ [t494]) (wrap64 (x6_1 + 1)) l0_0) else (none)))) = some r := H
    have A7 := Aside0.mk A70
    clear A70
    by_cases c8 : t490 = true
    ·subst c8
     have H1 : (if x5_1.length < 140737488355328 then (spec_l7All.l0 k1 l1 (x5_1 ++ [true]) (wrap64 (x6_1 + 1)) l0_0) else (none)) = some r := by rw [if_pos rfl] at H; exact H
     clear H
     have H := H1
     clear H1
     by_cases c9 : x5_1.length < 140737488355328
     ·rw [if_pos c9] at H
      have LMc9 := Aside0.mk c9
      clear c9
      obtain ⟨y491, hy491⟩ : ∃ y_ : List Bool, y_ = (x5_1 ++ [true]) := ⟨_, rfl⟩
      replace H : (spec_l7All.l0 k1 l1 y491 (wrap64 (x6_1 + 1)) l0_0) = some r := by first | (rw [hy491]; with_reducible exact H) | (have H2_ := (Option.bind_some _ _).symm.trans H; rw [hy491]; with_reducible exact H2_) | (have H2_ := (Option.bind_some _ _).symm.trans H; with_reducible exact H2_) | with_reducible exact H | (rw [hy491]; exact H) | exact H
      have Ny491 := Aside0.mk hy491
      clear hy491
      have H' := Aside0.mk H
      clear H
      have hcz10_0 : wr.cell? ⟨gb486, 0, none⟩ = some (.slice A0_0 l0_0.length c0_0) := (blk_cell BK486.out 0).trans rfl
      have hfz10_0 := blk_frozen BK486.out 0
      go_wp2_with (first | ((with_reducible refine gate_callee (f := 88) rfl ?_); refine goesL_ (some 18) rfl rfl Try.func88 (by kernel_rfl) rfl #[.slice A1 l1.length c1, .int .i64 x6_1] rfl zl ?_; (with_reducible refine (spec_KnowHas.calls k1 _ _ l1 x6_1 true _ ?side1 ?side2 A7.out).mono ?_); (case side1 => exact zc (Kd.C_below HR1.out HB.out)); (case side2 => exact HC1.out); rintro e w' ⟨rfl, ⟨nd, rfl⟩⟩; refine ⟨_, rfl, ?_⟩) | ((with_reducible refine gate_builtin (b := .append) (xs := #[.tmp 15, .tmp 26]) rfl ?_); at_builtin; refine Kd.R_append Kd.bool (w0 := w) w.heap.size rfl (.tmp 15) (.tmp 26) 55 4 (.bool false) 1 rfl Try.underlying55 info4 rfl (by decide) (by omega) u5 x5_1 true [.bool true] (fun _ => True) (fun _ => False) rfl rfl ?aP (fun _ hk => hk.elim) ?aF ?aO ?aB ?aS ?aL ?_; (case aP => exact rfl); (case aB => exact (zb HB.out)); (case aF => exact (fun _ _ => trivial)); (case aO => exact (zr HO_5.out)); (case aS => exact (below_size (zb HB.out))); (case aL => have := LMc9.out; omega); intro v492 w11 ho hb hg hat; rw [← Ny491.out] at ho; have n0_ := Aside0.mk (blk_grown (zh BK486.out) hg (Kd.R_ne HO_5.out BK486.out (by decide))); have n1_ := Aside0.mk (hb); have n2_ := Aside0.mk (ho); clear BK486; clear HB; clear HO_5; have BK486 := n0_; have HB := n1_; have HO493 := n2_; clear n0_ n1_ n2_; clear ho hb hg hat))
      go_roundg k1
      case measure => have := HK1.out; omega
      case rel => exact ⟨(y491), (wrap64 (x6_1 + 1)), (by first | rfl | (simp; done) | (simp [*]; done)), H', ⟨by have := HK1.out; omega⟩, ⟨zr HO493.out⟩, ⟨zh BK486.out⟩, ⟨zb HB.out⟩⟩
     ·rw [if_neg c9] at H
      exact absurd H (by simp)
    ·replace c8 := Bool.eq_false_iff.mpr c8
     subst c8
     have H1 : ((spec_l7Made.f k1 l0_0 x5_1 x6_1 l1).bind fun t494 => (if x5_1.length < 140737488355328 then (spec_l7All.l0 k1 l1 (x5_1 ++ [t494]) (wrap64 (x6_1 + 1)) l0_0) else (none))) = some r := by rw [if_neg (show ¬ (false = true) by decide)] at H; exact H
     clear H
     have H := H1
     clear H1
     replace H := Option.bind_eq_some_iff.mp H
     obtain ⟨t494, A120, H⟩ := H
     replace H : (if x5_1.length < 140737488355328 then (spec_l7All.l0 k1 l1 (x5_1 ++ [t494]) (wrap64 (x6_1 + 1)) l0_0) else (none)) = some r := H
     have A12 := Aside0.mk A120
     clear A120
     by_cases c13 : x5_1.length < 140737488355328
     ·rw [if_pos c13] at H
      have LMc13 := Aside0.mk c13
      clear c13
      obtain ⟨y495, hy495⟩ : ∃ y_ : List Bool, y_ = (x5_1 ++ [t494]) := ⟨_, rfl⟩
      replace H : (spec_l7All.l0 k1 l1 y495 (wrap64 (x6_1 + 1)) l0_0) = some r := by first | (rw [hy495]; with_reducible exact H) | (have H2_ := (Option.bind_some _ _).symm.trans H; rw [hy495]; with_reducible exact H2_) | (have H2_ := (Option.bind_some _ _).symm.trans H; with_reducible exact H2_) | with_reducible exact H | (rw [hy495]; exact H) | exact H
      have Ny495 := Aside0.mk hy495
      clear hy495
      have H' := Aside0.mk H
      clear H
      have hcz14_0 : wr.cell? ⟨gb486, 0, none⟩ = some (.slice A0_0 l0_0.length c0_0) := (blk_cell BK486.out 0).trans rfl
      have hfz14_0 := blk_frozen BK486.out 0
      go_wp2_with (first | ((with_reducible refine gate_callee (f := 88) rfl ?_); refine goesL_ (some 18) rfl rfl Try.func88 (by kernel_rfl) rfl #[.slice A1 l1.length c1, .int .i64 x6_1] rfl zl ?_; (with_reducible refine (spec_KnowHas.calls k1 _ _ l1 x6_1 false _ ?side1 ?side2 A7.out).mono ?_); (case side1 => exact zc (Kd.C_below HR1.out HB.out)); (case side2 => exact HC1.out); rintro e w' ⟨rfl, ⟨nd, rfl⟩⟩; refine ⟨_, rfl, ?_⟩; obtain ⟨Ao15, co15, eo15⟩ := Kd.R_slice HO_5.out; subst eo15) | (go_at_call 113; (with_reducible refine (spec_l7Made.calls k1 _ _ l0_0 _ _ x5_1 x6_1 _ _ l1 t494 _ ?side1 ?side2 ?side3 ?side4 ?side5 ?side6 A12.out).mono ?_); (case side1 => exact zc (Kd.C_below HR0_0.out (zb HB.out))); (case side2 => exact HC0_0.out); (case side3 => exact zc (Kd.R_reads' HO_5.out).2.2); (case side4 => exact (Kd.R_reads' HO_5.out).2.1); (case side5 => exact zc (Kd.C_below HR1.out (zb HB.out))); (case side6 => exact HC1.out); rintro e w16 ⟨rfl, hb⟩; have n0_ := Aside0.mk (Kd.R_below (zr HO_5.out) hb); have n1_ := Aside0.mk (blk_below (zh BK486.out) hb); have n2_ := Aside0.mk (below_step (zb HB.out) hb); clear HO_5; clear BK486; clear HB; have HO_5 := n0_; have BK486 := n1_; have HB := n2_; clear n0_ n1_ n2_; (try clear hb); (try clear hb2); (try clear hk); (try clear hi)) | ((with_reducible refine gate_builtin (b := .append) (xs := #[.tmp 15, .tmp 26]) rfl ?_); at_builtin; refine Kd.R_append Kd.bool (w0 := w) w.heap.size rfl (.tmp 15) (.tmp 26) 55 4 (.bool false) 1 rfl Try.underlying55 info4 rfl (by decide) (by omega) (.slice Ao15 x5_1.length co15) x5_1 t494 [.bool t494] (fun _ => True) (fun _ => False) rfl rfl ?aP (fun _ hk => hk.elim) ?aF ?aO ?aB ?aS ?aL ?_; (case aP => exact rfl); (case aB => exact (zb HB.out)); (case aF => exact (fun _ _ => trivial)); (case aO => exact (zr HO_5.out)); (case aS => exact (below_size (zb HB.out))); (case aL => have := LMc13.out; omega); intro v496 w17 ho hb hg hat; rw [← Ny495.out] at ho; have n0_ := Aside0.mk (blk_grown (zh BK486.out) hg (Kd.R_ne HO_5.out BK486.out (by decide))); have n1_ := Aside0.mk (hb); have n2_ := Aside0.mk (ho); clear BK486; clear HB; clear HO_5; have BK486 := n0_; have HB := n1_; have HO497 := n2_; clear n0_ n1_ n2_; clear ho hb hg hat))
      go_roundg k1
      case measure => have := HK1.out; omega
      case rel => exact ⟨(y495), (wrap64 (x6_1 + 1)), (by first | rfl | (simp; done) | (simp [*]; done)), H', ⟨by have := HK1.out; omega⟩, ⟨zr HO497.out⟩, ⟨zh BK486.out⟩, ⟨zb HB.out⟩⟩
     ·rw [if_neg c13] at H
      exact absurd H (by simp)
   ·rw [if_neg c6] at H
    have c6b0 : decide (x6_1 < (l0_0.length : Int)) = false := decide_eq_false c6
    clear c6
    obtain rfl := Option.some.inj H
    have hcz18_0 : wr.cell? ⟨gb486, 0, none⟩ = some (.slice A0_0 l0_0.length c0_0) := (blk_cell BK486.out 0).trans rfl
    have hfz18_0 := blk_frozen BK486.out 0
    go_wp2
    go_ret
    exact ⟨_, ze, zr HO_5.out, zb HB.out⟩

end Go.Proofs.Ytdgahpigcaejbaa.D
end
