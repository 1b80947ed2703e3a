import Derived.Test.YtgohebghlgamiaaZM0
import Derived.Test.YtgohebghlgamiaaZMg0
import Derived.Test.YtgohebghlgamiaaZMg2
section
-- Written by this session's program (wip/tools/gprint.py over the kit's print) out of the translation; Lean checks it.
namespace Go.Proofs.Ytgohebghlgamiaa.M
open Go.RowKit Go.Proofs.YtgohebghlgamiaaW.PrintWords Go.Proofs.YtgohebghlgamiaaW.PrintLast Go.Proofs.YtgohebghlgamiaaW.PrintMore
attribute [local go_sem] max2_int min2_int max_two min_two max_three min_three max_four min_four   -- for this text's walks alone
set_option linter.unusedVariables false
set_option linter.unusedSimpArgs false
set_option maxRecDepth 100000

/-! ### spec_l7Made: function 69 -/
def spec_l7Made.j0 : Nat → List Bool → List Int → Bool → List (S51) → Int → Int → Int → Option (Bool)
 | 0, _, _, _, _, _, _, _ => none
 | k + 1, x1, x3, x32, x134000, x136000, x136001, x136002 => if x32 = true then (some true) else (if x136000 = 8 then (if 0 ≤ x136001 then (if x136001 < (x1.length : Int) then (if rdOf false x1 x136001 = true then ((spec_l7Power.f k x134000 x1 x3 x136002).bind fun t142 => (if t142 = true then (some true) else (if 0 ≤ x136002 then (if x136002 < (x1.length : Int) then (if rdOf false x1 x136002 = true then ((spec_l7Power.f k x134000 x1 x3 x136001).bind fun t144 => (some t144)) else (some false)) else (none)) else (none)))) else (if 0 ≤ x136002 then (if x136002 < (x1.length : Int) then (if rdOf false x1 x136002 = true then ((spec_l7Power.f k x134000 x1 x3 x136001).bind fun t146 => (some t146)) else (some false)) else (none)) else (none))) else (none)) else (none)) else (some false))
def spec_l7Made.f (k : Nat) (l0_0 : List (S51)) (l1 : List Bool) (a2 : Int) (l3 : List Int) : Option (Bool) := if 0 ≤ a2 then (if a2 < (l0_0.length : Int) then (if ((rd_T51 l0_0 a2).f0) = 1 then ((spec_IsPublic.f ((rd_T51 l0_0 a2).f1)).bind fun t136 => (some t136)) else ((spec_l1Parts.f k ((rd_T51 l0_0 a2).f0)).bind fun t137 => (if t137 = 1 then (if 0 ≤ ((rd_T51 l0_0 a2).f1) then (if ((rd_T51 l0_0 a2).f1) < (l1.length : Int) then (some (rdOf false l1 ((rd_T51 l0_0 a2).f1))) else (none)) else (none)) else (if 0 ≤ ((rd_T51 l0_0 a2).f1) then (if ((rd_T51 l0_0 a2).f1) < (l1.length : Int) then (if rdOf false l1 ((rd_T51 l0_0 a2).f1) = true then (if 0 ≤ ((rd_T51 l0_0 a2).f2) then (if ((rd_T51 l0_0 a2).f2) < (l1.length : Int) then (spec_l7Made.j0 k l1 l3 (rdOf false l1 ((rd_T51 l0_0 a2).f2)) l0_0 ((rd_T51 l0_0 a2).f0) ((rd_T51 l0_0 a2).f1) ((rd_T51 l0_0 a2).f2)) else (none)) else (none)) else (spec_l7Made.j0 k l1 l3 false l0_0 ((rd_T51 l0_0 a2).f0) ((rd_T51 l0_0 a2).f1) ((rd_T51 l0_0 a2).f2))) else (none)) else (none))))) else (none)) else (none)
theorem spec_l7Made.mono_l : ∀ k, (∀ y0 y1 y2 y3 y4 y5 y6, LeO (spec_l7Made.j0 k y0 y1 y2 y3 y4 y5 y6) (spec_l7Made.j0 (k + 1) y0 y1 y2 y3 y4 y5 y6))
 | 0 => fun _ _ _ _ _ _ _ r h => by simp [spec_l7Made.j0] at h
 | k + 1 => by
  have ih0 := spec_l7Made.mono_l k
  ·intro y0 y1 y2 y3 y4 y5 y6
   unfold spec_l7Made.j0
   repeat' first
   | (with_reducible exact ih0 _ _ _ _ _ _ _)
   | (with_reducible exact spec_l1Parts.mono _ _)
   | (with_reducible exact spec_l7Power.mono _ _ _ _ _)
   | (with_reducible exact LeO.refl _)
   | (with_reducible exact LeO.none _)
   | (with_reducible refine LeO.ite ?_ ?_)
   | (with_reducible refine LeO.bind ?_ (fun _ => ?_))
   | exact ih0 _ _ _ _ _ _ _
   | exact spec_l1Parts.mono _ _
   | exact spec_l7Power.mono _ _ _ _ _
   | exact LeO.none _
   | refine LeO.ite ?_ ?_
   | refine LeO.bind ?_ (fun _ => ?_)
theorem spec_l7Made.mono : ∀ a0 a1 a2 a3 k, LeO (spec_l7Made.f k a0 a1 a2 a3) (spec_l7Made.f (k + 1) a0 a1 a2 a3) := by
 intro a0 a1 a2 a3 k
 have ih0 := spec_l7Made.mono_l k
 unfold spec_l7Made.f
 repeat' first
   | (with_reducible exact ih0 _ _ _ _ _ _ _)
   | (with_reducible exact spec_l1Parts.mono _ _)
   | (with_reducible exact spec_l7Power.mono _ _ _ _ _)
   | (with_reducible exact LeO.refl _)
   | (with_reducible exact LeO.none _)
   | (with_reducible refine LeO.ite ?_ ?_)
   | (with_reducible refine LeO.bind ?_ (fun _ => ?_))
   | exact ih0 _ _ _ _ _ _ _
   | exact spec_l1Parts.mono _ _
   | exact spec_l7Power.mono _ _ _ _ _
   | exact LeO.none _
   | refine LeO.ite ?_ ?_
   | refine LeO.bind ?_ (fun _ => ?_)
set_option maxHeartbeats 8000000 in
set_option maxRecDepth 100000 in
theorem spec_l7Made.calls (k : Nat) (A0_0 : Option Addr) (c0_0 : Nat) (l0_0 : List (S51)) (A1 : Option Addr) (c1 : Nat) (l1 : List Bool) (a2 : Int) (A3 : Option Addr) (c3 : Nat) (l3 : List Int) (r : Bool) (w : World) (hr0_0 : Kd.C k51 w A0_0 l0_0.length l0_0) (hc0_0 : l0_0.length ≤ c0_0) (hr1 : Kd.C Kd.bool w A1 l1.length l1) (hc1 : l1.length ≤ c1) (hr3 : Kd.C (Kd.int .i64) w A3 l3.length l3) (hc3 : l3.length ≤ c3) (h : spec_l7Made.f k l0_0 l1 a2 l3 = some r) :
  Calls Try.prog 69 #[.agg #[.slice A0_0 l0_0.length c0_0], .slice A1 l1.length c1, .int .i64 a2, .slice A3 l3.length c3] w fun e w' => e = .returned (.bool r) ∧ Below w.heap.size w w' := by
 have hu30 := Try.underlying30
 have hu51 := Try.underlying51
 have HR0_0 := Aside0.mk hr0_0
 have HC0_0 := Aside0.mk hc0_0
 clear hr0_0 hc0_0
 have HR1 := Aside0.mk hr1
 have HC1 := Aside0.mk hc1
 clear hr1 hc1
 have HR3 := Aside0.mk hr3
 have HC3 := Aside0.mk hc3
 clear hr3 hc3
 have HB := Aside0.mk (Below.refl w.heap.size w)
 have H : (if 0 ≤ a2 then (if a2 < (l0_0.length : Int) then (if ((rd_T51 l0_0 a2).f0) = 1 then ((spec_IsPublic.f ((rd_T51 l0_0 a2).f1)).bind fun t136 => (some t136)) else ((spec_l1Parts.f k ((rd_T51 l0_0 a2).f0)).bind fun t137 => (if t137 = 1 then (if 0 ≤ ((rd_T51 l0_0 a2).f1) then (if ((rd_T51 l0_0 a2).f1) < (l1.length : Int) then (some (rdOf false l1 ((rd_T51 l0_0 a2).f1))) else (none)) else (none)) else (if 0 ≤ ((rd_T51 l0_0 a2).f1) then (if ((rd_T51 l0_0 a2).f1) < (l1.length : Int) then (if rdOf false l1 ((rd_T51 l0_0 a2).f1) = true then (if 0 ≤ ((rd_T51 l0_0 a2).f2) then (if ((rd_T51 l0_0 a2).f2) < (l1.length : Int) then (spec_l7Made.j0 k l1 l3 (rdOf false l1 ((rd_T51 l0_0 a2).f2)) l0_0 ((rd_T51 l0_0 a2).f0) ((rd_T51 l0_0 a2).f1) ((rd_T51 l0_0 a2).f2)) else (none)) else (none)) else (spec_l7Made.j0 k l1 l3 false l0_0 ((rd_T51 l0_0 a2).f0) ((rd_T51 l0_0 a2).f1) ((rd_T51 l0_0 a2).f2))) else (none)) else (none))))) else (none)) else (none)) = some r := h
 clear h
 by_cases c5 : 0 ≤ a2
 ·rw [if_pos c5] at H
  have c5b0 : decide (0 ≤ a2) = true := decide_eq_true c5
  clear c5
  by_cases c6 : a2 < (l0_0.length : Int)
  ·rw [if_pos c6] at H
   have c6b0 : decide (a2 < (l0_0.length : Int)) = true := decide_eq_true c6
   clear c6
   by_cases c7 : ((rd_T51 l0_0 a2).f0) = 1
   ·rw [if_pos c7] at H
    have c7b0 : (((rd_T51 l0_0 a2).f0) == 1) = true := beq_iff_eq.mpr c7
    have c7b1 : (((rd_T51 l0_0 a2).f0) != 1) = false := bne_eq_false_iff_eq.mpr c7
    clear c7
    replace H := Option.bind_eq_some_iff.mp H
    obtain ⟨t136, A80, H⟩ := H
    replace H : (some t136) = some r := H
    have A8 := Aside0.mk A80
    clear A80
    obtain rfl := Option.some.inj H
    go_enter Try.func69, Try.ntmps69
    go_wp2_with (first | ((with_reducible refine gate_dst (N := 4) rfl ?_); refine box_event ?hg (N := 4) ?hd (cs := #[.slice A0_0 l0_0.length c0_0]) (t := 30) ?hr ?_; (case hd => rfl); (case hg => rfl); (case hr => first | (go_simp; done) | (go_simp; rfl)); intro gb133 hg w9 hbox hb; have n0_ := Aside0.mk (below_step (zb HB.out) hb); have n1_ := Aside0.mk (hbox); have n2_ := Aside0.mk ((by rw [hg]; exact (below_size (zb HB.out)) : w.heap.size ≤ gb133)); have n3_ := Aside0.mk ((by rw [hg]; exact (below_size (zb HB.out)) : w.heap.size ≤ gb133)); clear HB; have HB := n0_; have BK133 := n1_; have GW133 := n2_; have GE133 := n3_; clear n0_ n1_ n2_ n3_; clear hb hbox hg; have hcz10_0 : w9.cell? ⟨gb133, 0, none⟩ = some (.slice A0_0 l0_0.length c0_0) := (blk_cell BK133.out 0).trans rfl; have hfz10_0 := blk_frozen BK133.out 0; have p134 : 0 ≤ (a2 : Int) := of_decide_eq_true (by first | (with_reducible assumption) | assumption); have q134 : a2 < (l0_0.length : Int) := of_decide_eq_true (by first | (with_reducible assumption) | assumption); obtain ⟨ad134, e134, hx134_0, hx134_1, hx134_2⟩ := at_T51 HR0_0.out a2 p134 q134; cases e134; replace hx134_0 := (HB.out.cell (World.block_lt_of_cell? w _ hx134_0)).trans hx134_0; replace hx134_1 := (HB.out.cell (World.block_lt_of_cell? w _ hx134_1)).trans hx134_1; replace hx134_2 := (HB.out.cell (World.block_lt_of_cell? w _ hx134_2)).trans hx134_2; replace p134 := eq_true p134; replace q134 := eq_true q134) | ((with_reducible refine gate_dst (N := 9) rfl ?_); refine box_event ?hg (N := 9) ?hd (cs := #[.int .i64 0, .int .i64 0, .int .i64 0]) (t := 51) ?hr ?_; (case hd => rfl); (case hg => rfl); (case hr => first | (go_simp; done) | (go_simp; rfl)); intro gb135 hg w11 hbox hb; have n0_ := Aside0.mk (blk_below (zh BK133.out) hb); have n1_ := Aside0.mk (below_step (zb HB.out) hb); have n2_ := Aside0.mk (hbox); have n3_ := Aside0.mk ((by rw [hg]; exact (below_size (zb HB.out)) : w.heap.size ≤ gb135)); have n4_ := Aside0.mk ((by rw [hg]; exact (below_size (zb HB.out)) : w.heap.size ≤ gb135)); have n5_ := Aside0.mk ((by rw [hg]; exact Nat.ne_of_lt (blk_lt (zh BK133.out)) : gb133 ≠ gb135)); have n6_ := Aside0.mk ((by rw [hg]; exact Nat.ne_of_gt (blk_lt (zh BK133.out)) : gb135 ≠ gb133)); clear BK133; clear HB; have BK133 := n0_; have HB := n1_; have BK135 := n2_; have GW135 := n3_; have GE135 := n4_; have NB133_135 := n5_; have NB135_133 := n6_; clear n0_ n1_ n2_ n3_ n4_ n5_ n6_; clear hb hbox hg; have hnb12 := NB135_133.out; have hnc12 := NB133_135.out; have hcz13_0 : w11.cell? ⟨gb135, 0, none⟩ = some (.int .i64 0) := (blk_cell BK135.out 0).trans rfl; have hcz13_1 : w11.cell? ⟨gb135, 1, none⟩ = some (.int .i64 0) := (blk_cell BK135.out 1).trans rfl; have hcz13_2 : w11.cell? ⟨gb135, 2, none⟩ = some (.int .i64 0) := (blk_cell BK135.out 2).trans rfl; have hfz13_0 := blk_frozen BK135.out 0; have hfz13_1 := blk_frozen BK135.out 1; have hfz13_2 := blk_frozen BK135.out 2) | ((with_reducible refine gate_callee (f := 88) rfl ?_); refine goesL_ (some 21) rfl rfl Try.func88 (by kernel_rfl) rfl #[.int .i64 ((rd_T51 l0_0 a2).f1)] rfl zl ?_; (with_reducible refine (spec_IsPublic.calls ((rd_T51 l0_0 a2).f1) t136 _ A8.out).mono ?_); rintro e w' ⟨rfl, ⟨nd, rfl⟩⟩; refine ⟨_, rfl, ?_⟩))
    go_ret
    exact ⟨ze, zb HB.out⟩
   ·rw [if_neg c7] at H
    have c7b0 : (((rd_T51 l0_0 a2).f0) == 1) = false := beq_eq_false_iff_ne.mpr c7
    have c7b1 : (((rd_T51 l0_0 a2).f0) != 1) = true := bne_iff_ne.mpr c7
    replace H := Option.bind_eq_some_iff.mp H
    obtain ⟨t137, A140, H⟩ := H
    replace H : (if t137 = 1 then (if 0 ≤ ((rd_T51 l0_0 a2).f1) then (if ((rd_T51 l0_0 a2).f1) < (l1.length : Int) then (some (rdOf false l1 ((rd_T51 l0_0 a2).f1))) else (none)) else (none)) else (if 0 ≤ ((rd_T51 l0_0 a2).f1) then (if ((rd_T51 l0_0 a2).f1) < (l1.length : Int) then (if rdOf false l1 ((rd_T51 l0_0 a2).f1) = true then (if 0 ≤ ((rd_T51 l0_0 a2).f2) then (if ((rd_T51 l0_0 a2).f2) < (l1.length : Int) then (spec_l7Made.j0 k l1 l3 (rdOf false l1 ((rd_T51 l0_0 a2).f2)) l0_0 ((rd_T51 l0_0 a2).f0) ((rd_T51 l0_0 a2).f1) ((rd_T51 l0_0 a2).f2)) else (none)) else (none)) else (spec_l7Made.j0 k l1 l3 false l0_0 ((rd_T51 l0_0 a2).f0) ((rd_T51 l0_0 a2).f1) ((rd_T51 l0_0 a2).f2))) else (none)) else (none))) = some r := H
    have A14 := Aside0.mk A140
    clear A140
    by_cases c15 : t137 = 1
    ·rw [if_pos c15] at H
     have c15b0 : (t137 == 1) = true := beq_iff_eq.mpr c15
     have c15b1 : (t137 != 1) = false := bne_eq_false_iff_eq.mpr c15
     clear c15
     by_cases c16 : 0 ≤ ((rd_T51 l0_0 a2).f1)
     ·rw [if_pos c16] at H
      have c16b0 : decide (0 ≤ ((rd_T51 l0_0 a2).f1)) = true := decide_eq_true c16
      clear c16
      by_cases c17 : ((rd_T51 l0_0 a2).f1) < (l1.length : Int)
      ·rw [if_pos c17] at H
       have c17b0 : decide (((rd_T51 l0_0 a2).f1) < (l1.length : Int)) = true := decide_eq_true c17
       clear c17
       obtain rfl := Option.some.inj H
       go_enter Try.func69, Try.ntmps69
       go_wp2_with (first | ((with_reducible refine gate_dst (N := 4) rfl ?_); refine box_event ?hg (N := 4) ?hd (cs := #[.slice A0_0 l0_0.length c0_0]) (t := 30) ?hr ?_; (case hd => rfl); (case hg => rfl); (case hr => first | (go_simp; done) | (go_simp; rfl)); intro gb133 hg w18 hbox hb; have n0_ := Aside0.mk (below_step (zb HB.out) hb); have n1_ := Aside0.mk (hbox); have n2_ := Aside0.mk ((by rw [hg]; exact (below_size (zb HB.out)) : w.heap.size ≤ gb133)); have n3_ := Aside0.mk ((by rw [hg]; exact (below_size (zb HB.out)) : w.heap.size ≤ gb133)); clear HB; have HB := n0_; have BK133 := n1_; have GW133 := n2_; have GE133 := n3_; clear n0_ n1_ n2_ n3_; clear hb hbox hg; have hcz19_0 : w18.cell? ⟨gb133, 0, none⟩ = some (.slice A0_0 l0_0.length c0_0) := (blk_cell BK133.out 0).trans rfl; have hfz19_0 := blk_frozen BK133.out 0; have p134 : 0 ≤ (a2 : Int) := of_decide_eq_true (by first | (with_reducible assumption) | assumption); have q134 : a2 < (l0_0.length : Int) := of_decide_eq_true (by first | (with_reducible assumption) | assumption); obtain ⟨ad134, e134, hx134_0, hx134_1, hx134_2⟩ := at_T51 HR0_0.out a2 p134 q134; cases e134; replace hx134_0 := (HB.out.cell (World.block_lt_of_cell? w _ hx134_0)).trans hx134_0; replace hx134_1 := (HB.out.cell (World.block_lt_of_cell? w _ hx134_1)).trans hx134_1; replace hx134_2 := (HB.out.cell (World.block_lt_of_cell? w _ hx134_2)).trans hx134_2; replace p134 := eq_true p134; replace q134 := eq_true q134) | ((with_reducible refine gate_dst (N := 9) rfl ?_); refine box_event ?hg (N := 9) ?hd (cs := #[.int .i64 0, .int .i64 0, .int .i64 0]) (t := 51) ?hr ?_; (case hd => rfl); (case hg => rfl); (case hr => first | (go_simp; done) | (go_simp; rfl)); intro gb135 hg w20 hbox hb; have n0_ := Aside0.mk (blk_below (zh BK133.out) hb); have n1_ := Aside0.mk (below_step (zb HB.out) hb); have n2_ := Aside0.mk (hbox); have n3_ := Aside0.mk ((by rw [hg]; exact (below_size (zb HB.out)) : w.heap.size ≤ gb135)); have n4_ := Aside0.mk ((by rw [hg]; exact (below_size (zb HB.out)) : w.heap.size ≤ gb135)); have n5_ := Aside0.mk ((by rw [hg]; exact Nat.ne_of_lt (blk_lt (zh BK133.out)) : gb133 ≠ gb135)); have n6_ := Aside0.mk ((by rw [hg]; exact Nat.ne_of_gt (blk_lt (zh BK133.out)) : gb135 ≠ gb133)); clear BK133; clear HB; have BK133 := n0_; have HB := n1_; have BK135 := n2_; have GW135 := n3_; have GE135 := n4_; have NB133_135 := n5_; have NB135_133 := n6_; clear n0_ n1_ n2_ n3_ n4_ n5_ n6_; clear hb hbox hg; have hnb21 := NB135_133.out; have hnc21 := NB133_135.out; have hcz22_0 : w20.cell? ⟨gb135, 0, none⟩ = some (.int .i64 0) := (blk_cell BK135.out 0).trans rfl; have hcz22_1 : w20.cell? ⟨gb135, 1, none⟩ = some (.int .i64 0) := (blk_cell BK135.out 1).trans rfl; have hcz22_2 : w20.cell? ⟨gb135, 2, none⟩ = some (.int .i64 0) := (blk_cell BK135.out 2).trans rfl; have hfz22_0 := blk_frozen BK135.out 0; have hfz22_1 := blk_frozen BK135.out 1; have hfz22_2 := blk_frozen BK135.out 2) | ((with_reducible refine gate_callee (f := 89) rfl ?_); refine goesL_ (some 25) rfl rfl Try.func89 (by kernel_rfl) rfl #[.int .i64 ((rd_T51 l0_0 a2).f0)] rfl zl ?_; (with_reducible refine (spec_l1Parts.calls k ((rd_T51 l0_0 a2).f0) t137 _ A14.out).mono ?_); rintro e w' ⟨rfl, ⟨nd, rfl⟩⟩; refine ⟨_, rfl, ?_⟩; have p138 : 0 ≤ (((rd_T51 l0_0 a2).f1) : Int) := of_decide_eq_true (by first | (with_reducible assumption) | assumption); have q138 : ((rd_T51 l0_0 a2).f1) < (l1.length : Int) := of_decide_eq_true (by first | (with_reducible assumption) | assumption); obtain ⟨ad138, e138, hx138_0⟩ := Kd.at_bool HR1.out ((rd_T51 l0_0 a2).f1) p138 q138; cases e138; have hn138_0 : ad138.block ≠ gb135 := Nat.ne_of_lt (Nat.lt_of_lt_of_le (by have := World.block_lt_of_cell? _ _ hx138_0; first | rwa [add_block] at this | exact this) GW135.out); have hn138_1 : ad138.block ≠ gb135 := Nat.ne_of_lt (Nat.lt_of_lt_of_le (by have := World.block_lt_of_cell? _ _ hx138_0; first | rwa [add_block] at this | exact this) GW135.out); have hn138_2 : ad138.block ≠ gb135 := Nat.ne_of_lt (Nat.lt_of_lt_of_le (by have := World.block_lt_of_cell? _ _ hx138_0; first | rwa [add_block] at this | exact this) GW135.out); replace hx138_0 := (HB.out.cell (World.block_lt_of_cell? w _ hx138_0)).trans hx138_0; replace hx138_0 := (cell_far (p := ⟨gb135, 0, none⟩) (by first | (rw [add_block]; exact hn138_0) | (show (Addr.add _ _).block ≠ _; rw [add_block]; exact hn138_0) | exact hn138_0) (.int .i64 ((rd_T51 l0_0 a2).f0))).trans hx138_0; replace hx138_0 := (cell_far (p := ⟨gb135, 1, none⟩) (by first | (rw [add_block]; exact hn138_1) | (show (Addr.add _ _).block ≠ _; rw [add_block]; exact hn138_1) | exact hn138_1) (.int .i64 ((rd_T51 l0_0 a2).f1))).trans hx138_0; replace hx138_0 := (cell_far (p := ⟨gb135, 2, none⟩) (by first | (rw [add_block]; exact hn138_2) | (show (Addr.add _ _).block ≠ _; rw [add_block]; exact hn138_2) | exact hn138_2) (.int .i64 ((rd_T51 l0_0 a2).f2))).trans hx138_0; clear hn138_0; clear hn138_1; clear hn138_2; replace p138 := eq_true p138; replace q138 := eq_true q138))
       go_ret
       exact ⟨ze, zb HB.out⟩
      ·rw [if_neg c17] at H
       exact absurd H (by simp)
     ·rw [if_neg c16] at H
      exact absurd H (by simp)
    ·rw [if_neg c15] at H
     have c15b0 : (t137 == 1) = false := beq_eq_false_iff_ne.mpr c15
     have c15b1 : (t137 != 1) = true := bne_iff_ne.mpr c15
     have HC23 := Aside0.mk H
     clear H
     go_enter Try.func69, Try.ntmps69
     go_upto_region 6 with (first | ((with_reducible refine gate_dst (N := 4) rfl ?_); refine box_event ?hg (N := 4) ?hd (cs := #[.slice A0_0 l0_0.length c0_0]) (t := 30) ?hr ?_; (case hd => rfl); (case hg => rfl); (case hr => first | (go_simp; done) | (go_simp; rfl)); intro gb133 hg w24 hbox hb; have n0_ := Aside0.mk (below_step (zb HB.out) hb); have n1_ := Aside0.mk (hbox); have n2_ := Aside0.mk ((by rw [hg]; exact (below_size (zb HB.out)) : w.heap.size ≤ gb133)); have n3_ := Aside0.mk ((by rw [hg]; exact (below_size (zb HB.out)) : w.heap.size ≤ gb133)); clear HB; have HB := n0_; have BK133 := n1_; have GW133 := n2_; have GE133 := n3_; clear n0_ n1_ n2_ n3_; clear hb hbox hg; have hcz25_0 : w24.cell? ⟨gb133, 0, none⟩ = some (.slice A0_0 l0_0.length c0_0) := (blk_cell BK133.out 0).trans rfl; have hfz25_0 := blk_frozen BK133.out 0; have p134 : 0 ≤ (a2 : Int) := of_decide_eq_true (by first | (with_reducible assumption) | assumption); have q134 : a2 < (l0_0.length : Int) := of_decide_eq_true (by first | (with_reducible assumption) | assumption); obtain ⟨ad134, e134, hx134_0, hx134_1, hx134_2⟩ := at_T51 HR0_0.out a2 p134 q134; cases e134; replace hx134_0 := (HB.out.cell (World.block_lt_of_cell? w _ hx134_0)).trans hx134_0; replace hx134_1 := (HB.out.cell (World.block_lt_of_cell? w _ hx134_1)).trans hx134_1; replace hx134_2 := (HB.out.cell (World.block_lt_of_cell? w _ hx134_2)).trans hx134_2; replace p134 := eq_true p134; replace q134 := eq_true q134) | ((with_reducible refine gate_dst (N := 9) rfl ?_); refine box_event ?hg (N := 9) ?hd (cs := #[.int .i64 0, .int .i64 0, .int .i64 0]) (t := 51) ?hr ?_; (case hd => rfl); (case hg => rfl); (case hr => first | (go_simp; done) | (go_simp; rfl)); intro gb135 hg w26 hbox hb; have n0_ := Aside0.mk (blk_below (zh BK133.out) hb); have n1_ := Aside0.mk (below_step (zb HB.out) hb); have n2_ := Aside0.mk (hbox); have n3_ := Aside0.mk ((by rw [hg]; exact (below_size (zb HB.out)) : w.heap.size ≤ gb135)); have n4_ := Aside0.mk ((by rw [hg]; exact (below_size (zb HB.out)) : w.heap.size ≤ gb135)); have n5_ := Aside0.mk ((by rw [hg]; exact Nat.ne_of_lt (blk_lt (zh BK133.out)) : gb133 ≠ gb135)); have n6_ := Aside0.mk ((by rw [hg]; exact Nat.ne_of_gt (blk_lt (zh BK133.out)) : gb135 ≠ gb133)); clear BK133; clear HB; have BK133 := n0_; have HB := n1_; have BK135 := n2_; have GW135 := n3_; have GE135 := n4_; have NB133_135 := n5_; have NB135_133 := n6_; clear n0_ n1_ n2_ n3_ n4_ n5_ n6_; clear hb hbox hg; have hnb27 := NB135_133.out; have hnc27 := NB133_135.out; have hcz28_0 : w26.cell? ⟨gb135, 0, none⟩ = some (.int .i64 0) := (blk_cell BK135.out 0).trans rfl; have hcz28_1 : w26.cell? ⟨gb135, 1, none⟩ = some (.int .i64 0) := (blk_cell BK135.out 1).trans rfl; have hcz28_2 : w26.cell? ⟨gb135, 2, none⟩ = some (.int .i64 0) := (blk_cell BK135.out 2).trans rfl; have hfz28_0 := blk_frozen BK135.out 0; have hfz28_1 := blk_frozen BK135.out 1; have hfz28_2 := blk_frozen BK135.out 2) | ((with_reducible refine gate_callee (f := 89) rfl ?_); refine goesL_ (some 25) rfl rfl Try.func89 (by kernel_rfl) rfl #[.int .i64 ((rd_T51 l0_0 a2).f0)] rfl zl ?_; (with_reducible refine (spec_l1Parts.calls k ((rd_T51 l0_0 a2).f0) t137 _ A14.out).mono ?_); rintro e w' ⟨rfl, ⟨nd, rfl⟩⟩; refine ⟨_, rfl, ?_⟩))
     (try simp only [Act.put, List.setIfInBounds_toArray, List.set_cons_zero, List.set_cons_succ])
     go_cut [32] (fun v32 wc => ∃ (kq : Nat) (x32_22 : Bool), v32 = .bool x32_22 ∧ Aside0 (spec_l7Made.j0 kq l1 l3 x32_22 l0_0 ((rd_T51 l0_0 a2).f0) ((rd_T51 l0_0 a2).f1) ((rd_T51 l0_0 a2).f2) = some r) ∧ Aside0 (kq ≤ k) ∧ Aside0 (wc.heap[gb133]? = some (.cells #[(.slice (some ad134) l0_0.length c0_0)] 30 (0, 0))) ∧ Aside0 (wc.heap[gb135]? = some (.cells #[.int .i64 ((rd_T51 l0_0 a2).f0), .int .i64 ((rd_T51 l0_0 a2).f1), .int .i64 ((rd_T51 l0_0 a2).f2)] 51 (0, 0))) ∧ Aside0 (Below w.heap.size w wc))
     case first =>
      have H := HC23.out
      clear HC23
      by_cases c29 : 0 ≤ ((rd_T51 l0_0 a2).f1)
      ·rw [if_pos c29] at H
       have c29b0 : decide (0 ≤ ((rd_T51 l0_0 a2).f1)) = true := decide_eq_true c29
       clear c29
       (first | rw [c29b0] | (simp only [i64_w, i32_w]; rw [c29b0]) | skip)
       by_cases c30 : ((rd_T51 l0_0 a2).f1) < (l1.length : Int)
       ·rw [if_pos c30] at H
        have c30b0 : decide (((rd_T51 l0_0 a2).f1) < (l1.length : Int)) = true := decide_eq_true c30
        clear c30
        obtain ⟨bq31, hbq31⟩ : ∃ b_ : Bool, b_ = (rdOf false l1 ((rd_T51 l0_0 a2).f1)) := ⟨_, rfl⟩
        replace H : (if bq31 = true then (if 0 ≤ ((rd_T51 l0_0 a2).f2) then (if ((rd_T51 l0_0 a2).f2) < (l1.length : Int) then (spec_l7Made.j0 k l1 l3 (rdOf false l1 ((rd_T51 l0_0 a2).f2)) l0_0 ((rd_T51 l0_0 a2).f0) ((rd_T51 l0_0 a2).f1) ((rd_T51 l0_0 a2).f2)) else (none)) else (none)) else (spec_l7Made.j0 k l1 l3 false l0_0 ((rd_T51 l0_0 a2).f0) ((rd_T51 l0_0 a2).f1) ((rd_T51 l0_0 a2).f2))) = some r := by rw [← hbq31] at H; exact H
        have Nbq31 := Aside0.mk hbq31
        clear hbq31
        by_cases c32 : bq31 = true
        ·subst c32
         have H1 : (if 0 ≤ ((rd_T51 l0_0 a2).f2) then (if ((rd_T51 l0_0 a2).f2) < (l1.length : Int) then (spec_l7Made.j0 k l1 l3 (rdOf false l1 ((rd_T51 l0_0 a2).f2)) l0_0 ((rd_T51 l0_0 a2).f0) ((rd_T51 l0_0 a2).f1) ((rd_T51 l0_0 a2).f2)) else (none)) else (none)) = some r := by rw [if_pos rfl] at H; exact H
         clear H
         have H := H1
         clear H1
         by_cases c33 : 0 ≤ ((rd_T51 l0_0 a2).f2)
         ·rw [if_pos c33] at H
          have c33b0 : decide (0 ≤ ((rd_T51 l0_0 a2).f2)) = true := decide_eq_true c33
          clear c33
          by_cases c34 : ((rd_T51 l0_0 a2).f2) < (l1.length : Int)
          ·rw [if_pos c34] at H
           have c34b0 : decide (((rd_T51 l0_0 a2).f2) < (l1.length : Int)) = true := decide_eq_true c34
           clear c34
           have H' := Aside0.mk H
           clear H
           have hnb35 := NB135_133.out
           have hnc35 := NB133_135.out
           have hcz36_0 : w26.cell? ⟨gb135, 0, none⟩ = some (.int .i64 0) := (blk_cell BK135.out 0).trans rfl
           have hcz36_1 : w26.cell? ⟨gb135, 1, none⟩ = some (.int .i64 0) := (blk_cell BK135.out 1).trans rfl
           have hcz36_2 : w26.cell? ⟨gb135, 2, none⟩ = some (.int .i64 0) := (blk_cell BK135.out 2).trans rfl
           have hfz36_0 := blk_frozen BK135.out 0
           have hfz36_1 := blk_frozen BK135.out 1
           have hfz36_2 := blk_frozen BK135.out 2
           have p139 : 0 ≤ (((rd_T51 l0_0 a2).f1) : Int) := of_decide_eq_true (by first | (with_reducible assumption) | assumption)
           have q139 : ((rd_T51 l0_0 a2).f1) < (l1.length : Int) := of_decide_eq_true (by first | (with_reducible assumption) | assumption)
           obtain ⟨ad139, e139, hx139_0⟩ := Kd.at_bool HR1.out ((rd_T51 l0_0 a2).f1) p139 q139
           (try rw [← Nbq31.out] at hx139_0)
           cases e139
           have hn139_0 : ad139.block ≠ gb135 := Nat.ne_of_lt (Nat.lt_of_lt_of_le (by have := World.block_lt_of_cell? _ _ hx139_0; first | rwa [add_block] at this | exact this) GW135.out)
           have hn139_1 : ad139.block ≠ gb135 := Nat.ne_of_lt (Nat.lt_of_lt_of_le (by have := World.block_lt_of_cell? _ _ hx139_0; first | rwa [add_block] at this | exact this) GW135.out)
           have hn139_2 : ad139.block ≠ gb135 := Nat.ne_of_lt (Nat.lt_of_lt_of_le (by have := World.block_lt_of_cell? _ _ hx139_0; first | rwa [add_block] at this | exact this) GW135.out)
           replace hx139_0 := (HB.out.cell (World.block_lt_of_cell? w _ hx139_0)).trans hx139_0
           replace hx139_0 := (cell_far (p := ⟨gb135, 0, none⟩) (by first | (rw [add_block]; exact hn139_0) | (show (Addr.add _ _).block ≠ _; rw [add_block]; exact hn139_0) | exact hn139_0) (.int .i64 ((rd_T51 l0_0 a2).f0))).trans hx139_0
           replace hx139_0 := (cell_far (p := ⟨gb135, 1, none⟩) (by first | (rw [add_block]; exact hn139_1) | (show (Addr.add _ _).block ≠ _; rw [add_block]; exact hn139_1) | exact hn139_1) (.int .i64 ((rd_T51 l0_0 a2).f1))).trans hx139_0
           replace hx139_0 := (cell_far (p := ⟨gb135, 2, none⟩) (by first | (rw [add_block]; exact hn139_2) | (show (Addr.add _ _).block ≠ _; rw [add_block]; exact hn139_2) | exact hn139_2) (.int .i64 ((rd_T51 l0_0 a2).f2))).trans hx139_0
           clear hn139_0
           clear hn139_1
           clear hn139_2
           replace p139 := eq_true p139
           replace q139 := eq_true q139
           have p140 : 0 ≤ (((rd_T51 l0_0 a2).f2) : Int) := of_decide_eq_true (by first | (with_reducible assumption) | assumption)
           have q140 : ((rd_T51 l0_0 a2).f2) < (l1.length : Int) := of_decide_eq_true (by first | (with_reducible assumption) | assumption)
           obtain ⟨ad140, e140, hx140_0⟩ := Kd.at_bool HR1.out ((rd_T51 l0_0 a2).f2) p140 q140
           (try rw [← Nbq31.out] at hx140_0)
           obtain rfl : ad139 = ad140 := (by injection e140)
           have hn140_0 : ad139.block ≠ gb135 := Nat.ne_of_lt (Nat.lt_of_lt_of_le (by have := World.block_lt_of_cell? _ _ hx140_0; first | rwa [add_block] at this | exact this) GW135.out)
           have hn140_1 : ad139.block ≠ gb135 := Nat.ne_of_lt (Nat.lt_of_lt_of_le (by have := World.block_lt_of_cell? _ _ hx140_0; first | rwa [add_block] at this | exact this) GW135.out)
           have hn140_2 : ad139.block ≠ gb135 := Nat.ne_of_lt (Nat.lt_of_lt_of_le (by have := World.block_lt_of_cell? _ _ hx140_0; first | rwa [add_block] at this | exact this) GW135.out)
           replace hx140_0 := (HB.out.cell (World.block_lt_of_cell? w _ hx140_0)).trans hx140_0
           replace hx140_0 := (cell_far (p := ⟨gb135, 0, none⟩) (by first | (rw [add_block]; exact hn140_0) | (show (Addr.add _ _).block ≠ _; rw [add_block]; exact hn140_0) | exact hn140_0) (.int .i64 ((rd_T51 l0_0 a2).f0))).trans hx140_0
           replace hx140_0 := (cell_far (p := ⟨gb135, 1, none⟩) (by first | (rw [add_block]; exact hn140_1) | (show (Addr.add _ _).block ≠ _; rw [add_block]; exact hn140_1) | exact hn140_1) (.int .i64 ((rd_T51 l0_0 a2).f1))).trans hx140_0
           replace hx140_0 := (cell_far (p := ⟨gb135, 2, none⟩) (by first | (rw [add_block]; exact hn140_2) | (show (Addr.add _ _).block ≠ _; rw [add_block]; exact hn140_2) | exact hn140_2) (.int .i64 ((rd_T51 l0_0 a2).f2))).trans hx140_0
           clear hn140_0
           clear hn140_1
           clear hn140_2
           replace p140 := eq_true p140
           replace q140 := eq_true q140
           go_wp2
           go_meet
           case rel => exact ⟨_, (rdOf false l1 ((rd_T51 l0_0 a2).f2)), (by first | rfl | (simp; done) | (simp [*]; done)), H', ⟨by first | omega | exact Nat.le_refl _⟩, ⟨zf BK133.out⟩, ⟨by (with_reducible repeat (first | refine blk_drewN ?_ _ | refine blk_drew ?_ | refine blk_alloc ?_ _)); refine blk_put (cs := #[.int .i64 ((rd_T51 l0_0 a2).f0), .int .i64 ((rd_T51 l0_0 a2).f1), .int .i64 0]) ?_ 2 _ rfl; (with_reducible repeat (first | refine blk_drewN ?_ _ | refine blk_drew ?_ | refine blk_alloc ?_ _)); refine blk_put (cs := #[.int .i64 ((rd_T51 l0_0 a2).f0), .int .i64 0, .int .i64 0]) ?_ 1 _ rfl; (with_reducible repeat (first | refine blk_drewN ?_ _ | refine blk_drew ?_ | refine blk_alloc ?_ _)); refine blk_put (cs := #[.int .i64 0, .int .i64 0, .int .i64 0]) ?_ 0 _ rfl; (with_reducible repeat (first | refine blk_drewN ?_ _ | refine blk_drew ?_ | refine blk_alloc ?_ _)); exact BK135.out⟩, ⟨zb HB.out⟩⟩
          ·rw [if_neg c34] at H
           exact absurd H (by simp)
         ·rw [if_neg c33] at H
          exact absurd H (by simp)
        ·replace c32 := Bool.eq_false_iff.mpr c32
         subst c32
         have H1 : (spec_l7Made.j0 k l1 l3 false l0_0 ((rd_T51 l0_0 a2).f0) ((rd_T51 l0_0 a2).f1) ((rd_T51 l0_0 a2).f2)) = some r := by rw [if_neg (show ¬ (false = true) by decide)] at H; exact H
         clear H
         have H := H1
         clear H1
         have H' := Aside0.mk H
         clear H
         have hnb37 := NB135_133.out
         have hnc37 := NB133_135.out
         have hcz38_0 : w26.cell? ⟨gb135, 0, none⟩ = some (.int .i64 0) := (blk_cell BK135.out 0).trans rfl
         have hcz38_1 : w26.cell? ⟨gb135, 1, none⟩ = some (.int .i64 0) := (blk_cell BK135.out 1).trans rfl
         have hcz38_2 : w26.cell? ⟨gb135, 2, none⟩ = some (.int .i64 0) := (blk_cell BK135.out 2).trans rfl
         have hfz38_0 := blk_frozen BK135.out 0
         have hfz38_1 := blk_frozen BK135.out 1
         have hfz38_2 := blk_frozen BK135.out 2
         have p139 : 0 ≤ (((rd_T51 l0_0 a2).f1) : Int) := of_decide_eq_true (by first | (with_reducible assumption) | assumption)
         have q139 : ((rd_T51 l0_0 a2).f1) < (l1.length : Int) := of_decide_eq_true (by first | (with_reducible assumption) | assumption)
         obtain ⟨ad139, e139, hx139_0⟩ := Kd.at_bool HR1.out ((rd_T51 l0_0 a2).f1) p139 q139
         (try rw [← Nbq31.out] at hx139_0)
         cases e139
         have hn139_0 : ad139.block ≠ gb135 := Nat.ne_of_lt (Nat.lt_of_lt_of_le (by have := World.block_lt_of_cell? _ _ hx139_0; first | rwa [add_block] at this | exact this) GW135.out)
         have hn139_1 : ad139.block ≠ gb135 := Nat.ne_of_lt (Nat.lt_of_lt_of_le (by have := World.block_lt_of_cell? _ _ hx139_0; first | rwa [add_block] at this | exact this) GW135.out)
         have hn139_2 : ad139.block ≠ gb135 := Nat.ne_of_lt (Nat.lt_of_lt_of_le (by have := World.block_lt_of_cell? _ _ hx139_0; first | rwa [add_block] at this | exact this) GW135.out)
         replace hx139_0 := (HB.out.cell (World.block_lt_of_cell? w _ hx139_0)).trans hx139_0
         replace hx139_0 := (cell_far (p := ⟨gb135, 0, none⟩) (by first | (rw [add_block]; exact hn139_0) | (show (Addr.add _ _).block ≠ _; rw [add_block]; exact hn139_0) | exact hn139_0) (.int .i64 ((rd_T51 l0_0 a2).f0))).trans hx139_0
         replace hx139_0 := (cell_far (p := ⟨gb135, 1, none⟩) (by first | (rw [add_block]; exact hn139_1) | (show (Addr.add _ _).block ≠ _; rw [add_block]; exact hn139_1) | exact hn139_1) (.int .i64 ((rd_T51 l0_0 a2).f1))).trans hx139_0
         replace hx139_0 := (cell_far (p := ⟨gb135, 2, none⟩) (by first | (rw [add_block]; exact hn139_2) | (show (Addr.add _ _).block ≠ _; rw [add_block]; exact hn139_2) | exact hn139_2) (.int .i64 ((rd_T51 l0_0 a2).f2))).trans hx139_0
         clear hn139_0
         clear hn139_1
         clear hn139_2
         replace p139 := eq_true p139
         replace q139 := eq_true q139
         go_wp2
         go_meet
         case rel => exact ⟨_, (false), (by first | rfl | (simp; done) | (simp [*]; done)), H', ⟨by first | omega | exact Nat.le_refl _⟩, ⟨zf BK133.out⟩, ⟨by (with_reducible repeat (first | refine blk_drewN ?_ _ | refine blk_drew ?_ | refine blk_alloc ?_ _)); refine blk_put (cs := #[.int .i64 ((rd_T51 l0_0 a2).f0), .int .i64 ((rd_T51 l0_0 a2).f1), .int .i64 0]) ?_ 2 _ rfl; (with_reducible repeat (first | refine blk_drewN ?_ _ | refine blk_drew ?_ | refine blk_alloc ?_ _)); refine blk_put (cs := #[.int .i64 ((rd_T51 l0_0 a2).f0), .int .i64 0, .int .i64 0]) ?_ 1 _ rfl; (with_reducible repeat (first | refine blk_drewN ?_ _ | refine blk_drew ?_ | refine blk_alloc ?_ _)); refine blk_put (cs := #[.int .i64 0, .int .i64 0, .int .i64 0]) ?_ 0 _ rfl; (with_reducible repeat (first | refine blk_drewN ?_ _ | refine blk_drew ?_ | refine blk_alloc ?_ _)); exact BK135.out⟩, ⟨zb HB.out⟩⟩
       ·rw [if_neg c30] at H
        exact absurd H (by simp)
      ·rw [if_neg c29] at H
       exact absurd H (by simp)
     case rest =>
      clear HC23
      try clear c1
      try clear p1
      try clear q1
      try clear hx1
      try clear c2
      try clear p2
      try clear c3
      try clear q3
      try clear c5
      try clear c5b0
      try clear c6
      try clear c6b0
      try clear c7
      try clear c7b0
      try clear c7b1
      try clear c8
      try clear c12
      try clear p13
      try clear q13
      try clear hx13
      try clear p14
      try clear q14
      try clear hx14
      try clear c15
      try clear c15b0
      try clear c15b1
      try clear c16
      try clear c16b0
      try clear c17
      try clear c17b0
      try clear c21
      try clear c27
      try clear c29
      try clear c29b0
      try clear c30
      try clear c30b0
      try clear q31
      try clear c32
      try clear c33
      try clear c33b0
      try clear c34
      try clear c34b0
      try clear c35
      try clear c37
      try clear hcz10_0
      try clear hcz13_0
      try clear hcz13_1
      try clear hcz13_2
      try clear hcz19_0
      try clear hcz22_0
      try clear hcz22_1
      try clear hcz22_2
      try clear hcz25_0
      try clear hcz28_0
      try clear hcz28_1
      try clear hcz28_2
      try clear hcz36_0
      try clear hcz36_1
      try clear hcz36_2
      try clear hcz38_0
      try clear hcz38_1
      try clear hcz38_2
      try clear hfz10_0
      try clear hfz13_0
      try clear hfz13_1
      try clear hfz13_2
      try clear hfz19_0
      try clear hfz22_0
      try clear hfz22_1
      try clear hfz22_2
      try clear hfz25_0
      try clear hfz28_0
      try clear hfz28_1
      try clear hfz28_2
      try clear hfz36_0
      try clear hfz36_1
      try clear hfz36_2
      try clear hfz38_0
      try clear hfz38_1
      try clear hfz38_2
      try clear hx134_0
      try clear hx134_1
      try clear hx134_2
      try clear hx138_0
      try clear hx139_0
      try clear hx140_0
      try clear p134
      try clear p138
      try clear p139
      try clear p140
      try clear q134
      try clear q138
      try clear q139
      try clear q140
      obtain ⟨kq, x32_22, rfl, HA, HJ22, BK133, BK135, HB⟩ := hcut
      cases kq with
      | zero => exact absurd HA.out (by simp [spec_l7Made.j0])
      | succ kj22 =>
       have H := HA.out
       clear HA
       simp only [spec_l7Made.j0] at H
       by_cases c39 : x32_22 = true
       ·subst c39
        have H1 : (some true) = some r := by rw [if_pos rfl] at H; exact H
        clear H
        have H := H1
        clear H1
        obtain rfl := Option.some.inj H
        go_wp2
        go_ret
        exact ⟨ze, zb HB.out⟩
       ·replace c39 := Bool.eq_false_iff.mpr c39
        subst c39
        have H1 : (if ((rd_T51 l0_0 a2).f0) = 8 then (if 0 ≤ ((rd_T51 l0_0 a2).f1) then (if ((rd_T51 l0_0 a2).f1) < (l1.length : Int) then (if rdOf false l1 ((rd_T51 l0_0 a2).f1) = true then ((spec_l7Power.f kj22 l0_0 l1 l3 ((rd_T51 l0_0 a2).f2)).bind fun t142 => (if t142 = true then (some true) else (if 0 ≤ ((rd_T51 l0_0 a2).f2) then (if ((rd_T51 l0_0 a2).f2) < (l1.length : Int) then (if rdOf false l1 ((rd_T51 l0_0 a2).f2) = true then ((spec_l7Power.f kj22 l0_0 l1 l3 ((rd_T51 l0_0 a2).f1)).bind fun t144 => (some t144)) else (some false)) else (none)) else (none)))) else (if 0 ≤ ((rd_T51 l0_0 a2).f2) then (if ((rd_T51 l0_0 a2).f2) < (l1.length : Int) then (if rdOf false l1 ((rd_T51 l0_0 a2).f2) = true then ((spec_l7Power.f kj22 l0_0 l1 l3 ((rd_T51 l0_0 a2).f1)).bind fun t146 => (some t146)) else (some false)) else (none)) else (none))) else (none)) else (none)) else (some false)) = some r := by rw [if_neg (show ¬ (false = true) by decide)] at H; exact H
        clear H
        have H := H1
        clear H1
        by_cases c40 : ((rd_T51 l0_0 a2).f0) = 8
        ·rw [if_pos c40] at H
         have c40b0 : (((rd_T51 l0_0 a2).f0) == 8) = true := beq_iff_eq.mpr c40
         have c40b1 : (((rd_T51 l0_0 a2).f0) != 8) = false := bne_eq_false_iff_eq.mpr c40
         clear c40
         by_cases c41 : 0 ≤ ((rd_T51 l0_0 a2).f1)
         ·rw [if_pos c41] at H
          have c41b0 : decide (0 ≤ ((rd_T51 l0_0 a2).f1)) = true := decide_eq_true c41
          clear c41
          by_cases c42 : ((rd_T51 l0_0 a2).f1) < (l1.length : Int)
          ·rw [if_pos c42] at H
           have c42b0 : decide (((rd_T51 l0_0 a2).f1) < (l1.length : Int)) = true := decide_eq_true c42
           clear c42
           obtain ⟨bq43, hbq43⟩ : ∃ b_ : Bool, b_ = (rdOf false l1 ((rd_T51 l0_0 a2).f1)) := ⟨_, rfl⟩
           replace H : (if bq43 = true then ((spec_l7Power.f kj22 l0_0 l1 l3 ((rd_T51 l0_0 a2).f2)).bind fun t142 => (if t142 = true then (some true) else (if 0 ≤ ((rd_T51 l0_0 a2).f2) then (if ((rd_T51 l0_0 a2).f2) < (l1.length : Int) then (if rdOf false l1 ((rd_T51 l0_0 a2).f2) = true then ((spec_l7Power.f kj22 l0_0 l1 l3 ((rd_T51 l0_0 a2).f1)).bind fun t144 => (some t144)) else (some false)) else (none)) else (none)))) else (if 0 ≤ ((rd_T51 l0_0 a2).f2) then (if ((rd_T51 l0_0 a2).f2) < (l1.length : Int) then (if rdOf false l1 ((rd_T51 l0_0 a2).f2) = true then ((spec_l7Power.f kj22 l0_0 l1 l3 ((rd_T51 l0_0 a2).f1)).bind fun t146 => (some t146)) else (some false)) else (none)) else (none))) = some r := by rw [← hbq43] at H; exact H
           have Nbq43 := Aside0.mk hbq43
           clear hbq43
           by_cases c44 : bq43 = true
           ·subst c44
            have H1 : ((spec_l7Power.f kj22 l0_0 l1 l3 ((rd_T51 l0_0 a2).f2)).bind fun t142 => (if t142 = true then (some true) else (if 0 ≤ ((rd_T51 l0_0 a2).f2) then (if ((rd_T51 l0_0 a2).f2) < (l1.length : Int) then (if rdOf false l1 ((rd_T51 l0_0 a2).f2) = true then ((spec_l7Power.f kj22 l0_0 l1 l3 ((rd_T51 l0_0 a2).f1)).bind fun t144 => (some t144)) else (some false)) else (none)) else (none)))) = some r := by rw [if_pos rfl] at H; exact H
            clear H
            have H := H1
            clear H1
            replace H := Option.bind_eq_some_iff.mp H
            obtain ⟨t142, A450, H⟩ := H
            replace H : (if t142 = true then (some true) else (if 0 ≤ ((rd_T51 l0_0 a2).f2) then (if ((rd_T51 l0_0 a2).f2) < (l1.length : Int) then (if rdOf false l1 ((rd_T51 l0_0 a2).f2) = true then ((spec_l7Power.f kj22 l0_0 l1 l3 ((rd_T51 l0_0 a2).f1)).bind fun t144 => (some t144)) else (some false)) else (none)) else (none))) = some r := H
            have A45 := Aside0.mk A450
            clear A450
            by_cases c46 : t142 = true
            ·subst c46
             have H1 : (some true) = some r := by rw [if_pos rfl] at H; exact H
             clear H
             have H := H1
             clear H1
             obtain rfl := Option.some.inj H
             have hnb47 := NB135_133.out
             have hnc47 := NB133_135.out
             have hcz48_0 : wc.cell? ⟨gb135, 0, none⟩ = some (.int .i64 ((rd_T51 l0_0 a2).f0)) := (blk_cell BK135.out 0).trans rfl
             have hcz48_1 : wc.cell? ⟨gb135, 1, none⟩ = some (.int .i64 ((rd_T51 l0_0 a2).f1)) := (blk_cell BK135.out 1).trans rfl
             have hcz48_2 : wc.cell? ⟨gb135, 2, none⟩ = some (.int .i64 ((rd_T51 l0_0 a2).f2)) := (blk_cell BK135.out 2).trans rfl
             have hfz48_0 := blk_frozen BK135.out 0
             have hfz48_1 := blk_frozen BK135.out 1
             have hfz48_2 := blk_frozen BK135.out 2
             have p141 : 0 ≤ (((rd_T51 l0_0 a2).f1) : Int) := of_decide_eq_true (by first | (with_reducible assumption) | assumption)
             have q141 : ((rd_T51 l0_0 a2).f1) < (l1.length : Int) := of_decide_eq_true (by first | (with_reducible assumption) | assumption)
             obtain ⟨ad141, e141, hx141_0⟩ := Kd.at_bool HR1.out ((rd_T51 l0_0 a2).f1) p141 q141
             (try rw [← Nbq43.out] at hx141_0)
             cases e141
             replace hx141_0 := (HB.out.cell (World.block_lt_of_cell? w _ hx141_0)).trans hx141_0
             replace p141 := eq_true p141
             replace q141 := eq_true q141
             have hcz49_0 : wc.cell? ⟨gb133, 0, none⟩ = some (.slice (some ad134) l0_0.length c0_0) := (blk_cell BK133.out 0).trans rfl
             have hfz49_0 := blk_frozen BK133.out 0
             go_wp2_with (first | (go_at_call 90; (with_reducible refine (spec_l7Power.calls kj22 _ _ l0_0 _ _ l1 _ _ l3 ((rd_T51 l0_0 a2).f2) true _ ?side1 ?side2 ?side3 ?side4 ?side5 ?side6 A45.out).mono ?_); (case side1 => exact zc (Kd.C_below HR0_0.out HB.out)); (case side2 => exact HC0_0.out); (case side3 => exact zc (Kd.C_below HR1.out HB.out)); (case side4 => exact HC1.out); (case side5 => exact zc (Kd.C_below HR3.out HB.out)); (case side6 => exact HC3.out); rintro e w50 ⟨rfl, hb⟩; have n0_ := Aside0.mk (blk_below (zh BK133.out) hb); have n1_ := Aside0.mk (blk_below (zh BK135.out) hb); have n2_ := Aside0.mk (below_step (zb HB.out) hb); clear BK133; clear BK135; clear HB; have BK133 := n0_; have BK135 := n1_; have HB := n2_; clear n0_ n1_ n2_; (try clear hb); (try clear hb2); (try clear hk); (try clear hi)))
             go_ret
             exact ⟨ze, zb HB.out⟩
            ·replace c46 := Bool.eq_false_iff.mpr c46
             subst c46
             have H1 : (if 0 ≤ ((rd_T51 l0_0 a2).f2) then (if ((rd_T51 l0_0 a2).f2) < (l1.length : Int) then (if rdOf false l1 ((rd_T51 l0_0 a2).f2) = true then ((spec_l7Power.f kj22 l0_0 l1 l3 ((rd_T51 l0_0 a2).f1)).bind fun t144 => (some t144)) else (some false)) else (none)) else (none)) = some r := by rw [if_neg (show ¬ (false = true) by decide)] at H; exact H
             clear H
             have H := H1
             clear H1
             by_cases c51 : 0 ≤ ((rd_T51 l0_0 a2).f2)
             ·rw [if_pos c51] at H
              have c51b0 : decide (0 ≤ ((rd_T51 l0_0 a2).f2)) = true := decide_eq_true c51
              clear c51
              by_cases c52 : ((rd_T51 l0_0 a2).f2) < (l1.length : Int)
              ·rw [if_pos c52] at H
               have c52b0 : decide (((rd_T51 l0_0 a2).f2) < (l1.length : Int)) = true := decide_eq_true c52
               clear c52
               obtain ⟨bq53, hbq53⟩ : ∃ b_ : Bool, b_ = (rdOf false l1 ((rd_T51 l0_0 a2).f2)) := ⟨_, rfl⟩
               replace H : (if bq53 = true then ((spec_l7Power.f kj22 l0_0 l1 l3 ((rd_T51 l0_0 a2).f1)).bind fun t144 => (some t144)) else (some false)) = some r := by rw [← hbq53] at H; exact H
               have Nbq53 := Aside0.mk hbq53
               clear hbq53
               by_cases c54 : bq53 = true
               ·subst c54
                have H1 : ((spec_l7Power.f kj22 l0_0 l1 l3 ((rd_T51 l0_0 a2).f1)).bind fun t144 => (some t144)) = some r := by rw [if_pos rfl] at H; exact H
                clear H
                have H := H1
                clear H1
                replace H := Option.bind_eq_some_iff.mp H
                obtain ⟨t144, A550, H⟩ := H
                replace H : (some t144) = some r := H
                have A55 := Aside0.mk A550
                clear A550
                obtain rfl := Option.some.inj H
                have hnb56 := NB135_133.out
                have hnc56 := NB133_135.out
                have hcz57_0 : wc.cell? ⟨gb135, 0, none⟩ = some (.int .i64 ((rd_T51 l0_0 a2).f0)) := (blk_cell BK135.out 0).trans rfl
                have hcz57_1 : wc.cell? ⟨gb135, 1, none⟩ = some (.int .i64 ((rd_T51 l0_0 a2).f1)) := (blk_cell BK135.out 1).trans rfl
                have hcz57_2 : wc.cell? ⟨gb135, 2, none⟩ = some (.int .i64 ((rd_T51 l0_0 a2).f2)) := (blk_cell BK135.out 2).trans rfl
                have hfz57_0 := blk_frozen BK135.out 0
                have hfz57_1 := blk_frozen BK135.out 1
                have hfz57_2 := blk_frozen BK135.out 2
                have p141 : 0 ≤ (((rd_T51 l0_0 a2).f1) : Int) := of_decide_eq_true (by first | (with_reducible assumption) | assumption)
                have q141 : ((rd_T51 l0_0 a2).f1) < (l1.length : Int) := of_decide_eq_true (by first | (with_reducible assumption) | assumption)
                obtain ⟨ad141, e141, hx141_0⟩ := Kd.at_bool HR1.out ((rd_T51 l0_0 a2).f1) p141 q141
                (try rw [← Nbq43.out] at hx141_0)
                (try rw [← Nbq53.out] at hx141_0)
                cases e141
                replace hx141_0 := (HB.out.cell (World.block_lt_of_cell? w _ hx141_0)).trans hx141_0
                replace p141 := eq_true p141
                replace q141 := eq_true q141
                have hcz58_0 : wc.cell? ⟨gb133, 0, none⟩ = some (.slice (some ad134) l0_0.length c0_0) := (blk_cell BK133.out 0).trans rfl
                have hfz58_0 := blk_frozen BK133.out 0
                go_wp2_with (first | (go_at_call 90; (with_reducible refine (spec_l7Power.calls kj22 _ _ l0_0 _ _ l1 _ _ l3 ((rd_T51 l0_0 a2).f2) false _ ?side1 ?side2 ?side3 ?side4 ?side5 ?side6 A45.out).mono ?_); (case side1 => exact zc (Kd.C_below HR0_0.out HB.out)); (case side2 => exact HC0_0.out); (case side3 => exact zc (Kd.C_below HR1.out HB.out)); (case side4 => exact HC1.out); (case side5 => exact zc (Kd.C_below HR3.out HB.out)); (case side6 => exact HC3.out); rintro e w59 ⟨rfl, hb⟩; have n0_ := Aside0.mk (blk_below (zh BK133.out) hb); have n1_ := Aside0.mk (blk_below (zh BK135.out) hb); have n2_ := Aside0.mk (below_step (zb HB.out) hb); clear BK133; clear BK135; clear HB; have BK133 := n0_; have BK135 := n1_; have HB := n2_; clear n0_ n1_ n2_; (try clear hb); (try clear hb2); (try clear hk); (try clear hi); have hcz60_0 : w59.cell? ⟨gb135, 0, none⟩ = some (.int .i64 ((rd_T51 l0_0 a2).f0)) := (blk_cell BK135.out 0).trans rfl; have hcz60_1 : w59.cell? ⟨gb135, 1, none⟩ = some (.int .i64 ((rd_T51 l0_0 a2).f1)) := (blk_cell BK135.out 1).trans rfl; have hcz60_2 : w59.cell? ⟨gb135, 2, none⟩ = some (.int .i64 ((rd_T51 l0_0 a2).f2)) := (blk_cell BK135.out 2).trans rfl; have hfz60_0 := blk_frozen BK135.out 0; have hfz60_1 := blk_frozen BK135.out 1; have hfz60_2 := blk_frozen BK135.out 2; have p143 : 0 ≤ (((rd_T51 l0_0 a2).f2) : Int) := of_decide_eq_true (by first | (with_reducible assumption) | assumption); have q143 : ((rd_T51 l0_0 a2).f2) < (l1.length : Int) := of_decide_eq_true (by first | (with_reducible assumption) | assumption); obtain ⟨ad143, e143, hx143_0⟩ := Kd.at_bool HR1.out ((rd_T51 l0_0 a2).f2) p143 q143; (try rw [← Nbq43.out] at hx143_0); (try rw [← Nbq53.out] at hx143_0); obtain rfl : ad141 = ad143 := (by injection e143); replace hx143_0 := (HB.out.cell (World.block_lt_of_cell? w _ hx143_0)).trans hx143_0; replace p143 := eq_true p143; replace q143 := eq_true q143; have hcz61_0 : w59.cell? ⟨gb133, 0, none⟩ = some (.slice (some ad134) l0_0.length c0_0) := (blk_cell BK133.out 0).trans rfl; have hfz61_0 := blk_frozen BK133.out 0) | (go_at_call 90; (with_reducible refine (spec_l7Power.calls kj22 _ _ l0_0 _ _ l1 _ _ l3 ((rd_T51 l0_0 a2).f1) t144 _ ?side1 ?side2 ?side3 ?side4 ?side5 ?side6 A55.out).mono ?_); (case side1 => exact zc (Kd.C_below HR0_0.out HB.out)); (case side2 => exact HC0_0.out); (case side3 => exact zc (Kd.C_below HR1.out HB.out)); (case side4 => exact HC1.out); (case side5 => exact zc (Kd.C_below HR3.out HB.out)); (case side6 => exact HC3.out); rintro e w62 ⟨rfl, hb⟩; have n0_ := Aside0.mk (blk_below (zh BK133.out) hb); have n1_ := Aside0.mk (blk_below (zh BK135.out) hb); have n2_ := Aside0.mk (below_step (zb HB.out) hb); clear BK133; clear BK135; clear HB; have BK133 := n0_; have BK135 := n1_; have HB := n2_; clear n0_ n1_ n2_; (try clear hb); (try clear hb2); (try clear hk); (try clear hi)))
                go_ret
                exact ⟨ze, zb HB.out⟩
               ·replace c54 := Bool.eq_false_iff.mpr c54
                subst c54
                have H1 : (some false) = some r := by rw [if_neg (show ¬ (false = true) by decide)] at H; exact H
                clear H
                have H := H1
                clear H1
                obtain rfl := Option.some.inj H
                have hnb63 := NB135_133.out
                have hnc63 := NB133_135.out
                have hcz64_0 : wc.cell? ⟨gb135, 0, none⟩ = some (.int .i64 ((rd_T51 l0_0 a2).f0)) := (blk_cell BK135.out 0).trans rfl
                have hcz64_1 : wc.cell? ⟨gb135, 1, none⟩ = some (.int .i64 ((rd_T51 l0_0 a2).f1)) := (blk_cell BK135.out 1).trans rfl
                have hcz64_2 : wc.cell? ⟨gb135, 2, none⟩ = some (.int .i64 ((rd_T51 l0_0 a2).f2)) := (blk_cell BK135.out 2).trans rfl
                have hfz64_0 := blk_frozen BK135.out 0
                have hfz64_1 := blk_frozen BK135.out 1
                have hfz64_2 := blk_frozen BK135.out 2
                have p141 : 0 ≤ (((rd_T51 l0_0 a2).f1) : Int) := of_decide_eq_true (by first | (with_reducible assumption) | assumption)
                have q141 : ((rd_T51 l0_0 a2).f1) < (l1.length : Int) := of_decide_eq_true (by first | (with_reducible assumption) | assumption)
                obtain ⟨ad141, e141, hx141_0⟩ := Kd.at_bool HR1.out ((rd_T51 l0_0 a2).f1) p141 q141
                (try rw [← Nbq43.out] at hx141_0)
                (try rw [← Nbq53.out] at hx141_0)
                cases e141
                replace hx141_0 := (HB.out.cell (World.block_lt_of_cell? w _ hx141_0)).trans hx141_0
                replace p141 := eq_true p141
                replace q141 := eq_true q141
                have hcz65_0 : wc.cell? ⟨gb133, 0, none⟩ = some (.slice (some ad134) l0_0.length c0_0) := (blk_cell BK133.out 0).trans rfl
                have hfz65_0 := blk_frozen BK133.out 0
                go_wp2_with (first | (go_at_call 90; (with_reducible refine (spec_l7Power.calls kj22 _ _ l0_0 _ _ l1 _ _ l3 ((rd_T51 l0_0 a2).f2) false _ ?side1 ?side2 ?side3 ?side4 ?side5 ?side6 A45.out).mono ?_); (case side1 => exact zc (Kd.C_below HR0_0.out HB.out)); (case side2 => exact HC0_0.out); (case side3 => exact zc (Kd.C_below HR1.out HB.out)); (case side4 => exact HC1.out); (case side5 => exact zc (Kd.C_below HR3.out HB.out)); (case side6 => exact HC3.out); rintro e w66 ⟨rfl, hb⟩; have n0_ := Aside0.mk (blk_below (zh BK133.out) hb); have n1_ := Aside0.mk (blk_below (zh BK135.out) hb); have n2_ := Aside0.mk (below_step (zb HB.out) hb); clear BK133; clear BK135; clear HB; have BK133 := n0_; have BK135 := n1_; have HB := n2_; clear n0_ n1_ n2_; (try clear hb); (try clear hb2); (try clear hk); (try clear hi); have hcz67_0 : w66.cell? ⟨gb135, 0, none⟩ = some (.int .i64 ((rd_T51 l0_0 a2).f0)) := (blk_cell BK135.out 0).trans rfl; have hcz67_1 : w66.cell? ⟨gb135, 1, none⟩ = some (.int .i64 ((rd_T51 l0_0 a2).f1)) := (blk_cell BK135.out 1).trans rfl; have hcz67_2 : w66.cell? ⟨gb135, 2, none⟩ = some (.int .i64 ((rd_T51 l0_0 a2).f2)) := (blk_cell BK135.out 2).trans rfl; have hfz67_0 := blk_frozen BK135.out 0; have hfz67_1 := blk_frozen BK135.out 1; have hfz67_2 := blk_frozen BK135.out 2; have p143 : 0 ≤ (((rd_T51 l0_0 a2).f2) : Int) := of_decide_eq_true (by first | (with_reducible assumption) | assumption); have q143 : ((rd_T51 l0_0 a2).f2) < (l1.length : Int) := of_decide_eq_true (by first | (with_reducible assumption) | assumption); obtain ⟨ad143, e143, hx143_0⟩ := Kd.at_bool HR1.out ((rd_T51 l0_0 a2).f2) p143 q143; (try rw [← Nbq43.out] at hx143_0); (try rw [← Nbq53.out] at hx143_0); obtain rfl : ad141 = ad143 := (by injection e143); replace hx143_0 := (HB.out.cell (World.block_lt_of_cell? w _ hx143_0)).trans hx143_0; replace p143 := eq_true p143; replace q143 := eq_true q143))
                go_ret
                exact ⟨ze, zb HB.out⟩
              ·rw [if_neg c52] at H
               exact absurd H (by simp)
             ·rw [if_neg c51] at H
              exact absurd H (by simp)
           ·replace c44 := Bool.eq_false_iff.mpr c44
            subst c44
            have H1 : (if 0 ≤ ((rd_T51 l0_0 a2).f2) then (if ((rd_T51 l0_0 a2).f2) < (l1.length : Int) then (if rdOf false l1 ((rd_T51 l0_0 a2).f2) = true then ((spec_l7Power.f kj22 l0_0 l1 l3 ((rd_T51 l0_0 a2).f1)).bind fun t146 => (some t146)) else (some false)) else (none)) else (none)) = some r := by rw [if_neg (show ¬ (false = true) by decide)] at H; exact H
            clear H
            have H := H1
            clear H1
            by_cases c68 : 0 ≤ ((rd_T51 l0_0 a2).f2)
            ·rw [if_pos c68] at H
             have c68b0 : decide (0 ≤ ((rd_T51 l0_0 a2).f2)) = true := decide_eq_true c68
             clear c68
             by_cases c69 : ((rd_T51 l0_0 a2).f2) < (l1.length : Int)
             ·rw [if_pos c69] at H
              have c69b0 : decide (((rd_T51 l0_0 a2).f2) < (l1.length : Int)) = true := decide_eq_true c69
              clear c69
              obtain ⟨bq70, hbq70⟩ : ∃ b_ : Bool, b_ = (rdOf false l1 ((rd_T51 l0_0 a2).f2)) := ⟨_, rfl⟩
              replace H : (if bq70 = true then ((spec_l7Power.f kj22 l0_0 l1 l3 ((rd_T51 l0_0 a2).f1)).bind fun t146 => (some t146)) else (some false)) = some r := by rw [← hbq70] at H; exact H
              have Nbq70 := Aside0.mk hbq70
              clear hbq70
              by_cases c71 : bq70 = true
              ·subst c71
               have H1 : ((spec_l7Power.f kj22 l0_0 l1 l3 ((rd_T51 l0_0 a2).f1)).bind fun t146 => (some t146)) = some r := by rw [if_pos rfl] at H; exact H
               clear H
               have H := H1
               clear H1
               replace H := Option.bind_eq_some_iff.mp H
               obtain ⟨t146, A720, H⟩ := H
               replace H : (some t146) = some r := H
               have A72 := Aside0.mk A720
               clear A720
               obtain rfl := Option.some.inj H
               have hnb73 := NB135_133.out
               have hnc73 := NB133_135.out
               have hcz74_0 : wc.cell? ⟨gb135, 0, none⟩ = some (.int .i64 ((rd_T51 l0_0 a2).f0)) := (blk_cell BK135.out 0).trans rfl
               have hcz74_1 : wc.cell? ⟨gb135, 1, none⟩ = some (.int .i64 ((rd_T51 l0_0 a2).f1)) := (blk_cell BK135.out 1).trans rfl
               have hcz74_2 : wc.cell? ⟨gb135, 2, none⟩ = some (.int .i64 ((rd_T51 l0_0 a2).f2)) := (blk_cell BK135.out 2).trans rfl
               have hfz74_0 := blk_frozen BK135.out 0
               have hfz74_1 := blk_frozen BK135.out 1
               have hfz74_2 := blk_frozen BK135.out 2
               have p141 : 0 ≤ (((rd_T51 l0_0 a2).f1) : Int) := of_decide_eq_true (by first | (with_reducible assumption) | assumption)
               have q141 : ((rd_T51 l0_0 a2).f1) < (l1.length : Int) := of_decide_eq_true (by first | (with_reducible assumption) | assumption)
               obtain ⟨ad141, e141, hx141_0⟩ := Kd.at_bool HR1.out ((rd_T51 l0_0 a2).f1) p141 q141
               (try rw [← Nbq43.out] at hx141_0)
               (try rw [← Nbq70.out] at hx141_0)
               cases e141
               replace hx141_0 := (HB.out.cell (World.block_lt_of_cell? w _ hx141_0)).trans hx141_0
               replace p141 := eq_true p141
               replace q141 := eq_true q141
               have p145 : 0 ≤ (((rd_T51 l0_0 a2).f2) : Int) := of_decide_eq_true (by first | (with_reducible assumption) | assumption)
               have q145 : ((rd_T51 l0_0 a2).f2) < (l1.length : Int) := of_decide_eq_true (by first | (with_reducible assumption) | assumption)
               obtain ⟨ad145, e145, hx145_0⟩ := Kd.at_bool HR1.out ((rd_T51 l0_0 a2).f2) p145 q145
               (try rw [← Nbq43.out] at hx145_0)
               (try rw [← Nbq70.out] at hx145_0)
               obtain rfl : ad141 = ad145 := (by injection e145)
               replace hx145_0 := (HB.out.cell (World.block_lt_of_cell? w _ hx145_0)).trans hx145_0
               replace p145 := eq_true p145
               replace q145 := eq_true q145
               have hcz75_0 : wc.cell? ⟨gb133, 0, none⟩ = some (.slice (some ad134) l0_0.length c0_0) := (blk_cell BK133.out 0).trans rfl
               have hfz75_0 := blk_frozen BK133.out 0
               go_wp2_with (first | (go_at_call 90; (with_reducible refine (spec_l7Power.calls kj22 _ _ l0_0 _ _ l1 _ _ l3 ((rd_T51 l0_0 a2).f1) t146 _ ?side1 ?side2 ?side3 ?side4 ?side5 ?side6 A72.out).mono ?_); (case side1 => exact zc (Kd.C_below HR0_0.out HB.out)); (case side2 => exact HC0_0.out); (case side3 => exact zc (Kd.C_below HR1.out HB.out)); (case side4 => exact HC1.out); (case side5 => exact zc (Kd.C_below HR3.out HB.out)); (case side6 => exact HC3.out); rintro e w76 ⟨rfl, hb⟩; have n0_ := Aside0.mk (blk_below (zh BK133.out) hb); have n1_ := Aside0.mk (blk_below (zh BK135.out) hb); have n2_ := Aside0.mk (below_step (zb HB.out) hb); clear BK133; clear BK135; clear HB; have BK133 := n0_; have BK135 := n1_; have HB := n2_; clear n0_ n1_ n2_; (try clear hb); (try clear hb2); (try clear hk); (try clear hi)))
               go_ret
               exact ⟨ze, zb HB.out⟩
              ·replace c71 := Bool.eq_false_iff.mpr c71
               subst c71
               have H1 : (some false) = some r := by rw [if_neg (show ¬ (false = true) by decide)] at H; exact H
               clear H
               have H := H1
               clear H1
               obtain rfl := Option.some.inj H
               have hnb77 := NB135_133.out
               have hnc77 := NB133_135.out
               have hcz78_0 : wc.cell? ⟨gb135, 0, none⟩ = some (.int .i64 ((rd_T51 l0_0 a2).f0)) := (blk_cell BK135.out 0).trans rfl
               have hcz78_1 : wc.cell? ⟨gb135, 1, none⟩ = some (.int .i64 ((rd_T51 l0_0 a2).f1)) := (blk_cell BK135.out 1).trans rfl
               have hcz78_2 : wc.cell? ⟨gb135, 2, none⟩ = some (.int .i64 ((rd_T51 l0_0 a2).f2)) := (blk_cell BK135.out 2).trans rfl
               have hfz78_0 := blk_frozen BK135.out 0
               have hfz78_1 := blk_frozen BK135.out 1
               have hfz78_2 := blk_frozen BK135.out 2
               have p141 : 0 ≤ (((rd_T51 l0_0 a2).f1) : Int) := of_decide_eq_true (by first | (with_reducible assumption) | assumption)
               have q141 : ((rd_T51 l0_0 a2).f1) < (l1.length : Int) := of_decide_eq_true (by first | (with_reducible assumption) | assumption)
               obtain ⟨ad141, e141, hx141_0⟩ := Kd.at_bool HR1.out ((rd_T51 l0_0 a2).f1) p141 q141
               (try rw [← Nbq43.out] at hx141_0)
               (try rw [← Nbq70.out] at hx141_0)
               cases e141
               replace hx141_0 := (HB.out.cell (World.block_lt_of_cell? w _ hx141_0)).trans hx141_0
               replace p141 := eq_true p141
               replace q141 := eq_true q141
               have p145 : 0 ≤ (((rd_T51 l0_0 a2).f2) : Int) := of_decide_eq_true (by first | (with_reducible assumption) | assumption)
               have q145 : ((rd_T51 l0_0 a2).f2) < (l1.length : Int) := of_decide_eq_true (by first | (with_reducible assumption) | assumption)
               obtain ⟨ad145, e145, hx145_0⟩ := Kd.at_bool HR1.out ((rd_T51 l0_0 a2).f2) p145 q145
               (try rw [← Nbq43.out] at hx145_0)
               (try rw [← Nbq70.out] at hx145_0)
               obtain rfl : ad141 = ad145 := (by injection e145)
               replace hx145_0 := (HB.out.cell (World.block_lt_of_cell? w _ hx145_0)).trans hx145_0
               replace p145 := eq_true p145
               replace q145 := eq_true q145
               go_wp2
               go_ret
               exact ⟨ze, zb HB.out⟩
             ·rw [if_neg c69] at H
              exact absurd H (by simp)
            ·rw [if_neg c68] at H
             exact absurd H (by simp)
          ·rw [if_neg c42] at H
           exact absurd H (by simp)
         ·rw [if_neg c41] at H
          exact absurd H (by simp)
        ·rw [if_neg c40] at H
         have c40b0 : (((rd_T51 l0_0 a2).f0) == 8) = false := beq_eq_false_iff_ne.mpr c40
         have c40b1 : (((rd_T51 l0_0 a2).f0) != 8) = true := bne_iff_ne.mpr c40
         obtain rfl := Option.some.inj H
         have hnb79 := NB135_133.out
         have hnc79 := NB133_135.out
         have hcz80_0 : wc.cell? ⟨gb135, 0, none⟩ = some (.int .i64 ((rd_T51 l0_0 a2).f0)) := (blk_cell BK135.out 0).trans rfl
         have hcz80_1 : wc.cell? ⟨gb135, 1, none⟩ = some (.int .i64 ((rd_T51 l0_0 a2).f1)) := (blk_cell BK135.out 1).trans rfl
         have hcz80_2 : wc.cell? ⟨gb135, 2, none⟩ = some (.int .i64 ((rd_T51 l0_0 a2).f2)) := (blk_cell BK135.out 2).trans rfl
         have hfz80_0 := blk_frozen BK135.out 0
         have hfz80_1 := blk_frozen BK135.out 1
         have hfz80_2 := blk_frozen BK135.out 2
         go_wp2
         go_ret
         exact ⟨ze, zb HB.out⟩
  ·rw [if_neg c6] at H
   exact absurd H (by simp)
 ·rw [if_neg c5] at H
  exact absurd H (by simp)

end Go.Proofs.Ytgohebghlgamiaa.M
end
