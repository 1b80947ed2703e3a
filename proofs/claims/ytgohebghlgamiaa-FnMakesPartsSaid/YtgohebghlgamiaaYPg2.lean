import Derived.Test.YtgohebghlgamiaaYP0
import Derived.Test.YtgohebghlgamiaaYPg0
import Derived.Test.YtgohebghlgamiaaYPg1
import Derived.ChangeMaps4
import Derived.MapKept
import Derived.RegionTactic
import Derived.ChangeAlike
import Derived.Laws.StructEq
section
-- Written by this session's program (wip/tools/gprint.py over the kit's print) out of the translation; Lean checks it.
namespace Go.Proofs.Ytgohebghlgamiaa.P
open Go.RowKit Go.Proofs.YtgohebghlgamiaaW.PrintWords Go.Proofs.YtgohebghlgamiaaW.PrintLast Go.Proofs.YtgohebghlgamiaaW.PrintMore
attribute [local go_sem] max2_int min2_int max_two min_two max_three min_three max_four min_four   -- for this text's walks alone
set_option linter.unusedVariables false
set_option linter.unusedSimpArgs false
set_option maxRecDepth 100000

/-! ### spec_l7Made: function 69 -/
def spec_l7Made.j0 : Nat → List Bool → List Int → Bool → List (S51) → Int → Int → Int → Option (Bool)
 | 0, _, _, _, _, _, _, _ => none
 | k + 1, x1, x3, x32, x132000, x134000, x134001, x134002 => if x32 = true then (some true) else (if x134000 = 8 then (if 0 ≤ x134001 then (if x134001 < (x1.length : Int) then (if rdOf false x1 x134001 = true then ((spec_l7Power.f k x132000 x1 x3 x134002).bind fun t140 => (if t140 = true then (some true) else (if 0 ≤ x134002 then (if x134002 < (x1.length : Int) then (if rdOf false x1 x134002 = true then ((spec_l7Power.f k x132000 x1 x3 x134001).bind fun t142 => (some t142)) else (some false)) else (none)) else (none)))) else (if 0 ≤ x134002 then (if x134002 < (x1.length : Int) then (if rdOf false x1 x134002 = true then ((spec_l7Power.f k x132000 x1 x3 x134001).bind fun t144 => (some t144)) else (some false)) else (none)) else (none))) else (none)) else (none)) else (some false))
def spec_l7Made.f (k : Nat) (l0_0 : List (S51)) (l1 : List Bool) (a2 : Int) (l3 : List Int) : Option (Bool) := if 0 ≤ a2 then (if a2 < (l0_0.length : Int) then (if ((rd_T51 l0_0 a2).f0) = 1 then ((spec_IsPublic.f ((rd_T51 l0_0 a2).f1)).bind fun t134 => (some t134)) else ((spec_l1Parts.f k ((rd_T51 l0_0 a2).f0)).bind fun t135 => (if t135 = 1 then (if 0 ≤ ((rd_T51 l0_0 a2).f1) then (if ((rd_T51 l0_0 a2).f1) < (l1.length : Int) then (some (rdOf false l1 ((rd_T51 l0_0 a2).f1))) else (none)) else (none)) else (if 0 ≤ ((rd_T51 l0_0 a2).f1) then (if ((rd_T51 l0_0 a2).f1) < (l1.length : Int) then (if rdOf false l1 ((rd_T51 l0_0 a2).f1) = true then (if 0 ≤ ((rd_T51 l0_0 a2).f2) then (if ((rd_T51 l0_0 a2).f2) < (l1.length : Int) then (spec_l7Made.j0 k l1 l3 (rdOf false l1 ((rd_T51 l0_0 a2).f2)) l0_0 ((rd_T51 l0_0 a2).f0) ((rd_T51 l0_0 a2).f1) ((rd_T51 l0_0 a2).f2)) else (none)) else (none)) else (spec_l7Made.j0 k l1 l3 false l0_0 ((rd_T51 l0_0 a2).f0) ((rd_T51 l0_0 a2).f1) ((rd_T51 l0_0 a2).f2))) else (none)) else (none))))) else (none)) else (none)
theorem spec_l7Made.mono_l : ∀ k, (∀ y0 y1 y2 y3 y4 y5 y6, LeO (spec_l7Made.j0 k y0 y1 y2 y3 y4 y5 y6) (spec_l7Made.j0 (k + 1) y0 y1 y2 y3 y4 y5 y6))
 | 0 => fun _ _ _ _ _ _ _ r h => by simp [spec_l7Made.j0] at h
 | k + 1 => by
  have ih0 := spec_l7Made.mono_l k
  ·intro y0 y1 y2 y3 y4 y5 y6
   unfold spec_l7Made.j0
   repeat' first
   | (with_reducible exact ih0 _ _ _ _ _ _ _)
   | (with_reducible exact spec_l1Parts.mono _ _)
   | (with_reducible exact spec_l7Power.mono _ _ _ _ _)
   | (with_reducible exact LeO.refl _)
   | (with_reducible exact LeO.none _)
   | (with_reducible refine LeO.ite ?_ ?_)
   | (with_reducible refine LeO.bind ?_ (fun _ => ?_))
   | exact ih0 _ _ _ _ _ _ _
   | exact spec_l1Parts.mono _ _
   | exact spec_l7Power.mono _ _ _ _ _
   | exact LeO.none _
   | refine LeO.ite ?_ ?_
   | refine LeO.bind ?_ (fun _ => ?_)
theorem spec_l7Made.mono : ∀ a0 a1 a2 a3 k, LeO (spec_l7Made.f k a0 a1 a2 a3) (spec_l7Made.f (k + 1) a0 a1 a2 a3) := by
 intro a0 a1 a2 a3 k
 have ih0 := spec_l7Made.mono_l k
 unfold spec_l7Made.f
 repeat' first
   | (with_reducible exact ih0 _ _ _ _ _ _ _)
   | (with_reducible exact spec_l1Parts.mono _ _)
   | (with_reducible exact spec_l7Power.mono _ _ _ _ _)
   | (with_reducible exact LeO.refl _)
   | (with_reducible exact LeO.none _)
   | (with_reducible refine LeO.ite ?_ ?_)
   | (with_reducible refine LeO.bind ?_ (fun _ => ?_))
   | exact ih0 _ _ _ _ _ _ _
   | exact spec_l1Parts.mono _ _
   | exact spec_l7Power.mono _ _ _ _ _
   | exact LeO.none _
   | refine LeO.ite ?_ ?_
   | refine LeO.bind ?_ (fun _ => ?_)
set_option maxHeartbeats 8000000 in
set_option maxRecDepth 100000 in
theorem spec_l7Made.calls (k : Nat) (A0_0 : Option Addr) (c0_0 : Nat) (l0_0 : List (S51)) (A1 : Option Addr) (c1 : Nat) (l1 : List Bool) (a2 : Int) (A3 : Option Addr) (c3 : Nat) (l3 : List Int) (r : Bool) (w : World) (hr0_0 : Kd.C k51 w A0_0 l0_0.length l0_0) (hc0_0 : l0_0.length ≤ c0_0) (hr1 : Kd.C Kd.bool w A1 l1.length l1) (hc1 : l1.length ≤ c1) (hr3 : Kd.C (Kd.int .i64) w A3 l3.length l3) (hc3 : l3.length ≤ c3) (h : spec_l7Made.f k l0_0 l1 a2 l3 = some r) :
  Calls Try.prog 69 #[.agg #[.slice A0_0 l0_0.length c0_0], .slice A1 l1.length c1, .int .i64 a2, .slice A3 l3.length c3] w fun e w' => e = .returned (.bool r) ∧ Below w.heap.size w w' := by
 have hu30 := Try.underlying30
 have hu51 := Try.underlying51
 have HR0_0 := Aside0.mk hr0_0
 have HC0_0 := Aside0.mk hc0_0
 clear hr0_0 hc0_0
 have HR1 := Aside0.mk hr1
 have HC1 := Aside0.mk hc1
 clear hr1 hc1
 have HR3 := Aside0.mk hr3
 have HC3 := Aside0.mk hc3
 clear hr3 hc3
 have HB := Aside0.mk (Below.refl w.heap.size w)
 have H : (if 0 ≤ a2 then (if a2 < (l0_0.length : Int) then (if ((rd_T51 l0_0 a2).f0) = 1 then ((spec_IsPublic.f ((rd_T51 l0_0 a2).f1)).bind fun t134 => (some t134)) else ((spec_l1Parts.f k ((rd_T51 l0_0 a2).f0)).bind fun t135 => (if t135 = 1 then (if 0 ≤ ((rd_T51 l0_0 a2).f1) then (if ((rd_T51 l0_0 a2).f1) < (l1.length : Int) then (some (rdOf false l1 ((rd_T51 l0_0 a2).f1))) else (none)) else (none)) else (if 0 ≤ ((rd_T51 l0_0 a2).f1) then (if ((rd_T51 l0_0 a2).f1) < (l1.length : Int) then (if rdOf false l1 ((rd_T51 l0_0 a2).f1) = true then (if 0 ≤ ((rd_T51 l0_0 a2).f2) then (if ((rd_T51 l0_0 a2).f2) < (l1.length : Int) then (spec_l7Made.j0 k l1 l3 (rdOf false l1 ((rd_T51 l0_0 a2).f2)) l0_0 ((rd_T51 l0_0 a2).f0) ((rd_T51 l0_0 a2).f1) ((rd_T51 l0_0 a2).f2)) else (none)) else (none)) else (spec_l7Made.j0 k l1 l3 false l0_0 ((rd_T51 l0_0 a2).f0) ((rd_T51 l0_0 a2).f1) ((rd_T51 l0_0 a2).f2))) else (none)) else (none))))) else (none)) else (none)) = some r := h
 clear h
 by_cases c5 : 0 ≤ a2
 ·rw [if_pos c5] at H
  have c5b0 : decide (0 ≤ a2) = true := decide_eq_true c5
  clear c5
  by_cases c6 : a2 < (l0_0.length : Int)
  ·rw [if_pos c6] at H
   have c6b0 : decide (a2 < (l0_0.length : Int)) = true := decide_eq_true c6
   clear c6
   by_cases c7 : ((rd_T51 l0_0 a2).f0) = 1
   ·rw [if_pos c7] at H
    have c7b0 : (((rd_T51 l0_0 a2).f0) == 1) = true := beq_iff_eq.mpr c7
    have c7b1 : (((rd_T51 l0_0 a2).f0) != 1) = false := bne_eq_false_iff_eq.mpr c7
    clear c7
    replace H := Option.bind_eq_some_iff.mp H
    obtain ⟨t134, A80, H⟩ := H
    replace H : (some t134) = some r := H
    have A8 := Aside0.mk A80
    clear A80
    obtain rfl := Option.some.inj H
    go_enter Try.func69, Try.ntmps69
    go_wp2_with (first | ((with_reducible refine gate_dst (N := 4) rfl ?_); refine box_event ?hg (N := 4) ?hd (cs := #[.slice A0_0 l0_0.length c0_0]) (t := 30) ?hr ?_; (case hd => rfl); (case hg => rfl); (case hr => first | (go_simp; done) | (go_simp; rfl)); intro gb131 hg w9 hbox hb; have n0_ := Aside0.mk (below_step (zb HB.out) hb); have n1_ := Aside0.mk (hbox); have n2_ := Aside0.mk ((by rw [hg]; exact (below_size (zb HB.out)) : w.heap.size ≤ gb131)); have n3_ := Aside0.mk ((by rw [hg]; exact (below_size (zb HB.out)) : w.heap.size ≤ gb131)); clear HB; have HB := n0_; have BK131 := n1_; have GW131 := n2_; have GE131 := n3_; clear n0_ n1_ n2_ n3_; clear hb hbox hg; have hcz10_0 : w9.cell? ⟨gb131, 0, none⟩ = some (.slice A0_0 l0_0.length c0_0) := (blk_cell BK131.out 0).trans rfl; have hfz10_0 := blk_frozen BK131.out 0; have p132 : 0 ≤ (a2 : Int) := of_decide_eq_true (by first | (with_reducible assumption) | assumption); have q132 : a2 < (l0_0.length : Int) := of_decide_eq_true (by first | (with_reducible assumption) | assumption); obtain ⟨ad132, e132, hx132_0, hx132_1, hx132_2⟩ := at_T51 HR0_0.out a2 p132 q132; cases e132; replace hx132_0 := (HB.out.cell (World.block_lt_of_cell? w _ hx132_0)).trans hx132_0; replace hx132_1 := (HB.out.cell (World.block_lt_of_cell? w _ hx132_1)).trans hx132_1; replace hx132_2 := (HB.out.cell (World.block_lt_of_cell? w _ hx132_2)).trans hx132_2; replace p132 := eq_true p132; replace q132 := eq_true q132) | ((with_reducible refine gate_dst (N := 9) rfl ?_); refine box_event ?hg (N := 9) ?hd (cs := #[.int .i64 0, .int .i64 0, .int .i64 0]) (t := 51) ?hr ?_; (case hd => rfl); (case hg => rfl); (case hr => first | (go_simp; done) | (go_simp; rfl)); intro gb133 hg w11 hbox hb; have n0_ := Aside0.mk (blk_below (zh BK131.out) hb); have n1_ := Aside0.mk (below_step (zb HB.out) hb); have n2_ := Aside0.mk (hbox); have n3_ := Aside0.mk ((by rw [hg]; exact (below_size (zb HB.out)) : w.heap.size ≤ gb133)); have n4_ := Aside0.mk ((by rw [hg]; exact (below_size (zb HB.out)) : w.heap.size ≤ gb133)); have n5_ := Aside0.mk ((by rw [hg]; exact Nat.ne_of_lt (blk_lt (zh BK131.out)) : gb131 ≠ gb133)); have n6_ := Aside0.mk ((by rw [hg]; exact Nat.ne_of_gt (blk_lt (zh BK131.out)) : gb133 ≠ gb131)); clear BK131; clear HB; have BK131 := n0_; have HB := n1_; have BK133 := n2_; have GW133 := n3_; have GE133 := n4_; have NB131_133 := n5_; have NB133_131 := n6_; clear n0_ n1_ n2_ n3_ n4_ n5_ n6_; clear hb hbox hg; have hnb12 := NB133_131.out; have hnc12 := NB131_133.out; have hcz13_0 : w11.cell? ⟨gb133, 0, none⟩ = some (.int .i64 0) := (blk_cell BK133.out 0).trans rfl; have hcz13_1 : w11.cell? ⟨gb133, 1, none⟩ = some (.int .i64 0) := (blk_cell BK133.out 1).trans rfl; have hcz13_2 : w11.cell? ⟨gb133, 2, none⟩ = some (.int .i64 0) := (blk_cell BK133.out 2).trans rfl; have hfz13_0 := blk_frozen BK133.out 0; have hfz13_1 := blk_frozen BK133.out 1; have hfz13_2 := blk_frozen BK133.out 2) | ((with_reducible refine gate_callee (f := 88) rfl ?_); refine goesL_ (some 21) rfl rfl Try.func88 (by kernel_rfl) rfl #[.int .i64 ((rd_T51 l0_0 a2).f1)] rfl zl ?_; (with_reducible refine (spec_IsPublic.calls ((rd_T51 l0_0 a2).f1) t134 _ A8.out).mono ?_); rintro e w' ⟨rfl, ⟨nd, rfl⟩⟩; refine ⟨_, rfl, ?_⟩))
    go_ret
    exact ⟨ze, zb HB.out⟩
   ·rw [if_neg c7] at H
    have c7b0 : (((rd_T51 l0_0 a2).f0) == 1) = false := beq_eq_false_iff_ne.mpr c7
    have c7b1 : (((rd_T51 l0_0 a2).f0) != 1) = true := bne_iff_ne.mpr c7
    replace H := Option.bind_eq_some_iff.mp H
    obtain ⟨t135, A140, H⟩ := H
    replace H : (if t135 = 1 then (if 0 ≤ ((rd_T51 l0_0 a2).f1) then (if ((rd_T51 l0_0 a2).f1) < (l1.length : Int) then (some (rdOf false l1 ((rd_T51 l0_0 a2).f1))) else (none)) else (none)) else (if 0 ≤ ((rd_T51 l0_0 a2).f1) then (if ((rd_T51 l0_0 a2).f1) < (l1.length : Int) then (if rdOf false l1 ((rd_T51 l0_0 a2).f1) = true then (if 0 ≤ ((rd_T51 l0_0 a2).f2) then (if ((rd_T51 l0_0 a2).f2) < (l1.length : Int) then (spec_l7Made.j0 k l1 l3 (rdOf false l1 ((rd_T51 l0_0 a2).f2)) l0_0 ((rd_T51 l0_0 a2).f0) ((rd_T51 l0_0 a2).f1) ((rd_T51 l0_0 a2).f2)) else (none)) else (none)) else (spec_l7Made.j0 k l1 l3 false l0_0 ((rd_T51 l0_0 a2).f0) ((rd_T51 l0_0 a2).f1) ((rd_T51 l0_0 a2).f2))) else (none)) else (none))) = some r := H
    have A14 := Aside0.mk A140
    clear A140
    by_cases c15 : t135 = 1
    ·rw [if_pos c15] at H
     have c15b0 : (t135 == 1) = true := beq_iff_eq.mpr c15
     have c15b1 : (t135 != 1) = false := bne_eq_false_iff_eq.mpr c15
     clear c15
     by_cases c16 : 0 ≤ ((rd_T51 l0_0 a2).f1)
     ·rw [if_pos c16] at H
      have c16b0 : decide (0 ≤ ((rd_T51 l0_0 a2).f1)) = true := decide_eq_true c16
      clear c16
      by_cases c17 : ((rd_T51 l0_0 a2).f1) < (l1.length : Int)
      ·rw [if_pos c17] at H
       have c17b0 : decide (((rd_T51 l0_0 a2).f1) < (l1.length : Int)) = true := decide_eq_true c17
       clear c17
       obtain rfl := Option.some.inj H
       go_enter Try.func69, Try.ntmps69
       go_wp2_with (first | ((with_reducible refine gate_dst (N := 4) rfl ?_); refine box_event ?hg (N := 4) ?hd (cs := #[.slice A0_0 l0_0.length c0_0]) (t := 30) ?hr ?_; (case hd => rfl); (case hg => rfl); (case hr => first | (go_simp; done) | (go_simp; rfl)); intro gb131 hg w18 hbox hb; have n0_ := Aside0.mk (below_step (zb HB.out) hb); have n1_ := Aside0.mk (hbox); have n2_ := Aside0.mk ((by rw [hg]; exact (below_size (zb HB.out)) : w.heap.size ≤ gb131)); have n3_ := Aside0.mk ((by rw [hg]; exact (below_size (zb HB.out)) : w.heap.size ≤ gb131)); clear HB; have HB := n0_; have BK131 := n1_; have GW131 := n2_; have GE131 := n3_; clear n0_ n1_ n2_ n3_; clear hb hbox hg; have hcz19_0 : w18.cell? ⟨gb131, 0, none⟩ = some (.slice A0_0 l0_0.length c0_0) := (blk_cell BK131.out 0).trans rfl; have hfz19_0 := blk_frozen BK131.out 0; have p132 : 0 ≤ (a2 : Int) := of_decide_eq_true (by first | (with_reducible assumption) | assumption); have q132 : a2 < (l0_0.length : Int) := of_decide_eq_true (by first | (with_reducible assumption) | assumption); obtain ⟨ad132, e132, hx132_0, hx132_1, hx132_2⟩ := at_T51 HR0_0.out a2 p132 q132; cases e132; replace hx132_0 := (HB.out.cell (World.block_lt_of_cell? w _ hx132_0)).trans hx132_0; replace hx132_1 := (HB.out.cell (World.block_lt_of_cell? w _ hx132_1)).trans hx132_1; replace hx132_2 := (HB.out.cell (World.block_lt_of_cell? w _ hx132_2)).trans hx132_2; replace p132 := eq_true p132; replace q132 := eq_true q132) | ((with_reducible refine gate_dst (N := 9) rfl ?_); refine box_event ?hg (N := 9) ?hd (cs := #[.int .i64 0, .int .i64 0, .int .i64 0]) (t := 51) ?hr ?_; (case hd => rfl); (case hg => rfl); (case hr => first | (go_simp; done) | (go_simp; rfl)); intro gb133 hg w20 hbox hb; have n0_ := Aside0.mk (blk_below (zh BK131.out) hb); have n1_ := Aside0.mk (below_step (zb HB.out) hb); have n2_ := Aside0.mk (hbox); have n3_ := Aside0.mk ((by rw [hg]; exact (below_size (zb HB.out)) : w.heap.size ≤ gb133)); have n4_ := Aside0.mk ((by rw [hg]; exact (below_size (zb HB.out)) : w.heap.size ≤ gb133)); have n5_ := Aside0.mk ((by rw [hg]; exact Nat.ne_of_lt (blk_lt (zh BK131.out)) : gb131 ≠ gb133)); have n6_ := Aside0.mk ((by rw [hg]; exact Nat.ne_of_gt (blk_lt (zh BK131.out)) : gb133 ≠ gb131)); clear BK131; clear HB; have BK131 := n0_; have HB := n1_; have BK133 := n2_; have GW133 := n3_; have GE133 := n4_; have NB131_133 := n5_; have NB133_131 := n6_; clear n0_ n1_ n2_ n3_ n4_ n5_ n6_; clear hb hbox hg; have hnb21 := NB133_131.out; have hnc21 := NB131_133.out; have hcz22_0 : w20.cell? ⟨gb133, 0, none⟩ = some (.int .i64 0) := (blk_cell BK133.out 0).trans rfl; have hcz22_1 : w20.cell? ⟨gb133, 1, none⟩ = some (.int .i64 0) := (blk_cell BK133.out 1).trans rfl; have hcz22_2 : w20.cell? ⟨gb133, 2, none⟩ = some (.int .i64 0) := (blk_cell BK133.out 2).trans rfl; have hfz22_0 := blk_frozen BK133.out 0; have hfz22_1 := blk_frozen BK133.out 1; have hfz22_2 := blk_frozen BK133.out 2) | ((with_reducible refine gate_callee (f := 89) rfl ?_); refine goesL_ (some 25) rfl rfl Try.func89 (by kernel_rfl) rfl #[.int .i64 ((rd_T51 l0_0 a2).f0)] rfl zl ?_; (with_reducible refine (spec_l1Parts.calls k ((rd_T51 l0_0 a2).f0) t135 _ A14.out).mono ?_); rintro e w' ⟨rfl, ⟨nd, rfl⟩⟩; refine ⟨_, rfl, ?_⟩; have p136 : 0 ≤ (((rd_T51 l0_0 a2).f1) : Int) := of_decide_eq_true (by first | (with_reducible assumption) | assumption); have q136 : ((rd_T51 l0_0 a2).f1) < (l1.length : Int) := of_decide_eq_true (by first | (with_reducible assumption) | assumption); obtain ⟨ad136, e136, hx136_0⟩ := Kd.at_bool HR1.out ((rd_T51 l0_0 a2).f1) p136 q136; cases e136; have hn136_0 : ad136.block ≠ gb133 := Nat.ne_of_lt (Nat.lt_of_lt_of_le (by have := World.block_lt_of_cell? _ _ hx136_0; first | rwa [add_block] at this | exact this) GW133.out); have hn136_1 : ad136.block ≠ gb133 := Nat.ne_of_lt (Nat.lt_of_lt_of_le (by have := World.block_lt_of_cell? _ _ hx136_0; first | rwa [add_block] at this | exact this) GW133.out); have hn136_2 : ad136.block ≠ gb133 := Nat.ne_of_lt (Nat.lt_of_lt_of_le (by have := World.block_lt_of_cell? _ _ hx136_0; first | rwa [add_block] at this | exact this) GW133.out); replace hx136_0 := (HB.out.cell (World.block_lt_of_cell? w _ hx136_0)).trans hx136_0; replace hx136_0 := (cell_far (p := ⟨gb133, 0, none⟩) (by first | (rw [add_block]; exact hn136_0) | (show (Addr.add _ _).block ≠ _; rw [add_block]; exact hn136_0) | exact hn136_0) (.int .i64 ((rd_T51 l0_0 a2).f0))).trans hx136_0; replace hx136_0 := (cell_far (p := ⟨gb133, 1, none⟩) (by first | (rw [add_block]; exact hn136_1) | (show (Addr.add _ _).block ≠ _; rw [add_block]; exact hn136_1) | exact hn136_1) (.int .i64 ((rd_T51 l0_0 a2).f1))).trans hx136_0; replace hx136_0 := (cell_far (p := ⟨gb133, 2, none⟩) (by first | (rw [add_block]; exact hn136_2) | (show (Addr.add _ _).block ≠ _; rw [add_block]; exact hn136_2) | exact hn136_2) (.int .i64 ((rd_T51 l0_0 a2).f2))).trans hx136_0; clear hn136_0; clear hn136_1; clear hn136_2; replace p136 := eq_true p136; replace q136 := eq_true q136))
       go_ret
       exact ⟨ze, zb HB.out⟩
      ·rw [if_neg c17] at H
       exact absurd H (by simp)
     ·rw [if_neg c16] at H
      exact absurd H (by simp)
    ·rw [if_neg c15] at H
     have c15b0 : (t135 == 1) = false := beq_eq_false_iff_ne.mpr c15
     have c15b1 : (t135 != 1) = true := bne_iff_ne.mpr c15
     have HC23 := Aside0.mk H
     clear H
     go_enter Try.func69, Try.ntmps69
     go_upto_region 6 with (first | ((with_reducible refine gate_dst (N := 4) rfl ?_); refine box_event ?hg (N := 4) ?hd (cs := #[.slice A0_0 l0_0.length c0_0]) (t := 30) ?hr ?_; (case hd => rfl); (case hg => rfl); (case hr => first | (go_simp; done) | (go_simp; rfl)); intro gb131 hg w24 hbox hb; have n0_ := Aside0.mk (below_step (zb HB.out) hb); have n1_ := Aside0.mk (hbox); have n2_ := Aside0.mk ((by rw [hg]; exact (below_size (zb HB.out)) : w.heap.size ≤ gb131)); have n3_ := Aside0.mk ((by rw [hg]; exact (below_size (zb HB.out)) : w.heap.size ≤ gb131)); clear HB; have HB := n0_; have BK131 := n1_; have GW131 := n2_; have GE131 := n3_; clear n0_ n1_ n2_ n3_; clear hb hbox hg; have hcz25_0 : w24.cell? ⟨gb131, 0, none⟩ = some (.slice A0_0 l0_0.length c0_0) := (blk_cell BK131.out 0).trans rfl; have hfz25_0 := blk_frozen BK131.out 0; have p132 : 0 ≤ (a2 : Int) := of_decide_eq_true (by first | (with_reducible assumption) | assumption); have q132 : a2 < (l0_0.length : Int) := of_decide_eq_true (by first | (with_reducible assumption) | assumption); obtain ⟨ad132, e132, hx132_0, hx132_1, hx132_2⟩ := at_T51 HR0_0.out a2 p132 q132; cases e132; replace hx132_0 := (HB.out.cell (World.block_lt_of_cell? w _ hx132_0)).trans hx132_0; replace hx132_1 := (HB.out.cell (World.block_lt_of_cell? w _ hx132_1)).trans hx132_1; replace hx132_2 := (HB.out.cell (World.block_lt_of_cell? w _ hx132_2)).trans hx132_2; replace p132 := eq_true p132; replace q132 := eq_true q132) | ((with_reducible refine gate_dst (N := 9) rfl ?_); refine box_event ?hg (N := 9) ?hd (cs := #[.int .i64 0, .int .i64 0, .int .i64 0]) (t := 51) ?hr ?_; (case hd => rfl); (case hg => rfl); (case hr => first | (go_simp; done) | (go_simp; rfl)); intro gb133 hg w26 hbox hb; have n0_ := Aside0.mk (blk_below (zh BK131.out) hb); have n1_ := Aside0.mk (below_step (zb HB.out) hb); have n2_ := Aside0.mk (hbox); have n3_ := Aside0.mk ((by rw [hg]; exact (below_size (zb HB.out)) : w.heap.size ≤ gb133)); have n4_ := Aside0.mk ((by rw [hg]; exact (below_size (zb HB.out)) : w.heap.size ≤ gb133)); have n5_ := Aside0.mk ((by rw [hg]; exact Nat.ne_of_lt (blk_lt (zh BK131.out)) : gb131 ≠ gb133)); have n6_ := Aside0.mk ((by rw [hg]; exact Nat.ne_of_gt (blk_lt (zh BK131.out)) : gb133 ≠ gb131)); clear BK131; clear HB; have BK131 := n0_; have HB := n1_; have BK133 := n2_; have GW133 := n3_; have GE133 := n4_; have NB131_133 := n5_; have NB133_131 := n6_; clear n0_ n1_ n2_ n3_ n4_ n5_ n6_; clear hb hbox hg; have hnb27 := NB133_131.out; have hnc27 := NB131_133.out; have hcz28_0 : w26.cell? ⟨gb133, 0, none⟩ = some (.int .i64 0) := (blk_cell BK133.out 0).trans rfl; have hcz28_1 : w26.cell? ⟨gb133, 1, none⟩ = some (.int .i64 0) := (blk_cell BK133.out 1).trans rfl; have hcz28_2 : w26.cell? ⟨gb133, 2, none⟩ = some (.int .i64 0) := (blk_cell BK133.out 2).trans rfl; have hfz28_0 := blk_frozen BK133.out 0; have hfz28_1 := blk_frozen BK133.out 1; have hfz28_2 := blk_frozen BK133.out 2) | ((with_reducible refine gate_callee (f := 89) rfl ?_); refine goesL_ (some 25) rfl rfl Try.func89 (by kernel_rfl) rfl #[.int .i64 ((rd_T51 l0_0 a2).f0)] rfl zl ?_; (with_reducible refine (spec_l1Parts.calls k ((rd_T51 l0_0 a2).f0) t135 _ A14.out).mono ?_); rintro e w' ⟨rfl, ⟨nd, rfl⟩⟩; refine ⟨_, rfl, ?_⟩))
     (try simp only [Act.put, List.setIfInBounds_toArray, List.set_cons_zero, List.set_cons_succ])
     go_cut [32] (fun v32 wc => ∃ (kq : Nat) (x32_22 : Bool), v32 = .bool x32_22 ∧ Aside0 (spec_l7Made.j0 kq l1 l3 x32_22 l0_0 ((rd_T51 l0_0 a2).f0) ((rd_T51 l0_0 a2).f1) ((rd_T51 l0_0 a2).f2) = some r) ∧ Aside0 (kq ≤ k) ∧ Aside0 (wc.heap[gb131]? = some (.cells #[(.slice (some ad132) l0_0.length c0_0)] 30 (0, 0))) ∧ Aside0 (wc.heap[gb133]? = some (.cells #[.int .i64 ((rd_T51 l0_0 a2).f0), .int .i64 ((rd_T51 l0_0 a2).f1), .int .i64 ((rd_T51 l0_0 a2).f2)] 51 (0, 0))) ∧ Aside0 (Below w.heap.size w wc))
     case first =>
      have H := HC23.out
      clear HC23
      by_cases c29 : 0 ≤ ((rd_T51 l0_0 a2).f1)
      ·rw [if_pos c29] at H
       have c29b0 : decide (0 ≤ ((rd_T51 l0_0 a2).f1)) = true := decide_eq_true c29
       clear c29
       (first | rw [c29b0] | (simp only [i64_w, i32_w]; rw [c29b0]) | skip)
       by_cases c30 : ((rd_T51 l0_0 a2).f1) < (l1.length : Int)
       ·rw [if_pos c30] at H
        have c30b0 : decide (((rd_T51 l0_0 a2).f1) < (l1.length : Int)) = true := decide_eq_true c30
        clear c30
        obtain ⟨bq31, hbq31⟩ : ∃ b_ : Bool, b_ = (rdOf false l1 ((rd_T51 l0_0 a2).f1)) := ⟨_, rfl⟩
        replace H : (if bq31 = true then (if 0 ≤ ((rd_T51 l0_0 a2).f2) then (if ((rd_T51 l0_0 a2).f2) < (l1.length : Int) then (spec_l7Made.j0 k l1 l3 (rdOf false l1 ((rd_T51 l0_0 a2).f2)) l0_0 ((rd_T51 l0_0 a2).f0) ((rd_T51 l0_0 a2).f1) ((rd_T51 l0_0 a2).f2)) else (none)) else (none)) else (spec_l7Made.j0 k l1 l3 false l0_0 ((rd_T51 l0_0 a2).f0) ((rd_T51 l0_0 a2).f1) ((rd_T51 l0_0 a2).f2))) = some r := by rw [← hbq31] at H; exact H
        have Nbq31 := Aside0.mk hbq31
        clear hbq31
        by_cases c32 : bq31 = true
        ·subst c32
         have H1 : (if 0 ≤ ((rd_T51 l0_0 a2).f2) then (if ((rd_T51 l0_0 a2).f2) < (l1.length : Int) then (spec_l7Made.j0 k l1 l3 (rdOf false l1 ((rd_T51 l0_0 a2).f2)) l0_0 ((rd_T51 l0_0 a2).f0) ((rd_T51 l0_0 a2).f1) ((rd_T51 l0_0 a2).f2)) else (none)) else (none)) = some r := by rw [if_pos rfl] at H; exact H
         clear H
         have H := H1
         clear H1
         by_cases c33 : 0 ≤ ((rd_T51 l0_0 a2).f2)
         ·rw [if_pos c33] at H
          have c33b0 : decide (0 ≤ ((rd_T51 l0_0 a2).f2)) = true := decide_eq_true c33
          clear c33
          by_cases c34 : ((rd_T51 l0_0 a2).f2) < (l1.length : Int)
          ·rw [if_pos c34] at H
           have c34b0 : decide (((rd_T51 l0_0 a2).f2) < (l1.length : Int)) = true := decide_eq_true c34
           clear c34
           have H' := Aside0.mk H
           clear H
           have hnb35 := NB133_131.out
           have hnc35 := NB131_133.out
           have hcz36_0 : w26.cell? ⟨gb133, 0, none⟩ = some (.int .i64 0) := (blk_cell BK133.out 0).trans rfl
           have hcz36_1 : w26.cell? ⟨gb133, 1, none⟩ = some (.int .i64 0) := (blk_cell BK133.out 1).trans rfl
           have hcz36_2 : w26.cell? ⟨gb133, 2, none⟩ = some (.int .i64 0) := (blk_cell BK133.out 2).trans rfl
           have hfz36_0 := blk_frozen BK133.out 0
           have hfz36_1 := blk_frozen BK133.out 1
           have hfz36_2 := blk_frozen BK133.out 2
           have p137 : 0 ≤ (((rd_T51 l0_0 a2).f1) : Int) := of_decide_eq_true (by first | (with_reducible assumption) | assumption)
           have q137 : ((rd_T51 l0_0 a2).f1) < (l1.length : Int) := of_decide_eq_true (by first | (with_reducible assumption) | assumption)
           obtain ⟨ad137, e137, hx137_0⟩ := Kd.at_bool HR1.out ((rd_T51 l0_0 a2).f1) p137 q137
           (try rw [← Nbq31.out] at hx137_0)
           cases e137
           have hn137_0 : ad137.block ≠ gb133 := Nat.ne_of_lt (Nat.lt_of_lt_of_le (by have := World.block_lt_of_cell? _ _ hx137_0; first | rwa [add_block] at this | exact this) GW133.out)
           have hn137_1 : ad137.block ≠ gb133 := Nat.ne_of_lt (Nat.lt_of_lt_of_le (by have := World.block_lt_of_cell? _ _ hx137_0; first | rwa [add_block] at this | exact this) GW133.out)
           have hn137_2 : ad137.block ≠ gb133 := Nat.ne_of_lt (Nat.lt_of_lt_of_le (by have := World.block_lt_of_cell? _ _ hx137_0; first | rwa [add_block] at this | exact this) GW133.out)
           replace hx137_0 := (HB.out.cell (World.block_lt_of_cell? w _ hx137_0)).trans hx137_0
           replace hx137_0 := (cell_far (p := ⟨gb133, 0, none⟩) (by first | (rw [add_block]; exact hn137_0) | (show (Addr.add _ _).block ≠ _; rw [add_block]; exact hn137_0) | exact hn137_0) (.int .i64 ((rd_T51 l0_0 a2).f0))).trans hx137_0
           replace hx137_0 := (cell_far (p := ⟨gb133, 1, none⟩) (by first | (rw [add_block]; exact hn137_1) | (show (Addr.add _ _).block ≠ _; rw [add_block]; exact hn137_1) | exact hn137_1) (.int .i64 ((rd_T51 l0_0 a2).f1))).trans hx137_0
           replace hx137_0 := (cell_far (p := ⟨gb133, 2, none⟩) (by first | (rw [add_block]; exact hn137_2) | (show (Addr.add _ _).block ≠ _; rw [add_block]; exact hn137_2) | exact hn137_2) (.int .i64 ((rd_T51 l0_0 a2).f2))).trans hx137_0
           clear hn137_0
           clear hn137_1
           clear hn137_2
           replace p137 := eq_true p137
           replace q137 := eq_true q137
           have p138 : 0 ≤ (((rd_T51 l0_0 a2).f2) : Int) := of_decide_eq_true (by first | (with_reducible assumption) | assumption)
           have q138 : ((rd_T51 l0_0 a2).f2) < (l1.length : Int) := of_decide_eq_true (by first | (with_reducible assumption) | assumption)
           obtain ⟨ad138, e138, hx138_0⟩ := Kd.at_bool HR1.out ((rd_T51 l0_0 a2).f2) p138 q138
           (try rw [← Nbq31.out] at hx138_0)
           obtain rfl : ad137 = ad138 := (by injection e138)
           have hn138_0 : ad137.block ≠ gb133 := Nat.ne_of_lt (Nat.lt_of_lt_of_le (by have := World.block_lt_of_cell? _ _ hx138_0; first | rwa [add_block] at this | exact this) GW133.out)
           have hn138_1 : ad137.block ≠ gb133 := Nat.ne_of_lt (Nat.lt_of_lt_of_le (by have := World.block_lt_of_cell? _ _ hx138_0; first | rwa [add_block] at this | exact this) GW133.out)
           have hn138_2 : ad137.block ≠ gb133 := Nat.ne_of_lt (Nat.lt_of_lt_of_le (by have := World.block_lt_of_cell? _ _ hx138_0; first | rwa [add_block] at this | exact this) GW133.out)
           replace hx138_0 := (HB.out.cell (World.block_lt_of_cell? w _ hx138_0)).trans hx138_0
           replace hx138_0 := (cell_far (p := ⟨gb133, 0, none⟩) (by first | (rw [add_block]; exact hn138_0) | (show (Addr.add _ _).block ≠ _; rw [add_block]; exact hn138_0) | exact hn138_0) (.int .i64 ((rd_T51 l0_0 a2).f0))).trans hx138_0
           replace hx138_0 := (cell_far (p := ⟨gb133, 1, none⟩) (by first | (rw [add_block]; exact hn138_1) | (show (Addr.add _ _).block ≠ _; rw [add_block]; exact hn138_1) | exact hn138_1) (.int .i64 ((rd_T51 l0_0 a2).f1))).trans hx138_0
           replace hx138_0 := (cell_far (p := ⟨gb133, 2, none⟩) (by first | (rw [add_block]; exact hn138_2) | (show (Addr.add _ _).block ≠ _; rw [add_block]; exact hn138_2) | exact hn138_2) (.int .i64 ((rd_T51 l0_0 a2).f2))).trans hx138_0
           clear hn138_0
           clear hn138_1
           clear hn138_2
           replace p138 := eq_true p138
           replace q138 := eq_true q138
           go_wp2
           go_meet
           case rel => exact ⟨_, (rdOf false l1 ((rd_T51 l0_0 a2).f2)), (by first | rfl | (simp; done) | (simp [*]; done)), H', ⟨by first | omega | exact Nat.le_refl _⟩, ⟨zf BK131.out⟩, ⟨by (with_reducible repeat (first | refine blk_drewN ?_ _ | refine blk_drew ?_ | refine blk_alloc ?_ _)); refine blk_put (cs := #[.int .i64 ((rd_T51 l0_0 a2).f0), .int .i64 ((rd_T51 l0_0 a2).f1), .int .i64 0]) ?_ 2 _ rfl; (with_reducible repeat (first | refine blk_drewN ?_ _ | refine blk_drew ?_ | refine blk_alloc ?_ _)); refine blk_put (cs := #[.int .i64 ((rd_T51 l0_0 a2).f0), .int .i64 0, .int .i64 0]) ?_ 1 _ rfl; (with_reducible repeat (first | refine blk_drewN ?_ _ | refine blk_drew ?_ | refine blk_alloc ?_ _)); refine blk_put (cs := #[.int .i64 0, .int .i64 0, .int .i64 0]) ?_ 0 _ rfl; (with_reducible repeat (first | refine blk_drewN ?_ _ | refine blk_drew ?_ | refine blk_alloc ?_ _)); exact BK133.out⟩, ⟨zb HB.out⟩⟩
          ·rw [if_neg c34] at H
           exact absurd H (by simp)
         ·rw [if_neg c33] at H
          exact absurd H (by simp)
        ·replace c32 := Bool.eq_false_iff.mpr c32
         subst c32
         have H1 : (spec_l7Made.j0 k l1 l3 false l0_0 ((rd_T51 l0_0 a2).f0) ((rd_T51 l0_0 a2).f1) ((rd_T51 l0_0 a2).f2)) = some r := by rw [if_neg (show ¬ (false = true) by decide)] at H; exact H
         clear H
         have H := H1
         clear H1
         have H' := Aside0.mk H
         clear H
         have hnb37 := NB133_131.out
         have hnc37 := NB131_133.out
         have hcz38_0 : w26.cell? ⟨gb133, 0, none⟩ = some (.int .i64 0) := (blk_cell BK133.out 0).trans rfl
         have hcz38_1 : w26.cell? ⟨gb133, 1, none⟩ = some (.int .i64 0) := (blk_cell BK133.out 1).trans rfl
         have hcz38_2 : w26.cell? ⟨gb133, 2, none⟩ = some (.int .i64 0) := (blk_cell BK133.out 2).trans rfl
         have hfz38_0 := blk_frozen BK133.out 0
         have hfz38_1 := blk_frozen BK133.out 1
         have hfz38_2 := blk_frozen BK133.out 2
         have p137 : 0 ≤ (((rd_T51 l0_0 a2).f1) : Int) := of_decide_eq_true (by first | (with_reducible assumption) | assumption)
         have q137 : ((rd_T51 l0_0 a2).f1) < (l1.length : Int) := of_decide_eq_true (by first | (with_reducible assumption) | assumption)
         obtain ⟨ad137, e137, hx137_0⟩ := Kd.at_bool HR1.out ((rd_T51 l0_0 a2).f1) p137 q137
         (try rw [← Nbq31.out] at hx137_0)
         cases e137
         have hn137_0 : ad137.block ≠ gb133 := Nat.ne_of_lt (Nat.lt_of_lt_of_le (by have := World.block_lt_of_cell? _ _ hx137_0; first | rwa [add_block] at this | exact this) GW133.out)
         have hn137_1 : ad137.block ≠ gb133 := Nat.ne_of_lt (Nat.lt_of_lt_of_le (by have := World.block_lt_of_cell? _ _ hx137_0; first | rwa [add_block] at this | exact this) GW133.out)
         have hn137_2 : ad137.block ≠ gb133 := Nat.ne_of_lt (Nat.lt_of_lt_of_le (by have := World.block_lt_of_cell? _ _ hx137_0; first | rwa [add_block] at this | exact this) GW133.out)
         replace hx137_0 := (HB.out.cell (World.block_lt_of_cell? w _ hx137_0)).trans hx137_0
         replace hx137_0 := (cell_far (p := ⟨gb133, 0, none⟩) (by first | (rw [add_block]; exact hn137_0) | (show (Addr.add _ _).block ≠ _; rw [add_block]; exact hn137_0) | exact hn137_0) (.int .i64 ((rd_T51 l0_0 a2).f0))).trans hx137_0
         replace hx137_0 := (cell_far (p := ⟨gb133, 1, none⟩) (by first | (rw [add_block]; exact hn137_1) | (show (Addr.add _ _).block ≠ _; rw [add_block]; exact hn137_1) | exact hn137_1) (.int .i64 ((rd_T51 l0_0 a2).f1))).trans hx137_0
         replace hx137_0 := (cell_far (p := ⟨gb133, 2, none⟩) (by first | (rw [add_block]; exact hn137_2) | (show (Addr.add _ _).block ≠ _; rw [add_block]; exact hn137_2) | exact hn137_2) (.int .i64 ((rd_T51 l0_0 a2).f2))).trans hx137_0
         clear hn137_0
         clear hn137_1
         clear hn137_2
         replace p137 := eq_true p137
         replace q137 := eq_true q137
         go_wp2
         go_meet
         case rel => exact ⟨_, (false), (by first | rfl | (simp; done) | (simp [*]; done)), H', ⟨by first | omega | exact Nat.le_refl _⟩, ⟨zf BK131.out⟩, ⟨by (with_reducible repeat (first | refine blk_drewN ?_ _ | refine blk_drew ?_ | refine blk_alloc ?_ _)); refine blk_put (cs := #[.int .i64 ((rd_T51 l0_0 a2).f0), .int .i64 ((rd_T51 l0_0 a2).f1), .int .i64 0]) ?_ 2 _ rfl; (with_reducible repeat (first | refine blk_drewN ?_ _ | refine blk_drew ?_ | refine blk_alloc ?_ _)); refine blk_put (cs := #[.int .i64 ((rd_T51 l0_0 a2).f0), .int .i64 0, .int .i64 0]) ?_ 1 _ rfl; (with_reducible repeat (first | refine blk_drewN ?_ _ | refine blk_drew ?_ | refine blk_alloc ?_ _)); refine blk_put (cs := #[.int .i64 0, .int .i64 0, .int .i64 0]) ?_ 0 _ rfl; (with_reducible repeat (first | refine blk_drewN ?_ _ | refine blk_drew ?_ | refine blk_alloc ?_ _)); exact BK133.out⟩, ⟨zb HB.out⟩⟩
       ·rw [if_neg c30] at H
        exact absurd H (by simp)
      ·rw [if_neg c29] at H
       exact absurd H (by simp)
     case rest =>
      clear HC23
      try clear c1
      try clear p1
      try clear q1
      try clear hx1
      try clear c2
      try clear p2
      try clear c3
      try clear q3
      try clear c5
      try clear c5b0
      try clear c6
      try clear c6b0
      try clear c7
      try clear c7b0
      try clear c7b1
      try clear c8
      try clear c12
      try clear p13
      try clear q13
      try clear hx13
      try clear c15
      try clear c15b0
      try clear c15b1
      try clear c16
      try clear c16b0
      try clear c17
      try clear c17b0
      try clear c21
      try clear c27
      try clear c29
      try clear c29b0
      try clear c30
      try clear c30b0
      try clear q31
      try clear c32
      try clear c33
      try clear c33b0
      try clear c34
      try clear c34b0
      try clear c35
      try clear c37
      try clear hcz10_0
      try clear hcz13_0
      try clear hcz13_1
      try clear hcz13_2
      try clear hcz19_0
      try clear hcz22_0
      try clear hcz22_1
      try clear hcz22_2
      try clear hcz25_0
      try clear hcz28_0
      try clear hcz28_1
      try clear hcz28_2
      try clear hcz36_0
      try clear hcz36_1
      try clear hcz36_2
      try clear hcz38_0
      try clear hcz38_1
      try clear hcz38_2
      try clear hfz10_0
      try clear hfz13_0
      try clear hfz13_1
      try clear hfz13_2
      try clear hfz19_0
      try clear hfz22_0
      try clear hfz22_1
      try clear hfz22_2
      try clear hfz25_0
      try clear hfz28_0
      try clear hfz28_1
      try clear hfz28_2
      try clear hfz36_0
      try clear hfz36_1
      try clear hfz36_2
      try clear hfz38_0
      try clear hfz38_1
      try clear hfz38_2
      try clear hx132_0
      try clear hx132_1
      try clear hx132_2
      try clear hx136_0
      try clear hx137_0
      try clear hx138_0
      try clear p132
      try clear p136
      try clear p137
      try clear p138
      try clear q132
      try clear q136
      try clear q137
      try clear q138
      obtain ⟨kq, x32_22, rfl, HA, HJ22, BK131, BK133, HB⟩ := hcut
      cases kq with
      | zero => exact absurd HA.out (by simp [spec_l7Made.j0])
      | succ kj22 =>
       have H := HA.out
       clear HA
       simp only [spec_l7Made.j0] at H
       by_cases c39 : x32_22 = true
       ·subst c39
        have H1 : (some true) = some r := by rw [if_pos rfl] at H; exact H
        clear H
        have H := H1
        clear H1
        obtain rfl := Option.some.inj H
        go_wp2
        go_ret
        exact ⟨ze, zb HB.out⟩
       ·replace c39 := Bool.eq_false_iff.mpr c39
        subst c39
        have H1 : (if ((rd_T51 l0_0 a2).f0) = 8 then (if 0 ≤ ((rd_T51 l0_0 a2).f1) then (if ((rd_T51 l0_0 a2).f1) < (l1.length : Int) then (if rdOf false l1 ((rd_T51 l0_0 a2).f1) = true then ((spec_l7Power.f kj22 l0_0 l1 l3 ((rd_T51 l0_0 a2).f2)).bind fun t140 => (if t140 = true then (some true) else (if 0 ≤ ((rd_T51 l0_0 a2).f2) then (if ((rd_T51 l0_0 a2).f2) < (l1.length : Int) then (if rdOf false l1 ((rd_T51 l0_0 a2).f2) = true then ((spec_l7Power.f kj22 l0_0 l1 l3 ((rd_T51 l0_0 a2).f1)).bind fun t142 => (some t142)) else (some false)) else (none)) else (none)))) else (if 0 ≤ ((rd_T51 l0_0 a2).f2) then (if ((rd_T51 l0_0 a2).f2) < (l1.length : Int) then (if rdOf false l1 ((rd_T51 l0_0 a2).f2) = true then ((spec_l7Power.f kj22 l0_0 l1 l3 ((rd_T51 l0_0 a2).f1)).bind fun t144 => (some t144)) else (some false)) else (none)) else (none))) else (none)) else (none)) else (some false)) = some r := by rw [if_neg (show ¬ (false = true) by decide)] at H; exact H
        clear H
        have H := H1
        clear H1
        by_cases c40 : ((rd_T51 l0_0 a2).f0) = 8
        ·rw [if_pos c40] at H
         have c40b0 : (((rd_T51 l0_0 a2).f0) == 8) = true := beq_iff_eq.mpr c40
         have c40b1 : (((rd_T51 l0_0 a2).f0) != 8) = false := bne_eq_false_iff_eq.mpr c40
         clear c40
         by_cases c41 : 0 ≤ ((rd_T51 l0_0 a2).f1)
         ·rw [if_pos c41] at H
          have c41b0 : decide (0 ≤ ((rd_T51 l0_0 a2).f1)) = true := decide_eq_true c41
          clear c41
          by_cases c42 : ((rd_T51 l0_0 a2).f1) < (l1.length : Int)
          ·rw [if_pos c42] at H
           have c42b0 : decide (((rd_T51 l0_0 a2).f1) < (l1.length : Int)) = true := decide_eq_true c42
           clear c42
           obtain ⟨bq43, hbq43⟩ : ∃ b_ : Bool, b_ = (rdOf false l1 ((rd_T51 l0_0 a2).f1)) := ⟨_, rfl⟩
           replace H : (if bq43 = true then ((spec_l7Power.f kj22 l0_0 l1 l3 ((rd_T51 l0_0 a2).f2)).bind fun t140 => (if t140 = true then (some true) else (if 0 ≤ ((rd_T51 l0_0 a2).f2) then (if ((rd_T51 l0_0 a2).f2) < (l1.length : Int) then (if rdOf false l1 ((rd_T51 l0_0 a2).f2) = true then ((spec_l7Power.f kj22 l0_0 l1 l3 ((rd_T51 l0_0 a2).f1)).bind fun t142 => (some t142)) else (some false)) else (none)) else (none)))) else (if 0 ≤ ((rd_T51 l0_0 a2).f2) then (if ((rd_T51 l0_0 a2).f2) < (l1.length : Int) then (if rdOf false l1 ((rd_T51 l0_0 a2).f2) = true then ((spec_l7Power.f kj22 l0_0 l1 l3 ((rd_T51 l0_0 a2).f1)).bind fun t144 => (some t144)) else (some false)) else (none)) else (none))) = some r := by rw [← hbq43] at H; exact H
           have Nbq43 := Aside0.mk hbq43
           clear hbq43
           by_cases c44 : bq43 = true
           ·subst c44
            have H1 : ((spec_l7Power.f kj22 l0_0 l1 l3 ((rd_T51 l0_0 a2).f2)).bind fun t140 => (if t140 = true then (some true) else (if 0 ≤ ((rd_T51 l0_0 a2).f2) then (if ((rd_T51 l0_0 a2).f2) < (l1.length : Int) then (if rdOf false l1 ((rd_T51 l0_0 a2).f2) = true then ((spec_l7Power.f kj22 l0_0 l1 l3 ((rd_T51 l0_0 a2).f1)).bind fun t142 => (some t142)) else (some false)) else (none)) else (none)))) = some r := by rw [if_pos rfl] at H; exact H
            clear H
            have H := H1
            clear H1
            replace H := Option.bind_eq_some_iff.mp H
            obtain ⟨t140, A450, H⟩ := H
            replace H : (if t140 = true then (some true) else (if 0 ≤ ((rd_T51 l0_0 a2).f2) then (if ((rd_T51 l0_0 a2).f2) < (l1.length : Int) then (if rdOf false l1 ((rd_T51 l0_0 a2).f2) = true then ((spec_l7Power.f kj22 l0_0 l1 l3 ((rd_T51 l0_0 a2).f1)).bind fun t142 => (some t142)) else (some false)) else (none)) else (none))) = some r := H
            have A45 := Aside0.mk A450
            clear A450
            by_cases c46 : t140 = true
            ·subst c46
             have H1 : (some true) = some r := by rw [if_pos rfl] at H; exact H
             clear H
             have H := H1
             clear H1
             obtain rfl := Option.some.inj H
             have hnb47 := NB133_131.out
             have hnc47 := NB131_133.out
             have hcz48_0 : wc.cell? ⟨gb133, 0, none⟩ = some (.int .i64 ((rd_T51 l0_0 a2).f0)) := (blk_cell BK133.out 0).trans rfl
             have hcz48_1 : wc.cell? ⟨gb133, 1, none⟩ = some (.int .i64 ((rd_T51 l0_0 a2).f1)) := (blk_cell BK133.out 1).trans rfl
             have hcz48_2 : wc.cell? ⟨gb133, 2, none⟩ = some (.int .i64 ((rd_T51 l0_0 a2).f2)) := (blk_cell BK133.out 2).trans rfl
             have hfz48_0 := blk_frozen BK133.out 0
             have hfz48_1 := blk_frozen BK133.out 1
             have hfz48_2 := blk_frozen BK133.out 2
             have p139 : 0 ≤ (((rd_T51 l0_0 a2).f1) : Int) := of_decide_eq_true (by first | (with_reducible assumption) | assumption)
             have q139 : ((rd_T51 l0_0 a2).f1) < (l1.length : Int) := of_decide_eq_true (by first | (with_reducible assumption) | assumption)
             obtain ⟨ad139, e139, hx139_0⟩ := Kd.at_bool HR1.out ((rd_T51 l0_0 a2).f1) p139 q139
             (try rw [← Nbq43.out] at hx139_0)
             cases e139
             replace hx139_0 := (HB.out.cell (World.block_lt_of_cell? w _ hx139_0)).trans hx139_0
             replace p139 := eq_true p139
             replace q139 := eq_true q139
             have hcz49_0 : wc.cell? ⟨gb131, 0, none⟩ = some (.slice (some ad132) l0_0.length c0_0) := (blk_cell BK131.out 0).trans rfl
             have hfz49_0 := blk_frozen BK131.out 0
             go_wp2_with (first | (go_at_call 90; (with_reducible refine (spec_l7Power.calls kj22 _ _ l0_0 _ _ l1 _ _ l3 ((rd_T51 l0_0 a2).f2) true _ ?side1 ?side2 ?side3 ?side4 ?side5 ?side6 A45.out).mono ?_); (case side1 => exact zc (Kd.C_below HR0_0.out HB.out)); (case side2 => exact HC0_0.out); (case side3 => exact zc (Kd.C_below HR1.out HB.out)); (case side4 => exact HC1.out); (case side5 => exact zc (Kd.C_below HR3.out HB.out)); (case side6 => exact HC3.out); rintro e w50 ⟨rfl, hb⟩; have n0_ := Aside0.mk (blk_below (zh BK131.out) hb); have n1_ := Aside0.mk (blk_below (zh BK133.out) hb); have n2_ := Aside0.mk (below_step (zb HB.out) hb); clear BK131; clear BK133; clear HB; have BK131 := n0_; have BK133 := n1_; have HB := n2_; clear n0_ n1_ n2_; (try clear hb); (try clear hb2); (try clear hk); (try clear hi)))
             go_ret
             exact ⟨ze, zb HB.out⟩
            ·replace c46 := Bool.eq_false_iff.mpr c46
             subst c46
             have H1 : (if 0 ≤ ((rd_T51 l0_0 a2).f2) then (if ((rd_T51 l0_0 a2).f2) < (l1.length : Int) then (if rdOf false l1 ((rd_T51 l0_0 a2).f2) = true then ((spec_l7Power.f kj22 l0_0 l1 l3 ((rd_T51 l0_0 a2).f1)).bind fun t142 => (some t142)) else (some false)) else (none)) else (none)) = some r := by rw [if_neg (show ¬ (false = true) by decide)] at H; exact H
             clear H
             have H := H1
             clear H1
             by_cases c51 : 0 ≤ ((rd_T51 l0_0 a2).f2)
             ·rw [if_pos c51] at H
              have c51b0 : decide (0 ≤ ((rd_T51 l0_0 a2).f2)) = true := decide_eq_true c51
              clear c51
              by_cases c52 : ((rd_T51 l0_0 a2).f2) < (l1.length : Int)
              ·rw [if_pos c52] at H
               have c52b0 : decide (((rd_T51 l0_0 a2).f2) < (l1.length : Int)) = true := decide_eq_true c52
               clear c52
               obtain ⟨bq53, hbq53⟩ : ∃ b_ : Bool, b_ = (rdOf false l1 ((rd_T51 l0_0 a2).f2)) := ⟨_, rfl⟩
               replace H : (if bq53 = true then ((spec_l7Power.f kj22 l0_0 l1 l3 ((rd_T51 l0_0 a2).f1)).bind fun t142 => (some t142)) else (some false)) = some r := by rw [← hbq53] at H; exact H
               have Nbq53 := Aside0.mk hbq53
               clear hbq53
               by_cases c54 : bq53 = true
               ·subst c54
                have H1 : ((spec_l7Power.f kj22 l0_0 l1 l3 ((rd_T51 l0_0 a2).f1)).bind fun t142 => (some t142)) = some r := by rw [if_pos rfl] at H; exact H
                clear H
                have H := H1
                clear H1
                replace H := Option.bind_eq_some_iff.mp H
                obtain ⟨t142, A550, H⟩ := H
                replace H : (some t142) = some r := H
                have A55 := Aside0.mk A550
                clear A550
                obtain rfl := Option.some.inj H
                have hnb56 := NB133_131.out
                have hnc56 := NB131_133.out
                have hcz57_0 : wc.cell? ⟨gb133, 0, none⟩ = some (.int .i64 ((rd_T51 l0_0 a2).f0)) := (blk_cell BK133.out 0).trans rfl
                have hcz57_1 : wc.cell? ⟨gb133, 1, none⟩ = some (.int .i64 ((rd_T51 l0_0 a2).f1)) := (blk_cell BK133.out 1).trans rfl
                have hcz57_2 : wc.cell? ⟨gb133, 2, none⟩ = some (.int .i64 ((rd_T51 l0_0 a2).f2)) := (blk_cell BK133.out 2).trans rfl
                have hfz57_0 := blk_frozen BK133.out 0
                have hfz57_1 := blk_frozen BK133.out 1
                have hfz57_2 := blk_frozen BK133.out 2
                have p139 : 0 ≤ (((rd_T51 l0_0 a2).f1) : Int) := of_decide_eq_true (by first | (with_reducible assumption) | assumption)
                have q139 : ((rd_T51 l0_0 a2).f1) < (l1.length : Int) := of_decide_eq_true (by first | (with_reducible assumption) | assumption)
                obtain ⟨ad139, e139, hx139_0⟩ := Kd.at_bool HR1.out ((rd_T51 l0_0 a2).f1) p139 q139
                (try rw [← Nbq43.out] at hx139_0)
                (try rw [← Nbq53.out] at hx139_0)
                cases e139
                replace hx139_0 := (HB.out.cell (World.block_lt_of_cell? w _ hx139_0)).trans hx139_0
                replace p139 := eq_true p139
                replace q139 := eq_true q139
                have hcz58_0 : wc.cell? ⟨gb131, 0, none⟩ = some (.slice (some ad132) l0_0.length c0_0) := (blk_cell BK131.out 0).trans rfl
                have hfz58_0 := blk_frozen BK131.out 0
                go_wp2_with (first | (go_at_call 90; (with_reducible refine (spec_l7Power.calls kj22 _ _ l0_0 _ _ l1 _ _ l3 ((rd_T51 l0_0 a2).f2) false _ ?side1 ?side2 ?side3 ?side4 ?side5 ?side6 A45.out).mono ?_); (case side1 => exact zc (Kd.C_below HR0_0.out HB.out)); (case side2 => exact HC0_0.out); (case side3 => exact zc (Kd.C_below HR1.out HB.out)); (case side4 => exact HC1.out); (case side5 => exact zc (Kd.C_below HR3.out HB.out)); (case side6 => exact HC3.out); rintro e w59 ⟨rfl, hb⟩; have n0_ := Aside0.mk (blk_below (zh BK131.out) hb); have n1_ := Aside0.mk (blk_below (zh BK133.out) hb); have n2_ := Aside0.mk (below_step (zb HB.out) hb); clear BK131; clear BK133; clear HB; have BK131 := n0_; have BK133 := n1_; have HB := n2_; clear n0_ n1_ n2_; (try clear hb); (try clear hb2); (try clear hk); (try clear hi); have hcz60_0 : w59.cell? ⟨gb133, 0, none⟩ = some (.int .i64 ((rd_T51 l0_0 a2).f0)) := (blk_cell BK133.out 0).trans rfl; have hcz60_1 : w59.cell? ⟨gb133, 1, none⟩ = some (.int .i64 ((rd_T51 l0_0 a2).f1)) := (blk_cell BK133.out 1).trans rfl; have hcz60_2 : w59.cell? ⟨gb133, 2, none⟩ = some (.int .i64 ((rd_T51 l0_0 a2).f2)) := (blk_cell BK133.out 2).trans rfl; have hfz60_0 := blk_frozen BK133.out 0; have hfz60_1 := blk_frozen BK133.out 1; have hfz60_2 := blk_frozen BK133.out 2; have p141 : 0 ≤ (((rd_T51 l0_0 a2).f2) : Int) := of_decide_eq_true (by first | (with_reducible assumption) | assumption); have q141 : ((rd_T51 l0_0 a2).f2) < (l1.length : Int) := of_decide_eq_true (by first | (with_reducible assumption) | assumption); obtain ⟨ad141, e141, hx141_0⟩ := Kd.at_bool HR1.out ((rd_T51 l0_0 a2).f2) p141 q141; (try rw [← Nbq43.out] at hx141_0); (try rw [← Nbq53.out] at hx141_0); obtain rfl : ad139 = ad141 := (by injection e141); replace hx141_0 := (HB.out.cell (World.block_lt_of_cell? w _ hx141_0)).trans hx141_0; replace p141 := eq_true p141; replace q141 := eq_true q141; have hcz61_0 : w59.cell? ⟨gb131, 0, none⟩ = some (.slice (some ad132) l0_0.length c0_0) := (blk_cell BK131.out 0).trans rfl; have hfz61_0 := blk_frozen BK131.out 0) | (go_at_call 90; (with_reducible refine (spec_l7Power.calls kj22 _ _ l0_0 _ _ l1 _ _ l3 ((rd_T51 l0_0 a2).f1) t142 _ ?side1 ?side2 ?side3 ?side4 ?side5 ?side6 A55.out).mono ?_); (case side1 => exact zc (Kd.C_below HR0_0.out HB.out)); (case side2 => exact HC0_0.out); (case side3 => exact zc (Kd.C_below HR1.out HB.out)); (case side4 => exact HC1.out); (case side5 => exact zc (Kd.C_below HR3.out HB.out)); (case side6 => exact HC3.out); rintro e w62 ⟨rfl, hb⟩; have n0_ := Aside0.mk (blk_below (zh BK131.out) hb); have n1_ := Aside0.mk (blk_below (zh BK133.out) hb); have n2_ := Aside0.mk (below_step (zb HB.out) hb); clear BK131; clear BK133; clear HB; have BK131 := n0_; have BK133 := n1_; have HB := n2_; clear n0_ n1_ n2_; (try clear hb); (try clear hb2); (try clear hk); (try clear hi)))
                go_ret
                exact ⟨ze, zb HB.out⟩
               ·replace c54 := Bool.eq_false_iff.mpr c54
                subst c54
                have H1 : (some false) = some r := by rw [if_neg (show ¬ (false = true) by decide)] at H; exact H
                clear H
                have H := H1
                clear H1
                obtain rfl := Option.some.inj H
                have hnb63 := NB133_131.out
                have hnc63 := NB131_133.out
                have hcz64_0 : wc.cell? ⟨gb133, 0, none⟩ = some (.int .i64 ((rd_T51 l0_0 a2).f0)) := (blk_cell BK133.out 0).trans rfl
                have hcz64_1 : wc.cell? ⟨gb133, 1, none⟩ = some (.int .i64 ((rd_T51 l0_0 a2).f1)) := (blk_cell BK133.out 1).trans rfl
                have hcz64_2 : wc.cell? ⟨gb133, 2, none⟩ = some (.int .i64 ((rd_T51 l0_0 a2).f2)) := (blk_cell BK133.out 2).trans rfl
                have hfz64_0 := blk_frozen BK133.out 0
                have hfz64_1 := blk_frozen BK133.out 1
                have hfz64_2 := blk_frozen BK133.out 2
                have p139 : 0 ≤ (((rd_T51 l0_0 a2).f1) : Int) := of_decide_eq_true (by first | (with_reducible assumption) | assumption)
                have q139 : ((rd_T51 l0_0 a2).f1) < (l1.length : Int) := of_decide_eq_true (by first | (with_reducible assumption) | assumption)
                obtain ⟨ad139, e139, hx139_0⟩ := Kd.at_bool HR1.out ((rd_T51 l0_0 a2).f1) p139 q139
                (try rw [← Nbq43.out] at hx139_0)
                (try rw [← Nbq53.out] at hx139_0)
                cases e139
                replace hx139_0 := (HB.out.cell (World.block_lt_of_cell? w _ hx139_0)).trans hx139_0
                replace p139 := eq_true p139
                replace q139 := eq_true q139
                have hcz65_0 : wc.cell? ⟨gb131, 0, none⟩ = some (.slice (some ad132) l0_0.length c0_0) := (blk_cell BK131.out 0).trans rfl
                have hfz65_0 := blk_frozen BK131.out 0
                go_wp2_with (first | (go_at_call 90; (with_reducible refine (spec_l7Power.calls kj22 _ _ l0_0 _ _ l1 _ _ l3 ((rd_T51 l0_0 a2).f2) false _ ?side1 ?side2 ?side3 ?side4 ?side5 ?side6 A45.out).mono ?_); (case side1 => exact zc (Kd.C_below HR0_0.out HB.out)); (case side2 => exact HC0_0.out); (case side3 => exact zc (Kd.C_below HR1.out HB.out)); (case side4 => exact HC1.out); (case side5 => exact zc (Kd.C_below HR3.out HB.out)); (case side6 => exact HC3.out); rintro e w66 ⟨rfl, hb⟩; have n0_ := Aside0.mk (blk_below (zh BK131.out) hb); have n1_ := Aside0.mk (blk_below (zh BK133.out) hb); have n2_ := Aside0.mk (below_step (zb HB.out) hb); clear BK131; clear BK133; clear HB; have BK131 := n0_; have BK133 := n1_; have HB := n2_; clear n0_ n1_ n2_; (try clear hb); (try clear hb2); (try clear hk); (try clear hi); have hcz67_0 : w66.cell? ⟨gb133, 0, none⟩ = some (.int .i64 ((rd_T51 l0_0 a2).f0)) := (blk_cell BK133.out 0).trans rfl; have hcz67_1 : w66.cell? ⟨gb133, 1, none⟩ = some (.int .i64 ((rd_T51 l0_0 a2).f1)) := (blk_cell BK133.out 1).trans rfl; have hcz67_2 : w66.cell? ⟨gb133, 2, none⟩ = some (.int .i64 ((rd_T51 l0_0 a2).f2)) := (blk_cell BK133.out 2).trans rfl; have hfz67_0 := blk_frozen BK133.out 0; have hfz67_1 := blk_frozen BK133.out 1; have hfz67_2 := blk_frozen BK133.out 2; have p141 : 0 ≤ (((rd_T51 l0_0 a2).f2) : Int) := of_decide_eq_true (by first | (with_reducible assumption) | assumption); have q141 : ((rd_T51 l0_0 a2).f2) < (l1.length : Int) := of_decide_eq_true (by first | (with_reducible assumption) | assumption); obtain ⟨ad141, e141, hx141_0⟩ := Kd.at_bool HR1.out ((rd_T51 l0_0 a2).f2) p141 q141; (try rw [← Nbq43.out] at hx141_0); (try rw [← Nbq53.out] at hx141_0); obtain rfl : ad139 = ad141 := (by injection e141); replace hx141_0 := (HB.out.cell (World.block_lt_of_cell? w _ hx141_0)).trans hx141_0; replace p141 := eq_true p141; replace q141 := eq_true q141))
                go_ret
                exact ⟨ze, zb HB.out⟩
              ·rw [if_neg c52] at H
               exact absurd H (by simp)
             ·rw [if_neg c51] at H
              exact absurd H (by simp)
           ·replace c44 := Bool.eq_false_iff.mpr c44
            subst c44
            have H1 : (if 0 ≤ ((rd_T51 l0_0 a2).f2) then (if ((rd_T51 l0_0 a2).f2) < (l1.length : Int) then (if rdOf false l1 ((rd_T51 l0_0 a2).f2) = true then ((spec_l7Power.f kj22 l0_0 l1 l3 ((rd_T51 l0_0 a2).f1)).bind fun t144 => (some t144)) else (some false)) else (none)) else (none)) = some r := by rw [if_neg (show ¬ (false = true) by decide)] at H; exact H
            clear H
            have H := H1
            clear H1
            by_cases c68 : 0 ≤ ((rd_T51 l0_0 a2).f2)
            ·rw [if_pos c68] at H
             have c68b0 : decide (0 ≤ ((rd_T51 l0_0 a2).f2)) = true := decide_eq_true c68
             clear c68
             by_cases c69 : ((rd_T51 l0_0 a2).f2) < (l1.length : Int)
             ·rw [if_pos c69] at H
              have c69b0 : decide (((rd_T51 l0_0 a2).f2) < (l1.length : Int)) = true := decide_eq_true c69
              clear c69
              obtain ⟨bq70, hbq70⟩ : ∃ b_ : Bool, b_ = (rdOf false l1 ((rd_T51 l0_0 a2).f2)) := ⟨_, rfl⟩
              replace H : (if bq70 = true then ((spec_l7Power.f kj22 l0_0 l1 l3 ((rd_T51 l0_0 a2).f1)).bind fun t144 => (some t144)) else (some false)) = some r := by rw [← hbq70] at H; exact H
              have Nbq70 := Aside0.mk hbq70
              clear hbq70
              by_cases c71 : bq70 = true
              ·subst c71
               have H1 : ((spec_l7Power.f kj22 l0_0 l1 l3 ((rd_T51 l0_0 a2).f1)).bind fun t144 => (some t144)) = some r := by rw [if_pos rfl] at H; exact H
               clear H
               have H := H1
               clear H1
               replace H := Option.bind_eq_some_iff.mp H
               obtain ⟨t144, A720, H⟩ := H
               replace H : (some t144) = some r := H
               have A72 := Aside0.mk A720
               clear A720
               obtain rfl := Option.some.inj H
               have hnb73 := NB133_131.out
               have hnc73 := NB131_133.out
               have hcz74_0 : wc.cell? ⟨gb133, 0, none⟩ = some (.int .i64 ((rd_T51 l0_0 a2).f0)) := (blk_cell BK133.out 0).trans rfl
               have hcz74_1 : wc.cell? ⟨gb133, 1, none⟩ = some (.int .i64 ((rd_T51 l0_0 a2).f1)) := (blk_cell BK133.out 1).trans rfl
               have hcz74_2 : wc.cell? ⟨gb133, 2, none⟩ = some (.int .i64 ((rd_T51 l0_0 a2).f2)) := (blk_cell BK133.out 2).trans rfl
               have hfz74_0 := blk_frozen BK133.out 0
               have hfz74_1 := blk_frozen BK133.out 1
               have hfz74_2 := blk_frozen BK133.out 2
               have p139 : 0 ≤ (((rd_T51 l0_0 a2).f1) : Int) := of_decide_eq_true (by first | (with_reducible assumption) | assumption)
               have q139 : ((rd_T51 l0_0 a2).f1) < (l1.length : Int) := of_decide_eq_true (by first | (with_reducible assumption) | assumption)
               obtain ⟨ad139, e139, hx139_0⟩ := Kd.at_bool HR1.out ((rd_T51 l0_0 a2).f1) p139 q139
               (try rw [← Nbq43.out] at hx139_0)
               (try rw [← Nbq70.out] at hx139_0)
               cases e139
               replace hx139_0 := (HB.out.cell (World.block_lt_of_cell? w _ hx139_0)).trans hx139_0
               replace p139 := eq_true p139
               replace q139 := eq_true q139
               have p143 : 0 ≤ (((rd_T51 l0_0 a2).f2) : Int) := of_decide_eq_true (by first | (with_reducible assumption) | assumption)
               have q143 : ((rd_T51 l0_0 a2).f2) < (l1.length : Int) := of_decide_eq_true (by first | (with_reducible assumption) | assumption)
               obtain ⟨ad143, e143, hx143_0⟩ := Kd.at_bool HR1.out ((rd_T51 l0_0 a2).f2) p143 q143
               (try rw [← Nbq43.out] at hx143_0)
               (try rw [← Nbq70.out] at hx143_0)
               obtain rfl : ad139 = ad143 := (by injection e143)
               replace hx143_0 := (HB.out.cell (World.block_lt_of_cell? w _ hx143_0)).trans hx143_0
               replace p143 := eq_true p143
               replace q143 := eq_true q143
               have hcz75_0 : wc.cell? ⟨gb131, 0, none⟩ = some (.slice (some ad132) l0_0.length c0_0) := (blk_cell BK131.out 0).trans rfl
               have hfz75_0 := blk_frozen BK131.out 0
               go_wp2_with (first | (go_at_call 90; (with_reducible refine (spec_l7Power.calls kj22 _ _ l0_0 _ _ l1 _ _ l3 ((rd_T51 l0_0 a2).f1) t144 _ ?side1 ?side2 ?side3 ?side4 ?side5 ?side6 A72.out).mono ?_); (case side1 => exact zc (Kd.C_below HR0_0.out HB.out)); (case side2 => exact HC0_0.out); (case side3 => exact zc (Kd.C_below HR1.out HB.out)); (case side4 => exact HC1.out); (case side5 => exact zc (Kd.C_below HR3.out HB.out)); (case side6 => exact HC3.out); rintro e w76 ⟨rfl, hb⟩; have n0_ := Aside0.mk (blk_below (zh BK131.out) hb); have n1_ := Aside0.mk (blk_below (zh BK133.out) hb); have n2_ := Aside0.mk (below_step (zb HB.out) hb); clear BK131; clear BK133; clear HB; have BK131 := n0_; have BK133 := n1_; have HB := n2_; clear n0_ n1_ n2_; (try clear hb); (try clear hb2); (try clear hk); (try clear hi)))
               go_ret
               exact ⟨ze, zb HB.out⟩
              ·replace c71 := Bool.eq_false_iff.mpr c71
               subst c71
               have H1 : (some false) = some r := by rw [if_neg (show ¬ (false = true) by decide)] at H; exact H
               clear H
               have H := H1
               clear H1
               obtain rfl := Option.some.inj H
               have hnb77 := NB133_131.out
               have hnc77 := NB131_133.out
               have hcz78_0 : wc.cell? ⟨gb133, 0, none⟩ = some (.int .i64 ((rd_T51 l0_0 a2).f0)) := (blk_cell BK133.out 0).trans rfl
               have hcz78_1 : wc.cell? ⟨gb133, 1, none⟩ = some (.int .i64 ((rd_T51 l0_0 a2).f1)) := (blk_cell BK133.out 1).trans rfl
               have hcz78_2 : wc.cell? ⟨gb133, 2, none⟩ = some (.int .i64 ((rd_T51 l0_0 a2).f2)) := (blk_cell BK133.out 2).trans rfl
               have hfz78_0 := blk_frozen BK133.out 0
               have hfz78_1 := blk_frozen BK133.out 1
               have hfz78_2 := blk_frozen BK133.out 2
               have p139 : 0 ≤ (((rd_T51 l0_0 a2).f1) : Int) := of_decide_eq_true (by first | (with_reducible assumption) | assumption)
               have q139 : ((rd_T51 l0_0 a2).f1) < (l1.length : Int) := of_decide_eq_true (by first | (with_reducible assumption) | assumption)
               obtain ⟨ad139, e139, hx139_0⟩ := Kd.at_bool HR1.out ((rd_T51 l0_0 a2).f1) p139 q139
               (try rw [← Nbq43.out] at hx139_0)
               (try rw [← Nbq70.out] at hx139_0)
               cases e139
               replace hx139_0 := (HB.out.cell (World.block_lt_of_cell? w _ hx139_0)).trans hx139_0
               replace p139 := eq_true p139
               replace q139 := eq_true q139
               have p143 : 0 ≤ (((rd_T51 l0_0 a2).f2) : Int) := of_decide_eq_true (by first | (with_reducible assumption) | assumption)
               have q143 : ((rd_T51 l0_0 a2).f2) < (l1.length : Int) := of_decide_eq_true (by first | (with_reducible assumption) | assumption)
               obtain ⟨ad143, e143, hx143_0⟩ := Kd.at_bool HR1.out ((rd_T51 l0_0 a2).f2) p143 q143
               (try rw [← Nbq43.out] at hx143_0)
               (try rw [← Nbq70.out] at hx143_0)
               obtain rfl : ad139 = ad143 := (by injection e143)
               replace hx143_0 := (HB.out.cell (World.block_lt_of_cell? w _ hx143_0)).trans hx143_0
               replace p143 := eq_true p143
               replace q143 := eq_true q143
               go_wp2
               go_ret
               exact ⟨ze, zb HB.out⟩
             ·rw [if_neg c69] at H
              exact absurd H (by simp)
            ·rw [if_neg c68] at H
             exact absurd H (by simp)
          ·rw [if_neg c42] at H
           exact absurd H (by simp)
         ·rw [if_neg c41] at H
          exact absurd H (by simp)
        ·rw [if_neg c40] at H
         have c40b0 : (((rd_T51 l0_0 a2).f0) == 8) = false := beq_eq_false_iff_ne.mpr c40
         have c40b1 : (((rd_T51 l0_0 a2).f0) != 8) = true := bne_iff_ne.mpr c40
         obtain rfl := Option.some.inj H
         have hnb79 := NB133_131.out
         have hnc79 := NB131_133.out
         have hcz80_0 : wc.cell? ⟨gb133, 0, none⟩ = some (.int .i64 ((rd_T51 l0_0 a2).f0)) := (blk_cell BK133.out 0).trans rfl
         have hcz80_1 : wc.cell? ⟨gb133, 1, none⟩ = some (.int .i64 ((rd_T51 l0_0 a2).f1)) := (blk_cell BK133.out 1).trans rfl
         have hcz80_2 : wc.cell? ⟨gb133, 2, none⟩ = some (.int .i64 ((rd_T51 l0_0 a2).f2)) := (blk_cell BK133.out 2).trans rfl
         have hfz80_0 := blk_frozen BK133.out 0
         have hfz80_1 := blk_frozen BK133.out 1
         have hfz80_2 := blk_frozen BK133.out 2
         go_wp2
         go_ret
         exact ⟨ze, zb HB.out⟩
  ·rw [if_neg c6] at H
   exact absurd H (by simp)
 ·rw [if_neg c5] at H
  exact absurd H (by simp)

end Go.Proofs.Ytgohebghlgamiaa.P
end

section
-- Written by this session's program (wip/tools/gprint.py over the kit's print) out of the translation; Lean checks it.
namespace Go.Proofs.Ytgohebghlgamiaa.P
open Go.RowKit Go.Proofs.YtgohebghlgamiaaW.PrintWords Go.Proofs.YtgohebghlgamiaaW.PrintLast Go.Proofs.YtgohebghlgamiaaW.PrintMore
attribute [local go_sem] max2_int min2_int max_two min_two max_three min_three max_four min_four   -- for this text's walks alone
set_option linter.unusedVariables false
set_option linter.unusedSimpArgs false
set_option maxRecDepth 100000

/-! ### spec_l7All: function 48 -/
def spec_l7All.l0 : Nat → List Int → List Bool → Int → List (S51) → Option (List Bool)
 | 0, _, _, _, _ => none
 | k + 1, x1, x5, x6, x146000 => if x6 < (x146000.length : Int) then ((spec_KnowHas.f k x1 x6).bind fun t149 => (if t149 = true then (if x5.length < 140737488355328 then (spec_l7All.l0 k x1 (x5 ++ [true]) (wrap64 (x6 + 1)) x146000) else (none)) else ((spec_l7Made.f k x146000 x5 x6 x1).bind fun t153 => (if x5.length < 140737488355328 then (spec_l7All.l0 k x1 (x5 ++ [t153]) (wrap64 (x6 + 1)) x146000) else (none))))) else (some x5)
def spec_l7All.f (k : Nat) (l0_0 : List (S51)) (l1 : List Int) : Option (List Bool) := spec_l7All.l0 k l1 (([] : List Bool)) 0 l0_0
theorem spec_l7All.mono_l : ∀ k, (∀ y0 y1 y2 y3, LeO (spec_l7All.l0 k y0 y1 y2 y3) (spec_l7All.l0 (k + 1) y0 y1 y2 y3))
 | 0 => fun _ _ _ _ r h => by simp [spec_l7All.l0] at h
 | k + 1 => by
  have ih0 := spec_l7All.mono_l k
  ·intro y0 y1 y2 y3
   unfold spec_l7All.l0
   repeat' first
   | (with_reducible exact ih0 _ _ _ _)
   | (with_reducible exact spec_KnowHas.mono _ _ _)
   | (with_reducible exact spec_l7Made.mono _ _ _ _ _)
   | (with_reducible exact LeO.refl _)
   | (with_reducible exact LeO.none _)
   | (with_reducible refine LeO.ite ?_ ?_)
   | (with_reducible refine LeO.bind ?_ (fun _ => ?_))
   | exact ih0 _ _ _ _
   | exact spec_KnowHas.mono _ _ _
   | exact spec_l7Made.mono _ _ _ _ _
   | exact LeO.none _
   | refine LeO.ite ?_ ?_
   | refine LeO.bind ?_ (fun _ => ?_)
theorem spec_l7All.mono : ∀ a0 a1 k, LeO (spec_l7All.f k a0 a1) (spec_l7All.f (k + 1) a0 a1) := by
 intro a0 a1 k
 have ih0 := spec_l7All.mono_l k
 unfold spec_l7All.f
 repeat' first
   | (with_reducible exact ih0 _ _ _ _)
   | (with_reducible exact spec_KnowHas.mono _ _ _)
   | (with_reducible exact spec_l7Made.mono _ _ _ _ _)
   | (with_reducible exact LeO.refl _)
   | (with_reducible exact LeO.none _)
   | (with_reducible refine LeO.ite ?_ ?_)
   | (with_reducible refine LeO.bind ?_ (fun _ => ?_))
   | exact ih0 _ _ _ _
   | exact spec_KnowHas.mono _ _ _
   | exact spec_l7Made.mono _ _ _ _ _
   | exact LeO.none _
   | refine LeO.ite ?_ ?_
   | refine LeO.bind ?_ (fun _ => ?_)
set_option maxHeartbeats 8000000 in
set_option maxRecDepth 100000 in
theorem spec_l7All.calls (k : Nat) (A0_0 : Option Addr) (c0_0 : Nat) (l0_0 : List (S51)) (A1 : Option Addr) (c1 : Nat) (l1 : List Int) (r : List Bool) (w : World) (hr0_0 : Kd.C k51 w A0_0 l0_0.length l0_0) (hc0_0 : l0_0.length ≤ c0_0) (hr1 : Kd.C (Kd.int .i64) w A1 l1.length l1) (hc1 : l1.length ≤ c1) (h : spec_l7All.f k l0_0 l1 = some r) :
  Calls Try.prog 48 #[.agg #[.slice A0_0 l0_0.length c0_0], .slice A1 l1.length c1] w fun e w' => ∃ v0_ : Value, e = .returned (v0_) ∧ Kd.R Kd.bool 4 w' w.heap.size (fun _ => True) v0_ r ∧ Below w.heap.size w w' := by
 have hu30 := Try.underlying30
 have HR0_0 := Aside0.mk hr0_0
 have HC0_0 := Aside0.mk hc0_0
 clear hr0_0 hc0_0
 have HR1 := Aside0.mk hr1
 have HC1 := Aside0.mk hc1
 clear hr1 hc1
 have HB := Aside0.mk (Below.refl w.heap.size w)
 have H : (spec_l7All.l0 k l1 (([] : List Bool)) 0 l0_0) = some r := h
 clear h
 obtain ⟨y146, hy146⟩ : ∃ y_ : List Bool, y_ = (([] : List Bool)) := ⟨_, rfl⟩
 replace H : (spec_l7All.l0 k l1 y146 0 l0_0) = some r := by first | (rw [hy146]; with_reducible exact H) | (have H2_ := (Option.bind_some _ _).symm.trans H; rw [hy146]; with_reducible exact H2_) | (have H2_ := (Option.bind_some _ _).symm.trans H; with_reducible exact H2_) | with_reducible exact H | (rw [hy146]; exact H) | exact H
 have Ny146 := Aside0.mk hy146
 clear hy146
 have H' := Aside0.mk H
 clear H
 go_enter Try.func48, Try.ntmps48
 go_wp2_with (first | ((with_reducible refine gate_dst (N := 2) rfl ?_); refine box_event ?hg (N := 2) ?hd (cs := #[.slice A0_0 l0_0.length c0_0]) (t := 30) ?hr ?_; (case hd => rfl); (case hg => rfl); (case hr => first | (go_simp; done) | (go_simp; rfl)); intro gb145 hg w3 hbox hb; have n0_ := Aside0.mk (below_step (zb HB.out) hb); have n1_ := Aside0.mk (hbox); have n2_ := Aside0.mk ((by rw [hg]; exact (below_size (zb HB.out)) : w.heap.size ≤ gb145)); have n3_ := Aside0.mk ((by rw [hg]; exact (below_size (zb HB.out)) : w.heap.size ≤ gb145)); clear HB; have HB := n0_; have BK145 := n1_; have GW145 := n2_; have GE145 := n3_; clear n0_ n1_ n2_ n3_; clear hb hbox hg) | ((with_reducible refine gate_dst (N := 7) rfl ?_); refine Kd.R_lit Kd.bool _ 4 ?hg (N := 7) ?hd (xs := ([] : List Bool)) (inner := []) (ok := fun _ => True) (okp := fun _ => True) ?hr ?hp (fun _ hk => hk) trivial (Below.refl _ _) (Nat.le_refl _) (by simp) ?_; (case hd => rfl); (case hg => rfl); (case hr => first | (go_simp; done) | (go_simp; rfl)); (case hp => exact (Reps.none _ _)); intro v147 w4 ho5 hb hg_ hnew_; clear hg_ hnew_; (first | rw [← Ny146.out] at ho5 | (simp only [Int.reduceToNat] at ho5; rw [← Ny146.out] at ho5)); have n0_ := Aside0.mk (Kd.R_lower ho5 (below_size (zb HB.out))); have n1_ := Aside0.mk (blk_below (zh BK145.out) hb); have n2_ := Aside0.mk (below_step (zb HB.out) hb); clear BK145; clear HB; have HO148 := n0_; have BK145 := n1_; have HB := n2_; clear n0_ n1_ n2_; clear hb ho5))
 go_loopg [5, 6] k (fun kq v5 v6 w' => ∃ (x5_1 : List Bool) (x6_1 : Int), v6 = .int .i64 x6_1 ∧ Aside0 (spec_l7All.l0 kq l1 x5_1 x6_1 l0_0 = some r) ∧ Aside0 (kq ≤ k) ∧ Aside0 (Kd.R Kd.bool 4 w' w.heap.size (fun _ => True) v5 x5_1) ∧ Aside0 (w'.heap[gb145]? = some (.cells #[(.slice A0_0 l0_0.length c0_0)] 30 (0, 0))) ∧ Aside0 (Below w.heap.size w w'))
 case atStart => exact ⟨(y146), (0), (by first | rfl | (simp; done) | (simp [*]; done)), H', ⟨Nat.le_refl _⟩, ⟨zr HO148.out⟩, ⟨zh BK145.out⟩, ⟨zb HB.out⟩⟩
 case round =>
  clear H'
  try clear c1
  try clear p2
  try clear c4
  obtain ⟨x5_1, x6_1, rfl, HA, HK1, HO_5, BK145, HB⟩ := hrel
  cases gk with
  | zero => exact absurd HA.out (by simp [spec_l7All.l0])
  | succ k1 =>
   have H := HA.out
   clear HA
   simp only [spec_l7All.l0] at H
   by_cases c6 : x6_1 < (l0_0.length : Int)
   ·rw [if_pos c6] at H
    have c6b0 : decide (x6_1 < (l0_0.length : Int)) = true := decide_eq_true c6
    clear c6
    replace H := Option.bind_eq_some_iff.mp H
    obtain ⟨t149, A70, H⟩ := H
    replace H : (if t149 = true then (if x5_1.length < 140737488355328 then (spec_l7All.l0 k1 l1 (x5_1 ++ [true]) (wrap64 (x6_1 + 1)) l0_0) else (none)) else ((spec_l7Made.f k1 l0_0 x5_1 x6_1 l1).bind fun t153 => (if x5_1.length < 140737488355328 then (spec_l7All.l0 k1 l1 (x5_1 ++ [t153]) (wrap64 (x6_1 + 1)) l0_0) else (none)))) = some r := H
    have A7 := Aside0.mk A70
    clear A70
    by_cases c8 : t149 = true
    ·subst c8
     have H1 : (if x5_1.length < 140737488355328 then (spec_l7All.l0 k1 l1 (x5_1 ++ [true]) (wrap64 (x6_1 + 1)) l0_0) else (none)) = some r := by rw [if_pos rfl] at H; exact H
     clear H
     have H := H1
     clear H1
     by_cases c9 : x5_1.length < 140737488355328
     ·rw [if_pos c9] at H
      have LMc9 := Aside0.mk c9
      clear c9
      obtain ⟨y150, hy150⟩ : ∃ y_ : List Bool, y_ = (x5_1 ++ [true]) := ⟨_, rfl⟩
      replace H : (spec_l7All.l0 k1 l1 y150 (wrap64 (x6_1 + 1)) l0_0) = some r := by first | (rw [hy150]; with_reducible exact H) | (have H2_ := (Option.bind_some _ _).symm.trans H; rw [hy150]; with_reducible exact H2_) | (have H2_ := (Option.bind_some _ _).symm.trans H; with_reducible exact H2_) | with_reducible exact H | (rw [hy150]; exact H) | exact H
      have Ny150 := Aside0.mk hy150
      clear hy150
      have H' := Aside0.mk H
      clear H
      have hcz10_0 : wr.cell? ⟨gb145, 0, none⟩ = some (.slice A0_0 l0_0.length c0_0) := (blk_cell BK145.out 0).trans rfl
      have hfz10_0 := blk_frozen BK145.out 0
      go_wp2_with (first | ((with_reducible refine gate_callee (f := 68) rfl ?_); refine goesL_ (some 18) rfl rfl Try.func68 (by kernel_rfl) rfl #[.slice A1 l1.length c1, .int .i64 x6_1] rfl zl ?_; (with_reducible refine (spec_KnowHas.calls k1 _ _ l1 x6_1 true _ ?side1 ?side2 A7.out).mono ?_); (case side1 => exact zc (Kd.C_below HR1.out HB.out)); (case side2 => exact HC1.out); rintro e w' ⟨rfl, ⟨nd, rfl⟩⟩; refine ⟨_, rfl, ?_⟩) | ((with_reducible refine gate_builtin (b := .append) (xs := #[.tmp 15, .tmp 26]) rfl ?_); at_builtin; refine Kd.R_append Kd.bool (w0 := w) w.heap.size rfl (.tmp 15) (.tmp 26) 36 4 (.bool false) 1 rfl Try.underlying36 info4 rfl (by decide) (by omega) u5 x5_1 true [.bool true] (fun _ => True) (fun _ => False) rfl rfl ?aP (fun _ hk => hk.elim) ?aF ?aO ?aB ?aS ?aL ?_; (case aP => exact rfl); (case aB => exact (zb HB.out)); (case aF => exact (fun _ _ => trivial)); (case aO => exact (zr HO_5.out)); (case aS => exact (below_size (zb HB.out))); (case aL => have := LMc9.out; omega); intro v151 w11 ho hb hg hat; rw [← Ny150.out] at ho; have n0_ := Aside0.mk (blk_grown (zh BK145.out) hg (Kd.R_ne HO_5.out BK145.out (by decide))); have n1_ := Aside0.mk (hb); have n2_ := Aside0.mk (ho); clear BK145; clear HB; clear HO_5; have BK145 := n0_; have HB := n1_; have HO152 := n2_; clear n0_ n1_ n2_; clear ho hb hg hat))
      go_roundg k1
      case measure => have := HK1.out; omega
      case rel => exact ⟨(y150), (wrap64 (x6_1 + 1)), (by first | rfl | (simp; done) | (simp [*]; done)), H', ⟨by have := HK1.out; omega⟩, ⟨zr HO152.out⟩, ⟨zh BK145.out⟩, ⟨zb HB.out⟩⟩
     ·rw [if_neg c9] at H
      exact absurd H (by simp)
    ·replace c8 := Bool.eq_false_iff.mpr c8
     subst c8
     have H1 : ((spec_l7Made.f k1 l0_0 x5_1 x6_1 l1).bind fun t153 => (if x5_1.length < 140737488355328 then (spec_l7All.l0 k1 l1 (x5_1 ++ [t153]) (wrap64 (x6_1 + 1)) l0_0) else (none))) = some r := by rw [if_neg (show ¬ (false = true) by decide)] at H; exact H
     clear H
     have H := H1
     clear H1
     replace H := Option.bind_eq_some_iff.mp H
     obtain ⟨t153, A120, H⟩ := H
     replace H : (if x5_1.length < 140737488355328 then (spec_l7All.l0 k1 l1 (x5_1 ++ [t153]) (wrap64 (x6_1 + 1)) l0_0) else (none)) = some r := H
     have A12 := Aside0.mk A120
     clear A120
     by_cases c13 : x5_1.length < 140737488355328
     ·rw [if_pos c13] at H
      have LMc13 := Aside0.mk c13
      clear c13
      obtain ⟨y154, hy154⟩ : ∃ y_ : List Bool, y_ = (x5_1 ++ [t153]) := ⟨_, rfl⟩
      replace H : (spec_l7All.l0 k1 l1 y154 (wrap64 (x6_1 + 1)) l0_0) = some r := by first | (rw [hy154]; with_reducible exact H) | (have H2_ := (Option.bind_some _ _).symm.trans H; rw [hy154]; with_reducible exact H2_) | (have H2_ := (Option.bind_some _ _).symm.trans H; with_reducible exact H2_) | with_reducible exact H | (rw [hy154]; exact H) | exact H
      have Ny154 := Aside0.mk hy154
      clear hy154
      have H' := Aside0.mk H
      clear H
      have hcz14_0 : wr.cell? ⟨gb145, 0, none⟩ = some (.slice A0_0 l0_0.length c0_0) := (blk_cell BK145.out 0).trans rfl
      have hfz14_0 := blk_frozen BK145.out 0
      go_wp2_with (first | ((with_reducible refine gate_callee (f := 68) rfl ?_); refine goesL_ (some 18) rfl rfl Try.func68 (by kernel_rfl) rfl #[.slice A1 l1.length c1, .int .i64 x6_1] rfl zl ?_; (with_reducible refine (spec_KnowHas.calls k1 _ _ l1 x6_1 false _ ?side1 ?side2 A7.out).mono ?_); (case side1 => exact zc (Kd.C_below HR1.out HB.out)); (case side2 => exact HC1.out); rintro e w' ⟨rfl, ⟨nd, rfl⟩⟩; refine ⟨_, rfl, ?_⟩; obtain ⟨Ao15, co15, eo15⟩ := Kd.R_slice HO_5.out; subst eo15) | (go_at_call 69; (with_reducible refine (spec_l7Made.calls k1 _ _ l0_0 _ _ x5_1 x6_1 _ _ l1 t153 _ ?side1 ?side2 ?side3 ?side4 ?side5 ?side6 A12.out).mono ?_); (case side1 => exact zc (Kd.C_below HR0_0.out (zb HB.out))); (case side2 => exact HC0_0.out); (case side3 => exact zc (Kd.R_reads' HO_5.out).2.2); (case side4 => exact (Kd.R_reads' HO_5.out).2.1); (case side5 => exact zc (Kd.C_below HR1.out (zb HB.out))); (case side6 => exact HC1.out); rintro e w16 ⟨rfl, hb⟩; have n0_ := Aside0.mk (Kd.R_below (zr HO_5.out) hb); have n1_ := Aside0.mk (blk_below (zh BK145.out) hb); have n2_ := Aside0.mk (below_step (zb HB.out) hb); clear HO_5; clear BK145; clear HB; have HO_5 := n0_; have BK145 := n1_; have HB := n2_; clear n0_ n1_ n2_; (try clear hb); (try clear hb2); (try clear hk); (try clear hi)) | ((with_reducible refine gate_builtin (b := .append) (xs := #[.tmp 15, .tmp 26]) rfl ?_); at_builtin; refine Kd.R_append Kd.bool (w0 := w) w.heap.size rfl (.tmp 15) (.tmp 26) 36 4 (.bool false) 1 rfl Try.underlying36 info4 rfl (by decide) (by omega) (.slice Ao15 x5_1.length co15) x5_1 t153 [.bool t153] (fun _ => True) (fun _ => False) rfl rfl ?aP (fun _ hk => hk.elim) ?aF ?aO ?aB ?aS ?aL ?_; (case aP => exact rfl); (case aB => exact (zb HB.out)); (case aF => exact (fun _ _ => trivial)); (case aO => exact (zr HO_5.out)); (case aS => exact (below_size (zb HB.out))); (case aL => have := LMc13.out; omega); intro v155 w17 ho hb hg hat; rw [← Ny154.out] at ho; have n0_ := Aside0.mk (blk_grown (zh BK145.out) hg (Kd.R_ne HO_5.out BK145.out (by decide))); have n1_ := Aside0.mk (hb); have n2_ := Aside0.mk (ho); clear BK145; clear HB; clear HO_5; have BK145 := n0_; have HB := n1_; have HO156 := n2_; clear n0_ n1_ n2_; clear ho hb hg hat))
      go_roundg k1
      case measure => have := HK1.out; omega
      case rel => exact ⟨(y154), (wrap64 (x6_1 + 1)), (by first | rfl | (simp; done) | (simp [*]; done)), H', ⟨by have := HK1.out; omega⟩, ⟨zr HO156.out⟩, ⟨zh BK145.out⟩, ⟨zb HB.out⟩⟩
     ·rw [if_neg c13] at H
      exact absurd H (by simp)
   ·rw [if_neg c6] at H
    have c6b0 : decide (x6_1 < (l0_0.length : Int)) = false := decide_eq_false c6
    clear c6
    obtain rfl := Option.some.inj H
    have hcz18_0 : wr.cell? ⟨gb145, 0, none⟩ = some (.slice A0_0 l0_0.length c0_0) := (blk_cell BK145.out 0).trans rfl
    have hfz18_0 := blk_frozen BK145.out 0
    go_wp2
    go_ret
    exact ⟨_, ze, zr HO_5.out, zb HB.out⟩

/-! ### spec_MakesAll: function 18 -/
def spec_MakesAll.f (k : Nat) (l0_0 : List (S51)) (l1 : List Int) : Option (List Bool) := (spec_KnowOk.f k l0_0 l1).bind fun t158 => (if t158 = true then ((spec_l7All.f k l0_0 l1).bind fun t159 => (some t159)) else (some (([] : List Bool))))
theorem spec_MakesAll.mono : ∀ a0 a1 k, LeO (spec_MakesAll.f k a0 a1) (spec_MakesAll.f (k + 1) a0 a1) := by
 intro a0 a1 k
 unfold spec_MakesAll.f
 repeat' first
   | (with_reducible exact spec_KnowOk.mono _ _ _)
   | (with_reducible exact spec_l7All.mono _ _ _)
   | (with_reducible exact LeO.refl _)
   | (with_reducible exact LeO.none _)
   | (with_reducible refine LeO.ite ?_ ?_)
   | (with_reducible refine LeO.bind ?_ (fun _ => ?_))
   | exact spec_KnowOk.mono _ _ _
   | exact spec_l7All.mono _ _ _
   | exact LeO.none _
   | refine LeO.ite ?_ ?_
   | refine LeO.bind ?_ (fun _ => ?_)
set_option maxHeartbeats 8000000 in
set_option maxRecDepth 100000 in
theorem spec_MakesAll.calls (k : Nat) (A0_0 : Option Addr) (c0_0 : Nat) (l0_0 : List (S51)) (A1 : Option Addr) (c1 : Nat) (l1 : List Int) (r : List Bool) (w : World) (hr0_0 : Kd.C k51 w A0_0 l0_0.length l0_0) (hc0_0 : l0_0.length ≤ c0_0) (hr1 : Kd.C (Kd.int .i64) w A1 l1.length l1) (hc1 : l1.length ≤ c1) (h : spec_MakesAll.f k l0_0 l1 = some r) :
  Calls Try.prog 18 #[.agg #[.slice A0_0 l0_0.length c0_0], .slice A1 l1.length c1] w fun e w' => ∃ v0_ : Value, e = .returned (v0_) ∧ Kd.R Kd.bool 4 w' w.heap.size (fun _ => True) v0_ r ∧ Below w.heap.size w w' := by
 have hu30 := Try.underlying30
 have HR0_0 := Aside0.mk hr0_0
 have HC0_0 := Aside0.mk hc0_0
 clear hr0_0 hc0_0
 have HR1 := Aside0.mk hr1
 have HC1 := Aside0.mk hc1
 clear hr1 hc1
 have HB := Aside0.mk (Below.refl w.heap.size w)
 have H : ((spec_KnowOk.f k l0_0 l1).bind fun t158 => (if t158 = true then ((spec_l7All.f k l0_0 l1).bind fun t159 => (some t159)) else (some (([] : List Bool))))) = some r := h
 clear h
 replace H := Option.bind_eq_some_iff.mp H
 obtain ⟨t158, A30, H⟩ := H
 replace H : (if t158 = true then ((spec_l7All.f k l0_0 l1).bind fun t159 => (some t159)) else (some (([] : List Bool)))) = some r := H
 have A3 := Aside0.mk A30
 clear A30
 by_cases c4 : t158 = true
 ·subst c4
  have H1 : ((spec_l7All.f k l0_0 l1).bind fun t159 => (some t159)) = some r := by rw [if_pos rfl] at H; exact H
  clear H
  have H := H1
  clear H1
  replace H := Option.bind_eq_some_iff.mp H
  obtain ⟨t159, A50, H⟩ := H
  replace H : (some t159) = some r := H
  have A5 := Aside0.mk A50
  clear A50
  obtain rfl := Option.some.inj H
  go_enter Try.func18, Try.ntmps18
  go_wp2_with (first | ((with_reducible refine gate_dst (N := 2) rfl ?_); refine box_event ?hg (N := 2) ?hd (cs := #[.slice A0_0 l0_0.length c0_0]) (t := 30) ?hr ?_; (case hd => rfl); (case hg => rfl); (case hr => first | (go_simp; done) | (go_simp; rfl)); intro gb157 hg w6 hbox hb; have n0_ := Aside0.mk (below_step (zb HB.out) hb); have n1_ := Aside0.mk (hbox); have n2_ := Aside0.mk ((by rw [hg]; exact (below_size (zb HB.out)) : w.heap.size ≤ gb157)); have n3_ := Aside0.mk ((by rw [hg]; exact (below_size (zb HB.out)) : w.heap.size ≤ gb157)); clear HB; have HB := n0_; have BK157 := n1_; have GW157 := n2_; have GE157 := n3_; clear n0_ n1_ n2_ n3_; clear hb hbox hg; have hcz7_0 : w6.cell? ⟨gb157, 0, none⟩ = some (.slice A0_0 l0_0.length c0_0) := (blk_cell BK157.out 0).trans rfl; have hfz7_0 := blk_frozen BK157.out 0) | ((with_reducible refine gate_callee (f := 36) rfl ?_); refine goesL_ (some 7) rfl rfl Try.func36 (by kernel_rfl) rfl #[.agg #[.slice A0_0 l0_0.length c0_0], .slice A1 l1.length c1] rfl zl ?_; (with_reducible refine (spec_KnowOk.calls k _ _ l0_0 _ _ l1 true _ ?side1 ?side2 ?side3 ?side4 A3.out).mono ?_); (case side1 => exact zc (Kd.C_below HR0_0.out HB.out)); (case side2 => exact HC0_0.out); (case side3 => exact zc (Kd.C_below HR1.out HB.out)); (case side4 => exact HC1.out); rintro e w8 ⟨rfl, hb⟩; refine ⟨_, rfl, ?_⟩; have n0_ := Aside0.mk (blk_below (zh BK157.out) hb); have n1_ := Aside0.mk (below_step (zb HB.out) hb); clear BK157; clear HB; have BK157 := n0_; have HB := n1_; clear n0_ n1_; (try clear hb); (try clear hb2); (try clear hk); (try clear hi); have hcz9_0 : w8.cell? ⟨gb157, 0, none⟩ = some (.slice A0_0 l0_0.length c0_0) := (blk_cell BK157.out 0).trans rfl; have hfz9_0 := blk_frozen BK157.out 0) | ((with_reducible refine gate_callee (f := 48) rfl ?_); refine goesL_ (some 12) rfl rfl Try.func48 (by kernel_rfl) rfl #[.agg #[.slice A0_0 l0_0.length c0_0], .slice A1 l1.length c1] rfl zl ?_; (with_reducible refine (spec_l7All.calls k _ _ l0_0 _ _ l1 t159 _ ?side1 ?side2 ?side3 ?side4 A5.out).mono ?_); (case side1 => exact zc (Kd.C_below HR0_0.out HB.out)); (case side2 => exact HC0_0.out); (case side3 => exact zc (Kd.C_below HR1.out HB.out)); (case side4 => exact HC1.out); rintro e w10 ⟨v160, rfl, ho0, hb⟩; refine ⟨_, rfl, ?_⟩; have n0_ := Aside0.mk (Kd.R_lower ho0 (below_size (zb HB.out))); have n1_ := Aside0.mk (blk_below (zh BK157.out) hb); have n2_ := Aside0.mk (below_step (zb HB.out) hb); clear BK157; clear HB; have HO161 := n0_; have BK157 := n1_; have HB := n2_; clear n0_ n1_ n2_; (try clear hb); (try clear hb2); (try clear hk); (try clear hi); (try clear ho0)))
  go_ret
  exact ⟨_, ze, zr HO161.out, zb HB.out⟩
 ·replace c4 := Bool.eq_false_iff.mpr c4
  subst c4
  have H1 : (some (([] : List Bool))) = some r := by rw [if_neg (show ¬ (false = true) by decide)] at H; exact H
  clear H
  have H := H1
  clear H1
  obtain ⟨y162, hy162⟩ : ∃ y_ : List Bool, y_ = (([] : List Bool)) := ⟨_, rfl⟩
  replace H : (some y162) = some r := by first | (rw [hy162]; with_reducible exact H) | (have H2_ := (Option.bind_some _ _).symm.trans H; rw [hy162]; with_reducible exact H2_) | (have H2_ := (Option.bind_some _ _).symm.trans H; with_reducible exact H2_) | with_reducible exact H | (rw [hy162]; exact H) | exact H
  have Ny162 := Aside0.mk hy162
  clear hy162
  obtain rfl := Option.some.inj H
  go_enter Try.func18, Try.ntmps18
  go_wp2_with (first | ((with_reducible refine gate_dst (N := 2) rfl ?_); refine box_event ?hg (N := 2) ?hd (cs := #[.slice A0_0 l0_0.length c0_0]) (t := 30) ?hr ?_; (case hd => rfl); (case hg => rfl); (case hr => first | (go_simp; done) | (go_simp; rfl)); intro gb157 hg w11 hbox hb; have n0_ := Aside0.mk (below_step (zb HB.out) hb); have n1_ := Aside0.mk (hbox); have n2_ := Aside0.mk ((by rw [hg]; exact (below_size (zb HB.out)) : w.heap.size ≤ gb157)); have n3_ := Aside0.mk ((by rw [hg]; exact (below_size (zb HB.out)) : w.heap.size ≤ gb157)); clear HB; have HB := n0_; have BK157 := n1_; have GW157 := n2_; have GE157 := n3_; clear n0_ n1_ n2_ n3_; clear hb hbox hg; have hcz12_0 : w11.cell? ⟨gb157, 0, none⟩ = some (.slice A0_0 l0_0.length c0_0) := (blk_cell BK157.out 0).trans rfl; have hfz12_0 := blk_frozen BK157.out 0) | ((with_reducible refine gate_callee (f := 36) rfl ?_); refine goesL_ (some 7) rfl rfl Try.func36 (by kernel_rfl) rfl #[.agg #[.slice A0_0 l0_0.length c0_0], .slice A1 l1.length c1] rfl zl ?_; (with_reducible refine (spec_KnowOk.calls k _ _ l0_0 _ _ l1 false _ ?side1 ?side2 ?side3 ?side4 A3.out).mono ?_); (case side1 => exact zc (Kd.C_below HR0_0.out HB.out)); (case side2 => exact HC0_0.out); (case side3 => exact zc (Kd.C_below HR1.out HB.out)); (case side4 => exact HC1.out); rintro e w13 ⟨rfl, hb⟩; refine ⟨_, rfl, ?_⟩; have n0_ := Aside0.mk (blk_below (zh BK157.out) hb); have n1_ := Aside0.mk (below_step (zb HB.out) hb); clear BK157; clear HB; have BK157 := n0_; have HB := n1_; clear n0_ n1_; (try clear hb); (try clear hb2); (try clear hk); (try clear hi)) | ((with_reducible refine gate_dst (N := 9) rfl ?_); refine Kd.R_lit Kd.bool _ 4 ?hg (N := 9) ?hd (xs := ([] : List Bool)) (inner := []) (ok := fun _ => True) (okp := fun _ => True) ?hr ?hp (fun _ hk => hk) trivial (Below.refl _ _) (Nat.le_refl _) (by simp) ?_; (case hd => rfl); (case hg => rfl); (case hr => first | (go_simp; done) | (go_simp; rfl)); (case hp => exact (Reps.none _ _)); intro v163 w14 ho15 hb hg_ hnew_; clear hg_ hnew_; (first | rw [← Ny162.out] at ho15 | (simp only [Int.reduceToNat] at ho15; rw [← Ny162.out] at ho15)); have n0_ := Aside0.mk (Kd.R_lower ho15 (below_size (zb HB.out))); have n1_ := Aside0.mk (blk_below (zh BK157.out) hb); have n2_ := Aside0.mk (below_step (zb HB.out) hb); clear BK157; clear HB; have HO164 := n0_; have BK157 := n1_; have HB := n2_; clear n0_ n1_ n2_; clear hb ho15))
  go_ret
  exact ⟨_, ze, zr HO164.out, zb HB.out⟩

/-! ### impl_inRange: function 59 -/
def impl_inRange.f (a0 : Int) (a1 : Int) (a2 : Int) : Option (Bool) := if a0 ≥ a1 then (some (decide (a0 ≤ a2))) else (some false)
set_option maxHeartbeats 8000000 in
set_option maxRecDepth 100000 in
theorem impl_inRange.calls (a0 : Int) (a1 : Int) (a2 : Int) (r : Bool) (w : World) (h : impl_inRange.f a0 a1 a2 = some r) :
  Calls Try.prog 59 #[.int .i64 a0, .int .i64 a1, .int .i64 a2] w fun e w' => e = .returned (.bool r) ∧ Drawn0 w w' := by
 have H : (if a0 ≥ a1 then (some (decide (a0 ≤ a2))) else (some false)) = some r := h
 clear h
 by_cases c4 : a0 ≥ a1
 ·rw [if_pos c4] at H
  have c4b0 : decide (a1 ≤ a0) = true := decide_eq_true c4
  clear c4
  obtain rfl := Option.some.inj H
  go_enter Try.func59, Try.ntmps59
  go_wp2
  go_ret
  exact ⟨by first | rfl | (simp; done) | (simp [*]; done), by repeat (first | exact Drawn0.refl _ | apply Drawn0.step)⟩
 ·rw [if_neg c4] at H
  have c4b0 : decide (a1 ≤ a0) = false := decide_eq_false c4
  clear c4
  obtain rfl := Option.some.inj H
  go_enter Try.func59, Try.ntmps59
  go_wp2
  go_ret
  exact ⟨by first | rfl | (simp; done) | (simp [*]; done), by repeat (first | exact Drawn0.refl _ | apply Drawn0.step)⟩

/-! ### impl_Pool_isTerm: function 50 -/
def impl_Pool_isTerm.f (l0_0 : List (S51)) (a1 : Int) : Option (Bool) := (impl_inRange.f a1 0 (wrap64 ((l0_0.length : Int) - 1))).bind fun t165 => (some t165)
set_option maxHeartbeats 8000000 in
set_option maxRecDepth 100000 in
theorem impl_Pool_isTerm.calls (g0_ : Nat) (A0_0 : Option Addr) (c0_0 : Nat) (l0_0 : List (S51)) (a1 : Int) (r : Bool) (w : World) (hk0_ : w.heap[g0_]? = some (.cells #[.slice A0_0 l0_0.length c0_0] 30 (0, 0))) (hr0_0 : Kd.C k51 w A0_0 l0_0.length l0_0) (hc0_0 : l0_0.length ≤ c0_0) (h : impl_Pool_isTerm.f l0_0 a1 = some r) :
  Calls Try.prog 50 #[.pointer (some ⟨g0_, 0, none⟩), .int .i64 a1] w fun e w' => e = .returned (.bool r) ∧ Below w.heap.size w w' := by
 have HR0_0 := Aside0.mk hr0_0
 have HC0_0 := Aside0.mk hc0_0
 clear hr0_0 hc0_0
 have BK0 := Aside0.mk hk0_
 clear hk0_
 have HB := Aside0.mk (Below.refl w.heap.size w)
 have H : ((impl_inRange.f a1 0 (wrap64 ((l0_0.length : Int) - 1))).bind fun t165 => (some t165)) = some r := h
 clear h
 replace H := Option.bind_eq_some_iff.mp H
 obtain ⟨t165, A30, H⟩ := H
 replace H : (some t165) = some r := H
 have A3 := Aside0.mk A30
 clear A30
 obtain rfl := Option.some.inj H
 have hcz4_0 : w.cell? ⟨g0_, 0, none⟩ = some (.slice A0_0 l0_0.length c0_0) := (blk_cell BK0.out 0).trans rfl
 have hfz4_0 := blk_frozen BK0.out 0
 go_enter Try.func50, Try.ntmps50
 go_wp2_with (first | ((with_reducible refine gate_callee (f := 59) rfl ?_); refine goesL_ (some 12) rfl rfl Try.func59 (by kernel_rfl) rfl #[.int .i64 a1, .int .i64 0, .int .i64 (wrap64 ((l0_0.length : Int) - 1))] rfl zl ?_; (with_reducible refine (impl_inRange.calls a1 0 (wrap64 ((l0_0.length : Int) - 1)) t165 _ A3.out).mono ?_); rintro e w' ⟨rfl, ⟨nd, rfl⟩⟩; refine ⟨_, rfl, ?_⟩))
 go_ret
 exact ⟨ze, zb HB.out⟩

/-! ### impl_count: function 78 -/
def impl_count.j0 : Nat → Int → Bool → Option (Int)
 | 0, _, _ => none
 | k + 1, x3, x6 => if x6 = true then (some 1) else (if x3 = 2 then (some 2) else (if x3 = 3 then (some 2) else (if x3 = 4 then (some 2) else (if x3 = 6 then (some 2) else (if x3 = 8 then (some 2) else (some (-1)))))))
def impl_count.f (k : Nat) (a0 : Int) : Option (Int) := if a0 = 1 then (some 0) else (if a0 = 5 then (impl_count.j0 k a0 (a0 == 5)) else (impl_count.j0 k a0 (a0 == 7)))
theorem impl_count.mono_l : ∀ k, (∀ y0 y1, LeO (impl_count.j0 k y0 y1) (impl_count.j0 (k + 1) y0 y1))
 | 0 => fun _ _ r h => by simp [impl_count.j0] at h
 | k + 1 => by
  have ih0 := impl_count.mono_l k
  ·intro y0 y1
   unfold impl_count.j0
   repeat' first
   | (with_reducible exact ih0 _ _)
   | (with_reducible exact LeO.refl _)
   | (with_reducible exact LeO.none _)
   | (with_reducible refine LeO.ite ?_ ?_)
   | (with_reducible refine LeO.bind ?_ (fun _ => ?_))
   | exact ih0 _ _
   | exact LeO.none _
   | refine LeO.ite ?_ ?_
   | refine LeO.bind ?_ (fun _ => ?_)
theorem impl_count.mono : ∀ a0 k, LeO (impl_count.f k a0) (impl_count.f (k + 1) a0) := by
 intro a0 k
 have ih0 := impl_count.mono_l k
 unfold impl_count.f
 repeat' first
   | (with_reducible exact ih0 _ _)
   | (with_reducible exact LeO.refl _)
   | (with_reducible exact LeO.none _)
   | (with_reducible refine LeO.ite ?_ ?_)
   | (with_reducible refine LeO.bind ?_ (fun _ => ?_))
   | exact ih0 _ _
   | exact LeO.none _
   | refine LeO.ite ?_ ?_
   | refine LeO.bind ?_ (fun _ => ?_)
set_option maxHeartbeats 8000000 in
set_option maxRecDepth 100000 in
theorem impl_count.calls (k : Nat) (a0 : Int) (r : Int) (w : World) (h : impl_count.f k a0 = some r) :
  Calls Try.prog 78 #[.int .i64 a0] w fun e w' => e = .returned (.int .i64 r) ∧ Drawn0 w w' := by
 have H : (if a0 = 1 then (some 0) else (if a0 = 5 then (impl_count.j0 k a0 (a0 == 5)) else (impl_count.j0 k a0 (a0 == 7)))) = some r := h
 clear h
 by_cases c2 : a0 = 1
 ·rw [if_pos c2] at H
  have c2b0 : (a0 == 1) = true := beq_iff_eq.mpr c2
  have c2b1 : (a0 != 1) = false := bne_eq_false_iff_eq.mpr c2
  clear c2
  obtain rfl := Option.some.inj H
  go_enter Try.func78, Try.ntmps78
  go_wp2
  go_ret
  exact ⟨by first | rfl | (simp; done) | (simp [*]; done), by repeat (first | exact Drawn0.refl _ | apply Drawn0.step)⟩
 ·rw [if_neg c2] at H
  have c2b0 : (a0 == 1) = false := beq_eq_false_iff_ne.mpr c2
  have c2b1 : (a0 != 1) = true := bne_iff_ne.mpr c2
  have HC3 := Aside0.mk H
  clear H
  go_enter Try.func78, Try.ntmps78
  go_upto_if 6 with (fail)
  go_cut [6] (fun v6 wc => ∃ (kq : Nat) (x6_2 : Bool), v6 = .bool x6_2 ∧ Aside0 (impl_count.j0 kq a0 x6_2 = some r) ∧ Aside0 (kq ≤ k) ∧ Drawn0 w wc)
  case first =>
   have H := HC3.out
   clear HC3
   by_cases c4 : a0 = 5
   ·rw [if_pos c4] at H
    have c4b0 : (a0 == 5) = true := beq_iff_eq.mpr c4
    have c4b1 : (a0 != 5) = false := bne_eq_false_iff_eq.mpr c4
    clear c4
    (first | rw [c4b0] | (simp only [i64_w, i32_w]; rw [c4b0]) | skip)
    have H' := Aside0.mk H
    clear H
    go_wp2
    go_meet
    case rel => exact ⟨_, ((a0 == 5)), (by first | rfl | (simp; done) | (simp [*]; done)), H', ⟨by first | omega | exact Nat.le_refl _⟩, by repeat (first | exact Drawn0.refl _ | apply Drawn0.step)⟩
   ·rw [if_neg c4] at H
    have c4b0 : (a0 == 5) = false := beq_eq_false_iff_ne.mpr c4
    have c4b1 : (a0 != 5) = true := bne_iff_ne.mpr c4
    (first | rw [c4b0] | (simp only [i64_w, i32_w]; rw [c4b0]) | skip)
    have H' := Aside0.mk H
    clear H
    go_wp2
    go_meet
    case rel => exact ⟨_, ((a0 == 7)), (by first | rfl | (simp; done) | (simp [*]; done)), H', ⟨by first | omega | exact Nat.le_refl _⟩, by repeat (first | exact Drawn0.refl _ | apply Drawn0.step)⟩
  case rest =>
   clear HC3
   try clear c2
   try clear c2b0
   try clear c2b1
   try clear p2
   try clear c4
   try clear c4b0
   try clear c4b1
   obtain ⟨kq, x6_2, rfl, HA, HJ2, ⟨mc2, rfl⟩⟩ := hcut
   cases kq with
   | zero => exact absurd HA.out (by simp [impl_count.j0])
   | succ kj2 =>
    have H := HA.out
    clear HA
    simp only [impl_count.j0] at H
    by_cases c5 : x6_2 = true
    ·subst c5
     have H1 : (some 1) = some r := by rw [if_pos rfl] at H; exact H
     clear H
     have H := H1
     clear H1
     obtain rfl := Option.some.inj H
     go_wp2
     go_ret
     exact ⟨by first | rfl | (simp; done) | (simp [*]; done), by repeat (first | exact Drawn0.refl _ | apply Drawn0.step)⟩
    ·replace c5 := Bool.eq_false_iff.mpr c5
     subst c5
     have H1 : (if a0 = 2 then (some 2) else (if a0 = 3 then (some 2) else (if a0 = 4 then (some 2) else (if a0 = 6 then (some 2) else (if a0 = 8 then (some 2) else (some (-1))))))) = some r := by rw [if_neg (show ¬ (false = true) by decide)] at H; exact H
     clear H
     have H := H1
     clear H1
     by_cases c6 : a0 = 2
     ·rw [if_pos c6] at H
      have c6b0 : (a0 == 2) = true := beq_iff_eq.mpr c6
      have c6b1 : (a0 != 2) = false := bne_eq_false_iff_eq.mpr c6
      clear c6
      obtain rfl := Option.some.inj H
      go_wp2
      go_ret
      exact ⟨by first | rfl | (simp; done) | (simp [*]; done), by repeat (first | exact Drawn0.refl _ | apply Drawn0.step)⟩
     ·rw [if_neg c6] at H
      have c6b0 : (a0 == 2) = false := beq_eq_false_iff_ne.mpr c6
      have c6b1 : (a0 != 2) = true := bne_iff_ne.mpr c6
      by_cases c7 : a0 = 3
      ·rw [if_pos c7] at H
       have c7b0 : (a0 == 3) = true := beq_iff_eq.mpr c7
       have c7b1 : (a0 != 3) = false := bne_eq_false_iff_eq.mpr c7
       clear c7
       obtain rfl := Option.some.inj H
       go_wp2
       go_ret
       exact ⟨by first | rfl | (simp; done) | (simp [*]; done), by repeat (first | exact Drawn0.refl _ | apply Drawn0.step)⟩
      ·rw [if_neg c7] at H
       have c7b0 : (a0 == 3) = false := beq_eq_false_iff_ne.mpr c7
       have c7b1 : (a0 != 3) = true := bne_iff_ne.mpr c7
       by_cases c8 : a0 = 4
       ·rw [if_pos c8] at H
        have c8b0 : (a0 == 4) = true := beq_iff_eq.mpr c8
        have c8b1 : (a0 != 4) = false := bne_eq_false_iff_eq.mpr c8
        clear c8
        obtain rfl := Option.some.inj H
        go_wp2
        go_ret
        exact ⟨by first | rfl | (simp; done) | (simp [*]; done), by repeat (first | exact Drawn0.refl _ | apply Drawn0.step)⟩
       ·rw [if_neg c8] at H
        have c8b0 : (a0 == 4) = false := beq_eq_false_iff_ne.mpr c8
        have c8b1 : (a0 != 4) = true := bne_iff_ne.mpr c8
        by_cases c9 : a0 = 6
        ·rw [if_pos c9] at H
         have c9b0 : (a0 == 6) = true := beq_iff_eq.mpr c9
         have c9b1 : (a0 != 6) = false := bne_eq_false_iff_eq.mpr c9
         clear c9
         obtain rfl := Option.some.inj H
         go_wp2
         go_ret
         exact ⟨by first | rfl | (simp; done) | (simp [*]; done), by repeat (first | exact Drawn0.refl _ | apply Drawn0.step)⟩
        ·rw [if_neg c9] at H
         have c9b0 : (a0 == 6) = false := beq_eq_false_iff_ne.mpr c9
         have c9b1 : (a0 != 6) = true := bne_iff_ne.mpr c9
         by_cases c10 : a0 = 8
         ·rw [if_pos c10] at H
          have c10b0 : (a0 == 8) = true := beq_iff_eq.mpr c10
          have c10b1 : (a0 != 8) = false := bne_eq_false_iff_eq.mpr c10
          clear c10
          obtain rfl := Option.some.inj H
          go_wp2
          go_ret
          exact ⟨by first | rfl | (simp; done) | (simp [*]; done), by repeat (first | exact Drawn0.refl _ | apply Drawn0.step)⟩
         ·rw [if_neg c10] at H
          have c10b0 : (a0 == 8) = false := beq_eq_false_iff_ne.mpr c10
          have c10b1 : (a0 != 8) = true := bne_iff_ne.mpr c10
          obtain rfl := Option.some.inj H
          go_wp2
          go_ret
          exact ⟨by first | rfl | (simp; done) | (simp [*]; done), by repeat (first | exact Drawn0.refl _ | apply Drawn0.step)⟩

/-! ### impl_nodeOk: function 77 -/
def impl_nodeOk.f (k : Nat) (a0_0 : Int) (a0_1 : Int) (a0_2 : Int) (a1 : Int) : Option (Bool) := (impl_count.f k a0_0).bind fun t167 => (if t167 = 0 then ((impl_inRange.f a0_1 0 199).bind fun t168 => (if t168 = true then (some (a0_2 == 0)) else (some false))) else (if t167 = 1 then ((impl_inRange.f a0_1 0 (wrap64 (a1 - 1))).bind fun t169 => (if t169 = true then (some (a0_2 == 0)) else (some false))) else (if t167 = 2 then ((impl_inRange.f a0_1 0 (wrap64 (a1 - 1))).bind fun t170 => (if t170 = true then ((impl_inRange.f a0_2 0 (wrap64 (a1 - 1))).bind fun t171 => (if t171 = true then (if a0_0 = 8 then (some (decide (a0_1 ≤ a0_2))) else (some true)) else (some false))) else (some false))) else (some false))))
theorem impl_nodeOk.mono : ∀ a0 a1 a2 a3 k, LeO (impl_nodeOk.f k a0 a1 a2 a3) (impl_nodeOk.f (k + 1) a0 a1 a2 a3) := by
 intro a0 a1 a2 a3 k
 unfold impl_nodeOk.f
 repeat' first
   | (with_reducible exact impl_count.mono _ _)
   | (with_reducible exact LeO.refl _)
   | (with_reducible exact LeO.none _)
   | (with_reducible refine LeO.ite ?_ ?_)
   | (with_reducible refine LeO.bind ?_ (fun _ => ?_))
   | exact impl_count.mono _ _
   | exact LeO.none _
   | refine LeO.ite ?_ ?_
   | refine LeO.bind ?_ (fun _ => ?_)
set_option maxHeartbeats 8000000 in
set_option maxRecDepth 100000 in
theorem impl_nodeOk.calls (k : Nat) (a0_0 : Int) (a0_1 : Int) (a0_2 : Int) (a1 : Int) (r : Bool) (w : World) (h : impl_nodeOk.f k a0_0 a0_1 a0_2 a1 = some r) :
  Calls Try.prog 77 #[.agg #[.int .i64 a0_0, .int .i64 a0_1, .int .i64 a0_2], .int .i64 a1] w fun e w' => e = .returned (.bool r) ∧ Below w.heap.size w w' := by
 have hu51 := Try.underlying51
 have HB := Aside0.mk (Below.refl w.heap.size w)
 have H : ((impl_count.f k a0_0).bind fun t167 => (if t167 = 0 then ((impl_inRange.f a0_1 0 199).bind fun t168 => (if t168 = true then (some (a0_2 == 0)) else (some false))) else (if t167 = 1 then ((impl_inRange.f a0_1 0 (wrap64 (a1 - 1))).bind fun t169 => (if t169 = true then (some (a0_2 == 0)) else (some false))) else (if t167 = 2 then ((impl_inRange.f a0_1 0 (wrap64 (a1 - 1))).bind fun t170 => (if t170 = true then ((impl_inRange.f a0_2 0 (wrap64 (a1 - 1))).bind fun t171 => (if t171 = true then (if a0_0 = 8 then (some (decide (a0_1 ≤ a0_2))) else (some true)) else (some false))) else (some false))) else (some false))))) = some r := h
 clear h
 replace H := Option.bind_eq_some_iff.mp H
 obtain ⟨t167, A30, H⟩ := H
 replace H : (if t167 = 0 then ((impl_inRange.f a0_1 0 199).bind fun t168 => (if t168 = true then (some (a0_2 == 0)) else (some false))) else (if t167 = 1 then ((impl_inRange.f a0_1 0 (wrap64 (a1 - 1))).bind fun t169 => (if t169 = true then (some (a0_2 == 0)) else (some false))) else (if t167 = 2 then ((impl_inRange.f a0_1 0 (wrap64 (a1 - 1))).bind fun t170 => (if t170 = true then ((impl_inRange.f a0_2 0 (wrap64 (a1 - 1))).bind fun t171 => (if t171 = true then (if a0_0 = 8 then (some (decide (a0_1 ≤ a0_2))) else (some true)) else (some false))) else (some false))) else (some false)))) = some r := H
 have A3 := Aside0.mk A30
 clear A30
 by_cases c4 : t167 = 0
 ·rw [if_pos c4] at H
  have c4b0 : (t167 == 0) = true := beq_iff_eq.mpr c4
  have c4b1 : (t167 != 0) = false := bne_eq_false_iff_eq.mpr c4
  clear c4
  replace H := Option.bind_eq_some_iff.mp H
  obtain ⟨t168, A50, H⟩ := H
  replace H : (if t168 = true then (some (a0_2 == 0)) else (some false)) = some r := H
  have A5 := Aside0.mk A50
  clear A50
  by_cases c6 : t168 = true
  ·subst c6
   have H1 : (some (a0_2 == 0)) = some r := by rw [if_pos rfl] at H; exact H
   clear H
   have H := H1
   clear H1
   obtain rfl := Option.some.inj H
   go_enter Try.func77, Try.ntmps77
   go_wp2_with (first | ((with_reducible refine gate_dst (N := 2) rfl ?_); refine box_event ?hg (N := 2) ?hd (cs := #[.int .i64 a0_0, .int .i64 a0_1, .int .i64 a0_2]) (t := 51) ?hr ?_; (case hd => rfl); (case hg => rfl); (case hr => first | (go_simp; done) | (go_simp; rfl)); intro gb166 hg w7 hbox hb; have n0_ := Aside0.mk (below_step (zb HB.out) hb); have n1_ := Aside0.mk (hbox); have n2_ := Aside0.mk ((by rw [hg]; exact (below_size (zb HB.out)) : w.heap.size ≤ gb166)); have n3_ := Aside0.mk ((by rw [hg]; exact (below_size (zb HB.out)) : w.heap.size ≤ gb166)); clear HB; have HB := n0_; have BK166 := n1_; have GW166 := n2_; have GE166 := n3_; clear n0_ n1_ n2_ n3_; clear hb hbox hg; have hcz8_0 : w7.cell? ⟨gb166, 0, none⟩ = some (.int .i64 a0_0) := (blk_cell BK166.out 0).trans rfl; have hcz8_1 : w7.cell? ⟨gb166, 1, none⟩ = some (.int .i64 a0_1) := (blk_cell BK166.out 1).trans rfl; have hcz8_2 : w7.cell? ⟨gb166, 2, none⟩ = some (.int .i64 a0_2) := (blk_cell BK166.out 2).trans rfl; have hfz8_0 := blk_frozen BK166.out 0; have hfz8_1 := blk_frozen BK166.out 1; have hfz8_2 := blk_frozen BK166.out 2) | ((with_reducible refine gate_callee (f := 78) rfl ?_); refine goesL_ (some 7) rfl rfl Try.func78 (by kernel_rfl) rfl #[.int .i64 a0_0] rfl zl ?_; (with_reducible refine (impl_count.calls k a0_0 t167 _ A3.out).mono ?_); rintro e w' ⟨rfl, ⟨nd, rfl⟩⟩; refine ⟨_, rfl, ?_⟩) | ((with_reducible refine gate_callee (f := 59) rfl ?_); refine goesL_ (some 12) rfl rfl Try.func59 (by kernel_rfl) rfl #[.int .i64 a0_1, .int .i64 0, .int .i64 199] rfl zl ?_; (with_reducible refine (impl_inRange.calls a0_1 0 199 true _ A5.out).mono ?_); rintro e w' ⟨rfl, ⟨nd, rfl⟩⟩; refine ⟨_, rfl, ?_⟩))
   go_ret
   exact ⟨ze, zb HB.out⟩
  ·replace c6 := Bool.eq_false_iff.mpr c6
   subst c6
   have H1 : (some false) = some r := by rw [if_neg (show ¬ (false = true) by decide)] at H; exact H
   clear H
   have H := H1
   clear H1
   obtain rfl := Option.some.inj H
   go_enter Try.func77, Try.ntmps77
   go_wp2_with (first | ((with_reducible refine gate_dst (N := 2) rfl ?_); refine box_event ?hg (N := 2) ?hd (cs := #[.int .i64 a0_0, .int .i64 a0_1, .int .i64 a0_2]) (t := 51) ?hr ?_; (case hd => rfl); (case hg => rfl); (case hr => first | (go_simp; done) | (go_simp; rfl)); intro gb166 hg w9 hbox hb; have n0_ := Aside0.mk (below_step (zb HB.out) hb); have n1_ := Aside0.mk (hbox); have n2_ := Aside0.mk ((by rw [hg]; exact (below_size (zb HB.out)) : w.heap.size ≤ gb166)); have n3_ := Aside0.mk ((by rw [hg]; exact (below_size (zb HB.out)) : w.heap.size ≤ gb166)); clear HB; have HB := n0_; have BK166 := n1_; have GW166 := n2_; have GE166 := n3_; clear n0_ n1_ n2_ n3_; clear hb hbox hg; have hcz10_0 : w9.cell? ⟨gb166, 0, none⟩ = some (.int .i64 a0_0) := (blk_cell BK166.out 0).trans rfl; have hcz10_1 : w9.cell? ⟨gb166, 1, none⟩ = some (.int .i64 a0_1) := (blk_cell BK166.out 1).trans rfl; have hcz10_2 : w9.cell? ⟨gb166, 2, none⟩ = some (.int .i64 a0_2) := (blk_cell BK166.out 2).trans rfl; have hfz10_0 := blk_frozen BK166.out 0; have hfz10_1 := blk_frozen BK166.out 1; have hfz10_2 := blk_frozen BK166.out 2) | ((with_reducible refine gate_callee (f := 78) rfl ?_); refine goesL_ (some 7) rfl rfl Try.func78 (by kernel_rfl) rfl #[.int .i64 a0_0] rfl zl ?_; (with_reducible refine (impl_count.calls k a0_0 t167 _ A3.out).mono ?_); rintro e w' ⟨rfl, ⟨nd, rfl⟩⟩; refine ⟨_, rfl, ?_⟩) | ((with_reducible refine gate_callee (f := 59) rfl ?_); refine goesL_ (some 12) rfl rfl Try.func59 (by kernel_rfl) rfl #[.int .i64 a0_1, .int .i64 0, .int .i64 199] rfl zl ?_; (with_reducible refine (impl_inRange.calls a0_1 0 199 false _ A5.out).mono ?_); rintro e w' ⟨rfl, ⟨nd, rfl⟩⟩; refine ⟨_, rfl, ?_⟩))
   go_ret
   exact ⟨ze, zb HB.out⟩
 ·rw [if_neg c4] at H
  have c4b0 : (t167 == 0) = false := beq_eq_false_iff_ne.mpr c4
  have c4b1 : (t167 != 0) = true := bne_iff_ne.mpr c4
  by_cases c11 : t167 = 1
  ·rw [if_pos c11] at H
   have c11b0 : (t167 == 1) = true := beq_iff_eq.mpr c11
   have c11b1 : (t167 != 1) = false := bne_eq_false_iff_eq.mpr c11
   clear c11
   replace H := Option.bind_eq_some_iff.mp H
   obtain ⟨t169, A120, H⟩ := H
   replace H : (if t169 = true then (some (a0_2 == 0)) else (some false)) = some r := H
   have A12 := Aside0.mk A120
   clear A120
   by_cases c13 : t169 = true
   ·subst c13
    have H1 : (some (a0_2 == 0)) = some r := by rw [if_pos rfl] at H; exact H
    clear H
    have H := H1
    clear H1
    obtain rfl := Option.some.inj H
    go_enter Try.func77, Try.ntmps77
    go_wp2_with (first | ((with_reducible refine gate_dst (N := 2) rfl ?_); refine box_event ?hg (N := 2) ?hd (cs := #[.int .i64 a0_0, .int .i64 a0_1, .int .i64 a0_2]) (t := 51) ?hr ?_; (case hd => rfl); (case hg => rfl); (case hr => first | (go_simp; done) | (go_simp; rfl)); intro gb166 hg w14 hbox hb; have n0_ := Aside0.mk (below_step (zb HB.out) hb); have n1_ := Aside0.mk (hbox); have n2_ := Aside0.mk ((by rw [hg]; exact (below_size (zb HB.out)) : w.heap.size ≤ gb166)); have n3_ := Aside0.mk ((by rw [hg]; exact (below_size (zb HB.out)) : w.heap.size ≤ gb166)); clear HB; have HB := n0_; have BK166 := n1_; have GW166 := n2_; have GE166 := n3_; clear n0_ n1_ n2_ n3_; clear hb hbox hg; have hcz15_0 : w14.cell? ⟨gb166, 0, none⟩ = some (.int .i64 a0_0) := (blk_cell BK166.out 0).trans rfl; have hcz15_1 : w14.cell? ⟨gb166, 1, none⟩ = some (.int .i64 a0_1) := (blk_cell BK166.out 1).trans rfl; have hcz15_2 : w14.cell? ⟨gb166, 2, none⟩ = some (.int .i64 a0_2) := (blk_cell BK166.out 2).trans rfl; have hfz15_0 := blk_frozen BK166.out 0; have hfz15_1 := blk_frozen BK166.out 1; have hfz15_2 := blk_frozen BK166.out 2) | ((with_reducible refine gate_callee (f := 78) rfl ?_); refine goesL_ (some 7) rfl rfl Try.func78 (by kernel_rfl) rfl #[.int .i64 a0_0] rfl zl ?_; (with_reducible refine (impl_count.calls k a0_0 t167 _ A3.out).mono ?_); rintro e w' ⟨rfl, ⟨nd, rfl⟩⟩; refine ⟨_, rfl, ?_⟩) | ((with_reducible refine gate_callee (f := 59) rfl ?_); refine goesL_ (some 24) rfl rfl Try.func59 (by kernel_rfl) rfl #[.int .i64 a0_1, .int .i64 0, .int .i64 (wrap64 (a1 - 1))] rfl zl ?_; (with_reducible refine (impl_inRange.calls a0_1 0 (wrap64 (a1 - 1)) true _ A12.out).mono ?_); rintro e w' ⟨rfl, ⟨nd, rfl⟩⟩; refine ⟨_, rfl, ?_⟩))
    go_ret
    exact ⟨ze, zb HB.out⟩
   ·replace c13 := Bool.eq_false_iff.mpr c13
    subst c13
    have H1 : (some false) = some r := by rw [if_neg (show ¬ (false = true) by decide)] at H; exact H
    clear H
    have H := H1
    clear H1
    obtain rfl := Option.some.inj H
    go_enter Try.func77, Try.ntmps77
    go_wp2_with (first | ((with_reducible refine gate_dst (N := 2) rfl ?_); refine box_event ?hg (N := 2) ?hd (cs := #[.int .i64 a0_0, .int .i64 a0_1, .int .i64 a0_2]) (t := 51) ?hr ?_; (case hd => rfl); (case hg => rfl); (case hr => first | (go_simp; done) | (go_simp; rfl)); intro gb166 hg w16 hbox hb; have n0_ := Aside0.mk (below_step (zb HB.out) hb); have n1_ := Aside0.mk (hbox); have n2_ := Aside0.mk ((by rw [hg]; exact (below_size (zb HB.out)) : w.heap.size ≤ gb166)); have n3_ := Aside0.mk ((by rw [hg]; exact (below_size (zb HB.out)) : w.heap.size ≤ gb166)); clear HB; have HB := n0_; have BK166 := n1_; have GW166 := n2_; have GE166 := n3_; clear n0_ n1_ n2_ n3_; clear hb hbox hg; have hcz17_0 : w16.cell? ⟨gb166, 0, none⟩ = some (.int .i64 a0_0) := (blk_cell BK166.out 0).trans rfl; have hcz17_1 : w16.cell? ⟨gb166, 1, none⟩ = some (.int .i64 a0_1) := (blk_cell BK166.out 1).trans rfl; have hcz17_2 : w16.cell? ⟨gb166, 2, none⟩ = some (.int .i64 a0_2) := (blk_cell BK166.out 2).trans rfl; have hfz17_0 := blk_frozen BK166.out 0; have hfz17_1 := blk_frozen BK166.out 1; have hfz17_2 := blk_frozen BK166.out 2) | ((with_reducible refine gate_callee (f := 78) rfl ?_); refine goesL_ (some 7) rfl rfl Try.func78 (by kernel_rfl) rfl #[.int .i64 a0_0] rfl zl ?_; (with_reducible refine (impl_count.calls k a0_0 t167 _ A3.out).mono ?_); rintro e w' ⟨rfl, ⟨nd, rfl⟩⟩; refine ⟨_, rfl, ?_⟩) | ((with_reducible refine gate_callee (f := 59) rfl ?_); refine goesL_ (some 24) rfl rfl Try.func59 (by kernel_rfl) rfl #[.int .i64 a0_1, .int .i64 0, .int .i64 (wrap64 (a1 - 1))] rfl zl ?_; (with_reducible refine (impl_inRange.calls a0_1 0 (wrap64 (a1 - 1)) false _ A12.out).mono ?_); rintro e w' ⟨rfl, ⟨nd, rfl⟩⟩; refine ⟨_, rfl, ?_⟩))
    go_ret
    exact ⟨ze, zb HB.out⟩
  ·rw [if_neg c11] at H
   have c11b0 : (t167 == 1) = false := beq_eq_false_iff_ne.mpr c11
   have c11b1 : (t167 != 1) = true := bne_iff_ne.mpr c11
   by_cases c18 : t167 = 2
   ·rw [if_pos c18] at H
    have c18b0 : (t167 == 2) = true := beq_iff_eq.mpr c18
    have c18b1 : (t167 != 2) = false := bne_eq_false_iff_eq.mpr c18
    clear c18
    replace H := Option.bind_eq_some_iff.mp H
    obtain ⟨t170, A190, H⟩ := H
    replace H : (if t170 = true then ((impl_inRange.f a0_2 0 (wrap64 (a1 - 1))).bind fun t171 => (if t171 = true then (if a0_0 = 8 then (some (decide (a0_1 ≤ a0_2))) else (some true)) else (some false))) else (some false)) = some r := H
    have A19 := Aside0.mk A190
    clear A190
    by_cases c20 : t170 = true
    ·subst c20
     have H1 : ((impl_inRange.f a0_2 0 (wrap64 (a1 - 1))).bind fun t171 => (if t171 = true then (if a0_0 = 8 then (some (decide (a0_1 ≤ a0_2))) else (some true)) else (some false))) = some r := by rw [if_pos rfl] at H; exact H
     clear H
     have H := H1
     clear H1
     replace H := Option.bind_eq_some_iff.mp H
     obtain ⟨t171, A210, H⟩ := H
     replace H : (if t171 = true then (if a0_0 = 8 then (some (decide (a0_1 ≤ a0_2))) else (some true)) else (some false)) = some r := H
     have A21 := Aside0.mk A210
     clear A210
     by_cases c22 : t171 = true
     ·subst c22
      have H1 : (if a0_0 = 8 then (some (decide (a0_1 ≤ a0_2))) else (some true)) = some r := by rw [if_pos rfl] at H; exact H
      clear H
      have H := H1
      clear H1
      by_cases c23 : a0_0 = 8
      ·rw [if_pos c23] at H
       have c23b0 : (a0_0 == 8) = true := beq_iff_eq.mpr c23
       have c23b1 : (a0_0 != 8) = false := bne_eq_false_iff_eq.mpr c23
       clear c23
       obtain rfl := Option.some.inj H
       go_enter Try.func77, Try.ntmps77
       go_wp2_with (first | ((with_reducible refine gate_dst (N := 2) rfl ?_); refine box_event ?hg (N := 2) ?hd (cs := #[.int .i64 a0_0, .int .i64 a0_1, .int .i64 a0_2]) (t := 51) ?hr ?_; (case hd => rfl); (case hg => rfl); (case hr => first | (go_simp; done) | (go_simp; rfl)); intro gb166 hg w24 hbox hb; have n0_ := Aside0.mk (below_step (zb HB.out) hb); have n1_ := Aside0.mk (hbox); have n2_ := Aside0.mk ((by rw [hg]; exact (below_size (zb HB.out)) : w.heap.size ≤ gb166)); have n3_ := Aside0.mk ((by rw [hg]; exact (below_size (zb HB.out)) : w.heap.size ≤ gb166)); clear HB; have HB := n0_; have BK166 := n1_; have GW166 := n2_; have GE166 := n3_; clear n0_ n1_ n2_ n3_; clear hb hbox hg; have hcz25_0 : w24.cell? ⟨gb166, 0, none⟩ = some (.int .i64 a0_0) := (blk_cell BK166.out 0).trans rfl; have hcz25_1 : w24.cell? ⟨gb166, 1, none⟩ = some (.int .i64 a0_1) := (blk_cell BK166.out 1).trans rfl; have hcz25_2 : w24.cell? ⟨gb166, 2, none⟩ = some (.int .i64 a0_2) := (blk_cell BK166.out 2).trans rfl; have hfz25_0 := blk_frozen BK166.out 0; have hfz25_1 := blk_frozen BK166.out 1; have hfz25_2 := blk_frozen BK166.out 2) | ((with_reducible refine gate_callee (f := 78) rfl ?_); refine goesL_ (some 7) rfl rfl Try.func78 (by kernel_rfl) rfl #[.int .i64 a0_0] rfl zl ?_; (with_reducible refine (impl_count.calls k a0_0 t167 _ A3.out).mono ?_); rintro e w' ⟨rfl, ⟨nd, rfl⟩⟩; refine ⟨_, rfl, ?_⟩) | ((with_reducible refine gate_callee (f := 59) rfl ?_); refine goesL_ (some 36) rfl rfl Try.func59 (by kernel_rfl) rfl #[.int .i64 a0_1, .int .i64 0, .int .i64 (wrap64 (a1 - 1))] rfl zl ?_; (with_reducible refine (impl_inRange.calls a0_1 0 (wrap64 (a1 - 1)) true _ A19.out).mono ?_); rintro e w' ⟨rfl, ⟨nd, rfl⟩⟩; refine ⟨_, rfl, ?_⟩) | (go_at_call 59; (with_reducible refine (impl_inRange.calls a0_2 0 (wrap64 (a1 - 1)) true _ A21.out).mono ?_); rintro e w' ⟨rfl, ⟨nd, rfl⟩⟩))
       go_ret
       exact ⟨ze, zb HB.out⟩
      ·rw [if_neg c23] at H
       have c23b0 : (a0_0 == 8) = false := beq_eq_false_iff_ne.mpr c23
       have c23b1 : (a0_0 != 8) = true := bne_iff_ne.mpr c23
       obtain rfl := Option.some.inj H
       go_enter Try.func77, Try.ntmps77
       go_wp2_with (first | ((with_reducible refine gate_dst (N := 2) rfl ?_); refine box_event ?hg (N := 2) ?hd (cs := #[.int .i64 a0_0, .int .i64 a0_1, .int .i64 a0_2]) (t := 51) ?hr ?_; (case hd => rfl); (case hg => rfl); (case hr => first | (go_simp; done) | (go_simp; rfl)); intro gb166 hg w26 hbox hb; have n0_ := Aside0.mk (below_step (zb HB.out) hb); have n1_ := Aside0.mk (hbox); have n2_ := Aside0.mk ((by rw [hg]; exact (below_size (zb HB.out)) : w.heap.size ≤ gb166)); have n3_ := Aside0.mk ((by rw [hg]; exact (below_size (zb HB.out)) : w.heap.size ≤ gb166)); clear HB; have HB := n0_; have BK166 := n1_; have GW166 := n2_; have GE166 := n3_; clear n0_ n1_ n2_ n3_; clear hb hbox hg; have hcz27_0 : w26.cell? ⟨gb166, 0, none⟩ = some (.int .i64 a0_0) := (blk_cell BK166.out 0).trans rfl; have hcz27_1 : w26.cell? ⟨gb166, 1, none⟩ = some (.int .i64 a0_1) := (blk_cell BK166.out 1).trans rfl; have hcz27_2 : w26.cell? ⟨gb166, 2, none⟩ = some (.int .i64 a0_2) := (blk_cell BK166.out 2).trans rfl; have hfz27_0 := blk_frozen BK166.out 0; have hfz27_1 := blk_frozen BK166.out 1; have hfz27_2 := blk_frozen BK166.out 2) | ((with_reducible refine gate_callee (f := 78) rfl ?_); refine goesL_ (some 7) rfl rfl Try.func78 (by kernel_rfl) rfl #[.int .i64 a0_0] rfl zl ?_; (with_reducible refine (impl_count.calls k a0_0 t167 _ A3.out).mono ?_); rintro e w' ⟨rfl, ⟨nd, rfl⟩⟩; refine ⟨_, rfl, ?_⟩) | ((with_reducible refine gate_callee (f := 59) rfl ?_); refine goesL_ (some 36) rfl rfl Try.func59 (by kernel_rfl) rfl #[.int .i64 a0_1, .int .i64 0, .int .i64 (wrap64 (a1 - 1))] rfl zl ?_; (with_reducible refine (impl_inRange.calls a0_1 0 (wrap64 (a1 - 1)) true _ A19.out).mono ?_); rintro e w' ⟨rfl, ⟨nd, rfl⟩⟩; refine ⟨_, rfl, ?_⟩) | (go_at_call 59; (with_reducible refine (impl_inRange.calls a0_2 0 (wrap64 (a1 - 1)) true _ A21.out).mono ?_); rintro e w' ⟨rfl, ⟨nd, rfl⟩⟩))
       go_ret
       exact ⟨ze, zb HB.out⟩
     ·replace c22 := Bool.eq_false_iff.mpr c22
      subst c22
      have H1 : (some false) = some r := by rw [if_neg (show ¬ (false = true) by decide)] at H; exact H
      clear H
      have H := H1
      clear H1
      obtain rfl := Option.some.inj H
      go_enter Try.func77, Try.ntmps77
      go_wp2_with (first | ((with_reducible refine gate_dst (N := 2) rfl ?_); refine box_event ?hg (N := 2) ?hd (cs := #[.int .i64 a0_0, .int .i64 a0_1, .int .i64 a0_2]) (t := 51) ?hr ?_; (case hd => rfl); (case hg => rfl); (case hr => first | (go_simp; done) | (go_simp; rfl)); intro gb166 hg w28 hbox hb; have n0_ := Aside0.mk (below_step (zb HB.out) hb); have n1_ := Aside0.mk (hbox); have n2_ := Aside0.mk ((by rw [hg]; exact (below_size (zb HB.out)) : w.heap.size ≤ gb166)); have n3_ := Aside0.mk ((by rw [hg]; exact (below_size (zb HB.out)) : w.heap.size ≤ gb166)); clear HB; have HB := n0_; have BK166 := n1_; have GW166 := n2_; have GE166 := n3_; clear n0_ n1_ n2_ n3_; clear hb hbox hg; have hcz29_0 : w28.cell? ⟨gb166, 0, none⟩ = some (.int .i64 a0_0) := (blk_cell BK166.out 0).trans rfl; have hcz29_1 : w28.cell? ⟨gb166, 1, none⟩ = some (.int .i64 a0_1) := (blk_cell BK166.out 1).trans rfl; have hcz29_2 : w28.cell? ⟨gb166, 2, none⟩ = some (.int .i64 a0_2) := (blk_cell BK166.out 2).trans rfl; have hfz29_0 := blk_frozen BK166.out 0; have hfz29_1 := blk_frozen BK166.out 1; have hfz29_2 := blk_frozen BK166.out 2) | ((with_reducible refine gate_callee (f := 78) rfl ?_); refine goesL_ (some 7) rfl rfl Try.func78 (by kernel_rfl) rfl #[.int .i64 a0_0] rfl zl ?_; (with_reducible refine (impl_count.calls k a0_0 t167 _ A3.out).mono ?_); rintro e w' ⟨rfl, ⟨nd, rfl⟩⟩; refine ⟨_, rfl, ?_⟩) | ((with_reducible refine gate_callee (f := 59) rfl ?_); refine goesL_ (some 36) rfl rfl Try.func59 (by kernel_rfl) rfl #[.int .i64 a0_1, .int .i64 0, .int .i64 (wrap64 (a1 - 1))] rfl zl ?_; (with_reducible refine (impl_inRange.calls a0_1 0 (wrap64 (a1 - 1)) true _ A19.out).mono ?_); rintro e w' ⟨rfl, ⟨nd, rfl⟩⟩; refine ⟨_, rfl, ?_⟩) | (go_at_call 59; (with_reducible refine (impl_inRange.calls a0_2 0 (wrap64 (a1 - 1)) false _ A21.out).mono ?_); rintro e w' ⟨rfl, ⟨nd, rfl⟩⟩))
      go_ret
      exact ⟨ze, zb HB.out⟩
    ·replace c20 := Bool.eq_false_iff.mpr c20
     subst c20
     have H1 : (some false) = some r := by rw [if_neg (show ¬ (false = true) by decide)] at H; exact H
     clear H
     have H := H1
     clear H1
     obtain rfl := Option.some.inj H
     go_enter Try.func77, Try.ntmps77
     go_wp2_with (first | ((with_reducible refine gate_dst (N := 2) rfl ?_); refine box_event ?hg (N := 2) ?hd (cs := #[.int .i64 a0_0, .int .i64 a0_1, .int .i64 a0_2]) (t := 51) ?hr ?_; (case hd => rfl); (case hg => rfl); (case hr => first | (go_simp; done) | (go_simp; rfl)); intro gb166 hg w30 hbox hb; have n0_ := Aside0.mk (below_step (zb HB.out) hb); have n1_ := Aside0.mk (hbox); have n2_ := Aside0.mk ((by rw [hg]; exact (below_size (zb HB.out)) : w.heap.size ≤ gb166)); have n3_ := Aside0.mk ((by rw [hg]; exact (below_size (zb HB.out)) : w.heap.size ≤ gb166)); clear HB; have HB := n0_; have BK166 := n1_; have GW166 := n2_; have GE166 := n3_; clear n0_ n1_ n2_ n3_; clear hb hbox hg; have hcz31_0 : w30.cell? ⟨gb166, 0, none⟩ = some (.int .i64 a0_0) := (blk_cell BK166.out 0).trans rfl; have hcz31_1 : w30.cell? ⟨gb166, 1, none⟩ = some (.int .i64 a0_1) := (blk_cell BK166.out 1).trans rfl; have hcz31_2 : w30.cell? ⟨gb166, 2, none⟩ = some (.int .i64 a0_2) := (blk_cell BK166.out 2).trans rfl; have hfz31_0 := blk_frozen BK166.out 0; have hfz31_1 := blk_frozen BK166.out 1; have hfz31_2 := blk_frozen BK166.out 2) | ((with_reducible refine gate_callee (f := 78) rfl ?_); refine goesL_ (some 7) rfl rfl Try.func78 (by kernel_rfl) rfl #[.int .i64 a0_0] rfl zl ?_; (with_reducible refine (impl_count.calls k a0_0 t167 _ A3.out).mono ?_); rintro e w' ⟨rfl, ⟨nd, rfl⟩⟩; refine ⟨_, rfl, ?_⟩) | ((with_reducible refine gate_callee (f := 59) rfl ?_); refine goesL_ (some 36) rfl rfl Try.func59 (by kernel_rfl) rfl #[.int .i64 a0_1, .int .i64 0, .int .i64 (wrap64 (a1 - 1))] rfl zl ?_; (with_reducible refine (impl_inRange.calls a0_1 0 (wrap64 (a1 - 1)) false _ A19.out).mono ?_); rintro e w' ⟨rfl, ⟨nd, rfl⟩⟩; refine ⟨_, rfl, ?_⟩))
     go_ret
     exact ⟨ze, zb HB.out⟩
   ·rw [if_neg c18] at H
    have c18b0 : (t167 == 2) = false := beq_eq_false_iff_ne.mpr c18
    have c18b1 : (t167 != 2) = true := bne_iff_ne.mpr c18
    obtain rfl := Option.some.inj H
    go_enter Try.func77, Try.ntmps77
    go_wp2_with (first | ((with_reducible refine gate_dst (N := 2) rfl ?_); refine box_event ?hg (N := 2) ?hd (cs := #[.int .i64 a0_0, .int .i64 a0_1, .int .i64 a0_2]) (t := 51) ?hr ?_; (case hd => rfl); (case hg => rfl); (case hr => first | (go_simp; done) | (go_simp; rfl)); intro gb166 hg w32 hbox hb; have n0_ := Aside0.mk (below_step (zb HB.out) hb); have n1_ := Aside0.mk (hbox); have n2_ := Aside0.mk ((by rw [hg]; exact (below_size (zb HB.out)) : w.heap.size ≤ gb166)); have n3_ := Aside0.mk ((by rw [hg]; exact (below_size (zb HB.out)) : w.heap.size ≤ gb166)); clear HB; have HB := n0_; have BK166 := n1_; have GW166 := n2_; have GE166 := n3_; clear n0_ n1_ n2_ n3_; clear hb hbox hg; have hcz33_0 : w32.cell? ⟨gb166, 0, none⟩ = some (.int .i64 a0_0) := (blk_cell BK166.out 0).trans rfl; have hcz33_1 : w32.cell? ⟨gb166, 1, none⟩ = some (.int .i64 a0_1) := (blk_cell BK166.out 1).trans rfl; have hcz33_2 : w32.cell? ⟨gb166, 2, none⟩ = some (.int .i64 a0_2) := (blk_cell BK166.out 2).trans rfl; have hfz33_0 := blk_frozen BK166.out 0; have hfz33_1 := blk_frozen BK166.out 1; have hfz33_2 := blk_frozen BK166.out 2) | ((with_reducible refine gate_callee (f := 78) rfl ?_); refine goesL_ (some 7) rfl rfl Try.func78 (by kernel_rfl) rfl #[.int .i64 a0_0] rfl zl ?_; (with_reducible refine (impl_count.calls k a0_0 t167 _ A3.out).mono ?_); rintro e w' ⟨rfl, ⟨nd, rfl⟩⟩; refine ⟨_, rfl, ?_⟩))
    go_ret
    exact ⟨ze, zb HB.out⟩

end Go.Proofs.Ytgohebghlgamiaa.P
end

section
-- Written by this session's program (wip/tools/gprint.py over the kit's print) out of the translation; Lean checks it.
namespace Go.Proofs.Ytgohebghlgamiaa.P
open Go.RowKit Go.Proofs.YtgohebghlgamiaaW.PrintWords Go.Proofs.YtgohebghlgamiaaW.PrintLast Go.Proofs.YtgohebghlgamiaaW.PrintMore
attribute [local go_sem] max2_int min2_int max_two min_two max_three min_three max_four min_four   -- for this text's walks alone
set_option linter.unusedVariables false
set_option linter.unusedSimpArgs false
set_option maxRecDepth 100000


/-! ### impl_PoolOk: function 56 -/
-- IMPORT Derived.ChangeMaps4
-- IMPORT Derived.MapKept
-- IMPORT Derived.RegionTactic
-- IMPORT Derived.ChangeAlike
-- IMPORT Derived.Laws.StructEq
/-! #### a map from nodes to counts, by hand -/
instance decN : DecidableEq S51 := fun a b =>
 if h : a.f0 = b.f0 ∧ a.f1 = b.f1 ∧ a.f2 = b.f2 then .isTrue (by cases a; cases b; simp_all) else .isFalse (fun e => h (by subst e; exact ⟨rfl, rfl, rfl⟩))
def encN (n : S51) : Value := .agg #[.int .i64 n.f0, .int .i64 n.f1, .int .i64 n.f2]
theorem eqN (d : Nat) (w : World) (x0 y0 : Int) (x1 y1 : Int) (x2 y2 : Int) :
  (Op.equalIn (d + 2) 51 (.agg #[.int .i64 x0, .int .i64 x1, .int .i64 x2]) (.agg #[.int .i64 y0, .int .i64 y1, .int .i64 y2])).run Try.prog w = .ok (x0 == y0 && (x1 == y1 && (x2 == y2))) w := by
 refine eqA_of Try.underlying51 (by kernel_rfl) ?_
 refine eqf_cons (by rfl) (by go_simp; rfl) (by go_simp; rfl) (by go_simp) ?_
 refine eqf_cons (by rfl) (by go_simp; rfl) (by go_simp; rfl) (by go_simp) ?_
 exact eqf_last (by rfl) (by go_simp; rfl) (by go_simp; rfl) (by go_simp)
theorem run_eqN (w : World) (a b : S51) : (Op.equal 51 (encN a) (encN b)).run Try.prog w = .ok (decide (a = b)) w := by
 have h := eqN 9998 w a.f0 b.f0 a.f1 b.f1 a.f2 b.f2
 have e : (a.f0 == b.f0 && (a.f1 == b.f1 && (a.f2 == b.f2))) = decide (a = b) := by
  rw [Bool.eq_iff_iff]
  cases a; cases b
  simp
 rw [e] at h
 simp only [Op.equal, Op.maxDepth, encN]
 exact h
def lookN : List (S51 × Int) → S51 → Nat → Option (Nat × Int)
 | [], _, _ => none
 | (m, v) :: r, n, i => if n = m then some (i, v) else lookN r n (i + 1)
def entsN (es : List MapEntry) (kv : List (S51 × Int)) : Prop := es.map (fun e => (e.key, e.val)) = kv.map (fun p => (encN p.1, Value.int .i64 p.2))
theorem run_askN (w : World) (n : S51) : ∀ (es : List MapEntry) (kv : List (S51 × Int)) (i : Nat), entsN es kv →
  (Instr.findAsking 51 (encN n) es i).run Try.prog w = .ok ((lookN kv n i).map fun p => (p.1, Value.int .i64 p.2)) w
 | [], [], i, _ => by simp [Instr.findAsking, lookN]
 | [], _ :: _, i, h => by simp [entsN] at h
 | _ :: _, [], i, h => by simp [entsN] at h
 | e :: es, (m, v) :: kv, i, h => by
  simp only [entsN, List.map_cons, List.cons.injEq, Prod.mk.injEq] at h
  obtain ⟨⟨h1, h2⟩, h3⟩ := h
  have ih := run_askN w n es kv (i + 1) h3
  simp only [Instr.findAsking, Sem.run_bind, h1, h2, run_eqN, Result.andThen_ok, lookN]
  by_cases hn : n = m
  ·simp [hn]
  ·simp [hn, ih]
theorem run_findN (w : World) (n : S51) (es : List MapEntry) (kv : List (S51 × Int)) (h : entsN es kv) :
  (Instr.findKey 51 (encN n) es).run Try.prog w = .ok ((lookN kv n 0).map fun p => (p.1, Value.int .i64 p.2)) w := by
 cases es with
 | nil =>
  cases kv with
  | nil => simp [Instr.findKey, run_underlying Try.underlying51, Instr.findNow, lookN, Result.andThen]
  | cons p r => simp [entsN] at h
 | cons e r =>
  have h0 := run_askN w n (e :: r) kv 0 h
  have hn : ∀ (k : Value) (d : Array Field), Instr.findNow (.struct d) (encN n) (e :: r) 0 = none := fun _ d => by simp [Instr.findNow, Instr.sameNow]
  simp only [Instr.findKey, Sem.run_bind, run_underlying Try.underlying51, Result.andThen_ok, hn .nilIface]
  exact h0
theorem run_checkN (w : World) (em : Bool) (n : S51) : (Instr.checkKey em 10000 51 (encN n)).run Try.prog w = .ok () w := by
 cases n
 kernel_rfl
theorem run_staysN (w : World) (n : S51) : (Instr.keyThatStays (encN n) (encN n)).run Try.prog w = .ok (encN n) w := by
 have h : Instr.sameBits 10000 (encN n) (encN n) = true := by simp [encN, Instr.sameBits]
 simp [Instr.keyThatStays, h]
theorem zeroN (w : World) : (zeroValue 3).run Try.prog w = .ok (.int .i64 0) w := by kernel_rfl
def MapN (w : World) (b : Nat) (kv : List (S51 × Int)) : Prop :=
 ∃ es clock, w.heap[b]? = some (.map es clock) ∧ entsN es.toList kv ∧ (∀ x ∈ es.toList, x.born < clock) ∧ (es.toList.map (·.born)).Nodup
def cntN (kv : List (S51 × Int)) (n : S51) : Int := ((lookN kv n 0).map (·.2)).getD 0
theorem MapN.look {w : World} {b : Nat} {kv : List (S51 × Int)} (h : MapN w b kv) (n : S51) :
  (Instr.lookup 86 (.map (some b)) (encN n) false).run Try.prog w = .ok (.int .i64 (cntN kv n)) w := by
 obtain ⟨es, clock, hb, he, _, _⟩ := h
 simp only [Instr.lookup, Sem.run_bind, run_underlying Try.underlying86, Result.andThen_ok, MapKept.run_getObj_map hb, Sem.run_pure, run_checkN, run_findN w n es.toList kv he, cntN]
 cases lookN kv n 0 with
 | none => simp [zeroN, Result.andThen]
 | some p => simp [Result.andThen]
def setN : List (S51 × Int) → S51 → Int → List (S51 × Int)
 | [], n, x => [(n, x)]
 | (m, v) :: r, n, x => if n = m then (m, x) :: r else (m, v) :: setN r n x
theorem lookN_shift (kv : List (S51 × Int)) (n : S51) : ∀ i j, (lookN kv n (i + j)) = (lookN kv n i).map fun p => (p.1 + j, p.2) := by
 induction kv with
 | nil => intro i j; rfl
 | cons p r ih =>
  intro i j
  obtain ⟨m, v⟩ := p
  simp only [lookN]
  split
  ·rfl
  ·rw [show i + j + 1 = (i + 1) + j by omega]; exact ih (i + 1) j
theorem cntN_set (kv : List (S51 × Int)) (n : S51) (x : Int) : cntN (setN kv n x) n = x := by
 have key : ∀ i, (lookN (setN kv n x) n i).map (·.2) = some x := by
  induction kv with
  | nil => intro i; simp [setN, lookN]
  | cons p r ih =>
   intro i
   obtain ⟨m, v⟩ := p
   by_cases e : n = m
   ·simp [setN, lookN, e]
   ·simp [setN, lookN, e]; simpa using ih (i + 1)
 simp [cntN, key 0]
theorem setN_new (kv : List (S51 × Int)) (n : S51) (x : Int) (h : n ∉ kv.map (·.1)) : setN kv n x = kv ++ [(n, x)] := by
 induction kv with
 | nil => rfl
 | cons p r ih =>
  obtain ⟨m, v⟩ := p
  simp only [List.map_cons, List.mem_cons, not_or] at h
  simp [setN, h.1, ih h.2]
theorem cntN_ones (l : List S51) (n : S51) : cntN (l.map fun m => (m, (1 : Int))) n = if n ∈ l then 1 else 0 := by
 have key : ∀ i, (lookN (l.map fun m => (m, (1 : Int))) n i).map (·.2) = if n ∈ l then some 1 else none := by
  induction l with
  | nil => intro i; simp [lookN]
  | cons m r ih =>
   intro i
   by_cases e : n = m
   ·simp [lookN, e]
   ·simp [lookN, e]; simpa using ih (i + 1)
 unfold cntN
 rw [key 0]
 split <;> simp
theorem lookN_none {kv : List (S51 × Int)} {n : S51} : ∀ {i}, lookN kv n i = none → ∀ x, setN kv n x = kv ++ [(n, x)] := by
 induction kv with
 | nil => intro i _ x; rfl
 | cons p r ih =>
  intro i h x
  obtain ⟨m, v⟩ := p
  simp only [lookN] at h
  split at h
  ·cases h
  ·rename_i e
   simp [setN, e, ih h x]
theorem lookN_some {n : S51} : ∀ {kv : List (S51 × Int)} {i j : Nat} {v : Int}, lookN kv n i = some (i + j, v) → kv[j]? = some (n, v) ∧ ∀ x, setN kv n x = kv.set j (n, x)
 | [], i, j, v, h => by simp [lookN] at h
 | (m, u) :: r, i, j, v, h => by
  simp only [lookN] at h
  split at h
  ·rename_i e
   simp only [Option.some.injEq, Prod.mk.injEq] at h
   obtain ⟨h1, rfl⟩ := h
   obtain rfl : j = 0 := by omega
   subst e
   exact ⟨rfl, fun x => by simp [setN]⟩
  ·rename_i e
   cases j with
   | zero =>
    exfalso
    rw [lookN_shift r n i 1] at h
    have hs := lookN_shift r n 0 i
    rw [Nat.zero_add] at hs
    rw [hs] at h
    cases hl : lookN r n 0 with
    | none => rw [hl] at h; simp at h
    | some p => rw [hl] at h; simp at h; omega
   | succ j =>
    have h' : lookN r n (i + 1) = some (i + 1 + j, v) := by rw [h]; simp; omega
    obtain ⟨a, b⟩ := lookN_some h'
    exact ⟨by simpa using a, fun x => by simp [setN, e, b x]⟩
theorem lookN_form {kv : List (S51 × Int)} {n : S51} {j : Nat} {v : Int} (h : lookN kv n 0 = some (j, v)) : kv[j]? = some (n, v) ∧ ∀ x, setN kv n x = kv.set j (n, x) :=
 lookN_some (i := 0) (by simpa using h)
theorem findIdx_bornN {l : List MapEntry} (hn : (l.map (·.born)).Nodup) {j : Nat} {e0 : MapEntry} (h : l[j]? = some e0) : l.findIdx? (fun e => ((e.born : Nat) : Int) == ((e0.born : Nat) : Int)) = some j := by
 induction l generalizing j with
 | nil => simp at h
 | cons a r ih =>
  simp only [List.map_cons, List.nodup_cons] at hn
  cases j with
  | zero =>
   simp only [List.getElem?_cons_zero, Option.some.injEq] at h
   subst h
   simp [List.findIdx?_cons]
  | succ j =>
   simp only [List.getElem?_cons_succ] at h
   have hne : a.born ≠ e0.born := fun e1 => hn.1 (List.mem_map.2 ⟨e0, List.mem_of_getElem? h, e1.symm⟩)
   have hb : (((a.born : Nat) : Int) == ((e0.born : Nat) : Int)) = false := by
    simp only [beq_eq_false_iff_ne, ne_eq, Int.natCast_inj]
    exact hne
   rw [List.findIdx?_cons, hb]
   simp [ih hn.2 h]
theorem findIdxArrN (xs : Array MapEntry) (p : MapEntry → Bool) : xs.findIdx? p = xs.toList.findIdx? p := by
 cases xs
 simp
theorem heapSetN {w : World} {b : Nat} {o o' : Obj} (hb : w.heap[b]? = some o) : (ChangeMaps.setBlock w b o').heap[b]? = some o' := by
 have := (Array.getElem?_eq_some_iff.1 hb).1
 simp [ChangeMaps.setBlock, this]
theorem run_storeN {W : World} {b : Nat} {es : Array MapEntry} {clock st i : Nat} (x : Int) (hb : W.heap[b]? = some (.map es clock)) (hi : es.findIdx? (fun e => ((e.born : Nat) : Int) == ((st : Nat) : Int)) = some i) :
  (Instr.entryStore 86 (.map (some b)) (.int .i64 (st : Int)) (.int .i64 x)).run Try.prog W = .ok () (ChangeMaps.setBlock W b (.map (es.modify i (fun e => { e with val := .int .i64 x })) clock)) := by
 simp [Instr.entryStore, MapKept.run_getObj_map hb, asInt, asIntOf, hi, MapKept.run_setObj_map _ hb, Result.andThen, ChangeMaps.setBlock]
theorem MapN.entry {w : World} {b : Nat} {kv : List (S51 × Int)} (h : MapN w b kv) (n : S51) :
  ∃ (st : Nat) (o1 : Obj), (Instr.mapEntry 86 (.map (some b)) (encN n)).run Try.prog w = .ok (.tuple #[.int .i64 (cntN kv n), .int .i64 (st : Int)]) (ChangeMaps.setBlock w b o1) ∧
   MapN (ChangeMaps.setBlock w b o1) b (setN kv n (cntN kv n)) ∧
   ∀ x : Int, ∃ o2 : Obj, (Instr.entryStore 86 (.map (some b)) (.int .i64 (st : Int)) (.int .i64 x)).run Try.prog (ChangeMaps.setBlock w b o1) = .ok () (ChangeMaps.setBlock (ChangeMaps.setBlock w b o1) b o2) ∧
    MapN (ChangeMaps.setBlock (ChangeMaps.setBlock w b o1) b o2) b (setN kv n x) := by
 obtain ⟨es, clock, hb, he, hlt, hnd⟩ := h
 have hf := run_findN w n es.toList kv he
 cases hl : lookN kv n 0 with
 | none =>
  rw [hl] at hf
  have hset := lookN_none hl
  have hc : cntN kv n = 0 := by simp [cntN, hl]
  have hnd' : ((es.push ⟨encN n, .int .i64 0, clock⟩).toList.map (·.born)).Nodup := by
   simp only [Array.toList_push, List.map_append, List.map_cons, List.map_nil]
   refine List.nodup_append.2 ⟨hnd, by simp, fun a ha c hc e1 => ?_⟩
   simp only [List.mem_singleton] at hc
   obtain ⟨x, hx, rfl⟩ := List.mem_map.1 ha
   have := hlt x hx
   omega
  have hb1 := heapSetN (o' := .map (es.push ⟨encN n, .int .i64 0, clock⟩) (clock + 1)) hb
  refine ⟨clock, .map (es.push ⟨encN n, .int .i64 0, clock⟩) (clock + 1), ?_, ?_, fun x => ⟨.map (es.push ⟨encN n, .int .i64 x, clock⟩) (clock + 1), ?_, ?_⟩⟩
  ·rw [hc]
   simp [Instr.mapEntry, run_underlying Try.underlying86, MapKept.run_getObj_map hb, run_checkN, hf, zeroN, MapKept.run_setObj_map _ hb, Result.andThen, ChangeMaps.setBlock, goInt]
  ·refine ⟨_, _, hb1, ?_, ?_, hnd'⟩
   ·rw [hset, hc]
    simp only [entsN, Array.toList_push, List.map_append] at he ⊢
    rw [he]; rfl
   ·intro y hy
    simp only [Array.toList_push, List.mem_append, List.mem_singleton] at hy
    rcases hy with hy | rfl
    ·exact Nat.lt_succ_of_lt (hlt y hy)
    ·exact Nat.lt_succ_self _
  ·have hidx : (es.push ⟨encN n, .int .i64 0, clock⟩).findIdx? (fun e => ((e.born : Nat) : Int) == ((clock : Nat) : Int)) = some es.size := by
    rw [findIdxArrN]
    exact findIdx_bornN (e0 := ⟨encN n, .int .i64 0, clock⟩) hnd' (by simp)
   have hmod : (es.push ⟨encN n, .int .i64 0, clock⟩).modify es.size (fun e => { e with val := .int .i64 x }) = es.push ⟨encN n, .int .i64 x, clock⟩ := by
    apply Array.ext
    ·simp
    ·intro j h1 h2
     simp only [Array.getElem_modify, Array.getElem_push]
     by_cases hj : j < es.size
     ·have : es.size ≠ j := by omega
      simp [hj, this]
     ·have : es.size = j := by simp at h1; omega
      simp [this]
   rw [run_storeN x hb1 hidx, hmod]
  ·refine ⟨_, _, heapSetN hb1, ?_, ?_, ?_⟩
   ·rw [hset]
    simp only [entsN, Array.toList_push, List.map_append] at he ⊢
    rw [he]; rfl
   ·intro y hy
    simp only [Array.toList_push, List.mem_append, List.mem_singleton] at hy
    rcases hy with hy | rfl
    ·exact Nat.lt_succ_of_lt (hlt y hy)
    ·exact Nat.lt_succ_self _
   ·simpa using hnd'
 | some p =>
  obtain ⟨j, v⟩ := p
  rw [hl] at hf
  obtain ⟨hkv, hset⟩ := lookN_form hl
  have hc : cntN kv n = v := by simp [cntN, hl]
  have hjk : j < kv.length := (List.getElem?_eq_some_iff.1 hkv).1
  have hlen : es.toList.length = kv.length := by simpa [entsN] using congrArg List.length he
  have hjl : j < es.size := by rw [← Array.length_toList]; omega
  obtain ⟨e0, hj⟩ : ∃ e0, es[j]? = some e0 := ⟨_, Array.getElem?_eq_getElem hjl⟩
  have hj' : es.toList[j]? = some e0 := by simpa using hj
  have hej : es[j] = e0 := by rw [Array.getElem?_eq_getElem hjl] at hj; exact Option.some.inj hj
  have hkj : kv[j] = (n, v) := by rw [List.getElem?_eq_getElem hjk] at hkv; exact Option.some.inj hkv
  have hev : e0.key = encN n ∧ e0.val = .int .i64 v := by
   have h1 := congrArg (fun l => l[j]?) he
   simp only [List.getElem?_map, hj', hkv, Option.map_some, Option.some.injEq, Prod.mk.injEq] at h1
   exact h1
  have hsame : es.modify j (fun e => { e with key := encN n }) = es := by
   apply Array.ext
   ·simp
   ·intro i h1 h2
    rw [Array.getElem_modify]
    split
    ·rename_i hij
     subst hij
     have : es[j] = e0 := by rw [Array.getElem?_eq_getElem hjl] at hj; exact Option.some.inj hj
     rw [this, ← hev.1]
    ·rfl
  have hb1 := heapSetN (o' := .map es clock) hb
  have hself : entsN es.toList (setN kv n v) := by
   rw [hset]
   have : kv.set j (n, v) = kv := by
    apply List.ext_getElem?
    intro i
    rw [List.getElem?_set]
    split
    ·rename_i hij
     subst hij
     simp [hjk, hkj]
    ·rfl
   rw [this]; exact he
  refine ⟨e0.born, .map es clock, ?_, ?_, fun x => ⟨.map (es.modify j (fun e => { e with val := .int .i64 x })) clock, ?_, ?_⟩⟩
  ·rw [hc]
   simp [Instr.mapEntry, run_underlying Try.underlying86, MapKept.run_getObj_map hb, run_checkN, hf, hj, hev.1, run_staysN, hsame, MapKept.run_setObj_map _ hb, Result.andThen, ChangeMaps.setBlock, goInt]
  ·exact ⟨_, _, hb1, by rw [hc]; exact hself, hlt, hnd⟩
  ·have hidx : es.findIdx? (fun e => ((e.born : Nat) : Int) == ((e0.born : Nat) : Int)) = some j := by
    rw [findIdxArrN]
    exact findIdx_bornN hnd hj'
   exact run_storeN x hb1 hidx
  ·have hml : (es.modify j (fun e => { e with val := Value.int .i64 x })).toList = es.toList.set j { e0 with val := .int .i64 x } := by
    apply List.ext_getElem?
    intro i
    rw [Array.getElem?_toList, Array.getElem?_modify, List.getElem?_set]
    split
    ·rename_i hij
     subst hij
     simp [hej, hjl]
    ·simp
   refine ⟨_, _, heapSetN hb1, ?_, ?_, ?_⟩
   ·rw [hml, hset]
    simp only [entsN] at he ⊢
    rw [List.map_set, List.map_set, he, hev.1]
   ·intro y hy
    rw [hml] at hy
    rcases List.mem_or_eq_of_mem_set hy with hy | rfl
    ·exact hlt y hy
    ·exact hlt e0 (List.mem_of_getElem? hj')
   ·rw [hml, List.map_set]
    have : (es.toList.map (·.born)).set j e0.born = es.toList.map (·.born) := by
     apply List.ext_getElem?
     intro i
     rw [List.getElem?_set]
     split
     ·rename_i hij
      subst hij
      simp [hej, hjl]
     ·rfl
    rw [show ({ e0 with val := Value.int .i64 x } : MapEntry).born = e0.born from rfl, this]
    exact hnd
/-! #### what PoolOk answers -/
theorem nodeOk_total (a b c i : Int) : ∃ r, impl_nodeOk.f 1 a b c i = some r := by
 have hc : ∃ q, impl_count.f 1 a = some q := by
  unfold impl_count.f
  simp only [impl_count.j0]
  repeat' split
  all_goals exact ⟨_, rfl⟩
 have hr : ∀ x y z : Int, ∃ q, impl_inRange.f x y z = some q := fun x y z => by
  unfold impl_inRange.f
  split <;> exact ⟨_, rfl⟩
 obtain ⟨q, hq⟩ := hc
 obtain ⟨q1, h1⟩ := hr b 0 199
 obtain ⟨q2, h2⟩ := hr b 0 (wrap64 (i - 1))
 obtain ⟨q3, h3⟩ := hr c 0 (wrap64 (i - 1))
 unfold impl_nodeOk.f
 rw [hq, h1, h2, h3]
 simp only [Option.bind_some]
 repeat' split
 all_goals exact ⟨_, rfl⟩
def nodeOkB (n : S51) (i : Int) : Bool := (impl_nodeOk.f 1 n.f0 n.f1 n.f2 i).getD false
theorem nodeOk_at (n : S51) (i : Int) : impl_nodeOk.f 1 n.f0 n.f1 n.f2 i = some (nodeOkB n i) := by
 obtain ⟨r, h⟩ := nodeOk_total n.f0 n.f1 n.f2 i
 simp [nodeOkB, h]
def okStep (l : List S51) (i : Nat) : Bool := decide (rd_T51 l i ∉ l.take i) && nodeOkB (rd_T51 l i) i
def okFrom (l : List S51) : Nat → Nat → Bool
 | 0, _ => true
 | d + 1, i => okStep l i && okFrom l d (i + 1)
def poolOkB (l : List S51) : Bool := decide (l.length ≤ 500) && okFrom l l.length 0
def impl_PoolOk.f (l0_0 : List S51) : Option Bool := some (poolOkB l0_0)
theorem below_setBlock {B : Nat} {w W : World} (h : Below B w W) {b : Nat} (hb : B ≤ b) (o : Obj) : Below B w (ChangeMaps.setBlock W b o) :=
 h.trans ⟨rfl, rfl, rfl, by simp [ChangeMaps.setBlock], fun i hi => by
  have : b ≠ i := by omega
  simp [ChangeMaps.setBlock, this]⟩
theorem cell_setBlock (W : World) (b : Nat) (o : Obj) (a : Addr) (h : a.block ≠ b) : (ChangeMaps.setBlock W b o).cell? a = W.cell? a := by
 simp [World.cell?, ChangeMaps.setBlock, Ne.symm h]
theorem MapN.of_heap {w w' : World} {b : Nat} {kv : List (S51 × Int)} (h : MapN w b kv) (e : w'.heap[b]? = w.heap[b]?) : MapN w' b kv := by
 obtain ⟨es, clock, h1, h2⟩ := h
 exact ⟨es, clock, e.trans h1, h2⟩
set_option maxHeartbeats 8000000 in
set_option maxRecDepth 100000 in
theorem impl_PoolOk.calls (A0_0 : Option Addr) (c0_0 : Nat) (l0_0 : List S51) (r : Bool) (w : World) (hr0_0 : Kd.C k51 w A0_0 l0_0.length l0_0) (hc0_0 : l0_0.length ≤ c0_0) (h : impl_PoolOk.f l0_0 = some r) :
  Calls Try.prog 56 #[.agg #[.slice A0_0 l0_0.length c0_0]] w fun e w' => e = .returned (.bool r) ∧ Below w.heap.size w w' := by
 have HR := Aside0.mk hr0_0
 have HF := Aside0.mk (Option.some.inj h)
 clear hr0_0 h hc0_0
 have hu29 := Try.underlying30
 have hu67 := Try.underlying51
 have hmm := @run_makeMap Try.prog
 by_cases hbig : (l0_0.length : Int) > 500
 ·have hb0 : decide (500 < (l0_0.length : Int)) = true := by simpa using hbig
  have hb1 : decide (500 < l0_0.length) = true := by simp; omega
  have HV : Aside0 (r = false) := ⟨by rw [← HF.out]; simp [poolOkB]; omega⟩
  clear hbig HF
  obtain rfl := HV.out
  go_enter Try.func56, Try.ntmps56
  go_wp2
  go_ret
  exact ⟨rfl, (Below.refl _ _).alloc (Nat.le_refl _) _⟩
 ·have hb0 : decide (500 < (l0_0.length : Int)) = false := by simpa using hbig
  have hb1 : decide (500 < l0_0.length) = false := by simp; omega
  have HL := Aside0.mk (show l0_0.length ≤ 500 by omega)
  have HV := Aside0.mk (show okFrom l0_0 l0_0.length 0 = r by rw [← HF.out]; simp [poolOkB]; omega)
  clear hbig HF
  go_enter Try.func56, Try.ntmps56
  go_wp2
  go_loopw [14] (fun v wr => ∃ i : Nat, v = .int .i64 i ∧ Aside0 (i ≤ l0_0.length) ∧ Aside0 (okFrom l0_0 (l0_0.length - i) i = r) ∧ Aside0 (MapN wr (w.heap.size + 1) ((l0_0.take i).map fun m => (m, (1 : Int)))) ∧ Aside0 (Below w.heap.size w wr) ∧ Aside0 (w.heap.size + 1 < wr.heap.size)) (fun v _ => l0_0.length - (intOf v).toNat)
  case atStart =>
   refine ⟨0, rfl, ⟨Nat.zero_le _⟩, ⟨HV.out⟩, ⟨⟨#[], 0, ?_, rfl, by simp, by simp⟩⟩, ⟨((Below.refl _ _).alloc (Nat.le_refl _) _).alloc (by simp) _⟩, ⟨by simp⟩⟩
   have h_ := (MapKept.heap_alloc (w.alloc (.cells #[Value.slice A0_0 l0_0.length c0_0] 30)) (.map #[] 0)).1
   simpa using h_
  case round =>
   obtain ⟨i, rfl, HI, HR1, HM, HB, HZ⟩ := hrel
   by_cases hlt : i < l0_0.length
   ·have hle := HL.out
    obtain ⟨ad, rfl, h0, h1, h2⟩ := at_T51 (Kd.C_below HR.out HB.out) (i : Int) (by omega) (by omega)
    simp only [Int.toNat_natCast] at h0 h1 h2
    obtain ⟨n, hn⟩ : ∃ n, rd_T51 l0_0 (i : Int) = n := ⟨_, rfl⟩
    rw [hn] at h0 h1 h2
    have Hn := Aside0.mk hn
    clear hn
    go_wp2
    obtain ⟨W, hW⟩ : ∃ W, wr.alloc (.cells #[.int .i64 n.f0, .int .i64 n.f1, .int .i64 n.f2] 51) = W := ⟨_, rfl⟩
    have hWb : W.heap[wr.heap.size]? = some (.cells #[.int .i64 n.f0, .int .i64 n.f1, .int .i64 n.f2] 51 (0, 0)) := by rw [← hW]; exact (MapKept.heap_alloc _ _).1
    have hMW : MapN W (w.heap.size + 1) ((l0_0.take i).map fun m => (m, (1 : Int))) := HM.out.of_heap (by rw [← hW]; exact (MapKept.heap_alloc wr _).2 _ HZ.out)
    have HBW := Aside0.mk (show Below w.heap.size w W by rw [← hW]; exact HB.out.alloc HB.out.size _)
    have HZW := Aside0.mk (show w.heap.size + 1 < W.heap.size by rw [← hW]; have := HZ.out; simp; omega)
    have HNE := Aside0.mk (show wr.heap.size ≠ w.heap.size + 1 by have := HZ.out; omega)
    rw [hW]
    clear hW HM HB h0 h1 h2
    obtain ⟨st, o1, e2, hM1, hst⟩ := MapN.entry (w := W.drew) hMW n
    have e1 := MapN.look (w := W.drew) hMW n
    have e3 := hM1.look n
    rw [cntN_set] at e3
    have c0 : W.cell? ⟨wr.heap.size, 0, none⟩ = some (.int .i64 n.f0) := (blk_cell hWb 0).trans rfl
    have c1 : W.cell? ⟨wr.heap.size, 1, none⟩ = some (.int .i64 n.f1) := (blk_cell hWb 1).trans rfl
    have c2 : W.cell? ⟨wr.heap.size, 2, none⟩ = some (.int .i64 n.f2) := (blk_cell hWb 2).trans rfl
    have d0 := (cell_setBlock W.drew (w.heap.size + 1) o1 ⟨wr.heap.size, 0, none⟩ HNE.out).trans c0
    have d1 := (cell_setBlock W.drew (w.heap.size + 1) o1 ⟨wr.heap.size, 1, none⟩ HNE.out).trans c1
    have d2 := (cell_setBlock W.drew (w.heap.size + 1) o1 ⟨wr.heap.size, 2, none⟩ HNE.out).trans c2
    have HB1 := Aside0.mk (below_setBlock (below_drew HBW.out) (b := w.heap.size + 1) (by omega) o1)
    have HZ1 := Aside0.mk (show w.heap.size + 1 < (ChangeMaps.setBlock W.drew (w.heap.size + 1) o1).heap.size by have := HZW.out; simpa [ChangeMaps.setBlock] using this)
    rw [cntN_ones] at e1 e2 e3 hM1
    obtain ⟨W1, hW1⟩ : ∃ W1, ChangeMaps.setBlock W.drew (w.heap.size + 1) o1 = W1 := ⟨_, rfl⟩
    rw [hW1] at e2 e3 d0 d1 d2 hM1 hst HB1 HZ1
    clear hW1 hWb hMW
    have key : ∀ x : Int, ∃ W2, (Instr.entryStore 86 (.map (some (w.heap.size + 1))) (.int .i64 (st : Int)) (.int .i64 x)).run Try.prog W1 = .ok () W2 ∧ MapN W2 (w.heap.size + 1) (setN ((l0_0.take i).map fun m => (m, (1 : Int))) n x) ∧ Below w.heap.size w W2 ∧ w.heap.size + 1 < W2.heap.size ∧
      W2.cell? ⟨wr.heap.size, 0, none⟩ = some (.int .i64 n.f0) ∧ W2.cell? ⟨wr.heap.size, 1, none⟩ = some (.int .i64 n.f1) ∧ W2.cell? ⟨wr.heap.size, 2, none⟩ = some (.int .i64 n.f2) := fun x => by
     obtain ⟨o2, e4, hM2⟩ := hst x
     exact ⟨_, e4, hM2, below_setBlock HB1.out (by omega) _, by have := HZ1.out; simpa [ChangeMaps.setBlock] using this, (cell_setBlock W1 (w.heap.size + 1) o2 ⟨wr.heap.size, 0, none⟩ HNE.out).trans d0, (cell_setBlock W1 (w.heap.size + 1) o2 ⟨wr.heap.size, 1, none⟩ HNE.out).trans d1, (cell_setBlock W1 (w.heap.size + 1) o2 ⟨wr.heap.size, 2, none⟩ HNE.out).trans d2⟩
    clear hst
    by_cases hmem : n ∈ l0_0.take i
    ·have HF : Aside0 (false = r) := ⟨by
      have h_ := HR1.out
      obtain ⟨d, hd⟩ : ∃ d, l0_0.length - i = d + 1 := ⟨l0_0.length - i - 1, by omega⟩
      rw [hd] at h_
      simp only [okFrom, okStep, Hn.out] at h_
      rw [← h_]
      simp [hmem]⟩
     clear HR1
     obtain rfl := HF.out
     rw [if_pos hmem] at e1 e2 e3 hM1
     obtain ⟨W2, e4, hM2, hB2, _, f0, f1, f2⟩ := key 2
     have e5 := hM2.look n
     rw [cntN_set] at e5
     have HB2 := Aside0.mk hB2
     clear key hM1 hM2 hB2 hmem HF
     simp only [encN] at e1 e2 e3 e5
     have b2 : decide ((1 : Int) < 2) = true := rfl
     go_region
     all_goals go_wp2
     all_goals go_ret
     all_goals exact ⟨rfl, HB2.out⟩
    ·rw [if_neg hmem] at e1 e2 e3 hM1
     obtain ⟨W2, e4, hM2, hB2, hZ2, f0, f1, f2⟩ := key 1
     have e5 := hM2.look n
     rw [cntN_set] at e5
     have HB2 := Aside0.mk hB2
     have HZ2 := Aside0.mk hZ2
     have HM2 := Aside0.mk (show MapN W2 (w.heap.size + 1) ((l0_0.take (i + 1)).map fun m => (m, (1 : Int))) by
      rw [setN_new _ _ _ (by simp only [List.map_map]; rw [show ((fun x : S51 × Int => x.1) ∘ fun m => (m, (1 : Int))) = id from rfl, List.map_id]; exact hmem)] at hM2
      have hl : l0_0[i] = n := by rw [← Hn.out]; simp [rd_T51, hlt]
      rw [List.take_succ_eq_append_getElem hlt, hl]
      simpa using hM2)
     have HS := Aside0.mk (show okFrom l0_0 (l0_0.length - i) i = (nodeOkB n i && okFrom l0_0 (l0_0.length - (i + 1)) (i + 1)) by
      obtain ⟨d, hd⟩ : ∃ d, l0_0.length - i = d + 1 := ⟨l0_0.length - i - 1, by omega⟩
      rw [hd, show l0_0.length - (i + 1) = d by omega]
      simp only [okFrom, okStep, Hn.out]
      simp [hmem])
     have HC := Aside0.mk (nodeOk_at n i)
     clear key hM1 hM2 hB2 hZ2 hmem
     simp only [encN] at e1 e2 e3 e5
     have b2 : decide ((1 : Int) < 1) = false := rfl
     obtain ⟨q, hq⟩ : ∃ q, nodeOkB n i = q := ⟨_, rfl⟩
     rw [hq] at HS HC
     clear hq
     cases q with
     | false =>
      have HF : Aside0 (false = r) := ⟨by rw [← HR1.out, HS.out]; rfl⟩
      clear HR1 HS
      obtain rfl := HF.out
      go_region
      all_goals go_wp2_with (go_at_call 77; (with_reducible refine (impl_nodeOk.calls 1 n.f0 n.f1 n.f2 (i : Int) false _ HC.out).mono ?_); rintro e w' ⟨rfl, hb⟩; have HB3 := Aside0.mk hb; clear hb)
      all_goals go_ret
      all_goals exact ⟨rfl, below_then HB2.out HB2.out.size HB3.out⟩
     | true =>
      have HR2 : Aside0 (okFrom l0_0 (l0_0.length - (i + 1)) (i + 1) = r) := ⟨by rw [← HR1.out, HS.out]; rfl⟩
      clear HR1 HS
      go_region
      all_goals go_wp2_with (go_at_call 77; (with_reducible refine (impl_nodeOk.calls 1 n.f0 n.f1 n.f2 (i : Int) true _ HC.out).mono ?_); rintro e w' ⟨rfl, hb⟩; have HB3 := Aside0.mk hb; clear hb)
      all_goals go_roundw
      case rel => exact ⟨i + 1, rfl, ⟨hlt⟩, ⟨HR2.out⟩, ⟨HM2.out.of_heap (HB3.out.block _ HZ2.out)⟩, ⟨below_then HB2.out HB2.out.size HB3.out⟩, ⟨Nat.lt_of_lt_of_le HZ2.out HB3.out.size⟩⟩
      case measure => simp [intOf]; omega
   ·have : i = l0_0.length := by have := HI.out; omega
    subst this
    have HF : Aside0 (true = r) := ⟨by have := HR1.out; rwa [Nat.sub_self] at this⟩
    clear HR1
    obtain rfl := HF.out
    go_wp2
    go_ret
    exact ⟨rfl, HB.out⟩


end Go.Proofs.Ytgohebghlgamiaa.P
end
