import Derived.Test.YtjcemohmlpgfnaaDoorZT0
import Derived.Test.YtjcemohmlpgfnaaDoorZTg0
import Derived.ChangeMaps4
import Derived.MapKept
import Derived.RegionTactic
import Derived.ChangeAlike
import Derived.Laws.StructEq
section
namespace Go.Proofs.YtjcemohmlpgfnaaDoor.T
open Go.RowKit Go.Proofs.YtjcemohmlpgfnaaDoorW.PrintWords Go.Proofs.YtjcemohmlpgfnaaDoorW.PrintLast Go.Proofs.YtjcemohmlpgfnaaDoorW.PrintMore
attribute [local go_sem] max2_int min2_int max_two min_two max_three min_three max_four min_four   -- for this text's walks alone
set_option linter.unusedVariables false
set_option linter.unusedSimpArgs false
set_option maxRecDepth 100000

/-! ### spec_l4Print: function 17 -/
def spec_l4Print.f : Nat → List (S51) → Int → Option (ByteArray)
 | 0, _, _ => none
 | k + 1, l0_0, a1 => if 0 ≤ a1 then (if a1 < (l0_0.length : Int) then (if ((rd_T51 l0_0 a1).f0) = 1 then ((spec_l4Num.f k ((rd_T51 l0_0 a1).f1)).bind fun t158 => (if 1 + t158.size ≤ 9223372036854775807 then (some ((⟨#[110]⟩ : ByteArray) ++ t158)) else (none))) else (if ((rd_T51 l0_0 a1).f0) = 5 then ((spec_l4Print.f k l0_0 ((rd_T51 l0_0 a1).f1)).bind fun t159 => (if 1 + t159.size ≤ 9223372036854775807 then (some ((⟨#[35]⟩ : ByteArray) ++ t159)) else (none))) else (if ((rd_T51 l0_0 a1).f0) = 7 then ((spec_l4Print.f k l0_0 ((rd_T51 l0_0 a1).f1)).bind fun t160 => (if 1 + t160.size ≤ 9223372036854775807 then (some ((⟨#[94]⟩ : ByteArray) ++ t160)) else (none))) else ((spec_l4Print.f k l0_0 ((rd_T51 l0_0 a1).f1)).bind fun t161 => (if t161.size + 1 ≤ 9223372036854775807 then ((spec_l4Print.f k l0_0 ((rd_T51 l0_0 a1).f2)).bind fun t162 => (if (t161 ++ (⟨#[44]⟩ : ByteArray)).size + t162.size ≤ 9223372036854775807 then (if ((rd_T51 l0_0 a1).f0) = 2 then (if 1 + ((t161 ++ (⟨#[44]⟩ : ByteArray)) ++ t162).size ≤ 9223372036854775807 then (if ((⟨#[40]⟩ : ByteArray) ++ ((t161 ++ (⟨#[44]⟩ : ByteArray)) ++ t162)).size + 1 ≤ 9223372036854775807 then (some (((⟨#[40]⟩ : ByteArray) ++ ((t161 ++ (⟨#[44]⟩ : ByteArray)) ++ t162)) ++ (⟨#[41]⟩ : ByteArray))) else (none)) else (none)) else (if ((rd_T51 l0_0 a1).f0) = 3 then (if 1 + ((t161 ++ (⟨#[44]⟩ : ByteArray)) ++ t162).size ≤ 9223372036854775807 then (if ((⟨#[123]⟩ : ByteArray) ++ ((t161 ++ (⟨#[44]⟩ : ByteArray)) ++ t162)).size + 1 ≤ 9223372036854775807 then (some (((⟨#[123]⟩ : ByteArray) ++ ((t161 ++ (⟨#[44]⟩ : ByteArray)) ++ t162)) ++ (⟨#[125]⟩ : ByteArray))) else (none)) else (none)) else (if ((rd_T51 l0_0 a1).f0) = 4 then (if 1 + ((t161 ++ (⟨#[44]⟩ : ByteArray)) ++ t162).size ≤ 9223372036854775807 then (if ((⟨#[91]⟩ : ByteArray) ++ ((t161 ++ (⟨#[44]⟩ : ByteArray)) ++ t162)).size + 1 ≤ 9223372036854775807 then (some (((⟨#[91]⟩ : ByteArray) ++ ((t161 ++ (⟨#[44]⟩ : ByteArray)) ++ t162)) ++ (⟨#[93]⟩ : ByteArray))) else (none)) else (none)) else (if ((rd_T51 l0_0 a1).f0) = 6 then (if 2 + ((t161 ++ (⟨#[44]⟩ : ByteArray)) ++ t162).size ≤ 9223372036854775807 then (if ((⟨#[107, 40]⟩ : ByteArray) ++ ((t161 ++ (⟨#[44]⟩ : ByteArray)) ++ t162)).size + 1 ≤ 9223372036854775807 then (some (((⟨#[107, 40]⟩ : ByteArray) ++ ((t161 ++ (⟨#[44]⟩ : ByteArray)) ++ t162)) ++ (⟨#[41]⟩ : ByteArray))) else (none)) else (none)) else (if 2 + ((t161 ++ (⟨#[44]⟩ : ByteArray)) ++ t162).size ≤ 9223372036854775807 then (if ((⟨#[42, 40]⟩ : ByteArray) ++ ((t161 ++ (⟨#[44]⟩ : ByteArray)) ++ t162)).size + 1 ≤ 9223372036854775807 then (some (((⟨#[42, 40]⟩ : ByteArray) ++ ((t161 ++ (⟨#[44]⟩ : ByteArray)) ++ t162)) ++ (⟨#[41]⟩ : ByteArray))) else (none)) else (none)))))) else (none))) else (none)))))) else (none)) else (none)
def spec_l4Print.T9 : Bool × List (List Nat × List Nat) := (true, [([], []), ([], []), ([1], [1]), ([0, 2], [0, 2]), ([3], [3]), ([], []), ([], []), ([6], [6]), ([5, 7, 3], [5, 7]), ([4, 8], [4, 8]), ([9, 8, 0, 1, 2, 3, 4, 5, 6, 7, 8, 9], [9])])
def spec_l4Print.B9 : List Nat := [0, 0, 2, 7, 15, 0, 0, 64, 239, 511, 1023]
theorem spec_l4Print.tab9 : rtab .any (opsOf Tryd.f17 9) = spec_l4Print.T9 := by kernel_rfl
theorem spec_l4Print.bits9 : waitsOk spec_l4Print.T9.2 spec_l4Print.B9 = true := by kernel_rfl
set_option maxHeartbeats 8000000 in
set_option maxRecDepth 100000 in
theorem spec_l4Print.calls (k : Nat) : ∀ (A0_0 : Option Addr) (c0_0 : Nat) (l0_0 : List (S51)) (a1 : Int) (r : ByteArray) (w : World) (hr0_0 : Kd.C k51 w A0_0 l0_0.length l0_0) (hc0_0 : l0_0.length ≤ c0_0) (h : spec_l4Print.f k l0_0 a1 = some r),
  Calls Tryd.prog 17 #[.agg #[.slice A0_0 l0_0.length c0_0], .int .i64 a1] w fun e w' => e = .returned (.string r) ∧ Below w.heap.size w w' := by
 induction k using Nat.strongRecOn with
 | _ k ih =>
 intro A0_0 c0_0 l0_0 a1 r w hr0_0 hc0_0 h
 cases k with
 | zero => exact absurd h (by simp [spec_l4Print.f])
 | succ k =>
 simp only [spec_l4Print.f] at h
 have hu29 := Tryd.underlying29
 have hu51 := Tryd.underlying51
 have HR0_0 := Aside0.mk hr0_0
 have HC0_0 := Aside0.mk hc0_0
 clear hr0_0 hc0_0
 have HB := Aside0.mk (Below.refl w.heap.size w)
 have H : (if 0 ≤ a1 then (if a1 < (l0_0.length : Int) then (if ((rd_T51 l0_0 a1).f0) = 1 then ((spec_l4Num.f k ((rd_T51 l0_0 a1).f1)).bind fun t158 => (if 1 + t158.size ≤ 9223372036854775807 then (some ((⟨#[110]⟩ : ByteArray) ++ t158)) else (none))) else (if ((rd_T51 l0_0 a1).f0) = 5 then ((spec_l4Print.f k l0_0 ((rd_T51 l0_0 a1).f1)).bind fun t159 => (if 1 + t159.size ≤ 9223372036854775807 then (some ((⟨#[35]⟩ : ByteArray) ++ t159)) else (none))) else (if ((rd_T51 l0_0 a1).f0) = 7 then ((spec_l4Print.f k l0_0 ((rd_T51 l0_0 a1).f1)).bind fun t160 => (if 1 + t160.size ≤ 9223372036854775807 then (some ((⟨#[94]⟩ : ByteArray) ++ t160)) else (none))) else ((spec_l4Print.f k l0_0 ((rd_T51 l0_0 a1).f1)).bind fun t161 => (if t161.size + 1 ≤ 9223372036854775807 then ((spec_l4Print.f k l0_0 ((rd_T51 l0_0 a1).f2)).bind fun t162 => (if (t161 ++ (⟨#[44]⟩ : ByteArray)).size + t162.size ≤ 9223372036854775807 then (if ((rd_T51 l0_0 a1).f0) = 2 then (if 1 + ((t161 ++ (⟨#[44]⟩ : ByteArray)) ++ t162).size ≤ 9223372036854775807 then (if ((⟨#[40]⟩ : ByteArray) ++ ((t161 ++ (⟨#[44]⟩ : ByteArray)) ++ t162)).size + 1 ≤ 9223372036854775807 then (some (((⟨#[40]⟩ : ByteArray) ++ ((t161 ++ (⟨#[44]⟩ : ByteArray)) ++ t162)) ++ (⟨#[41]⟩ : ByteArray))) else (none)) else (none)) else (if ((rd_T51 l0_0 a1).f0) = 3 then (if 1 + ((t161 ++ (⟨#[44]⟩ : ByteArray)) ++ t162).size ≤ 9223372036854775807 then (if ((⟨#[123]⟩ : ByteArray) ++ ((t161 ++ (⟨#[44]⟩ : ByteArray)) ++ t162)).size + 1 ≤ 9223372036854775807 then (some (((⟨#[123]⟩ : ByteArray) ++ ((t161 ++ (⟨#[44]⟩ : ByteArray)) ++ t162)) ++ (⟨#[125]⟩ : ByteArray))) else (none)) else (none)) else (if ((rd_T51 l0_0 a1).f0) = 4 then (if 1 + ((t161 ++ (⟨#[44]⟩ : ByteArray)) ++ t162).size ≤ 9223372036854775807 then (if ((⟨#[91]⟩ : ByteArray) ++ ((t161 ++ (⟨#[44]⟩ : ByteArray)) ++ t162)).size + 1 ≤ 9223372036854775807 then (some (((⟨#[91]⟩ : ByteArray) ++ ((t161 ++ (⟨#[44]⟩ : ByteArray)) ++ t162)) ++ (⟨#[93]⟩ : ByteArray))) else (none)) else (none)) else (if ((rd_T51 l0_0 a1).f0) = 6 then (if 2 + ((t161 ++ (⟨#[44]⟩ : ByteArray)) ++ t162).size ≤ 9223372036854775807 then (if ((⟨#[107, 40]⟩ : ByteArray) ++ ((t161 ++ (⟨#[44]⟩ : ByteArray)) ++ t162)).size + 1 ≤ 9223372036854775807 then (some (((⟨#[107, 40]⟩ : ByteArray) ++ ((t161 ++ (⟨#[44]⟩ : ByteArray)) ++ t162)) ++ (⟨#[41]⟩ : ByteArray))) else (none)) else (none)) else (if 2 + ((t161 ++ (⟨#[44]⟩ : ByteArray)) ++ t162).size ≤ 9223372036854775807 then (if ((⟨#[42, 40]⟩ : ByteArray) ++ ((t161 ++ (⟨#[44]⟩ : ByteArray)) ++ t162)).size + 1 ≤ 9223372036854775807 then (some (((⟨#[42, 40]⟩ : ByteArray) ++ ((t161 ++ (⟨#[44]⟩ : ByteArray)) ++ t162)) ++ (⟨#[41]⟩ : ByteArray))) else (none)) else (none)))))) else (none))) else (none)))))) else (none)) else (none)) = some r := h
 clear h
 by_cases c3 : 0 ≤ a1
 ·rw [if_pos c3] at H
  have c3b0 : decide (0 ≤ a1) = true := decide_eq_true c3
  clear c3
  by_cases c4 : a1 < (l0_0.length : Int)
  ·rw [if_pos c4] at H
   have c4b0 : decide (a1 < (l0_0.length : Int)) = true := decide_eq_true c4
   clear c4
   by_cases c5 : ((rd_T51 l0_0 a1).f0) = 1
   ·rw [if_pos c5] at H
    have c5b0 : (((rd_T51 l0_0 a1).f0) == 1) = true := beq_iff_eq.mpr c5
    have c5b1 : (((rd_T51 l0_0 a1).f0) != 1) = false := bne_eq_false_iff_eq.mpr c5
    clear c5
    replace H := Option.bind_eq_some_iff.mp H
    obtain ⟨t158, A60, H⟩ := H
    replace H : (if 1 + t158.size ≤ 9223372036854775807 then (some ((⟨#[110]⟩ : ByteArray) ++ t158)) else (none)) = some r := H
    have A6 := Aside0.mk A60
    clear A60
    by_cases c7 : 1 + t158.size ≤ 9223372036854775807
    ·rw [if_pos c7] at H
     have c7b0 := eq_true c7
     have c7b1 : decide (1 + t158.size ≤ 9223372036854775807) = true := decide_eq_true c7
     try have c7b2 : (9223372036854775807 < 1 + t158.size) = False := eq_false (Nat.not_lt.2 c7)
     obtain rfl := Option.some.inj H
     go_enter Tryd.func17, Tryd.ntmps17
     go_wp2_with (first | ((with_reducible refine gate_dst (N := 2) rfl ?_); refine box_event ?hg (N := 2) ?hd (cs := #[.slice A0_0 l0_0.length c0_0]) (t := 29) ?hr ?_; (case hd => rfl); (case hg => rfl); (case hr => first | (go_simp; done) | (go_simp; rfl)); intro gb155 hg w8 hbox hb; have n0_ := Aside0.mk (below_step (zb HB.out) hb); have n1_ := Aside0.mk (hbox); have n2_ := Aside0.mk ((by rw [hg]; exact (below_size (zb HB.out)) : w.heap.size ≤ gb155)); have n3_ := Aside0.mk ((by rw [hg]; exact (below_size (zb HB.out)) : w.heap.size ≤ gb155)); clear HB; have HB := n0_; have BK155 := n1_; have GW155 := n2_; have GE155 := n3_; clear n0_ n1_ n2_ n3_; clear hb hbox hg; have hcz9_0 : w8.cell? ⟨gb155, 0, none⟩ = some (.slice A0_0 l0_0.length c0_0) := (blk_cell BK155.out 0).trans rfl; have hfz9_0 := blk_frozen BK155.out 0; have p156 : 0 ≤ (a1 : Int) := of_decide_eq_true (by first | (with_reducible assumption) | assumption); have q156 : a1 < (l0_0.length : Int) := of_decide_eq_true (by first | (with_reducible assumption) | assumption); obtain ⟨ad156, e156, hx156_0, hx156_1, hx156_2⟩ := at_T51 HR0_0.out a1 p156 q156; cases e156; replace hx156_0 := (HB.out.cell (World.block_lt_of_cell? w _ hx156_0)).trans hx156_0; replace hx156_1 := (HB.out.cell (World.block_lt_of_cell? w _ hx156_1)).trans hx156_1; replace hx156_2 := (HB.out.cell (World.block_lt_of_cell? w _ hx156_2)).trans hx156_2; replace p156 := eq_true p156; replace q156 := eq_true q156) | ((with_reducible refine gate_dst (N := 5) rfl ?_); refine box_event ?hg (N := 5) ?hd (cs := #[.int .i64 0, .int .i64 0, .int .i64 0]) (t := 51) ?hr ?_; (case hd => rfl); (case hg => rfl); (case hr => first | (go_simp; done) | (go_simp; rfl)); intro gb157 hg w10 hbox hb; have n0_ := Aside0.mk (blk_below (zh BK155.out) hb); have n1_ := Aside0.mk (below_step (zb HB.out) hb); have n2_ := Aside0.mk (hbox); have n3_ := Aside0.mk ((by rw [hg]; exact (below_size (zb HB.out)) : w.heap.size ≤ gb157)); have n4_ := Aside0.mk ((by rw [hg]; exact (below_size (zb HB.out)) : w.heap.size ≤ gb157)); have n5_ := Aside0.mk ((by rw [hg]; exact Nat.ne_of_lt (blk_lt (zh BK155.out)) : gb155 ≠ gb157)); have n6_ := Aside0.mk ((by rw [hg]; exact Nat.ne_of_gt (blk_lt (zh BK155.out)) : gb157 ≠ gb155)); clear BK155; clear HB; have BK155 := n0_; have HB := n1_; have BK157 := n2_; have GW157 := n3_; have GE157 := n4_; have NB155_157 := n5_; have NB157_155 := n6_; clear n0_ n1_ n2_ n3_ n4_ n5_ n6_; clear hb hbox hg; have hnb11 := NB157_155.out; have hnc11 := NB155_157.out; have hcz12_0 : w10.cell? ⟨gb157, 0, none⟩ = some (.int .i64 0) := (blk_cell BK157.out 0).trans rfl; have hcz12_1 : w10.cell? ⟨gb157, 1, none⟩ = some (.int .i64 0) := (blk_cell BK157.out 1).trans rfl; have hcz12_2 : w10.cell? ⟨gb157, 2, none⟩ = some (.int .i64 0) := (blk_cell BK157.out 2).trans rfl; have hfz12_0 := blk_frozen BK157.out 0; have hfz12_1 := blk_frozen BK157.out 1; have hfz12_2 := blk_frozen BK157.out 2) | ((with_reducible refine gate_callee (f := 29) rfl ?_); refine goesL_ (some 18) rfl rfl Tryd.func29 (by kernel_rfl) rfl #[.int .i64 ((rd_T51 l0_0 a1).f1)] rfl zl ?_; (with_reducible refine (spec_l4Num.calls k ((rd_T51 l0_0 a1).f1) t158 _ A6.out).mono ?_); rintro e w13 ⟨rfl, hb⟩; refine ⟨_, rfl, ?_⟩; have n0_ := Aside0.mk (blk_below (g := gb155) (o := .cells #[.slice (some ad156) l0_0.length c0_0] 29 (0, 0)) (zf BK155.out) hb); have n1_ := Aside0.mk (blk_below (g := gb157) (o := .cells #[.int .i64 ((rd_T51 l0_0 a1).f0), .int .i64 ((rd_T51 l0_0 a1).f1), .int .i64 ((rd_T51 l0_0 a1).f2)] 51 (0, 0)) (by (with_reducible repeat (first | refine blk_drewN ?_ _ | refine blk_drew ?_ | refine blk_alloc ?_ _)); refine blk_put (cs := #[.int .i64 ((rd_T51 l0_0 a1).f0), .int .i64 ((rd_T51 l0_0 a1).f1), .int .i64 0]) ?_ 2 _ rfl; (with_reducible repeat (first | refine blk_drewN ?_ _ | refine blk_drew ?_ | refine blk_alloc ?_ _)); refine blk_put (cs := #[.int .i64 ((rd_T51 l0_0 a1).f0), .int .i64 0, .int .i64 0]) ?_ 1 _ rfl; (with_reducible repeat (first | refine blk_drewN ?_ _ | refine blk_drew ?_ | refine blk_alloc ?_ _)); refine blk_put (cs := #[.int .i64 0, .int .i64 0, .int .i64 0]) ?_ 0 _ rfl; (with_reducible repeat (first | refine blk_drewN ?_ _ | refine blk_drew ?_ | refine blk_alloc ?_ _)); exact BK157.out) hb); have n2_ := Aside0.mk (below_step (zb HB.out) hb); clear BK155; clear BK157; clear HB; have BK155 := n0_; have BK157 := n1_; have HB := n2_; clear n0_ n1_ n2_; (try clear hb); (try clear hb2); (try clear hk); (try clear hi)))
     go_ret
     exact ⟨ze, zb HB.out⟩
    ·rw [if_neg c7] at H
     exact absurd H (by simp)
   ·rw [if_neg c5] at H
    have c5b0 : (((rd_T51 l0_0 a1).f0) == 1) = false := beq_eq_false_iff_ne.mpr c5
    have c5b1 : (((rd_T51 l0_0 a1).f0) != 1) = true := bne_iff_ne.mpr c5
    by_cases c14 : ((rd_T51 l0_0 a1).f0) = 5
    ·rw [if_pos c14] at H
     have c14b0 : (((rd_T51 l0_0 a1).f0) == 5) = true := beq_iff_eq.mpr c14
     have c14b1 : (((rd_T51 l0_0 a1).f0) != 5) = false := bne_eq_false_iff_eq.mpr c14
     clear c14
     replace H := Option.bind_eq_some_iff.mp H
     obtain ⟨t159, A150, H⟩ := H
     replace H : (if 1 + t159.size ≤ 9223372036854775807 then (some ((⟨#[35]⟩ : ByteArray) ++ t159)) else (none)) = some r := H
     have A15 := Aside0.mk A150
     clear A150
     by_cases c16 : 1 + t159.size ≤ 9223372036854775807
     ·rw [if_pos c16] at H
      have c16b0 := eq_true c16
      have c16b1 : decide (1 + t159.size ≤ 9223372036854775807) = true := decide_eq_true c16
      try have c16b2 : (9223372036854775807 < 1 + t159.size) = False := eq_false (Nat.not_lt.2 c16)
      obtain rfl := Option.some.inj H
      go_enter Tryd.func17, Tryd.ntmps17
      go_wp2_with (first | ((with_reducible refine gate_dst (N := 2) rfl ?_); refine box_event ?hg (N := 2) ?hd (cs := #[.slice A0_0 l0_0.length c0_0]) (t := 29) ?hr ?_; (case hd => rfl); (case hg => rfl); (case hr => first | (go_simp; done) | (go_simp; rfl)); intro gb155 hg w17 hbox hb; have n0_ := Aside0.mk (below_step (zb HB.out) hb); have n1_ := Aside0.mk (hbox); have n2_ := Aside0.mk ((by rw [hg]; exact (below_size (zb HB.out)) : w.heap.size ≤ gb155)); have n3_ := Aside0.mk ((by rw [hg]; exact (below_size (zb HB.out)) : w.heap.size ≤ gb155)); clear HB; have HB := n0_; have BK155 := n1_; have GW155 := n2_; have GE155 := n3_; clear n0_ n1_ n2_ n3_; clear hb hbox hg; have hcz18_0 : w17.cell? ⟨gb155, 0, none⟩ = some (.slice A0_0 l0_0.length c0_0) := (blk_cell BK155.out 0).trans rfl; have hfz18_0 := blk_frozen BK155.out 0; have p156 : 0 ≤ (a1 : Int) := of_decide_eq_true (by first | (with_reducible assumption) | assumption); have q156 : a1 < (l0_0.length : Int) := of_decide_eq_true (by first | (with_reducible assumption) | assumption); obtain ⟨ad156, e156, hx156_0, hx156_1, hx156_2⟩ := at_T51 HR0_0.out a1 p156 q156; cases e156; replace hx156_0 := (HB.out.cell (World.block_lt_of_cell? w _ hx156_0)).trans hx156_0; replace hx156_1 := (HB.out.cell (World.block_lt_of_cell? w _ hx156_1)).trans hx156_1; replace hx156_2 := (HB.out.cell (World.block_lt_of_cell? w _ hx156_2)).trans hx156_2; replace p156 := eq_true p156; replace q156 := eq_true q156) | ((with_reducible refine gate_dst (N := 5) rfl ?_); refine box_event ?hg (N := 5) ?hd (cs := #[.int .i64 0, .int .i64 0, .int .i64 0]) (t := 51) ?hr ?_; (case hd => rfl); (case hg => rfl); (case hr => first | (go_simp; done) | (go_simp; rfl)); intro gb157 hg w19 hbox hb; have n0_ := Aside0.mk (blk_below (zh BK155.out) hb); have n1_ := Aside0.mk (below_step (zb HB.out) hb); have n2_ := Aside0.mk (hbox); have n3_ := Aside0.mk ((by rw [hg]; exact (below_size (zb HB.out)) : w.heap.size ≤ gb157)); have n4_ := Aside0.mk ((by rw [hg]; exact (below_size (zb HB.out)) : w.heap.size ≤ gb157)); have n5_ := Aside0.mk ((by rw [hg]; exact Nat.ne_of_lt (blk_lt (zh BK155.out)) : gb155 ≠ gb157)); have n6_ := Aside0.mk ((by rw [hg]; exact Nat.ne_of_gt (blk_lt (zh BK155.out)) : gb157 ≠ gb155)); clear BK155; clear HB; have BK155 := n0_; have HB := n1_; have BK157 := n2_; have GW157 := n3_; have GE157 := n4_; have NB155_157 := n5_; have NB157_155 := n6_; clear n0_ n1_ n2_ n3_ n4_ n5_ n6_; clear hb hbox hg; have hnb20 := NB157_155.out; have hnc20 := NB155_157.out; have hcz21_0 : w19.cell? ⟨gb157, 0, none⟩ = some (.int .i64 0) := (blk_cell BK157.out 0).trans rfl; have hcz21_1 : w19.cell? ⟨gb157, 1, none⟩ = some (.int .i64 0) := (blk_cell BK157.out 1).trans rfl; have hcz21_2 : w19.cell? ⟨gb157, 2, none⟩ = some (.int .i64 0) := (blk_cell BK157.out 2).trans rfl; have hfz21_0 := blk_frozen BK157.out 0; have hfz21_1 := blk_frozen BK157.out 1; have hfz21_2 := blk_frozen BK157.out 2; have hcz22_0 : w19.cell? ⟨gb155, 0, none⟩ = some (.slice (some ad156) l0_0.length c0_0) := (blk_cell BK155.out 0).trans rfl; have hfz22_0 := blk_frozen BK155.out 0) | ((with_reducible refine gate_callee (f := 17) rfl ?_); refine goesL_ (some 25) rfl rfl Tryd.func17 (by kernel_rfl) rfl #[.agg #[.slice (some ad156) l0_0.length c0_0], .int .i64 ((rd_T51 l0_0 a1).f1)] rfl zl ?_; (with_reducible refine (ih k (by omega) _ _ l0_0 ((rd_T51 l0_0 a1).f1) t159 _ ?side1 ?side2 A15.out).mono ?_); (case side1 => exact Kd.C_below HR0_0.out (zb HB.out)); (case side2 => exact HC0_0.out); rintro e w23 ⟨rfl, hb⟩; refine ⟨_, rfl, ?_⟩; have n0_ := Aside0.mk (blk_below (g := gb155) (o := .cells #[.slice (some ad156) l0_0.length c0_0] 29 (0, 0)) (zf BK155.out) hb); have n1_ := Aside0.mk (blk_below (g := gb157) (o := .cells #[.int .i64 ((rd_T51 l0_0 a1).f0), .int .i64 ((rd_T51 l0_0 a1).f1), .int .i64 ((rd_T51 l0_0 a1).f2)] 51 (0, 0)) (by (with_reducible repeat (first | refine blk_drewN ?_ _ | refine blk_drew ?_ | refine blk_alloc ?_ _)); refine blk_put (cs := #[.int .i64 ((rd_T51 l0_0 a1).f0), .int .i64 ((rd_T51 l0_0 a1).f1), .int .i64 0]) ?_ 2 _ rfl; (with_reducible repeat (first | refine blk_drewN ?_ _ | refine blk_drew ?_ | refine blk_alloc ?_ _)); refine blk_put (cs := #[.int .i64 ((rd_T51 l0_0 a1).f0), .int .i64 0, .int .i64 0]) ?_ 1 _ rfl; (with_reducible repeat (first | refine blk_drewN ?_ _ | refine blk_drew ?_ | refine blk_alloc ?_ _)); refine blk_put (cs := #[.int .i64 0, .int .i64 0, .int .i64 0]) ?_ 0 _ rfl; (with_reducible repeat (first | refine blk_drewN ?_ _ | refine blk_drew ?_ | refine blk_alloc ?_ _)); exact BK157.out) hb); have n2_ := Aside0.mk (below_step (zb HB.out) hb); clear BK155; clear BK157; clear HB; have BK155 := n0_; have BK157 := n1_; have HB := n2_; clear n0_ n1_ n2_; (try clear hb); (try clear hb2); (try clear hk); (try clear hi)))
      go_ret
      exact ⟨ze, zb HB.out⟩
     ·rw [if_neg c16] at H
      exact absurd H (by simp)
    ·rw [if_neg c14] at H
     have c14b0 : (((rd_T51 l0_0 a1).f0) == 5) = false := beq_eq_false_iff_ne.mpr c14
     have c14b1 : (((rd_T51 l0_0 a1).f0) != 5) = true := bne_iff_ne.mpr c14
     by_cases c24 : ((rd_T51 l0_0 a1).f0) = 7
     ·rw [if_pos c24] at H
      have c24b0 : (((rd_T51 l0_0 a1).f0) == 7) = true := beq_iff_eq.mpr c24
      have c24b1 : (((rd_T51 l0_0 a1).f0) != 7) = false := bne_eq_false_iff_eq.mpr c24
      clear c24
      replace H := Option.bind_eq_some_iff.mp H
      obtain ⟨t160, A250, H⟩ := H
      replace H : (if 1 + t160.size ≤ 9223372036854775807 then (some ((⟨#[94]⟩ : ByteArray) ++ t160)) else (none)) = some r := H
      have A25 := Aside0.mk A250
      clear A250
      by_cases c26 : 1 + t160.size ≤ 9223372036854775807
      ·rw [if_pos c26] at H
       have c26b0 := eq_true c26
       have c26b1 : decide (1 + t160.size ≤ 9223372036854775807) = true := decide_eq_true c26
       try have c26b2 : (9223372036854775807 < 1 + t160.size) = False := eq_false (Nat.not_lt.2 c26)
       obtain rfl := Option.some.inj H
       go_enter Tryd.func17, Tryd.ntmps17
       go_wp2_with (first | ((with_reducible refine gate_dst (N := 2) rfl ?_); refine box_event ?hg (N := 2) ?hd (cs := #[.slice A0_0 l0_0.length c0_0]) (t := 29) ?hr ?_; (case hd => rfl); (case hg => rfl); (case hr => first | (go_simp; done) | (go_simp; rfl)); intro gb155 hg w27 hbox hb; have n0_ := Aside0.mk (below_step (zb HB.out) hb); have n1_ := Aside0.mk (hbox); have n2_ := Aside0.mk ((by rw [hg]; exact (below_size (zb HB.out)) : w.heap.size ≤ gb155)); have n3_ := Aside0.mk ((by rw [hg]; exact (below_size (zb HB.out)) : w.heap.size ≤ gb155)); clear HB; have HB := n0_; have BK155 := n1_; have GW155 := n2_; have GE155 := n3_; clear n0_ n1_ n2_ n3_; clear hb hbox hg; have hcz28_0 : w27.cell? ⟨gb155, 0, none⟩ = some (.slice A0_0 l0_0.length c0_0) := (blk_cell BK155.out 0).trans rfl; have hfz28_0 := blk_frozen BK155.out 0; have p156 : 0 ≤ (a1 : Int) := of_decide_eq_true (by first | (with_reducible assumption) | assumption); have q156 : a1 < (l0_0.length : Int) := of_decide_eq_true (by first | (with_reducible assumption) | assumption); obtain ⟨ad156, e156, hx156_0, hx156_1, hx156_2⟩ := at_T51 HR0_0.out a1 p156 q156; cases e156; replace hx156_0 := (HB.out.cell (World.block_lt_of_cell? w _ hx156_0)).trans hx156_0; replace hx156_1 := (HB.out.cell (World.block_lt_of_cell? w _ hx156_1)).trans hx156_1; replace hx156_2 := (HB.out.cell (World.block_lt_of_cell? w _ hx156_2)).trans hx156_2; replace p156 := eq_true p156; replace q156 := eq_true q156) | ((with_reducible refine gate_dst (N := 5) rfl ?_); refine box_event ?hg (N := 5) ?hd (cs := #[.int .i64 0, .int .i64 0, .int .i64 0]) (t := 51) ?hr ?_; (case hd => rfl); (case hg => rfl); (case hr => first | (go_simp; done) | (go_simp; rfl)); intro gb157 hg w29 hbox hb; have n0_ := Aside0.mk (blk_below (zh BK155.out) hb); have n1_ := Aside0.mk (below_step (zb HB.out) hb); have n2_ := Aside0.mk (hbox); have n3_ := Aside0.mk ((by rw [hg]; exact (below_size (zb HB.out)) : w.heap.size ≤ gb157)); have n4_ := Aside0.mk ((by rw [hg]; exact (below_size (zb HB.out)) : w.heap.size ≤ gb157)); have n5_ := Aside0.mk ((by rw [hg]; exact Nat.ne_of_lt (blk_lt (zh BK155.out)) : gb155 ≠ gb157)); have n6_ := Aside0.mk ((by rw [hg]; exact Nat.ne_of_gt (blk_lt (zh BK155.out)) : gb157 ≠ gb155)); clear BK155; clear HB; have BK155 := n0_; have HB := n1_; have BK157 := n2_; have GW157 := n3_; have GE157 := n4_; have NB155_157 := n5_; have NB157_155 := n6_; clear n0_ n1_ n2_ n3_ n4_ n5_ n6_; clear hb hbox hg; have hnb30 := NB157_155.out; have hnc30 := NB155_157.out; have hcz31_0 : w29.cell? ⟨gb157, 0, none⟩ = some (.int .i64 0) := (blk_cell BK157.out 0).trans rfl; have hcz31_1 : w29.cell? ⟨gb157, 1, none⟩ = some (.int .i64 0) := (blk_cell BK157.out 1).trans rfl; have hcz31_2 : w29.cell? ⟨gb157, 2, none⟩ = some (.int .i64 0) := (blk_cell BK157.out 2).trans rfl; have hfz31_0 := blk_frozen BK157.out 0; have hfz31_1 := blk_frozen BK157.out 1; have hfz31_2 := blk_frozen BK157.out 2; have hcz32_0 : w29.cell? ⟨gb155, 0, none⟩ = some (.slice (some ad156) l0_0.length c0_0) := (blk_cell BK155.out 0).trans rfl; have hfz32_0 := blk_frozen BK155.out 0) | ((with_reducible refine gate_callee (f := 17) rfl ?_); refine goesL_ (some 32) rfl rfl Tryd.func17 (by kernel_rfl) rfl #[.agg #[.slice (some ad156) l0_0.length c0_0], .int .i64 ((rd_T51 l0_0 a1).f1)] rfl zl ?_; (with_reducible refine (ih k (by omega) _ _ l0_0 ((rd_T51 l0_0 a1).f1) t160 _ ?side1 ?side2 A25.out).mono ?_); (case side1 => exact Kd.C_below HR0_0.out (zb HB.out)); (case side2 => exact HC0_0.out); rintro e w33 ⟨rfl, hb⟩; refine ⟨_, rfl, ?_⟩; have n0_ := Aside0.mk (blk_below (g := gb155) (o := .cells #[.slice (some ad156) l0_0.length c0_0] 29 (0, 0)) (zf BK155.out) hb); have n1_ := Aside0.mk (blk_below (g := gb157) (o := .cells #[.int .i64 ((rd_T51 l0_0 a1).f0), .int .i64 ((rd_T51 l0_0 a1).f1), .int .i64 ((rd_T51 l0_0 a1).f2)] 51 (0, 0)) (by (with_reducible repeat (first | refine blk_drewN ?_ _ | refine blk_drew ?_ | refine blk_alloc ?_ _)); refine blk_put (cs := #[.int .i64 ((rd_T51 l0_0 a1).f0), .int .i64 ((rd_T51 l0_0 a1).f1), .int .i64 0]) ?_ 2 _ rfl; (with_reducible repeat (first | refine blk_drewN ?_ _ | refine blk_drew ?_ | refine blk_alloc ?_ _)); refine blk_put (cs := #[.int .i64 ((rd_T51 l0_0 a1).f0), .int .i64 0, .int .i64 0]) ?_ 1 _ rfl; (with_reducible repeat (first | refine blk_drewN ?_ _ | refine blk_drew ?_ | refine blk_alloc ?_ _)); refine blk_put (cs := #[.int .i64 0, .int .i64 0, .int .i64 0]) ?_ 0 _ rfl; (with_reducible repeat (first | refine blk_drewN ?_ _ | refine blk_drew ?_ | refine blk_alloc ?_ _)); exact BK157.out) hb); have n2_ := Aside0.mk (below_step (zb HB.out) hb); clear BK155; clear BK157; clear HB; have BK155 := n0_; have BK157 := n1_; have HB := n2_; clear n0_ n1_ n2_; (try clear hb); (try clear hb2); (try clear hk); (try clear hi)))
       go_ret
       exact ⟨ze, zb HB.out⟩
      ·rw [if_neg c26] at H
       exact absurd H (by simp)
     ·rw [if_neg c24] at H
      have c24b0 : (((rd_T51 l0_0 a1).f0) == 7) = false := beq_eq_false_iff_ne.mpr c24
      have c24b1 : (((rd_T51 l0_0 a1).f0) != 7) = true := bne_iff_ne.mpr c24
      replace H := Option.bind_eq_some_iff.mp H
      obtain ⟨t161, A340, H⟩ := H
      replace H : (if t161.size + 1 ≤ 9223372036854775807 then ((spec_l4Print.f k l0_0 ((rd_T51 l0_0 a1).f2)).bind fun t162 => (if (t161 ++ (⟨#[44]⟩ : ByteArray)).size + t162.size ≤ 9223372036854775807 then (if ((rd_T51 l0_0 a1).f0) = 2 then (if 1 + ((t161 ++ (⟨#[44]⟩ : ByteArray)) ++ t162).size ≤ 9223372036854775807 then (if ((⟨#[40]⟩ : ByteArray) ++ ((t161 ++ (⟨#[44]⟩ : ByteArray)) ++ t162)).size + 1 ≤ 9223372036854775807 then (some (((⟨#[40]⟩ : ByteArray) ++ ((t161 ++ (⟨#[44]⟩ : ByteArray)) ++ t162)) ++ (⟨#[41]⟩ : ByteArray))) else (none)) else (none)) else (if ((rd_T51 l0_0 a1).f0) = 3 then (if 1 + ((t161 ++ (⟨#[44]⟩ : ByteArray)) ++ t162).size ≤ 9223372036854775807 then (if ((⟨#[123]⟩ : ByteArray) ++ ((t161 ++ (⟨#[44]⟩ : ByteArray)) ++ t162)).size + 1 ≤ 9223372036854775807 then (some (((⟨#[123]⟩ : ByteArray) ++ ((t161 ++ (⟨#[44]⟩ : ByteArray)) ++ t162)) ++ (⟨#[125]⟩ : ByteArray))) else (none)) else (none)) else (if ((rd_T51 l0_0 a1).f0) = 4 then (if 1 + ((t161 ++ (⟨#[44]⟩ : ByteArray)) ++ t162).size ≤ 9223372036854775807 then (if ((⟨#[91]⟩ : ByteArray) ++ ((t161 ++ (⟨#[44]⟩ : ByteArray)) ++ t162)).size + 1 ≤ 9223372036854775807 then (some (((⟨#[91]⟩ : ByteArray) ++ ((t161 ++ (⟨#[44]⟩ : ByteArray)) ++ t162)) ++ (⟨#[93]⟩ : ByteArray))) else (none)) else (none)) else (if ((rd_T51 l0_0 a1).f0) = 6 then (if 2 + ((t161 ++ (⟨#[44]⟩ : ByteArray)) ++ t162).size ≤ 9223372036854775807 then (if ((⟨#[107, 40]⟩ : ByteArray) ++ ((t161 ++ (⟨#[44]⟩ : ByteArray)) ++ t162)).size + 1 ≤ 9223372036854775807 then (some (((⟨#[107, 40]⟩ : ByteArray) ++ ((t161 ++ (⟨#[44]⟩ : ByteArray)) ++ t162)) ++ (⟨#[41]⟩ : ByteArray))) else (none)) else (none)) else (if 2 + ((t161 ++ (⟨#[44]⟩ : ByteArray)) ++ t162).size ≤ 9223372036854775807 then (if ((⟨#[42, 40]⟩ : ByteArray) ++ ((t161 ++ (⟨#[44]⟩ : ByteArray)) ++ t162)).size + 1 ≤ 9223372036854775807 then (some (((⟨#[42, 40]⟩ : ByteArray) ++ ((t161 ++ (⟨#[44]⟩ : ByteArray)) ++ t162)) ++ (⟨#[41]⟩ : ByteArray))) else (none)) else (none)))))) else (none))) else (none)) = some r := H
      have A34 := Aside0.mk A340
      clear A340
      by_cases c35 : t161.size + 1 ≤ 9223372036854775807
      ·rw [if_pos c35] at H
       have c35b0 := eq_true c35
       have c35b1 : decide (t161.size + 1 ≤ 9223372036854775807) = true := decide_eq_true c35
       try have c35b2 : (9223372036854775807 < t161.size + 1) = False := eq_false (Nat.not_lt.2 c35)
       replace H := Option.bind_eq_some_iff.mp H
       obtain ⟨t162, A360, H⟩ := H
       replace H : (if (t161 ++ (⟨#[44]⟩ : ByteArray)).size + t162.size ≤ 9223372036854775807 then (if ((rd_T51 l0_0 a1).f0) = 2 then (if 1 + ((t161 ++ (⟨#[44]⟩ : ByteArray)) ++ t162).size ≤ 9223372036854775807 then (if ((⟨#[40]⟩ : ByteArray) ++ ((t161 ++ (⟨#[44]⟩ : ByteArray)) ++ t162)).size + 1 ≤ 9223372036854775807 then (some (((⟨#[40]⟩ : ByteArray) ++ ((t161 ++ (⟨#[44]⟩ : ByteArray)) ++ t162)) ++ (⟨#[41]⟩ : ByteArray))) else (none)) else (none)) else (if ((rd_T51 l0_0 a1).f0) = 3 then (if 1 + ((t161 ++ (⟨#[44]⟩ : ByteArray)) ++ t162).size ≤ 9223372036854775807 then (if ((⟨#[123]⟩ : ByteArray) ++ ((t161 ++ (⟨#[44]⟩ : ByteArray)) ++ t162)).size + 1 ≤ 9223372036854775807 then (some (((⟨#[123]⟩ : ByteArray) ++ ((t161 ++ (⟨#[44]⟩ : ByteArray)) ++ t162)) ++ (⟨#[125]⟩ : ByteArray))) else (none)) else (none)) else (if ((rd_T51 l0_0 a1).f0) = 4 then (if 1 + ((t161 ++ (⟨#[44]⟩ : ByteArray)) ++ t162).size ≤ 9223372036854775807 then (if ((⟨#[91]⟩ : ByteArray) ++ ((t161 ++ (⟨#[44]⟩ : ByteArray)) ++ t162)).size + 1 ≤ 9223372036854775807 then (some (((⟨#[91]⟩ : ByteArray) ++ ((t161 ++ (⟨#[44]⟩ : ByteArray)) ++ t162)) ++ (⟨#[93]⟩ : ByteArray))) else (none)) else (none)) else (if ((rd_T51 l0_0 a1).f0) = 6 then (if 2 + ((t161 ++ (⟨#[44]⟩ : ByteArray)) ++ t162).size ≤ 9223372036854775807 then (if ((⟨#[107, 40]⟩ : ByteArray) ++ ((t161 ++ (⟨#[44]⟩ : ByteArray)) ++ t162)).size + 1 ≤ 9223372036854775807 then (some (((⟨#[107, 40]⟩ : ByteArray) ++ ((t161 ++ (⟨#[44]⟩ : ByteArray)) ++ t162)) ++ (⟨#[41]⟩ : ByteArray))) else (none)) else (none)) else (if 2 + ((t161 ++ (⟨#[44]⟩ : ByteArray)) ++ t162).size ≤ 9223372036854775807 then (if ((⟨#[42, 40]⟩ : ByteArray) ++ ((t161 ++ (⟨#[44]⟩ : ByteArray)) ++ t162)).size + 1 ≤ 9223372036854775807 then (some (((⟨#[42, 40]⟩ : ByteArray) ++ ((t161 ++ (⟨#[44]⟩ : ByteArray)) ++ t162)) ++ (⟨#[41]⟩ : ByteArray))) else (none)) else (none)))))) else (none)) = some r := H
       have A36 := Aside0.mk A360
       clear A360
       by_cases c37 : (t161 ++ (⟨#[44]⟩ : ByteArray)).size + t162.size ≤ 9223372036854775807
       ·rw [if_pos c37] at H
        have c37b0 := eq_true c37
        have c37b1 : decide ((t161 ++ (⟨#[44]⟩ : ByteArray)).size + t162.size ≤ 9223372036854775807) = true := decide_eq_true c37
        try have c37b2 : (9223372036854775807 < (t161 ++ (⟨#[44]⟩ : ByteArray)).size + t162.size) = False := eq_false (Nat.not_lt.2 c37)
        try have c37b3 : (9223372036854775807 < t161.size + 1 + t162.size) = False := eq_false (by have h_ := c37; simp only [ByteArray.size_append] at h_; have l0_ : (⟨#[44]⟩ : ByteArray).size = 1 := rfl; omega)
        by_cases c38 : ((rd_T51 l0_0 a1).f0) = 2
        ·rw [if_pos c38] at H
         have c38b0 : (((rd_T51 l0_0 a1).f0) == 2) = true := beq_iff_eq.mpr c38
         have c38b1 : (((rd_T51 l0_0 a1).f0) != 2) = false := bne_eq_false_iff_eq.mpr c38
         clear c38
         by_cases c39 : 1 + ((t161 ++ (⟨#[44]⟩ : ByteArray)) ++ t162).size ≤ 9223372036854775807
         ·rw [if_pos c39] at H
          have c39b0 := eq_true c39
          have c39b1 : decide (1 + ((t161 ++ (⟨#[44]⟩ : ByteArray)) ++ t162).size ≤ 9223372036854775807) = true := decide_eq_true c39
          try have c39b2 : (9223372036854775807 < 1 + ((t161 ++ (⟨#[44]⟩ : ByteArray)) ++ t162).size) = False := eq_false (Nat.not_lt.2 c39)
          try have c39b3 : (9223372036854775807 < 1 + (t161.size + 1 + t162.size)) = False := eq_false (by have h_ := c39; simp only [ByteArray.size_append] at h_; have l0_ : (⟨#[44]⟩ : ByteArray).size = 1 := rfl; omega)
          by_cases c40 : ((⟨#[40]⟩ : ByteArray) ++ ((t161 ++ (⟨#[44]⟩ : ByteArray)) ++ t162)).size + 1 ≤ 9223372036854775807
          ·rw [if_pos c40] at H
           have c40b0 := eq_true c40
           have c40b1 : decide (((⟨#[40]⟩ : ByteArray) ++ ((t161 ++ (⟨#[44]⟩ : ByteArray)) ++ t162)).size + 1 ≤ 9223372036854775807) = true := decide_eq_true c40
           try have c40b2 : (9223372036854775807 < ((⟨#[40]⟩ : ByteArray) ++ ((t161 ++ (⟨#[44]⟩ : ByteArray)) ++ t162)).size + 1) = False := eq_false (Nat.not_lt.2 c40)
           try have c40b3 : (9223372036854775807 < 1 + (t161.size + 1 + t162.size) + 1) = False := eq_false (by have h_ := c40; simp only [ByteArray.size_append] at h_; have l0_ : (⟨#[40]⟩ : ByteArray).size = 1 := rfl; have l1_ : (⟨#[44]⟩ : ByteArray).size = 1 := rfl; omega)
           obtain rfl := Option.some.inj H
           go_enter Tryd.func17, Tryd.ntmps17
           try go_wp2_with (first | ((with_reducible refine gate_dst (N := 2) rfl ?_); refine box_event ?hg (N := 2) ?hd (cs := #[.slice A0_0 l0_0.length c0_0]) (t := 29) ?hr ?_; (case hd => rfl); (case hg => rfl); (case hr => first | (go_simp; done) | (go_simp; rfl)); intro gb155 hg w41 hbox hb; have n0_ := Aside0.mk (below_step (zb HB.out) hb); have n1_ := Aside0.mk (hbox); have n2_ := Aside0.mk ((by rw [hg]; exact (below_size (zb HB.out)) : w.heap.size ≤ gb155)); have n3_ := Aside0.mk ((by rw [hg]; exact (below_size (zb HB.out)) : w.heap.size ≤ gb155)); clear HB; have HB := n0_; have BK155 := n1_; have GW155 := n2_; have GE155 := n3_; clear n0_ n1_ n2_ n3_; clear hb hbox hg; have hcz42_0 : w41.cell? ⟨gb155, 0, none⟩ = some (.slice A0_0 l0_0.length c0_0) := (blk_cell BK155.out 0).trans rfl; have hfz42_0 := blk_frozen BK155.out 0; have p156 : 0 ≤ (a1 : Int) := of_decide_eq_true (by first | (with_reducible assumption) | assumption); have q156 : a1 < (l0_0.length : Int) := of_decide_eq_true (by first | (with_reducible assumption) | assumption); obtain ⟨ad156, e156, hx156_0, hx156_1, hx156_2⟩ := at_T51 HR0_0.out a1 p156 q156; cases e156; replace hx156_0 := (HB.out.cell (World.block_lt_of_cell? w _ hx156_0)).trans hx156_0; replace hx156_1 := (HB.out.cell (World.block_lt_of_cell? w _ hx156_1)).trans hx156_1; replace hx156_2 := (HB.out.cell (World.block_lt_of_cell? w _ hx156_2)).trans hx156_2; replace p156 := eq_true p156; replace q156 := eq_true q156) | ((with_reducible refine gate_dst (N := 5) rfl ?_); refine box_event ?hg (N := 5) ?hd (cs := #[.int .i64 0, .int .i64 0, .int .i64 0]) (t := 51) ?hr ?_; (case hd => rfl); (case hg => rfl); (case hr => first | (go_simp; done) | (go_simp; rfl)); intro gb157 hg w43 hbox hb; have n0_ := Aside0.mk (blk_below (zh BK155.out) hb); have n1_ := Aside0.mk (below_step (zb HB.out) hb); have n2_ := Aside0.mk (hbox); have n3_ := Aside0.mk ((by rw [hg]; exact (below_size (zb HB.out)) : w.heap.size ≤ gb157)); have n4_ := Aside0.mk ((by rw [hg]; exact (below_size (zb HB.out)) : w.heap.size ≤ gb157)); have n5_ := Aside0.mk ((by rw [hg]; exact Nat.ne_of_lt (blk_lt (zh BK155.out)) : gb155 ≠ gb157)); have n6_ := Aside0.mk ((by rw [hg]; exact Nat.ne_of_gt (blk_lt (zh BK155.out)) : gb157 ≠ gb155)); clear BK155; clear HB; have BK155 := n0_; have HB := n1_; have BK157 := n2_; have GW157 := n3_; have GE157 := n4_; have NB155_157 := n5_; have NB157_155 := n6_; clear n0_ n1_ n2_ n3_ n4_ n5_ n6_; clear hb hbox hg; have hnb44 := NB157_155.out; have hnc44 := NB155_157.out; have hcz45_0 : w43.cell? ⟨gb157, 0, none⟩ = some (.int .i64 0) := (blk_cell BK157.out 0).trans rfl; have hcz45_1 : w43.cell? ⟨gb157, 1, none⟩ = some (.int .i64 0) := (blk_cell BK157.out 1).trans rfl; have hcz45_2 : w43.cell? ⟨gb157, 2, none⟩ = some (.int .i64 0) := (blk_cell BK157.out 2).trans rfl; have hfz45_0 := blk_frozen BK157.out 0; have hfz45_1 := blk_frozen BK157.out 1; have hfz45_2 := blk_frozen BK157.out 2))
           have n0_ : Aside0 ((((w43.setCell ⟨gb157, 0, none⟩ (.int .i64 ((rd_T51 l0_0 a1).f0))).setCell ⟨gb157, 1, none⟩ (.int .i64 ((rd_T51 l0_0 a1).f1))).setCell ⟨gb157, 2, none⟩ (.int .i64 ((rd_T51 l0_0 a1).f2))).heap[gb155]? = some (.cells #[.slice (some ad156) l0_0.length c0_0] 29 (0, 0))) := ⟨zf BK155.out⟩
           have n1_ : Aside0 ((((w43.setCell ⟨gb157, 0, none⟩ (.int .i64 ((rd_T51 l0_0 a1).f0))).setCell ⟨gb157, 1, none⟩ (.int .i64 ((rd_T51 l0_0 a1).f1))).setCell ⟨gb157, 2, none⟩ (.int .i64 ((rd_T51 l0_0 a1).f2))).heap[gb157]? = some (.cells #[.int .i64 ((rd_T51 l0_0 a1).f0), .int .i64 ((rd_T51 l0_0 a1).f1), .int .i64 ((rd_T51 l0_0 a1).f2)] 51 (0, 0))) := ⟨by (with_reducible repeat (first | refine blk_drewN ?_ _ | refine blk_drew ?_ | refine blk_alloc ?_ _)); refine blk_put (cs := #[.int .i64 ((rd_T51 l0_0 a1).f0), .int .i64 ((rd_T51 l0_0 a1).f1), .int .i64 0]) ?_ 2 _ rfl; (with_reducible repeat (first | refine blk_drewN ?_ _ | refine blk_drew ?_ | refine blk_alloc ?_ _)); refine blk_put (cs := #[.int .i64 ((rd_T51 l0_0 a1).f0), .int .i64 0, .int .i64 0]) ?_ 1 _ rfl; (with_reducible repeat (first | refine blk_drewN ?_ _ | refine blk_drew ?_ | refine blk_alloc ?_ _)); refine blk_put (cs := #[.int .i64 0, .int .i64 0, .int .i64 0]) ?_ 0 _ rfl; (with_reducible repeat (first | refine blk_drewN ?_ _ | refine blk_drew ?_ | refine blk_alloc ?_ _)); exact BK157.out⟩
           have n2_ : Aside0 (Below w.heap.size w (((w43.setCell ⟨gb157, 0, none⟩ (.int .i64 ((rd_T51 l0_0 a1).f0))).setCell ⟨gb157, 1, none⟩ (.int .i64 ((rd_T51 l0_0 a1).f1))).setCell ⟨gb157, 2, none⟩ (.int .i64 ((rd_T51 l0_0 a1).f2)))) := ⟨zb HB.out⟩
           (try clear BK155)
           (try clear BK157)
           (try clear HB)
           generalize (((w43.setCell ⟨gb157, 0, none⟩ (.int .i64 ((rd_T51 l0_0 a1).f0))).setCell ⟨gb157, 1, none⟩ (.int .i64 ((rd_T51 l0_0 a1).f1))).setCell ⟨gb157, 2, none⟩ (.int .i64 ((rd_T51 l0_0 a1).f2))) = w46 at n0_ n1_ n2_ ⊢
           have BK155 := n0_
           have BK157 := n1_
           have HB := n2_
           clear n0_ n1_ n2_
           have n0_ := Aside0.mk (blk_drew BK155.out)
           have n1_ := Aside0.mk (blk_drew BK157.out)
           have n2_ := Aside0.mk (below_drew1 HB.out)
           clear BK155
           clear BK157
           clear HB
           have BK155 := n0_
           have BK157 := n1_
           have HB := n2_
           clear n0_ n1_ n2_
           refine start_ (n := 11) (S := fun w' => w'.cell? ⟨gb155, 0, none⟩ = some (.slice (some ad156) l0_0.length c0_0) ∧ w'.cell? ⟨gb157, 0, none⟩ = some (.int .i64 ((rd_T51 l0_0 a1).f0)) ∧ w'.cell? ⟨gb157, 1, none⟩ = some (.int .i64 ((rd_T51 l0_0 a1).f1)) ∧ w'.cell? ⟨gb157, 2, none⟩ = some (.int .i64 ((rd_T51 l0_0 a1).f2))) (ds := []) #[false, false, false, false, false, false, false, false, false, false, false] (by kernel_rfl) rfl rfl ⟨(blk_cell BK155.out 0).trans rfl, (blk_cell BK157.out 0).trans rfl, (blk_cell BK157.out 1).trans rfl, (blk_cell BK157.out 2).trans rfl⟩ (fun hHeld => ?_); refine with_tabW spec_l4Print.tab9 spec_l4Print.bits9 (fun HT_ HW_ => ?_)
           generalize w46.drew = w47 at BK155 BK157 HB hHeld ⊢
           refine pure_ (i := 1) (N := some 35) (v := ?_) (a' := ?_) #[false, true, false, false, false, false, false, false, false, false, false] rfl rfl (any_of HT_.out (by kernel_rfl)) (fun _ _ _ h => h) (Or.inl ⟨by rfl, ?_⟩) ?_ ?_
           rotate_left
           ·intro w'
            go_simp
            with_reducible rfl
           rotate_left
           ·simp only [Act.put, List.setIfInBounds_toArray, List.set_cons_zero, List.set_cons_succ, i64_w, i32_w]
            rfl
           refine pure_ (i := 6) (N := some 40) (v := ?_) (a' := ?_) #[false, true, false, false, false, false, true, false, false, false, false] rfl rfl (any_of HT_.out (by kernel_rfl)) (fun _ _ _ h => h) (Or.inl ⟨by rfl, ?_⟩) ?_ ?_
           rotate_left
           ·intro w'
            go_simp
            with_reducible rfl
           rotate_left
           ·simp only [Act.put, List.setIfInBounds_toArray, List.set_cons_zero, List.set_cons_succ, i64_w, i32_w]
            rfl
           refine take_ (i := 0) (N := some 34) (v := ?_) (a' := ?_) #[true, true, false, false, false, false, true, false, false, false, false] rfl rfl (take_ofW HT_.out HW_.out (by kernel_rfl)) (fun _ _ _ h => h) (Or.inl ⟨by rfl, ?_⟩) hHeld ?_ ?_
           rotate_left
           ·rintro w' ⟨s0, s1, s2, s3⟩
            go_simp
            with_reducible rfl
           rotate_left
           ·simp only [Act.put, List.setIfInBounds_toArray, List.set_cons_zero, List.set_cons_succ, i64_w, i32_w]
            rfl
           refine take_ (i := 2) (N := some 36) (v := ?_) (a' := ?_) #[true, true, true, false, false, false, true, false, false, false, false] rfl rfl (take_ofW HT_.out HW_.out (by kernel_rfl)) (fun _ _ _ h => h) (Or.inl ⟨by rfl, ?_⟩) hHeld ?_ ?_
           rotate_left
           ·rintro w' ⟨s0, s1, s2, s3⟩
            go_simp
            with_reducible rfl
           rotate_left
           ·simp only [Act.put, List.setIfInBounds_toArray, List.set_cons_zero, List.set_cons_succ, i64_w, i32_w]
            rfl
           refine take_ (i := 5) (N := some 39) (v := ?_) (a' := ?_) #[true, true, true, false, false, true, true, false, false, false, false] rfl rfl (take_ofW HT_.out HW_.out (by kernel_rfl)) (fun _ _ _ h => h) (Or.inl ⟨by rfl, ?_⟩) hHeld ?_ ?_
           rotate_left
           ·rintro w' ⟨s0, s1, s2, s3⟩
            go_simp
            with_reducible rfl
           rotate_left
           ·simp only [Act.put, List.setIfInBounds_toArray, List.set_cons_zero, List.set_cons_succ, i64_w, i32_w]
            rfl
           refine take_ (i := 7) (N := some 41) (v := ?_) (a' := ?_) #[true, true, true, false, false, true, true, true, false, false, false] rfl rfl (take_ofW HT_.out HW_.out (by kernel_rfl)) (fun _ _ _ h => h) (Or.inl ⟨by rfl, ?_⟩) hHeld ?_ ?_
           rotate_left
           ·rintro w' ⟨s0, s1, s2, s3⟩
            go_simp
            with_reducible rfl
           rotate_left
           ·simp only [Act.put, List.setIfInBounds_toArray, List.set_cons_zero, List.set_cons_succ, i64_w, i32_w]
            rfl
           refine one_ (i := 3) (N := some 37) #[true, true, true, true, false, true, true, true, false, false, false] rfl rfl (one_of HT_.out (by kernel_rfl)) (by decide) (fun K hK => ?_)
           refine goes_ Tryd.func17 (by kernel_rfl) rfl #[.agg #[.slice (some ad156) l0_0.length c0_0], .int .i64 ((rd_T51 l0_0 a1).f1)] (by rfl) rfl rfl zl ?_
           with_reducible refine (ih k (by omega) _ _ l0_0 ((rd_T51 l0_0 a1).f1) t161 _ ?side1 ?side2 A34.out).mono ?_
           (case side1 => exact zc (Kd.C_below HR0_0.out HB.out))
           (case side2 => exact HC0_0.out)
           rintro e w48 ⟨rfl, hb⟩
           refine ⟨_, rfl, ?_⟩
           have n0_ := Aside0.mk (blk_below (zh BK155.out) hb)
           have n1_ := Aside0.mk (blk_below (zh BK157.out) hb)
           have n2_ := Aside0.mk (below_step (zb HB.out) hb)
           clear BK155
           clear BK157
           clear HB
           have BK155 := n0_
           have BK157 := n1_
           have HB := n2_
           clear n0_ n1_ n2_
           (try clear hb)
           (try clear hb2)
           (try clear hk)
           (try clear hi)
           refine hK.out _ _ ⟨(blk_cell BK155.out 0).trans rfl, (blk_cell BK157.out 0).trans rfl, (blk_cell BK157.out 1).trans rfl, (blk_cell BK157.out 2).trans rfl⟩ (fun hHeld => ?_)
           clear hK K
           refine norm_ (a' := ?_) ?_ ?_
           rotate_left
           ·show Act.put _ (some 37) _ = _
            simp only [Act.put, List.setIfInBounds_toArray, List.set_cons_zero, List.set_cons_succ, i64_w, i32_w]
            rfl
           refine pure_ (i := 4) (N := some 38) (v := ?_) (a' := ?_) #[true, true, true, true, true, true, true, true, false, false, false] rfl rfl (any_of HT_.out (by kernel_rfl)) (fun _ _ _ h => h) (Or.inl ⟨by rfl, ?_⟩) ?_ ?_
           rotate_left
           ·intro w'
            go_simp
            with_reducible rfl
           rotate_left
           ·simp only [Act.put, List.setIfInBounds_toArray, List.set_cons_zero, List.set_cons_succ, i64_w, i32_w]
            rfl
           refine one_ (i := 8) (N := some 42) #[true, true, true, true, true, true, true, true, true, false, false] rfl rfl (one_of HT_.out (by kernel_rfl)) (by decide) (fun K hK => ?_)
           refine goes_ Tryd.func17 (by kernel_rfl) rfl #[.agg #[.slice (some ad156) l0_0.length c0_0], .int .i64 ((rd_T51 l0_0 a1).f2)] (by rfl) rfl rfl zl ?_
           with_reducible refine (ih k (by omega) _ _ l0_0 ((rd_T51 l0_0 a1).f2) t162 _ ?side1 ?side2 A36.out).mono ?_
           (case side1 => exact zc (Kd.C_below HR0_0.out HB.out))
           (case side2 => exact HC0_0.out)
           rintro e w49 ⟨rfl, hb⟩
           refine ⟨_, rfl, ?_⟩
           have n0_ := Aside0.mk (blk_below (zh BK155.out) hb)
           have n1_ := Aside0.mk (blk_below (zh BK157.out) hb)
           have n2_ := Aside0.mk (below_step (zb HB.out) hb)
           clear BK155
           clear BK157
           clear HB
           have BK155 := n0_
           have BK157 := n1_
           have HB := n2_
           clear n0_ n1_ n2_
           (try clear hb)
           (try clear hb2)
           (try clear hk)
           (try clear hi)
           refine hK.out _ _ ⟨(blk_cell BK155.out 0).trans rfl, (blk_cell BK157.out 0).trans rfl, (blk_cell BK157.out 1).trans rfl, (blk_cell BK157.out 2).trans rfl⟩ (fun hHeld => ?_)
           clear hK K
           refine norm_ (a' := ?_) ?_ ?_
           rotate_left
           ·show Act.put _ (some 42) _ = _
            simp only [Act.put, List.setIfInBounds_toArray, List.set_cons_zero, List.set_cons_succ, i64_w, i32_w]
            rfl
           refine pure_ (i := 9) (N := some 43) (v := ?_) (a' := ?_) #[true, true, true, true, true, true, true, true, true, true, false] rfl rfl (any_of HT_.out (by kernel_rfl)) (fun _ _ _ h => h) (Or.inl ⟨by rfl, ?_⟩) ?_ ?_
           rotate_left
           ·intro w'
            go_simp
            with_reducible rfl
           rotate_left
           ·simp only [Act.put, List.setIfInBounds_toArray, List.set_cons_zero, List.set_cons_succ, i64_w, i32_w]
            rfl
           refine pure_ (i := 10) (N := some 6) (v := ?_) (a' := ?_) #[true, true, true, true, true, true, true, true, true, true, true] rfl rfl (any_of HT_.out (by kernel_rfl)) (fun _ _ _ h => h) (Or.inl ⟨by rfl, ?_⟩) ?_ ?_
           rotate_left
           ·intro w'
            go_simp
            with_reducible rfl
           rotate_left
           ·simp only [Act.put, List.setIfInBounds_toArray, List.set_cons_zero, List.set_cons_succ, i64_w, i32_w]
            rfl
           refine done_ (done_of HT_.out (by kernel_rfl)) ?_
           have hcz50_0 : w49.cell? ⟨gb157, 0, none⟩ = some (.int .i64 ((rd_T51 l0_0 a1).f0)) := (blk_cell BK157.out 0).trans rfl
           have hcz50_1 : w49.cell? ⟨gb157, 1, none⟩ = some (.int .i64 ((rd_T51 l0_0 a1).f1)) := (blk_cell BK157.out 1).trans rfl
           have hcz50_2 : w49.cell? ⟨gb157, 2, none⟩ = some (.int .i64 ((rd_T51 l0_0 a1).f2)) := (blk_cell BK157.out 2).trans rfl
           have hfz50_0 := blk_frozen BK157.out 0
           have hfz50_1 := blk_frozen BK157.out 1
           have hfz50_2 := blk_frozen BK157.out 2
           try go_wp2
           go_ret
           exact ⟨ze, zb HB.out⟩
          ·rw [if_neg c40] at H
           exact absurd H (by simp)
         ·rw [if_neg c39] at H
          exact absurd H (by simp)
        ·rw [if_neg c38] at H
         have c38b0 : (((rd_T51 l0_0 a1).f0) == 2) = false := beq_eq_false_iff_ne.mpr c38
         have c38b1 : (((rd_T51 l0_0 a1).f0) != 2) = true := bne_iff_ne.mpr c38
         by_cases c51 : ((rd_T51 l0_0 a1).f0) = 3
         ·rw [if_pos c51] at H
          have c51b0 : (((rd_T51 l0_0 a1).f0) == 3) = true := beq_iff_eq.mpr c51
          have c51b1 : (((rd_T51 l0_0 a1).f0) != 3) = false := bne_eq_false_iff_eq.mpr c51
          clear c51
          by_cases c52 : 1 + ((t161 ++ (⟨#[44]⟩ : ByteArray)) ++ t162).size ≤ 9223372036854775807
          ·rw [if_pos c52] at H
           have c52b0 := eq_true c52
           have c52b1 : decide (1 + ((t161 ++ (⟨#[44]⟩ : ByteArray)) ++ t162).size ≤ 9223372036854775807) = true := decide_eq_true c52
           try have c52b2 : (9223372036854775807 < 1 + ((t161 ++ (⟨#[44]⟩ : ByteArray)) ++ t162).size) = False := eq_false (Nat.not_lt.2 c52)
           try have c52b3 : (9223372036854775807 < 1 + (t161.size + 1 + t162.size)) = False := eq_false (by have h_ := c52; simp only [ByteArray.size_append] at h_; have l0_ : (⟨#[44]⟩ : ByteArray).size = 1 := rfl; omega)
           by_cases c53 : ((⟨#[123]⟩ : ByteArray) ++ ((t161 ++ (⟨#[44]⟩ : ByteArray)) ++ t162)).size + 1 ≤ 9223372036854775807
           ·rw [if_pos c53] at H
            have c53b0 := eq_true c53
            have c53b1 : decide (((⟨#[123]⟩ : ByteArray) ++ ((t161 ++ (⟨#[44]⟩ : ByteArray)) ++ t162)).size + 1 ≤ 9223372036854775807) = true := decide_eq_true c53
            try have c53b2 : (9223372036854775807 < ((⟨#[123]⟩ : ByteArray) ++ ((t161 ++ (⟨#[44]⟩ : ByteArray)) ++ t162)).size + 1) = False := eq_false (Nat.not_lt.2 c53)
            try have c53b3 : (9223372036854775807 < 1 + (t161.size + 1 + t162.size) + 1) = False := eq_false (by have h_ := c53; simp only [ByteArray.size_append] at h_; have l0_ : (⟨#[123]⟩ : ByteArray).size = 1 := rfl; have l1_ : (⟨#[44]⟩ : ByteArray).size = 1 := rfl; omega)
            obtain rfl := Option.some.inj H
            go_enter Tryd.func17, Tryd.ntmps17
            try go_wp2_with (first | ((with_reducible refine gate_dst (N := 2) rfl ?_); refine box_event ?hg (N := 2) ?hd (cs := #[.slice A0_0 l0_0.length c0_0]) (t := 29) ?hr ?_; (case hd => rfl); (case hg => rfl); (case hr => first | (go_simp; done) | (go_simp; rfl)); intro gb155 hg w54 hbox hb; have n0_ := Aside0.mk (below_step (zb HB.out) hb); have n1_ := Aside0.mk (hbox); have n2_ := Aside0.mk ((by rw [hg]; exact (below_size (zb HB.out)) : w.heap.size ≤ gb155)); have n3_ := Aside0.mk ((by rw [hg]; exact (below_size (zb HB.out)) : w.heap.size ≤ gb155)); clear HB; have HB := n0_; have BK155 := n1_; have GW155 := n2_; have GE155 := n3_; clear n0_ n1_ n2_ n3_; clear hb hbox hg; have hcz55_0 : w54.cell? ⟨gb155, 0, none⟩ = some (.slice A0_0 l0_0.length c0_0) := (blk_cell BK155.out 0).trans rfl; have hfz55_0 := blk_frozen BK155.out 0; have p156 : 0 ≤ (a1 : Int) := of_decide_eq_true (by first | (with_reducible assumption) | assumption); have q156 : a1 < (l0_0.length : Int) := of_decide_eq_true (by first | (with_reducible assumption) | assumption); obtain ⟨ad156, e156, hx156_0, hx156_1, hx156_2⟩ := at_T51 HR0_0.out a1 p156 q156; cases e156; replace hx156_0 := (HB.out.cell (World.block_lt_of_cell? w _ hx156_0)).trans hx156_0; replace hx156_1 := (HB.out.cell (World.block_lt_of_cell? w _ hx156_1)).trans hx156_1; replace hx156_2 := (HB.out.cell (World.block_lt_of_cell? w _ hx156_2)).trans hx156_2; replace p156 := eq_true p156; replace q156 := eq_true q156) | ((with_reducible refine gate_dst (N := 5) rfl ?_); refine box_event ?hg (N := 5) ?hd (cs := #[.int .i64 0, .int .i64 0, .int .i64 0]) (t := 51) ?hr ?_; (case hd => rfl); (case hg => rfl); (case hr => first | (go_simp; done) | (go_simp; rfl)); intro gb157 hg w56 hbox hb; have n0_ := Aside0.mk (blk_below (zh BK155.out) hb); have n1_ := Aside0.mk (below_step (zb HB.out) hb); have n2_ := Aside0.mk (hbox); have n3_ := Aside0.mk ((by rw [hg]; exact (below_size (zb HB.out)) : w.heap.size ≤ gb157)); have n4_ := Aside0.mk ((by rw [hg]; exact (below_size (zb HB.out)) : w.heap.size ≤ gb157)); have n5_ := Aside0.mk ((by rw [hg]; exact Nat.ne_of_lt (blk_lt (zh BK155.out)) : gb155 ≠ gb157)); have n6_ := Aside0.mk ((by rw [hg]; exact Nat.ne_of_gt (blk_lt (zh BK155.out)) : gb157 ≠ gb155)); clear BK155; clear HB; have BK155 := n0_; have HB := n1_; have BK157 := n2_; have GW157 := n3_; have GE157 := n4_; have NB155_157 := n5_; have NB157_155 := n6_; clear n0_ n1_ n2_ n3_ n4_ n5_ n6_; clear hb hbox hg; have hnb57 := NB157_155.out; have hnc57 := NB155_157.out; have hcz58_0 : w56.cell? ⟨gb157, 0, none⟩ = some (.int .i64 0) := (blk_cell BK157.out 0).trans rfl; have hcz58_1 : w56.cell? ⟨gb157, 1, none⟩ = some (.int .i64 0) := (blk_cell BK157.out 1).trans rfl; have hcz58_2 : w56.cell? ⟨gb157, 2, none⟩ = some (.int .i64 0) := (blk_cell BK157.out 2).trans rfl; have hfz58_0 := blk_frozen BK157.out 0; have hfz58_1 := blk_frozen BK157.out 1; have hfz58_2 := blk_frozen BK157.out 2))
            have n0_ : Aside0 ((((w56.setCell ⟨gb157, 0, none⟩ (.int .i64 ((rd_T51 l0_0 a1).f0))).setCell ⟨gb157, 1, none⟩ (.int .i64 ((rd_T51 l0_0 a1).f1))).setCell ⟨gb157, 2, none⟩ (.int .i64 ((rd_T51 l0_0 a1).f2))).heap[gb155]? = some (.cells #[.slice (some ad156) l0_0.length c0_0] 29 (0, 0))) := ⟨zf BK155.out⟩
            have n1_ : Aside0 ((((w56.setCell ⟨gb157, 0, none⟩ (.int .i64 ((rd_T51 l0_0 a1).f0))).setCell ⟨gb157, 1, none⟩ (.int .i64 ((rd_T51 l0_0 a1).f1))).setCell ⟨gb157, 2, none⟩ (.int .i64 ((rd_T51 l0_0 a1).f2))).heap[gb157]? = some (.cells #[.int .i64 ((rd_T51 l0_0 a1).f0), .int .i64 ((rd_T51 l0_0 a1).f1), .int .i64 ((rd_T51 l0_0 a1).f2)] 51 (0, 0))) := ⟨by (with_reducible repeat (first | refine blk_drewN ?_ _ | refine blk_drew ?_ | refine blk_alloc ?_ _)); refine blk_put (cs := #[.int .i64 ((rd_T51 l0_0 a1).f0), .int .i64 ((rd_T51 l0_0 a1).f1), .int .i64 0]) ?_ 2 _ rfl; (with_reducible repeat (first | refine blk_drewN ?_ _ | refine blk_drew ?_ | refine blk_alloc ?_ _)); refine blk_put (cs := #[.int .i64 ((rd_T51 l0_0 a1).f0), .int .i64 0, .int .i64 0]) ?_ 1 _ rfl; (with_reducible repeat (first | refine blk_drewN ?_ _ | refine blk_drew ?_ | refine blk_alloc ?_ _)); refine blk_put (cs := #[.int .i64 0, .int .i64 0, .int .i64 0]) ?_ 0 _ rfl; (with_reducible repeat (first | refine blk_drewN ?_ _ | refine blk_drew ?_ | refine blk_alloc ?_ _)); exact BK157.out⟩
            have n2_ : Aside0 (Below w.heap.size w (((w56.setCell ⟨gb157, 0, none⟩ (.int .i64 ((rd_T51 l0_0 a1).f0))).setCell ⟨gb157, 1, none⟩ (.int .i64 ((rd_T51 l0_0 a1).f1))).setCell ⟨gb157, 2, none⟩ (.int .i64 ((rd_T51 l0_0 a1).f2)))) := ⟨zb HB.out⟩
            (try clear BK155)
            (try clear BK157)
            (try clear HB)
            generalize (((w56.setCell ⟨gb157, 0, none⟩ (.int .i64 ((rd_T51 l0_0 a1).f0))).setCell ⟨gb157, 1, none⟩ (.int .i64 ((rd_T51 l0_0 a1).f1))).setCell ⟨gb157, 2, none⟩ (.int .i64 ((rd_T51 l0_0 a1).f2))) = w59 at n0_ n1_ n2_ ⊢
            have BK155 := n0_
            have BK157 := n1_
            have HB := n2_
            clear n0_ n1_ n2_
            have n0_ := Aside0.mk (blk_drew BK155.out)
            have n1_ := Aside0.mk (blk_drew BK157.out)
            have n2_ := Aside0.mk (below_drew1 HB.out)
            clear BK155
            clear BK157
            clear HB
            have BK155 := n0_
            have BK157 := n1_
            have HB := n2_
            clear n0_ n1_ n2_
            refine start_ (n := 11) (S := fun w' => w'.cell? ⟨gb155, 0, none⟩ = some (.slice (some ad156) l0_0.length c0_0) ∧ w'.cell? ⟨gb157, 0, none⟩ = some (.int .i64 ((rd_T51 l0_0 a1).f0)) ∧ w'.cell? ⟨gb157, 1, none⟩ = some (.int .i64 ((rd_T51 l0_0 a1).f1)) ∧ w'.cell? ⟨gb157, 2, none⟩ = some (.int .i64 ((rd_T51 l0_0 a1).f2))) (ds := []) #[false, false, false, false, false, false, false, false, false, false, false] (by kernel_rfl) rfl rfl ⟨(blk_cell BK155.out 0).trans rfl, (blk_cell BK157.out 0).trans rfl, (blk_cell BK157.out 1).trans rfl, (blk_cell BK157.out 2).trans rfl⟩ (fun hHeld => ?_); refine with_tabW spec_l4Print.tab9 spec_l4Print.bits9 (fun HT_ HW_ => ?_)
            generalize w59.drew = w60 at BK155 BK157 HB hHeld ⊢
            refine pure_ (i := 1) (N := some 35) (v := ?_) (a' := ?_) #[false, true, false, false, false, false, false, false, false, false, false] rfl rfl (any_of HT_.out (by kernel_rfl)) (fun _ _ _ h => h) (Or.inl ⟨by rfl, ?_⟩) ?_ ?_
            rotate_left
            ·intro w'
             go_simp
             with_reducible rfl
            rotate_left
            ·simp only [Act.put, List.setIfInBounds_toArray, List.set_cons_zero, List.set_cons_succ, i64_w, i32_w]
             rfl
            refine pure_ (i := 6) (N := some 40) (v := ?_) (a' := ?_) #[false, true, false, false, false, false, true, false, false, false, false] rfl rfl (any_of HT_.out (by kernel_rfl)) (fun _ _ _ h => h) (Or.inl ⟨by rfl, ?_⟩) ?_ ?_
            rotate_left
            ·intro w'
             go_simp
             with_reducible rfl
            rotate_left
            ·simp only [Act.put, List.setIfInBounds_toArray, List.set_cons_zero, List.set_cons_succ, i64_w, i32_w]
             rfl
            refine take_ (i := 0) (N := some 34) (v := ?_) (a' := ?_) #[true, true, false, false, false, false, true, false, false, false, false] rfl rfl (take_ofW HT_.out HW_.out (by kernel_rfl)) (fun _ _ _ h => h) (Or.inl ⟨by rfl, ?_⟩) hHeld ?_ ?_
            rotate_left
            ·rintro w' ⟨s0, s1, s2, s3⟩
             go_simp
             with_reducible rfl
            rotate_left
            ·simp only [Act.put, List.setIfInBounds_toArray, List.set_cons_zero, List.set_cons_succ, i64_w, i32_w]
             rfl
            refine take_ (i := 2) (N := some 36) (v := ?_) (a' := ?_) #[true, true, true, false, false, false, true, false, false, false, false] rfl rfl (take_ofW HT_.out HW_.out (by kernel_rfl)) (fun _ _ _ h => h) (Or.inl ⟨by rfl, ?_⟩) hHeld ?_ ?_
            rotate_left
            ·rintro w' ⟨s0, s1, s2, s3⟩
             go_simp
             with_reducible rfl
            rotate_left
            ·simp only [Act.put, List.setIfInBounds_toArray, List.set_cons_zero, List.set_cons_succ, i64_w, i32_w]
             rfl
            refine take_ (i := 5) (N := some 39) (v := ?_) (a' := ?_) #[true, true, true, false, false, true, true, false, false, false, false] rfl rfl (take_ofW HT_.out HW_.out (by kernel_rfl)) (fun _ _ _ h => h) (Or.inl ⟨by rfl, ?_⟩) hHeld ?_ ?_
            rotate_left
            ·rintro w' ⟨s0, s1, s2, s3⟩
             go_simp
             with_reducible rfl
            rotate_left
            ·simp only [Act.put, List.setIfInBounds_toArray, List.set_cons_zero, List.set_cons_succ, i64_w, i32_w]
             rfl
            refine take_ (i := 7) (N := some 41) (v := ?_) (a' := ?_) #[true, true, true, false, false, true, true, true, false, false, false] rfl rfl (take_ofW HT_.out HW_.out (by kernel_rfl)) (fun _ _ _ h => h) (Or.inl ⟨by rfl, ?_⟩) hHeld ?_ ?_
            rotate_left
            ·rintro w' ⟨s0, s1, s2, s3⟩
             go_simp
             with_reducible rfl
            rotate_left
            ·simp only [Act.put, List.setIfInBounds_toArray, List.set_cons_zero, List.set_cons_succ, i64_w, i32_w]
             rfl
            refine one_ (i := 3) (N := some 37) #[true, true, true, true, false, true, true, true, false, false, false] rfl rfl (one_of HT_.out (by kernel_rfl)) (by decide) (fun K hK => ?_)
            refine goes_ Tryd.func17 (by kernel_rfl) rfl #[.agg #[.slice (some ad156) l0_0.length c0_0], .int .i64 ((rd_T51 l0_0 a1).f1)] (by rfl) rfl rfl zl ?_
            with_reducible refine (ih k (by omega) _ _ l0_0 ((rd_T51 l0_0 a1).f1) t161 _ ?side1 ?side2 A34.out).mono ?_
            (case side1 => exact zc (Kd.C_below HR0_0.out HB.out))
            (case side2 => exact HC0_0.out)
            rintro e w61 ⟨rfl, hb⟩
            refine ⟨_, rfl, ?_⟩
            have n0_ := Aside0.mk (blk_below (zh BK155.out) hb)
            have n1_ := Aside0.mk (blk_below (zh BK157.out) hb)
            have n2_ := Aside0.mk (below_step (zb HB.out) hb)
            clear BK155
            clear BK157
            clear HB
            have BK155 := n0_
            have BK157 := n1_
            have HB := n2_
            clear n0_ n1_ n2_
            (try clear hb)
            (try clear hb2)
            (try clear hk)
            (try clear hi)
            refine hK.out _ _ ⟨(blk_cell BK155.out 0).trans rfl, (blk_cell BK157.out 0).trans rfl, (blk_cell BK157.out 1).trans rfl, (blk_cell BK157.out 2).trans rfl⟩ (fun hHeld => ?_)
            clear hK K
            refine norm_ (a' := ?_) ?_ ?_
            rotate_left
            ·show Act.put _ (some 37) _ = _
             simp only [Act.put, List.setIfInBounds_toArray, List.set_cons_zero, List.set_cons_succ, i64_w, i32_w]
             rfl
            refine pure_ (i := 4) (N := some 38) (v := ?_) (a' := ?_) #[true, true, true, true, true, true, true, true, false, false, false] rfl rfl (any_of HT_.out (by kernel_rfl)) (fun _ _ _ h => h) (Or.inl ⟨by rfl, ?_⟩) ?_ ?_
            rotate_left
            ·intro w'
             go_simp
             with_reducible rfl
            rotate_left
            ·simp only [Act.put, List.setIfInBounds_toArray, List.set_cons_zero, List.set_cons_succ, i64_w, i32_w]
             rfl
            refine one_ (i := 8) (N := some 42) #[true, true, true, true, true, true, true, true, true, false, false] rfl rfl (one_of HT_.out (by kernel_rfl)) (by decide) (fun K hK => ?_)
            refine goes_ Tryd.func17 (by kernel_rfl) rfl #[.agg #[.slice (some ad156) l0_0.length c0_0], .int .i64 ((rd_T51 l0_0 a1).f2)] (by rfl) rfl rfl zl ?_
            with_reducible refine (ih k (by omega) _ _ l0_0 ((rd_T51 l0_0 a1).f2) t162 _ ?side1 ?side2 A36.out).mono ?_
            (case side1 => exact zc (Kd.C_below HR0_0.out HB.out))
            (case side2 => exact HC0_0.out)
            rintro e w62 ⟨rfl, hb⟩
            refine ⟨_, rfl, ?_⟩
            have n0_ := Aside0.mk (blk_below (zh BK155.out) hb)
            have n1_ := Aside0.mk (blk_below (zh BK157.out) hb)
            have n2_ := Aside0.mk (below_step (zb HB.out) hb)
            clear BK155
            clear BK157
            clear HB
            have BK155 := n0_
            have BK157 := n1_
            have HB := n2_
            clear n0_ n1_ n2_
            (try clear hb)
            (try clear hb2)
            (try clear hk)
            (try clear hi)
            refine hK.out _ _ ⟨(blk_cell BK155.out 0).trans rfl, (blk_cell BK157.out 0).trans rfl, (blk_cell BK157.out 1).trans rfl, (blk_cell BK157.out 2).trans rfl⟩ (fun hHeld => ?_)
            clear hK K
            refine norm_ (a' := ?_) ?_ ?_
            rotate_left
            ·show Act.put _ (some 42) _ = _
             simp only [Act.put, List.setIfInBounds_toArray, List.set_cons_zero, List.set_cons_succ, i64_w, i32_w]
             rfl
            refine pure_ (i := 9) (N := some 43) (v := ?_) (a' := ?_) #[true, true, true, true, true, true, true, true, true, true, false] rfl rfl (any_of HT_.out (by kernel_rfl)) (fun _ _ _ h => h) (Or.inl ⟨by rfl, ?_⟩) ?_ ?_
            rotate_left
            ·intro w'
             go_simp
             with_reducible rfl
            rotate_left
            ·simp only [Act.put, List.setIfInBounds_toArray, List.set_cons_zero, List.set_cons_succ, i64_w, i32_w]
             rfl
            refine pure_ (i := 10) (N := some 6) (v := ?_) (a' := ?_) #[true, true, true, true, true, true, true, true, true, true, true] rfl rfl (any_of HT_.out (by kernel_rfl)) (fun _ _ _ h => h) (Or.inl ⟨by rfl, ?_⟩) ?_ ?_
            rotate_left
            ·intro w'
             go_simp
             with_reducible rfl
            rotate_left
            ·simp only [Act.put, List.setIfInBounds_toArray, List.set_cons_zero, List.set_cons_succ, i64_w, i32_w]
             rfl
            refine done_ (done_of HT_.out (by kernel_rfl)) ?_
            have hcz63_0 : w62.cell? ⟨gb157, 0, none⟩ = some (.int .i64 ((rd_T51 l0_0 a1).f0)) := (blk_cell BK157.out 0).trans rfl
            have hcz63_1 : w62.cell? ⟨gb157, 1, none⟩ = some (.int .i64 ((rd_T51 l0_0 a1).f1)) := (blk_cell BK157.out 1).trans rfl
            have hcz63_2 : w62.cell? ⟨gb157, 2, none⟩ = some (.int .i64 ((rd_T51 l0_0 a1).f2)) := (blk_cell BK157.out 2).trans rfl
            have hfz63_0 := blk_frozen BK157.out 0
            have hfz63_1 := blk_frozen BK157.out 1
            have hfz63_2 := blk_frozen BK157.out 2
            try go_wp2
            go_ret
            exact ⟨ze, zb HB.out⟩
           ·rw [if_neg c53] at H
            exact absurd H (by simp)
          ·rw [if_neg c52] at H
           exact absurd H (by simp)
         ·rw [if_neg c51] at H
          have c51b0 : (((rd_T51 l0_0 a1).f0) == 3) = false := beq_eq_false_iff_ne.mpr c51
          have c51b1 : (((rd_T51 l0_0 a1).f0) != 3) = true := bne_iff_ne.mpr c51
          by_cases c64 : ((rd_T51 l0_0 a1).f0) = 4
          ·rw [if_pos c64] at H
           have c64b0 : (((rd_T51 l0_0 a1).f0) == 4) = true := beq_iff_eq.mpr c64
           have c64b1 : (((rd_T51 l0_0 a1).f0) != 4) = false := bne_eq_false_iff_eq.mpr c64
           clear c64
           by_cases c65 : 1 + ((t161 ++ (⟨#[44]⟩ : ByteArray)) ++ t162).size ≤ 9223372036854775807
           ·rw [if_pos c65] at H
            have c65b0 := eq_true c65
            have c65b1 : decide (1 + ((t161 ++ (⟨#[44]⟩ : ByteArray)) ++ t162).size ≤ 9223372036854775807) = true := decide_eq_true c65
            try have c65b2 : (9223372036854775807 < 1 + ((t161 ++ (⟨#[44]⟩ : ByteArray)) ++ t162).size) = False := eq_false (Nat.not_lt.2 c65)
            try have c65b3 : (9223372036854775807 < 1 + (t161.size + 1 + t162.size)) = False := eq_false (by have h_ := c65; simp only [ByteArray.size_append] at h_; have l0_ : (⟨#[44]⟩ : ByteArray).size = 1 := rfl; omega)
            by_cases c66 : ((⟨#[91]⟩ : ByteArray) ++ ((t161 ++ (⟨#[44]⟩ : ByteArray)) ++ t162)).size + 1 ≤ 9223372036854775807
            ·rw [if_pos c66] at H
             have c66b0 := eq_true c66
             have c66b1 : decide (((⟨#[91]⟩ : ByteArray) ++ ((t161 ++ (⟨#[44]⟩ : ByteArray)) ++ t162)).size + 1 ≤ 9223372036854775807) = true := decide_eq_true c66
             try have c66b2 : (9223372036854775807 < ((⟨#[91]⟩ : ByteArray) ++ ((t161 ++ (⟨#[44]⟩ : ByteArray)) ++ t162)).size + 1) = False := eq_false (Nat.not_lt.2 c66)
             try have c66b3 : (9223372036854775807 < 1 + (t161.size + 1 + t162.size) + 1) = False := eq_false (by have h_ := c66; simp only [ByteArray.size_append] at h_; have l0_ : (⟨#[44]⟩ : ByteArray).size = 1 := rfl; have l1_ : (⟨#[91]⟩ : ByteArray).size = 1 := rfl; omega)
             obtain rfl := Option.some.inj H
             go_enter Tryd.func17, Tryd.ntmps17
             try go_wp2_with (first | ((with_reducible refine gate_dst (N := 2) rfl ?_); refine box_event ?hg (N := 2) ?hd (cs := #[.slice A0_0 l0_0.length c0_0]) (t := 29) ?hr ?_; (case hd => rfl); (case hg => rfl); (case hr => first | (go_simp; done) | (go_simp; rfl)); intro gb155 hg w67 hbox hb; have n0_ := Aside0.mk (below_step (zb HB.out) hb); have n1_ := Aside0.mk (hbox); have n2_ := Aside0.mk ((by rw [hg]; exact (below_size (zb HB.out)) : w.heap.size ≤ gb155)); have n3_ := Aside0.mk ((by rw [hg]; exact (below_size (zb HB.out)) : w.heap.size ≤ gb155)); clear HB; have HB := n0_; have BK155 := n1_; have GW155 := n2_; have GE155 := n3_; clear n0_ n1_ n2_ n3_; clear hb hbox hg; have hcz68_0 : w67.cell? ⟨gb155, 0, none⟩ = some (.slice A0_0 l0_0.length c0_0) := (blk_cell BK155.out 0).trans rfl; have hfz68_0 := blk_frozen BK155.out 0; have p156 : 0 ≤ (a1 : Int) := of_decide_eq_true (by first | (with_reducible assumption) | assumption); have q156 : a1 < (l0_0.length : Int) := of_decide_eq_true (by first | (with_reducible assumption) | assumption); obtain ⟨ad156, e156, hx156_0, hx156_1, hx156_2⟩ := at_T51 HR0_0.out a1 p156 q156; cases e156; replace hx156_0 := (HB.out.cell (World.block_lt_of_cell? w _ hx156_0)).trans hx156_0; replace hx156_1 := (HB.out.cell (World.block_lt_of_cell? w _ hx156_1)).trans hx156_1; replace hx156_2 := (HB.out.cell (World.block_lt_of_cell? w _ hx156_2)).trans hx156_2; replace p156 := eq_true p156; replace q156 := eq_true q156) | ((with_reducible refine gate_dst (N := 5) rfl ?_); refine box_event ?hg (N := 5) ?hd (cs := #[.int .i64 0, .int .i64 0, .int .i64 0]) (t := 51) ?hr ?_; (case hd => rfl); (case hg => rfl); (case hr => first | (go_simp; done) | (go_simp; rfl)); intro gb157 hg w69 hbox hb; have n0_ := Aside0.mk (blk_below (zh BK155.out) hb); have n1_ := Aside0.mk (below_step (zb HB.out) hb); have n2_ := Aside0.mk (hbox); have n3_ := Aside0.mk ((by rw [hg]; exact (below_size (zb HB.out)) : w.heap.size ≤ gb157)); have n4_ := Aside0.mk ((by rw [hg]; exact (below_size (zb HB.out)) : w.heap.size ≤ gb157)); have n5_ := Aside0.mk ((by rw [hg]; exact Nat.ne_of_lt (blk_lt (zh BK155.out)) : gb155 ≠ gb157)); have n6_ := Aside0.mk ((by rw [hg]; exact Nat.ne_of_gt (blk_lt (zh BK155.out)) : gb157 ≠ gb155)); clear BK155; clear HB; have BK155 := n0_; have HB := n1_; have BK157 := n2_; have GW157 := n3_; have GE157 := n4_; have NB155_157 := n5_; have NB157_155 := n6_; clear n0_ n1_ n2_ n3_ n4_ n5_ n6_; clear hb hbox hg; have hnb70 := NB157_155.out; have hnc70 := NB155_157.out; have hcz71_0 : w69.cell? ⟨gb157, 0, none⟩ = some (.int .i64 0) := (blk_cell BK157.out 0).trans rfl; have hcz71_1 : w69.cell? ⟨gb157, 1, none⟩ = some (.int .i64 0) := (blk_cell BK157.out 1).trans rfl; have hcz71_2 : w69.cell? ⟨gb157, 2, none⟩ = some (.int .i64 0) := (blk_cell BK157.out 2).trans rfl; have hfz71_0 := blk_frozen BK157.out 0; have hfz71_1 := blk_frozen BK157.out 1; have hfz71_2 := blk_frozen BK157.out 2))
             have n0_ : Aside0 ((((w69.setCell ⟨gb157, 0, none⟩ (.int .i64 ((rd_T51 l0_0 a1).f0))).setCell ⟨gb157, 1, none⟩ (.int .i64 ((rd_T51 l0_0 a1).f1))).setCell ⟨gb157, 2, none⟩ (.int .i64 ((rd_T51 l0_0 a1).f2))).heap[gb155]? = some (.cells #[.slice (some ad156) l0_0.length c0_0] 29 (0, 0))) := ⟨zf BK155.out⟩
             have n1_ : Aside0 ((((w69.setCell ⟨gb157, 0, none⟩ (.int .i64 ((rd_T51 l0_0 a1).f0))).setCell ⟨gb157, 1, none⟩ (.int .i64 ((rd_T51 l0_0 a1).f1))).setCell ⟨gb157, 2, none⟩ (.int .i64 ((rd_T51 l0_0 a1).f2))).heap[gb157]? = some (.cells #[.int .i64 ((rd_T51 l0_0 a1).f0), .int .i64 ((rd_T51 l0_0 a1).f1), .int .i64 ((rd_T51 l0_0 a1).f2)] 51 (0, 0))) := ⟨by (with_reducible repeat (first | refine blk_drewN ?_ _ | refine blk_drew ?_ | refine blk_alloc ?_ _)); refine blk_put (cs := #[.int .i64 ((rd_T51 l0_0 a1).f0), .int .i64 ((rd_T51 l0_0 a1).f1), .int .i64 0]) ?_ 2 _ rfl; (with_reducible repeat (first | refine blk_drewN ?_ _ | refine blk_drew ?_ | refine blk_alloc ?_ _)); refine blk_put (cs := #[.int .i64 ((rd_T51 l0_0 a1).f0), .int .i64 0, .int .i64 0]) ?_ 1 _ rfl; (with_reducible repeat (first | refine blk_drewN ?_ _ | refine blk_drew ?_ | refine blk_alloc ?_ _)); refine blk_put (cs := #[.int .i64 0, .int .i64 0, .int .i64 0]) ?_ 0 _ rfl; (with_reducible repeat (first | refine blk_drewN ?_ _ | refine blk_drew ?_ | refine blk_alloc ?_ _)); exact BK157.out⟩
             have n2_ : Aside0 (Below w.heap.size w (((w69.setCell ⟨gb157, 0, none⟩ (.int .i64 ((rd_T51 l0_0 a1).f0))).setCell ⟨gb157, 1, none⟩ (.int .i64 ((rd_T51 l0_0 a1).f1))).setCell ⟨gb157, 2, none⟩ (.int .i64 ((rd_T51 l0_0 a1).f2)))) := ⟨zb HB.out⟩
             (try clear BK155)
             (try clear BK157)
             (try clear HB)
             generalize (((w69.setCell ⟨gb157, 0, none⟩ (.int .i64 ((rd_T51 l0_0 a1).f0))).setCell ⟨gb157, 1, none⟩ (.int .i64 ((rd_T51 l0_0 a1).f1))).setCell ⟨gb157, 2, none⟩ (.int .i64 ((rd_T51 l0_0 a1).f2))) = w72 at n0_ n1_ n2_ ⊢
             have BK155 := n0_
             have BK157 := n1_
             have HB := n2_
             clear n0_ n1_ n2_
             have n0_ := Aside0.mk (blk_drew BK155.out)
             have n1_ := Aside0.mk (blk_drew BK157.out)
             have n2_ := Aside0.mk (below_drew1 HB.out)
             clear BK155
             clear BK157
             clear HB
             have BK155 := n0_
             have BK157 := n1_
             have HB := n2_
             clear n0_ n1_ n2_
             refine start_ (n := 11) (S := fun w' => w'.cell? ⟨gb155, 0, none⟩ = some (.slice (some ad156) l0_0.length c0_0) ∧ w'.cell? ⟨gb157, 0, none⟩ = some (.int .i64 ((rd_T51 l0_0 a1).f0)) ∧ w'.cell? ⟨gb157, 1, none⟩ = some (.int .i64 ((rd_T51 l0_0 a1).f1)) ∧ w'.cell? ⟨gb157, 2, none⟩ = some (.int .i64 ((rd_T51 l0_0 a1).f2))) (ds := []) #[false, false, false, false, false, false, false, false, false, false, false] (by kernel_rfl) rfl rfl ⟨(blk_cell BK155.out 0).trans rfl, (blk_cell BK157.out 0).trans rfl, (blk_cell BK157.out 1).trans rfl, (blk_cell BK157.out 2).trans rfl⟩ (fun hHeld => ?_); refine with_tabW spec_l4Print.tab9 spec_l4Print.bits9 (fun HT_ HW_ => ?_)
             generalize w72.drew = w73 at BK155 BK157 HB hHeld ⊢
             refine pure_ (i := 1) (N := some 35) (v := ?_) (a' := ?_) #[false, true, false, false, false, false, false, false, false, false, false] rfl rfl (any_of HT_.out (by kernel_rfl)) (fun _ _ _ h => h) (Or.inl ⟨by rfl, ?_⟩) ?_ ?_
             rotate_left
             ·intro w'
              go_simp
              with_reducible rfl
             rotate_left
             ·simp only [Act.put, List.setIfInBounds_toArray, List.set_cons_zero, List.set_cons_succ, i64_w, i32_w]
              rfl
             refine pure_ (i := 6) (N := some 40) (v := ?_) (a' := ?_) #[false, true, false, false, false, false, true, false, false, false, false] rfl rfl (any_of HT_.out (by kernel_rfl)) (fun _ _ _ h => h) (Or.inl ⟨by rfl, ?_⟩) ?_ ?_
             rotate_left
             ·intro w'
              go_simp
              with_reducible rfl
             rotate_left
             ·simp only [Act.put, List.setIfInBounds_toArray, List.set_cons_zero, List.set_cons_succ, i64_w, i32_w]
              rfl
             refine take_ (i := 0) (N := some 34) (v := ?_) (a' := ?_) #[true, true, false, false, false, false, true, false, false, false, false] rfl rfl (take_ofW HT_.out HW_.out (by kernel_rfl)) (fun _ _ _ h => h) (Or.inl ⟨by rfl, ?_⟩) hHeld ?_ ?_
             rotate_left
             ·rintro w' ⟨s0, s1, s2, s3⟩
              go_simp
              with_reducible rfl
             rotate_left
             ·simp only [Act.put, List.setIfInBounds_toArray, List.set_cons_zero, List.set_cons_succ, i64_w, i32_w]
              rfl
             refine take_ (i := 2) (N := some 36) (v := ?_) (a' := ?_) #[true, true, true, false, false, false, true, false, false, false, false] rfl rfl (take_ofW HT_.out HW_.out (by kernel_rfl)) (fun _ _ _ h => h) (Or.inl ⟨by rfl, ?_⟩) hHeld ?_ ?_
             rotate_left
             ·rintro w' ⟨s0, s1, s2, s3⟩
              go_simp
              with_reducible rfl
             rotate_left
             ·simp only [Act.put, List.setIfInBounds_toArray, List.set_cons_zero, List.set_cons_succ, i64_w, i32_w]
              rfl
             refine take_ (i := 5) (N := some 39) (v := ?_) (a' := ?_) #[true, true, true, false, false, true, true, false, false, false, false] rfl rfl (take_ofW HT_.out HW_.out (by kernel_rfl)) (fun _ _ _ h => h) (Or.inl ⟨by rfl, ?_⟩) hHeld ?_ ?_
             rotate_left
             ·rintro w' ⟨s0, s1, s2, s3⟩
              go_simp
              with_reducible rfl
             rotate_left
             ·simp only [Act.put, List.setIfInBounds_toArray, List.set_cons_zero, List.set_cons_succ, i64_w, i32_w]
              rfl
             refine take_ (i := 7) (N := some 41) (v := ?_) (a' := ?_) #[true, true, true, false, false, true, true, true, false, false, false] rfl rfl (take_ofW HT_.out HW_.out (by kernel_rfl)) (fun _ _ _ h => h) (Or.inl ⟨by rfl, ?_⟩) hHeld ?_ ?_
             rotate_left
             ·rintro w' ⟨s0, s1, s2, s3⟩
              go_simp
              with_reducible rfl
             rotate_left
             ·simp only [Act.put, List.setIfInBounds_toArray, List.set_cons_zero, List.set_cons_succ, i64_w, i32_w]
              rfl
             refine one_ (i := 3) (N := some 37) #[true, true, true, true, false, true, true, true, false, false, false] rfl rfl (one_of HT_.out (by kernel_rfl)) (by decide) (fun K hK => ?_)
             refine goes_ Tryd.func17 (by kernel_rfl) rfl #[.agg #[.slice (some ad156) l0_0.length c0_0], .int .i64 ((rd_T51 l0_0 a1).f1)] (by rfl) rfl rfl zl ?_
             with_reducible refine (ih k (by omega) _ _ l0_0 ((rd_T51 l0_0 a1).f1) t161 _ ?side1 ?side2 A34.out).mono ?_
             (case side1 => exact zc (Kd.C_below HR0_0.out HB.out))
             (case side2 => exact HC0_0.out)
             rintro e w74 ⟨rfl, hb⟩
             refine ⟨_, rfl, ?_⟩
             have n0_ := Aside0.mk (blk_below (zh BK155.out) hb)
             have n1_ := Aside0.mk (blk_below (zh BK157.out) hb)
             have n2_ := Aside0.mk (below_step (zb HB.out) hb)
             clear BK155
             clear BK157
             clear HB
             have BK155 := n0_
             have BK157 := n1_
             have HB := n2_
             clear n0_ n1_ n2_
             (try clear hb)
             (try clear hb2)
             (try clear hk)
             (try clear hi)
             refine hK.out _ _ ⟨(blk_cell BK155.out 0).trans rfl, (blk_cell BK157.out 0).trans rfl, (blk_cell BK157.out 1).trans rfl, (blk_cell BK157.out 2).trans rfl⟩ (fun hHeld => ?_)
             clear hK K
             refine norm_ (a' := ?_) ?_ ?_
             rotate_left
             ·show Act.put _ (some 37) _ = _
              simp only [Act.put, List.setIfInBounds_toArray, List.set_cons_zero, List.set_cons_succ, i64_w, i32_w]
              rfl
             refine pure_ (i := 4) (N := some 38) (v := ?_) (a' := ?_) #[true, true, true, true, true, true, true, true, false, false, false] rfl rfl (any_of HT_.out (by kernel_rfl)) (fun _ _ _ h => h) (Or.inl ⟨by rfl, ?_⟩) ?_ ?_
             rotate_left
             ·intro w'
              go_simp
              with_reducible rfl
             rotate_left
             ·simp only [Act.put, List.setIfInBounds_toArray, List.set_cons_zero, List.set_cons_succ, i64_w, i32_w]
              rfl
             refine one_ (i := 8) (N := some 42) #[true, true, true, true, true, true, true, true, true, false, false] rfl rfl (one_of HT_.out (by kernel_rfl)) (by decide) (fun K hK => ?_)
             refine goes_ Tryd.func17 (by kernel_rfl) rfl #[.agg #[.slice (some ad156) l0_0.length c0_0], .int .i64 ((rd_T51 l0_0 a1).f2)] (by rfl) rfl rfl zl ?_
             with_reducible refine (ih k (by omega) _ _ l0_0 ((rd_T51 l0_0 a1).f2) t162 _ ?side1 ?side2 A36.out).mono ?_
             (case side1 => exact zc (Kd.C_below HR0_0.out HB.out))
             (case side2 => exact HC0_0.out)
             rintro e w75 ⟨rfl, hb⟩
             refine ⟨_, rfl, ?_⟩
             have n0_ := Aside0.mk (blk_below (zh BK155.out) hb)
             have n1_ := Aside0.mk (blk_below (zh BK157.out) hb)
             have n2_ := Aside0.mk (below_step (zb HB.out) hb)
             clear BK155
             clear BK157
             clear HB
             have BK155 := n0_
             have BK157 := n1_
             have HB := n2_
             clear n0_ n1_ n2_
             (try clear hb)
             (try clear hb2)
             (try clear hk)
             (try clear hi)
             refine hK.out _ _ ⟨(blk_cell BK155.out 0).trans rfl, (blk_cell BK157.out 0).trans rfl, (blk_cell BK157.out 1).trans rfl, (blk_cell BK157.out 2).trans rfl⟩ (fun hHeld => ?_)
             clear hK K
             refine norm_ (a' := ?_) ?_ ?_
             rotate_left
             ·show Act.put _ (some 42) _ = _
              simp only [Act.put, List.setIfInBounds_toArray, List.set_cons_zero, List.set_cons_succ, i64_w, i32_w]
              rfl
             refine pure_ (i := 9) (N := some 43) (v := ?_) (a' := ?_) #[true, true, true, true, true, true, true, true, true, true, false] rfl rfl (any_of HT_.out (by kernel_rfl)) (fun _ _ _ h => h) (Or.inl ⟨by rfl, ?_⟩) ?_ ?_
             rotate_left
             ·intro w'
              go_simp
              with_reducible rfl
             rotate_left
             ·simp only [Act.put, List.setIfInBounds_toArray, List.set_cons_zero, List.set_cons_succ, i64_w, i32_w]
              rfl
             refine pure_ (i := 10) (N := some 6) (v := ?_) (a' := ?_) #[true, true, true, true, true, true, true, true, true, true, true] rfl rfl (any_of HT_.out (by kernel_rfl)) (fun _ _ _ h => h) (Or.inl ⟨by rfl, ?_⟩) ?_ ?_
             rotate_left
             ·intro w'
              go_simp
              with_reducible rfl
             rotate_left
             ·simp only [Act.put, List.setIfInBounds_toArray, List.set_cons_zero, List.set_cons_succ, i64_w, i32_w]
              rfl
             refine done_ (done_of HT_.out (by kernel_rfl)) ?_
             have hcz76_0 : w75.cell? ⟨gb157, 0, none⟩ = some (.int .i64 ((rd_T51 l0_0 a1).f0)) := (blk_cell BK157.out 0).trans rfl
             have hcz76_1 : w75.cell? ⟨gb157, 1, none⟩ = some (.int .i64 ((rd_T51 l0_0 a1).f1)) := (blk_cell BK157.out 1).trans rfl
             have hcz76_2 : w75.cell? ⟨gb157, 2, none⟩ = some (.int .i64 ((rd_T51 l0_0 a1).f2)) := (blk_cell BK157.out 2).trans rfl
             have hfz76_0 := blk_frozen BK157.out 0
             have hfz76_1 := blk_frozen BK157.out 1
             have hfz76_2 := blk_frozen BK157.out 2
             try go_wp2
             go_ret
             exact ⟨ze, zb HB.out⟩
            ·rw [if_neg c66] at H
             exact absurd H (by simp)
           ·rw [if_neg c65] at H
            exact absurd H (by simp)
          ·rw [if_neg c64] at H
           have c64b0 : (((rd_T51 l0_0 a1).f0) == 4) = false := beq_eq_false_iff_ne.mpr c64
           have c64b1 : (((rd_T51 l0_0 a1).f0) != 4) = true := bne_iff_ne.mpr c64
           by_cases c77 : ((rd_T51 l0_0 a1).f0) = 6
           ·rw [if_pos c77] at H
            have c77b0 : (((rd_T51 l0_0 a1).f0) == 6) = true := beq_iff_eq.mpr c77
            have c77b1 : (((rd_T51 l0_0 a1).f0) != 6) = false := bne_eq_false_iff_eq.mpr c77
            clear c77
            by_cases c78 : 2 + ((t161 ++ (⟨#[44]⟩ : ByteArray)) ++ t162).size ≤ 9223372036854775807
            ·rw [if_pos c78] at H
             have c78b0 := eq_true c78
             have c78b1 : decide (2 + ((t161 ++ (⟨#[44]⟩ : ByteArray)) ++ t162).size ≤ 9223372036854775807) = true := decide_eq_true c78
             try have c78b2 : (9223372036854775807 < 2 + ((t161 ++ (⟨#[44]⟩ : ByteArray)) ++ t162).size) = False := eq_false (Nat.not_lt.2 c78)
             try have c78b3 : (9223372036854775807 < 2 + (t161.size + 1 + t162.size)) = False := eq_false (by have h_ := c78; simp only [ByteArray.size_append] at h_; have l0_ : (⟨#[44]⟩ : ByteArray).size = 1 := rfl; omega)
             by_cases c79 : ((⟨#[107, 40]⟩ : ByteArray) ++ ((t161 ++ (⟨#[44]⟩ : ByteArray)) ++ t162)).size + 1 ≤ 9223372036854775807
             ·rw [if_pos c79] at H
              have c79b0 := eq_true c79
              have c79b1 : decide (((⟨#[107, 40]⟩ : ByteArray) ++ ((t161 ++ (⟨#[44]⟩ : ByteArray)) ++ t162)).size + 1 ≤ 9223372036854775807) = true := decide_eq_true c79
              try have c79b2 : (9223372036854775807 < ((⟨#[107, 40]⟩ : ByteArray) ++ ((t161 ++ (⟨#[44]⟩ : ByteArray)) ++ t162)).size + 1) = False := eq_false (Nat.not_lt.2 c79)
              try have c79b3 : (9223372036854775807 < 2 + (t161.size + 1 + t162.size) + 1) = False := eq_false (by have h_ := c79; simp only [ByteArray.size_append] at h_; have l0_ : (⟨#[107, 40]⟩ : ByteArray).size = 2 := rfl; have l1_ : (⟨#[44]⟩ : ByteArray).size = 1 := rfl; omega)
              obtain rfl := Option.some.inj H
              go_enter Tryd.func17, Tryd.ntmps17
              try go_wp2_with (first | ((with_reducible refine gate_dst (N := 2) rfl ?_); refine box_event ?hg (N := 2) ?hd (cs := #[.slice A0_0 l0_0.length c0_0]) (t := 29) ?hr ?_; (case hd => rfl); (case hg => rfl); (case hr => first | (go_simp; done) | (go_simp; rfl)); intro gb155 hg w80 hbox hb; have n0_ := Aside0.mk (below_step (zb HB.out) hb); have n1_ := Aside0.mk (hbox); have n2_ := Aside0.mk ((by rw [hg]; exact (below_size (zb HB.out)) : w.heap.size ≤ gb155)); have n3_ := Aside0.mk ((by rw [hg]; exact (below_size (zb HB.out)) : w.heap.size ≤ gb155)); clear HB; have HB := n0_; have BK155 := n1_; have GW155 := n2_; have GE155 := n3_; clear n0_ n1_ n2_ n3_; clear hb hbox hg; have hcz81_0 : w80.cell? ⟨gb155, 0, none⟩ = some (.slice A0_0 l0_0.length c0_0) := (blk_cell BK155.out 0).trans rfl; have hfz81_0 := blk_frozen BK155.out 0; have p156 : 0 ≤ (a1 : Int) := of_decide_eq_true (by first | (with_reducible assumption) | assumption); have q156 : a1 < (l0_0.length : Int) := of_decide_eq_true (by first | (with_reducible assumption) | assumption); obtain ⟨ad156, e156, hx156_0, hx156_1, hx156_2⟩ := at_T51 HR0_0.out a1 p156 q156; cases e156; replace hx156_0 := (HB.out.cell (World.block_lt_of_cell? w _ hx156_0)).trans hx156_0; replace hx156_1 := (HB.out.cell (World.block_lt_of_cell? w _ hx156_1)).trans hx156_1; replace hx156_2 := (HB.out.cell (World.block_lt_of_cell? w _ hx156_2)).trans hx156_2; replace p156 := eq_true p156; replace q156 := eq_true q156) | ((with_reducible refine gate_dst (N := 5) rfl ?_); refine box_event ?hg (N := 5) ?hd (cs := #[.int .i64 0, .int .i64 0, .int .i64 0]) (t := 51) ?hr ?_; (case hd => rfl); (case hg => rfl); (case hr => first | (go_simp; done) | (go_simp; rfl)); intro gb157 hg w82 hbox hb; have n0_ := Aside0.mk (blk_below (zh BK155.out) hb); have n1_ := Aside0.mk (below_step (zb HB.out) hb); have n2_ := Aside0.mk (hbox); have n3_ := Aside0.mk ((by rw [hg]; exact (below_size (zb HB.out)) : w.heap.size ≤ gb157)); have n4_ := Aside0.mk ((by rw [hg]; exact (below_size (zb HB.out)) : w.heap.size ≤ gb157)); have n5_ := Aside0.mk ((by rw [hg]; exact Nat.ne_of_lt (blk_lt (zh BK155.out)) : gb155 ≠ gb157)); have n6_ := Aside0.mk ((by rw [hg]; exact Nat.ne_of_gt (blk_lt (zh BK155.out)) : gb157 ≠ gb155)); clear BK155; clear HB; have BK155 := n0_; have HB := n1_; have BK157 := n2_; have GW157 := n3_; have GE157 := n4_; have NB155_157 := n5_; have NB157_155 := n6_; clear n0_ n1_ n2_ n3_ n4_ n5_ n6_; clear hb hbox hg; have hnb83 := NB157_155.out; have hnc83 := NB155_157.out; have hcz84_0 : w82.cell? ⟨gb157, 0, none⟩ = some (.int .i64 0) := (blk_cell BK157.out 0).trans rfl; have hcz84_1 : w82.cell? ⟨gb157, 1, none⟩ = some (.int .i64 0) := (blk_cell BK157.out 1).trans rfl; have hcz84_2 : w82.cell? ⟨gb157, 2, none⟩ = some (.int .i64 0) := (blk_cell BK157.out 2).trans rfl; have hfz84_0 := blk_frozen BK157.out 0; have hfz84_1 := blk_frozen BK157.out 1; have hfz84_2 := blk_frozen BK157.out 2))
              have n0_ : Aside0 ((((w82.setCell ⟨gb157, 0, none⟩ (.int .i64 ((rd_T51 l0_0 a1).f0))).setCell ⟨gb157, 1, none⟩ (.int .i64 ((rd_T51 l0_0 a1).f1))).setCell ⟨gb157, 2, none⟩ (.int .i64 ((rd_T51 l0_0 a1).f2))).heap[gb155]? = some (.cells #[.slice (some ad156) l0_0.length c0_0] 29 (0, 0))) := ⟨zf BK155.out⟩
              have n1_ : Aside0 ((((w82.setCell ⟨gb157, 0, none⟩ (.int .i64 ((rd_T51 l0_0 a1).f0))).setCell ⟨gb157, 1, none⟩ (.int .i64 ((rd_T51 l0_0 a1).f1))).setCell ⟨gb157, 2, none⟩ (.int .i64 ((rd_T51 l0_0 a1).f2))).heap[gb157]? = some (.cells #[.int .i64 ((rd_T51 l0_0 a1).f0), .int .i64 ((rd_T51 l0_0 a1).f1), .int .i64 ((rd_T51 l0_0 a1).f2)] 51 (0, 0))) := ⟨by (with_reducible repeat (first | refine blk_drewN ?_ _ | refine blk_drew ?_ | refine blk_alloc ?_ _)); refine blk_put (cs := #[.int .i64 ((rd_T51 l0_0 a1).f0), .int .i64 ((rd_T51 l0_0 a1).f1), .int .i64 0]) ?_ 2 _ rfl; (with_reducible repeat (first | refine blk_drewN ?_ _ | refine blk_drew ?_ | refine blk_alloc ?_ _)); refine blk_put (cs := #[.int .i64 ((rd_T51 l0_0 a1).f0), .int .i64 0, .int .i64 0]) ?_ 1 _ rfl; (with_reducible repeat (first | refine blk_drewN ?_ _ | refine blk_drew ?_ | refine blk_alloc ?_ _)); refine blk_put (cs := #[.int .i64 0, .int .i64 0, .int .i64 0]) ?_ 0 _ rfl; (with_reducible repeat (first | refine blk_drewN ?_ _ | refine blk_drew ?_ | refine blk_alloc ?_ _)); exact BK157.out⟩
              have n2_ : Aside0 (Below w.heap.size w (((w82.setCell ⟨gb157, 0, none⟩ (.int .i64 ((rd_T51 l0_0 a1).f0))).setCell ⟨gb157, 1, none⟩ (.int .i64 ((rd_T51 l0_0 a1).f1))).setCell ⟨gb157, 2, none⟩ (.int .i64 ((rd_T51 l0_0 a1).f2)))) := ⟨zb HB.out⟩
              (try clear BK155)
              (try clear BK157)
              (try clear HB)
              generalize (((w82.setCell ⟨gb157, 0, none⟩ (.int .i64 ((rd_T51 l0_0 a1).f0))).setCell ⟨gb157, 1, none⟩ (.int .i64 ((rd_T51 l0_0 a1).f1))).setCell ⟨gb157, 2, none⟩ (.int .i64 ((rd_T51 l0_0 a1).f2))) = w85 at n0_ n1_ n2_ ⊢
              have BK155 := n0_
              have BK157 := n1_
              have HB := n2_
              clear n0_ n1_ n2_
              have n0_ := Aside0.mk (blk_drew BK155.out)
              have n1_ := Aside0.mk (blk_drew BK157.out)
              have n2_ := Aside0.mk (below_drew1 HB.out)
              clear BK155
              clear BK157
              clear HB
              have BK155 := n0_
              have BK157 := n1_
              have HB := n2_
              clear n0_ n1_ n2_
              refine start_ (n := 11) (S := fun w' => w'.cell? ⟨gb155, 0, none⟩ = some (.slice (some ad156) l0_0.length c0_0) ∧ w'.cell? ⟨gb157, 0, none⟩ = some (.int .i64 ((rd_T51 l0_0 a1).f0)) ∧ w'.cell? ⟨gb157, 1, none⟩ = some (.int .i64 ((rd_T51 l0_0 a1).f1)) ∧ w'.cell? ⟨gb157, 2, none⟩ = some (.int .i64 ((rd_T51 l0_0 a1).f2))) (ds := []) #[false, false, false, false, false, false, false, false, false, false, false] (by kernel_rfl) rfl rfl ⟨(blk_cell BK155.out 0).trans rfl, (blk_cell BK157.out 0).trans rfl, (blk_cell BK157.out 1).trans rfl, (blk_cell BK157.out 2).trans rfl⟩ (fun hHeld => ?_); refine with_tabW spec_l4Print.tab9 spec_l4Print.bits9 (fun HT_ HW_ => ?_)
              generalize w85.drew = w86 at BK155 BK157 HB hHeld ⊢
              refine pure_ (i := 1) (N := some 35) (v := ?_) (a' := ?_) #[false, true, false, false, false, false, false, false, false, false, false] rfl rfl (any_of HT_.out (by kernel_rfl)) (fun _ _ _ h => h) (Or.inl ⟨by rfl, ?_⟩) ?_ ?_
              rotate_left
              ·intro w'
               go_simp
               with_reducible rfl
              rotate_left
              ·simp only [Act.put, List.setIfInBounds_toArray, List.set_cons_zero, List.set_cons_succ, i64_w, i32_w]
               rfl
              refine pure_ (i := 6) (N := some 40) (v := ?_) (a' := ?_) #[false, true, false, false, false, false, true, false, false, false, false] rfl rfl (any_of HT_.out (by kernel_rfl)) (fun _ _ _ h => h) (Or.inl ⟨by rfl, ?_⟩) ?_ ?_
              rotate_left
              ·intro w'
               go_simp
               with_reducible rfl
              rotate_left
              ·simp only [Act.put, List.setIfInBounds_toArray, List.set_cons_zero, List.set_cons_succ, i64_w, i32_w]
               rfl
              refine take_ (i := 0) (N := some 34) (v := ?_) (a' := ?_) #[true, true, false, false, false, false, true, false, false, false, false] rfl rfl (take_ofW HT_.out HW_.out (by kernel_rfl)) (fun _ _ _ h => h) (Or.inl ⟨by rfl, ?_⟩) hHeld ?_ ?_
              rotate_left
              ·rintro w' ⟨s0, s1, s2, s3⟩
               go_simp
               with_reducible rfl
              rotate_left
              ·simp only [Act.put, List.setIfInBounds_toArray, List.set_cons_zero, List.set_cons_succ, i64_w, i32_w]
               rfl
              refine take_ (i := 2) (N := some 36) (v := ?_) (a' := ?_) #[true, true, true, false, false, false, true, false, false, false, false] rfl rfl (take_ofW HT_.out HW_.out (by kernel_rfl)) (fun _ _ _ h => h) (Or.inl ⟨by rfl, ?_⟩) hHeld ?_ ?_
              rotate_left
              ·rintro w' ⟨s0, s1, s2, s3⟩
               go_simp
               with_reducible rfl
              rotate_left
              ·simp only [Act.put, List.setIfInBounds_toArray, List.set_cons_zero, List.set_cons_succ, i64_w, i32_w]
               rfl
              refine take_ (i := 5) (N := some 39) (v := ?_) (a' := ?_) #[true, true, true, false, false, true, true, false, false, false, false] rfl rfl (take_ofW HT_.out HW_.out (by kernel_rfl)) (fun _ _ _ h => h) (Or.inl ⟨by rfl, ?_⟩) hHeld ?_ ?_
              rotate_left
              ·rintro w' ⟨s0, s1, s2, s3⟩
               go_simp
               with_reducible rfl
              rotate_left
              ·simp only [Act.put, List.setIfInBounds_toArray, List.set_cons_zero, List.set_cons_succ, i64_w, i32_w]
               rfl
              refine take_ (i := 7) (N := some 41) (v := ?_) (a' := ?_) #[true, true, true, false, false, true, true, true, false, false, false] rfl rfl (take_ofW HT_.out HW_.out (by kernel_rfl)) (fun _ _ _ h => h) (Or.inl ⟨by rfl, ?_⟩) hHeld ?_ ?_
              rotate_left
              ·rintro w' ⟨s0, s1, s2, s3⟩
               go_simp
               with_reducible rfl
              rotate_left
              ·simp only [Act.put, List.setIfInBounds_toArray, List.set_cons_zero, List.set_cons_succ, i64_w, i32_w]
               rfl
              refine one_ (i := 3) (N := some 37) #[true, true, true, true, false, true, true, true, false, false, false] rfl rfl (one_of HT_.out (by kernel_rfl)) (by decide) (fun K hK => ?_)
              refine goes_ Tryd.func17 (by kernel_rfl) rfl #[.agg #[.slice (some ad156) l0_0.length c0_0], .int .i64 ((rd_T51 l0_0 a1).f1)] (by rfl) rfl rfl zl ?_
              with_reducible refine (ih k (by omega) _ _ l0_0 ((rd_T51 l0_0 a1).f1) t161 _ ?side1 ?side2 A34.out).mono ?_
              (case side1 => exact zc (Kd.C_below HR0_0.out HB.out))
              (case side2 => exact HC0_0.out)
              rintro e w87 ⟨rfl, hb⟩
              refine ⟨_, rfl, ?_⟩
              have n0_ := Aside0.mk (blk_below (zh BK155.out) hb)
              have n1_ := Aside0.mk (blk_below (zh BK157.out) hb)
              have n2_ := Aside0.mk (below_step (zb HB.out) hb)
              clear BK155
              clear BK157
              clear HB
              have BK155 := n0_
              have BK157 := n1_
              have HB := n2_
              clear n0_ n1_ n2_
              (try clear hb)
              (try clear hb2)
              (try clear hk)
              (try clear hi)
              refine hK.out _ _ ⟨(blk_cell BK155.out 0).trans rfl, (blk_cell BK157.out 0).trans rfl, (blk_cell BK157.out 1).trans rfl, (blk_cell BK157.out 2).trans rfl⟩ (fun hHeld => ?_)
              clear hK K
              refine norm_ (a' := ?_) ?_ ?_
              rotate_left
              ·show Act.put _ (some 37) _ = _
               simp only [Act.put, List.setIfInBounds_toArray, List.set_cons_zero, List.set_cons_succ, i64_w, i32_w]
               rfl
              refine pure_ (i := 4) (N := some 38) (v := ?_) (a' := ?_) #[true, true, true, true, true, true, true, true, false, false, false] rfl rfl (any_of HT_.out (by kernel_rfl)) (fun _ _ _ h => h) (Or.inl ⟨by rfl, ?_⟩) ?_ ?_
              rotate_left
              ·intro w'
               go_simp
               with_reducible rfl
              rotate_left
              ·simp only [Act.put, List.setIfInBounds_toArray, List.set_cons_zero, List.set_cons_succ, i64_w, i32_w]
               rfl
              refine one_ (i := 8) (N := some 42) #[true, true, true, true, true, true, true, true, true, false, false] rfl rfl (one_of HT_.out (by kernel_rfl)) (by decide) (fun K hK => ?_)
              refine goes_ Tryd.func17 (by kernel_rfl) rfl #[.agg #[.slice (some ad156) l0_0.length c0_0], .int .i64 ((rd_T51 l0_0 a1).f2)] (by rfl) rfl rfl zl ?_
              with_reducible refine (ih k (by omega) _ _ l0_0 ((rd_T51 l0_0 a1).f2) t162 _ ?side1 ?side2 A36.out).mono ?_
              (case side1 => exact zc (Kd.C_below HR0_0.out HB.out))
              (case side2 => exact HC0_0.out)
              rintro e w88 ⟨rfl, hb⟩
              refine ⟨_, rfl, ?_⟩
              have n0_ := Aside0.mk (blk_below (zh BK155.out) hb)
              have n1_ := Aside0.mk (blk_below (zh BK157.out) hb)
              have n2_ := Aside0.mk (below_step (zb HB.out) hb)
              clear BK155
              clear BK157
              clear HB
              have BK155 := n0_
              have BK157 := n1_
              have HB := n2_
              clear n0_ n1_ n2_
              (try clear hb)
              (try clear hb2)
              (try clear hk)
              (try clear hi)
              refine hK.out _ _ ⟨(blk_cell BK155.out 0).trans rfl, (blk_cell BK157.out 0).trans rfl, (blk_cell BK157.out 1).trans rfl, (blk_cell BK157.out 2).trans rfl⟩ (fun hHeld => ?_)
              clear hK K
              refine norm_ (a' := ?_) ?_ ?_
              rotate_left
              ·show Act.put _ (some 42) _ = _
               simp only [Act.put, List.setIfInBounds_toArray, List.set_cons_zero, List.set_cons_succ, i64_w, i32_w]
               rfl
              refine pure_ (i := 9) (N := some 43) (v := ?_) (a' := ?_) #[true, true, true, true, true, true, true, true, true, true, false] rfl rfl (any_of HT_.out (by kernel_rfl)) (fun _ _ _ h => h) (Or.inl ⟨by rfl, ?_⟩) ?_ ?_
              rotate_left
              ·intro w'
               go_simp
               with_reducible rfl
              rotate_left
              ·simp only [Act.put, List.setIfInBounds_toArray, List.set_cons_zero, List.set_cons_succ, i64_w, i32_w]
               rfl
              refine pure_ (i := 10) (N := some 6) (v := ?_) (a' := ?_) #[true, true, true, true, true, true, true, true, true, true, true] rfl rfl (any_of HT_.out (by kernel_rfl)) (fun _ _ _ h => h) (Or.inl ⟨by rfl, ?_⟩) ?_ ?_
              rotate_left
              ·intro w'
               go_simp
               with_reducible rfl
              rotate_left
              ·simp only [Act.put, List.setIfInBounds_toArray, List.set_cons_zero, List.set_cons_succ, i64_w, i32_w]
               rfl
              refine done_ (done_of HT_.out (by kernel_rfl)) ?_
              have hcz89_0 : w88.cell? ⟨gb157, 0, none⟩ = some (.int .i64 ((rd_T51 l0_0 a1).f0)) := (blk_cell BK157.out 0).trans rfl
              have hcz89_1 : w88.cell? ⟨gb157, 1, none⟩ = some (.int .i64 ((rd_T51 l0_0 a1).f1)) := (blk_cell BK157.out 1).trans rfl
              have hcz89_2 : w88.cell? ⟨gb157, 2, none⟩ = some (.int .i64 ((rd_T51 l0_0 a1).f2)) := (blk_cell BK157.out 2).trans rfl
              have hfz89_0 := blk_frozen BK157.out 0
              have hfz89_1 := blk_frozen BK157.out 1
              have hfz89_2 := blk_frozen BK157.out 2
              try go_wp2
              go_ret
              exact ⟨ze, zb HB.out⟩
             ·rw [if_neg c79] at H
              exact absurd H (by simp)
            ·rw [if_neg c78] at H
             exact absurd H (by simp)
           ·rw [if_neg c77] at H
            have c77b0 : (((rd_T51 l0_0 a1).f0) == 6) = false := beq_eq_false_iff_ne.mpr c77
            have c77b1 : (((rd_T51 l0_0 a1).f0) != 6) = true := bne_iff_ne.mpr c77
            by_cases c90 : 2 + ((t161 ++ (⟨#[44]⟩ : ByteArray)) ++ t162).size ≤ 9223372036854775807
            ·rw [if_pos c90] at H
             have c90b0 := eq_true c90
             have c90b1 : decide (2 + ((t161 ++ (⟨#[44]⟩ : ByteArray)) ++ t162).size ≤ 9223372036854775807) = true := decide_eq_true c90
             try have c90b2 : (9223372036854775807 < 2 + ((t161 ++ (⟨#[44]⟩ : ByteArray)) ++ t162).size) = False := eq_false (Nat.not_lt.2 c90)
             try have c90b3 : (9223372036854775807 < 2 + (t161.size + 1 + t162.size)) = False := eq_false (by have h_ := c90; simp only [ByteArray.size_append] at h_; have l0_ : (⟨#[44]⟩ : ByteArray).size = 1 := rfl; omega)
             by_cases c91 : ((⟨#[42, 40]⟩ : ByteArray) ++ ((t161 ++ (⟨#[44]⟩ : ByteArray)) ++ t162)).size + 1 ≤ 9223372036854775807
             ·rw [if_pos c91] at H
              have c91b0 := eq_true c91
              have c91b1 : decide (((⟨#[42, 40]⟩ : ByteArray) ++ ((t161 ++ (⟨#[44]⟩ : ByteArray)) ++ t162)).size + 1 ≤ 9223372036854775807) = true := decide_eq_true c91
              try have c91b2 : (9223372036854775807 < ((⟨#[42, 40]⟩ : ByteArray) ++ ((t161 ++ (⟨#[44]⟩ : ByteArray)) ++ t162)).size + 1) = False := eq_false (Nat.not_lt.2 c91)
              try have c91b3 : (9223372036854775807 < 2 + (t161.size + 1 + t162.size) + 1) = False := eq_false (by have h_ := c91; simp only [ByteArray.size_append] at h_; have l0_ : (⟨#[42, 40]⟩ : ByteArray).size = 2 := rfl; have l1_ : (⟨#[44]⟩ : ByteArray).size = 1 := rfl; omega)
              obtain rfl := Option.some.inj H
              go_enter Tryd.func17, Tryd.ntmps17
              try go_wp2_with (first | ((with_reducible refine gate_dst (N := 2) rfl ?_); refine box_event ?hg (N := 2) ?hd (cs := #[.slice A0_0 l0_0.length c0_0]) (t := 29) ?hr ?_; (case hd => rfl); (case hg => rfl); (case hr => first | (go_simp; done) | (go_simp; rfl)); intro gb155 hg w92 hbox hb; have n0_ := Aside0.mk (below_step (zb HB.out) hb); have n1_ := Aside0.mk (hbox); have n2_ := Aside0.mk ((by rw [hg]; exact (below_size (zb HB.out)) : w.heap.size ≤ gb155)); have n3_ := Aside0.mk ((by rw [hg]; exact (below_size (zb HB.out)) : w.heap.size ≤ gb155)); clear HB; have HB := n0_; have BK155 := n1_; have GW155 := n2_; have GE155 := n3_; clear n0_ n1_ n2_ n3_; clear hb hbox hg; have hcz93_0 : w92.cell? ⟨gb155, 0, none⟩ = some (.slice A0_0 l0_0.length c0_0) := (blk_cell BK155.out 0).trans rfl; have hfz93_0 := blk_frozen BK155.out 0; have p156 : 0 ≤ (a1 : Int) := of_decide_eq_true (by first | (with_reducible assumption) | assumption); have q156 : a1 < (l0_0.length : Int) := of_decide_eq_true (by first | (with_reducible assumption) | assumption); obtain ⟨ad156, e156, hx156_0, hx156_1, hx156_2⟩ := at_T51 HR0_0.out a1 p156 q156; cases e156; replace hx156_0 := (HB.out.cell (World.block_lt_of_cell? w _ hx156_0)).trans hx156_0; replace hx156_1 := (HB.out.cell (World.block_lt_of_cell? w _ hx156_1)).trans hx156_1; replace hx156_2 := (HB.out.cell (World.block_lt_of_cell? w _ hx156_2)).trans hx156_2; replace p156 := eq_true p156; replace q156 := eq_true q156) | ((with_reducible refine gate_dst (N := 5) rfl ?_); refine box_event ?hg (N := 5) ?hd (cs := #[.int .i64 0, .int .i64 0, .int .i64 0]) (t := 51) ?hr ?_; (case hd => rfl); (case hg => rfl); (case hr => first | (go_simp; done) | (go_simp; rfl)); intro gb157 hg w94 hbox hb; have n0_ := Aside0.mk (blk_below (zh BK155.out) hb); have n1_ := Aside0.mk (below_step (zb HB.out) hb); have n2_ := Aside0.mk (hbox); have n3_ := Aside0.mk ((by rw [hg]; exact (below_size (zb HB.out)) : w.heap.size ≤ gb157)); have n4_ := Aside0.mk ((by rw [hg]; exact (below_size (zb HB.out)) : w.heap.size ≤ gb157)); have n5_ := Aside0.mk ((by rw [hg]; exact Nat.ne_of_lt (blk_lt (zh BK155.out)) : gb155 ≠ gb157)); have n6_ := Aside0.mk ((by rw [hg]; exact Nat.ne_of_gt (blk_lt (zh BK155.out)) : gb157 ≠ gb155)); clear BK155; clear HB; have BK155 := n0_; have HB := n1_; have BK157 := n2_; have GW157 := n3_; have GE157 := n4_; have NB155_157 := n5_; have NB157_155 := n6_; clear n0_ n1_ n2_ n3_ n4_ n5_ n6_; clear hb hbox hg; have hnb95 := NB157_155.out; have hnc95 := NB155_157.out; have hcz96_0 : w94.cell? ⟨gb157, 0, none⟩ = some (.int .i64 0) := (blk_cell BK157.out 0).trans rfl; have hcz96_1 : w94.cell? ⟨gb157, 1, none⟩ = some (.int .i64 0) := (blk_cell BK157.out 1).trans rfl; have hcz96_2 : w94.cell? ⟨gb157, 2, none⟩ = some (.int .i64 0) := (blk_cell BK157.out 2).trans rfl; have hfz96_0 := blk_frozen BK157.out 0; have hfz96_1 := blk_frozen BK157.out 1; have hfz96_2 := blk_frozen BK157.out 2))
              have n0_ : Aside0 ((((w94.setCell ⟨gb157, 0, none⟩ (.int .i64 ((rd_T51 l0_0 a1).f0))).setCell ⟨gb157, 1, none⟩ (.int .i64 ((rd_T51 l0_0 a1).f1))).setCell ⟨gb157, 2, none⟩ (.int .i64 ((rd_T51 l0_0 a1).f2))).heap[gb155]? = some (.cells #[.slice (some ad156) l0_0.length c0_0] 29 (0, 0))) := ⟨zf BK155.out⟩
              have n1_ : Aside0 ((((w94.setCell ⟨gb157, 0, none⟩ (.int .i64 ((rd_T51 l0_0 a1).f0))).setCell ⟨gb157, 1, none⟩ (.int .i64 ((rd_T51 l0_0 a1).f1))).setCell ⟨gb157, 2, none⟩ (.int .i64 ((rd_T51 l0_0 a1).f2))).heap[gb157]? = some (.cells #[.int .i64 ((rd_T51 l0_0 a1).f0), .int .i64 ((rd_T51 l0_0 a1).f1), .int .i64 ((rd_T51 l0_0 a1).f2)] 51 (0, 0))) := ⟨by (with_reducible repeat (first | refine blk_drewN ?_ _ | refine blk_drew ?_ | refine blk_alloc ?_ _)); refine blk_put (cs := #[.int .i64 ((rd_T51 l0_0 a1).f0), .int .i64 ((rd_T51 l0_0 a1).f1), .int .i64 0]) ?_ 2 _ rfl; (with_reducible repeat (first | refine blk_drewN ?_ _ | refine blk_drew ?_ | refine blk_alloc ?_ _)); refine blk_put (cs := #[.int .i64 ((rd_T51 l0_0 a1).f0), .int .i64 0, .int .i64 0]) ?_ 1 _ rfl; (with_reducible repeat (first | refine blk_drewN ?_ _ | refine blk_drew ?_ | refine blk_alloc ?_ _)); refine blk_put (cs := #[.int .i64 0, .int .i64 0, .int .i64 0]) ?_ 0 _ rfl; (with_reducible repeat (first | refine blk_drewN ?_ _ | refine blk_drew ?_ | refine blk_alloc ?_ _)); exact BK157.out⟩
              have n2_ : Aside0 (Below w.heap.size w (((w94.setCell ⟨gb157, 0, none⟩ (.int .i64 ((rd_T51 l0_0 a1).f0))).setCell ⟨gb157, 1, none⟩ (.int .i64 ((rd_T51 l0_0 a1).f1))).setCell ⟨gb157, 2, none⟩ (.int .i64 ((rd_T51 l0_0 a1).f2)))) := ⟨zb HB.out⟩
              (try clear BK155)
              (try clear BK157)
              (try clear HB)
              generalize (((w94.setCell ⟨gb157, 0, none⟩ (.int .i64 ((rd_T51 l0_0 a1).f0))).setCell ⟨gb157, 1, none⟩ (.int .i64 ((rd_T51 l0_0 a1).f1))).setCell ⟨gb157, 2, none⟩ (.int .i64 ((rd_T51 l0_0 a1).f2))) = w97 at n0_ n1_ n2_ ⊢
              have BK155 := n0_
              have BK157 := n1_
              have HB := n2_
              clear n0_ n1_ n2_
              have n0_ := Aside0.mk (blk_drew BK155.out)
              have n1_ := Aside0.mk (blk_drew BK157.out)
              have n2_ := Aside0.mk (below_drew1 HB.out)
              clear BK155
              clear BK157
              clear HB
              have BK155 := n0_
              have BK157 := n1_
              have HB := n2_
              clear n0_ n1_ n2_
              refine start_ (n := 11) (S := fun w' => w'.cell? ⟨gb155, 0, none⟩ = some (.slice (some ad156) l0_0.length c0_0) ∧ w'.cell? ⟨gb157, 0, none⟩ = some (.int .i64 ((rd_T51 l0_0 a1).f0)) ∧ w'.cell? ⟨gb157, 1, none⟩ = some (.int .i64 ((rd_T51 l0_0 a1).f1)) ∧ w'.cell? ⟨gb157, 2, none⟩ = some (.int .i64 ((rd_T51 l0_0 a1).f2))) (ds := []) #[false, false, false, false, false, false, false, false, false, false, false] (by kernel_rfl) rfl rfl ⟨(blk_cell BK155.out 0).trans rfl, (blk_cell BK157.out 0).trans rfl, (blk_cell BK157.out 1).trans rfl, (blk_cell BK157.out 2).trans rfl⟩ (fun hHeld => ?_); refine with_tabW spec_l4Print.tab9 spec_l4Print.bits9 (fun HT_ HW_ => ?_)
              generalize w97.drew = w98 at BK155 BK157 HB hHeld ⊢
              refine pure_ (i := 1) (N := some 35) (v := ?_) (a' := ?_) #[false, true, false, false, false, false, false, false, false, false, false] rfl rfl (any_of HT_.out (by kernel_rfl)) (fun _ _ _ h => h) (Or.inl ⟨by rfl, ?_⟩) ?_ ?_
              rotate_left
              ·intro w'
               go_simp
               with_reducible rfl
              rotate_left
              ·simp only [Act.put, List.setIfInBounds_toArray, List.set_cons_zero, List.set_cons_succ, i64_w, i32_w]
               rfl
              refine pure_ (i := 6) (N := some 40) (v := ?_) (a' := ?_) #[false, true, false, false, false, false, true, false, false, false, false] rfl rfl (any_of HT_.out (by kernel_rfl)) (fun _ _ _ h => h) (Or.inl ⟨by rfl, ?_⟩) ?_ ?_
              rotate_left
              ·intro w'
               go_simp
               with_reducible rfl
              rotate_left
              ·simp only [Act.put, List.setIfInBounds_toArray, List.set_cons_zero, List.set_cons_succ, i64_w, i32_w]
               rfl
              refine take_ (i := 0) (N := some 34) (v := ?_) (a' := ?_) #[true, true, false, false, false, false, true, false, false, false, false] rfl rfl (take_ofW HT_.out HW_.out (by kernel_rfl)) (fun _ _ _ h => h) (Or.inl ⟨by rfl, ?_⟩) hHeld ?_ ?_
              rotate_left
              ·rintro w' ⟨s0, s1, s2, s3⟩
               go_simp
               with_reducible rfl
              rotate_left
              ·simp only [Act.put, List.setIfInBounds_toArray, List.set_cons_zero, List.set_cons_succ, i64_w, i32_w]
               rfl
              refine take_ (i := 2) (N := some 36) (v := ?_) (a' := ?_) #[true, true, true, false, false, false, true, false, false, false, false] rfl rfl (take_ofW HT_.out HW_.out (by kernel_rfl)) (fun _ _ _ h => h) (Or.inl ⟨by rfl, ?_⟩) hHeld ?_ ?_
              rotate_left
              ·rintro w' ⟨s0, s1, s2, s3⟩
               go_simp
               with_reducible rfl
              rotate_left
              ·simp only [Act.put, List.setIfInBounds_toArray, List.set_cons_zero, List.set_cons_succ, i64_w, i32_w]
               rfl
              refine take_ (i := 5) (N := some 39) (v := ?_) (a' := ?_) #[true, true, true, false, false, true, true, false, false, false, false] rfl rfl (take_ofW HT_.out HW_.out (by kernel_rfl)) (fun _ _ _ h => h) (Or.inl ⟨by rfl, ?_⟩) hHeld ?_ ?_
              rotate_left
              ·rintro w' ⟨s0, s1, s2, s3⟩
               go_simp
               with_reducible rfl
              rotate_left
              ·simp only [Act.put, List.setIfInBounds_toArray, List.set_cons_zero, List.set_cons_succ, i64_w, i32_w]
               rfl
              refine take_ (i := 7) (N := some 41) (v := ?_) (a' := ?_) #[true, true, true, false, false, true, true, true, false, false, false] rfl rfl (take_ofW HT_.out HW_.out (by kernel_rfl)) (fun _ _ _ h => h) (Or.inl ⟨by rfl, ?_⟩) hHeld ?_ ?_
              rotate_left
              ·rintro w' ⟨s0, s1, s2, s3⟩
               go_simp
               with_reducible rfl
              rotate_left
              ·simp only [Act.put, List.setIfInBounds_toArray, List.set_cons_zero, List.set_cons_succ, i64_w, i32_w]
               rfl
              refine one_ (i := 3) (N := some 37) #[true, true, true, true, false, true, true, true, false, false, false] rfl rfl (one_of HT_.out (by kernel_rfl)) (by decide) (fun K hK => ?_)
              refine goes_ Tryd.func17 (by kernel_rfl) rfl #[.agg #[.slice (some ad156) l0_0.length c0_0], .int .i64 ((rd_T51 l0_0 a1).f1)] (by rfl) rfl rfl zl ?_
              with_reducible refine (ih k (by omega) _ _ l0_0 ((rd_T51 l0_0 a1).f1) t161 _ ?side1 ?side2 A34.out).mono ?_
              (case side1 => exact zc (Kd.C_below HR0_0.out HB.out))
              (case side2 => exact HC0_0.out)
              rintro e w99 ⟨rfl, hb⟩
              refine ⟨_, rfl, ?_⟩
              have n0_ := Aside0.mk (blk_below (zh BK155.out) hb)
              have n1_ := Aside0.mk (blk_below (zh BK157.out) hb)
              have n2_ := Aside0.mk (below_step (zb HB.out) hb)
              clear BK155
              clear BK157
              clear HB
              have BK155 := n0_
              have BK157 := n1_
              have HB := n2_
              clear n0_ n1_ n2_
              (try clear hb)
              (try clear hb2)
              (try clear hk)
              (try clear hi)
              refine hK.out _ _ ⟨(blk_cell BK155.out 0).trans rfl, (blk_cell BK157.out 0).trans rfl, (blk_cell BK157.out 1).trans rfl, (blk_cell BK157.out 2).trans rfl⟩ (fun hHeld => ?_)
              clear hK K
              refine norm_ (a' := ?_) ?_ ?_
              rotate_left
              ·show Act.put _ (some 37) _ = _
               simp only [Act.put, List.setIfInBounds_toArray, List.set_cons_zero, List.set_cons_succ, i64_w, i32_w]
               rfl
              refine pure_ (i := 4) (N := some 38) (v := ?_) (a' := ?_) #[true, true, true, true, true, true, true, true, false, false, false] rfl rfl (any_of HT_.out (by kernel_rfl)) (fun _ _ _ h => h) (Or.inl ⟨by rfl, ?_⟩) ?_ ?_
              rotate_left
              ·intro w'
               go_simp
               with_reducible rfl
              rotate_left
              ·simp only [Act.put, List.setIfInBounds_toArray, List.set_cons_zero, List.set_cons_succ, i64_w, i32_w]
               rfl
              refine one_ (i := 8) (N := some 42) #[true, true, true, true, true, true, true, true, true, false, false] rfl rfl (one_of HT_.out (by kernel_rfl)) (by decide) (fun K hK => ?_)
              refine goes_ Tryd.func17 (by kernel_rfl) rfl #[.agg #[.slice (some ad156) l0_0.length c0_0], .int .i64 ((rd_T51 l0_0 a1).f2)] (by rfl) rfl rfl zl ?_
              with_reducible refine (ih k (by omega) _ _ l0_0 ((rd_T51 l0_0 a1).f2) t162 _ ?side1 ?side2 A36.out).mono ?_
              (case side1 => exact zc (Kd.C_below HR0_0.out HB.out))
              (case side2 => exact HC0_0.out)
              rintro e w100 ⟨rfl, hb⟩
              refine ⟨_, rfl, ?_⟩
              have n0_ := Aside0.mk (blk_below (zh BK155.out) hb)
              have n1_ := Aside0.mk (blk_below (zh BK157.out) hb)
              have n2_ := Aside0.mk (below_step (zb HB.out) hb)
              clear BK155
              clear BK157
              clear HB
              have BK155 := n0_
              have BK157 := n1_
              have HB := n2_
              clear n0_ n1_ n2_
              (try clear hb)
              (try clear hb2)
              (try clear hk)
              (try clear hi)
              refine hK.out _ _ ⟨(blk_cell BK155.out 0).trans rfl, (blk_cell BK157.out 0).trans rfl, (blk_cell BK157.out 1).trans rfl, (blk_cell BK157.out 2).trans rfl⟩ (fun hHeld => ?_)
              clear hK K
              refine norm_ (a' := ?_) ?_ ?_
              rotate_left
              ·show Act.put _ (some 42) _ = _
               simp only [Act.put, List.setIfInBounds_toArray, List.set_cons_zero, List.set_cons_succ, i64_w, i32_w]
               rfl
              refine pure_ (i := 9) (N := some 43) (v := ?_) (a' := ?_) #[true, true, true, true, true, true, true, true, true, true, false] rfl rfl (any_of HT_.out (by kernel_rfl)) (fun _ _ _ h => h) (Or.inl ⟨by rfl, ?_⟩) ?_ ?_
              rotate_left
              ·intro w'
               go_simp
               with_reducible rfl
              rotate_left
              ·simp only [Act.put, List.setIfInBounds_toArray, List.set_cons_zero, List.set_cons_succ, i64_w, i32_w]
               rfl
              refine pure_ (i := 10) (N := some 6) (v := ?_) (a' := ?_) #[true, true, true, true, true, true, true, true, true, true, true] rfl rfl (any_of HT_.out (by kernel_rfl)) (fun _ _ _ h => h) (Or.inl ⟨by rfl, ?_⟩) ?_ ?_
              rotate_left
              ·intro w'
               go_simp
               with_reducible rfl
              rotate_left
              ·simp only [Act.put, List.setIfInBounds_toArray, List.set_cons_zero, List.set_cons_succ, i64_w, i32_w]
               rfl
              refine done_ (done_of HT_.out (by kernel_rfl)) ?_
              have hcz101_0 : w100.cell? ⟨gb157, 0, none⟩ = some (.int .i64 ((rd_T51 l0_0 a1).f0)) := (blk_cell BK157.out 0).trans rfl
              have hcz101_1 : w100.cell? ⟨gb157, 1, none⟩ = some (.int .i64 ((rd_T51 l0_0 a1).f1)) := (blk_cell BK157.out 1).trans rfl
              have hcz101_2 : w100.cell? ⟨gb157, 2, none⟩ = some (.int .i64 ((rd_T51 l0_0 a1).f2)) := (blk_cell BK157.out 2).trans rfl
              have hfz101_0 := blk_frozen BK157.out 0
              have hfz101_1 := blk_frozen BK157.out 1
              have hfz101_2 := blk_frozen BK157.out 2
              try go_wp2
              go_ret
              exact ⟨ze, zb HB.out⟩
             ·rw [if_neg c91] at H
              exact absurd H (by simp)
            ·rw [if_neg c90] at H
             exact absurd H (by simp)
       ·rw [if_neg c37] at H
        exact absurd H (by simp)
      ·rw [if_neg c35] at H
       exact absurd H (by simp)
  ·rw [if_neg c4] at H
   exact absurd H (by simp)
 ·rw [if_neg c3] at H
  exact absurd H (by simp)

end Go.Proofs.YtjcemohmlpgfnaaDoor.T
end

section
namespace Go.Proofs.YtjcemohmlpgfnaaDoor.T
open Go.RowKit Go.Proofs.YtjcemohmlpgfnaaDoorW.PrintWords Go.Proofs.YtjcemohmlpgfnaaDoorW.PrintLast Go.Proofs.YtjcemohmlpgfnaaDoorW.PrintMore
attribute [local go_sem] max2_int min2_int max_two min_two max_three min_three max_four min_four   -- for this text's walks alone
set_option linter.unusedVariables false
set_option linter.unusedSimpArgs false
set_option maxRecDepth 100000

/-! ### spec_TermPrint: function 6 -/
def spec_TermPrint.f (k : Nat) (l0_0 : List (S51)) (a1 : Int) : Option (ByteArray) := (spec_TermSize.f k l0_0 a1).bind fun t164 => ((spec_l1In.f t164 1 1000).bind fun t165 => (if t165 = true then ((spec_l4Print.f k l0_0 a1).bind fun t166 => (some t166)) else (some (⟨#[]⟩ : ByteArray))))
set_option maxHeartbeats 8000000 in
set_option maxRecDepth 100000 in
theorem spec_TermPrint.calls (k : Nat) (A0_0 : Option Addr) (c0_0 : Nat) (l0_0 : List (S51)) (a1 : Int) (r : ByteArray) (w : World) (hr0_0 : Kd.C k51 w A0_0 l0_0.length l0_0) (hc0_0 : l0_0.length ≤ c0_0) (h : spec_TermPrint.f k l0_0 a1 = some r) :
  Calls Tryd.prog 6 #[.agg #[.slice A0_0 l0_0.length c0_0], .int .i64 a1] w fun e w' => e = .returned (.string r) ∧ Below w.heap.size w w' := by
 have hu29 := Tryd.underlying29
 have HR0_0 := Aside0.mk hr0_0
 have HC0_0 := Aside0.mk hc0_0
 clear hr0_0 hc0_0
 have HB := Aside0.mk (Below.refl w.heap.size w)
 have H : ((spec_TermSize.f k l0_0 a1).bind fun t164 => ((spec_l1In.f t164 1 1000).bind fun t165 => (if t165 = true then ((spec_l4Print.f k l0_0 a1).bind fun t166 => (some t166)) else (some (⟨#[]⟩ : ByteArray))))) = some r := h
 clear h
 replace H := Option.bind_eq_some_iff.mp H
 obtain ⟨t164, A30, H⟩ := H
 replace H : ((spec_l1In.f t164 1 1000).bind fun t165 => (if t165 = true then ((spec_l4Print.f k l0_0 a1).bind fun t166 => (some t166)) else (some (⟨#[]⟩ : ByteArray)))) = some r := H
 have A3 := Aside0.mk A30
 clear A30
 replace H := Option.bind_eq_some_iff.mp H
 obtain ⟨t165, A40, H⟩ := H
 replace H : (if t165 = true then ((spec_l4Print.f k l0_0 a1).bind fun t166 => (some t166)) else (some (⟨#[]⟩ : ByteArray))) = some r := H
 have A4 := Aside0.mk A40
 clear A40
 by_cases c5 : t165 = true
 ·subst c5
  have H1 : ((spec_l4Print.f k l0_0 a1).bind fun t166 => (some t166)) = some r := by rw [if_pos rfl] at H; exact H
  clear H
  have H := H1
  clear H1
  replace H := Option.bind_eq_some_iff.mp H
  obtain ⟨t166, A60, H⟩ := H
  replace H : (some t166) = some r := H
  have A6 := Aside0.mk A60
  clear A60
  obtain rfl := Option.some.inj H
  go_enter Tryd.func6, Tryd.ntmps6
  go_wp2_with (first | ((with_reducible refine gate_dst (N := 2) rfl ?_); refine box_event ?hg (N := 2) ?hd (cs := #[.slice A0_0 l0_0.length c0_0]) (t := 29) ?hr ?_; (case hd => rfl); (case hg => rfl); (case hr => first | (go_simp; done) | (go_simp; rfl)); intro gb163 hg w7 hbox hb; have n0_ := Aside0.mk (below_step (zb HB.out) hb); have n1_ := Aside0.mk (hbox); have n2_ := Aside0.mk ((by rw [hg]; exact (below_size (zb HB.out)) : w.heap.size ≤ gb163)); have n3_ := Aside0.mk ((by rw [hg]; exact (below_size (zb HB.out)) : w.heap.size ≤ gb163)); clear HB; have HB := n0_; have BK163 := n1_; have GW163 := n2_; have GE163 := n3_; clear n0_ n1_ n2_ n3_; clear hb hbox hg; have hcz8_0 : w7.cell? ⟨gb163, 0, none⟩ = some (.slice A0_0 l0_0.length c0_0) := (blk_cell BK163.out 0).trans rfl; have hfz8_0 := blk_frozen BK163.out 0) | ((with_reducible refine gate_callee (f := 16) rfl ?_); refine goesL_ (some 7) rfl rfl Tryd.func16 (by kernel_rfl) rfl #[.agg #[.slice A0_0 l0_0.length c0_0], .int .i64 a1] rfl zl ?_; (with_reducible refine (spec_TermSize.calls k _ _ l0_0 a1 t164 _ ?side1 ?side2 A3.out).mono ?_); (case side1 => exact zc (Kd.C_below HR0_0.out HB.out)); (case side2 => exact HC0_0.out); rintro e w9 ⟨rfl, hb⟩; refine ⟨_, rfl, ?_⟩; have n0_ := Aside0.mk (blk_below (zh BK163.out) hb); have n1_ := Aside0.mk (below_step (zb HB.out) hb); clear BK163; clear HB; have BK163 := n0_; have HB := n1_; clear n0_ n1_; (try clear hb); (try clear hb2); (try clear hk); (try clear hi)) | ((with_reducible refine gate_callee (f := 15) rfl ?_); refine goesL_ (some 8) rfl rfl Tryd.func15 (by kernel_rfl) rfl #[.int .i64 t164, .int .i64 1, .int .i64 1000] rfl zl ?_; (with_reducible refine (spec_l1In.calls t164 1 1000 true _ A4.out).mono ?_); rintro e w' ⟨rfl, ⟨nd, rfl⟩⟩; refine ⟨_, rfl, ?_⟩; have hcz10_0 : w9.cell? ⟨gb163, 0, none⟩ = some (.slice A0_0 l0_0.length c0_0) := (blk_cell BK163.out 0).trans rfl; have hfz10_0 := blk_frozen BK163.out 0) | ((with_reducible refine gate_callee (f := 17) rfl ?_); refine goesL_ (some 12) rfl rfl Tryd.func17 (by kernel_rfl) rfl #[.agg #[.slice A0_0 l0_0.length c0_0], .int .i64 a1] rfl zl ?_; (with_reducible refine (spec_l4Print.calls k _ _ l0_0 a1 t166 _ ?side1 ?side2 A6.out).mono ?_); (case side1 => exact zc (Kd.C_below HR0_0.out (zb HB.out))); (case side2 => exact HC0_0.out); rintro e w11 ⟨rfl, hb⟩; refine ⟨_, rfl, ?_⟩; have n0_ := Aside0.mk (blk_below (zh BK163.out) hb); have n1_ := Aside0.mk (below_step (zb HB.out) hb); clear BK163; clear HB; have BK163 := n0_; have HB := n1_; clear n0_ n1_; (try clear hb); (try clear hb2); (try clear hk); (try clear hi)))
  go_ret
  exact ⟨ze, zb HB.out⟩
 ·replace c5 := Bool.eq_false_iff.mpr c5
  subst c5
  have H1 : (some (⟨#[]⟩ : ByteArray)) = some r := by rw [if_neg (show ¬ (false = true) by decide)] at H; exact H
  clear H
  have H := H1
  clear H1
  obtain rfl := Option.some.inj H
  go_enter Tryd.func6, Tryd.ntmps6
  go_wp2_with (first | ((with_reducible refine gate_dst (N := 2) rfl ?_); refine box_event ?hg (N := 2) ?hd (cs := #[.slice A0_0 l0_0.length c0_0]) (t := 29) ?hr ?_; (case hd => rfl); (case hg => rfl); (case hr => first | (go_simp; done) | (go_simp; rfl)); intro gb163 hg w12 hbox hb; have n0_ := Aside0.mk (below_step (zb HB.out) hb); have n1_ := Aside0.mk (hbox); have n2_ := Aside0.mk ((by rw [hg]; exact (below_size (zb HB.out)) : w.heap.size ≤ gb163)); have n3_ := Aside0.mk ((by rw [hg]; exact (below_size (zb HB.out)) : w.heap.size ≤ gb163)); clear HB; have HB := n0_; have BK163 := n1_; have GW163 := n2_; have GE163 := n3_; clear n0_ n1_ n2_ n3_; clear hb hbox hg; have hcz13_0 : w12.cell? ⟨gb163, 0, none⟩ = some (.slice A0_0 l0_0.length c0_0) := (blk_cell BK163.out 0).trans rfl; have hfz13_0 := blk_frozen BK163.out 0) | ((with_reducible refine gate_callee (f := 16) rfl ?_); refine goesL_ (some 7) rfl rfl Tryd.func16 (by kernel_rfl) rfl #[.agg #[.slice A0_0 l0_0.length c0_0], .int .i64 a1] rfl zl ?_; (with_reducible refine (spec_TermSize.calls k _ _ l0_0 a1 t164 _ ?side1 ?side2 A3.out).mono ?_); (case side1 => exact zc (Kd.C_below HR0_0.out HB.out)); (case side2 => exact HC0_0.out); rintro e w14 ⟨rfl, hb⟩; refine ⟨_, rfl, ?_⟩; have n0_ := Aside0.mk (blk_below (zh BK163.out) hb); have n1_ := Aside0.mk (below_step (zb HB.out) hb); clear BK163; clear HB; have BK163 := n0_; have HB := n1_; clear n0_ n1_; (try clear hb); (try clear hb2); (try clear hk); (try clear hi)) | ((with_reducible refine gate_callee (f := 15) rfl ?_); refine goesL_ (some 8) rfl rfl Tryd.func15 (by kernel_rfl) rfl #[.int .i64 t164, .int .i64 1, .int .i64 1000] rfl zl ?_; (with_reducible refine (spec_l1In.calls t164 1 1000 false _ A4.out).mono ?_); rintro e w' ⟨rfl, ⟨nd, rfl⟩⟩; refine ⟨_, rfl, ?_⟩))
  go_ret
  exact ⟨ze, zb HB.out⟩

/-! ### laws_toNode: function 30 -/
def laws_toNode.f (a0_0 : Int) (a0_1 : Int) (a0_2 : Int) : Option (Int × Int × Int) := some (a0_0, a0_1, a0_2)
set_option maxHeartbeats 8000000 in
set_option maxRecDepth 100000 in
theorem laws_toNode.calls (a0_0 : Int) (a0_1 : Int) (a0_2 : Int) (r1 : Int) (r2 : Int) (r3 : Int) (w : World) (h : laws_toNode.f a0_0 a0_1 a0_2 = some (r1, r2, r3)) :
  Calls Tryd.prog 30 #[.agg #[.int .i64 a0_0, .int .i64 a0_1, .int .i64 a0_2]] w fun e w' => e = .returned (.agg #[.int .i64 r1, .int .i64 r2, .int .i64 r3]) ∧ Below w.heap.size w w' := by
 have hu53 := Tryd.underlying53
 have hu51 := Tryd.underlying51
 have HB := Aside0.mk (Below.refl w.heap.size w)
 have H : (some (a0_0, a0_1, a0_2)) = some (r1, r2, r3) := h
 clear h
 simp only [Option.some.injEq, Prod.mk.injEq] at H
 obtain ⟨rfl, rfl, rfl⟩ := H
 go_enter Tryd.func30, Tryd.ntmps30
 go_wp2_with (first | ((with_reducible refine gate_dst (N := 1) rfl ?_); refine box_event ?hg (N := 1) ?hd (cs := #[.int .i64 a0_0, .int .i64 a0_1, .int .i64 a0_2]) (t := 53) ?hr ?_; (case hd => rfl); (case hg => rfl); (case hr => first | (go_simp; done) | (go_simp; rfl)); intro gb167 hg w2 hbox hb; have n0_ := Aside0.mk (below_step (zb HB.out) hb); have n1_ := Aside0.mk (hbox); have n2_ := Aside0.mk ((by rw [hg]; exact (below_size (zb HB.out)) : w.heap.size ≤ gb167)); have n3_ := Aside0.mk ((by rw [hg]; exact (below_size (zb HB.out)) : w.heap.size ≤ gb167)); clear HB; have HB := n0_; have BK167 := n1_; have GW167 := n2_; have GE167 := n3_; clear n0_ n1_ n2_ n3_; clear hb hbox hg) | ((with_reducible refine gate_dst (N := 2) rfl ?_); refine box_event ?hg (N := 2) ?hd (cs := #[.int .i64 0, .int .i64 0, .int .i64 0]) (t := 51) ?hr ?_; (case hd => rfl); (case hg => rfl); (case hr => first | (go_simp; done) | (go_simp; rfl)); intro gb168 hg w3 hbox hb; have n0_ := Aside0.mk (blk_below (zh BK167.out) hb); have n1_ := Aside0.mk (below_step (zb HB.out) hb); have n2_ := Aside0.mk (hbox); have n3_ := Aside0.mk ((by rw [hg]; exact (below_size (zb HB.out)) : w.heap.size ≤ gb168)); have n4_ := Aside0.mk ((by rw [hg]; exact (below_size (zb HB.out)) : w.heap.size ≤ gb168)); have n5_ := Aside0.mk ((by rw [hg]; exact Nat.ne_of_lt (blk_lt (zh BK167.out)) : gb167 ≠ gb168)); have n6_ := Aside0.mk ((by rw [hg]; exact Nat.ne_of_gt (blk_lt (zh BK167.out)) : gb168 ≠ gb167)); clear BK167; clear HB; have BK167 := n0_; have HB := n1_; have BK168 := n2_; have GW168 := n3_; have GE168 := n4_; have NB167_168 := n5_; have NB168_167 := n6_; clear n0_ n1_ n2_ n3_ n4_ n5_ n6_; clear hb hbox hg) | ((with_reducible refine gate_dst (N := 3) rfl ?_); refine box_event ?hg (N := 3) ?hd (cs := #[.int .i64 0, .int .i64 0, .int .i64 0]) (t := 51) ?hr ?_; (case hd => rfl); (case hg => rfl); (case hr => first | (go_simp; done) | (go_simp; rfl)); intro gb169 hg w4 hbox hb; have n0_ := Aside0.mk (blk_below (zh BK167.out) hb); have n1_ := Aside0.mk (blk_below (zh BK168.out) hb); have n2_ := Aside0.mk (below_step (zb HB.out) hb); have n3_ := Aside0.mk (hbox); have n4_ := Aside0.mk ((by rw [hg]; exact (below_size (zb HB.out)) : w.heap.size ≤ gb169)); have n5_ := Aside0.mk ((by rw [hg]; exact (below_size (zb HB.out)) : w.heap.size ≤ gb169)); have n6_ := Aside0.mk ((by rw [hg]; exact Nat.ne_of_lt (blk_lt (zh BK167.out)) : gb167 ≠ gb169)); have n7_ := Aside0.mk ((by rw [hg]; exact Nat.ne_of_gt (blk_lt (zh BK167.out)) : gb169 ≠ gb167)); have n8_ := Aside0.mk ((by rw [hg]; exact Nat.ne_of_lt (blk_lt (zh BK168.out)) : gb168 ≠ gb169)); have n9_ := Aside0.mk ((by rw [hg]; exact Nat.ne_of_gt (blk_lt (zh BK168.out)) : gb169 ≠ gb168)); clear BK167; clear BK168; clear HB; have BK167 := n0_; have BK168 := n1_; have HB := n2_; have BK169 := n3_; have GW169 := n4_; have GE169 := n5_; have NB167_169 := n6_; have NB169_167 := n7_; have NB168_169 := n8_; have NB169_168 := n9_; clear n0_ n1_ n2_ n3_ n4_ n5_ n6_ n7_ n8_ n9_; clear hb hbox hg; have hnb5 := NB167_168.out; have hnc5 := NB168_167.out; have hnb6 := NB167_169.out; have hnc6 := NB169_167.out; have hcz7_0 : w4.cell? ⟨gb167, 0, none⟩ = some (.int .i64 a0_0) := (blk_cell BK167.out 0).trans rfl; have hcz7_1 : w4.cell? ⟨gb167, 1, none⟩ = some (.int .i64 a0_1) := (blk_cell BK167.out 1).trans rfl; have hcz7_2 : w4.cell? ⟨gb167, 2, none⟩ = some (.int .i64 a0_2) := (blk_cell BK167.out 2).trans rfl; have hfz7_0 := blk_frozen BK167.out 0; have hfz7_1 := blk_frozen BK167.out 1; have hfz7_2 := blk_frozen BK167.out 2; have hnb8 := NB169_168.out; have hnc8 := NB168_169.out; have hcz9_0 : w4.cell? ⟨gb169, 0, none⟩ = some (.int .i64 0) := (blk_cell BK169.out 0).trans rfl; have hcz9_1 : w4.cell? ⟨gb169, 1, none⟩ = some (.int .i64 0) := (blk_cell BK169.out 1).trans rfl; have hcz9_2 : w4.cell? ⟨gb169, 2, none⟩ = some (.int .i64 0) := (blk_cell BK169.out 2).trans rfl; have hfz9_0 := blk_frozen BK169.out 0; have hfz9_1 := blk_frozen BK169.out 1; have hfz9_2 := blk_frozen BK169.out 2; have hcz10_0 : w4.cell? ⟨gb168, 0, none⟩ = some (.int .i64 0) := (blk_cell BK168.out 0).trans rfl; have hcz10_1 : w4.cell? ⟨gb168, 1, none⟩ = some (.int .i64 0) := (blk_cell BK168.out 1).trans rfl; have hcz10_2 : w4.cell? ⟨gb168, 2, none⟩ = some (.int .i64 0) := (blk_cell BK168.out 2).trans rfl; have hfz10_0 := blk_frozen BK168.out 0; have hfz10_1 := blk_frozen BK168.out 1; have hfz10_2 := blk_frozen BK168.out 2))
 refine bodyPost_ret (results_cell_row rfl _ _ gb168 51 #[.int .i64 a0_0, .int .i64 a0_1, .int .i64 a0_2] (0, 0) _ rfl (by (with_reducible repeat (first | refine blk_drewN ?_ _ | refine blk_drew ?_ | refine blk_alloc ?_ _)); refine blk_put (cs := #[.int .i64 a0_0, .int .i64 a0_1, .int .i64 0]) ?_ 2 _ rfl; (with_reducible repeat (first | refine blk_drewN ?_ _ | refine blk_drew ?_ | refine blk_alloc ?_ _)); refine blk_put (cs := #[.int .i64 a0_0, .int .i64 0, .int .i64 0]) ?_ 1 _ rfl; (with_reducible repeat (first | refine blk_drewN ?_ _ | refine blk_drew ?_ | refine blk_alloc ?_ _)); refine blk_put (cs := #[.int .i64 0, .int .i64 0, .int .i64 0]) ?_ 0 _ rfl; (with_reducible repeat (first | refine blk_drewN ?_ _ | refine blk_drew ?_ | refine blk_alloc ?_ _)); refine blk_far ?_ NB168_169.out _; (with_reducible repeat (first | refine blk_drewN ?_ _ | refine blk_drew ?_ | refine blk_alloc ?_ _)); refine blk_far ?_ NB168_169.out _; (with_reducible repeat (first | refine blk_drewN ?_ _ | refine blk_drew ?_ | refine blk_alloc ?_ _)); refine blk_far ?_ NB168_169.out _; (with_reducible repeat (first | refine blk_drewN ?_ _ | refine blk_drew ?_ | refine blk_alloc ?_ _)); exact BK168.out) Tryd.underlying51 rfl (by kernel_rfl)) rfl ?_
 exact ⟨ze, zb HB.out⟩

/-! ### laws_toNodeS: function 18 -/
def laws_toNodeS.l0 : Nat → List (S53) → List (S51) → Int → Option ((List (S51)))
 | 0, _, _, _ => none
 | k + 1, x0, x3, x4 => if x4 < (x0.length : Int) then (if 0 ≤ x4 then ((laws_toNode.f ((rd_T53 x0 x4).f0) ((rd_T53 x0 x4).f1) ((rd_T53 x0 x4).f2)).bind fun bt174 => (if x4 < (x3.length : Int) then (laws_toNodeS.l0 k x0 (x3.set (x4 : Int).toNat (⟨bt174.1, bt174.2.1, bt174.2.2⟩ : S51)) (wrap64 (x4 + 1))) else (none))) else (none)) else (some x3)
def laws_toNodeS.f (k : Nat) (l0 : List (S53)) : Option ((List (S51))) := if 0 ≤ (l0.length : Int) then (if ((l0.length : Int) : Int).toNat ≤ 11728124029610 then (laws_toNodeS.l0 k l0 (List.replicate ((l0.length : Int) : Int).toNat z51) 0) else (none)) else (none)
set_option maxHeartbeats 8000000 in
set_option maxRecDepth 100000 in
theorem laws_toNodeS.calls (k : Nat) (A0 : Option Addr) (c0 : Nat) (l0 : List (S53)) (r : List (S51)) (w : World) (hr0 : Kd.C k53 w A0 l0.length l0) (hc0 : l0.length ≤ c0) (h : laws_toNodeS.f k l0 = some r) :
  Calls Tryd.prog 18 #[.slice A0 l0.length c0] w fun e w' => ∃ v0_ : Value, e = .returned (v0_) ∧ Kd.R k51 51 w' w.heap.size (fun _ => True) v0_ r ∧ Below w.heap.size w w' := by
 have hu53 := Tryd.underlying53
 have hu51 := Tryd.underlying51
 have HR0 := Aside0.mk hr0
 have HC0 := Aside0.mk hc0
 clear hr0 hc0
 have HB := Aside0.mk (Below.refl w.heap.size w)
 have H : (if 0 ≤ (l0.length : Int) then (if ((l0.length : Int) : Int).toNat ≤ 11728124029610 then (laws_toNodeS.l0 k l0 (List.replicate ((l0.length : Int) : Int).toNat z51) 0) else (none)) else (none)) = some r := h
 clear h
 by_cases c2 : 0 ≤ (l0.length : Int)
 ·rw [if_pos c2] at H
  have c2b0 := eq_true c2
  have c2b1 : decide (0 ≤ (l0.length : Int)) = true := decide_eq_true c2
  clear c2
  by_cases c3 : ((l0.length : Int) : Int).toNat ≤ 11728124029610
  ·rw [if_pos c3] at H
   have c3b0 := eq_true c3
   have c3b1 : decide (((l0.length : Int) : Int).toNat ≤ 11728124029610) = true := decide_eq_true c3
   clear c3
   obtain ⟨y170, hy170⟩ : ∃ y_ : List (S51), y_ = (List.replicate ((l0.length : Int) : Int).toNat z51) := ⟨_, rfl⟩
   replace H : (laws_toNodeS.l0 k l0 y170 0) = some r := by first | (rw [hy170]; with_reducible exact H) | (have H2_ := (Option.bind_some _ _).symm.trans H; rw [hy170]; with_reducible exact H2_) | (have H2_ := (Option.bind_some _ _).symm.trans H; with_reducible exact H2_) | with_reducible exact H | (rw [hy170]; exact H) | exact H
   have Ny170 := Aside0.mk hy170
   clear hy170
   have H' := Aside0.mk H
   clear H
   go_enter Tryd.func18, Tryd.ntmps18
   go_wp2_with (first | ((with_reducible refine gate_dst (N := 7) rfl ?_); refine Kd.R_make k51 _ 51 rfl (N := 7) rfl 27 _ _ rfl (l0.length : Int) rfl rfl Tryd.underlying27 (.agg #[(.int .i64 0), (.int .i64 0), (.int .i64 0)]) 24 info51 rfl (by decide) (by omega) z51 (ok := fun _ => True) (okp := fun _ => True) (k51_mkM _ _ _ z51 ) (fun _ hk => hk) trivial (of_decide_eq_true (by first | (with_reducible assumption) | assumption)) (Nat.le_trans (Nat.mul_le_mul_right _ (of_decide_eq_true (by first | (with_reducible assumption) | assumption) : (l0.length : Int).toNat ≤ 11728124029610)) (by omega)) (Below.refl _ _) (Nat.le_refl _) ?_; intro v171 w4 ho5 hb hg_ hnew_; clear hg_ hnew_; (first | rw [← Ny170.out] at ho5 | (simp only [Int.reduceToNat] at ho5; rw [← Ny170.out] at ho5)); have n0_ := Aside0.mk (Kd.R_lower ho5 (below_size (zb HB.out))); have n1_ := Aside0.mk (below_step (zb HB.out) hb); clear HB; have HO172 := n0_; have HB := n1_; clear n0_ n1_; clear hb ho5))
   go_loopg [4] k (fun kq v4 w' => ∃ (x3_1 : List (S51)) (x4_1 : Int), v4 = .int .i64 x4_1 ∧ Aside0 (laws_toNodeS.l0 kq l0 x3_1 x4_1 = some r) ∧ Aside0 (kq ≤ k) ∧ Aside0 (Kd.R k51 51 w' w.heap.size (fun _ => True) v171 x3_1) ∧ Aside0 (Below w.heap.size w w'))
   case atStart => exact ⟨(y170), (0), (by first | rfl | (simp; done) | (simp [*]; done)), H', ⟨Nat.le_refl _⟩, ⟨zr HO172.out⟩, ⟨zb HB.out⟩⟩
   case round =>
    clear H'
    try clear c1
    try clear c2
    try clear c2b0
    try clear c2b1
    try clear p2
    try clear c3
    try clear c3b0
    try clear c3b1
    obtain ⟨x3_1, x4_1, rfl, HA, HK1, HO_3, HB⟩ := hrel
    cases gk with
    | zero => exact absurd HA.out (by simp [laws_toNodeS.l0])
    | succ k1 =>
     have H := HA.out
     clear HA
     simp only [laws_toNodeS.l0] at H
     by_cases c6 : x4_1 < (l0.length : Int)
     ·rw [if_pos c6] at H
      have c6b0 : decide (x4_1 < (l0.length : Int)) = true := decide_eq_true c6
      clear c6
      by_cases c7 : 0 ≤ x4_1
      ·rw [if_pos c7] at H
       have c7b0 : decide (0 ≤ x4_1) = true := decide_eq_true c7
       clear c7
       replace H := Option.bind_eq_some_iff.mp H
       obtain ⟨⟨t174, t175, t176⟩, A80, H⟩ := H
       replace H : (if x4_1 < (x3_1.length : Int) then (laws_toNodeS.l0 k1 l0 (x3_1.set (x4_1 : Int).toNat (⟨t174, t175, t176⟩ : S51)) (wrap64 (x4_1 + 1))) else (none)) = some r := H
       have A8 := Aside0.mk A80
       clear A80
       by_cases c9 : x4_1 < (x3_1.length : Int)
       ·rw [if_pos c9] at H
        have c9b0 : decide (x4_1 < (x3_1.length : Int)) = true := decide_eq_true c9
        clear c9
        obtain ⟨y177, hy177⟩ : ∃ y_ : List (S51), y_ = (x3_1.set (x4_1 : Int).toNat (⟨t174, t175, t176⟩ : S51)) := ⟨_, rfl⟩
        replace H : (laws_toNodeS.l0 k1 l0 y177 (wrap64 (x4_1 + 1))) = some r := by first | (rw [hy177]; with_reducible exact H) | (have H2_ := (Option.bind_some _ _).symm.trans H; rw [hy177]; with_reducible exact H2_) | (have H2_ := (Option.bind_some _ _).symm.trans H; with_reducible exact H2_) | with_reducible exact H | (rw [hy177]; exact H) | exact H
        have Ny177 := Aside0.mk hy177
        clear hy177
        have H' := Aside0.mk H
        clear H
        have p173 : 0 ≤ (x4_1 : Int) := of_decide_eq_true (by first | (with_reducible assumption) | assumption)
        have q173 : x4_1 < (l0.length : Int) := of_decide_eq_true (by first | (with_reducible assumption) | assumption)
        obtain ⟨ad173, e173, hx173_0, hx173_1, hx173_2⟩ := at_T53 HR0.out x4_1 p173 q173
        cases e173
        replace hx173_0 := (HB.out.cell (World.block_lt_of_cell? w _ hx173_0)).trans hx173_0
        replace hx173_1 := (HB.out.cell (World.block_lt_of_cell? w _ hx173_1)).trans hx173_1
        replace hx173_2 := (HB.out.cell (World.block_lt_of_cell? w _ hx173_2)).trans hx173_2
        replace p173 := eq_true p173
        replace q173 := eq_true q173
        go_wp2_with (first | ((with_reducible refine gate_callee (f := 30) rfl ?_); refine goesL_ (some 20) rfl rfl Tryd.func30 (by kernel_rfl) rfl #[.agg #[.int .i64 ((rd_T53 l0 x4_1).f0), .int .i64 ((rd_T53 l0 x4_1).f1), .int .i64 ((rd_T53 l0 x4_1).f2)]] rfl zl ?_; (with_reducible refine (laws_toNode.calls ((rd_T53 l0 x4_1).f0) ((rd_T53 l0 x4_1).f1) ((rd_T53 l0 x4_1).f2) t174 t175 t176 _ A8.out).mono ?_); rintro e w11 ⟨rfl, hb⟩; refine ⟨_, rfl, ?_⟩; have n0_ := Aside0.mk (Kd.R_below (zr HO_3.out) hb); have n1_ := Aside0.mk (below_step (zb HB.out) hb); clear HO_3; clear HB; have HO_3 := n0_; have HB := n1_; clear n0_ n1_; (try clear hb); (try clear hb2); (try clear hk); (try clear hi); have p10 : 0 ≤ (x4_1 : Int) := of_decide_eq_true (by first | (with_reducible assumption) | assumption); have q10 : (x4_1 : Int) < ((x3_1.length : Int) : Int) := of_decide_eq_true (by first | (with_reducible assumption) | assumption); obtain ⟨go10, co10, eo10, gb10, gl10, cl10, HG10⟩ := Kd.R_form HO_3.out (by omega); (first | cases eo10 | (injection eo10 with ea_ en_ ec_; (first | subst ea_ | (injection ea_ with ea_; subst ea_)); subst ec_; clear en_)); have GB10 := Aside0.mk gb10; have GG10 := Aside0.mk HG10; clear gb10 gl10 HG10; obtain ⟨ce10, hcl10, hM10, hcc10, hfr10⟩ := Kd.R_elem HO_3.out z51 (x4_1 : Int) p10 q10; obtain rfl := k51_openM hM10; have hx10_0 : w11.cell? ⟨go10, (x4_1 : Int).toNat * 3, none⟩ = some (.int .i64 ((rd_T51 x3_1 x4_1).f0)) := hcc10 0 _ rfl; have hx10_1 : w11.cell? ⟨go10, (x4_1 : Int).toNat * 3 + 1, none⟩ = some (.int .i64 ((rd_T51 x3_1 x4_1).f1)) := hcc10 1 _ rfl; have hx10_2 : w11.cell? ⟨go10, (x4_1 : Int).toNat * 3 + 2, none⟩ = some (.int .i64 ((rd_T51 x3_1 x4_1).f2)) := hcc10 2 _ rfl; have hf10_0 : w11.frozen? ⟨go10, (x4_1 : Int).toNat * 3, none⟩ = false := hfr10 0; have hf10_1 : w11.frozen? ⟨go10, (x4_1 : Int).toNat * 3 + 1, none⟩ = false := hfr10 1; have hf10_2 : w11.frozen? ⟨go10, (x4_1 : Int).toNat * 3 + 2, none⟩ = false := hfr10 2; clear hcl10 hcc10 hfr10 hM10; replace p10 := eq_true p10; replace q10 := eq_true q10; have HX12 := Aside0.mk (show Kd.R k51 51 w11 w.heap.size (fun _ => True) (.slice (some ⟨go10, 0, none⟩) x3_1.length co10) x3_1 from (zr HO_3.out)); obtain ⟨ce12, hcl12, hM12, hcc12, hfr12⟩ := Kd.R_elem HX12.out z51 (x4_1 : Int) (of_decide_eq_true (by first | (with_reducible assumption) | assumption)) (by have h_ : (x4_1 : Int) < ((x3_1.length : Int) : Int) := of_decide_eq_true (by first | (with_reducible assumption) | assumption); first | exact h_ | (have e_ := (Kd.R_reads' HO_3.out).1; omega) | simpa using h_); obtain rfl := k51_openM hM12; have HP12 := Kd.R_seg HX12.out (x4_1 : Int) (of_decide_eq_true (by first | (with_reducible assumption) | assumption)) (by have h_ : (x4_1 : Int) < ((x3_1.length : Int) : Int) := of_decide_eq_true (by first | (with_reducible assumption) | assumption); first | exact h_ | (have e_ := (Kd.R_reads' HO_3.out).1; omega) | simpa using h_) (seg := [.int .i64 t174, .int .i64 t175, .int .i64 t176]) (j := 0) hcl12 hcc12 (show 3 ≤ 3 from by decide) (x' := (⟨t174, t175, t176⟩ : S51)) (k51_mkM _ _ _ (⟨t174, t175, t176⟩ : S51) ) (fun _ hk => hk); have hx12_0 := hcc12 0 _ rfl; (try simp only [show (k51).sz = 3 from rfl, Nat.mul_one, Nat.add_zero] at hx12_0); have hf12_0 := hfr12 0; (try simp only [show (k51).sz = 3 from rfl, Nat.mul_one, Nat.add_zero] at hf12_0); have hx12_1 := hcc12 1 _ rfl; (try simp only [show (k51).sz = 3 from rfl, Nat.mul_one, Nat.add_zero] at hx12_1); have hf12_1 := hfr12 1; (try simp only [show (k51).sz = 3 from rfl, Nat.mul_one, Nat.add_zero] at hf12_1); have hx12_2 := hcc12 2 _ rfl; (try simp only [show (k51).sz = 3 from rfl, Nat.mul_one, Nat.add_zero] at hx12_2); have hf12_2 := hfr12 2; (try simp only [show (k51).sz = 3 from rfl, Nat.mul_one, Nat.add_zero] at hf12_2); clear hcl12 hcc12 hfr12 hM12) | ((with_reducible refine gate_store (t := 51) (p := 21) rfl ?_); refine store_event (t := 51) (p := 21) (v := ?vo_w13) (w1 := (((w11.setCell ⟨go10, (x4_1 : Int).toNat * 3, none⟩ (.int .i64 t174)).setCell ⟨go10, (x4_1 : Int).toNat * 3 + 1, none⟩ (.int .i64 t175)).setCell ⟨go10, (x4_1 : Int).toNat * 3 + 2, none⟩ (.int .i64 t176))) ?hg ?ho ?hn ?hr ?_; (case ho => rfl); (case hg => rfl); (case hn => rfl); (case hr => first | (go_simp; done) | (go_simp; rfl)); intro w13 hw; have hg : w11.grownBy w13 (some go10) := (by rw [hw]; exact HP12.2); have hp_ : Kd.R k51 51 w13 w.heap.size (fun _ => True) (.slice (some ⟨go10, 0, none⟩) x3_1.length co10) y177 := (by rw [hw, Ny177.out]; exact HP12.1); clear HP12; have n0_ := Aside0.mk (hp_); have n1_ := Aside0.mk ((by rw [hw]; exact below_set (below_set (below_set (HB.out) GB10.out) GB10.out) GB10.out : Below w.heap.size w w13)); clear HO_3; clear HB; have HO_3 := n0_; have HB := n1_; clear n0_ n1_; clear hg hw hp_))
        go_roundg k1
        case measure => have := HK1.out; omega
        case rel => exact ⟨(y177), (wrap64 (x4_1 + 1)), (by first | rfl | (simp; done) | (simp [*]; done)), H', ⟨by have := HK1.out; omega⟩, ⟨zr HO_3.out⟩, ⟨zb HB.out⟩⟩
       ·rw [if_neg c9] at H
        exact absurd H (by simp)
      ·rw [if_neg c7] at H
       exact absurd H (by simp)
     ·rw [if_neg c6] at H
      have c6b0 : decide (x4_1 < (l0.length : Int)) = false := decide_eq_false c6
      clear c6
      obtain rfl := Option.some.inj H
      go_wp2
      go_ret
      exact ⟨_, ze, zr HO_3.out, zb HB.out⟩
  ·rw [if_neg c3] at H
   exact absurd H (by simp)
 ·rw [if_neg c2] at H
  exact absurd H (by simp)

/-! ### laws_toPool: function 7 -/
def laws_toPool.f (k : Nat) (l0_0 : List (S53)) : Option ((List (S51))) := (laws_toNodeS.f k l0_0).bind fun t181 => (some t181)
set_option maxHeartbeats 8000000 in
set_option maxRecDepth 100000 in
theorem laws_toPool.calls (k : Nat) (A0_0 : Option Addr) (c0_0 : Nat) (l0_0 : List (S53)) (r : List (S51)) (w : World) (hr0_0 : Kd.C k53 w A0_0 l0_0.length l0_0) (hc0_0 : l0_0.length ≤ c0_0) (h : laws_toPool.f k l0_0 = some r) :
  Calls Tryd.prog 7 #[.agg #[.slice A0_0 l0_0.length c0_0]] w fun e w' => ∃ v0_ : Value, e = .returned (.agg #[v0_]) ∧ Kd.R k51 51 w' w.heap.size (fun _ => True) v0_ r ∧ Below w.heap.size w w' := by
 have hu24 := Tryd.underlying24
 have hu29 := Tryd.underlying29
 have HR0_0 := Aside0.mk hr0_0
 have HC0_0 := Aside0.mk hc0_0
 clear hr0_0 hc0_0
 have HB := Aside0.mk (Below.refl w.heap.size w)
 have H : ((laws_toNodeS.f k l0_0).bind fun t181 => (some t181)) = some r := h
 clear h
 replace H := Option.bind_eq_some_iff.mp H
 obtain ⟨t181, A20, H⟩ := H
 replace H : (some t181) = some r := H
 have A2 := Aside0.mk A20
 clear A20
 obtain rfl := Option.some.inj H
 go_enter Tryd.func7, Tryd.ntmps7
 go_wp2_with (first | ((with_reducible refine gate_dst (N := 1) rfl ?_); refine box_event ?hg (N := 1) ?hd (cs := #[.slice A0_0 l0_0.length c0_0]) (t := 24) ?hr ?_; (case hd => rfl); (case hg => rfl); (case hr => first | (go_simp; done) | (go_simp; rfl)); intro gb178 hg w3 hbox hb; have n0_ := Aside0.mk (below_step (zb HB.out) hb); have n1_ := Aside0.mk (hbox); have n2_ := Aside0.mk ((by rw [hg]; exact (below_size (zb HB.out)) : w.heap.size ≤ gb178)); have n3_ := Aside0.mk ((by rw [hg]; exact (below_size (zb HB.out)) : w.heap.size ≤ gb178)); clear HB; have HB := n0_; have BK178 := n1_; have GW178 := n2_; have GE178 := n3_; clear n0_ n1_ n2_ n3_; clear hb hbox hg) | ((with_reducible refine gate_dst (N := 2) rfl ?_); refine box_event ?hg (N := 2) ?hd (cs := #[.slice none 0 0]) (t := 29) ?hr ?_; (case hd => rfl); (case hg => rfl); (case hr => first | (go_simp; done) | (go_simp; rfl)); intro gb179 hg w4 hbox hb; have n0_ := Aside0.mk (blk_below (zh BK178.out) hb); have n1_ := Aside0.mk (below_step (zb HB.out) hb); have n2_ := Aside0.mk (hbox); have n3_ := Aside0.mk ((by rw [hg]; exact (below_size (zb HB.out)) : w.heap.size ≤ gb179)); have n4_ := Aside0.mk ((by rw [hg]; exact (below_size (zb HB.out)) : w.heap.size ≤ gb179)); have n5_ := Aside0.mk ((by rw [hg]; exact Nat.ne_of_lt (blk_lt (zh BK178.out)) : gb178 ≠ gb179)); have n6_ := Aside0.mk ((by rw [hg]; exact Nat.ne_of_gt (blk_lt (zh BK178.out)) : gb179 ≠ gb178)); clear BK178; clear HB; have BK178 := n0_; have HB := n1_; have BK179 := n2_; have GW179 := n3_; have GE179 := n4_; have NB178_179 := n5_; have NB179_178 := n6_; clear n0_ n1_ n2_ n3_ n4_ n5_ n6_; clear hb hbox hg) | ((with_reducible refine gate_dst (N := 3) rfl ?_); refine box_event ?hg (N := 3) ?hd (cs := #[.slice none 0 0]) (t := 29) ?hr ?_; (case hd => rfl); (case hg => rfl); (case hr => first | (go_simp; done) | (go_simp; rfl)); intro gb180 hg w5 hbox hb; have n0_ := Aside0.mk (blk_below (zh BK178.out) hb); have n1_ := Aside0.mk (blk_below (zh BK179.out) hb); have n2_ := Aside0.mk (below_step (zb HB.out) hb); have n3_ := Aside0.mk (hbox); have n4_ := Aside0.mk ((by rw [hg]; exact (below_size (zb HB.out)) : w.heap.size ≤ gb180)); have n5_ := Aside0.mk ((by rw [hg]; exact (below_size (zb HB.out)) : w.heap.size ≤ gb180)); have n6_ := Aside0.mk ((by rw [hg]; exact Nat.ne_of_lt (blk_lt (zh BK178.out)) : gb178 ≠ gb180)); have n7_ := Aside0.mk ((by rw [hg]; exact Nat.ne_of_gt (blk_lt (zh BK178.out)) : gb180 ≠ gb178)); have n8_ := Aside0.mk ((by rw [hg]; exact Nat.ne_of_lt (blk_lt (zh BK179.out)) : gb179 ≠ gb180)); have n9_ := Aside0.mk ((by rw [hg]; exact Nat.ne_of_gt (blk_lt (zh BK179.out)) : gb180 ≠ gb179)); clear BK178; clear BK179; clear HB; have BK178 := n0_; have BK179 := n1_; have HB := n2_; have BK180 := n3_; have GW180 := n4_; have GE180 := n5_; have NB178_180 := n6_; have NB180_178 := n7_; have NB179_180 := n8_; have NB180_179 := n9_; clear n0_ n1_ n2_ n3_ n4_ n5_ n6_ n7_ n8_ n9_; clear hb hbox hg; have hnb6 := NB178_179.out; have hnc6 := NB179_178.out; have hnb7 := NB178_180.out; have hnc7 := NB180_178.out; have hcz8_0 : w5.cell? ⟨gb178, 0, none⟩ = some (.slice A0_0 l0_0.length c0_0) := (blk_cell BK178.out 0).trans rfl; have hfz8_0 := blk_frozen BK178.out 0) | ((with_reducible refine gate_callee (f := 18) rfl ?_); refine goesL_ (some 6) rfl rfl Tryd.func18 (by kernel_rfl) rfl #[.slice A0_0 l0_0.length c0_0] rfl zl ?_; (with_reducible refine (laws_toNodeS.calls k _ _ l0_0 t181 _ ?side1 ?side2 A2.out).mono ?_); (case side1 => exact zc (Kd.C_below HR0_0.out HB.out)); (case side2 => exact HC0_0.out); rintro e w9 ⟨v182, rfl, ho0, hb⟩; refine ⟨_, rfl, ?_⟩; have n0_ := Aside0.mk (Kd.R_lower ho0 (below_size (zb HB.out))); have n1_ := Aside0.mk (blk_below (zh BK178.out) hb); have n2_ := Aside0.mk (blk_below (zh BK179.out) hb); have n3_ := Aside0.mk (blk_below (zh BK180.out) hb); have n4_ := Aside0.mk (below_step (zb HB.out) hb); clear BK178; clear BK179; clear BK180; clear HB; have HO183 := n0_; have BK178 := n1_; have BK179 := n2_; have BK180 := n3_; have HB := n4_; clear n0_ n1_ n2_ n3_ n4_; (try clear hb); (try clear hb2); (try clear hk); (try clear hi); (try clear ho0); obtain ⟨Ao10, co10, eo10⟩ := Kd.R_slice HO183.out; subst eo10; have hnb11 := NB180_179.out; have hnc11 := NB179_180.out; have hcz12_0 : w9.cell? ⟨gb180, 0, none⟩ = some (.slice none 0 0) := (blk_cell BK180.out 0).trans rfl; have hfz12_0 := blk_frozen BK180.out 0; have hcz13_0 : w9.cell? ⟨gb179, 0, none⟩ = some (.slice none 0 0) := (blk_cell BK179.out 0).trans rfl; have hfz13_0 := blk_frozen BK179.out 0))
 refine bodyPost_ret (results_cell_row rfl _ _ gb179 29 #[.slice Ao10 t181.length co10] (0, 0) _ rfl (by (with_reducible repeat (first | refine blk_drewN ?_ _ | refine blk_drew ?_ | refine blk_alloc ?_ _)); refine blk_put (cs := #[.slice none 0 0]) ?_ 0 _ rfl; (with_reducible repeat (first | refine blk_drewN ?_ _ | refine blk_drew ?_ | refine blk_alloc ?_ _)); refine blk_far ?_ NB179_180.out _; (with_reducible repeat (first | refine blk_drewN ?_ _ | refine blk_drew ?_ | refine blk_alloc ?_ _)); exact BK179.out) Tryd.underlying29 rfl (by kernel_rfl)) rfl ?_
 exact ⟨_, ze, zr (Kd.R_mono (Kd.R_far (p := ⟨gb179, 0, none⟩) (Kd.R_far (p := ⟨gb180, 0, none⟩) (Kd.R_types (Kd.R_types HO183.out BK180.out (by decide)) BK179.out (by decide)) (fun _ hk => hk.1.2) (.slice Ao10 t181.length co10)) (fun _ hk => hk.2) (.slice Ao10 t181.length co10)) (fun _ hk => trivial)), zb HB.out⟩

/-! ### impl_inRange: function 19 -/
def impl_inRange.f (a0 : Int) (a1 : Int) (a2 : Int) : Option (Bool) := if a0 ≥ a1 then (some (decide (a0 ≤ a2))) else (some false)
set_option maxHeartbeats 8000000 in
set_option maxRecDepth 100000 in
theorem impl_inRange.calls (a0 : Int) (a1 : Int) (a2 : Int) (r : Bool) (w : World) (h : impl_inRange.f a0 a1 a2 = some r) :
  Calls Tryd.prog 19 #[.int .i64 a0, .int .i64 a1, .int .i64 a2] w fun e w' => e = .returned (.bool r) ∧ Drawn0 w w' := by
 have H : (if a0 ≥ a1 then (some (decide (a0 ≤ a2))) else (some false)) = some r := h
 clear h
 by_cases c4 : a0 ≥ a1
 ·rw [if_pos c4] at H
  have c4b0 : decide (a1 ≤ a0) = true := decide_eq_true c4
  clear c4
  obtain rfl := Option.some.inj H
  go_enter Tryd.func19, Tryd.ntmps19
  go_wp2
  go_ret
  exact ⟨by first | rfl | (simp; done) | (simp [*]; done), by repeat (first | exact Drawn0.refl _ | apply Drawn0.step)⟩
 ·rw [if_neg c4] at H
  have c4b0 : decide (a1 ≤ a0) = false := decide_eq_false c4
  clear c4
  obtain rfl := Option.some.inj H
  go_enter Tryd.func19, Tryd.ntmps19
  go_wp2
  go_ret
  exact ⟨by first | rfl | (simp; done) | (simp [*]; done), by repeat (first | exact Drawn0.refl _ | apply Drawn0.step)⟩

/-! ### impl_Pool_isTerm: function 31 -/
def impl_Pool_isTerm.f (l0_0 : List (S51)) (a1 : Int) : Option (Bool) := (impl_inRange.f a1 0 (wrap64 ((l0_0.length : Int) - 1))).bind fun t184 => (some t184)
set_option maxHeartbeats 8000000 in
set_option maxRecDepth 100000 in
theorem impl_Pool_isTerm.calls (g0_ : Nat) (A0_0 : Option Addr) (c0_0 : Nat) (l0_0 : List (S51)) (a1 : Int) (r : Bool) (w : World) (hk0_ : w.heap[g0_]? = some (.cells #[.slice A0_0 l0_0.length c0_0] 29 (0, 0))) (hr0_0 : Kd.C k51 w A0_0 l0_0.length l0_0) (hc0_0 : l0_0.length ≤ c0_0) (h : impl_Pool_isTerm.f l0_0 a1 = some r) :
  Calls Tryd.prog 31 #[.pointer (some ⟨g0_, 0, none⟩), .int .i64 a1] w fun e w' => e = .returned (.bool r) ∧ Below w.heap.size w w' := by
 have HR0_0 := Aside0.mk hr0_0
 have HC0_0 := Aside0.mk hc0_0
 clear hr0_0 hc0_0
 have BK0 := Aside0.mk hk0_
 clear hk0_
 have HB := Aside0.mk (Below.refl w.heap.size w)
 have H : ((impl_inRange.f a1 0 (wrap64 ((l0_0.length : Int) - 1))).bind fun t184 => (some t184)) = some r := h
 clear h
 replace H := Option.bind_eq_some_iff.mp H
 obtain ⟨t184, A30, H⟩ := H
 replace H : (some t184) = some r := H
 have A3 := Aside0.mk A30
 clear A30
 obtain rfl := Option.some.inj H
 have hcz4_0 : w.cell? ⟨g0_, 0, none⟩ = some (.slice A0_0 l0_0.length c0_0) := (blk_cell BK0.out 0).trans rfl
 have hfz4_0 := blk_frozen BK0.out 0
 go_enter Tryd.func31, Tryd.ntmps31
 go_wp2_with (first | ((with_reducible refine gate_callee (f := 19) rfl ?_); refine goesL_ (some 12) rfl rfl Tryd.func19 (by kernel_rfl) rfl #[.int .i64 a1, .int .i64 0, .int .i64 (wrap64 ((l0_0.length : Int) - 1))] rfl zl ?_; (with_reducible refine (impl_inRange.calls a1 0 (wrap64 ((l0_0.length : Int) - 1)) t184 _ A3.out).mono ?_); rintro e w' ⟨rfl, ⟨nd, rfl⟩⟩; refine ⟨_, rfl, ?_⟩))
 go_ret
 exact ⟨ze, zb HB.out⟩

/-! ### impl_count: function 48 -/
def impl_count.j0 : Nat → Int → Bool → Option (Int)
 | 0, _, _ => none
 | k + 1, x3, x6 => if x6 = true then (some 1) else (if x3 = 2 then (some 2) else (if x3 = 3 then (some 2) else (if x3 = 4 then (some 2) else (if x3 = 6 then (some 2) else (if x3 = 8 then (some 2) else (some (-1)))))))
def impl_count.f (k : Nat) (a0 : Int) : Option (Int) := if a0 = 1 then (some 0) else (if a0 = 5 then (impl_count.j0 k a0 (a0 == 5)) else (impl_count.j0 k a0 (a0 == 7)))
set_option maxHeartbeats 8000000 in
set_option maxRecDepth 100000 in
theorem impl_count.calls (k : Nat) (a0 : Int) (r : Int) (w : World) (h : impl_count.f k a0 = some r) :
  Calls Tryd.prog 48 #[.int .i64 a0] w fun e w' => e = .returned (.int .i64 r) ∧ Drawn0 w w' := by
 have H : (if a0 = 1 then (some 0) else (if a0 = 5 then (impl_count.j0 k a0 (a0 == 5)) else (impl_count.j0 k a0 (a0 == 7)))) = some r := h
 clear h
 by_cases c2 : a0 = 1
 ·rw [if_pos c2] at H
  have c2b0 : (a0 == 1) = true := beq_iff_eq.mpr c2
  have c2b1 : (a0 != 1) = false := bne_eq_false_iff_eq.mpr c2
  clear c2
  obtain rfl := Option.some.inj H
  go_enter Tryd.func48, Tryd.ntmps48
  go_wp2
  go_ret
  exact ⟨by first | rfl | (simp; done) | (simp [*]; done), by repeat (first | exact Drawn0.refl _ | apply Drawn0.step)⟩
 ·rw [if_neg c2] at H
  have c2b0 : (a0 == 1) = false := beq_eq_false_iff_ne.mpr c2
  have c2b1 : (a0 != 1) = true := bne_iff_ne.mpr c2
  have HC3 := Aside0.mk H
  clear H
  go_enter Tryd.func48, Tryd.ntmps48
  go_upto_if 6 with (fail)
  go_cut [6] (fun v6 wc => ∃ (kq : Nat) (x6_2 : Bool), v6 = .bool x6_2 ∧ Aside0 (impl_count.j0 kq a0 x6_2 = some r) ∧ Aside0 (kq ≤ k) ∧ Drawn0 w wc)
  case first =>
   have H := HC3.out
   clear HC3
   by_cases c4 : a0 = 5
   ·rw [if_pos c4] at H
    have c4b0 : (a0 == 5) = true := beq_iff_eq.mpr c4
    have c4b1 : (a0 != 5) = false := bne_eq_false_iff_eq.mpr c4
    clear c4
    (first | rw [c4b0] | (simp only [i64_w, i32_w]; rw [c4b0]) | skip)
    have H' := Aside0.mk H
    clear H
    go_wp2
    go_meet
    case rel => exact ⟨_, ((a0 == 5)), (by first | rfl | (simp; done) | (simp [*]; done)), H', ⟨by first | omega | exact Nat.le_refl _⟩, by repeat (first | exact Drawn0.refl _ | apply Drawn0.step)⟩
   ·rw [if_neg c4] at H
    have c4b0 : (a0 == 5) = false := beq_eq_false_iff_ne.mpr c4
    have c4b1 : (a0 != 5) = true := bne_iff_ne.mpr c4
    (first | rw [c4b0] | (simp only [i64_w, i32_w]; rw [c4b0]) | skip)
    have H' := Aside0.mk H
    clear H
    go_wp2
    go_meet
    case rel => exact ⟨_, ((a0 == 7)), (by first | rfl | (simp; done) | (simp [*]; done)), H', ⟨by first | omega | exact Nat.le_refl _⟩, by repeat (first | exact Drawn0.refl _ | apply Drawn0.step)⟩
  case rest =>
   clear HC3
   try clear c2
   try clear c2b0
   try clear c2b1
   try clear p2
   try clear c4
   try clear c4b0
   try clear c4b1
   obtain ⟨kq, x6_2, rfl, HA, HJ2, ⟨mc2, rfl⟩⟩ := hcut
   cases kq with
   | zero => exact absurd HA.out (by simp [impl_count.j0])
   | succ kj2 =>
    have H := HA.out
    clear HA
    simp only [impl_count.j0] at H
    by_cases c5 : x6_2 = true
    ·subst c5
     have H1 : (some 1) = some r := by rw [if_pos rfl] at H; exact H
     clear H
     have H := H1
     clear H1
     obtain rfl := Option.some.inj H
     go_wp2
     go_ret
     exact ⟨by first | rfl | (simp; done) | (simp [*]; done), by repeat (first | exact Drawn0.refl _ | apply Drawn0.step)⟩
    ·replace c5 := Bool.eq_false_iff.mpr c5
     subst c5
     have H1 : (if a0 = 2 then (some 2) else (if a0 = 3 then (some 2) else (if a0 = 4 then (some 2) else (if a0 = 6 then (some 2) else (if a0 = 8 then (some 2) else (some (-1))))))) = some r := by rw [if_neg (show ¬ (false = true) by decide)] at H; exact H
     clear H
     have H := H1
     clear H1
     by_cases c6 : a0 = 2
     ·rw [if_pos c6] at H
      have c6b0 : (a0 == 2) = true := beq_iff_eq.mpr c6
      have c6b1 : (a0 != 2) = false := bne_eq_false_iff_eq.mpr c6
      clear c6
      obtain rfl := Option.some.inj H
      go_wp2
      go_ret
      exact ⟨by first | rfl | (simp; done) | (simp [*]; done), by repeat (first | exact Drawn0.refl _ | apply Drawn0.step)⟩
     ·rw [if_neg c6] at H
      have c6b0 : (a0 == 2) = false := beq_eq_false_iff_ne.mpr c6
      have c6b1 : (a0 != 2) = true := bne_iff_ne.mpr c6
      by_cases c7 : a0 = 3
      ·rw [if_pos c7] at H
       have c7b0 : (a0 == 3) = true := beq_iff_eq.mpr c7
       have c7b1 : (a0 != 3) = false := bne_eq_false_iff_eq.mpr c7
       clear c7
       obtain rfl := Option.some.inj H
       go_wp2
       go_ret
       exact ⟨by first | rfl | (simp; done) | (simp [*]; done), by repeat (first | exact Drawn0.refl _ | apply Drawn0.step)⟩
      ·rw [if_neg c7] at H
       have c7b0 : (a0 == 3) = false := beq_eq_false_iff_ne.mpr c7
       have c7b1 : (a0 != 3) = true := bne_iff_ne.mpr c7
       by_cases c8 : a0 = 4
       ·rw [if_pos c8] at H
        have c8b0 : (a0 == 4) = true := beq_iff_eq.mpr c8
        have c8b1 : (a0 != 4) = false := bne_eq_false_iff_eq.mpr c8
        clear c8
        obtain rfl := Option.some.inj H
        go_wp2
        go_ret
        exact ⟨by first | rfl | (simp; done) | (simp [*]; done), by repeat (first | exact Drawn0.refl _ | apply Drawn0.step)⟩
       ·rw [if_neg c8] at H
        have c8b0 : (a0 == 4) = false := beq_eq_false_iff_ne.mpr c8
        have c8b1 : (a0 != 4) = true := bne_iff_ne.mpr c8
        by_cases c9 : a0 = 6
        ·rw [if_pos c9] at H
         have c9b0 : (a0 == 6) = true := beq_iff_eq.mpr c9
         have c9b1 : (a0 != 6) = false := bne_eq_false_iff_eq.mpr c9
         clear c9
         obtain rfl := Option.some.inj H
         go_wp2
         go_ret
         exact ⟨by first | rfl | (simp; done) | (simp [*]; done), by repeat (first | exact Drawn0.refl _ | apply Drawn0.step)⟩
        ·rw [if_neg c9] at H
         have c9b0 : (a0 == 6) = false := beq_eq_false_iff_ne.mpr c9
         have c9b1 : (a0 != 6) = true := bne_iff_ne.mpr c9
         by_cases c10 : a0 = 8
         ·rw [if_pos c10] at H
          have c10b0 : (a0 == 8) = true := beq_iff_eq.mpr c10
          have c10b1 : (a0 != 8) = false := bne_eq_false_iff_eq.mpr c10
          clear c10
          obtain rfl := Option.some.inj H
          go_wp2
          go_ret
          exact ⟨by first | rfl | (simp; done) | (simp [*]; done), by repeat (first | exact Drawn0.refl _ | apply Drawn0.step)⟩
         ·rw [if_neg c10] at H
          have c10b0 : (a0 == 8) = false := beq_eq_false_iff_ne.mpr c10
          have c10b1 : (a0 != 8) = true := bne_iff_ne.mpr c10
          obtain rfl := Option.some.inj H
          go_wp2
          go_ret
          exact ⟨by first | rfl | (simp; done) | (simp [*]; done), by repeat (first | exact Drawn0.refl _ | apply Drawn0.step)⟩

end Go.Proofs.YtjcemohmlpgfnaaDoor.T
end

section
namespace Go.Proofs.YtjcemohmlpgfnaaDoor.T
open Go.RowKit Go.Proofs.YtjcemohmlpgfnaaDoorW.PrintWords Go.Proofs.YtjcemohmlpgfnaaDoorW.PrintLast Go.Proofs.YtjcemohmlpgfnaaDoorW.PrintMore
attribute [local go_sem] max2_int min2_int max_two min_two max_three min_three max_four min_four   -- for this text's walks alone
set_option linter.unusedVariables false
set_option linter.unusedSimpArgs false
set_option maxRecDepth 100000

/-! ### impl_nodeOk: function 46 -/
def impl_nodeOk.f (k : Nat) (a0_0 : Int) (a0_1 : Int) (a0_2 : Int) (a1 : Int) : Option (Bool) := (impl_count.f k a0_0).bind fun t186 => (if t186 = 0 then ((impl_inRange.f a0_1 0 199).bind fun t187 => (if t187 = true then (some (a0_2 == 0)) else (some false))) else (if t186 = 1 then ((impl_inRange.f a0_1 0 (wrap64 (a1 - 1))).bind fun t188 => (if t188 = true then (some (a0_2 == 0)) else (some false))) else (if t186 = 2 then ((impl_inRange.f a0_1 0 (wrap64 (a1 - 1))).bind fun t189 => (if t189 = true then ((impl_inRange.f a0_2 0 (wrap64 (a1 - 1))).bind fun t190 => (if t190 = true then (if a0_0 = 8 then (some (decide (a0_1 ≤ a0_2))) else (some true)) else (some false))) else (some false))) else (some false))))
set_option maxHeartbeats 8000000 in
set_option maxRecDepth 100000 in
theorem impl_nodeOk.calls (k : Nat) (a0_0 : Int) (a0_1 : Int) (a0_2 : Int) (a1 : Int) (r : Bool) (w : World) (h : impl_nodeOk.f k a0_0 a0_1 a0_2 a1 = some r) :
  Calls Tryd.prog 46 #[.agg #[.int .i64 a0_0, .int .i64 a0_1, .int .i64 a0_2], .int .i64 a1] w fun e w' => e = .returned (.bool r) ∧ Below w.heap.size w w' := by
 have hu51 := Tryd.underlying51
 have HB := Aside0.mk (Below.refl w.heap.size w)
 have H : ((impl_count.f k a0_0).bind fun t186 => (if t186 = 0 then ((impl_inRange.f a0_1 0 199).bind fun t187 => (if t187 = true then (some (a0_2 == 0)) else (some false))) else (if t186 = 1 then ((impl_inRange.f a0_1 0 (wrap64 (a1 - 1))).bind fun t188 => (if t188 = true then (some (a0_2 == 0)) else (some false))) else (if t186 = 2 then ((impl_inRange.f a0_1 0 (wrap64 (a1 - 1))).bind fun t189 => (if t189 = true then ((impl_inRange.f a0_2 0 (wrap64 (a1 - 1))).bind fun t190 => (if t190 = true then (if a0_0 = 8 then (some (decide (a0_1 ≤ a0_2))) else (some true)) else (some false))) else (some false))) else (some false))))) = some r := h
 clear h
 replace H := Option.bind_eq_some_iff.mp H
 obtain ⟨t186, A30, H⟩ := H
 replace H : (if t186 = 0 then ((impl_inRange.f a0_1 0 199).bind fun t187 => (if t187 = true then (some (a0_2 == 0)) else (some false))) else (if t186 = 1 then ((impl_inRange.f a0_1 0 (wrap64 (a1 - 1))).bind fun t188 => (if t188 = true then (some (a0_2 == 0)) else (some false))) else (if t186 = 2 then ((impl_inRange.f a0_1 0 (wrap64 (a1 - 1))).bind fun t189 => (if t189 = true then ((impl_inRange.f a0_2 0 (wrap64 (a1 - 1))).bind fun t190 => (if t190 = true then (if a0_0 = 8 then (some (decide (a0_1 ≤ a0_2))) else (some true)) else (some false))) else (some false))) else (some false)))) = some r := H
 have A3 := Aside0.mk A30
 clear A30
 by_cases c4 : t186 = 0
 ·rw [if_pos c4] at H
  have c4b0 : (t186 == 0) = true := beq_iff_eq.mpr c4
  have c4b1 : (t186 != 0) = false := bne_eq_false_iff_eq.mpr c4
  clear c4
  replace H := Option.bind_eq_some_iff.mp H
  obtain ⟨t187, A50, H⟩ := H
  replace H : (if t187 = true then (some (a0_2 == 0)) else (some false)) = some r := H
  have A5 := Aside0.mk A50
  clear A50
  by_cases c6 : t187 = true
  ·subst c6
   have H1 : (some (a0_2 == 0)) = some r := by rw [if_pos rfl] at H; exact H
   clear H
   have H := H1
   clear H1
   obtain rfl := Option.some.inj H
   go_enter Tryd.func46, Tryd.ntmps46
   go_wp2_with (first | ((with_reducible refine gate_dst (N := 2) rfl ?_); refine box_event ?hg (N := 2) ?hd (cs := #[.int .i64 a0_0, .int .i64 a0_1, .int .i64 a0_2]) (t := 51) ?hr ?_; (case hd => rfl); (case hg => rfl); (case hr => first | (go_simp; done) | (go_simp; rfl)); intro gb185 hg w7 hbox hb; have n0_ := Aside0.mk (below_step (zb HB.out) hb); have n1_ := Aside0.mk (hbox); have n2_ := Aside0.mk ((by rw [hg]; exact (below_size (zb HB.out)) : w.heap.size ≤ gb185)); have n3_ := Aside0.mk ((by rw [hg]; exact (below_size (zb HB.out)) : w.heap.size ≤ gb185)); clear HB; have HB := n0_; have BK185 := n1_; have GW185 := n2_; have GE185 := n3_; clear n0_ n1_ n2_ n3_; clear hb hbox hg; have hcz8_0 : w7.cell? ⟨gb185, 0, none⟩ = some (.int .i64 a0_0) := (blk_cell BK185.out 0).trans rfl; have hcz8_1 : w7.cell? ⟨gb185, 1, none⟩ = some (.int .i64 a0_1) := (blk_cell BK185.out 1).trans rfl; have hcz8_2 : w7.cell? ⟨gb185, 2, none⟩ = some (.int .i64 a0_2) := (blk_cell BK185.out 2).trans rfl; have hfz8_0 := blk_frozen BK185.out 0; have hfz8_1 := blk_frozen BK185.out 1; have hfz8_2 := blk_frozen BK185.out 2) | ((with_reducible refine gate_callee (f := 48) rfl ?_); refine goesL_ (some 7) rfl rfl Tryd.func48 (by kernel_rfl) rfl #[.int .i64 a0_0] rfl zl ?_; (with_reducible refine (impl_count.calls k a0_0 t186 _ A3.out).mono ?_); rintro e w' ⟨rfl, ⟨nd, rfl⟩⟩; refine ⟨_, rfl, ?_⟩) | ((with_reducible refine gate_callee (f := 19) rfl ?_); refine goesL_ (some 12) rfl rfl Tryd.func19 (by kernel_rfl) rfl #[.int .i64 a0_1, .int .i64 0, .int .i64 199] rfl zl ?_; (with_reducible refine (impl_inRange.calls a0_1 0 199 true _ A5.out).mono ?_); rintro e w' ⟨rfl, ⟨nd, rfl⟩⟩; refine ⟨_, rfl, ?_⟩))
   go_ret
   exact ⟨ze, zb HB.out⟩
  ·replace c6 := Bool.eq_false_iff.mpr c6
   subst c6
   have H1 : (some false) = some r := by rw [if_neg (show ¬ (false = true) by decide)] at H; exact H
   clear H
   have H := H1
   clear H1
   obtain rfl := Option.some.inj H
   go_enter Tryd.func46, Tryd.ntmps46
   go_wp2_with (first | ((with_reducible refine gate_dst (N := 2) rfl ?_); refine box_event ?hg (N := 2) ?hd (cs := #[.int .i64 a0_0, .int .i64 a0_1, .int .i64 a0_2]) (t := 51) ?hr ?_; (case hd => rfl); (case hg => rfl); (case hr => first | (go_simp; done) | (go_simp; rfl)); intro gb185 hg w9 hbox hb; have n0_ := Aside0.mk (below_step (zb HB.out) hb); have n1_ := Aside0.mk (hbox); have n2_ := Aside0.mk ((by rw [hg]; exact (below_size (zb HB.out)) : w.heap.size ≤ gb185)); have n3_ := Aside0.mk ((by rw [hg]; exact (below_size (zb HB.out)) : w.heap.size ≤ gb185)); clear HB; have HB := n0_; have BK185 := n1_; have GW185 := n2_; have GE185 := n3_; clear n0_ n1_ n2_ n3_; clear hb hbox hg; have hcz10_0 : w9.cell? ⟨gb185, 0, none⟩ = some (.int .i64 a0_0) := (blk_cell BK185.out 0).trans rfl; have hcz10_1 : w9.cell? ⟨gb185, 1, none⟩ = some (.int .i64 a0_1) := (blk_cell BK185.out 1).trans rfl; have hcz10_2 : w9.cell? ⟨gb185, 2, none⟩ = some (.int .i64 a0_2) := (blk_cell BK185.out 2).trans rfl; have hfz10_0 := blk_frozen BK185.out 0; have hfz10_1 := blk_frozen BK185.out 1; have hfz10_2 := blk_frozen BK185.out 2) | ((with_reducible refine gate_callee (f := 48) rfl ?_); refine goesL_ (some 7) rfl rfl Tryd.func48 (by kernel_rfl) rfl #[.int .i64 a0_0] rfl zl ?_; (with_reducible refine (impl_count.calls k a0_0 t186 _ A3.out).mono ?_); rintro e w' ⟨rfl, ⟨nd, rfl⟩⟩; refine ⟨_, rfl, ?_⟩) | ((with_reducible refine gate_callee (f := 19) rfl ?_); refine goesL_ (some 12) rfl rfl Tryd.func19 (by kernel_rfl) rfl #[.int .i64 a0_1, .int .i64 0, .int .i64 199] rfl zl ?_; (with_reducible refine (impl_inRange.calls a0_1 0 199 false _ A5.out).mono ?_); rintro e w' ⟨rfl, ⟨nd, rfl⟩⟩; refine ⟨_, rfl, ?_⟩))
   go_ret
   exact ⟨ze, zb HB.out⟩
 ·rw [if_neg c4] at H
  have c4b0 : (t186 == 0) = false := beq_eq_false_iff_ne.mpr c4
  have c4b1 : (t186 != 0) = true := bne_iff_ne.mpr c4
  by_cases c11 : t186 = 1
  ·rw [if_pos c11] at H
   have c11b0 : (t186 == 1) = true := beq_iff_eq.mpr c11
   have c11b1 : (t186 != 1) = false := bne_eq_false_iff_eq.mpr c11
   clear c11
   replace H := Option.bind_eq_some_iff.mp H
   obtain ⟨t188, A120, H⟩ := H
   replace H : (if t188 = true then (some (a0_2 == 0)) else (some false)) = some r := H
   have A12 := Aside0.mk A120
   clear A120
   by_cases c13 : t188 = true
   ·subst c13
    have H1 : (some (a0_2 == 0)) = some r := by rw [if_pos rfl] at H; exact H
    clear H
    have H := H1
    clear H1
    obtain rfl := Option.some.inj H
    go_enter Tryd.func46, Tryd.ntmps46
    go_wp2_with (first | ((with_reducible refine gate_dst (N := 2) rfl ?_); refine box_event ?hg (N := 2) ?hd (cs := #[.int .i64 a0_0, .int .i64 a0_1, .int .i64 a0_2]) (t := 51) ?hr ?_; (case hd => rfl); (case hg => rfl); (case hr => first | (go_simp; done) | (go_simp; rfl)); intro gb185 hg w14 hbox hb; have n0_ := Aside0.mk (below_step (zb HB.out) hb); have n1_ := Aside0.mk (hbox); have n2_ := Aside0.mk ((by rw [hg]; exact (below_size (zb HB.out)) : w.heap.size ≤ gb185)); have n3_ := Aside0.mk ((by rw [hg]; exact (below_size (zb HB.out)) : w.heap.size ≤ gb185)); clear HB; have HB := n0_; have BK185 := n1_; have GW185 := n2_; have GE185 := n3_; clear n0_ n1_ n2_ n3_; clear hb hbox hg; have hcz15_0 : w14.cell? ⟨gb185, 0, none⟩ = some (.int .i64 a0_0) := (blk_cell BK185.out 0).trans rfl; have hcz15_1 : w14.cell? ⟨gb185, 1, none⟩ = some (.int .i64 a0_1) := (blk_cell BK185.out 1).trans rfl; have hcz15_2 : w14.cell? ⟨gb185, 2, none⟩ = some (.int .i64 a0_2) := (blk_cell BK185.out 2).trans rfl; have hfz15_0 := blk_frozen BK185.out 0; have hfz15_1 := blk_frozen BK185.out 1; have hfz15_2 := blk_frozen BK185.out 2) | ((with_reducible refine gate_callee (f := 48) rfl ?_); refine goesL_ (some 7) rfl rfl Tryd.func48 (by kernel_rfl) rfl #[.int .i64 a0_0] rfl zl ?_; (with_reducible refine (impl_count.calls k a0_0 t186 _ A3.out).mono ?_); rintro e w' ⟨rfl, ⟨nd, rfl⟩⟩; refine ⟨_, rfl, ?_⟩) | ((with_reducible refine gate_callee (f := 19) rfl ?_); refine goesL_ (some 24) rfl rfl Tryd.func19 (by kernel_rfl) rfl #[.int .i64 a0_1, .int .i64 0, .int .i64 (wrap64 (a1 - 1))] rfl zl ?_; (with_reducible refine (impl_inRange.calls a0_1 0 (wrap64 (a1 - 1)) true _ A12.out).mono ?_); rintro e w' ⟨rfl, ⟨nd, rfl⟩⟩; refine ⟨_, rfl, ?_⟩))
    go_ret
    exact ⟨ze, zb HB.out⟩
   ·replace c13 := Bool.eq_false_iff.mpr c13
    subst c13
    have H1 : (some false) = some r := by rw [if_neg (show ¬ (false = true) by decide)] at H; exact H
    clear H
    have H := H1
    clear H1
    obtain rfl := Option.some.inj H
    go_enter Tryd.func46, Tryd.ntmps46
    go_wp2_with (first | ((with_reducible refine gate_dst (N := 2) rfl ?_); refine box_event ?hg (N := 2) ?hd (cs := #[.int .i64 a0_0, .int .i64 a0_1, .int .i64 a0_2]) (t := 51) ?hr ?_; (case hd => rfl); (case hg => rfl); (case hr => first | (go_simp; done) | (go_simp; rfl)); intro gb185 hg w16 hbox hb; have n0_ := Aside0.mk (below_step (zb HB.out) hb); have n1_ := Aside0.mk (hbox); have n2_ := Aside0.mk ((by rw [hg]; exact (below_size (zb HB.out)) : w.heap.size ≤ gb185)); have n3_ := Aside0.mk ((by rw [hg]; exact (below_size (zb HB.out)) : w.heap.size ≤ gb185)); clear HB; have HB := n0_; have BK185 := n1_; have GW185 := n2_; have GE185 := n3_; clear n0_ n1_ n2_ n3_; clear hb hbox hg; have hcz17_0 : w16.cell? ⟨gb185, 0, none⟩ = some (.int .i64 a0_0) := (blk_cell BK185.out 0).trans rfl; have hcz17_1 : w16.cell? ⟨gb185, 1, none⟩ = some (.int .i64 a0_1) := (blk_cell BK185.out 1).trans rfl; have hcz17_2 : w16.cell? ⟨gb185, 2, none⟩ = some (.int .i64 a0_2) := (blk_cell BK185.out 2).trans rfl; have hfz17_0 := blk_frozen BK185.out 0; have hfz17_1 := blk_frozen BK185.out 1; have hfz17_2 := blk_frozen BK185.out 2) | ((with_reducible refine gate_callee (f := 48) rfl ?_); refine goesL_ (some 7) rfl rfl Tryd.func48 (by kernel_rfl) rfl #[.int .i64 a0_0] rfl zl ?_; (with_reducible refine (impl_count.calls k a0_0 t186 _ A3.out).mono ?_); rintro e w' ⟨rfl, ⟨nd, rfl⟩⟩; refine ⟨_, rfl, ?_⟩) | ((with_reducible refine gate_callee (f := 19) rfl ?_); refine goesL_ (some 24) rfl rfl Tryd.func19 (by kernel_rfl) rfl #[.int .i64 a0_1, .int .i64 0, .int .i64 (wrap64 (a1 - 1))] rfl zl ?_; (with_reducible refine (impl_inRange.calls a0_1 0 (wrap64 (a1 - 1)) false _ A12.out).mono ?_); rintro e w' ⟨rfl, ⟨nd, rfl⟩⟩; refine ⟨_, rfl, ?_⟩))
    go_ret
    exact ⟨ze, zb HB.out⟩
  ·rw [if_neg c11] at H
   have c11b0 : (t186 == 1) = false := beq_eq_false_iff_ne.mpr c11
   have c11b1 : (t186 != 1) = true := bne_iff_ne.mpr c11
   by_cases c18 : t186 = 2
   ·rw [if_pos c18] at H
    have c18b0 : (t186 == 2) = true := beq_iff_eq.mpr c18
    have c18b1 : (t186 != 2) = false := bne_eq_false_iff_eq.mpr c18
    clear c18
    replace H := Option.bind_eq_some_iff.mp H
    obtain ⟨t189, A190, H⟩ := H
    replace H : (if t189 = true then ((impl_inRange.f a0_2 0 (wrap64 (a1 - 1))).bind fun t190 => (if t190 = true then (if a0_0 = 8 then (some (decide (a0_1 ≤ a0_2))) else (some true)) else (some false))) else (some false)) = some r := H
    have A19 := Aside0.mk A190
    clear A190
    by_cases c20 : t189 = true
    ·subst c20
     have H1 : ((impl_inRange.f a0_2 0 (wrap64 (a1 - 1))).bind fun t190 => (if t190 = true then (if a0_0 = 8 then (some (decide (a0_1 ≤ a0_2))) else (some true)) else (some false))) = some r := by rw [if_pos rfl] at H; exact H
     clear H
     have H := H1
     clear H1
     replace H := Option.bind_eq_some_iff.mp H
     obtain ⟨t190, A210, H⟩ := H
     replace H : (if t190 = true then (if a0_0 = 8 then (some (decide (a0_1 ≤ a0_2))) else (some true)) else (some false)) = some r := H
     have A21 := Aside0.mk A210
     clear A210
     by_cases c22 : t190 = true
     ·subst c22
      have H1 : (if a0_0 = 8 then (some (decide (a0_1 ≤ a0_2))) else (some true)) = some r := by rw [if_pos rfl] at H; exact H
      clear H
      have H := H1
      clear H1
      by_cases c23 : a0_0 = 8
      ·rw [if_pos c23] at H
       have c23b0 : (a0_0 == 8) = true := beq_iff_eq.mpr c23
       have c23b1 : (a0_0 != 8) = false := bne_eq_false_iff_eq.mpr c23
       clear c23
       obtain rfl := Option.some.inj H
       go_enter Tryd.func46, Tryd.ntmps46
       go_wp2_with (first | ((with_reducible refine gate_dst (N := 2) rfl ?_); refine box_event ?hg (N := 2) ?hd (cs := #[.int .i64 a0_0, .int .i64 a0_1, .int .i64 a0_2]) (t := 51) ?hr ?_; (case hd => rfl); (case hg => rfl); (case hr => first | (go_simp; done) | (go_simp; rfl)); intro gb185 hg w24 hbox hb; have n0_ := Aside0.mk (below_step (zb HB.out) hb); have n1_ := Aside0.mk (hbox); have n2_ := Aside0.mk ((by rw [hg]; exact (below_size (zb HB.out)) : w.heap.size ≤ gb185)); have n3_ := Aside0.mk ((by rw [hg]; exact (below_size (zb HB.out)) : w.heap.size ≤ gb185)); clear HB; have HB := n0_; have BK185 := n1_; have GW185 := n2_; have GE185 := n3_; clear n0_ n1_ n2_ n3_; clear hb hbox hg; have hcz25_0 : w24.cell? ⟨gb185, 0, none⟩ = some (.int .i64 a0_0) := (blk_cell BK185.out 0).trans rfl; have hcz25_1 : w24.cell? ⟨gb185, 1, none⟩ = some (.int .i64 a0_1) := (blk_cell BK185.out 1).trans rfl; have hcz25_2 : w24.cell? ⟨gb185, 2, none⟩ = some (.int .i64 a0_2) := (blk_cell BK185.out 2).trans rfl; have hfz25_0 := blk_frozen BK185.out 0; have hfz25_1 := blk_frozen BK185.out 1; have hfz25_2 := blk_frozen BK185.out 2) | ((with_reducible refine gate_callee (f := 48) rfl ?_); refine goesL_ (some 7) rfl rfl Tryd.func48 (by kernel_rfl) rfl #[.int .i64 a0_0] rfl zl ?_; (with_reducible refine (impl_count.calls k a0_0 t186 _ A3.out).mono ?_); rintro e w' ⟨rfl, ⟨nd, rfl⟩⟩; refine ⟨_, rfl, ?_⟩) | ((with_reducible refine gate_callee (f := 19) rfl ?_); refine goesL_ (some 36) rfl rfl Tryd.func19 (by kernel_rfl) rfl #[.int .i64 a0_1, .int .i64 0, .int .i64 (wrap64 (a1 - 1))] rfl zl ?_; (with_reducible refine (impl_inRange.calls a0_1 0 (wrap64 (a1 - 1)) true _ A19.out).mono ?_); rintro e w' ⟨rfl, ⟨nd, rfl⟩⟩; refine ⟨_, rfl, ?_⟩) | (go_at_call 19; (with_reducible refine (impl_inRange.calls a0_2 0 (wrap64 (a1 - 1)) true _ A21.out).mono ?_); rintro e w' ⟨rfl, ⟨nd, rfl⟩⟩))
       go_ret
       exact ⟨ze, zb HB.out⟩
      ·rw [if_neg c23] at H
       have c23b0 : (a0_0 == 8) = false := beq_eq_false_iff_ne.mpr c23
       have c23b1 : (a0_0 != 8) = true := bne_iff_ne.mpr c23
       obtain rfl := Option.some.inj H
       go_enter Tryd.func46, Tryd.ntmps46
       go_wp2_with (first | ((with_reducible refine gate_dst (N := 2) rfl ?_); refine box_event ?hg (N := 2) ?hd (cs := #[.int .i64 a0_0, .int .i64 a0_1, .int .i64 a0_2]) (t := 51) ?hr ?_; (case hd => rfl); (case hg => rfl); (case hr => first | (go_simp; done) | (go_simp; rfl)); intro gb185 hg w26 hbox hb; have n0_ := Aside0.mk (below_step (zb HB.out) hb); have n1_ := Aside0.mk (hbox); have n2_ := Aside0.mk ((by rw [hg]; exact (below_size (zb HB.out)) : w.heap.size ≤ gb185)); have n3_ := Aside0.mk ((by rw [hg]; exact (below_size (zb HB.out)) : w.heap.size ≤ gb185)); clear HB; have HB := n0_; have BK185 := n1_; have GW185 := n2_; have GE185 := n3_; clear n0_ n1_ n2_ n3_; clear hb hbox hg; have hcz27_0 : w26.cell? ⟨gb185, 0, none⟩ = some (.int .i64 a0_0) := (blk_cell BK185.out 0).trans rfl; have hcz27_1 : w26.cell? ⟨gb185, 1, none⟩ = some (.int .i64 a0_1) := (blk_cell BK185.out 1).trans rfl; have hcz27_2 : w26.cell? ⟨gb185, 2, none⟩ = some (.int .i64 a0_2) := (blk_cell BK185.out 2).trans rfl; have hfz27_0 := blk_frozen BK185.out 0; have hfz27_1 := blk_frozen BK185.out 1; have hfz27_2 := blk_frozen BK185.out 2) | ((with_reducible refine gate_callee (f := 48) rfl ?_); refine goesL_ (some 7) rfl rfl Tryd.func48 (by kernel_rfl) rfl #[.int .i64 a0_0] rfl zl ?_; (with_reducible refine (impl_count.calls k a0_0 t186 _ A3.out).mono ?_); rintro e w' ⟨rfl, ⟨nd, rfl⟩⟩; refine ⟨_, rfl, ?_⟩) | ((with_reducible refine gate_callee (f := 19) rfl ?_); refine goesL_ (some 36) rfl rfl Tryd.func19 (by kernel_rfl) rfl #[.int .i64 a0_1, .int .i64 0, .int .i64 (wrap64 (a1 - 1))] rfl zl ?_; (with_reducible refine (impl_inRange.calls a0_1 0 (wrap64 (a1 - 1)) true _ A19.out).mono ?_); rintro e w' ⟨rfl, ⟨nd, rfl⟩⟩; refine ⟨_, rfl, ?_⟩) | (go_at_call 19; (with_reducible refine (impl_inRange.calls a0_2 0 (wrap64 (a1 - 1)) true _ A21.out).mono ?_); rintro e w' ⟨rfl, ⟨nd, rfl⟩⟩))
       go_ret
       exact ⟨ze, zb HB.out⟩
     ·replace c22 := Bool.eq_false_iff.mpr c22
      subst c22
      have H1 : (some false) = some r := by rw [if_neg (show ¬ (false = true) by decide)] at H; exact H
      clear H
      have H := H1
      clear H1
      obtain rfl := Option.some.inj H
      go_enter Tryd.func46, Tryd.ntmps46
      go_wp2_with (first | ((with_reducible refine gate_dst (N := 2) rfl ?_); refine box_event ?hg (N := 2) ?hd (cs := #[.int .i64 a0_0, .int .i64 a0_1, .int .i64 a0_2]) (t := 51) ?hr ?_; (case hd => rfl); (case hg => rfl); (case hr => first | (go_simp; done) | (go_simp; rfl)); intro gb185 hg w28 hbox hb; have n0_ := Aside0.mk (below_step (zb HB.out) hb); have n1_ := Aside0.mk (hbox); have n2_ := Aside0.mk ((by rw [hg]; exact (below_size (zb HB.out)) : w.heap.size ≤ gb185)); have n3_ := Aside0.mk ((by rw [hg]; exact (below_size (zb HB.out)) : w.heap.size ≤ gb185)); clear HB; have HB := n0_; have BK185 := n1_; have GW185 := n2_; have GE185 := n3_; clear n0_ n1_ n2_ n3_; clear hb hbox hg; have hcz29_0 : w28.cell? ⟨gb185, 0, none⟩ = some (.int .i64 a0_0) := (blk_cell BK185.out 0).trans rfl; have hcz29_1 : w28.cell? ⟨gb185, 1, none⟩ = some (.int .i64 a0_1) := (blk_cell BK185.out 1).trans rfl; have hcz29_2 : w28.cell? ⟨gb185, 2, none⟩ = some (.int .i64 a0_2) := (blk_cell BK185.out 2).trans rfl; have hfz29_0 := blk_frozen BK185.out 0; have hfz29_1 := blk_frozen BK185.out 1; have hfz29_2 := blk_frozen BK185.out 2) | ((with_reducible refine gate_callee (f := 48) rfl ?_); refine goesL_ (some 7) rfl rfl Tryd.func48 (by kernel_rfl) rfl #[.int .i64 a0_0] rfl zl ?_; (with_reducible refine (impl_count.calls k a0_0 t186 _ A3.out).mono ?_); rintro e w' ⟨rfl, ⟨nd, rfl⟩⟩; refine ⟨_, rfl, ?_⟩) | ((with_reducible refine gate_callee (f := 19) rfl ?_); refine goesL_ (some 36) rfl rfl Tryd.func19 (by kernel_rfl) rfl #[.int .i64 a0_1, .int .i64 0, .int .i64 (wrap64 (a1 - 1))] rfl zl ?_; (with_reducible refine (impl_inRange.calls a0_1 0 (wrap64 (a1 - 1)) true _ A19.out).mono ?_); rintro e w' ⟨rfl, ⟨nd, rfl⟩⟩; refine ⟨_, rfl, ?_⟩) | (go_at_call 19; (with_reducible refine (impl_inRange.calls a0_2 0 (wrap64 (a1 - 1)) false _ A21.out).mono ?_); rintro e w' ⟨rfl, ⟨nd, rfl⟩⟩))
      go_ret
      exact ⟨ze, zb HB.out⟩
    ·replace c20 := Bool.eq_false_iff.mpr c20
     subst c20
     have H1 : (some false) = some r := by rw [if_neg (show ¬ (false = true) by decide)] at H; exact H
     clear H
     have H := H1
     clear H1
     obtain rfl := Option.some.inj H
     go_enter Tryd.func46, Tryd.ntmps46
     go_wp2_with (first | ((with_reducible refine gate_dst (N := 2) rfl ?_); refine box_event ?hg (N := 2) ?hd (cs := #[.int .i64 a0_0, .int .i64 a0_1, .int .i64 a0_2]) (t := 51) ?hr ?_; (case hd => rfl); (case hg => rfl); (case hr => first | (go_simp; done) | (go_simp; rfl)); intro gb185 hg w30 hbox hb; have n0_ := Aside0.mk (below_step (zb HB.out) hb); have n1_ := Aside0.mk (hbox); have n2_ := Aside0.mk ((by rw [hg]; exact (below_size (zb HB.out)) : w.heap.size ≤ gb185)); have n3_ := Aside0.mk ((by rw [hg]; exact (below_size (zb HB.out)) : w.heap.size ≤ gb185)); clear HB; have HB := n0_; have BK185 := n1_; have GW185 := n2_; have GE185 := n3_; clear n0_ n1_ n2_ n3_; clear hb hbox hg; have hcz31_0 : w30.cell? ⟨gb185, 0, none⟩ = some (.int .i64 a0_0) := (blk_cell BK185.out 0).trans rfl; have hcz31_1 : w30.cell? ⟨gb185, 1, none⟩ = some (.int .i64 a0_1) := (blk_cell BK185.out 1).trans rfl; have hcz31_2 : w30.cell? ⟨gb185, 2, none⟩ = some (.int .i64 a0_2) := (blk_cell BK185.out 2).trans rfl; have hfz31_0 := blk_frozen BK185.out 0; have hfz31_1 := blk_frozen BK185.out 1; have hfz31_2 := blk_frozen BK185.out 2) | ((with_reducible refine gate_callee (f := 48) rfl ?_); refine goesL_ (some 7) rfl rfl Tryd.func48 (by kernel_rfl) rfl #[.int .i64 a0_0] rfl zl ?_; (with_reducible refine (impl_count.calls k a0_0 t186 _ A3.out).mono ?_); rintro e w' ⟨rfl, ⟨nd, rfl⟩⟩; refine ⟨_, rfl, ?_⟩) | ((with_reducible refine gate_callee (f := 19) rfl ?_); refine goesL_ (some 36) rfl rfl Tryd.func19 (by kernel_rfl) rfl #[.int .i64 a0_1, .int .i64 0, .int .i64 (wrap64 (a1 - 1))] rfl zl ?_; (with_reducible refine (impl_inRange.calls a0_1 0 (wrap64 (a1 - 1)) false _ A19.out).mono ?_); rintro e w' ⟨rfl, ⟨nd, rfl⟩⟩; refine ⟨_, rfl, ?_⟩))
     go_ret
     exact ⟨ze, zb HB.out⟩
   ·rw [if_neg c18] at H
    have c18b0 : (t186 == 2) = false := beq_eq_false_iff_ne.mpr c18
    have c18b1 : (t186 != 2) = true := bne_iff_ne.mpr c18
    obtain rfl := Option.some.inj H
    go_enter Tryd.func46, Tryd.ntmps46
    go_wp2_with (first | ((with_reducible refine gate_dst (N := 2) rfl ?_); refine box_event ?hg (N := 2) ?hd (cs := #[.int .i64 a0_0, .int .i64 a0_1, .int .i64 a0_2]) (t := 51) ?hr ?_; (case hd => rfl); (case hg => rfl); (case hr => first | (go_simp; done) | (go_simp; rfl)); intro gb185 hg w32 hbox hb; have n0_ := Aside0.mk (below_step (zb HB.out) hb); have n1_ := Aside0.mk (hbox); have n2_ := Aside0.mk ((by rw [hg]; exact (below_size (zb HB.out)) : w.heap.size ≤ gb185)); have n3_ := Aside0.mk ((by rw [hg]; exact (below_size (zb HB.out)) : w.heap.size ≤ gb185)); clear HB; have HB := n0_; have BK185 := n1_; have GW185 := n2_; have GE185 := n3_; clear n0_ n1_ n2_ n3_; clear hb hbox hg; have hcz33_0 : w32.cell? ⟨gb185, 0, none⟩ = some (.int .i64 a0_0) := (blk_cell BK185.out 0).trans rfl; have hcz33_1 : w32.cell? ⟨gb185, 1, none⟩ = some (.int .i64 a0_1) := (blk_cell BK185.out 1).trans rfl; have hcz33_2 : w32.cell? ⟨gb185, 2, none⟩ = some (.int .i64 a0_2) := (blk_cell BK185.out 2).trans rfl; have hfz33_0 := blk_frozen BK185.out 0; have hfz33_1 := blk_frozen BK185.out 1; have hfz33_2 := blk_frozen BK185.out 2) | ((with_reducible refine gate_callee (f := 48) rfl ?_); refine goesL_ (some 7) rfl rfl Tryd.func48 (by kernel_rfl) rfl #[.int .i64 a0_0] rfl zl ?_; (with_reducible refine (impl_count.calls k a0_0 t186 _ A3.out).mono ?_); rintro e w' ⟨rfl, ⟨nd, rfl⟩⟩; refine ⟨_, rfl, ?_⟩))
    go_ret
    exact ⟨ze, zb HB.out⟩

end Go.Proofs.YtjcemohmlpgfnaaDoor.T
end

section
namespace Go.Proofs.YtjcemohmlpgfnaaDoor.T
open Go.RowKit Go.Proofs.YtjcemohmlpgfnaaDoorW.PrintWords Go.Proofs.YtjcemohmlpgfnaaDoorW.PrintLast Go.Proofs.YtjcemohmlpgfnaaDoorW.PrintMore
attribute [local go_sem] max2_int min2_int max_two min_two max_three min_three max_four min_four   -- for this text's walks alone
set_option linter.unusedVariables false
set_option linter.unusedSimpArgs false
set_option maxRecDepth 100000


/-! ### impl_PoolOk: function 32 -/
-- IMPORT Derived.ChangeMaps4
-- IMPORT Derived.MapKept
-- IMPORT Derived.RegionTactic
-- IMPORT Derived.ChangeAlike
-- IMPORT Derived.Laws.StructEq
/-! #### a map from nodes to counts, by hand -/
instance decN : DecidableEq S51 := fun a b =>
 if h : a.f0 = b.f0 ∧ a.f1 = b.f1 ∧ a.f2 = b.f2 then .isTrue (by cases a; cases b; simp_all) else .isFalse (fun e => h (by subst e; exact ⟨rfl, rfl, rfl⟩))
def encN (n : S51) : Value := .agg #[.int .i64 n.f0, .int .i64 n.f1, .int .i64 n.f2]
theorem eqN (d : Nat) (w : World) (x0 y0 : Int) (x1 y1 : Int) (x2 y2 : Int) :
  (Op.equalIn (d + 2) 51 (.agg #[.int .i64 x0, .int .i64 x1, .int .i64 x2]) (.agg #[.int .i64 y0, .int .i64 y1, .int .i64 y2])).run Tryd.prog w = .ok (x0 == y0 && (x1 == y1 && (x2 == y2))) w := by
 refine eqA_of Tryd.underlying51 (by kernel_rfl) ?_
 refine eqf_cons (by rfl) (by go_simp; rfl) (by go_simp; rfl) (by go_simp) ?_
 refine eqf_cons (by rfl) (by go_simp; rfl) (by go_simp; rfl) (by go_simp) ?_
 exact eqf_last (by rfl) (by go_simp; rfl) (by go_simp; rfl) (by go_simp)
theorem run_eqN (w : World) (a b : S51) : (Op.equal 51 (encN a) (encN b)).run Tryd.prog w = .ok (decide (a = b)) w := by
 have h := eqN 9998 w a.f0 b.f0 a.f1 b.f1 a.f2 b.f2
 have e : (a.f0 == b.f0 && (a.f1 == b.f1 && (a.f2 == b.f2))) = decide (a = b) := by
  rw [Bool.eq_iff_iff]
  cases a; cases b
  simp
 rw [e] at h
 simp only [Op.equal, Op.maxDepth, encN]
 exact h
def lookN : List (S51 × Int) → S51 → Nat → Option (Nat × Int)
 | [], _, _ => none
 | (m, v) :: r, n, i => if n = m then some (i, v) else lookN r n (i + 1)
def entsN (es : List MapEntry) (kv : List (S51 × Int)) : Prop := es.map (fun e => (e.key, e.val)) = kv.map (fun p => (encN p.1, Value.int .i64 p.2))
theorem run_askN (w : World) (n : S51) : ∀ (es : List MapEntry) (kv : List (S51 × Int)) (i : Nat), entsN es kv →
  (Instr.findAsking 51 (encN n) es i).run Tryd.prog w = .ok ((lookN kv n i).map fun p => (p.1, Value.int .i64 p.2)) w
 | [], [], i, _ => by simp [Instr.findAsking, lookN]
 | [], _ :: _, i, h => by simp [entsN] at h
 | _ :: _, [], i, h => by simp [entsN] at h
 | e :: es, (m, v) :: kv, i, h => by
  simp only [entsN, List.map_cons, List.cons.injEq, Prod.mk.injEq] at h
  obtain ⟨⟨h1, h2⟩, h3⟩ := h
  have ih := run_askN w n es kv (i + 1) h3
  simp only [Instr.findAsking, Sem.run_bind, h1, h2, run_eqN, Result.andThen_ok, lookN]
  by_cases hn : n = m
  ·simp [hn]
  ·simp [hn, ih]
theorem run_findN (w : World) (n : S51) (es : List MapEntry) (kv : List (S51 × Int)) (h : entsN es kv) :
  (Instr.findKey 51 (encN n) es).run Tryd.prog w = .ok ((lookN kv n 0).map fun p => (p.1, Value.int .i64 p.2)) w := by
 cases es with
 | nil =>
  cases kv with
  | nil => simp [Instr.findKey, run_underlying Tryd.underlying51, Instr.findNow, lookN, Result.andThen]
  | cons p r => simp [entsN] at h
 | cons e r =>
  have h0 := run_askN w n (e :: r) kv 0 h
  have hn : ∀ (k : Value) (d : Array Field), Instr.findNow (.struct d) (encN n) (e :: r) 0 = none := fun _ d => by simp [Instr.findNow, Instr.sameNow]
  simp only [Instr.findKey, Sem.run_bind, run_underlying Tryd.underlying51, Result.andThen_ok, hn .nilIface]
  exact h0
theorem run_checkN (w : World) (em : Bool) (n : S51) : (Instr.checkKey em 10000 51 (encN n)).run Tryd.prog w = .ok () w := by
 cases n
 kernel_rfl
theorem run_staysN (w : World) (n : S51) : (Instr.keyThatStays (encN n) (encN n)).run Tryd.prog w = .ok (encN n) w := by
 have h : Instr.sameBits 10000 (encN n) (encN n) = true := by simp [encN, Instr.sameBits]
 simp [Instr.keyThatStays, h]
theorem zeroN (w : World) : (zeroValue 3).run Tryd.prog w = .ok (.int .i64 0) w := by kernel_rfl
def MapN (w : World) (b : Nat) (kv : List (S51 × Int)) : Prop :=
 ∃ es clock, w.heap[b]? = some (.map es clock) ∧ entsN es.toList kv ∧ (∀ x ∈ es.toList, x.born < clock) ∧ (es.toList.map (·.born)).Nodup
def cntN (kv : List (S51 × Int)) (n : S51) : Int := ((lookN kv n 0).map (·.2)).getD 0
theorem MapN.look {w : World} {b : Nat} {kv : List (S51 × Int)} (h : MapN w b kv) (n : S51) :
  (Instr.lookup 74 (.map (some b)) (encN n) false).run Tryd.prog w = .ok (.int .i64 (cntN kv n)) w := by
 obtain ⟨es, clock, hb, he, _, _⟩ := h
 simp only [Instr.lookup, Sem.run_bind, run_underlying Tryd.underlying74, Result.andThen_ok, MapKept.run_getObj_map hb, Sem.run_pure, run_checkN, run_findN w n es.toList kv he, cntN]
 cases lookN kv n 0 with
 | none => simp [zeroN, Result.andThen]
 | some p => simp [Result.andThen]
def setN : List (S51 × Int) → S51 → Int → List (S51 × Int)
 | [], n, x => [(n, x)]
 | (m, v) :: r, n, x => if n = m then (m, x) :: r else (m, v) :: setN r n x
theorem lookN_shift (kv : List (S51 × Int)) (n : S51) : ∀ i j, (lookN kv n (i + j)) = (lookN kv n i).map fun p => (p.1 + j, p.2) := by
 induction kv with
 | nil => intro i j; rfl
 | cons p r ih =>
  intro i j
  obtain ⟨m, v⟩ := p
  simp only [lookN]
  split
  ·rfl
  ·rw [show i + j + 1 = (i + 1) + j by omega]; exact ih (i + 1) j
theorem cntN_set (kv : List (S51 × Int)) (n : S51) (x : Int) : cntN (setN kv n x) n = x := by
 have key : ∀ i, (lookN (setN kv n x) n i).map (·.2) = some x := by
  induction kv with
  | nil => intro i; simp [setN, lookN]
  | cons p r ih =>
   intro i
   obtain ⟨m, v⟩ := p
   by_cases e : n = m
   ·simp [setN, lookN, e]
   ·simp [setN, lookN, e]; simpa using ih (i + 1)
 simp [cntN, key 0]
theorem setN_new (kv : List (S51 × Int)) (n : S51) (x : Int) (h : n ∉ kv.map (·.1)) : setN kv n x = kv ++ [(n, x)] := by
 induction kv with
 | nil => rfl
 | cons p r ih =>
  obtain ⟨m, v⟩ := p
  simp only [List.map_cons, List.mem_cons, not_or] at h
  simp [setN, h.1, ih h.2]
theorem cntN_ones (l : List S51) (n : S51) : cntN (l.map fun m => (m, (1 : Int))) n = if n ∈ l then 1 else 0 := by
 have key : ∀ i, (lookN (l.map fun m => (m, (1 : Int))) n i).map (·.2) = if n ∈ l then some 1 else none := by
  induction l with
  | nil => intro i; simp [lookN]
  | cons m r ih =>
   intro i
   by_cases e : n = m
   ·simp [lookN, e]
   ·simp [lookN, e]; simpa using ih (i + 1)
 unfold cntN
 rw [key 0]
 split <;> simp
theorem lookN_none {kv : List (S51 × Int)} {n : S51} : ∀ {i}, lookN kv n i = none → ∀ x, setN kv n x = kv ++ [(n, x)] := by
 induction kv with
 | nil => intro i _ x; rfl
 | cons p r ih =>
  intro i h x
  obtain ⟨m, v⟩ := p
  simp only [lookN] at h
  split at h
  ·cases h
  ·rename_i e
   simp [setN, e, ih h x]
theorem lookN_some {n : S51} : ∀ {kv : List (S51 × Int)} {i j : Nat} {v : Int}, lookN kv n i = some (i + j, v) → kv[j]? = some (n, v) ∧ ∀ x, setN kv n x = kv.set j (n, x)
 | [], i, j, v, h => by simp [lookN] at h
 | (m, u) :: r, i, j, v, h => by
  simp only [lookN] at h
  split at h
  ·rename_i e
   simp only [Option.some.injEq, Prod.mk.injEq] at h
   obtain ⟨h1, rfl⟩ := h
   obtain rfl : j = 0 := by omega
   subst e
   exact ⟨rfl, fun x => by simp [setN]⟩
  ·rename_i e
   cases j with
   | zero =>
    exfalso
    rw [lookN_shift r n i 1] at h
    have hs := lookN_shift r n 0 i
    rw [Nat.zero_add] at hs
    rw [hs] at h
    cases hl : lookN r n 0 with
    | none => rw [hl] at h; simp at h
    | some p => rw [hl] at h; simp at h; omega
   | succ j =>
    have h' : lookN r n (i + 1) = some (i + 1 + j, v) := by rw [h]; simp; omega
    obtain ⟨a, b⟩ := lookN_some h'
    exact ⟨by simpa using a, fun x => by simp [setN, e, b x]⟩
theorem lookN_form {kv : List (S51 × Int)} {n : S51} {j : Nat} {v : Int} (h : lookN kv n 0 = some (j, v)) : kv[j]? = some (n, v) ∧ ∀ x, setN kv n x = kv.set j (n, x) :=
 lookN_some (i := 0) (by simpa using h)
theorem findIdx_bornN {l : List MapEntry} (hn : (l.map (·.born)).Nodup) {j : Nat} {e0 : MapEntry} (h : l[j]? = some e0) : l.findIdx? (fun e => ((e.born : Nat) : Int) == ((e0.born : Nat) : Int)) = some j := by
 induction l generalizing j with
 | nil => simp at h
 | cons a r ih =>
  simp only [List.map_cons, List.nodup_cons] at hn
  cases j with
  | zero =>
   simp only [List.getElem?_cons_zero, Option.some.injEq] at h
   subst h
   simp [List.findIdx?_cons]
  | succ j =>
   simp only [List.getElem?_cons_succ] at h
   have hne : a.born ≠ e0.born := fun e1 => hn.1 (List.mem_map.2 ⟨e0, List.mem_of_getElem? h, e1.symm⟩)
   have hb : (((a.born : Nat) : Int) == ((e0.born : Nat) : Int)) = false := by
    simp only [beq_eq_false_iff_ne, ne_eq, Int.natCast_inj]
    exact hne
   rw [List.findIdx?_cons, hb]
   simp [ih hn.2 h]
theorem findIdxArrN (xs : Array MapEntry) (p : MapEntry → Bool) : xs.findIdx? p = xs.toList.findIdx? p := by
 cases xs
 simp
theorem heapSetN {w : World} {b : Nat} {o o' : Obj} (hb : w.heap[b]? = some o) : (ChangeMaps.setBlock w b o').heap[b]? = some o' := by
 have := (Array.getElem?_eq_some_iff.1 hb).1
 simp [ChangeMaps.setBlock, this]
theorem run_storeN {W : World} {b : Nat} {es : Array MapEntry} {clock st i : Nat} (x : Int) (hb : W.heap[b]? = some (.map es clock)) (hi : es.findIdx? (fun e => ((e.born : Nat) : Int) == ((st : Nat) : Int)) = some i) :
  (Instr.entryStore 74 (.map (some b)) (.int .i64 (st : Int)) (.int .i64 x)).run Tryd.prog W = .ok () (ChangeMaps.setBlock W b (.map (es.modify i (fun e => { e with val := .int .i64 x })) clock)) := by
 simp [Instr.entryStore, MapKept.run_getObj_map hb, asInt, asIntOf, hi, MapKept.run_setObj_map _ hb, Result.andThen, ChangeMaps.setBlock]
theorem MapN.entry {w : World} {b : Nat} {kv : List (S51 × Int)} (h : MapN w b kv) (n : S51) :
  ∃ (st : Nat) (o1 : Obj), (Instr.mapEntry 74 (.map (some b)) (encN n)).run Tryd.prog w = .ok (.tuple #[.int .i64 (cntN kv n), .int .i64 (st : Int)]) (ChangeMaps.setBlock w b o1) ∧
   MapN (ChangeMaps.setBlock w b o1) b (setN kv n (cntN kv n)) ∧
   ∀ x : Int, ∃ o2 : Obj, (Instr.entryStore 74 (.map (some b)) (.int .i64 (st : Int)) (.int .i64 x)).run Tryd.prog (ChangeMaps.setBlock w b o1) = .ok () (ChangeMaps.setBlock (ChangeMaps.setBlock w b o1) b o2) ∧
    MapN (ChangeMaps.setBlock (ChangeMaps.setBlock w b o1) b o2) b (setN kv n x) := by
 obtain ⟨es, clock, hb, he, hlt, hnd⟩ := h
 have hf := run_findN w n es.toList kv he
 cases hl : lookN kv n 0 with
 | none =>
  rw [hl] at hf
  have hset := lookN_none hl
  have hc : cntN kv n = 0 := by simp [cntN, hl]
  have hnd' : ((es.push ⟨encN n, .int .i64 0, clock⟩).toList.map (·.born)).Nodup := by
   simp only [Array.toList_push, List.map_append, List.map_cons, List.map_nil]
   refine List.nodup_append.2 ⟨hnd, by simp, fun a ha c hc e1 => ?_⟩
   simp only [List.mem_singleton] at hc
   obtain ⟨x, hx, rfl⟩ := List.mem_map.1 ha
   have := hlt x hx
   omega
  have hb1 := heapSetN (o' := .map (es.push ⟨encN n, .int .i64 0, clock⟩) (clock + 1)) hb
  refine ⟨clock, .map (es.push ⟨encN n, .int .i64 0, clock⟩) (clock + 1), ?_, ?_, fun x => ⟨.map (es.push ⟨encN n, .int .i64 x, clock⟩) (clock + 1), ?_, ?_⟩⟩
  ·rw [hc]
   simp [Instr.mapEntry, run_underlying Tryd.underlying74, MapKept.run_getObj_map hb, run_checkN, hf, zeroN, MapKept.run_setObj_map _ hb, Result.andThen, ChangeMaps.setBlock, goInt]
  ·refine ⟨_, _, hb1, ?_, ?_, hnd'⟩
   ·rw [hset, hc]
    simp only [entsN, Array.toList_push, List.map_append] at he ⊢
    rw [he]; rfl
   ·intro y hy
    simp only [Array.toList_push, List.mem_append, List.mem_singleton] at hy
    rcases hy with hy | rfl
    ·exact Nat.lt_succ_of_lt (hlt y hy)
    ·exact Nat.lt_succ_self _
  ·have hidx : (es.push ⟨encN n, .int .i64 0, clock⟩).findIdx? (fun e => ((e.born : Nat) : Int) == ((clock : Nat) : Int)) = some es.size := by
    rw [findIdxArrN]
    exact findIdx_bornN (e0 := ⟨encN n, .int .i64 0, clock⟩) hnd' (by simp)
   have hmod : (es.push ⟨encN n, .int .i64 0, clock⟩).modify es.size (fun e => { e with val := .int .i64 x }) = es.push ⟨encN n, .int .i64 x, clock⟩ := by
    apply Array.ext
    ·simp
    ·intro j h1 h2
     simp only [Array.getElem_modify, Array.getElem_push]
     by_cases hj : j < es.size
     ·have : es.size ≠ j := by omega
      simp [hj, this]
     ·have : es.size = j := by simp at h1; omega
      simp [this]
   rw [run_storeN x hb1 hidx, hmod]
  ·refine ⟨_, _, heapSetN hb1, ?_, ?_, ?_⟩
   ·rw [hset]
    simp only [entsN, Array.toList_push, List.map_append] at he ⊢
    rw [he]; rfl
   ·intro y hy
    simp only [Array.toList_push, List.mem_append, List.mem_singleton] at hy
    rcases hy with hy | rfl
    ·exact Nat.lt_succ_of_lt (hlt y hy)
    ·exact Nat.lt_succ_self _
   ·simpa using hnd'
 | some p =>
  obtain ⟨j, v⟩ := p
  rw [hl] at hf
  obtain ⟨hkv, hset⟩ := lookN_form hl
  have hc : cntN kv n = v := by simp [cntN, hl]
  have hjk : j < kv.length := (List.getElem?_eq_some_iff.1 hkv).1
  have hlen : es.toList.length = kv.length := by simpa [entsN] using congrArg List.length he
  have hjl : j < es.size := by rw [← Array.length_toList]; omega
  obtain ⟨e0, hj⟩ : ∃ e0, es[j]? = some e0 := ⟨_, Array.getElem?_eq_getElem hjl⟩
  have hj' : es.toList[j]? = some e0 := by simpa using hj
  have hej : es[j] = e0 := by rw [Array.getElem?_eq_getElem hjl] at hj; exact Option.some.inj hj
  have hkj : kv[j] = (n, v) := by rw [List.getElem?_eq_getElem hjk] at hkv; exact Option.some.inj hkv
  have hev : e0.key = encN n ∧ e0.val = .int .i64 v := by
   have h1 := congrArg (fun l => l[j]?) he
   simp only [List.getElem?_map, hj', hkv, Option.map_some, Option.some.injEq, Prod.mk.injEq] at h1
   exact h1
  have hsame : es.modify j (fun e => { e with key := encN n }) = es := by
   apply Array.ext
   ·simp
   ·intro i h1 h2
    rw [Array.getElem_modify]
    split
    ·rename_i hij
     subst hij
     have : es[j] = e0 := by rw [Array.getElem?_eq_getElem hjl] at hj; exact Option.some.inj hj
     rw [this, ← hev.1]
    ·rfl
  have hb1 := heapSetN (o' := .map es clock) hb
  have hself : entsN es.toList (setN kv n v) := by
   rw [hset]
   have : kv.set j (n, v) = kv := by
    apply List.ext_getElem?
    intro i
    rw [List.getElem?_set]
    split
    ·rename_i hij
     subst hij
     simp [hjk, hkj]
    ·rfl
   rw [this]; exact he
  refine ⟨e0.born, .map es clock, ?_, ?_, fun x => ⟨.map (es.modify j (fun e => { e with val := .int .i64 x })) clock, ?_, ?_⟩⟩
  ·rw [hc]
   simp [Instr.mapEntry, run_underlying Tryd.underlying74, MapKept.run_getObj_map hb, run_checkN, hf, hj, hev.1, run_staysN, hsame, MapKept.run_setObj_map _ hb, Result.andThen, ChangeMaps.setBlock, goInt]
  ·exact ⟨_, _, hb1, by rw [hc]; exact hself, hlt, hnd⟩
  ·have hidx : es.findIdx? (fun e => ((e.born : Nat) : Int) == ((e0.born : Nat) : Int)) = some j := by
    rw [findIdxArrN]
    exact findIdx_bornN hnd hj'
   exact run_storeN x hb1 hidx
  ·have hml : (es.modify j (fun e => { e with val := Value.int .i64 x })).toList = es.toList.set j { e0 with val := .int .i64 x } := by
    apply List.ext_getElem?
    intro i
    rw [Array.getElem?_toList, Array.getElem?_modify, List.getElem?_set]
    split
    ·rename_i hij
     subst hij
     simp [hej, hjl]
    ·simp
   refine ⟨_, _, heapSetN hb1, ?_, ?_, ?_⟩
   ·rw [hml, hset]
    simp only [entsN] at he ⊢
    rw [List.map_set, List.map_set, he, hev.1]
   ·intro y hy
    rw [hml] at hy
    rcases List.mem_or_eq_of_mem_set hy with hy | rfl
    ·exact hlt y hy
    ·exact hlt e0 (List.mem_of_getElem? hj')
   ·rw [hml, List.map_set]
    have : (es.toList.map (·.born)).set j e0.born = es.toList.map (·.born) := by
     apply List.ext_getElem?
     intro i
     rw [List.getElem?_set]
     split
     ·rename_i hij
      subst hij
      simp [hej, hjl]
     ·rfl
    rw [show ({ e0 with val := Value.int .i64 x } : MapEntry).born = e0.born from rfl, this]
    exact hnd
/-! #### what PoolOk answers -/
theorem nodeOk_total (a b c i : Int) : ∃ r, impl_nodeOk.f 1 a b c i = some r := by
 have hc : ∃ q, impl_count.f 1 a = some q := by
  unfold impl_count.f
  simp only [impl_count.j0]
  repeat' split
  all_goals exact ⟨_, rfl⟩
 have hr : ∀ x y z : Int, ∃ q, impl_inRange.f x y z = some q := fun x y z => by
  unfold impl_inRange.f
  split <;> exact ⟨_, rfl⟩
 obtain ⟨q, hq⟩ := hc
 obtain ⟨q1, h1⟩ := hr b 0 199
 obtain ⟨q2, h2⟩ := hr b 0 (wrap64 (i - 1))
 obtain ⟨q3, h3⟩ := hr c 0 (wrap64 (i - 1))
 unfold impl_nodeOk.f
 rw [hq, h1, h2, h3]
 simp only [Option.bind_some]
 repeat' split
 all_goals exact ⟨_, rfl⟩
def nodeOkB (n : S51) (i : Int) : Bool := (impl_nodeOk.f 1 n.f0 n.f1 n.f2 i).getD false
theorem nodeOk_at (n : S51) (i : Int) : impl_nodeOk.f 1 n.f0 n.f1 n.f2 i = some (nodeOkB n i) := by
 obtain ⟨r, h⟩ := nodeOk_total n.f0 n.f1 n.f2 i
 simp [nodeOkB, h]
def okStep (l : List S51) (i : Nat) : Bool := decide (rd_T51 l i ∉ l.take i) && nodeOkB (rd_T51 l i) i
def okFrom (l : List S51) : Nat → Nat → Bool
 | 0, _ => true
 | d + 1, i => okStep l i && okFrom l d (i + 1)
def poolOkB (l : List S51) : Bool := decide (l.length ≤ 500) && okFrom l l.length 0
def impl_PoolOk.f (l0_0 : List S51) : Option Bool := some (poolOkB l0_0)
theorem below_setBlock {B : Nat} {w W : World} (h : Below B w W) {b : Nat} (hb : B ≤ b) (o : Obj) : Below B w (ChangeMaps.setBlock W b o) :=
 h.trans ⟨rfl, rfl, rfl, by simp [ChangeMaps.setBlock], fun i hi => by
  have : b ≠ i := by omega
  simp [ChangeMaps.setBlock, this]⟩
theorem cell_setBlock (W : World) (b : Nat) (o : Obj) (a : Addr) (h : a.block ≠ b) : (ChangeMaps.setBlock W b o).cell? a = W.cell? a := by
 simp [World.cell?, ChangeMaps.setBlock, Ne.symm h]
theorem MapN.of_heap {w w' : World} {b : Nat} {kv : List (S51 × Int)} (h : MapN w b kv) (e : w'.heap[b]? = w.heap[b]?) : MapN w' b kv := by
 obtain ⟨es, clock, h1, h2⟩ := h
 exact ⟨es, clock, e.trans h1, h2⟩
set_option maxHeartbeats 8000000 in
set_option maxRecDepth 100000 in
theorem impl_PoolOk.calls (A0_0 : Option Addr) (c0_0 : Nat) (l0_0 : List S51) (r : Bool) (w : World) (hr0_0 : Kd.C k51 w A0_0 l0_0.length l0_0) (hc0_0 : l0_0.length ≤ c0_0) (h : impl_PoolOk.f l0_0 = some r) :
  Calls Tryd.prog 32 #[.agg #[.slice A0_0 l0_0.length c0_0]] w fun e w' => e = .returned (.bool r) ∧ Below w.heap.size w w' := by
 have HR := Aside0.mk hr0_0
 have HF := Aside0.mk (Option.some.inj h)
 clear hr0_0 h hc0_0
 have hu29 := Tryd.underlying29
 have hu67 := Tryd.underlying51
 have hmm := @run_makeMap Tryd.prog
 by_cases hbig : (l0_0.length : Int) > 500
 ·have hb0 : decide (500 < (l0_0.length : Int)) = true := by simpa using hbig
  have hb1 : decide (500 < l0_0.length) = true := by simp; omega
  have HV : Aside0 (r = false) := ⟨by rw [← HF.out]; simp [poolOkB]; omega⟩
  clear hbig HF
  obtain rfl := HV.out
  go_enter Tryd.func32, Tryd.ntmps32
  go_wp2
  go_ret
  exact ⟨rfl, (Below.refl _ _).alloc (Nat.le_refl _) _⟩
 ·have hb0 : decide (500 < (l0_0.length : Int)) = false := by simpa using hbig
  have hb1 : decide (500 < l0_0.length) = false := by simp; omega
  have HL := Aside0.mk (show l0_0.length ≤ 500 by omega)
  have HV := Aside0.mk (show okFrom l0_0 l0_0.length 0 = r by rw [← HF.out]; simp [poolOkB]; omega)
  clear hbig HF
  go_enter Tryd.func32, Tryd.ntmps32
  go_wp2
  go_loopw [14] (fun v wr => ∃ i : Nat, v = .int .i64 i ∧ Aside0 (i ≤ l0_0.length) ∧ Aside0 (okFrom l0_0 (l0_0.length - i) i = r) ∧ Aside0 (MapN wr (w.heap.size + 1) ((l0_0.take i).map fun m => (m, (1 : Int)))) ∧ Aside0 (Below w.heap.size w wr) ∧ Aside0 (w.heap.size + 1 < wr.heap.size)) (fun v _ => l0_0.length - (intOf v).toNat)
  case atStart =>
   refine ⟨0, rfl, ⟨Nat.zero_le _⟩, ⟨HV.out⟩, ⟨⟨#[], 0, ?_, rfl, by simp, by simp⟩⟩, ⟨((Below.refl _ _).alloc (Nat.le_refl _) _).alloc (by simp) _⟩, ⟨by simp⟩⟩
   have h_ := (MapKept.heap_alloc (w.alloc (.cells #[Value.slice A0_0 l0_0.length c0_0] 29)) (.map #[] 0)).1
   simpa using h_
  case round =>
   obtain ⟨i, rfl, HI, HR1, HM, HB, HZ⟩ := hrel
   by_cases hlt : i < l0_0.length
   ·have hle := HL.out
    obtain ⟨ad, rfl, h0, h1, h2⟩ := at_T51 (Kd.C_below HR.out HB.out) (i : Int) (by omega) (by omega)
    simp only [Int.toNat_natCast] at h0 h1 h2
    obtain ⟨n, hn⟩ : ∃ n, rd_T51 l0_0 (i : Int) = n := ⟨_, rfl⟩
    rw [hn] at h0 h1 h2
    have Hn := Aside0.mk hn
    clear hn
    go_wp2
    obtain ⟨W, hW⟩ : ∃ W, wr.alloc (.cells #[.int .i64 n.f0, .int .i64 n.f1, .int .i64 n.f2] 51) = W := ⟨_, rfl⟩
    have hWb : W.heap[wr.heap.size]? = some (.cells #[.int .i64 n.f0, .int .i64 n.f1, .int .i64 n.f2] 51 (0, 0)) := by rw [← hW]; exact (MapKept.heap_alloc _ _).1
    have hMW : MapN W (w.heap.size + 1) ((l0_0.take i).map fun m => (m, (1 : Int))) := HM.out.of_heap (by rw [← hW]; exact (MapKept.heap_alloc wr _).2 _ HZ.out)
    have HBW := Aside0.mk (show Below w.heap.size w W by rw [← hW]; exact HB.out.alloc HB.out.size _)
    have HZW := Aside0.mk (show w.heap.size + 1 < W.heap.size by rw [← hW]; have := HZ.out; simp; omega)
    have HNE := Aside0.mk (show wr.heap.size ≠ w.heap.size + 1 by have := HZ.out; omega)
    rw [hW]
    clear hW HM HB h0 h1 h2
    obtain ⟨st, o1, e2, hM1, hst⟩ := MapN.entry (w := W.drew) hMW n
    have e1 := MapN.look (w := W.drew) hMW n
    have e3 := hM1.look n
    rw [cntN_set] at e3
    have c0 : W.cell? ⟨wr.heap.size, 0, none⟩ = some (.int .i64 n.f0) := (blk_cell hWb 0).trans rfl
    have c1 : W.cell? ⟨wr.heap.size, 1, none⟩ = some (.int .i64 n.f1) := (blk_cell hWb 1).trans rfl
    have c2 : W.cell? ⟨wr.heap.size, 2, none⟩ = some (.int .i64 n.f2) := (blk_cell hWb 2).trans rfl
    have d0 := (cell_setBlock W.drew (w.heap.size + 1) o1 ⟨wr.heap.size, 0, none⟩ HNE.out).trans c0
    have d1 := (cell_setBlock W.drew (w.heap.size + 1) o1 ⟨wr.heap.size, 1, none⟩ HNE.out).trans c1
    have d2 := (cell_setBlock W.drew (w.heap.size + 1) o1 ⟨wr.heap.size, 2, none⟩ HNE.out).trans c2
    have HB1 := Aside0.mk (below_setBlock (below_drew HBW.out) (b := w.heap.size + 1) (by omega) o1)
    have HZ1 := Aside0.mk (show w.heap.size + 1 < (ChangeMaps.setBlock W.drew (w.heap.size + 1) o1).heap.size by have := HZW.out; simpa [ChangeMaps.setBlock] using this)
    rw [cntN_ones] at e1 e2 e3 hM1
    obtain ⟨W1, hW1⟩ : ∃ W1, ChangeMaps.setBlock W.drew (w.heap.size + 1) o1 = W1 := ⟨_, rfl⟩
    rw [hW1] at e2 e3 d0 d1 d2 hM1 hst HB1 HZ1
    clear hW1 hWb hMW
    have key : ∀ x : Int, ∃ W2, (Instr.entryStore 74 (.map (some (w.heap.size + 1))) (.int .i64 (st : Int)) (.int .i64 x)).run Tryd.prog W1 = .ok () W2 ∧ MapN W2 (w.heap.size + 1) (setN ((l0_0.take i).map fun m => (m, (1 : Int))) n x) ∧ Below w.heap.size w W2 ∧ w.heap.size + 1 < W2.heap.size ∧
      W2.cell? ⟨wr.heap.size, 0, none⟩ = some (.int .i64 n.f0) ∧ W2.cell? ⟨wr.heap.size, 1, none⟩ = some (.int .i64 n.f1) ∧ W2.cell? ⟨wr.heap.size, 2, none⟩ = some (.int .i64 n.f2) := fun x => by
     obtain ⟨o2, e4, hM2⟩ := hst x
     exact ⟨_, e4, hM2, below_setBlock HB1.out (by omega) _, by have := HZ1.out; simpa [ChangeMaps.setBlock] using this, (cell_setBlock W1 (w.heap.size + 1) o2 ⟨wr.heap.size, 0, none⟩ HNE.out).trans d0, (cell_setBlock W1 (w.heap.size + 1) o2 ⟨wr.heap.size, 1, none⟩ HNE.out).trans d1, (cell_setBlock W1 (w.heap.size + 1) o2 ⟨wr.heap.size, 2, none⟩ HNE.out).trans d2⟩
    clear hst
    by_cases hmem : n ∈ l0_0.take i
    ·have HF : Aside0 (false = r) := ⟨by
      have h_ := HR1.out
      obtain ⟨d, hd⟩ : ∃ d, l0_0.length - i = d + 1 := ⟨l0_0.length - i - 1, by omega⟩
      rw [hd] at h_
      simp only [okFrom, okStep, Hn.out] at h_
      rw [← h_]
      simp [hmem]⟩
     clear HR1
     obtain rfl := HF.out
     rw [if_pos hmem] at e1 e2 e3 hM1
     obtain ⟨W2, e4, hM2, hB2, _, f0, f1, f2⟩ := key 2
     have e5 := hM2.look n
     rw [cntN_set] at e5
     have HB2 := Aside0.mk hB2
     clear key hM1 hM2 hB2 hmem HF
     simp only [encN] at e1 e2 e3 e5
     have b2 : decide ((1 : Int) < 2) = true := rfl
     go_region
     all_goals go_wp2
     all_goals go_ret
     all_goals exact ⟨rfl, HB2.out⟩
    ·rw [if_neg hmem] at e1 e2 e3 hM1
     obtain ⟨W2, e4, hM2, hB2, hZ2, f0, f1, f2⟩ := key 1
     have e5 := hM2.look n
     rw [cntN_set] at e5
     have HB2 := Aside0.mk hB2
     have HZ2 := Aside0.mk hZ2
     have HM2 := Aside0.mk (show MapN W2 (w.heap.size + 1) ((l0_0.take (i + 1)).map fun m => (m, (1 : Int))) by
      rw [setN_new _ _ _ (by simp only [List.map_map]; rw [show ((fun x : S51 × Int => x.1) ∘ fun m => (m, (1 : Int))) = id from rfl, List.map_id]; exact hmem)] at hM2
      have hl : l0_0[i] = n := by rw [← Hn.out]; simp [rd_T51, hlt]
      rw [List.take_succ_eq_append_getElem hlt, hl]
      simpa using hM2)
     have HS := Aside0.mk (show okFrom l0_0 (l0_0.length - i) i = (nodeOkB n i && okFrom l0_0 (l0_0.length - (i + 1)) (i + 1)) by
      obtain ⟨d, hd⟩ : ∃ d, l0_0.length - i = d + 1 := ⟨l0_0.length - i - 1, by omega⟩
      rw [hd, show l0_0.length - (i + 1) = d by omega]
      simp only [okFrom, okStep, Hn.out]
      simp [hmem])
     have HC := Aside0.mk (nodeOk_at n i)
     clear key hM1 hM2 hB2 hZ2 hmem
     simp only [encN] at e1 e2 e3 e5
     have b2 : decide ((1 : Int) < 1) = false := rfl
     obtain ⟨q, hq⟩ : ∃ q, nodeOkB n i = q := ⟨_, rfl⟩
     rw [hq] at HS HC
     clear hq
     cases q with
     | false =>
      have HF : Aside0 (false = r) := ⟨by rw [← HR1.out, HS.out]; rfl⟩
      clear HR1 HS
      obtain rfl := HF.out
      go_region
      all_goals go_wp2_with (go_at_call 46; (with_reducible refine (impl_nodeOk.calls 1 n.f0 n.f1 n.f2 (i : Int) false _ HC.out).mono ?_); rintro e w' ⟨rfl, hb⟩; have HB3 := Aside0.mk hb; clear hb)
      all_goals go_ret
      all_goals exact ⟨rfl, below_then HB2.out HB2.out.size HB3.out⟩
     | true =>
      have HR2 : Aside0 (okFrom l0_0 (l0_0.length - (i + 1)) (i + 1) = r) := ⟨by rw [← HR1.out, HS.out]; rfl⟩
      clear HR1 HS
      go_region
      all_goals go_wp2_with (go_at_call 46; (with_reducible refine (impl_nodeOk.calls 1 n.f0 n.f1 n.f2 (i : Int) true _ HC.out).mono ?_); rintro e w' ⟨rfl, hb⟩; have HB3 := Aside0.mk hb; clear hb)
      all_goals go_roundw
      case rel => exact ⟨i + 1, rfl, ⟨hlt⟩, ⟨HR2.out⟩, ⟨HM2.out.of_heap (HB3.out.block _ HZ2.out)⟩, ⟨below_then HB2.out HB2.out.size HB3.out⟩, ⟨Nat.lt_of_lt_of_le HZ2.out HB3.out.size⟩⟩
      case measure => simp [intOf]; omega
   ·have : i = l0_0.length := by have := HI.out; omega
    subst this
    have HF : Aside0 (true = r) := ⟨by have := HR1.out; rwa [Nat.sub_self] at this⟩
    clear HR1
    obtain rfl := HF.out
    go_wp2
    go_ret
    exact ⟨rfl, HB.out⟩


end Go.Proofs.YtjcemohmlpgfnaaDoor.T
end
