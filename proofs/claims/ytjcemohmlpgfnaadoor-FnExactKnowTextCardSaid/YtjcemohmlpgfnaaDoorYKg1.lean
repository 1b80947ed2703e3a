import Derived.Test.YtjcemohmlpgfnaaDoorYK0
import Derived.Test.YtjcemohmlpgfnaaDoorYKg0
section
namespace Go.Proofs.YtjcemohmlpgfnaaDoor.K
open Go.RowKit Go.Proofs.YtjcemohmlpgfnaaDoorW.PrintWords Go.Proofs.YtjcemohmlpgfnaaDoorW.PrintLast Go.Proofs.YtjcemohmlpgfnaaDoorW.PrintMore
attribute [local go_sem] max2_int min2_int max_two min_two max_three min_three max_four min_four   -- for this text's walks alone
set_option linter.unusedVariables false
set_option linter.unusedSimpArgs false
set_option maxRecDepth 100000

/-! ### spec_l1Has: function 27 -/
def spec_l1Has.f (l0_0 : List (S51)) (a1 : Int) : Option (Bool) := (spec_l1In.f a1 0 (wrap64 ((l0_0.length : Int) - 1))).bind fun t143 => (some t143)
set_option maxHeartbeats 8000000 in
set_option maxRecDepth 100000 in
theorem spec_l1Has.calls (A0_0 : Option Addr) (c0_0 : Nat) (l0_0 : List (S51)) (a1 : Int) (r : Bool) (w : World) (hr0_0 : Kd.C k51 w A0_0 l0_0.length l0_0) (hc0_0 : l0_0.length ≤ c0_0) (h : spec_l1Has.f l0_0 a1 = some r) :
  Calls Tryd.prog 27 #[.agg #[.slice A0_0 l0_0.length c0_0], .int .i64 a1] w fun e w' => e = .returned (.bool r) ∧ Below w.heap.size w w' := by
 have hu29 := Tryd.underlying29
 have HR0_0 := Aside0.mk hr0_0
 have HC0_0 := Aside0.mk hc0_0
 clear hr0_0 hc0_0
 have HB := Aside0.mk (Below.refl w.heap.size w)
 have H : ((spec_l1In.f a1 0 (wrap64 ((l0_0.length : Int) - 1))).bind fun t143 => (some t143)) = some r := h
 clear h
 replace H := Option.bind_eq_some_iff.mp H
 obtain ⟨t143, A30, H⟩ := H
 replace H : (some t143) = some r := H
 have A3 := Aside0.mk A30
 clear A30
 obtain rfl := Option.some.inj H
 go_enter Tryd.func27, Tryd.ntmps27
 go_wp2_with (first | ((with_reducible refine gate_dst (N := 2) rfl ?_); refine box_event ?hg (N := 2) ?hd (cs := #[.slice A0_0 l0_0.length c0_0]) (t := 29) ?hr ?_; (case hd => rfl); (case hg => rfl); (case hr => first | (go_simp; done) | (go_simp; rfl)); intro gb142 hg w4 hbox hb; have n0_ := Aside0.mk (below_step (zb HB.out) hb); have n1_ := Aside0.mk (hbox); have n2_ := Aside0.mk ((by rw [hg]; exact (below_size (zb HB.out)) : w.heap.size ≤ gb142)); have n3_ := Aside0.mk ((by rw [hg]; exact (below_size (zb HB.out)) : w.heap.size ≤ gb142)); clear HB; have HB := n0_; have BK142 := n1_; have GW142 := n2_; have GE142 := n3_; clear n0_ n1_ n2_ n3_; clear hb hbox hg; have hcz5_0 : w4.cell? ⟨gb142, 0, none⟩ = some (.slice A0_0 l0_0.length c0_0) := (blk_cell BK142.out 0).trans rfl; have hfz5_0 := blk_frozen BK142.out 0) | ((with_reducible refine gate_callee (f := 15) rfl ?_); refine goesL_ (some 10) rfl rfl Tryd.func15 (by kernel_rfl) rfl #[.int .i64 a1, .int .i64 0, .int .i64 (wrap64 ((l0_0.length : Int) - 1))] rfl zl ?_; (with_reducible refine (spec_l1In.calls a1 0 (wrap64 ((l0_0.length : Int) - 1)) t143 _ A3.out).mono ?_); rintro e w' ⟨rfl, ⟨nd, rfl⟩⟩; refine ⟨_, rfl, ?_⟩))
 go_ret
 exact ⟨ze, zb HB.out⟩

/-! ### spec_l1PartsOf: function 44 -/
def spec_l1PartsOf.f (k : Nat) (l0_0 : List (S51)) (a1 : Int) : Option (List Int) := if 0 ≤ a1 then (if a1 < (l0_0.length : Int) then ((spec_l1Parts.f k ((rd_T51 l0_0 a1).f0)).bind fun t147 => (if t147 = 1 then (some (([(rd_T51 l0_0 a1).f1] : List Int))) else (if t147 = 2 then (some (([(rd_T51 l0_0 a1).f1, (rd_T51 l0_0 a1).f2] : List Int))) else (some (([] : List Int)))))) else (none)) else (none)
set_option maxHeartbeats 8000000 in
set_option maxRecDepth 100000 in
theorem spec_l1PartsOf.calls (k : Nat) (A0_0 : Option Addr) (c0_0 : Nat) (l0_0 : List (S51)) (a1 : Int) (r : List Int) (w : World) (hr0_0 : Kd.C k51 w A0_0 l0_0.length l0_0) (hc0_0 : l0_0.length ≤ c0_0) (h : spec_l1PartsOf.f k l0_0 a1 = some r) :
  Calls Tryd.prog 44 #[.agg #[.slice A0_0 l0_0.length c0_0], .int .i64 a1] w fun e w' => ∃ v0_ : Value, e = .returned (v0_) ∧ Kd.R (Kd.int .i64) 3 w' w.heap.size (fun _ => True) v0_ r ∧ Below w.heap.size w w' := by
 have hu29 := Tryd.underlying29
 have hu51 := Tryd.underlying51
 have HR0_0 := Aside0.mk hr0_0
 have HC0_0 := Aside0.mk hc0_0
 clear hr0_0 hc0_0
 have HB := Aside0.mk (Below.refl w.heap.size w)
 have H : (if 0 ≤ a1 then (if a1 < (l0_0.length : Int) then ((spec_l1Parts.f k ((rd_T51 l0_0 a1).f0)).bind fun t147 => (if t147 = 1 then (some (([(rd_T51 l0_0 a1).f1] : List Int))) else (if t147 = 2 then (some (([(rd_T51 l0_0 a1).f1, (rd_T51 l0_0 a1).f2] : List Int))) else (some (([] : List Int)))))) else (none)) else (none)) = some r := h
 clear h
 by_cases c3 : 0 ≤ a1
 ·rw [if_pos c3] at H
  have c3b0 : decide (0 ≤ a1) = true := decide_eq_true c3
  clear c3
  by_cases c4 : a1 < (l0_0.length : Int)
  ·rw [if_pos c4] at H
   have c4b0 : decide (a1 < (l0_0.length : Int)) = true := decide_eq_true c4
   clear c4
   replace H := Option.bind_eq_some_iff.mp H
   obtain ⟨t147, A50, H⟩ := H
   replace H : (if t147 = 1 then (some (([(rd_T51 l0_0 a1).f1] : List Int))) else (if t147 = 2 then (some (([(rd_T51 l0_0 a1).f1, (rd_T51 l0_0 a1).f2] : List Int))) else (some (([] : List Int))))) = some r := H
   have A5 := Aside0.mk A50
   clear A50
   by_cases c6 : t147 = 1
   ·rw [if_pos c6] at H
    have c6b0 : (t147 == 1) = true := beq_iff_eq.mpr c6
    have c6b1 : (t147 != 1) = false := bne_eq_false_iff_eq.mpr c6
    clear c6
    obtain ⟨y148, hy148⟩ : ∃ y_ : List Int, y_ = (([(rd_T51 l0_0 a1).f1] : List Int)) := ⟨_, rfl⟩
    replace H : (some y148) = some r := by first | (rw [hy148]; with_reducible exact H) | (have H2_ := (Option.bind_some _ _).symm.trans H; rw [hy148]; with_reducible exact H2_) | (have H2_ := (Option.bind_some _ _).symm.trans H; with_reducible exact H2_) | with_reducible exact H | (rw [hy148]; exact H) | exact H
    have Ny148 := Aside0.mk hy148
    clear hy148
    obtain rfl := Option.some.inj H
    go_enter Tryd.func44, Tryd.ntmps44
    go_wp2_with (first | ((with_reducible refine gate_dst (N := 2) rfl ?_); refine box_event ?hg (N := 2) ?hd (cs := #[.slice A0_0 l0_0.length c0_0]) (t := 29) ?hr ?_; (case hd => rfl); (case hg => rfl); (case hr => first | (go_simp; done) | (go_simp; rfl)); intro gb144 hg w7 hbox hb; have n0_ := Aside0.mk (below_step (zb HB.out) hb); have n1_ := Aside0.mk (hbox); have n2_ := Aside0.mk ((by rw [hg]; exact (below_size (zb HB.out)) : w.heap.size ≤ gb144)); have n3_ := Aside0.mk ((by rw [hg]; exact (below_size (zb HB.out)) : w.heap.size ≤ gb144)); clear HB; have HB := n0_; have BK144 := n1_; have GW144 := n2_; have GE144 := n3_; clear n0_ n1_ n2_ n3_; clear hb hbox hg; have hcz8_0 : w7.cell? ⟨gb144, 0, none⟩ = some (.slice A0_0 l0_0.length c0_0) := (blk_cell BK144.out 0).trans rfl; have hfz8_0 := blk_frozen BK144.out 0; have p145 : 0 ≤ (a1 : Int) := of_decide_eq_true (by first | (with_reducible assumption) | assumption); have q145 : a1 < (l0_0.length : Int) := of_decide_eq_true (by first | (with_reducible assumption) | assumption); obtain ⟨ad145, e145, hx145_0, hx145_1, hx145_2⟩ := at_T51 HR0_0.out a1 p145 q145; cases e145; replace hx145_0 := (HB.out.cell (World.block_lt_of_cell? w _ hx145_0)).trans hx145_0; replace hx145_1 := (HB.out.cell (World.block_lt_of_cell? w _ hx145_1)).trans hx145_1; replace hx145_2 := (HB.out.cell (World.block_lt_of_cell? w _ hx145_2)).trans hx145_2; replace p145 := eq_true p145; replace q145 := eq_true q145) | ((with_reducible refine gate_dst (N := 5) rfl ?_); refine box_event ?hg (N := 5) ?hd (cs := #[.int .i64 0, .int .i64 0, .int .i64 0]) (t := 51) ?hr ?_; (case hd => rfl); (case hg => rfl); (case hr => first | (go_simp; done) | (go_simp; rfl)); intro gb146 hg w9 hbox hb; have n0_ := Aside0.mk (blk_below (zh BK144.out) hb); have n1_ := Aside0.mk (below_step (zb HB.out) hb); have n2_ := Aside0.mk (hbox); have n3_ := Aside0.mk ((by rw [hg]; exact (below_size (zb HB.out)) : w.heap.size ≤ gb146)); have n4_ := Aside0.mk ((by rw [hg]; exact (below_size (zb HB.out)) : w.heap.size ≤ gb146)); have n5_ := Aside0.mk ((by rw [hg]; exact Nat.ne_of_lt (blk_lt (zh BK144.out)) : gb144 ≠ gb146)); have n6_ := Aside0.mk ((by rw [hg]; exact Nat.ne_of_gt (blk_lt (zh BK144.out)) : gb146 ≠ gb144)); clear BK144; clear HB; have BK144 := n0_; have HB := n1_; have BK146 := n2_; have GW146 := n3_; have GE146 := n4_; have NB144_146 := n5_; have NB146_144 := n6_; clear n0_ n1_ n2_ n3_ n4_ n5_ n6_; clear hb hbox hg; have hnb10 := NB146_144.out; have hnc10 := NB144_146.out; have hcz11_0 : w9.cell? ⟨gb146, 0, none⟩ = some (.int .i64 0) := (blk_cell BK146.out 0).trans rfl; have hcz11_1 : w9.cell? ⟨gb146, 1, none⟩ = some (.int .i64 0) := (blk_cell BK146.out 1).trans rfl; have hcz11_2 : w9.cell? ⟨gb146, 2, none⟩ = some (.int .i64 0) := (blk_cell BK146.out 2).trans rfl; have hfz11_0 := blk_frozen BK146.out 0; have hfz11_1 := blk_frozen BK146.out 1; have hfz11_2 := blk_frozen BK146.out 2) | ((with_reducible refine gate_callee (f := 52) rfl ?_); refine goesL_ (some 13) rfl rfl Tryd.func52 (by kernel_rfl) rfl #[.int .i64 ((rd_T51 l0_0 a1).f0)] rfl zl ?_; (with_reducible refine (spec_l1Parts.calls k ((rd_T51 l0_0 a1).f0) t147 _ A5.out).mono ?_); rintro e w' ⟨rfl, ⟨nd, rfl⟩⟩; refine ⟨_, rfl, ?_⟩) | ((with_reducible refine gate_dst (N := 18) rfl ?_); refine Kd.R_lit (Kd.int .i64) _ 3 ?hg (N := 18) ?hd (xs := ([(rd_T51 l0_0 a1).f1] : List Int)) (inner := [.int .i64 ((rd_T51 l0_0 a1).f1)]) (ok := fun _ => True) (okp := fun _ => True) ?hr ?hp (fun _ hk => hk) trivial (Below.refl _ _) (Nat.le_refl _) (by simp) ?_; (case hd => rfl); (case hg => rfl); (case hr => first | (go_simp; done) | (go_simp; rfl)); (case hp => exact (Reps.one (show Kd.M (Kd.int .i64) _ _ _ ((rd_T51 l0_0 a1).f1) [.int .i64 ((rd_T51 l0_0 a1).f1)] from rfl) (Reps.none _ _))); intro v149 w12 ho13 hb hg_ hnew_; clear hg_ hnew_; (first | rw [← Ny148.out] at ho13 | (simp only [Int.reduceToNat] at ho13; rw [← Ny148.out] at ho13)); have n0_ := Aside0.mk (Kd.R_lower ho13 (below_size (zb HB.out))); have n1_ := Aside0.mk (blk_below (g := gb144) (o := .cells #[.slice (some ad145) l0_0.length c0_0] 29 (0, 0)) (zf BK144.out) hb); have n2_ := Aside0.mk (blk_below (g := gb146) (o := .cells #[.int .i64 ((rd_T51 l0_0 a1).f0), .int .i64 ((rd_T51 l0_0 a1).f1), .int .i64 ((rd_T51 l0_0 a1).f2)] 51 (0, 0)) (by (with_reducible repeat (first | refine blk_drewN ?_ _ | refine blk_drew ?_ | refine blk_alloc ?_ _)); refine blk_put (cs := #[.int .i64 ((rd_T51 l0_0 a1).f0), .int .i64 ((rd_T51 l0_0 a1).f1), .int .i64 0]) ?_ 2 _ rfl; (with_reducible repeat (first | refine blk_drewN ?_ _ | refine blk_drew ?_ | refine blk_alloc ?_ _)); refine blk_put (cs := #[.int .i64 ((rd_T51 l0_0 a1).f0), .int .i64 0, .int .i64 0]) ?_ 1 _ rfl; (with_reducible repeat (first | refine blk_drewN ?_ _ | refine blk_drew ?_ | refine blk_alloc ?_ _)); refine blk_put (cs := #[.int .i64 0, .int .i64 0, .int .i64 0]) ?_ 0 _ rfl; (with_reducible repeat (first | refine blk_drewN ?_ _ | refine blk_drew ?_ | refine blk_alloc ?_ _)); exact BK146.out) hb); have n3_ := Aside0.mk (below_step (zb HB.out) hb); clear BK144; clear BK146; clear HB; have HO150 := n0_; have BK144 := n1_; have BK146 := n2_; have HB := n3_; clear n0_ n1_ n2_ n3_; clear hb ho13))
    go_ret
    exact ⟨_, ze, zr HO150.out, zb HB.out⟩
   ·rw [if_neg c6] at H
    have c6b0 : (t147 == 1) = false := beq_eq_false_iff_ne.mpr c6
    have c6b1 : (t147 != 1) = true := bne_iff_ne.mpr c6
    by_cases c14 : t147 = 2
    ·rw [if_pos c14] at H
     have c14b0 : (t147 == 2) = true := beq_iff_eq.mpr c14
     have c14b1 : (t147 != 2) = false := bne_eq_false_iff_eq.mpr c14
     clear c14
     obtain ⟨y151, hy151⟩ : ∃ y_ : List Int, y_ = (([(rd_T51 l0_0 a1).f1, (rd_T51 l0_0 a1).f2] : List Int)) := ⟨_, rfl⟩
     replace H : (some y151) = some r := by first | (rw [hy151]; with_reducible exact H) | (have H2_ := (Option.bind_some _ _).symm.trans H; rw [hy151]; with_reducible exact H2_) | (have H2_ := (Option.bind_some _ _).symm.trans H; with_reducible exact H2_) | with_reducible exact H | (rw [hy151]; exact H) | exact H
     have Ny151 := Aside0.mk hy151
     clear hy151
     obtain rfl := Option.some.inj H
     go_enter Tryd.func44, Tryd.ntmps44
     go_wp2_with (first | ((with_reducible refine gate_dst (N := 2) rfl ?_); refine box_event ?hg (N := 2) ?hd (cs := #[.slice A0_0 l0_0.length c0_0]) (t := 29) ?hr ?_; (case hd => rfl); (case hg => rfl); (case hr => first | (go_simp; done) | (go_simp; rfl)); intro gb144 hg w15 hbox hb; have n0_ := Aside0.mk (below_step (zb HB.out) hb); have n1_ := Aside0.mk (hbox); have n2_ := Aside0.mk ((by rw [hg]; exact (below_size (zb HB.out)) : w.heap.size ≤ gb144)); have n3_ := Aside0.mk ((by rw [hg]; exact (below_size (zb HB.out)) : w.heap.size ≤ gb144)); clear HB; have HB := n0_; have BK144 := n1_; have GW144 := n2_; have GE144 := n3_; clear n0_ n1_ n2_ n3_; clear hb hbox hg; have hcz16_0 : w15.cell? ⟨gb144, 0, none⟩ = some (.slice A0_0 l0_0.length c0_0) := (blk_cell BK144.out 0).trans rfl; have hfz16_0 := blk_frozen BK144.out 0; have p145 : 0 ≤ (a1 : Int) := of_decide_eq_true (by first | (with_reducible assumption) | assumption); have q145 : a1 < (l0_0.length : Int) := of_decide_eq_true (by first | (with_reducible assumption) | assumption); obtain ⟨ad145, e145, hx145_0, hx145_1, hx145_2⟩ := at_T51 HR0_0.out a1 p145 q145; cases e145; replace hx145_0 := (HB.out.cell (World.block_lt_of_cell? w _ hx145_0)).trans hx145_0; replace hx145_1 := (HB.out.cell (World.block_lt_of_cell? w _ hx145_1)).trans hx145_1; replace hx145_2 := (HB.out.cell (World.block_lt_of_cell? w _ hx145_2)).trans hx145_2; replace p145 := eq_true p145; replace q145 := eq_true q145) | ((with_reducible refine gate_dst (N := 5) rfl ?_); refine box_event ?hg (N := 5) ?hd (cs := #[.int .i64 0, .int .i64 0, .int .i64 0]) (t := 51) ?hr ?_; (case hd => rfl); (case hg => rfl); (case hr => first | (go_simp; done) | (go_simp; rfl)); intro gb146 hg w17 hbox hb; have n0_ := Aside0.mk (blk_below (zh BK144.out) hb); have n1_ := Aside0.mk (below_step (zb HB.out) hb); have n2_ := Aside0.mk (hbox); have n3_ := Aside0.mk ((by rw [hg]; exact (below_size (zb HB.out)) : w.heap.size ≤ gb146)); have n4_ := Aside0.mk ((by rw [hg]; exact (below_size (zb HB.out)) : w.heap.size ≤ gb146)); have n5_ := Aside0.mk ((by rw [hg]; exact Nat.ne_of_lt (blk_lt (zh BK144.out)) : gb144 ≠ gb146)); have n6_ := Aside0.mk ((by rw [hg]; exact Nat.ne_of_gt (blk_lt (zh BK144.out)) : gb146 ≠ gb144)); clear BK144; clear HB; have BK144 := n0_; have HB := n1_; have BK146 := n2_; have GW146 := n3_; have GE146 := n4_; have NB144_146 := n5_; have NB146_144 := n6_; clear n0_ n1_ n2_ n3_ n4_ n5_ n6_; clear hb hbox hg; have hnb18 := NB146_144.out; have hnc18 := NB144_146.out; have hcz19_0 : w17.cell? ⟨gb146, 0, none⟩ = some (.int .i64 0) := (blk_cell BK146.out 0).trans rfl; have hcz19_1 : w17.cell? ⟨gb146, 1, none⟩ = some (.int .i64 0) := (blk_cell BK146.out 1).trans rfl; have hcz19_2 : w17.cell? ⟨gb146, 2, none⟩ = some (.int .i64 0) := (blk_cell BK146.out 2).trans rfl; have hfz19_0 := blk_frozen BK146.out 0; have hfz19_1 := blk_frozen BK146.out 1; have hfz19_2 := blk_frozen BK146.out 2) | ((with_reducible refine gate_callee (f := 52) rfl ?_); refine goesL_ (some 13) rfl rfl Tryd.func52 (by kernel_rfl) rfl #[.int .i64 ((rd_T51 l0_0 a1).f0)] rfl zl ?_; (with_reducible refine (spec_l1Parts.calls k ((rd_T51 l0_0 a1).f0) t147 _ A5.out).mono ?_); rintro e w' ⟨rfl, ⟨nd, rfl⟩⟩; refine ⟨_, rfl, ?_⟩) | ((with_reducible refine gate_dst (N := 25) rfl ?_); refine Kd.R_lit (Kd.int .i64) _ 3 ?hg (N := 25) ?hd (xs := ([(rd_T51 l0_0 a1).f1, (rd_T51 l0_0 a1).f2] : List Int)) (inner := [.int .i64 ((rd_T51 l0_0 a1).f1), .int .i64 ((rd_T51 l0_0 a1).f2)]) (ok := fun _ => True) (okp := fun _ => True) ?hr ?hp (fun _ hk => hk) trivial (Below.refl _ _) (Nat.le_refl _) (by simp) ?_; (case hd => rfl); (case hg => rfl); (case hr => first | (go_simp; done) | (go_simp; rfl)); (case hp => exact (Reps.one (show Kd.M (Kd.int .i64) _ _ _ ((rd_T51 l0_0 a1).f1) [.int .i64 ((rd_T51 l0_0 a1).f1)] from rfl) (Reps.one (show Kd.M (Kd.int .i64) _ _ _ ((rd_T51 l0_0 a1).f2) [.int .i64 ((rd_T51 l0_0 a1).f2)] from rfl) (Reps.none _ _)))); intro v152 w20 ho21 hb hg_ hnew_; clear hg_ hnew_; (first | rw [← Ny151.out] at ho21 | (simp only [Int.reduceToNat] at ho21; rw [← Ny151.out] at ho21)); have n0_ := Aside0.mk (Kd.R_lower ho21 (below_size (zb HB.out))); have n1_ := Aside0.mk (blk_below (g := gb144) (o := .cells #[.slice (some ad145) l0_0.length c0_0] 29 (0, 0)) (zf BK144.out) hb); have n2_ := Aside0.mk (blk_below (g := gb146) (o := .cells #[.int .i64 ((rd_T51 l0_0 a1).f0), .int .i64 ((rd_T51 l0_0 a1).f1), .int .i64 ((rd_T51 l0_0 a1).f2)] 51 (0, 0)) (by (with_reducible repeat (first | refine blk_drewN ?_ _ | refine blk_drew ?_ | refine blk_alloc ?_ _)); refine blk_put (cs := #[.int .i64 ((rd_T51 l0_0 a1).f0), .int .i64 ((rd_T51 l0_0 a1).f1), .int .i64 0]) ?_ 2 _ rfl; (with_reducible repeat (first | refine blk_drewN ?_ _ | refine blk_drew ?_ | refine blk_alloc ?_ _)); refine blk_put (cs := #[.int .i64 ((rd_T51 l0_0 a1).f0), .int .i64 0, .int .i64 0]) ?_ 1 _ rfl; (with_reducible repeat (first | refine blk_drewN ?_ _ | refine blk_drew ?_ | refine blk_alloc ?_ _)); refine blk_put (cs := #[.int .i64 0, .int .i64 0, .int .i64 0]) ?_ 0 _ rfl; (with_reducible repeat (first | refine blk_drewN ?_ _ | refine blk_drew ?_ | refine blk_alloc ?_ _)); exact BK146.out) hb); have n3_ := Aside0.mk (below_step (zb HB.out) hb); clear BK144; clear BK146; clear HB; have HO153 := n0_; have BK144 := n1_; have BK146 := n2_; have HB := n3_; clear n0_ n1_ n2_ n3_; clear hb ho21))
     go_ret
     exact ⟨_, ze, zr HO153.out, zb HB.out⟩
    ·rw [if_neg c14] at H
     have c14b0 : (t147 == 2) = false := beq_eq_false_iff_ne.mpr c14
     have c14b1 : (t147 != 2) = true := bne_iff_ne.mpr c14
     obtain ⟨y154, hy154⟩ : ∃ y_ : List Int, y_ = (([] : List Int)) := ⟨_, rfl⟩
     replace H : (some y154) = some r := by first | (rw [hy154]; with_reducible exact H) | (have H2_ := (Option.bind_some _ _).symm.trans H; rw [hy154]; with_reducible exact H2_) | (have H2_ := (Option.bind_some _ _).symm.trans H; with_reducible exact H2_) | with_reducible exact H | (rw [hy154]; exact H) | exact H
     have Ny154 := Aside0.mk hy154
     clear hy154
     obtain rfl := Option.some.inj H
     go_enter Tryd.func44, Tryd.ntmps44
     go_wp2_with (first | ((with_reducible refine gate_dst (N := 2) rfl ?_); refine box_event ?hg (N := 2) ?hd (cs := #[.slice A0_0 l0_0.length c0_0]) (t := 29) ?hr ?_; (case hd => rfl); (case hg => rfl); (case hr => first | (go_simp; done) | (go_simp; rfl)); intro gb144 hg w22 hbox hb; have n0_ := Aside0.mk (below_step (zb HB.out) hb); have n1_ := Aside0.mk (hbox); have n2_ := Aside0.mk ((by rw [hg]; exact (below_size (zb HB.out)) : w.heap.size ≤ gb144)); have n3_ := Aside0.mk ((by rw [hg]; exact (below_size (zb HB.out)) : w.heap.size ≤ gb144)); clear HB; have HB := n0_; have BK144 := n1_; have GW144 := n2_; have GE144 := n3_; clear n0_ n1_ n2_ n3_; clear hb hbox hg; have hcz23_0 : w22.cell? ⟨gb144, 0, none⟩ = some (.slice A0_0 l0_0.length c0_0) := (blk_cell BK144.out 0).trans rfl; have hfz23_0 := blk_frozen BK144.out 0; have p145 : 0 ≤ (a1 : Int) := of_decide_eq_true (by first | (with_reducible assumption) | assumption); have q145 : a1 < (l0_0.length : Int) := of_decide_eq_true (by first | (with_reducible assumption) | assumption); obtain ⟨ad145, e145, hx145_0, hx145_1, hx145_2⟩ := at_T51 HR0_0.out a1 p145 q145; cases e145; replace hx145_0 := (HB.out.cell (World.block_lt_of_cell? w _ hx145_0)).trans hx145_0; replace hx145_1 := (HB.out.cell (World.block_lt_of_cell? w _ hx145_1)).trans hx145_1; replace hx145_2 := (HB.out.cell (World.block_lt_of_cell? w _ hx145_2)).trans hx145_2; replace p145 := eq_true p145; replace q145 := eq_true q145) | ((with_reducible refine gate_dst (N := 5) rfl ?_); refine box_event ?hg (N := 5) ?hd (cs := #[.int .i64 0, .int .i64 0, .int .i64 0]) (t := 51) ?hr ?_; (case hd => rfl); (case hg => rfl); (case hr => first | (go_simp; done) | (go_simp; rfl)); intro gb146 hg w24 hbox hb; have n0_ := Aside0.mk (blk_below (zh BK144.out) hb); have n1_ := Aside0.mk (below_step (zb HB.out) hb); have n2_ := Aside0.mk (hbox); have n3_ := Aside0.mk ((by rw [hg]; exact (below_size (zb HB.out)) : w.heap.size ≤ gb146)); have n4_ := Aside0.mk ((by rw [hg]; exact (below_size (zb HB.out)) : w.heap.size ≤ gb146)); have n5_ := Aside0.mk ((by rw [hg]; exact Nat.ne_of_lt (blk_lt (zh BK144.out)) : gb144 ≠ gb146)); have n6_ := Aside0.mk ((by rw [hg]; exact Nat.ne_of_gt (blk_lt (zh BK144.out)) : gb146 ≠ gb144)); clear BK144; clear HB; have BK144 := n0_; have HB := n1_; have BK146 := n2_; have GW146 := n3_; have GE146 := n4_; have NB144_146 := n5_; have NB146_144 := n6_; clear n0_ n1_ n2_ n3_ n4_ n5_ n6_; clear hb hbox hg; have hnb25 := NB146_144.out; have hnc25 := NB144_146.out; have hcz26_0 : w24.cell? ⟨gb146, 0, none⟩ = some (.int .i64 0) := (blk_cell BK146.out 0).trans rfl; have hcz26_1 : w24.cell? ⟨gb146, 1, none⟩ = some (.int .i64 0) := (blk_cell BK146.out 1).trans rfl; have hcz26_2 : w24.cell? ⟨gb146, 2, none⟩ = some (.int .i64 0) := (blk_cell BK146.out 2).trans rfl; have hfz26_0 := blk_frozen BK146.out 0; have hfz26_1 := blk_frozen BK146.out 1; have hfz26_2 := blk_frozen BK146.out 2) | ((with_reducible refine gate_callee (f := 52) rfl ?_); refine goesL_ (some 13) rfl rfl Tryd.func52 (by kernel_rfl) rfl #[.int .i64 ((rd_T51 l0_0 a1).f0)] rfl zl ?_; (with_reducible refine (spec_l1Parts.calls k ((rd_T51 l0_0 a1).f0) t147 _ A5.out).mono ?_); rintro e w' ⟨rfl, ⟨nd, rfl⟩⟩; refine ⟨_, rfl, ?_⟩) | ((with_reducible refine gate_dst (N := 26) rfl ?_); refine Kd.R_lit (Kd.int .i64) _ 3 ?hg (N := 26) ?hd (xs := ([] : List Int)) (inner := []) (ok := fun _ => True) (okp := fun _ => True) ?hr ?hp (fun _ hk => hk) trivial (Below.refl _ _) (Nat.le_refl _) (by simp) ?_; (case hd => rfl); (case hg => rfl); (case hr => first | (go_simp; done) | (go_simp; rfl)); (case hp => exact (Reps.none _ _)); intro v155 w27 ho28 hb hg_ hnew_; clear hg_ hnew_; (first | rw [← Ny154.out] at ho28 | (simp only [Int.reduceToNat] at ho28; rw [← Ny154.out] at ho28)); have n0_ := Aside0.mk (Kd.R_lower ho28 (below_size (zb HB.out))); have n1_ := Aside0.mk (blk_below (g := gb144) (o := .cells #[.slice (some ad145) l0_0.length c0_0] 29 (0, 0)) (zf BK144.out) hb); have n2_ := Aside0.mk (blk_below (g := gb146) (o := .cells #[.int .i64 ((rd_T51 l0_0 a1).f0), .int .i64 ((rd_T51 l0_0 a1).f1), .int .i64 ((rd_T51 l0_0 a1).f2)] 51 (0, 0)) (by (with_reducible repeat (first | refine blk_drewN ?_ _ | refine blk_drew ?_ | refine blk_alloc ?_ _)); refine blk_put (cs := #[.int .i64 ((rd_T51 l0_0 a1).f0), .int .i64 ((rd_T51 l0_0 a1).f1), .int .i64 0]) ?_ 2 _ rfl; (with_reducible repeat (first | refine blk_drewN ?_ _ | refine blk_drew ?_ | refine blk_alloc ?_ _)); refine blk_put (cs := #[.int .i64 ((rd_T51 l0_0 a1).f0), .int .i64 0, .int .i64 0]) ?_ 1 _ rfl; (with_reducible repeat (first | refine blk_drewN ?_ _ | refine blk_drew ?_ | refine blk_alloc ?_ _)); refine blk_put (cs := #[.int .i64 0, .int .i64 0, .int .i64 0]) ?_ 0 _ rfl; (with_reducible repeat (first | refine blk_drewN ?_ _ | refine blk_drew ?_ | refine blk_alloc ?_ _)); exact BK146.out) hb); have n3_ := Aside0.mk (below_step (zb HB.out) hb); clear BK144; clear BK146; clear HB; have HO156 := n0_; have BK144 := n1_; have BK146 := n2_; have HB := n3_; clear n0_ n1_ n2_ n3_; clear hb ho28))
     go_ret
     exact ⟨_, ze, zr HO156.out, zb HB.out⟩
  ·rw [if_neg c4] at H
   exact absurd H (by simp)
 ·rw [if_neg c3] at H
  exact absurd H (by simp)

/-! ### spec_l1Min: function 45 -/
def spec_l1Min.f (a0 : Int) (a1 : Int) : Option (Int) := if a0 < a1 then (some a0) else (some a1)
set_option maxHeartbeats 8000000 in
set_option maxRecDepth 100000 in
theorem spec_l1Min.calls (a0 : Int) (a1 : Int) (r : Int) (w : World) (h : spec_l1Min.f a0 a1 = some r) :
  Calls Tryd.prog 45 #[.int .i64 a0, .int .i64 a1] w fun e w' => e = .returned (.int .i64 r) ∧ Drawn0 w w' := by
 have H : (if a0 < a1 then (some a0) else (some a1)) = some r := h
 clear h
 by_cases c3 : a0 < a1
 ·rw [if_pos c3] at H
  have c3b0 : decide (a0 < a1) = true := decide_eq_true c3
  clear c3
  obtain rfl := Option.some.inj H
  go_enter Tryd.func45, Tryd.ntmps45
  go_wp2
  go_ret
  exact ⟨by first | rfl | (simp; done) | (simp [*]; done), by repeat (first | exact Drawn0.refl _ | apply Drawn0.step)⟩
 ·rw [if_neg c3] at H
  have c3b0 : decide (a0 < a1) = false := decide_eq_false c3
  clear c3
  obtain rfl := Option.some.inj H
  go_enter Tryd.func45, Tryd.ntmps45
  go_wp2
  go_ret
  exact ⟨by first | rfl | (simp; done) | (simp [*]; done), by repeat (first | exact Drawn0.refl _ | apply Drawn0.step)⟩

/-! ### spec_l1Sizes: function 28 -/
mutual
def spec_l1Sizes.l0 : Nat → List Int → Int → List (S51) → Option (List Int)
 | 0, _, _, _ => none
 | k + 1, x3, x4, x158000 => if x4 < (x158000.length : Int) then ((spec_l1PartsOf.f k x158000 x4).bind fun t161 => (spec_l1Sizes.l1 k x3 x4 1 t161 0 x158000)) else (some x3)
def spec_l1Sizes.l1 : Nat → List Int → Int → Int → List Int → Int → List (S51) → Option (List Int)
 | 0, _, _, _, _, _, _ => none
 | k + 1, x3, x4, x5, x6, x7, x158000 => if x7 < (x6.length : Int) then (if 0 ≤ x7 then (if 0 ≤ (rd x6 x7) then (if (rd x6 x7) < (x3.length : Int) then ((spec_l1Min.f (wrap64 (x5 + (rd x3 (rd x6 x7)))) 1001).bind fun t166 => (spec_l1Sizes.l1 k x3 x4 t166 x6 (wrap64 (x7 + 1)) x158000)) else (none)) else (none)) else (none)) else (if x3.length < 17592186044416 then (spec_l1Sizes.l0 k (x3 ++ [x5]) (wrap64 (x4 + 1)) x158000) else (none))
end
def spec_l1Sizes.f (k : Nat) (l0_0 : List (S51)) : Option (List Int) := spec_l1Sizes.l0 k (([] : List Int)) 0 l0_0
set_option maxHeartbeats 8000000 in
set_option maxRecDepth 100000 in
theorem spec_l1Sizes.calls (k : Nat) (A0_0 : Option Addr) (c0_0 : Nat) (l0_0 : List (S51)) (r : List Int) (w : World) (hr0_0 : Kd.C k51 w A0_0 l0_0.length l0_0) (hc0_0 : l0_0.length ≤ c0_0) (h : spec_l1Sizes.f k l0_0 = some r) :
  Calls Tryd.prog 28 #[.agg #[.slice A0_0 l0_0.length c0_0]] w fun e w' => ∃ v0_ : Value, e = .returned (v0_) ∧ Kd.R (Kd.int .i64) 3 w' w.heap.size (fun _ => True) v0_ r ∧ Below w.heap.size w w' := by
 have hu29 := Tryd.underlying29
 have HR0_0 := Aside0.mk hr0_0
 have HC0_0 := Aside0.mk hc0_0
 clear hr0_0 hc0_0
 have HB := Aside0.mk (Below.refl w.heap.size w)
 have H : (spec_l1Sizes.l0 k (([] : List Int)) 0 l0_0) = some r := h
 clear h
 obtain ⟨y158, hy158⟩ : ∃ y_ : List Int, y_ = (([] : List Int)) := ⟨_, rfl⟩
 replace H : (spec_l1Sizes.l0 k y158 0 l0_0) = some r := by first | (rw [hy158]; with_reducible exact H) | (have H2_ := (Option.bind_some _ _).symm.trans H; rw [hy158]; with_reducible exact H2_) | (have H2_ := (Option.bind_some _ _).symm.trans H; with_reducible exact H2_) | with_reducible exact H | (rw [hy158]; exact H) | exact H
 have Ny158 := Aside0.mk hy158
 clear hy158
 have H' := Aside0.mk H
 clear H
 go_enter Tryd.func28, Tryd.ntmps28
 go_wp2_with (first | ((with_reducible refine gate_dst (N := 1) rfl ?_); refine box_event ?hg (N := 1) ?hd (cs := #[.slice A0_0 l0_0.length c0_0]) (t := 29) ?hr ?_; (case hd => rfl); (case hg => rfl); (case hr => first | (go_simp; done) | (go_simp; rfl)); intro gb157 hg w2 hbox hb; have n0_ := Aside0.mk (below_step (zb HB.out) hb); have n1_ := Aside0.mk (hbox); have n2_ := Aside0.mk ((by rw [hg]; exact (below_size (zb HB.out)) : w.heap.size ≤ gb157)); have n3_ := Aside0.mk ((by rw [hg]; exact (below_size (zb HB.out)) : w.heap.size ≤ gb157)); clear HB; have HB := n0_; have BK157 := n1_; have GW157 := n2_; have GE157 := n3_; clear n0_ n1_ n2_ n3_; clear hb hbox hg) | ((with_reducible refine gate_dst (N := 8) rfl ?_); refine Kd.R_lit (Kd.int .i64) _ 3 ?hg (N := 8) ?hd (xs := ([] : List Int)) (inner := []) (ok := fun _ => True) (okp := fun _ => True) ?hr ?hp (fun _ hk => hk) trivial (Below.refl _ _) (Nat.le_refl _) (by simp) ?_; (case hd => rfl); (case hg => rfl); (case hr => first | (go_simp; done) | (go_simp; rfl)); (case hp => exact (Reps.none _ _)); intro v159 w3 ho4 hb hg_ hnew_; clear hg_ hnew_; (first | rw [← Ny158.out] at ho4 | (simp only [Int.reduceToNat] at ho4; rw [← Ny158.out] at ho4)); have n0_ := Aside0.mk (Kd.R_lower ho4 (below_size (zb HB.out))); have n1_ := Aside0.mk (blk_below (zh BK157.out) hb); have n2_ := Aside0.mk (below_step (zb HB.out) hb); clear BK157; clear HB; have HO160 := n0_; have BK157 := n1_; have HB := n2_; clear n0_ n1_ n2_; clear hb ho4))
 go_loopg [3, 4] k (fun kq v3 v4 w' => ∃ (x3_1 : List Int) (x4_1 : Int), v4 = .int .i64 x4_1 ∧ Aside0 (spec_l1Sizes.l0 kq x3_1 x4_1 l0_0 = some r) ∧ Aside0 (kq ≤ k) ∧ Aside0 (Kd.R (Kd.int .i64) 3 w' w.heap.size (fun _ => True) v3 x3_1) ∧ Aside0 (w'.heap[gb157]? = some (.cells #[(.slice A0_0 l0_0.length c0_0)] 29 (0, 0))) ∧ Aside0 (Below w.heap.size w w'))
 case atStart => exact ⟨(y158), (0), (by first | rfl | (simp; done) | (simp [*]; done)), H', ⟨Nat.le_refl _⟩, ⟨zr HO160.out⟩, ⟨zh BK157.out⟩, ⟨zb HB.out⟩⟩
 case round =>
  clear H'
  try clear c2
  try clear p2
  obtain ⟨x3_1, x4_1, rfl, HA, HK1, HO_3, BK157, HB⟩ := hrel
  cases gk with
  | zero => exact absurd HA.out (by simp [spec_l1Sizes.l0])
  | succ k1 =>
   have H := HA.out
   clear HA
   simp only [spec_l1Sizes.l0] at H
   by_cases c5 : x4_1 < (l0_0.length : Int)
   ·rw [if_pos c5] at H
    have c5b0 : decide (x4_1 < (l0_0.length : Int)) = true := decide_eq_true c5
    clear c5
    replace H := Option.bind_eq_some_iff.mp H
    obtain ⟨t161, A60, H⟩ := H
    replace H : (spec_l1Sizes.l1 k1 x3_1 x4_1 1 t161 0 l0_0) = some r := H
    have A6 := Aside0.mk A60
    clear A60
    have H' := Aside0.mk H
    clear H
    have hcz7_0 : wr.cell? ⟨gb157, 0, none⟩ = some (.slice A0_0 l0_0.length c0_0) := (blk_cell BK157.out 0).trans rfl
    have hfz7_0 := blk_frozen BK157.out 0
    go_wp2_with (first | ((with_reducible refine gate_callee (f := 44) rfl ?_); refine goesL_ (some 18) rfl rfl Tryd.func44 (by kernel_rfl) rfl #[.agg #[.slice A0_0 l0_0.length c0_0], .int .i64 x4_1] rfl zl ?_; (with_reducible refine (spec_l1PartsOf.calls k1 _ _ l0_0 x4_1 t161 _ ?side1 ?side2 A6.out).mono ?_); (case side1 => exact zc (Kd.C_below HR0_0.out HB.out)); (case side2 => exact HC0_0.out); rintro e w8 ⟨v162, rfl, ho0, hb⟩; refine ⟨_, rfl, ?_⟩; have n0_ := Aside0.mk (Kd.R_elder' (zr HO_3.out) (Kd.R_base ho0) hb); have n1_ := Aside0.mk (Kd.R_lower (Kd.R_new' ho0 (Kd.R_lt (zr HO_3.out))) (below_size (zb HB.out))); have n2_ := Aside0.mk (blk_below (zh BK157.out) hb); have n3_ := Aside0.mk (below_step (zb HB.out) hb); clear HO_3; clear BK157; clear HB; have HO_3 := n0_; have HO163 := n1_; have BK157 := n2_; have HB := n3_; clear n0_ n1_ n2_ n3_; (try clear hb); (try clear hb2); (try clear hk); (try clear hi); (try clear ho0)))
    go_loopg [5, 7] k1 (fun kq v5 v7 w' => ∃ (x5_2 : Int) (x7_2 : Int), v5 = .int .i64 x5_2 ∧ v7 = .int .i64 x7_2 ∧ Aside0 (spec_l1Sizes.l1 kq x3_1 x4_1 x5_2 t161 x7_2 l0_0 = some r) ∧ Aside0 (kq ≤ k1) ∧ Aside0 (Kd.R (Kd.int .i64) 3 w' w.heap.size (fun k_ => some k_ ≠ (v162 : Value).ownBlock) u3 x3_1) ∧ Aside0 (Kd.R (Kd.int .i64) 3 w' w.heap.size (fun k_ => some k_ ≠ (u3 : Value).ownBlock) v162 t161) ∧ Aside0 (w'.heap[gb157]? = some (.cells #[(.slice A0_0 l0_0.length c0_0)] 29 (0, 0))) ∧ Aside0 (Below w.heap.size w w'))
    case atStart => exact ⟨(1), (0), (by first | rfl | (simp; done) | (simp [*]; done)), (by first | rfl | (simp; done) | (simp [*]; done)), H', ⟨Nat.le_refl _⟩, ⟨zr (Kd.R_mono HO_3.out (fun _ hk => hk.2))⟩, ⟨zr (Kd.R_mono HO163.out (fun _ hk => hk.2))⟩, ⟨zh BK157.out⟩, ⟨zb HB.out⟩⟩
    case round =>
     clear H'
     try clear c2
     try clear p2
     try clear c4
     try clear c5
     try clear c5b0
     try clear hcz7_0
     try clear hfz7_0
     try clear p2
     obtain ⟨x5_2, x7_2, rfl, rfl, HA, HK2, HO_3, HO_6, BK157, HB⟩ := hrel
     cases gk with
     | zero => exact absurd HA.out (by simp [spec_l1Sizes.l1])
     | succ k2 =>
      have H := HA.out
      clear HA
      simp only [spec_l1Sizes.l1] at H
      by_cases c9 : x7_2 < (t161.length : Int)
      ·rw [if_pos c9] at H
       have c9b0 : decide (x7_2 < (t161.length : Int)) = true := decide_eq_true c9
       clear c9
       by_cases c10 : 0 ≤ x7_2
       ·rw [if_pos c10] at H
        have c10b0 : decide (0 ≤ x7_2) = true := decide_eq_true c10
        clear c10
        by_cases c11 : 0 ≤ (rd t161 x7_2)
        ·rw [if_pos c11] at H
         have c11b0 : decide (0 ≤ (rd t161 x7_2)) = true := decide_eq_true c11
         clear c11
         by_cases c12 : (rd t161 x7_2) < (x3_1.length : Int)
         ·rw [if_pos c12] at H
          have c12b0 : decide ((rd t161 x7_2) < (x3_1.length : Int)) = true := decide_eq_true c12
          clear c12
          replace H := Option.bind_eq_some_iff.mp H
          obtain ⟨t166, A130, H⟩ := H
          replace H : (spec_l1Sizes.l1 k2 x3_1 x4_1 t166 t161 (wrap64 (x7_2 + 1)) l0_0) = some r := H
          have A13 := Aside0.mk A130
          clear A130
          have H' := Aside0.mk H
          clear H
          obtain ⟨Ao14, co14, eo14⟩ := Kd.R_slice HO_6.out
          subst eo14
          have p164 : 0 ≤ (x7_2 : Int) := of_decide_eq_true (by first | (with_reducible assumption) | assumption)
          have q164 : x7_2 < (t161.length : Int) := of_decide_eq_true (by first | (with_reducible assumption) | assumption)
          obtain ⟨ad164, e164, hx164_0⟩ := Kd.at_int (Kd.R_reads' HO_6.out).2.2 x7_2 p164 q164
          cases e164
          replace p164 := eq_true p164
          replace q164 := eq_true q164
          obtain ⟨Ao15, co15, eo15⟩ := Kd.R_slice HO_3.out
          subst eo15
          have p165 : 0 ≤ ((rd t161 x7_2) : Int) := of_decide_eq_true (by first | (with_reducible assumption) | assumption)
          have q165 : (rd t161 x7_2) < (x3_1.length : Int) := of_decide_eq_true (by first | (with_reducible assumption) | assumption)
          obtain ⟨ad165, e165, hx165_0⟩ := Kd.at_int (Kd.R_reads' HO_3.out).2.2 (rd t161 x7_2) p165 q165
          cases e165
          replace p165 := eq_true p165
          replace q165 := eq_true q165
          go_wp2_with (first | ((with_reducible refine gate_callee (f := 45) rfl ?_); refine goesL_ (some 34) rfl rfl Tryd.func45 (by kernel_rfl) rfl #[.int .i64 (wrap64 (x5_2 + (rd x3_1 (rd t161 x7_2)))), .int .i64 1001] rfl zl ?_; (with_reducible refine (spec_l1Min.calls (wrap64 (x5_2 + (rd x3_1 (rd t161 x7_2)))) 1001 t166 _ A13.out).mono ?_); rintro e w' ⟨rfl, ⟨nd, rfl⟩⟩; refine ⟨_, rfl, ?_⟩))
          go_roundg k2
          case measure => have := HK1.out; have := HK2.out; omega
          case rel => exact ⟨(t166), (wrap64 (x7_2 + 1)), (by first | rfl | (simp; done) | (simp [*]; done)), (by first | rfl | (simp; done) | (simp [*]; done)), H', ⟨by have := HK1.out; have := HK2.out; omega⟩, ⟨zr HO_3.out⟩, ⟨zr HO_6.out⟩, ⟨zh BK157.out⟩, ⟨zb HB.out⟩⟩
         ·rw [if_neg c12] at H
          exact absurd H (by simp)
        ·rw [if_neg c11] at H
         exact absurd H (by simp)
       ·rw [if_neg c10] at H
        exact absurd H (by simp)
      ·rw [if_neg c9] at H
       have c9b0 : decide (x7_2 < (t161.length : Int)) = false := decide_eq_false c9
       clear c9
       by_cases c16 : x3_1.length < 17592186044416
       ·rw [if_pos c16] at H
        have LMc16 := Aside0.mk c16
        clear c16
        obtain ⟨y167, hy167⟩ : ∃ y_ : List Int, y_ = (x3_1 ++ [x5_2]) := ⟨_, rfl⟩
        replace H : (spec_l1Sizes.l0 k2 y167 (wrap64 (x4_1 + 1)) l0_0) = some r := by first | (rw [hy167]; with_reducible exact H) | (have H2_ := (Option.bind_some _ _).symm.trans H; rw [hy167]; with_reducible exact H2_) | (have H2_ := (Option.bind_some _ _).symm.trans H; with_reducible exact H2_) | with_reducible exact H | (rw [hy167]; exact H) | exact H
        have Ny167 := Aside0.mk hy167
        clear hy167
        have H' := Aside0.mk H
        clear H
        obtain ⟨Ao17, co17, eo17⟩ := Kd.R_slice HO_6.out
        subst eo17
        go_wp2_with (first | ((with_reducible refine gate_builtin (b := .append) (xs := #[.tmp 35, .tmp 37]) rfl ?_); at_builtin; refine Kd.R_append (Kd.int .i64) (w0 := w) w.heap.size rfl (.tmp 35) (.tmp 37) 33 3 (.int .i64 0) 8 rfl Tryd.underlying33 info3 rfl (by decide) (by omega) u3 x3_1 x5_2 [.int .i64 x5_2] (fun k_ => some k_ ≠ (.slice Ao17 t161.length co17 : Value).ownBlock) (fun _ => False) rfl rfl ?aP (fun _ hk => hk.elim) ?aF ?aO ?aB ?aS ?aL ?_; (case aP => exact rfl); (case aB => exact (zb HB.out)); (case aF => exact (fun k_ hk => Kd.fresh' (Kd.R_lt (zr HO_6.out)) k_ hk)); (case aO => exact (zr HO_3.out)); (case aS => exact (below_size (zb HB.out))); (case aL => have := LMc16.out; omega); intro v168 w18 ho hb hg hat; rw [← Ny167.out] at ho; have n0_ := Aside0.mk (Kd.R_after (ok := (fun _ => True)) (by (with_reducible repeat (first | apply Kd.R_alloc | apply Kd.R_drewN | apply Kd.R_drew)); exact Kd.R_mono HO_6.out (fun _ hk => ⟨trivial, hk⟩)) hg hat); have n1_ := Aside0.mk (blk_grown (zh BK157.out) hg (Kd.R_ne HO_3.out BK157.out (by decide))); have n2_ := Aside0.mk (hb); have n3_ := Aside0.mk (ho); clear HO_6; clear BK157; clear HB; clear HO_3; have HO_6 := n0_; have BK157 := n1_; have HB := n2_; have HO169 := n3_; clear n0_ n1_ n2_ n3_; clear ho hb hg hat))
        go_roundg k2
        case measure => have := HK1.out; have := HK2.out; omega
        case rel => exact ⟨(y167), (wrap64 (x4_1 + 1)), (by first | rfl | (simp; done) | (simp [*]; done)), H', ⟨by have := HK1.out; have := HK2.out; omega⟩, ⟨zr (Kd.R_mono HO169.out (fun _ hk => trivial))⟩, ⟨zh BK157.out⟩, ⟨zb HB.out⟩⟩
       ·rw [if_neg c16] at H
        exact absurd H (by simp)
   ·rw [if_neg c5] at H
    have c5b0 : decide (x4_1 < (l0_0.length : Int)) = false := decide_eq_false c5
    clear c5
    obtain rfl := Option.some.inj H
    have hcz19_0 : wr.cell? ⟨gb157, 0, none⟩ = some (.slice A0_0 l0_0.length c0_0) := (blk_cell BK157.out 0).trans rfl
    have hfz19_0 := blk_frozen BK157.out 0
    go_wp2
    go_ret
    exact ⟨_, ze, zr HO_3.out, zb HB.out⟩

/-! ### spec_TermSize: function 16 -/
def spec_TermSize.f (k : Nat) (l0_0 : List (S51)) (a1 : Int) : Option (Int) := (spec_PoolOk.f k l0_0).bind fun t171 => (if t171 = true then ((spec_l1Has.f l0_0 a1).bind fun t172 => (if t172 = true then ((spec_l1Sizes.f k l0_0).bind fun t173 => (if 0 ≤ a1 then (if a1 < (t173.length : Int) then (some (rd t173 a1)) else (none)) else (none))) else (some 0))) else (some 0))
set_option maxHeartbeats 8000000 in
set_option maxRecDepth 100000 in
theorem spec_TermSize.calls (k : Nat) (A0_0 : Option Addr) (c0_0 : Nat) (l0_0 : List (S51)) (a1 : Int) (r : Int) (w : World) (hr0_0 : Kd.C k51 w A0_0 l0_0.length l0_0) (hc0_0 : l0_0.length ≤ c0_0) (h : spec_TermSize.f k l0_0 a1 = some r) :
  Calls Tryd.prog 16 #[.agg #[.slice A0_0 l0_0.length c0_0], .int .i64 a1] w fun e w' => e = .returned (.int .i64 r) ∧ Below w.heap.size w w' := by
 have hu29 := Tryd.underlying29
 have HR0_0 := Aside0.mk hr0_0
 have HC0_0 := Aside0.mk hc0_0
 clear hr0_0 hc0_0
 have HB := Aside0.mk (Below.refl w.heap.size w)
 have H : ((spec_PoolOk.f k l0_0).bind fun t171 => (if t171 = true then ((spec_l1Has.f l0_0 a1).bind fun t172 => (if t172 = true then ((spec_l1Sizes.f k l0_0).bind fun t173 => (if 0 ≤ a1 then (if a1 < (t173.length : Int) then (some (rd t173 a1)) else (none)) else (none))) else (some 0))) else (some 0))) = some r := h
 clear h
 replace H := Option.bind_eq_some_iff.mp H
 obtain ⟨t171, A30, H⟩ := H
 replace H : (if t171 = true then ((spec_l1Has.f l0_0 a1).bind fun t172 => (if t172 = true then ((spec_l1Sizes.f k l0_0).bind fun t173 => (if 0 ≤ a1 then (if a1 < (t173.length : Int) then (some (rd t173 a1)) else (none)) else (none))) else (some 0))) else (some 0)) = some r := H
 have A3 := Aside0.mk A30
 clear A30
 by_cases c4 : t171 = true
 ·subst c4
  have H1 : ((spec_l1Has.f l0_0 a1).bind fun t172 => (if t172 = true then ((spec_l1Sizes.f k l0_0).bind fun t173 => (if 0 ≤ a1 then (if a1 < (t173.length : Int) then (some (rd t173 a1)) else (none)) else (none))) else (some 0))) = some r := by rw [if_pos rfl] at H; exact H
  clear H
  have H := H1
  clear H1
  replace H := Option.bind_eq_some_iff.mp H
  obtain ⟨t172, A50, H⟩ := H
  replace H : (if t172 = true then ((spec_l1Sizes.f k l0_0).bind fun t173 => (if 0 ≤ a1 then (if a1 < (t173.length : Int) then (some (rd t173 a1)) else (none)) else (none))) else (some 0)) = some r := H
  have A5 := Aside0.mk A50
  clear A50
  by_cases c6 : t172 = true
  ·subst c6
   have H1 : ((spec_l1Sizes.f k l0_0).bind fun t173 => (if 0 ≤ a1 then (if a1 < (t173.length : Int) then (some (rd t173 a1)) else (none)) else (none))) = some r := by rw [if_pos rfl] at H; exact H
   clear H
   have H := H1
   clear H1
   replace H := Option.bind_eq_some_iff.mp H
   obtain ⟨t173, A70, H⟩ := H
   replace H : (if 0 ≤ a1 then (if a1 < (t173.length : Int) then (some (rd t173 a1)) else (none)) else (none)) = some r := H
   have A7 := Aside0.mk A70
   clear A70
   by_cases c8 : 0 ≤ a1
   ·rw [if_pos c8] at H
    have c8b0 : decide (0 ≤ a1) = true := decide_eq_true c8
    clear c8
    by_cases c9 : a1 < (t173.length : Int)
    ·rw [if_pos c9] at H
     have c9b0 : decide (a1 < (t173.length : Int)) = true := decide_eq_true c9
     clear c9
     obtain rfl := Option.some.inj H
     go_enter Tryd.func16, Tryd.ntmps16
     go_wp2_with (first | ((with_reducible refine gate_dst (N := 2) rfl ?_); refine box_event ?hg (N := 2) ?hd (cs := #[.slice A0_0 l0_0.length c0_0]) (t := 29) ?hr ?_; (case hd => rfl); (case hg => rfl); (case hr => first | (go_simp; done) | (go_simp; rfl)); intro gb170 hg w10 hbox hb; have n0_ := Aside0.mk (below_step (zb HB.out) hb); have n1_ := Aside0.mk (hbox); have n2_ := Aside0.mk ((by rw [hg]; exact (below_size (zb HB.out)) : w.heap.size ≤ gb170)); have n3_ := Aside0.mk ((by rw [hg]; exact (below_size (zb HB.out)) : w.heap.size ≤ gb170)); clear HB; have HB := n0_; have BK170 := n1_; have GW170 := n2_; have GE170 := n3_; clear n0_ n1_ n2_ n3_; clear hb hbox hg; have hcz11_0 : w10.cell? ⟨gb170, 0, none⟩ = some (.slice A0_0 l0_0.length c0_0) := (blk_cell BK170.out 0).trans rfl; have hfz11_0 := blk_frozen BK170.out 0) | ((with_reducible refine gate_callee (f := 26) rfl ?_); refine goesL_ (some 6) rfl rfl Tryd.func26 (by kernel_rfl) rfl #[.agg #[.slice A0_0 l0_0.length c0_0]] rfl zl ?_; (with_reducible refine (spec_PoolOk.calls k _ _ l0_0 true _ ?side1 ?side2 A3.out).mono ?_); (case side1 => exact zc (Kd.C_below HR0_0.out HB.out)); (case side2 => exact HC0_0.out); rintro e w12 ⟨rfl, hb⟩; refine ⟨_, rfl, ?_⟩; have n0_ := Aside0.mk (blk_below (zh BK170.out) hb); have n1_ := Aside0.mk (below_step (zb HB.out) hb); clear BK170; clear HB; have BK170 := n0_; have HB := n1_; clear n0_ n1_; (try clear hb); (try clear hb2); (try clear hk); (try clear hi); have hcz13_0 : w12.cell? ⟨gb170, 0, none⟩ = some (.slice A0_0 l0_0.length c0_0) := (blk_cell BK170.out 0).trans rfl; have hfz13_0 := blk_frozen BK170.out 0) | (go_at_call 27; (with_reducible refine (spec_l1Has.calls _ _ l0_0 a1 true _ ?side1 ?side2 A5.out).mono ?_); (case side1 => exact zc (Kd.C_below HR0_0.out HB.out)); (case side2 => exact HC0_0.out); rintro e w14 ⟨rfl, hb⟩; have n0_ := Aside0.mk (blk_below (zh BK170.out) hb); have n1_ := Aside0.mk (below_step (zb HB.out) hb); clear BK170; clear HB; have BK170 := n0_; have HB := n1_; clear n0_ n1_; (try clear hb); (try clear hb2); (try clear hk); (try clear hi); have hcz15_0 : w14.cell? ⟨gb170, 0, none⟩ = some (.slice A0_0 l0_0.length c0_0) := (blk_cell BK170.out 0).trans rfl; have hfz15_0 := blk_frozen BK170.out 0) | ((with_reducible refine gate_callee (f := 28) rfl ?_); refine goesL_ (some 15) rfl rfl Tryd.func28 (by kernel_rfl) rfl #[.agg #[.slice A0_0 l0_0.length c0_0]] rfl zl ?_; (with_reducible refine (spec_l1Sizes.calls k _ _ l0_0 t173 _ ?side1 ?side2 A7.out).mono ?_); (case side1 => exact zc (Kd.C_below HR0_0.out HB.out)); (case side2 => exact HC0_0.out); rintro e w16 ⟨v174, rfl, ho0, hb⟩; refine ⟨_, rfl, ?_⟩; have n0_ := Aside0.mk (Kd.R_lower ho0 (below_size (zb HB.out))); have n1_ := Aside0.mk (blk_below (zh BK170.out) hb); have n2_ := Aside0.mk (below_step (zb HB.out) hb); clear BK170; clear HB; have HO175 := n0_; have BK170 := n1_; have HB := n2_; clear n0_ n1_ n2_; (try clear hb); (try clear hb2); (try clear hk); (try clear hi); (try clear ho0); obtain ⟨Ao17, co17, eo17⟩ := Kd.R_slice HO175.out; subst eo17; have p176 : 0 ≤ (a1 : Int) := of_decide_eq_true (by first | (with_reducible assumption) | assumption); have q176 : a1 < (t173.length : Int) := of_decide_eq_true (by first | (with_reducible assumption) | assumption); obtain ⟨ad176, e176, hx176_0⟩ := Kd.at_int (Kd.R_reads' HO175.out).2.2 a1 p176 q176; cases e176; replace p176 := eq_true p176; replace q176 := eq_true q176))
     go_ret
     exact ⟨ze, zb HB.out⟩
    ·rw [if_neg c9] at H
     exact absurd H (by simp)
   ·rw [if_neg c8] at H
    exact absurd H (by simp)
  ·replace c6 := Bool.eq_false_iff.mpr c6
   subst c6
   have H1 : (some 0) = some r := by rw [if_neg (show ¬ (false = true) by decide)] at H; exact H
   clear H
   have H := H1
   clear H1
   obtain rfl := Option.some.inj H
   go_enter Tryd.func16, Tryd.ntmps16
   go_wp2_with (first | ((with_reducible refine gate_dst (N := 2) rfl ?_); refine box_event ?hg (N := 2) ?hd (cs := #[.slice A0_0 l0_0.length c0_0]) (t := 29) ?hr ?_; (case hd => rfl); (case hg => rfl); (case hr => first | (go_simp; done) | (go_simp; rfl)); intro gb170 hg w18 hbox hb; have n0_ := Aside0.mk (below_step (zb HB.out) hb); have n1_ := Aside0.mk (hbox); have n2_ := Aside0.mk ((by rw [hg]; exact (below_size (zb HB.out)) : w.heap.size ≤ gb170)); have n3_ := Aside0.mk ((by rw [hg]; exact (below_size (zb HB.out)) : w.heap.size ≤ gb170)); clear HB; have HB := n0_; have BK170 := n1_; have GW170 := n2_; have GE170 := n3_; clear n0_ n1_ n2_ n3_; clear hb hbox hg; have hcz19_0 : w18.cell? ⟨gb170, 0, none⟩ = some (.slice A0_0 l0_0.length c0_0) := (blk_cell BK170.out 0).trans rfl; have hfz19_0 := blk_frozen BK170.out 0) | ((with_reducible refine gate_callee (f := 26) rfl ?_); refine goesL_ (some 6) rfl rfl Tryd.func26 (by kernel_rfl) rfl #[.agg #[.slice A0_0 l0_0.length c0_0]] rfl zl ?_; (with_reducible refine (spec_PoolOk.calls k _ _ l0_0 true _ ?side1 ?side2 A3.out).mono ?_); (case side1 => exact zc (Kd.C_below HR0_0.out HB.out)); (case side2 => exact HC0_0.out); rintro e w20 ⟨rfl, hb⟩; refine ⟨_, rfl, ?_⟩; have n0_ := Aside0.mk (blk_below (zh BK170.out) hb); have n1_ := Aside0.mk (below_step (zb HB.out) hb); clear BK170; clear HB; have BK170 := n0_; have HB := n1_; clear n0_ n1_; (try clear hb); (try clear hb2); (try clear hk); (try clear hi); have hcz21_0 : w20.cell? ⟨gb170, 0, none⟩ = some (.slice A0_0 l0_0.length c0_0) := (blk_cell BK170.out 0).trans rfl; have hfz21_0 := blk_frozen BK170.out 0) | (go_at_call 27; (with_reducible refine (spec_l1Has.calls _ _ l0_0 a1 false _ ?side1 ?side2 A5.out).mono ?_); (case side1 => exact zc (Kd.C_below HR0_0.out HB.out)); (case side2 => exact HC0_0.out); rintro e w22 ⟨rfl, hb⟩; have n0_ := Aside0.mk (blk_below (zh BK170.out) hb); have n1_ := Aside0.mk (below_step (zb HB.out) hb); clear BK170; clear HB; have BK170 := n0_; have HB := n1_; clear n0_ n1_; (try clear hb); (try clear hb2); (try clear hk); (try clear hi)))
   go_ret
   exact ⟨ze, zb HB.out⟩
 ·replace c4 := Bool.eq_false_iff.mpr c4
  subst c4
  have H1 : (some 0) = some r := by rw [if_neg (show ¬ (false = true) by decide)] at H; exact H
  clear H
  have H := H1
  clear H1
  obtain rfl := Option.some.inj H
  go_enter Tryd.func16, Tryd.ntmps16
  go_wp2_with (first | ((with_reducible refine gate_dst (N := 2) rfl ?_); refine box_event ?hg (N := 2) ?hd (cs := #[.slice A0_0 l0_0.length c0_0]) (t := 29) ?hr ?_; (case hd => rfl); (case hg => rfl); (case hr => first | (go_simp; done) | (go_simp; rfl)); intro gb170 hg w23 hbox hb; have n0_ := Aside0.mk (below_step (zb HB.out) hb); have n1_ := Aside0.mk (hbox); have n2_ := Aside0.mk ((by rw [hg]; exact (below_size (zb HB.out)) : w.heap.size ≤ gb170)); have n3_ := Aside0.mk ((by rw [hg]; exact (below_size (zb HB.out)) : w.heap.size ≤ gb170)); clear HB; have HB := n0_; have BK170 := n1_; have GW170 := n2_; have GE170 := n3_; clear n0_ n1_ n2_ n3_; clear hb hbox hg; have hcz24_0 : w23.cell? ⟨gb170, 0, none⟩ = some (.slice A0_0 l0_0.length c0_0) := (blk_cell BK170.out 0).trans rfl; have hfz24_0 := blk_frozen BK170.out 0) | ((with_reducible refine gate_callee (f := 26) rfl ?_); refine goesL_ (some 6) rfl rfl Tryd.func26 (by kernel_rfl) rfl #[.agg #[.slice A0_0 l0_0.length c0_0]] rfl zl ?_; (with_reducible refine (spec_PoolOk.calls k _ _ l0_0 false _ ?side1 ?side2 A3.out).mono ?_); (case side1 => exact zc (Kd.C_below HR0_0.out HB.out)); (case side2 => exact HC0_0.out); rintro e w25 ⟨rfl, hb⟩; refine ⟨_, rfl, ?_⟩; have n0_ := Aside0.mk (blk_below (zh BK170.out) hb); have n1_ := Aside0.mk (below_step (zb HB.out) hb); clear BK170; clear HB; have BK170 := n0_; have HB := n1_; clear n0_ n1_; (try clear hb); (try clear hb2); (try clear hk); (try clear hi)))
  go_ret
  exact ⟨ze, zb HB.out⟩

/-! ### spec_l4Num: function 29 -/
def spec_l4Num.l0 : Nat → Int → ByteArray → Option (ByteArray)
 | 0, _, _ => none
 | k + 1, x0, x3 => if x0 > 0 then ((some (([(wrap64 (48 + (Int.tmod x0 10))) % 256] : List Int) : List Int)).bind fun y177 => (if (strOfNums y177).size + x3.size ≤ 9223372036854775807 then (spec_l4Num.l0 k (wrap64 (Int.tdiv x0 10)) ((strOfNums y177) ++ x3)) else (none))) else (some x3)
def spec_l4Num.f (k : Nat) (a0 : Int) : Option (ByteArray) := if a0 ≤ 0 then (some (⟨#[48]⟩ : ByteArray)) else (spec_l4Num.l0 k a0 (⟨#[]⟩ : ByteArray))
theorem spec_l4Num.mono_l : ∀ k, (∀ y0 y1, LeO (spec_l4Num.l0 k y0 y1) (spec_l4Num.l0 (k + 1) y0 y1))
 | 0 => fun _ _ r h => by simp [spec_l4Num.l0] at h
 | k + 1 => by
  have ih0 := spec_l4Num.mono_l k
  ·intro y0 y1
   unfold spec_l4Num.l0
   repeat' first
   | (with_reducible exact ih0 _ _)
   | (with_reducible exact LeO.refl _)
   | (with_reducible exact LeO.none _)
   | (with_reducible refine LeO.ite ?_ ?_)
   | (with_reducible refine LeO.bind ?_ (fun _ => ?_))
   | exact ih0 _ _
   | exact LeO.none _
   | refine LeO.ite ?_ ?_
   | refine LeO.bind ?_ (fun _ => ?_)
theorem spec_l4Num.mono : ∀ a0 k, LeO (spec_l4Num.f k a0) (spec_l4Num.f (k + 1) a0) := by
 intro a0 k
 have ih0 := spec_l4Num.mono_l k
 unfold spec_l4Num.f
 repeat' first
   | (with_reducible exact ih0 _ _)
   | (with_reducible exact LeO.refl _)
   | (with_reducible exact LeO.none _)
   | (with_reducible refine LeO.ite ?_ ?_)
   | (with_reducible refine LeO.bind ?_ (fun _ => ?_))
   | exact ih0 _ _
   | exact LeO.none _
   | refine LeO.ite ?_ ?_
   | refine LeO.bind ?_ (fun _ => ?_)
set_option maxHeartbeats 8000000 in
set_option maxRecDepth 100000 in
theorem spec_l4Num.calls (k : Nat) (a0 : Int) (r : ByteArray) (w : World) (h : spec_l4Num.f k a0 = some r) :
  Calls Tryd.prog 29 #[.int .i64 a0] w fun e w' => e = .returned (.string r) ∧ Below w.heap.size w w' := by
 have HB := Aside0.mk (Below.refl w.heap.size w)
 have H : (if a0 ≤ 0 then (some (⟨#[48]⟩ : ByteArray)) else (spec_l4Num.l0 k a0 (⟨#[]⟩ : ByteArray))) = some r := h
 clear h
 by_cases c2 : a0 ≤ 0
 ·rw [if_pos c2] at H
  have c2b0 : decide (a0 ≤ 0) = true := decide_eq_true c2
  clear c2
  obtain rfl := Option.some.inj H
  go_enter Tryd.func29, Tryd.ntmps29
  go_wp2
  go_ret
  exact ⟨ze, zb HB.out⟩
 ·rw [if_neg c2] at H
  have c2b0 : decide (a0 ≤ 0) = false := decide_eq_false c2
  clear c2
  have H' := Aside0.mk H
  clear H
  go_enter Tryd.func29, Tryd.ntmps29
  go_wp2
  go_loopg [0, 3] k (fun kq v0 v3 w' => ∃ (x0_1 : Int) (x3_1 : ByteArray), v0 = .int .i64 x0_1 ∧ v3 = .string x3_1 ∧ Aside0 (spec_l4Num.l0 kq x0_1 x3_1 = some r) ∧ Aside0 (kq ≤ k) ∧ Aside0 (Below w.heap.size w w'))
  case atStart => exact ⟨(a0), ((⟨#[]⟩ : ByteArray)), (by first | rfl | (simp; done) | (simp [*]; done)), (by first | rfl | (simp; done) | (simp [*]; done)), H', ⟨Nat.le_refl _⟩, ⟨zb HB.out⟩⟩
  case round =>
   clear H'
   try clear c2
   try clear c2b0
   try clear p2
   obtain ⟨x0_1, x3_1, rfl, rfl, HA, HK1, HB⟩ := hrel
   cases gk with
   | zero => exact absurd HA.out (by simp [spec_l4Num.l0])
   | succ k1 =>
    have H := HA.out
    clear HA
    simp only [spec_l4Num.l0] at H
    by_cases c3 : x0_1 > 0
    ·rw [if_pos c3] at H
     have c3b0 : decide (0 < x0_1) = true := decide_eq_true c3
     clear c3
     obtain ⟨y177, hy177⟩ : ∃ y_ : List Int, y_ = (([(wrap64 (48 + (Int.tmod x0_1 10))) % 256] : List Int)) := ⟨_, rfl⟩
     replace H : (if (strOfNums y177).size + x3_1.size ≤ 9223372036854775807 then (spec_l4Num.l0 k1 (wrap64 (Int.tdiv x0_1 10)) ((strOfNums y177) ++ x3_1)) else (none)) = some r := by first | (rw [hy177]; with_reducible exact H) | (have H2_ := (Option.bind_some _ _).symm.trans H; rw [hy177]; with_reducible exact H2_) | (have H2_ := (Option.bind_some _ _).symm.trans H; with_reducible exact H2_) | with_reducible exact H | (rw [hy177]; exact H) | exact H
     have Ny177 := Aside0.mk hy177
     clear hy177
     by_cases c4 : (strOfNums y177).size + x3_1.size ≤ 9223372036854775807
     ·rw [if_pos c4] at H
      have c4b0 := eq_true c4
      have c4b1 : decide ((strOfNums y177).size + x3_1.size ≤ 9223372036854775807) = true := decide_eq_true c4
      try have c4b2 : (9223372036854775807 < (strOfNums y177).size + x3_1.size) = False := eq_false (Nat.not_lt.2 c4)
      have H' := Aside0.mk H
      clear H
      go_wp2_with (first | ((with_reducible refine gate_dst (N := 12) rfl ?_); refine Kd.R_lit (Kd.int .u8) _ 5 ?hg (N := 12) ?hd (xs := ([(wrap64 (48 + (Int.tmod x0_1 10))) % 256] : List Int)) (inner := [.int .u8 ((wrap64 (48 + (Int.tmod x0_1 10))) % 256)]) (ok := fun _ => True) (okp := fun _ => True) ?hr ?hp (fun _ hk => hk) trivial (Below.refl _ _) (Nat.le_refl _) (by simp) ?_; (case hd => rfl); (case hg => rfl); (case hr => first | (go_simp; done) | (go_simp; rfl)); (case hp => exact (Reps.one (show Kd.M (Kd.int .u8) _ _ _ ((wrap64 (48 + (Int.tmod x0_1 10))) % 256) [.int .u8 ((wrap64 (48 + (Int.tmod x0_1 10))) % 256)] from rfl) (Reps.none _ _))); intro v178 w5 ho6 hb hg_ hnew_; clear hg_ hnew_; (first | rw [← Ny177.out] at ho6 | (simp only [Int.reduceToNat] at ho6; rw [← Ny177.out] at ho6)); have n0_ := Aside0.mk (Kd.R_lower ho6 (below_size (zb HB.out))); have n1_ := Aside0.mk (below_step (zb HB.out) hb); clear HB; have HO179 := n0_; have HB := n1_; clear n0_ n1_; clear hb ho6; have hcv7 := own_string (P := Tryd.prog) Tryd.underlying61 Tryd.underlying5 Tryd.underlying9 (Kd.own_of_R HO179.out)))
      go_roundg k1
      case measure => have := HK1.out; omega
      case rel => exact ⟨(wrap64 (Int.tdiv x0_1 10)), ((strOfNums y177) ++ x3_1), (by first | rfl | (simp; done) | (simp [*]; done)), (by first | rfl | (simp; done) | (simp [*]; done)), H', ⟨by have := HK1.out; omega⟩, ⟨zb HB.out⟩⟩
     ·rw [if_neg c4] at H
      exact absurd H (by simp)
    ·rw [if_neg c3] at H
     have c3b0 : decide (0 < x0_1) = false := decide_eq_false c3
     clear c3
     obtain rfl := Option.some.inj H
     go_wp2
     go_ret
     exact ⟨ze, zb HB.out⟩

end Go.Proofs.YtjcemohmlpgfnaaDoor.K
end

section
namespace Go.Proofs.YtjcemohmlpgfnaaDoor.K
open Go.RowKit Go.Proofs.YtjcemohmlpgfnaaDoorW.PrintWords Go.Proofs.YtjcemohmlpgfnaaDoorW.PrintLast Go.Proofs.YtjcemohmlpgfnaaDoorW.PrintMore
attribute [local go_sem] max2_int min2_int max_two min_two max_three min_three max_four min_four   -- for this text's walks alone
set_option linter.unusedVariables false
set_option linter.unusedSimpArgs false
set_option maxRecDepth 100000

/-! ### spec_l4Print: function 17 -/
def spec_l4Print.f : Nat → List (S51) → Int → Option (ByteArray)
 | 0, _, _ => none
 | k + 1, l0_0, a1 => if 0 ≤ a1 then (if a1 < (l0_0.length : Int) then (if ((rd_T51 l0_0 a1).f0) = 1 then ((spec_l4Num.f k ((rd_T51 l0_0 a1).f1)).bind fun t183 => (if 1 + t183.size ≤ 9223372036854775807 then (some ((⟨#[110]⟩ : ByteArray) ++ t183)) else (none))) else (if ((rd_T51 l0_0 a1).f0) = 5 then ((spec_l4Print.f k l0_0 ((rd_T51 l0_0 a1).f1)).bind fun t184 => (if 1 + t184.size ≤ 9223372036854775807 then (some ((⟨#[35]⟩ : ByteArray) ++ t184)) else (none))) else (if ((rd_T51 l0_0 a1).f0) = 7 then ((spec_l4Print.f k l0_0 ((rd_T51 l0_0 a1).f1)).bind fun t185 => (if 1 + t185.size ≤ 9223372036854775807 then (some ((⟨#[94]⟩ : ByteArray) ++ t185)) else (none))) else ((spec_l4Print.f k l0_0 ((rd_T51 l0_0 a1).f1)).bind fun t186 => (if t186.size + 1 ≤ 9223372036854775807 then ((spec_l4Print.f k l0_0 ((rd_T51 l0_0 a1).f2)).bind fun t187 => (if (t186 ++ (⟨#[44]⟩ : ByteArray)).size + t187.size ≤ 9223372036854775807 then (if ((rd_T51 l0_0 a1).f0) = 2 then (if 1 + ((t186 ++ (⟨#[44]⟩ : ByteArray)) ++ t187).size ≤ 9223372036854775807 then (if ((⟨#[40]⟩ : ByteArray) ++ ((t186 ++ (⟨#[44]⟩ : ByteArray)) ++ t187)).size + 1 ≤ 9223372036854775807 then (some (((⟨#[40]⟩ : ByteArray) ++ ((t186 ++ (⟨#[44]⟩ : ByteArray)) ++ t187)) ++ (⟨#[41]⟩ : ByteArray))) else (none)) else (none)) else (if ((rd_T51 l0_0 a1).f0) = 3 then (if 1 + ((t186 ++ (⟨#[44]⟩ : ByteArray)) ++ t187).size ≤ 9223372036854775807 then (if ((⟨#[123]⟩ : ByteArray) ++ ((t186 ++ (⟨#[44]⟩ : ByteArray)) ++ t187)).size + 1 ≤ 9223372036854775807 then (some (((⟨#[123]⟩ : ByteArray) ++ ((t186 ++ (⟨#[44]⟩ : ByteArray)) ++ t187)) ++ (⟨#[125]⟩ : ByteArray))) else (none)) else (none)) else (if ((rd_T51 l0_0 a1).f0) = 4 then (if 1 + ((t186 ++ (⟨#[44]⟩ : ByteArray)) ++ t187).size ≤ 9223372036854775807 then (if ((⟨#[91]⟩ : ByteArray) ++ ((t186 ++ (⟨#[44]⟩ : ByteArray)) ++ t187)).size + 1 ≤ 9223372036854775807 then (some (((⟨#[91]⟩ : ByteArray) ++ ((t186 ++ (⟨#[44]⟩ : ByteArray)) ++ t187)) ++ (⟨#[93]⟩ : ByteArray))) else (none)) else (none)) else (if ((rd_T51 l0_0 a1).f0) = 6 then (if 2 + ((t186 ++ (⟨#[44]⟩ : ByteArray)) ++ t187).size ≤ 9223372036854775807 then (if ((⟨#[107, 40]⟩ : ByteArray) ++ ((t186 ++ (⟨#[44]⟩ : ByteArray)) ++ t187)).size + 1 ≤ 9223372036854775807 then (some (((⟨#[107, 40]⟩ : ByteArray) ++ ((t186 ++ (⟨#[44]⟩ : ByteArray)) ++ t187)) ++ (⟨#[41]⟩ : ByteArray))) else (none)) else (none)) else (if 2 + ((t186 ++ (⟨#[44]⟩ : ByteArray)) ++ t187).size ≤ 9223372036854775807 then (if ((⟨#[42, 40]⟩ : ByteArray) ++ ((t186 ++ (⟨#[44]⟩ : ByteArray)) ++ t187)).size + 1 ≤ 9223372036854775807 then (some (((⟨#[42, 40]⟩ : ByteArray) ++ ((t186 ++ (⟨#[44]⟩ : ByteArray)) ++ t187)) ++ (⟨#[41]⟩ : ByteArray))) else (none)) else (none)))))) else (none))) else (none)))))) else (none)) else (none)
def spec_l4Print.T9 : Bool × List (List Nat × List Nat) := (true, [([], []), ([], []), ([1], [1]), ([0, 2], [0, 2]), ([3], [3]), ([], []), ([], []), ([6], [6]), ([5, 7, 3], [5, 7]), ([4, 8], [4, 8]), ([9, 8, 0, 1, 2, 3, 4, 5, 6, 7, 8, 9], [9])])
def spec_l4Print.B9 : List Nat := [0, 0, 2, 7, 15, 0, 0, 64, 239, 511, 1023]
theorem spec_l4Print.tab9 : rtab .any (opsOf Tryd.f17 9) = spec_l4Print.T9 := by kernel_rfl
theorem spec_l4Print.bits9 : waitsOk spec_l4Print.T9.2 spec_l4Print.B9 = true := by kernel_rfl
set_option maxHeartbeats 8000000 in
set_option maxRecDepth 100000 in
theorem spec_l4Print.calls (k : Nat) : ∀ (A0_0 : Option Addr) (c0_0 : Nat) (l0_0 : List (S51)) (a1 : Int) (r : ByteArray) (w : World) (hr0_0 : Kd.C k51 w A0_0 l0_0.length l0_0) (hc0_0 : l0_0.length ≤ c0_0) (h : spec_l4Print.f k l0_0 a1 = some r),
  Calls Tryd.prog 17 #[.agg #[.slice A0_0 l0_0.length c0_0], .int .i64 a1] w fun e w' => e = .returned (.string r) ∧ Below w.heap.size w w' := by
 induction k using Nat.strongRecOn with
 | _ k ih =>
 intro A0_0 c0_0 l0_0 a1 r w hr0_0 hc0_0 h
 cases k with
 | zero => exact absurd h (by simp [spec_l4Print.f])
 | succ k =>
 simp only [spec_l4Print.f] at h
 have hu29 := Tryd.underlying29
 have hu51 := Tryd.underlying51
 have HR0_0 := Aside0.mk hr0_0
 have HC0_0 := Aside0.mk hc0_0
 clear hr0_0 hc0_0
 have HB := Aside0.mk (Below.refl w.heap.size w)
 have H : (if 0 ≤ a1 then (if a1 < (l0_0.length : Int) then (if ((rd_T51 l0_0 a1).f0) = 1 then ((spec_l4Num.f k ((rd_T51 l0_0 a1).f1)).bind fun t183 => (if 1 + t183.size ≤ 9223372036854775807 then (some ((⟨#[110]⟩ : ByteArray) ++ t183)) else (none))) else (if ((rd_T51 l0_0 a1).f0) = 5 then ((spec_l4Print.f k l0_0 ((rd_T51 l0_0 a1).f1)).bind fun t184 => (if 1 + t184.size ≤ 9223372036854775807 then (some ((⟨#[35]⟩ : ByteArray) ++ t184)) else (none))) else (if ((rd_T51 l0_0 a1).f0) = 7 then ((spec_l4Print.f k l0_0 ((rd_T51 l0_0 a1).f1)).bind fun t185 => (if 1 + t185.size ≤ 9223372036854775807 then (some ((⟨#[94]⟩ : ByteArray) ++ t185)) else (none))) else ((spec_l4Print.f k l0_0 ((rd_T51 l0_0 a1).f1)).bind fun t186 => (if t186.size + 1 ≤ 9223372036854775807 then ((spec_l4Print.f k l0_0 ((rd_T51 l0_0 a1).f2)).bind fun t187 => (if (t186 ++ (⟨#[44]⟩ : ByteArray)).size + t187.size ≤ 9223372036854775807 then (if ((rd_T51 l0_0 a1).f0) = 2 then (if 1 + ((t186 ++ (⟨#[44]⟩ : ByteArray)) ++ t187).size ≤ 9223372036854775807 then (if ((⟨#[40]⟩ : ByteArray) ++ ((t186 ++ (⟨#[44]⟩ : ByteArray)) ++ t187)).size + 1 ≤ 9223372036854775807 then (some (((⟨#[40]⟩ : ByteArray) ++ ((t186 ++ (⟨#[44]⟩ : ByteArray)) ++ t187)) ++ (⟨#[41]⟩ : ByteArray))) else (none)) else (none)) else (if ((rd_T51 l0_0 a1).f0) = 3 then (if 1 + ((t186 ++ (⟨#[44]⟩ : ByteArray)) ++ t187).size ≤ 9223372036854775807 then (if ((⟨#[123]⟩ : ByteArray) ++ ((t186 ++ (⟨#[44]⟩ : ByteArray)) ++ t187)).size + 1 ≤ 9223372036854775807 then (some (((⟨#[123]⟩ : ByteArray) ++ ((t186 ++ (⟨#[44]⟩ : ByteArray)) ++ t187)) ++ (⟨#[125]⟩ : ByteArray))) else (none)) else (none)) else (if ((rd_T51 l0_0 a1).f0) = 4 then (if 1 + ((t186 ++ (⟨#[44]⟩ : ByteArray)) ++ t187).size ≤ 9223372036854775807 then (if ((⟨#[91]⟩ : ByteArray) ++ ((t186 ++ (⟨#[44]⟩ : ByteArray)) ++ t187)).size + 1 ≤ 9223372036854775807 then (some (((⟨#[91]⟩ : ByteArray) ++ ((t186 ++ (⟨#[44]⟩ : ByteArray)) ++ t187)) ++ (⟨#[93]⟩ : ByteArray))) else (none)) else (none)) else (if ((rd_T51 l0_0 a1).f0) = 6 then (if 2 + ((t186 ++ (⟨#[44]⟩ : ByteArray)) ++ t187).size ≤ 9223372036854775807 then (if ((⟨#[107, 40]⟩ : ByteArray) ++ ((t186 ++ (⟨#[44]⟩ : ByteArray)) ++ t187)).size + 1 ≤ 9223372036854775807 then (some (((⟨#[107, 40]⟩ : ByteArray) ++ ((t186 ++ (⟨#[44]⟩ : ByteArray)) ++ t187)) ++ (⟨#[41]⟩ : ByteArray))) else (none)) else (none)) else (if 2 + ((t186 ++ (⟨#[44]⟩ : ByteArray)) ++ t187).size ≤ 9223372036854775807 then (if ((⟨#[42, 40]⟩ : ByteArray) ++ ((t186 ++ (⟨#[44]⟩ : ByteArray)) ++ t187)).size + 1 ≤ 9223372036854775807 then (some (((⟨#[42, 40]⟩ : ByteArray) ++ ((t186 ++ (⟨#[44]⟩ : ByteArray)) ++ t187)) ++ (⟨#[41]⟩ : ByteArray))) else (none)) else (none)))))) else (none))) else (none)))))) else (none)) else (none)) = some r := h
 clear h
 by_cases c3 : 0 ≤ a1
 ·rw [if_pos c3] at H
  have c3b0 : decide (0 ≤ a1) = true := decide_eq_true c3
  clear c3
  by_cases c4 : a1 < (l0_0.length : Int)
  ·rw [if_pos c4] at H
   have c4b0 : decide (a1 < (l0_0.length : Int)) = true := decide_eq_true c4
   clear c4
   by_cases c5 : ((rd_T51 l0_0 a1).f0) = 1
   ·rw [if_pos c5] at H
    have c5b0 : (((rd_T51 l0_0 a1).f0) == 1) = true := beq_iff_eq.mpr c5
    have c5b1 : (((rd_T51 l0_0 a1).f0) != 1) = false := bne_eq_false_iff_eq.mpr c5
    clear c5
    replace H := Option.bind_eq_some_iff.mp H
    obtain ⟨t183, A60, H⟩ := H
    replace H : (if 1 + t183.size ≤ 9223372036854775807 then (some ((⟨#[110]⟩ : ByteArray) ++ t183)) else (none)) = some r := H
    have A6 := Aside0.mk A60
    clear A60
    by_cases c7 : 1 + t183.size ≤ 9223372036854775807
    ·rw [if_pos c7] at H
     have c7b0 := eq_true c7
     have c7b1 : decide (1 + t183.size ≤ 9223372036854775807) = true := decide_eq_true c7
     try have c7b2 : (9223372036854775807 < 1 + t183.size) = False := eq_false (Nat.not_lt.2 c7)
     obtain rfl := Option.some.inj H
     go_enter Tryd.func17, Tryd.ntmps17
     go_wp2_with (first | ((with_reducible refine gate_dst (N := 2) rfl ?_); refine box_event ?hg (N := 2) ?hd (cs := #[.slice A0_0 l0_0.length c0_0]) (t := 29) ?hr ?_; (case hd => rfl); (case hg => rfl); (case hr => first | (go_simp; done) | (go_simp; rfl)); intro gb180 hg w8 hbox hb; have n0_ := Aside0.mk (below_step (zb HB.out) hb); have n1_ := Aside0.mk (hbox); have n2_ := Aside0.mk ((by rw [hg]; exact (below_size (zb HB.out)) : w.heap.size ≤ gb180)); have n3_ := Aside0.mk ((by rw [hg]; exact (below_size (zb HB.out)) : w.heap.size ≤ gb180)); clear HB; have HB := n0_; have BK180 := n1_; have GW180 := n2_; have GE180 := n3_; clear n0_ n1_ n2_ n3_; clear hb hbox hg; have hcz9_0 : w8.cell? ⟨gb180, 0, none⟩ = some (.slice A0_0 l0_0.length c0_0) := (blk_cell BK180.out 0).trans rfl; have hfz9_0 := blk_frozen BK180.out 0; have p181 : 0 ≤ (a1 : Int) := of_decide_eq_true (by first | (with_reducible assumption) | assumption); have q181 : a1 < (l0_0.length : Int) := of_decide_eq_true (by first | (with_reducible assumption) | assumption); obtain ⟨ad181, e181, hx181_0, hx181_1, hx181_2⟩ := at_T51 HR0_0.out a1 p181 q181; cases e181; replace hx181_0 := (HB.out.cell (World.block_lt_of_cell? w _ hx181_0)).trans hx181_0; replace hx181_1 := (HB.out.cell (World.block_lt_of_cell? w _ hx181_1)).trans hx181_1; replace hx181_2 := (HB.out.cell (World.block_lt_of_cell? w _ hx181_2)).trans hx181_2; replace p181 := eq_true p181; replace q181 := eq_true q181) | ((with_reducible refine gate_dst (N := 5) rfl ?_); refine box_event ?hg (N := 5) ?hd (cs := #[.int .i64 0, .int .i64 0, .int .i64 0]) (t := 51) ?hr ?_; (case hd => rfl); (case hg => rfl); (case hr => first | (go_simp; done) | (go_simp; rfl)); intro gb182 hg w10 hbox hb; have n0_ := Aside0.mk (blk_below (zh BK180.out) hb); have n1_ := Aside0.mk (below_step (zb HB.out) hb); have n2_ := Aside0.mk (hbox); have n3_ := Aside0.mk ((by rw [hg]; exact (below_size (zb HB.out)) : w.heap.size ≤ gb182)); have n4_ := Aside0.mk ((by rw [hg]; exact (below_size (zb HB.out)) : w.heap.size ≤ gb182)); have n5_ := Aside0.mk ((by rw [hg]; exact Nat.ne_of_lt (blk_lt (zh BK180.out)) : gb180 ≠ gb182)); have n6_ := Aside0.mk ((by rw [hg]; exact Nat.ne_of_gt (blk_lt (zh BK180.out)) : gb182 ≠ gb180)); clear BK180; clear HB; have BK180 := n0_; have HB := n1_; have BK182 := n2_; have GW182 := n3_; have GE182 := n4_; have NB180_182 := n5_; have NB182_180 := n6_; clear n0_ n1_ n2_ n3_ n4_ n5_ n6_; clear hb hbox hg; have hnb11 := NB182_180.out; have hnc11 := NB180_182.out; have hcz12_0 : w10.cell? ⟨gb182, 0, none⟩ = some (.int .i64 0) := (blk_cell BK182.out 0).trans rfl; have hcz12_1 : w10.cell? ⟨gb182, 1, none⟩ = some (.int .i64 0) := (blk_cell BK182.out 1).trans rfl; have hcz12_2 : w10.cell? ⟨gb182, 2, none⟩ = some (.int .i64 0) := (blk_cell BK182.out 2).trans rfl; have hfz12_0 := blk_frozen BK182.out 0; have hfz12_1 := blk_frozen BK182.out 1; have hfz12_2 := blk_frozen BK182.out 2) | ((with_reducible refine gate_callee (f := 29) rfl ?_); refine goesL_ (some 18) rfl rfl Tryd.func29 (by kernel_rfl) rfl #[.int .i64 ((rd_T51 l0_0 a1).f1)] rfl zl ?_; (with_reducible refine (spec_l4Num.calls k ((rd_T51 l0_0 a1).f1) t183 _ A6.out).mono ?_); rintro e w13 ⟨rfl, hb⟩; refine ⟨_, rfl, ?_⟩; have n0_ := Aside0.mk (blk_below (g := gb180) (o := .cells #[.slice (some ad181) l0_0.length c0_0] 29 (0, 0)) (zf BK180.out) hb); have n1_ := Aside0.mk (blk_below (g := gb182) (o := .cells #[.int .i64 ((rd_T51 l0_0 a1).f0), .int .i64 ((rd_T51 l0_0 a1).f1), .int .i64 ((rd_T51 l0_0 a1).f2)] 51 (0, 0)) (by (with_reducible repeat (first | refine blk_drewN ?_ _ | refine blk_drew ?_ | refine blk_alloc ?_ _)); refine blk_put (cs := #[.int .i64 ((rd_T51 l0_0 a1).f0), .int .i64 ((rd_T51 l0_0 a1).f1), .int .i64 0]) ?_ 2 _ rfl; (with_reducible repeat (first | refine blk_drewN ?_ _ | refine blk_drew ?_ | refine blk_alloc ?_ _)); refine blk_put (cs := #[.int .i64 ((rd_T51 l0_0 a1).f0), .int .i64 0, .int .i64 0]) ?_ 1 _ rfl; (with_reducible repeat (first | refine blk_drewN ?_ _ | refine blk_drew ?_ | refine blk_alloc ?_ _)); refine blk_put (cs := #[.int .i64 0, .int .i64 0, .int .i64 0]) ?_ 0 _ rfl; (with_reducible repeat (first | refine blk_drewN ?_ _ | refine blk_drew ?_ | refine blk_alloc ?_ _)); exact BK182.out) hb); have n2_ := Aside0.mk (below_step (zb HB.out) hb); clear BK180; clear BK182; clear HB; have BK180 := n0_; have BK182 := n1_; have HB := n2_; clear n0_ n1_ n2_; (try clear hb); (try clear hb2); (try clear hk); (try clear hi)))
     go_ret
     exact ⟨ze, zb HB.out⟩
    ·rw [if_neg c7] at H
     exact absurd H (by simp)
   ·rw [if_neg c5] at H
    have c5b0 : (((rd_T51 l0_0 a1).f0) == 1) = false := beq_eq_false_iff_ne.mpr c5
    have c5b1 : (((rd_T51 l0_0 a1).f0) != 1) = true := bne_iff_ne.mpr c5
    by_cases c14 : ((rd_T51 l0_0 a1).f0) = 5
    ·rw [if_pos c14] at H
     have c14b0 : (((rd_T51 l0_0 a1).f0) == 5) = true := beq_iff_eq.mpr c14
     have c14b1 : (((rd_T51 l0_0 a1).f0) != 5) = false := bne_eq_false_iff_eq.mpr c14
     clear c14
     replace H := Option.bind_eq_some_iff.mp H
     obtain ⟨t184, A150, H⟩ := H
     replace H : (if 1 + t184.size ≤ 9223372036854775807 then (some ((⟨#[35]⟩ : ByteArray) ++ t184)) else (none)) = some r := H
     have A15 := Aside0.mk A150
     clear A150
     by_cases c16 : 1 + t184.size ≤ 9223372036854775807
     ·rw [if_pos c16] at H
      have c16b0 := eq_true c16
      have c16b1 : decide (1 + t184.size ≤ 9223372036854775807) = true := decide_eq_true c16
      try have c16b2 : (9223372036854775807 < 1 + t184.size) = False := eq_false (Nat.not_lt.2 c16)
      obtain rfl := Option.some.inj H
      go_enter Tryd.func17, Tryd.ntmps17
      go_wp2_with (first | ((with_reducible refine gate_dst (N := 2) rfl ?_); refine box_event ?hg (N := 2) ?hd (cs := #[.slice A0_0 l0_0.length c0_0]) (t := 29) ?hr ?_; (case hd => rfl); (case hg => rfl); (case hr => first | (go_simp; done) | (go_simp; rfl)); intro gb180 hg w17 hbox hb; have n0_ := Aside0.mk (below_step (zb HB.out) hb); have n1_ := Aside0.mk (hbox); have n2_ := Aside0.mk ((by rw [hg]; exact (below_size (zb HB.out)) : w.heap.size ≤ gb180)); have n3_ := Aside0.mk ((by rw [hg]; exact (below_size (zb HB.out)) : w.heap.size ≤ gb180)); clear HB; have HB := n0_; have BK180 := n1_; have GW180 := n2_; have GE180 := n3_; clear n0_ n1_ n2_ n3_; clear hb hbox hg; have hcz18_0 : w17.cell? ⟨gb180, 0, none⟩ = some (.slice A0_0 l0_0.length c0_0) := (blk_cell BK180.out 0).trans rfl; have hfz18_0 := blk_frozen BK180.out 0; have p181 : 0 ≤ (a1 : Int) := of_decide_eq_true (by first | (with_reducible assumption) | assumption); have q181 : a1 < (l0_0.length : Int) := of_decide_eq_true (by first | (with_reducible assumption) | assumption); obtain ⟨ad181, e181, hx181_0, hx181_1, hx181_2⟩ := at_T51 HR0_0.out a1 p181 q181; cases e181; replace hx181_0 := (HB.out.cell (World.block_lt_of_cell? w _ hx181_0)).trans hx181_0; replace hx181_1 := (HB.out.cell (World.block_lt_of_cell? w _ hx181_1)).trans hx181_1; replace hx181_2 := (HB.out.cell (World.block_lt_of_cell? w _ hx181_2)).trans hx181_2; replace p181 := eq_true p181; replace q181 := eq_true q181) | ((with_reducible refine gate_dst (N := 5) rfl ?_); refine box_event ?hg (N := 5) ?hd (cs := #[.int .i64 0, .int .i64 0, .int .i64 0]) (t := 51) ?hr ?_; (case hd => rfl); (case hg => rfl); (case hr => first | (go_simp; done) | (go_simp; rfl)); intro gb182 hg w19 hbox hb; have n0_ := Aside0.mk (blk_below (zh BK180.out) hb); have n1_ := Aside0.mk (below_step (zb HB.out) hb); have n2_ := Aside0.mk (hbox); have n3_ := Aside0.mk ((by rw [hg]; exact (below_size (zb HB.out)) : w.heap.size ≤ gb182)); have n4_ := Aside0.mk ((by rw [hg]; exact (below_size (zb HB.out)) : w.heap.size ≤ gb182)); have n5_ := Aside0.mk ((by rw [hg]; exact Nat.ne_of_lt (blk_lt (zh BK180.out)) : gb180 ≠ gb182)); have n6_ := Aside0.mk ((by rw [hg]; exact Nat.ne_of_gt (blk_lt (zh BK180.out)) : gb182 ≠ gb180)); clear BK180; clear HB; have BK180 := n0_; have HB := n1_; have BK182 := n2_; have GW182 := n3_; have GE182 := n4_; have NB180_182 := n5_; have NB182_180 := n6_; clear n0_ n1_ n2_ n3_ n4_ n5_ n6_; clear hb hbox hg; have hnb20 := NB182_180.out; have hnc20 := NB180_182.out; have hcz21_0 : w19.cell? ⟨gb182, 0, none⟩ = some (.int .i64 0) := (blk_cell BK182.out 0).trans rfl; have hcz21_1 : w19.cell? ⟨gb182, 1, none⟩ = some (.int .i64 0) := (blk_cell BK182.out 1).trans rfl; have hcz21_2 : w19.cell? ⟨gb182, 2, none⟩ = some (.int .i64 0) := (blk_cell BK182.out 2).trans rfl; have hfz21_0 := blk_frozen BK182.out 0; have hfz21_1 := blk_frozen BK182.out 1; have hfz21_2 := blk_frozen BK182.out 2; have hcz22_0 : w19.cell? ⟨gb180, 0, none⟩ = some (.slice (some ad181) l0_0.length c0_0) := (blk_cell BK180.out 0).trans rfl; have hfz22_0 := blk_frozen BK180.out 0) | ((with_reducible refine gate_callee (f := 17) rfl ?_); refine goesL_ (some 25) rfl rfl Tryd.func17 (by kernel_rfl) rfl #[.agg #[.slice (some ad181) l0_0.length c0_0], .int .i64 ((rd_T51 l0_0 a1).f1)] rfl zl ?_; (with_reducible refine (ih k (by omega) _ _ l0_0 ((rd_T51 l0_0 a1).f1) t184 _ ?side1 ?side2 A15.out).mono ?_); (case side1 => exact Kd.C_below HR0_0.out (zb HB.out)); (case side2 => exact HC0_0.out); rintro e w23 ⟨rfl, hb⟩; refine ⟨_, rfl, ?_⟩; have n0_ := Aside0.mk (blk_below (g := gb180) (o := .cells #[.slice (some ad181) l0_0.length c0_0] 29 (0, 0)) (zf BK180.out) hb); have n1_ := Aside0.mk (blk_below (g := gb182) (o := .cells #[.int .i64 ((rd_T51 l0_0 a1).f0), .int .i64 ((rd_T51 l0_0 a1).f1), .int .i64 ((rd_T51 l0_0 a1).f2)] 51 (0, 0)) (by (with_reducible repeat (first | refine blk_drewN ?_ _ | refine blk_drew ?_ | refine blk_alloc ?_ _)); refine blk_put (cs := #[.int .i64 ((rd_T51 l0_0 a1).f0), .int .i64 ((rd_T51 l0_0 a1).f1), .int .i64 0]) ?_ 2 _ rfl; (with_reducible repeat (first | refine blk_drewN ?_ _ | refine blk_drew ?_ | refine blk_alloc ?_ _)); refine blk_put (cs := #[.int .i64 ((rd_T51 l0_0 a1).f0), .int .i64 0, .int .i64 0]) ?_ 1 _ rfl; (with_reducible repeat (first | refine blk_drewN ?_ _ | refine blk_drew ?_ | refine blk_alloc ?_ _)); refine blk_put (cs := #[.int .i64 0, .int .i64 0, .int .i64 0]) ?_ 0 _ rfl; (with_reducible repeat (first | refine blk_drewN ?_ _ | refine blk_drew ?_ | refine blk_alloc ?_ _)); exact BK182.out) hb); have n2_ := Aside0.mk (below_step (zb HB.out) hb); clear BK180; clear BK182; clear HB; have BK180 := n0_; have BK182 := n1_; have HB := n2_; clear n0_ n1_ n2_; (try clear hb); (try clear hb2); (try clear hk); (try clear hi)))
      go_ret
      exact ⟨ze, zb HB.out⟩
     ·rw [if_neg c16] at H
      exact absurd H (by simp)
    ·rw [if_neg c14] at H
     have c14b0 : (((rd_T51 l0_0 a1).f0) == 5) = false := beq_eq_false_iff_ne.mpr c14
     have c14b1 : (((rd_T51 l0_0 a1).f0) != 5) = true := bne_iff_ne.mpr c14
     by_cases c24 : ((rd_T51 l0_0 a1).f0) = 7
     ·rw [if_pos c24] at H
      have c24b0 : (((rd_T51 l0_0 a1).f0) == 7) = true := beq_iff_eq.mpr c24
      have c24b1 : (((rd_T51 l0_0 a1).f0) != 7) = false := bne_eq_false_iff_eq.mpr c24
      clear c24
      replace H := Option.bind_eq_some_iff.mp H
      obtain ⟨t185, A250, H⟩ := H
      replace H : (if 1 + t185.size ≤ 9223372036854775807 then (some ((⟨#[94]⟩ : ByteArray) ++ t185)) else (none)) = some r := H
      have A25 := Aside0.mk A250
      clear A250
      by_cases c26 : 1 + t185.size ≤ 9223372036854775807
      ·rw [if_pos c26] at H
       have c26b0 := eq_true c26
       have c26b1 : decide (1 + t185.size ≤ 9223372036854775807) = true := decide_eq_true c26
       try have c26b2 : (9223372036854775807 < 1 + t185.size) = False := eq_false (Nat.not_lt.2 c26)
       obtain rfl := Option.some.inj H
       go_enter Tryd.func17, Tryd.ntmps17
       go_wp2_with (first | ((with_reducible refine gate_dst (N := 2) rfl ?_); refine box_event ?hg (N := 2) ?hd (cs := #[.slice A0_0 l0_0.length c0_0]) (t := 29) ?hr ?_; (case hd => rfl); (case hg => rfl); (case hr => first | (go_simp; done) | (go_simp; rfl)); intro gb180 hg w27 hbox hb; have n0_ := Aside0.mk (below_step (zb HB.out) hb); have n1_ := Aside0.mk (hbox); have n2_ := Aside0.mk ((by rw [hg]; exact (below_size (zb HB.out)) : w.heap.size ≤ gb180)); have n3_ := Aside0.mk ((by rw [hg]; exact (below_size (zb HB.out)) : w.heap.size ≤ gb180)); clear HB; have HB := n0_; have BK180 := n1_; have GW180 := n2_; have GE180 := n3_; clear n0_ n1_ n2_ n3_; clear hb hbox hg; have hcz28_0 : w27.cell? ⟨gb180, 0, none⟩ = some (.slice A0_0 l0_0.length c0_0) := (blk_cell BK180.out 0).trans rfl; have hfz28_0 := blk_frozen BK180.out 0; have p181 : 0 ≤ (a1 : Int) := of_decide_eq_true (by first | (with_reducible assumption) | assumption); have q181 : a1 < (l0_0.length : Int) := of_decide_eq_true (by first | (with_reducible assumption) | assumption); obtain ⟨ad181, e181, hx181_0, hx181_1, hx181_2⟩ := at_T51 HR0_0.out a1 p181 q181; cases e181; replace hx181_0 := (HB.out.cell (World.block_lt_of_cell? w _ hx181_0)).trans hx181_0; replace hx181_1 := (HB.out.cell (World.block_lt_of_cell? w _ hx181_1)).trans hx181_1; replace hx181_2 := (HB.out.cell (World.block_lt_of_cell? w _ hx181_2)).trans hx181_2; replace p181 := eq_true p181; replace q181 := eq_true q181) | ((with_reducible refine gate_dst (N := 5) rfl ?_); refine box_event ?hg (N := 5) ?hd (cs := #[.int .i64 0, .int .i64 0, .int .i64 0]) (t := 51) ?hr ?_; (case hd => rfl); (case hg => rfl); (case hr => first | (go_simp; done) | (go_simp; rfl)); intro gb182 hg w29 hbox hb; have n0_ := Aside0.mk (blk_below (zh BK180.out) hb); have n1_ := Aside0.mk (below_step (zb HB.out) hb); have n2_ := Aside0.mk (hbox); have n3_ := Aside0.mk ((by rw [hg]; exact (below_size (zb HB.out)) : w.heap.size ≤ gb182)); have n4_ := Aside0.mk ((by rw [hg]; exact (below_size (zb HB.out)) : w.heap.size ≤ gb182)); have n5_ := Aside0.mk ((by rw [hg]; exact Nat.ne_of_lt (blk_lt (zh BK180.out)) : gb180 ≠ gb182)); have n6_ := Aside0.mk ((by rw [hg]; exact Nat.ne_of_gt (blk_lt (zh BK180.out)) : gb182 ≠ gb180)); clear BK180; clear HB; have BK180 := n0_; have HB := n1_; have BK182 := n2_; have GW182 := n3_; have GE182 := n4_; have NB180_182 := n5_; have NB182_180 := n6_; clear n0_ n1_ n2_ n3_ n4_ n5_ n6_; clear hb hbox hg; have hnb30 := NB182_180.out; have hnc30 := NB180_182.out; have hcz31_0 : w29.cell? ⟨gb182, 0, none⟩ = some (.int .i64 0) := (blk_cell BK182.out 0).trans rfl; have hcz31_1 : w29.cell? ⟨gb182, 1, none⟩ = some (.int .i64 0) := (blk_cell BK182.out 1).trans rfl; have hcz31_2 : w29.cell? ⟨gb182, 2, none⟩ = some (.int .i64 0) := (blk_cell BK182.out 2).trans rfl; have hfz31_0 := blk_frozen BK182.out 0; have hfz31_1 := blk_frozen BK182.out 1; have hfz31_2 := blk_frozen BK182.out 2; have hcz32_0 : w29.cell? ⟨gb180, 0, none⟩ = some (.slice (some ad181) l0_0.length c0_0) := (blk_cell BK180.out 0).trans rfl; have hfz32_0 := blk_frozen BK180.out 0) | ((with_reducible refine gate_callee (f := 17) rfl ?_); refine goesL_ (some 32) rfl rfl Tryd.func17 (by kernel_rfl) rfl #[.agg #[.slice (some ad181) l0_0.length c0_0], .int .i64 ((rd_T51 l0_0 a1).f1)] rfl zl ?_; (with_reducible refine (ih k (by omega) _ _ l0_0 ((rd_T51 l0_0 a1).f1) t185 _ ?side1 ?side2 A25.out).mono ?_); (case side1 => exact Kd.C_below HR0_0.out (zb HB.out)); (case side2 => exact HC0_0.out); rintro e w33 ⟨rfl, hb⟩; refine ⟨_, rfl, ?_⟩; have n0_ := Aside0.mk (blk_below (g := gb180) (o := .cells #[.slice (some ad181) l0_0.length c0_0] 29 (0, 0)) (zf BK180.out) hb); have n1_ := Aside0.mk (blk_below (g := gb182) (o := .cells #[.int .i64 ((rd_T51 l0_0 a1).f0), .int .i64 ((rd_T51 l0_0 a1).f1), .int .i64 ((rd_T51 l0_0 a1).f2)] 51 (0, 0)) (by (with_reducible repeat (first | refine blk_drewN ?_ _ | refine blk_drew ?_ | refine blk_alloc ?_ _)); refine blk_put (cs := #[.int .i64 ((rd_T51 l0_0 a1).f0), .int .i64 ((rd_T51 l0_0 a1).f1), .int .i64 0]) ?_ 2 _ rfl; (with_reducible repeat (first | refine blk_drewN ?_ _ | refine blk_drew ?_ | refine blk_alloc ?_ _)); refine blk_put (cs := #[.int .i64 ((rd_T51 l0_0 a1).f0), .int .i64 0, .int .i64 0]) ?_ 1 _ rfl; (with_reducible repeat (first | refine blk_drewN ?_ _ | refine blk_drew ?_ | refine blk_alloc ?_ _)); refine blk_put (cs := #[.int .i64 0, .int .i64 0, .int .i64 0]) ?_ 0 _ rfl; (with_reducible repeat (first | refine blk_drewN ?_ _ | refine blk_drew ?_ | refine blk_alloc ?_ _)); exact BK182.out) hb); have n2_ := Aside0.mk (below_step (zb HB.out) hb); clear BK180; clear BK182; clear HB; have BK180 := n0_; have BK182 := n1_; have HB := n2_; clear n0_ n1_ n2_; (try clear hb); (try clear hb2); (try clear hk); (try clear hi)))
       go_ret
       exact ⟨ze, zb HB.out⟩
      ·rw [if_neg c26] at H
       exact absurd H (by simp)
     ·rw [if_neg c24] at H
      have c24b0 : (((rd_T51 l0_0 a1).f0) == 7) = false := beq_eq_false_iff_ne.mpr c24
      have c24b1 : (((rd_T51 l0_0 a1).f0) != 7) = true := bne_iff_ne.mpr c24
      replace H := Option.bind_eq_some_iff.mp H
      obtain ⟨t186, A340, H⟩ := H
      replace H : (if t186.size + 1 ≤ 9223372036854775807 then ((spec_l4Print.f k l0_0 ((rd_T51 l0_0 a1).f2)).bind fun t187 => (if (t186 ++ (⟨#[44]⟩ : ByteArray)).size + t187.size ≤ 9223372036854775807 then (if ((rd_T51 l0_0 a1).f0) = 2 then (if 1 + ((t186 ++ (⟨#[44]⟩ : ByteArray)) ++ t187).size ≤ 9223372036854775807 then (if ((⟨#[40]⟩ : ByteArray) ++ ((t186 ++ (⟨#[44]⟩ : ByteArray)) ++ t187)).size + 1 ≤ 9223372036854775807 then (some (((⟨#[40]⟩ : ByteArray) ++ ((t186 ++ (⟨#[44]⟩ : ByteArray)) ++ t187)) ++ (⟨#[41]⟩ : ByteArray))) else (none)) else (none)) else (if ((rd_T51 l0_0 a1).f0) = 3 then (if 1 + ((t186 ++ (⟨#[44]⟩ : ByteArray)) ++ t187).size ≤ 9223372036854775807 then (if ((⟨#[123]⟩ : ByteArray) ++ ((t186 ++ (⟨#[44]⟩ : ByteArray)) ++ t187)).size + 1 ≤ 9223372036854775807 then (some (((⟨#[123]⟩ : ByteArray) ++ ((t186 ++ (⟨#[44]⟩ : ByteArray)) ++ t187)) ++ (⟨#[125]⟩ : ByteArray))) else (none)) else (none)) else (if ((rd_T51 l0_0 a1).f0) = 4 then (if 1 + ((t186 ++ (⟨#[44]⟩ : ByteArray)) ++ t187).size ≤ 9223372036854775807 then (if ((⟨#[91]⟩ : ByteArray) ++ ((t186 ++ (⟨#[44]⟩ : ByteArray)) ++ t187)).size + 1 ≤ 9223372036854775807 then (some (((⟨#[91]⟩ : ByteArray) ++ ((t186 ++ (⟨#[44]⟩ : ByteArray)) ++ t187)) ++ (⟨#[93]⟩ : ByteArray))) else (none)) else (none)) else (if ((rd_T51 l0_0 a1).f0) = 6 then (if 2 + ((t186 ++ (⟨#[44]⟩ : ByteArray)) ++ t187).size ≤ 9223372036854775807 then (if ((⟨#[107, 40]⟩ : ByteArray) ++ ((t186 ++ (⟨#[44]⟩ : ByteArray)) ++ t187)).size + 1 ≤ 9223372036854775807 then (some (((⟨#[107, 40]⟩ : ByteArray) ++ ((t186 ++ (⟨#[44]⟩ : ByteArray)) ++ t187)) ++ (⟨#[41]⟩ : ByteArray))) else (none)) else (none)) else (if 2 + ((t186 ++ (⟨#[44]⟩ : ByteArray)) ++ t187).size ≤ 9223372036854775807 then (if ((⟨#[42, 40]⟩ : ByteArray) ++ ((t186 ++ (⟨#[44]⟩ : ByteArray)) ++ t187)).size + 1 ≤ 9223372036854775807 then (some (((⟨#[42, 40]⟩ : ByteArray) ++ ((t186 ++ (⟨#[44]⟩ : ByteArray)) ++ t187)) ++ (⟨#[41]⟩ : ByteArray))) else (none)) else (none)))))) else (none))) else (none)) = some r := H
      have A34 := Aside0.mk A340
      clear A340
      by_cases c35 : t186.size + 1 ≤ 9223372036854775807
      ·rw [if_pos c35] at H
       have c35b0 := eq_true c35
       have c35b1 : decide (t186.size + 1 ≤ 9223372036854775807) = true := decide_eq_true c35
       try have c35b2 : (9223372036854775807 < t186.size + 1) = False := eq_false (Nat.not_lt.2 c35)
       replace H := Option.bind_eq_some_iff.mp H
       obtain ⟨t187, A360, H⟩ := H
       replace H : (if (t186 ++ (⟨#[44]⟩ : ByteArray)).size + t187.size ≤ 9223372036854775807 then (if ((rd_T51 l0_0 a1).f0) = 2 then (if 1 + ((t186 ++ (⟨#[44]⟩ : ByteArray)) ++ t187).size ≤ 9223372036854775807 then (if ((⟨#[40]⟩ : ByteArray) ++ ((t186 ++ (⟨#[44]⟩ : ByteArray)) ++ t187)).size + 1 ≤ 9223372036854775807 then (some (((⟨#[40]⟩ : ByteArray) ++ ((t186 ++ (⟨#[44]⟩ : ByteArray)) ++ t187)) ++ (⟨#[41]⟩ : ByteArray))) else (none)) else (none)) else (if ((rd_T51 l0_0 a1).f0) = 3 then (if 1 + ((t186 ++ (⟨#[44]⟩ : ByteArray)) ++ t187).size ≤ 9223372036854775807 then (if ((⟨#[123]⟩ : ByteArray) ++ ((t186 ++ (⟨#[44]⟩ : ByteArray)) ++ t187)).size + 1 ≤ 9223372036854775807 then (some (((⟨#[123]⟩ : ByteArray) ++ ((t186 ++ (⟨#[44]⟩ : ByteArray)) ++ t187)) ++ (⟨#[125]⟩ : ByteArray))) else (none)) else (none)) else (if ((rd_T51 l0_0 a1).f0) = 4 then (if 1 + ((t186 ++ (⟨#[44]⟩ : ByteArray)) ++ t187).size ≤ 9223372036854775807 then (if ((⟨#[91]⟩ : ByteArray) ++ ((t186 ++ (⟨#[44]⟩ : ByteArray)) ++ t187)).size + 1 ≤ 9223372036854775807 then (some (((⟨#[91]⟩ : ByteArray) ++ ((t186 ++ (⟨#[44]⟩ : ByteArray)) ++ t187)) ++ (⟨#[93]⟩ : ByteArray))) else (none)) else (none)) else (if ((rd_T51 l0_0 a1).f0) = 6 then (if 2 + ((t186 ++ (⟨#[44]⟩ : ByteArray)) ++ t187).size ≤ 9223372036854775807 then (if ((⟨#[107, 40]⟩ : ByteArray) ++ ((t186 ++ (⟨#[44]⟩ : ByteArray)) ++ t187)).size + 1 ≤ 9223372036854775807 then (some (((⟨#[107, 40]⟩ : ByteArray) ++ ((t186 ++ (⟨#[44]⟩ : ByteArray)) ++ t187)) ++ (⟨#[41]⟩ : ByteArray))) else (none)) else (none)) else (if 2 + ((t186 ++ (⟨#[44]⟩ : ByteArray)) ++ t187).size ≤ 9223372036854775807 then (if ((⟨#[42, 40]⟩ : ByteArray) ++ ((t186 ++ (⟨#[44]⟩ : ByteArray)) ++ t187)).size + 1 ≤ 9223372036854775807 then (some (((⟨#[42, 40]⟩ : ByteArray) ++ ((t186 ++ (⟨#[44]⟩ : ByteArray)) ++ t187)) ++ (⟨#[41]⟩ : ByteArray))) else (none)) else (none)))))) else (none)) = some r := H
       have A36 := Aside0.mk A360
       clear A360
       by_cases c37 : (t186 ++ (⟨#[44]⟩ : ByteArray)).size + t187.size ≤ 9223372036854775807
       ·rw [if_pos c37] at H
        have c37b0 := eq_true c37
        have c37b1 : decide ((t186 ++ (⟨#[44]⟩ : ByteArray)).size + t187.size ≤ 9223372036854775807) = true := decide_eq_true c37
        try have c37b2 : (9223372036854775807 < (t186 ++ (⟨#[44]⟩ : ByteArray)).size + t187.size) = False := eq_false (Nat.not_lt.2 c37)
        try have c37b3 : (9223372036854775807 < t186.size + 1 + t187.size) = False := eq_false (by have h_ := c37; simp only [ByteArray.size_append] at h_; have l0_ : (⟨#[44]⟩ : ByteArray).size = 1 := rfl; omega)
        by_cases c38 : ((rd_T51 l0_0 a1).f0) = 2
        ·rw [if_pos c38] at H
         have c38b0 : (((rd_T51 l0_0 a1).f0) == 2) = true := beq_iff_eq.mpr c38
         have c38b1 : (((rd_T51 l0_0 a1).f0) != 2) = false := bne_eq_false_iff_eq.mpr c38
         clear c38
         by_cases c39 : 1 + ((t186 ++ (⟨#[44]⟩ : ByteArray)) ++ t187).size ≤ 9223372036854775807
         ·rw [if_pos c39] at H
          have c39b0 := eq_true c39
          have c39b1 : decide (1 + ((t186 ++ (⟨#[44]⟩ : ByteArray)) ++ t187).size ≤ 9223372036854775807) = true := decide_eq_true c39
          try have c39b2 : (9223372036854775807 < 1 + ((t186 ++ (⟨#[44]⟩ : ByteArray)) ++ t187).size) = False := eq_false (Nat.not_lt.2 c39)
          try have c39b3 : (9223372036854775807 < 1 + (t186.size + 1 + t187.size)) = False := eq_false (by have h_ := c39; simp only [ByteArray.size_append] at h_; have l0_ : (⟨#[44]⟩ : ByteArray).size = 1 := rfl; omega)
          by_cases c40 : ((⟨#[40]⟩ : ByteArray) ++ ((t186 ++ (⟨#[44]⟩ : ByteArray)) ++ t187)).size + 1 ≤ 9223372036854775807
          ·rw [if_pos c40] at H
           have c40b0 := eq_true c40
           have c40b1 : decide (((⟨#[40]⟩ : ByteArray) ++ ((t186 ++ (⟨#[44]⟩ : ByteArray)) ++ t187)).size + 1 ≤ 9223372036854775807) = true := decide_eq_true c40
           try have c40b2 : (9223372036854775807 < ((⟨#[40]⟩ : ByteArray) ++ ((t186 ++ (⟨#[44]⟩ : ByteArray)) ++ t187)).size + 1) = False := eq_false (Nat.not_lt.2 c40)
           try have c40b3 : (9223372036854775807 < 1 + (t186.size + 1 + t187.size) + 1) = False := eq_false (by have h_ := c40; simp only [ByteArray.size_append] at h_; have l0_ : (⟨#[40]⟩ : ByteArray).size = 1 := rfl; have l1_ : (⟨#[44]⟩ : ByteArray).size = 1 := rfl; omega)
           obtain rfl := Option.some.inj H
           go_enter Tryd.func17, Tryd.ntmps17
           try go_wp2_with (first | ((with_reducible refine gate_dst (N := 2) rfl ?_); refine box_event ?hg (N := 2) ?hd (cs := #[.slice A0_0 l0_0.length c0_0]) (t := 29) ?hr ?_; (case hd => rfl); (case hg => rfl); (case hr => first | (go_simp; done) | (go_simp; rfl)); intro gb180 hg w41 hbox hb; have n0_ := Aside0.mk (below_step (zb HB.out) hb); have n1_ := Aside0.mk (hbox); have n2_ := Aside0.mk ((by rw [hg]; exact (below_size (zb HB.out)) : w.heap.size ≤ gb180)); have n3_ := Aside0.mk ((by rw [hg]; exact (below_size (zb HB.out)) : w.heap.size ≤ gb180)); clear HB; have HB := n0_; have BK180 := n1_; have GW180 := n2_; have GE180 := n3_; clear n0_ n1_ n2_ n3_; clear hb hbox hg; have hcz42_0 : w41.cell? ⟨gb180, 0, none⟩ = some (.slice A0_0 l0_0.length c0_0) := (blk_cell BK180.out 0).trans rfl; have hfz42_0 := blk_frozen BK180.out 0; have p181 : 0 ≤ (a1 : Int) := of_decide_eq_true (by first | (with_reducible assumption) | assumption); have q181 : a1 < (l0_0.length : Int) := of_decide_eq_true (by first | (with_reducible assumption) | assumption); obtain ⟨ad181, e181, hx181_0, hx181_1, hx181_2⟩ := at_T51 HR0_0.out a1 p181 q181; cases e181; replace hx181_0 := (HB.out.cell (World.block_lt_of_cell? w _ hx181_0)).trans hx181_0; replace hx181_1 := (HB.out.cell (World.block_lt_of_cell? w _ hx181_1)).trans hx181_1; replace hx181_2 := (HB.out.cell (World.block_lt_of_cell? w _ hx181_2)).trans hx181_2; replace p181 := eq_true p181; replace q181 := eq_true q181) | ((with_reducible refine gate_dst (N := 5) rfl ?_); refine box_event ?hg (N := 5) ?hd (cs := #[.int .i64 0, .int .i64 0, .int .i64 0]) (t := 51) ?hr ?_; (case hd => rfl); (case hg => rfl); (case hr => first | (go_simp; done) | (go_simp; rfl)); intro gb182 hg w43 hbox hb; have n0_ := Aside0.mk (blk_below (zh BK180.out) hb); have n1_ := Aside0.mk (below_step (zb HB.out) hb); have n2_ := Aside0.mk (hbox); have n3_ := Aside0.mk ((by rw [hg]; exact (below_size (zb HB.out)) : w.heap.size ≤ gb182)); have n4_ := Aside0.mk ((by rw [hg]; exact (below_size (zb HB.out)) : w.heap.size ≤ gb182)); have n5_ := Aside0.mk ((by rw [hg]; exact Nat.ne_of_lt (blk_lt (zh BK180.out)) : gb180 ≠ gb182)); have n6_ := Aside0.mk ((by rw [hg]; exact Nat.ne_of_gt (blk_lt (zh BK180.out)) : gb182 ≠ gb180)); clear BK180; clear HB; have BK180 := n0_; have HB := n1_; have BK182 := n2_; have GW182 := n3_; have GE182 := n4_; have NB180_182 := n5_; have NB182_180 := n6_; clear n0_ n1_ n2_ n3_ n4_ n5_ n6_; clear hb hbox hg; have hnb44 := NB182_180.out; have hnc44 := NB180_182.out; have hcz45_0 : w43.cell? ⟨gb182, 0, none⟩ = some (.int .i64 0) := (blk_cell BK182.out 0).trans rfl; have hcz45_1 : w43.cell? ⟨gb182, 1, none⟩ = some (.int .i64 0) := (blk_cell BK182.out 1).trans rfl; have hcz45_2 : w43.cell? ⟨gb182, 2, none⟩ = some (.int .i64 0) := (blk_cell BK182.out 2).trans rfl; have hfz45_0 := blk_frozen BK182.out 0; have hfz45_1 := blk_frozen BK182.out 1; have hfz45_2 := blk_frozen BK182.out 2))
           have n0_ : Aside0 ((((w43.setCell ⟨gb182, 0, none⟩ (.int .i64 ((rd_T51 l0_0 a1).f0))).setCell ⟨gb182, 1, none⟩ (.int .i64 ((rd_T51 l0_0 a1).f1))).setCell ⟨gb182, 2, none⟩ (.int .i64 ((rd_T51 l0_0 a1).f2))).heap[gb180]? = some (.cells #[.slice (some ad181) l0_0.length c0_0] 29 (0, 0))) := ⟨zf BK180.out⟩
           have n1_ : Aside0 ((((w43.setCell ⟨gb182, 0, none⟩ (.int .i64 ((rd_T51 l0_0 a1).f0))).setCell ⟨gb182, 1, none⟩ (.int .i64 ((rd_T51 l0_0 a1).f1))).setCell ⟨gb182, 2, none⟩ (.int .i64 ((rd_T51 l0_0 a1).f2))).heap[gb182]? = some (.cells #[.int .i64 ((rd_T51 l0_0 a1).f0), .int .i64 ((rd_T51 l0_0 a1).f1), .int .i64 ((rd_T51 l0_0 a1).f2)] 51 (0, 0))) := ⟨by (with_reducible repeat (first | refine blk_drewN ?_ _ | refine blk_drew ?_ | refine blk_alloc ?_ _)); refine blk_put (cs := #[.int .i64 ((rd_T51 l0_0 a1).f0), .int .i64 ((rd_T51 l0_0 a1).f1), .int .i64 0]) ?_ 2 _ rfl; (with_reducible repeat (first | refine blk_drewN ?_ _ | refine blk_drew ?_ | refine blk_alloc ?_ _)); refine blk_put (cs := #[.int .i64 ((rd_T51 l0_0 a1).f0), .int .i64 0, .int .i64 0]) ?_ 1 _ rfl; (with_reducible repeat (first | refine blk_drewN ?_ _ | refine blk_drew ?_ | refine blk_alloc ?_ _)); refine blk_put (cs := #[.int .i64 0, .int .i64 0, .int .i64 0]) ?_ 0 _ rfl; (with_reducible repeat (first | refine blk_drewN ?_ _ | refine blk_drew ?_ | refine blk_alloc ?_ _)); exact BK182.out⟩
           have n2_ : Aside0 (Below w.heap.size w (((w43.setCell ⟨gb182, 0, none⟩ (.int .i64 ((rd_T51 l0_0 a1).f0))).setCell ⟨gb182, 1, none⟩ (.int .i64 ((rd_T51 l0_0 a1).f1))).setCell ⟨gb182, 2, none⟩ (.int .i64 ((rd_T51 l0_0 a1).f2)))) := ⟨zb HB.out⟩
           (try clear BK180)
           (try clear BK182)
           (try clear HB)
           generalize (((w43.setCell ⟨gb182, 0, none⟩ (.int .i64 ((rd_T51 l0_0 a1).f0))).setCell ⟨gb182, 1, none⟩ (.int .i64 ((rd_T51 l0_0 a1).f1))).setCell ⟨gb182, 2, none⟩ (.int .i64 ((rd_T51 l0_0 a1).f2))) = w46 at n0_ n1_ n2_ ⊢
           have BK180 := n0_
           have BK182 := n1_
           have HB := n2_
           clear n0_ n1_ n2_
           have n0_ := Aside0.mk (blk_drew BK180.out)
           have n1_ := Aside0.mk (blk_drew BK182.out)
           have n2_ := Aside0.mk (below_drew1 HB.out)
           clear BK180
           clear BK182
           clear HB
           have BK180 := n0_
           have BK182 := n1_
           have HB := n2_
           clear n0_ n1_ n2_
           refine start_ (n := 11) (S := fun w' => w'.cell? ⟨gb180, 0, none⟩ = some (.slice (some ad181) l0_0.length c0_0) ∧ w'.cell? ⟨gb182, 0, none⟩ = some (.int .i64 ((rd_T51 l0_0 a1).f0)) ∧ w'.cell? ⟨gb182, 1, none⟩ = some (.int .i64 ((rd_T51 l0_0 a1).f1)) ∧ w'.cell? ⟨gb182, 2, none⟩ = some (.int .i64 ((rd_T51 l0_0 a1).f2))) (ds := []) #[false, false, false, false, false, false, false, false, false, false, false] (by kernel_rfl) rfl rfl ⟨(blk_cell BK180.out 0).trans rfl, (blk_cell BK182.out 0).trans rfl, (blk_cell BK182.out 1).trans rfl, (blk_cell BK182.out 2).trans rfl⟩ (fun hHeld => ?_); refine with_tabW spec_l4Print.tab9 spec_l4Print.bits9 (fun HT_ HW_ => ?_)
           generalize w46.drew = w47 at BK180 BK182 HB hHeld ⊢
           refine pure_ (i := 1) (N := some 35) (v := ?_) (a' := ?_) #[false, true, false, false, false, false, false, false, false, false, false] rfl rfl (any_of HT_.out (by kernel_rfl)) (fun _ _ _ h => h) (Or.inl ⟨by rfl, ?_⟩) ?_ ?_
           rotate_left
           ·intro w'
            go_simp
            with_reducible rfl
           rotate_left
           ·simp only [Act.put, List.setIfInBounds_toArray, List.set_cons_zero, List.set_cons_succ, i64_w, i32_w]
            rfl
           refine pure_ (i := 6) (N := some 40) (v := ?_) (a' := ?_) #[false, true, false, false, false, false, true, false, false, false, false] rfl rfl (any_of HT_.out (by kernel_rfl)) (fun _ _ _ h => h) (Or.inl ⟨by rfl, ?_⟩) ?_ ?_
           rotate_left
           ·intro w'
            go_simp
            with_reducible rfl
           rotate_left
           ·simp only [Act.put, List.setIfInBounds_toArray, List.set_cons_zero, List.set_cons_succ, i64_w, i32_w]
            rfl
           refine take_ (i := 0) (N := some 34) (v := ?_) (a' := ?_) #[true, true, false, false, false, false, true, false, false, false, false] rfl rfl (take_ofW HT_.out HW_.out (by kernel_rfl)) (fun _ _ _ h => h) (Or.inl ⟨by rfl, ?_⟩) hHeld ?_ ?_
           rotate_left
           ·rintro w' ⟨s0, s1, s2, s3⟩
            go_simp
            with_reducible rfl
           rotate_left
           ·simp only [Act.put, List.setIfInBounds_toArray, List.set_cons_zero, List.set_cons_succ, i64_w, i32_w]
            rfl
           refine take_ (i := 2) (N := some 36) (v := ?_) (a' := ?_) #[true, true, true, false, false, false, true, false, false, false, false] rfl rfl (take_ofW HT_.out HW_.out (by kernel_rfl)) (fun _ _ _ h => h) (Or.inl ⟨by rfl, ?_⟩) hHeld ?_ ?_
           rotate_left
           ·rintro w' ⟨s0, s1, s2, s3⟩
            go_simp
            with_reducible rfl
           rotate_left
           ·simp only [Act.put, List.setIfInBounds_toArray, List.set_cons_zero, List.set_cons_succ, i64_w, i32_w]
            rfl
           refine take_ (i := 5) (N := some 39) (v := ?_) (a' := ?_) #[true, true, true, false, false, true, true, false, false, false, false] rfl rfl (take_ofW HT_.out HW_.out (by kernel_rfl)) (fun _ _ _ h => h) (Or.inl ⟨by rfl, ?_⟩) hHeld ?_ ?_
           rotate_left
           ·rintro w' ⟨s0, s1, s2, s3⟩
            go_simp
            with_reducible rfl
           rotate_left
           ·simp only [Act.put, List.setIfInBounds_toArray, List.set_cons_zero, List.set_cons_succ, i64_w, i32_w]
            rfl
           refine take_ (i := 7) (N := some 41) (v := ?_) (a' := ?_) #[true, true, true, false, false, true, true, true, false, false, false] rfl rfl (take_ofW HT_.out HW_.out (by kernel_rfl)) (fun _ _ _ h => h) (Or.inl ⟨by rfl, ?_⟩) hHeld ?_ ?_
           rotate_left
           ·rintro w' ⟨s0, s1, s2, s3⟩
            go_simp
            with_reducible rfl
           rotate_left
           ·simp only [Act.put, List.setIfInBounds_toArray, List.set_cons_zero, List.set_cons_succ, i64_w, i32_w]
            rfl
           refine one_ (i := 3) (N := some 37) #[true, true, true, true, false, true, true, true, false, false, false] rfl rfl (one_of HT_.out (by kernel_rfl)) (by decide) (fun K hK => ?_)
           refine goes_ Tryd.func17 (by kernel_rfl) rfl #[.agg #[.slice (some ad181) l0_0.length c0_0], .int .i64 ((rd_T51 l0_0 a1).f1)] (by rfl) rfl rfl zl ?_
           with_reducible refine (ih k (by omega) _ _ l0_0 ((rd_T51 l0_0 a1).f1) t186 _ ?side1 ?side2 A34.out).mono ?_
           (case side1 => exact zc (Kd.C_below HR0_0.out HB.out))
           (case side2 => exact HC0_0.out)
           rintro e w48 ⟨rfl, hb⟩
           refine ⟨_, rfl, ?_⟩
           have n0_ := Aside0.mk (blk_below (zh BK180.out) hb)
           have n1_ := Aside0.mk (blk_below (zh BK182.out) hb)
           have n2_ := Aside0.mk (below_step (zb HB.out) hb)
           clear BK180
           clear BK182
           clear HB
           have BK180 := n0_
           have BK182 := n1_
           have HB := n2_
           clear n0_ n1_ n2_
           (try clear hb)
           (try clear hb2)
           (try clear hk)
           (try clear hi)
           refine hK.out _ _ ⟨(blk_cell BK180.out 0).trans rfl, (blk_cell BK182.out 0).trans rfl, (blk_cell BK182.out 1).trans rfl, (blk_cell BK182.out 2).trans rfl⟩ (fun hHeld => ?_)
           clear hK K
           refine norm_ (a' := ?_) ?_ ?_
           rotate_left
           ·show Act.put _ (some 37) _ = _
            simp only [Act.put, List.setIfInBounds_toArray, List.set_cons_zero, List.set_cons_succ, i64_w, i32_w]
            rfl
           refine pure_ (i := 4) (N := some 38) (v := ?_) (a' := ?_) #[true, true, true, true, true, true, true, true, false, false, false] rfl rfl (any_of HT_.out (by kernel_rfl)) (fun _ _ _ h => h) (Or.inl ⟨by rfl, ?_⟩) ?_ ?_
           rotate_left
           ·intro w'
            go_simp
            with_reducible rfl
           rotate_left
           ·simp only [Act.put, List.setIfInBounds_toArray, List.set_cons_zero, List.set_cons_succ, i64_w, i32_w]
            rfl
           refine one_ (i := 8) (N := some 42) #[true, true, true, true, true, true, true, true, true, false, false] rfl rfl (one_of HT_.out (by kernel_rfl)) (by decide) (fun K hK => ?_)
           refine goes_ Tryd.func17 (by kernel_rfl) rfl #[.agg #[.slice (some ad181) l0_0.length c0_0], .int .i64 ((rd_T51 l0_0 a1).f2)] (by rfl) rfl rfl zl ?_
           with_reducible refine (ih k (by omega) _ _ l0_0 ((rd_T51 l0_0 a1).f2) t187 _ ?side1 ?side2 A36.out).mono ?_
           (case side1 => exact zc (Kd.C_below HR0_0.out HB.out))
           (case side2 => exact HC0_0.out)
           rintro e w49 ⟨rfl, hb⟩
           refine ⟨_, rfl, ?_⟩
           have n0_ := Aside0.mk (blk_below (zh BK180.out) hb)
           have n1_ := Aside0.mk (blk_below (zh BK182.out) hb)
           have n2_ := Aside0.mk (below_step (zb HB.out) hb)
           clear BK180
           clear BK182
           clear HB
           have BK180 := n0_
           have BK182 := n1_
           have HB := n2_
           clear n0_ n1_ n2_
           (try clear hb)
           (try clear hb2)
           (try clear hk)
           (try clear hi)
           refine hK.out _ _ ⟨(blk_cell BK180.out 0).trans rfl, (blk_cell BK182.out 0).trans rfl, (blk_cell BK182.out 1).trans rfl, (blk_cell BK182.out 2).trans rfl⟩ (fun hHeld => ?_)
           clear hK K
           refine norm_ (a' := ?_) ?_ ?_
           rotate_left
           ·show Act.put _ (some 42) _ = _
            simp only [Act.put, List.setIfInBounds_toArray, List.set_cons_zero, List.set_cons_succ, i64_w, i32_w]
            rfl
           refine pure_ (i := 9) (N := some 43) (v := ?_) (a' := ?_) #[true, true, true, true, true, true, true, true, true, true, false] rfl rfl (any_of HT_.out (by kernel_rfl)) (fun _ _ _ h => h) (Or.inl ⟨by rfl, ?_⟩) ?_ ?_
           rotate_left
           ·intro w'
            go_simp
            with_reducible rfl
           rotate_left
           ·simp only [Act.put, List.setIfInBounds_toArray, List.set_cons_zero, List.set_cons_succ, i64_w, i32_w]
            rfl
           refine pure_ (i := 10) (N := some 6) (v := ?_) (a' := ?_) #[true, true, true, true, true, true, true, true, true, true, true] rfl rfl (any_of HT_.out (by kernel_rfl)) (fun _ _ _ h => h) (Or.inl ⟨by rfl, ?_⟩) ?_ ?_
           rotate_left
           ·intro w'
            go_simp
            with_reducible rfl
           rotate_left
           ·simp only [Act.put, List.setIfInBounds_toArray, List.set_cons_zero, List.set_cons_succ, i64_w, i32_w]
            rfl
           refine done_ (done_of HT_.out (by kernel_rfl)) ?_
           have hcz50_0 : w49.cell? ⟨gb182, 0, none⟩ = some (.int .i64 ((rd_T51 l0_0 a1).f0)) := (blk_cell BK182.out 0).trans rfl
           have hcz50_1 : w49.cell? ⟨gb182, 1, none⟩ = some (.int .i64 ((rd_T51 l0_0 a1).f1)) := (blk_cell BK182.out 1).trans rfl
           have hcz50_2 : w49.cell? ⟨gb182, 2, none⟩ = some (.int .i64 ((rd_T51 l0_0 a1).f2)) := (blk_cell BK182.out 2).trans rfl
           have hfz50_0 := blk_frozen BK182.out 0
           have hfz50_1 := blk_frozen BK182.out 1
           have hfz50_2 := blk_frozen BK182.out 2
           try go_wp2
           go_ret
           exact ⟨ze, zb HB.out⟩
          ·rw [if_neg c40] at H
           exact absurd H (by simp)
         ·rw [if_neg c39] at H
          exact absurd H (by simp)
        ·rw [if_neg c38] at H
         have c38b0 : (((rd_T51 l0_0 a1).f0) == 2) = false := beq_eq_false_iff_ne.mpr c38
         have c38b1 : (((rd_T51 l0_0 a1).f0) != 2) = true := bne_iff_ne.mpr c38
         by_cases c51 : ((rd_T51 l0_0 a1).f0) = 3
         ·rw [if_pos c51] at H
          have c51b0 : (((rd_T51 l0_0 a1).f0) == 3) = true := beq_iff_eq.mpr c51
          have c51b1 : (((rd_T51 l0_0 a1).f0) != 3) = false := bne_eq_false_iff_eq.mpr c51
          clear c51
          by_cases c52 : 1 + ((t186 ++ (⟨#[44]⟩ : ByteArray)) ++ t187).size ≤ 9223372036854775807
          ·rw [if_pos c52] at H
           have c52b0 := eq_true c52
           have c52b1 : decide (1 + ((t186 ++ (⟨#[44]⟩ : ByteArray)) ++ t187).size ≤ 9223372036854775807) = true := decide_eq_true c52
           try have c52b2 : (9223372036854775807 < 1 + ((t186 ++ (⟨#[44]⟩ : ByteArray)) ++ t187).size) = False := eq_false (Nat.not_lt.2 c52)
           try have c52b3 : (9223372036854775807 < 1 + (t186.size + 1 + t187.size)) = False := eq_false (by have h_ := c52; simp only [ByteArray.size_append] at h_; have l0_ : (⟨#[44]⟩ : ByteArray).size = 1 := rfl; omega)
           by_cases c53 : ((⟨#[123]⟩ : ByteArray) ++ ((t186 ++ (⟨#[44]⟩ : ByteArray)) ++ t187)).size + 1 ≤ 9223372036854775807
           ·rw [if_pos c53] at H
            have c53b0 := eq_true c53
            have c53b1 : decide (((⟨#[123]⟩ : ByteArray) ++ ((t186 ++ (⟨#[44]⟩ : ByteArray)) ++ t187)).size + 1 ≤ 9223372036854775807) = true := decide_eq_true c53
            try have c53b2 : (9223372036854775807 < ((⟨#[123]⟩ : ByteArray) ++ ((t186 ++ (⟨#[44]⟩ : ByteArray)) ++ t187)).size + 1) = False := eq_false (Nat.not_lt.2 c53)
            try have c53b3 : (9223372036854775807 < 1 + (t186.size + 1 + t187.size) + 1) = False := eq_false (by have h_ := c53; simp only [ByteArray.size_append] at h_; have l0_ : (⟨#[123]⟩ : ByteArray).size = 1 := rfl; have l1_ : (⟨#[44]⟩ : ByteArray).size = 1 := rfl; omega)
            obtain rfl := Option.some.inj H
            go_enter Tryd.func17, Tryd.ntmps17
            try go_wp2_with (first | ((with_reducible refine gate_dst (N := 2) rfl ?_); refine box_event ?hg (N := 2) ?hd (cs := #[.slice A0_0 l0_0.length c0_0]) (t := 29) ?hr ?_; (case hd => rfl); (case hg => rfl); (case hr => first | (go_simp; done) | (go_simp; rfl)); intro gb180 hg w54 hbox hb; have n0_ := Aside0.mk (below_step (zb HB.out) hb); have n1_ := Aside0.mk (hbox); have n2_ := Aside0.mk ((by rw [hg]; exact (below_size (zb HB.out)) : w.heap.size ≤ gb180)); have n3_ := Aside0.mk ((by rw [hg]; exact (below_size (zb HB.out)) : w.heap.size ≤ gb180)); clear HB; have HB := n0_; have BK180 := n1_; have GW180 := n2_; have GE180 := n3_; clear n0_ n1_ n2_ n3_; clear hb hbox hg; have hcz55_0 : w54.cell? ⟨gb180, 0, none⟩ = some (.slice A0_0 l0_0.length c0_0) := (blk_cell BK180.out 0).trans rfl; have hfz55_0 := blk_frozen BK180.out 0; have p181 : 0 ≤ (a1 : Int) := of_decide_eq_true (by first | (with_reducible assumption) | assumption); have q181 : a1 < (l0_0.length : Int) := of_decide_eq_true (by first | (with_reducible assumption) | assumption); obtain ⟨ad181, e181, hx181_0, hx181_1, hx181_2⟩ := at_T51 HR0_0.out a1 p181 q181; cases e181; replace hx181_0 := (HB.out.cell (World.block_lt_of_cell? w _ hx181_0)).trans hx181_0; replace hx181_1 := (HB.out.cell (World.block_lt_of_cell? w _ hx181_1)).trans hx181_1; replace hx181_2 := (HB.out.cell (World.block_lt_of_cell? w _ hx181_2)).trans hx181_2; replace p181 := eq_true p181; replace q181 := eq_true q181) | ((with_reducible refine gate_dst (N := 5) rfl ?_); refine box_event ?hg (N := 5) ?hd (cs := #[.int .i64 0, .int .i64 0, .int .i64 0]) (t := 51) ?hr ?_; (case hd => rfl); (case hg => rfl); (case hr => first | (go_simp; done) | (go_simp; rfl)); intro gb182 hg w56 hbox hb; have n0_ := Aside0.mk (blk_below (zh BK180.out) hb); have n1_ := Aside0.mk (below_step (zb HB.out) hb); have n2_ := Aside0.mk (hbox); have n3_ := Aside0.mk ((by rw [hg]; exact (below_size (zb HB.out)) : w.heap.size ≤ gb182)); have n4_ := Aside0.mk ((by rw [hg]; exact (below_size (zb HB.out)) : w.heap.size ≤ gb182)); have n5_ := Aside0.mk ((by rw [hg]; exact Nat.ne_of_lt (blk_lt (zh BK180.out)) : gb180 ≠ gb182)); have n6_ := Aside0.mk ((by rw [hg]; exact Nat.ne_of_gt (blk_lt (zh BK180.out)) : gb182 ≠ gb180)); clear BK180; clear HB; have BK180 := n0_; have HB := n1_; have BK182 := n2_; have GW182 := n3_; have GE182 := n4_; have NB180_182 := n5_; have NB182_180 := n6_; clear n0_ n1_ n2_ n3_ n4_ n5_ n6_; clear hb hbox hg; have hnb57 := NB182_180.out; have hnc57 := NB180_182.out; have hcz58_0 : w56.cell? ⟨gb182, 0, none⟩ = some (.int .i64 0) := (blk_cell BK182.out 0).trans rfl; have hcz58_1 : w56.cell? ⟨gb182, 1, none⟩ = some (.int .i64 0) := (blk_cell BK182.out 1).trans rfl; have hcz58_2 : w56.cell? ⟨gb182, 2, none⟩ = some (.int .i64 0) := (blk_cell BK182.out 2).trans rfl; have hfz58_0 := blk_frozen BK182.out 0; have hfz58_1 := blk_frozen BK182.out 1; have hfz58_2 := blk_frozen BK182.out 2))
            have n0_ : Aside0 ((((w56.setCell ⟨gb182, 0, none⟩ (.int .i64 ((rd_T51 l0_0 a1).f0))).setCell ⟨gb182, 1, none⟩ (.int .i64 ((rd_T51 l0_0 a1).f1))).setCell ⟨gb182, 2, none⟩ (.int .i64 ((rd_T51 l0_0 a1).f2))).heap[gb180]? = some (.cells #[.slice (some ad181) l0_0.length c0_0] 29 (0, 0))) := ⟨zf BK180.out⟩
            have n1_ : Aside0 ((((w56.setCell ⟨gb182, 0, none⟩ (.int .i64 ((rd_T51 l0_0 a1).f0))).setCell ⟨gb182, 1, none⟩ (.int .i64 ((rd_T51 l0_0 a1).f1))).setCell ⟨gb182, 2, none⟩ (.int .i64 ((rd_T51 l0_0 a1).f2))).heap[gb182]? = some (.cells #[.int .i64 ((rd_T51 l0_0 a1).f0), .int .i64 ((rd_T51 l0_0 a1).f1), .int .i64 ((rd_T51 l0_0 a1).f2)] 51 (0, 0))) := ⟨by (with_reducible repeat (first | refine blk_drewN ?_ _ | refine blk_drew ?_ | refine blk_alloc ?_ _)); refine blk_put (cs := #[.int .i64 ((rd_T51 l0_0 a1).f0), .int .i64 ((rd_T51 l0_0 a1).f1), .int .i64 0]) ?_ 2 _ rfl; (with_reducible repeat (first | refine blk_drewN ?_ _ | refine blk_drew ?_ | refine blk_alloc ?_ _)); refine blk_put (cs := #[.int .i64 ((rd_T51 l0_0 a1).f0), .int .i64 0, .int .i64 0]) ?_ 1 _ rfl; (with_reducible repeat (first | refine blk_drewN ?_ _ | refine blk_drew ?_ | refine blk_alloc ?_ _)); refine blk_put (cs := #[.int .i64 0, .int .i64 0, .int .i64 0]) ?_ 0 _ rfl; (with_reducible repeat (first | refine blk_drewN ?_ _ | refine blk_drew ?_ | refine blk_alloc ?_ _)); exact BK182.out⟩
            have n2_ : Aside0 (Below w.heap.size w (((w56.setCell ⟨gb182, 0, none⟩ (.int .i64 ((rd_T51 l0_0 a1).f0))).setCell ⟨gb182, 1, none⟩ (.int .i64 ((rd_T51 l0_0 a1).f1))).setCell ⟨gb182, 2, none⟩ (.int .i64 ((rd_T51 l0_0 a1).f2)))) := ⟨zb HB.out⟩
            (try clear BK180)
            (try clear BK182)
            (try clear HB)
            generalize (((w56.setCell ⟨gb182, 0, none⟩ (.int .i64 ((rd_T51 l0_0 a1).f0))).setCell ⟨gb182, 1, none⟩ (.int .i64 ((rd_T51 l0_0 a1).f1))).setCell ⟨gb182, 2, none⟩ (.int .i64 ((rd_T51 l0_0 a1).f2))) = w59 at n0_ n1_ n2_ ⊢
            have BK180 := n0_
            have BK182 := n1_
            have HB := n2_
            clear n0_ n1_ n2_
            have n0_ := Aside0.mk (blk_drew BK180.out)
            have n1_ := Aside0.mk (blk_drew BK182.out)
            have n2_ := Aside0.mk (below_drew1 HB.out)
            clear BK180
            clear BK182
            clear HB
            have BK180 := n0_
            have BK182 := n1_
            have HB := n2_
            clear n0_ n1_ n2_
            refine start_ (n := 11) (S := fun w' => w'.cell? ⟨gb180, 0, none⟩ = some (.slice (some ad181) l0_0.length c0_0) ∧ w'.cell? ⟨gb182, 0, none⟩ = some (.int .i64 ((rd_T51 l0_0 a1).f0)) ∧ w'.cell? ⟨gb182, 1, none⟩ = some (.int .i64 ((rd_T51 l0_0 a1).f1)) ∧ w'.cell? ⟨gb182, 2, none⟩ = some (.int .i64 ((rd_T51 l0_0 a1).f2))) (ds := []) #[false, false, false, false, false, false, false, false, false, false, false] (by kernel_rfl) rfl rfl ⟨(blk_cell BK180.out 0).trans rfl, (blk_cell BK182.out 0).trans rfl, (blk_cell BK182.out 1).trans rfl, (blk_cell BK182.out 2).trans rfl⟩ (fun hHeld => ?_); refine with_tabW spec_l4Print.tab9 spec_l4Print.bits9 (fun HT_ HW_ => ?_)
            generalize w59.drew = w60 at BK180 BK182 HB hHeld ⊢
            refine pure_ (i := 1) (N := some 35) (v := ?_) (a' := ?_) #[false, true, false, false, false, false, false, false, false, false, false] rfl rfl (any_of HT_.out (by kernel_rfl)) (fun _ _ _ h => h) (Or.inl ⟨by rfl, ?_⟩) ?_ ?_
            rotate_left
            ·intro w'
             go_simp
             with_reducible rfl
            rotate_left
            ·simp only [Act.put, List.setIfInBounds_toArray, List.set_cons_zero, List.set_cons_succ, i64_w, i32_w]
             rfl
            refine pure_ (i := 6) (N := some 40) (v := ?_) (a' := ?_) #[false, true, false, false, false, false, true, false, false, false, false] rfl rfl (any_of HT_.out (by kernel_rfl)) (fun _ _ _ h => h) (Or.inl ⟨by rfl, ?_⟩) ?_ ?_
            rotate_left
            ·intro w'
             go_simp
             with_reducible rfl
            rotate_left
            ·simp only [Act.put, List.setIfInBounds_toArray, List.set_cons_zero, List.set_cons_succ, i64_w, i32_w]
             rfl
            refine take_ (i := 0) (N := some 34) (v := ?_) (a' := ?_) #[true, true, false, false, false, false, true, false, false, false, false] rfl rfl (take_ofW HT_.out HW_.out (by kernel_rfl)) (fun _ _ _ h => h) (Or.inl ⟨by rfl, ?_⟩) hHeld ?_ ?_
            rotate_left
            ·rintro w' ⟨s0, s1, s2, s3⟩
             go_simp
             with_reducible rfl
            rotate_left
            ·simp only [Act.put, List.setIfInBounds_toArray, List.set_cons_zero, List.set_cons_succ, i64_w, i32_w]
             rfl
            refine take_ (i := 2) (N := some 36) (v := ?_) (a' := ?_) #[true, true, true, false, false, false, true, false, false, false, false] rfl rfl (take_ofW HT_.out HW_.out (by kernel_rfl)) (fun _ _ _ h => h) (Or.inl ⟨by rfl, ?_⟩) hHeld ?_ ?_
            rotate_left
            ·rintro w' ⟨s0, s1, s2, s3⟩
             go_simp
             with_reducible rfl
            rotate_left
            ·simp only [Act.put, List.setIfInBounds_toArray, List.set_cons_zero, List.set_cons_succ, i64_w, i32_w]
             rfl
            refine take_ (i := 5) (N := some 39) (v := ?_) (a' := ?_) #[true, true, true, false, false, true, true, false, false, false, false] rfl rfl (take_ofW HT_.out HW_.out (by kernel_rfl)) (fun _ _ _ h => h) (Or.inl ⟨by rfl, ?_⟩) hHeld ?_ ?_
            rotate_left
            ·rintro w' ⟨s0, s1, s2, s3⟩
             go_simp
             with_reducible rfl
            rotate_left
            ·simp only [Act.put, List.setIfInBounds_toArray, List.set_cons_zero, List.set_cons_succ, i64_w, i32_w]
             rfl
            refine take_ (i := 7) (N := some 41) (v := ?_) (a' := ?_) #[true, true, true, false, false, true, true, true, false, false, false] rfl rfl (take_ofW HT_.out HW_.out (by kernel_rfl)) (fun _ _ _ h => h) (Or.inl ⟨by rfl, ?_⟩) hHeld ?_ ?_
            rotate_left
            ·rintro w' ⟨s0, s1, s2, s3⟩
             go_simp
             with_reducible rfl
            rotate_left
            ·simp only [Act.put, List.setIfInBounds_toArray, List.set_cons_zero, List.set_cons_succ, i64_w, i32_w]
             rfl
            refine one_ (i := 3) (N := some 37) #[true, true, true, true, false, true, true, true, false, false, false] rfl rfl (one_of HT_.out (by kernel_rfl)) (by decide) (fun K hK => ?_)
            refine goes_ Tryd.func17 (by kernel_rfl) rfl #[.agg #[.slice (some ad181) l0_0.length c0_0], .int .i64 ((rd_T51 l0_0 a1).f1)] (by rfl) rfl rfl zl ?_
            with_reducible refine (ih k (by omega) _ _ l0_0 ((rd_T51 l0_0 a1).f1) t186 _ ?side1 ?side2 A34.out).mono ?_
            (case side1 => exact zc (Kd.C_below HR0_0.out HB.out))
            (case side2 => exact HC0_0.out)
            rintro e w61 ⟨rfl, hb⟩
            refine ⟨_, rfl, ?_⟩
            have n0_ := Aside0.mk (blk_below (zh BK180.out) hb)
            have n1_ := Aside0.mk (blk_below (zh BK182.out) hb)
            have n2_ := Aside0.mk (below_step (zb HB.out) hb)
            clear BK180
            clear BK182
            clear HB
            have BK180 := n0_
            have BK182 := n1_
            have HB := n2_
            clear n0_ n1_ n2_
            (try clear hb)
            (try clear hb2)
            (try clear hk)
            (try clear hi)
            refine hK.out _ _ ⟨(blk_cell BK180.out 0).trans rfl, (blk_cell BK182.out 0).trans rfl, (blk_cell BK182.out 1).trans rfl, (blk_cell BK182.out 2).trans rfl⟩ (fun hHeld => ?_)
            clear hK K
            refine norm_ (a' := ?_) ?_ ?_
            rotate_left
            ·show Act.put _ (some 37) _ = _
             simp only [Act.put, List.setIfInBounds_toArray, List.set_cons_zero, List.set_cons_succ, i64_w, i32_w]
             rfl
            refine pure_ (i := 4) (N := some 38) (v := ?_) (a' := ?_) #[true, true, true, true, true, true, true, true, false, false, false] rfl rfl (any_of HT_.out (by kernel_rfl)) (fun _ _ _ h => h) (Or.inl ⟨by rfl, ?_⟩) ?_ ?_
            rotate_left
            ·intro w'
             go_simp
             with_reducible rfl
            rotate_left
            ·simp only [Act.put, List.setIfInBounds_toArray, List.set_cons_zero, List.set_cons_succ, i64_w, i32_w]
             rfl
            refine one_ (i := 8) (N := some 42) #[true, true, true, true, true, true, true, true, true, false, false] rfl rfl (one_of HT_.out (by kernel_rfl)) (by decide) (fun K hK => ?_)
            refine goes_ Tryd.func17 (by kernel_rfl) rfl #[.agg #[.slice (some ad181) l0_0.length c0_0], .int .i64 ((rd_T51 l0_0 a1).f2)] (by rfl) rfl rfl zl ?_
            with_reducible refine (ih k (by omega) _ _ l0_0 ((rd_T51 l0_0 a1).f2) t187 _ ?side1 ?side2 A36.out).mono ?_
            (case side1 => exact zc (Kd.C_below HR0_0.out HB.out))
            (case side2 => exact HC0_0.out)
            rintro e w62 ⟨rfl, hb⟩
            refine ⟨_, rfl, ?_⟩
            have n0_ := Aside0.mk (blk_below (zh BK180.out) hb)
            have n1_ := Aside0.mk (blk_below (zh BK182.out) hb)
            have n2_ := Aside0.mk (below_step (zb HB.out) hb)
            clear BK180
            clear BK182
            clear HB
            have BK180 := n0_
            have BK182 := n1_
            have HB := n2_
            clear n0_ n1_ n2_
            (try clear hb)
            (try clear hb2)
            (try clear hk)
            (try clear hi)
            refine hK.out _ _ ⟨(blk_cell BK180.out 0).trans rfl, (blk_cell BK182.out 0).trans rfl, (blk_cell BK182.out 1).trans rfl, (blk_cell BK182.out 2).trans rfl⟩ (fun hHeld => ?_)
            clear hK K
            refine norm_ (a' := ?_) ?_ ?_
            rotate_left
            ·show Act.put _ (some 42) _ = _
             simp only [Act.put, List.setIfInBounds_toArray, List.set_cons_zero, List.set_cons_succ, i64_w, i32_w]
             rfl
            refine pure_ (i := 9) (N := some 43) (v := ?_) (a' := ?_) #[true, true, true, true, true, true, true, true, true, true, false] rfl rfl (any_of HT_.out (by kernel_rfl)) (fun _ _ _ h => h) (Or.inl ⟨by rfl, ?_⟩) ?_ ?_
            rotate_left
            ·intro w'
             go_simp
             with_reducible rfl
            rotate_left
            ·simp only [Act.put, List.setIfInBounds_toArray, List.set_cons_zero, List.set_cons_succ, i64_w, i32_w]
             rfl
            refine pure_ (i := 10) (N := some 6) (v := ?_) (a' := ?_) #[true, true, true, true, true, true, true, true, true, true, true] rfl rfl (any_of HT_.out (by kernel_rfl)) (fun _ _ _ h => h) (Or.inl ⟨by rfl, ?_⟩) ?_ ?_
            rotate_left
            ·intro w'
             go_simp
             with_reducible rfl
            rotate_left
            ·simp only [Act.put, List.setIfInBounds_toArray, List.set_cons_zero, List.set_cons_succ, i64_w, i32_w]
             rfl
            refine done_ (done_of HT_.out (by kernel_rfl)) ?_
            have hcz63_0 : w62.cell? ⟨gb182, 0, none⟩ = some (.int .i64 ((rd_T51 l0_0 a1).f0)) := (blk_cell BK182.out 0).trans rfl
            have hcz63_1 : w62.cell? ⟨gb182, 1, none⟩ = some (.int .i64 ((rd_T51 l0_0 a1).f1)) := (blk_cell BK182.out 1).trans rfl
            have hcz63_2 : w62.cell? ⟨gb182, 2, none⟩ = some (.int .i64 ((rd_T51 l0_0 a1).f2)) := (blk_cell BK182.out 2).trans rfl
            have hfz63_0 := blk_frozen BK182.out 0
            have hfz63_1 := blk_frozen BK182.out 1
            have hfz63_2 := blk_frozen BK182.out 2
            try go_wp2
            go_ret
            exact ⟨ze, zb HB.out⟩
           ·rw [if_neg c53] at H
            exact absurd H (by simp)
          ·rw [if_neg c52] at H
           exact absurd H (by simp)
         ·rw [if_neg c51] at H
          have c51b0 : (((rd_T51 l0_0 a1).f0) == 3) = false := beq_eq_false_iff_ne.mpr c51
          have c51b1 : (((rd_T51 l0_0 a1).f0) != 3) = true := bne_iff_ne.mpr c51
          by_cases c64 : ((rd_T51 l0_0 a1).f0) = 4
          ·rw [if_pos c64] at H
           have c64b0 : (((rd_T51 l0_0 a1).f0) == 4) = true := beq_iff_eq.mpr c64
           have c64b1 : (((rd_T51 l0_0 a1).f0) != 4) = false := bne_eq_false_iff_eq.mpr c64
           clear c64
           by_cases c65 : 1 + ((t186 ++ (⟨#[44]⟩ : ByteArray)) ++ t187).size ≤ 9223372036854775807
           ·rw [if_pos c65] at H
            have c65b0 := eq_true c65
            have c65b1 : decide (1 + ((t186 ++ (⟨#[44]⟩ : ByteArray)) ++ t187).size ≤ 9223372036854775807) = true := decide_eq_true c65
            try have c65b2 : (9223372036854775807 < 1 + ((t186 ++ (⟨#[44]⟩ : ByteArray)) ++ t187).size) = False := eq_false (Nat.not_lt.2 c65)
            try have c65b3 : (9223372036854775807 < 1 + (t186.size + 1 + t187.size)) = False := eq_false (by have h_ := c65; simp only [ByteArray.size_append] at h_; have l0_ : (⟨#[44]⟩ : ByteArray).size = 1 := rfl; omega)
            by_cases c66 : ((⟨#[91]⟩ : ByteArray) ++ ((t186 ++ (⟨#[44]⟩ : ByteArray)) ++ t187)).size + 1 ≤ 9223372036854775807
            ·rw [if_pos c66] at H
             have c66b0 := eq_true c66
             have c66b1 : decide (((⟨#[91]⟩ : ByteArray) ++ ((t186 ++ (⟨#[44]⟩ : ByteArray)) ++ t187)).size + 1 ≤ 9223372036854775807) = true := decide_eq_true c66
             try have c66b2 : (9223372036854775807 < ((⟨#[91]⟩ : ByteArray) ++ ((t186 ++ (⟨#[44]⟩ : ByteArray)) ++ t187)).size + 1) = False := eq_false (Nat.not_lt.2 c66)
             try have c66b3 : (9223372036854775807 < 1 + (t186.size + 1 + t187.size) + 1) = False := eq_false (by have h_ := c66; simp only [ByteArray.size_append] at h_; have l0_ : (⟨#[44]⟩ : ByteArray).size = 1 := rfl; have l1_ : (⟨#[91]⟩ : ByteArray).size = 1 := rfl; omega)
             obtain rfl := Option.some.inj H
             go_enter Tryd.func17, Tryd.ntmps17
             try go_wp2_with (first | ((with_reducible refine gate_dst (N := 2) rfl ?_); refine box_event ?hg (N := 2) ?hd (cs := #[.slice A0_0 l0_0.length c0_0]) (t := 29) ?hr ?_; (case hd => rfl); (case hg => rfl); (case hr => first | (go_simp; done) | (go_simp; rfl)); intro gb180 hg w67 hbox hb; have n0_ := Aside0.mk (below_step (zb HB.out) hb); have n1_ := Aside0.mk (hbox); have n2_ := Aside0.mk ((by rw [hg]; exact (below_size (zb HB.out)) : w.heap.size ≤ gb180)); have n3_ := Aside0.mk ((by rw [hg]; exact (below_size (zb HB.out)) : w.heap.size ≤ gb180)); clear HB; have HB := n0_; have BK180 := n1_; have GW180 := n2_; have GE180 := n3_; clear n0_ n1_ n2_ n3_; clear hb hbox hg; have hcz68_0 : w67.cell? ⟨gb180, 0, none⟩ = some (.slice A0_0 l0_0.length c0_0) := (blk_cell BK180.out 0).trans rfl; have hfz68_0 := blk_frozen BK180.out 0; have p181 : 0 ≤ (a1 : Int) := of_decide_eq_true (by first | (with_reducible assumption) | assumption); have q181 : a1 < (l0_0.length : Int) := of_decide_eq_true (by first | (with_reducible assumption) | assumption); obtain ⟨ad181, e181, hx181_0, hx181_1, hx181_2⟩ := at_T51 HR0_0.out a1 p181 q181; cases e181; replace hx181_0 := (HB.out.cell (World.block_lt_of_cell? w _ hx181_0)).trans hx181_0; replace hx181_1 := (HB.out.cell (World.block_lt_of_cell? w _ hx181_1)).trans hx181_1; replace hx181_2 := (HB.out.cell (World.block_lt_of_cell? w _ hx181_2)).trans hx181_2; replace p181 := eq_true p181; replace q181 := eq_true q181) | ((with_reducible refine gate_dst (N := 5) rfl ?_); refine box_event ?hg (N := 5) ?hd (cs := #[.int .i64 0, .int .i64 0, .int .i64 0]) (t := 51) ?hr ?_; (case hd => rfl); (case hg => rfl); (case hr => first | (go_simp; done) | (go_simp; rfl)); intro gb182 hg w69 hbox hb; have n0_ := Aside0.mk (blk_below (zh BK180.out) hb); have n1_ := Aside0.mk (below_step (zb HB.out) hb); have n2_ := Aside0.mk (hbox); have n3_ := Aside0.mk ((by rw [hg]; exact (below_size (zb HB.out)) : w.heap.size ≤ gb182)); have n4_ := Aside0.mk ((by rw [hg]; exact (below_size (zb HB.out)) : w.heap.size ≤ gb182)); have n5_ := Aside0.mk ((by rw [hg]; exact Nat.ne_of_lt (blk_lt (zh BK180.out)) : gb180 ≠ gb182)); have n6_ := Aside0.mk ((by rw [hg]; exact Nat.ne_of_gt (blk_lt (zh BK180.out)) : gb182 ≠ gb180)); clear BK180; clear HB; have BK180 := n0_; have HB := n1_; have BK182 := n2_; have GW182 := n3_; have GE182 := n4_; have NB180_182 := n5_; have NB182_180 := n6_; clear n0_ n1_ n2_ n3_ n4_ n5_ n6_; clear hb hbox hg; have hnb70 := NB182_180.out; have hnc70 := NB180_182.out; have hcz71_0 : w69.cell? ⟨gb182, 0, none⟩ = some (.int .i64 0) := (blk_cell BK182.out 0).trans rfl; have hcz71_1 : w69.cell? ⟨gb182, 1, none⟩ = some (.int .i64 0) := (blk_cell BK182.out 1).trans rfl; have hcz71_2 : w69.cell? ⟨gb182, 2, none⟩ = some (.int .i64 0) := (blk_cell BK182.out 2).trans rfl; have hfz71_0 := blk_frozen BK182.out 0; have hfz71_1 := blk_frozen BK182.out 1; have hfz71_2 := blk_frozen BK182.out 2))
             have n0_ : Aside0 ((((w69.setCell ⟨gb182, 0, none⟩ (.int .i64 ((rd_T51 l0_0 a1).f0))).setCell ⟨gb182, 1, none⟩ (.int .i64 ((rd_T51 l0_0 a1).f1))).setCell ⟨gb182, 2, none⟩ (.int .i64 ((rd_T51 l0_0 a1).f2))).heap[gb180]? = some (.cells #[.slice (some ad181) l0_0.length c0_0] 29 (0, 0))) := ⟨zf BK180.out⟩
             have n1_ : Aside0 ((((w69.setCell ⟨gb182, 0, none⟩ (.int .i64 ((rd_T51 l0_0 a1).f0))).setCell ⟨gb182, 1, none⟩ (.int .i64 ((rd_T51 l0_0 a1).f1))).setCell ⟨gb182, 2, none⟩ (.int .i64 ((rd_T51 l0_0 a1).f2))).heap[gb182]? = some (.cells #[.int .i64 ((rd_T51 l0_0 a1).f0), .int .i64 ((rd_T51 l0_0 a1).f1), .int .i64 ((rd_T51 l0_0 a1).f2)] 51 (0, 0))) := ⟨by (with_reducible repeat (first | refine blk_drewN ?_ _ | refine blk_drew ?_ | refine blk_alloc ?_ _)); refine blk_put (cs := #[.int .i64 ((rd_T51 l0_0 a1).f0), .int .i64 ((rd_T51 l0_0 a1).f1), .int .i64 0]) ?_ 2 _ rfl; (with_reducible repeat (first | refine blk_drewN ?_ _ | refine blk_drew ?_ | refine blk_alloc ?_ _)); refine blk_put (cs := #[.int .i64 ((rd_T51 l0_0 a1).f0), .int .i64 0, .int .i64 0]) ?_ 1 _ rfl; (with_reducible repeat (first | refine blk_drewN ?_ _ | refine blk_drew ?_ | refine blk_alloc ?_ _)); refine blk_put (cs := #[.int .i64 0, .int .i64 0, .int .i64 0]) ?_ 0 _ rfl; (with_reducible repeat (first | refine blk_drewN ?_ _ | refine blk_drew ?_ | refine blk_alloc ?_ _)); exact BK182.out⟩
             have n2_ : Aside0 (Below w.heap.size w (((w69.setCell ⟨gb182, 0, none⟩ (.int .i64 ((rd_T51 l0_0 a1).f0))).setCell ⟨gb182, 1, none⟩ (.int .i64 ((rd_T51 l0_0 a1).f1))).setCell ⟨gb182, 2, none⟩ (.int .i64 ((rd_T51 l0_0 a1).f2)))) := ⟨zb HB.out⟩
             (try clear BK180)
             (try clear BK182)
             (try clear HB)
             generalize (((w69.setCell ⟨gb182, 0, none⟩ (.int .i64 ((rd_T51 l0_0 a1).f0))).setCell ⟨gb182, 1, none⟩ (.int .i64 ((rd_T51 l0_0 a1).f1))).setCell ⟨gb182, 2, none⟩ (.int .i64 ((rd_T51 l0_0 a1).f2))) = w72 at n0_ n1_ n2_ ⊢
             have BK180 := n0_
             have BK182 := n1_
             have HB := n2_
             clear n0_ n1_ n2_
             have n0_ := Aside0.mk (blk_drew BK180.out)
             have n1_ := Aside0.mk (blk_drew BK182.out)
             have n2_ := Aside0.mk (below_drew1 HB.out)
             clear BK180
             clear BK182
             clear HB
             have BK180 := n0_
             have BK182 := n1_
             have HB := n2_
             clear n0_ n1_ n2_
             refine start_ (n := 11) (S := fun w' => w'.cell? ⟨gb180, 0, none⟩ = some (.slice (some ad181) l0_0.length c0_0) ∧ w'.cell? ⟨gb182, 0, none⟩ = some (.int .i64 ((rd_T51 l0_0 a1).f0)) ∧ w'.cell? ⟨gb182, 1, none⟩ = some (.int .i64 ((rd_T51 l0_0 a1).f1)) ∧ w'.cell? ⟨gb182, 2, none⟩ = some (.int .i64 ((rd_T51 l0_0 a1).f2))) (ds := []) #[false, false, false, false, false, false, false, false, false, false, false] (by kernel_rfl) rfl rfl ⟨(blk_cell BK180.out 0).trans rfl, (blk_cell BK182.out 0).trans rfl, (blk_cell BK182.out 1).trans rfl, (blk_cell BK182.out 2).trans rfl⟩ (fun hHeld => ?_); refine with_tabW spec_l4Print.tab9 spec_l4Print.bits9 (fun HT_ HW_ => ?_)
             generalize w72.drew = w73 at BK180 BK182 HB hHeld ⊢
             refine pure_ (i := 1) (N := some 35) (v := ?_) (a' := ?_) #[false, true, false, false, false, false, false, false, false, false, false] rfl rfl (any_of HT_.out (by kernel_rfl)) (fun _ _ _ h => h) (Or.inl ⟨by rfl, ?_⟩) ?_ ?_
             rotate_left
             ·intro w'
              go_simp
              with_reducible rfl
             rotate_left
             ·simp only [Act.put, List.setIfInBounds_toArray, List.set_cons_zero, List.set_cons_succ, i64_w, i32_w]
              rfl
             refine pure_ (i := 6) (N := some 40) (v := ?_) (a' := ?_) #[false, true, false, false, false, false, true, false, false, false, false] rfl rfl (any_of HT_.out (by kernel_rfl)) (fun _ _ _ h => h) (Or.inl ⟨by rfl, ?_⟩) ?_ ?_
             rotate_left
             ·intro w'
              go_simp
              with_reducible rfl
             rotate_left
             ·simp only [Act.put, List.setIfInBounds_toArray, List.set_cons_zero, List.set_cons_succ, i64_w, i32_w]
              rfl
             refine take_ (i := 0) (N := some 34) (v := ?_) (a' := ?_) #[true, true, false, false, false, false, true, false, false, false, false] rfl rfl (take_ofW HT_.out HW_.out (by kernel_rfl)) (fun _ _ _ h => h) (Or.inl ⟨by rfl, ?_⟩) hHeld ?_ ?_
             rotate_left
             ·rintro w' ⟨s0, s1, s2, s3⟩
              go_simp
              with_reducible rfl
             rotate_left
             ·simp only [Act.put, List.setIfInBounds_toArray, List.set_cons_zero, List.set_cons_succ, i64_w, i32_w]
              rfl
             refine take_ (i := 2) (N := some 36) (v := ?_) (a' := ?_) #[true, true, true, false, false, false, true, false, false, false, false] rfl rfl (take_ofW HT_.out HW_.out (by kernel_rfl)) (fun _ _ _ h => h) (Or.inl ⟨by rfl, ?_⟩) hHeld ?_ ?_
             rotate_left
             ·rintro w' ⟨s0, s1, s2, s3⟩
              go_simp
              with_reducible rfl
             rotate_left
             ·simp only [Act.put, List.setIfInBounds_toArray, List.set_cons_zero, List.set_cons_succ, i64_w, i32_w]
              rfl
             refine take_ (i := 5) (N := some 39) (v := ?_) (a' := ?_) #[true, true, true, false, false, true, true, false, false, false, false] rfl rfl (take_ofW HT_.out HW_.out (by kernel_rfl)) (fun _ _ _ h => h) (Or.inl ⟨by rfl, ?_⟩) hHeld ?_ ?_
             rotate_left
             ·rintro w' ⟨s0, s1, s2, s3⟩
              go_simp
              with_reducible rfl
             rotate_left
             ·simp only [Act.put, List.setIfInBounds_toArray, List.set_cons_zero, List.set_cons_succ, i64_w, i32_w]
              rfl
             refine take_ (i := 7) (N := some 41) (v := ?_) (a' := ?_) #[true, true, true, false, false, true, true, true, false, false, false] rfl rfl (take_ofW HT_.out HW_.out (by kernel_rfl)) (fun _ _ _ h => h) (Or.inl ⟨by rfl, ?_⟩) hHeld ?_ ?_
             rotate_left
             ·rintro w' ⟨s0, s1, s2, s3⟩
              go_simp
              with_reducible rfl
             rotate_left
             ·simp only [Act.put, List.setIfInBounds_toArray, List.set_cons_zero, List.set_cons_succ, i64_w, i32_w]
              rfl
             refine one_ (i := 3) (N := some 37) #[true, true, true, true, false, true, true, true, false, false, false] rfl rfl (one_of HT_.out (by kernel_rfl)) (by decide) (fun K hK => ?_)
             refine goes_ Tryd.func17 (by kernel_rfl) rfl #[.agg #[.slice (some ad181) l0_0.length c0_0], .int .i64 ((rd_T51 l0_0 a1).f1)] (by rfl) rfl rfl zl ?_
             with_reducible refine (ih k (by omega) _ _ l0_0 ((rd_T51 l0_0 a1).f1) t186 _ ?side1 ?side2 A34.out).mono ?_
             (case side1 => exact zc (Kd.C_below HR0_0.out HB.out))
             (case side2 => exact HC0_0.out)
             rintro e w74 ⟨rfl, hb⟩
             refine ⟨_, rfl, ?_⟩
             have n0_ := Aside0.mk (blk_below (zh BK180.out) hb)
             have n1_ := Aside0.mk (blk_below (zh BK182.out) hb)
             have n2_ := Aside0.mk (below_step (zb HB.out) hb)
             clear BK180
             clear BK182
             clear HB
             have BK180 := n0_
             have BK182 := n1_
             have HB := n2_
             clear n0_ n1_ n2_
             (try clear hb)
             (try clear hb2)
             (try clear hk)
             (try clear hi)
             refine hK.out _ _ ⟨(blk_cell BK180.out 0).trans rfl, (blk_cell BK182.out 0).trans rfl, (blk_cell BK182.out 1).trans rfl, (blk_cell BK182.out 2).trans rfl⟩ (fun hHeld => ?_)
             clear hK K
             refine norm_ (a' := ?_) ?_ ?_
             rotate_left
             ·show Act.put _ (some 37) _ = _
              simp only [Act.put, List.setIfInBounds_toArray, List.set_cons_zero, List.set_cons_succ, i64_w, i32_w]
              rfl
             refine pure_ (i := 4) (N := some 38) (v := ?_) (a' := ?_) #[true, true, true, true, true, true, true, true, false, false, false] rfl rfl (any_of HT_.out (by kernel_rfl)) (fun _ _ _ h => h) (Or.inl ⟨by rfl, ?_⟩) ?_ ?_
             rotate_left
             ·intro w'
              go_simp
              with_reducible rfl
             rotate_left
             ·simp only [Act.put, List.setIfInBounds_toArray, List.set_cons_zero, List.set_cons_succ, i64_w, i32_w]
              rfl
             refine one_ (i := 8) (N := some 42) #[true, true, true, true, true, true, true, true, true, false, false] rfl rfl (one_of HT_.out (by kernel_rfl)) (by decide) (fun K hK => ?_)
             refine goes_ Tryd.func17 (by kernel_rfl) rfl #[.agg #[.slice (some ad181) l0_0.length c0_0], .int .i64 ((rd_T51 l0_0 a1).f2)] (by rfl) rfl rfl zl ?_
             with_reducible refine (ih k (by omega) _ _ l0_0 ((rd_T51 l0_0 a1).f2) t187 _ ?side1 ?side2 A36.out).mono ?_
             (case side1 => exact zc (Kd.C_below HR0_0.out HB.out))
             (case side2 => exact HC0_0.out)
             rintro e w75 ⟨rfl, hb⟩
             refine ⟨_, rfl, ?_⟩
             have n0_ := Aside0.mk (blk_below (zh BK180.out) hb)
             have n1_ := Aside0.mk (blk_below (zh BK182.out) hb)
             have n2_ := Aside0.mk (below_step (zb HB.out) hb)
             clear BK180
             clear BK182
             clear HB
             have BK180 := n0_
             have BK182 := n1_
             have HB := n2_
             clear n0_ n1_ n2_
             (try clear hb)
             (try clear hb2)
             (try clear hk)
             (try clear hi)
             refine hK.out _ _ ⟨(blk_cell BK180.out 0).trans rfl, (blk_cell BK182.out 0).trans rfl, (blk_cell BK182.out 1).trans rfl, (blk_cell BK182.out 2).trans rfl⟩ (fun hHeld => ?_)
             clear hK K
             refine norm_ (a' := ?_) ?_ ?_
             rotate_left
             ·show Act.put _ (some 42) _ = _
              simp only [Act.put, List.setIfInBounds_toArray, List.set_cons_zero, List.set_cons_succ, i64_w, i32_w]
              rfl
             refine pure_ (i := 9) (N := some 43) (v := ?_) (a' := ?_) #[true, true, true, true, true, true, true, true, true, true, false] rfl rfl (any_of HT_.out (by kernel_rfl)) (fun _ _ _ h => h) (Or.inl ⟨by rfl, ?_⟩) ?_ ?_
             rotate_left
             ·intro w'
              go_simp
              with_reducible rfl
             rotate_left
             ·simp only [Act.put, List.setIfInBounds_toArray, List.set_cons_zero, List.set_cons_succ, i64_w, i32_w]
              rfl
             refine pure_ (i := 10) (N := some 6) (v := ?_) (a' := ?_) #[true, true, true, true, true, true, true, true, true, true, true] rfl rfl (any_of HT_.out (by kernel_rfl)) (fun _ _ _ h => h) (Or.inl ⟨by rfl, ?_⟩) ?_ ?_
             rotate_left
             ·intro w'
              go_simp
              with_reducible rfl
             rotate_left
             ·simp only [Act.put, List.setIfInBounds_toArray, List.set_cons_zero, List.set_cons_succ, i64_w, i32_w]
              rfl
             refine done_ (done_of HT_.out (by kernel_rfl)) ?_
             have hcz76_0 : w75.cell? ⟨gb182, 0, none⟩ = some (.int .i64 ((rd_T51 l0_0 a1).f0)) := (blk_cell BK182.out 0).trans rfl
             have hcz76_1 : w75.cell? ⟨gb182, 1, none⟩ = some (.int .i64 ((rd_T51 l0_0 a1).f1)) := (blk_cell BK182.out 1).trans rfl
             have hcz76_2 : w75.cell? ⟨gb182, 2, none⟩ = some (.int .i64 ((rd_T51 l0_0 a1).f2)) := (blk_cell BK182.out 2).trans rfl
             have hfz76_0 := blk_frozen BK182.out 0
             have hfz76_1 := blk_frozen BK182.out 1
             have hfz76_2 := blk_frozen BK182.out 2
             try go_wp2
             go_ret
             exact ⟨ze, zb HB.out⟩
            ·rw [if_neg c66] at H
             exact absurd H (by simp)
           ·rw [if_neg c65] at H
            exact absurd H (by simp)
          ·rw [if_neg c64] at H
           have c64b0 : (((rd_T51 l0_0 a1).f0) == 4) = false := beq_eq_false_iff_ne.mpr c64
           have c64b1 : (((rd_T51 l0_0 a1).f0) != 4) = true := bne_iff_ne.mpr c64
           by_cases c77 : ((rd_T51 l0_0 a1).f0) = 6
           ·rw [if_pos c77] at H
            have c77b0 : (((rd_T51 l0_0 a1).f0) == 6) = true := beq_iff_eq.mpr c77
            have c77b1 : (((rd_T51 l0_0 a1).f0) != 6) = false := bne_eq_false_iff_eq.mpr c77
            clear c77
            by_cases c78 : 2 + ((t186 ++ (⟨#[44]⟩ : ByteArray)) ++ t187).size ≤ 9223372036854775807
            ·rw [if_pos c78] at H
             have c78b0 := eq_true c78
             have c78b1 : decide (2 + ((t186 ++ (⟨#[44]⟩ : ByteArray)) ++ t187).size ≤ 9223372036854775807) = true := decide_eq_true c78
             try have c78b2 : (9223372036854775807 < 2 + ((t186 ++ (⟨#[44]⟩ : ByteArray)) ++ t187).size) = False := eq_false (Nat.not_lt.2 c78)
             try have c78b3 : (9223372036854775807 < 2 + (t186.size + 1 + t187.size)) = False := eq_false (by have h_ := c78; simp only [ByteArray.size_append] at h_; have l0_ : (⟨#[44]⟩ : ByteArray).size = 1 := rfl; omega)
             by_cases c79 : ((⟨#[107, 40]⟩ : ByteArray) ++ ((t186 ++ (⟨#[44]⟩ : ByteArray)) ++ t187)).size + 1 ≤ 9223372036854775807
             ·rw [if_pos c79] at H
              have c79b0 := eq_true c79
              have c79b1 : decide (((⟨#[107, 40]⟩ : ByteArray) ++ ((t186 ++ (⟨#[44]⟩ : ByteArray)) ++ t187)).size + 1 ≤ 9223372036854775807) = true := decide_eq_true c79
              try have c79b2 : (9223372036854775807 < ((⟨#[107, 40]⟩ : ByteArray) ++ ((t186 ++ (⟨#[44]⟩ : ByteArray)) ++ t187)).size + 1) = False := eq_false (Nat.not_lt.2 c79)
              try have c79b3 : (9223372036854775807 < 2 + (t186.size + 1 + t187.size) + 1) = False := eq_false (by have h_ := c79; simp only [ByteArray.size_append] at h_; have l0_ : (⟨#[107, 40]⟩ : ByteArray).size = 2 := rfl; have l1_ : (⟨#[44]⟩ : ByteArray).size = 1 := rfl; omega)
              obtain rfl := Option.some.inj H
              go_enter Tryd.func17, Tryd.ntmps17
              try go_wp2_with (first | ((with_reducible refine gate_dst (N := 2) rfl ?_); refine box_event ?hg (N := 2) ?hd (cs := #[.slice A0_0 l0_0.length c0_0]) (t := 29) ?hr ?_; (case hd => rfl); (case hg => rfl); (case hr => first | (go_simp; done) | (go_simp; rfl)); intro gb180 hg w80 hbox hb; have n0_ := Aside0.mk (below_step (zb HB.out) hb); have n1_ := Aside0.mk (hbox); have n2_ := Aside0.mk ((by rw [hg]; exact (below_size (zb HB.out)) : w.heap.size ≤ gb180)); have n3_ := Aside0.mk ((by rw [hg]; exact (below_size (zb HB.out)) : w.heap.size ≤ gb180)); clear HB; have HB := n0_; have BK180 := n1_; have GW180 := n2_; have GE180 := n3_; clear n0_ n1_ n2_ n3_; clear hb hbox hg; have hcz81_0 : w80.cell? ⟨gb180, 0, none⟩ = some (.slice A0_0 l0_0.length c0_0) := (blk_cell BK180.out 0).trans rfl; have hfz81_0 := blk_frozen BK180.out 0; have p181 : 0 ≤ (a1 : Int) := of_decide_eq_true (by first | (with_reducible assumption) | assumption); have q181 : a1 < (l0_0.length : Int) := of_decide_eq_true (by first | (with_reducible assumption) | assumption); obtain ⟨ad181, e181, hx181_0, hx181_1, hx181_2⟩ := at_T51 HR0_0.out a1 p181 q181; cases e181; replace hx181_0 := (HB.out.cell (World.block_lt_of_cell? w _ hx181_0)).trans hx181_0; replace hx181_1 := (HB.out.cell (World.block_lt_of_cell? w _ hx181_1)).trans hx181_1; replace hx181_2 := (HB.out.cell (World.block_lt_of_cell? w _ hx181_2)).trans hx181_2; replace p181 := eq_true p181; replace q181 := eq_true q181) | ((with_reducible refine gate_dst (N := 5) rfl ?_); refine box_event ?hg (N := 5) ?hd (cs := #[.int .i64 0, .int .i64 0, .int .i64 0]) (t := 51) ?hr ?_; (case hd => rfl); (case hg => rfl); (case hr => first | (go_simp; done) | (go_simp; rfl)); intro gb182 hg w82 hbox hb; have n0_ := Aside0.mk (blk_below (zh BK180.out) hb); have n1_ := Aside0.mk (below_step (zb HB.out) hb); have n2_ := Aside0.mk (hbox); have n3_ := Aside0.mk ((by rw [hg]; exact (below_size (zb HB.out)) : w.heap.size ≤ gb182)); have n4_ := Aside0.mk ((by rw [hg]; exact (below_size (zb HB.out)) : w.heap.size ≤ gb182)); have n5_ := Aside0.mk ((by rw [hg]; exact Nat.ne_of_lt (blk_lt (zh BK180.out)) : gb180 ≠ gb182)); have n6_ := Aside0.mk ((by rw [hg]; exact Nat.ne_of_gt (blk_lt (zh BK180.out)) : gb182 ≠ gb180)); clear BK180; clear HB; have BK180 := n0_; have HB := n1_; have BK182 := n2_; have GW182 := n3_; have GE182 := n4_; have NB180_182 := n5_; have NB182_180 := n6_; clear n0_ n1_ n2_ n3_ n4_ n5_ n6_; clear hb hbox hg; have hnb83 := NB182_180.out; have hnc83 := NB180_182.out; have hcz84_0 : w82.cell? ⟨gb182, 0, none⟩ = some (.int .i64 0) := (blk_cell BK182.out 0).trans rfl; have hcz84_1 : w82.cell? ⟨gb182, 1, none⟩ = some (.int .i64 0) := (blk_cell BK182.out 1).trans rfl; have hcz84_2 : w82.cell? ⟨gb182, 2, none⟩ = some (.int .i64 0) := (blk_cell BK182.out 2).trans rfl; have hfz84_0 := blk_frozen BK182.out 0; have hfz84_1 := blk_frozen BK182.out 1; have hfz84_2 := blk_frozen BK182.out 2))
              have n0_ : Aside0 ((((w82.setCell ⟨gb182, 0, none⟩ (.int .i64 ((rd_T51 l0_0 a1).f0))).setCell ⟨gb182, 1, none⟩ (.int .i64 ((rd_T51 l0_0 a1).f1))).setCell ⟨gb182, 2, none⟩ (.int .i64 ((rd_T51 l0_0 a1).f2))).heap[gb180]? = some (.cells #[.slice (some ad181) l0_0.length c0_0] 29 (0, 0))) := ⟨zf BK180.out⟩
              have n1_ : Aside0 ((((w82.setCell ⟨gb182, 0, none⟩ (.int .i64 ((rd_T51 l0_0 a1).f0))).setCell ⟨gb182, 1, none⟩ (.int .i64 ((rd_T51 l0_0 a1).f1))).setCell ⟨gb182, 2, none⟩ (.int .i64 ((rd_T51 l0_0 a1).f2))).heap[gb182]? = some (.cells #[.int .i64 ((rd_T51 l0_0 a1).f0), .int .i64 ((rd_T51 l0_0 a1).f1), .int .i64 ((rd_T51 l0_0 a1).f2)] 51 (0, 0))) := ⟨by (with_reducible repeat (first | refine blk_drewN ?_ _ | refine blk_drew ?_ | refine blk_alloc ?_ _)); refine blk_put (cs := #[.int .i64 ((rd_T51 l0_0 a1).f0), .int .i64 ((rd_T51 l0_0 a1).f1), .int .i64 0]) ?_ 2 _ rfl; (with_reducible repeat (first | refine blk_drewN ?_ _ | refine blk_drew ?_ | refine blk_alloc ?_ _)); refine blk_put (cs := #[.int .i64 ((rd_T51 l0_0 a1).f0), .int .i64 0, .int .i64 0]) ?_ 1 _ rfl; (with_reducible repeat (first | refine blk_drewN ?_ _ | refine blk_drew ?_ | refine blk_alloc ?_ _)); refine blk_put (cs := #[.int .i64 0, .int .i64 0, .int .i64 0]) ?_ 0 _ rfl; (with_reducible repeat (first | refine blk_drewN ?_ _ | refine blk_drew ?_ | refine blk_alloc ?_ _)); exact BK182.out⟩
              have n2_ : Aside0 (Below w.heap.size w (((w82.setCell ⟨gb182, 0, none⟩ (.int .i64 ((rd_T51 l0_0 a1).f0))).setCell ⟨gb182, 1, none⟩ (.int .i64 ((rd_T51 l0_0 a1).f1))).setCell ⟨gb182, 2, none⟩ (.int .i64 ((rd_T51 l0_0 a1).f2)))) := ⟨zb HB.out⟩
              (try clear BK180)
              (try clear BK182)
              (try clear HB)
              generalize (((w82.setCell ⟨gb182, 0, none⟩ (.int .i64 ((rd_T51 l0_0 a1).f0))).setCell ⟨gb182, 1, none⟩ (.int .i64 ((rd_T51 l0_0 a1).f1))).setCell ⟨gb182, 2, none⟩ (.int .i64 ((rd_T51 l0_0 a1).f2))) = w85 at n0_ n1_ n2_ ⊢
              have BK180 := n0_
              have BK182 := n1_
              have HB := n2_
              clear n0_ n1_ n2_
              have n0_ := Aside0.mk (blk_drew BK180.out)
              have n1_ := Aside0.mk (blk_drew BK182.out)
              have n2_ := Aside0.mk (below_drew1 HB.out)
              clear BK180
              clear BK182
              clear HB
              have BK180 := n0_
              have BK182 := n1_
              have HB := n2_
              clear n0_ n1_ n2_
              refine start_ (n := 11) (S := fun w' => w'.cell? ⟨gb180, 0, none⟩ = some (.slice (some ad181) l0_0.length c0_0) ∧ w'.cell? ⟨gb182, 0, none⟩ = some (.int .i64 ((rd_T51 l0_0 a1).f0)) ∧ w'.cell? ⟨gb182, 1, none⟩ = some (.int .i64 ((rd_T51 l0_0 a1).f1)) ∧ w'.cell? ⟨gb182, 2, none⟩ = some (.int .i64 ((rd_T51 l0_0 a1).f2))) (ds := []) #[false, false, false, false, false, false, false, false, false, false, false] (by kernel_rfl) rfl rfl ⟨(blk_cell BK180.out 0).trans rfl, (blk_cell BK182.out 0).trans rfl, (blk_cell BK182.out 1).trans rfl, (blk_cell BK182.out 2).trans rfl⟩ (fun hHeld => ?_); refine with_tabW spec_l4Print.tab9 spec_l4Print.bits9 (fun HT_ HW_ => ?_)
              generalize w85.drew = w86 at BK180 BK182 HB hHeld ⊢
              refine pure_ (i := 1) (N := some 35) (v := ?_) (a' := ?_) #[false, true, false, false, false, false, false, false, false, false, false] rfl rfl (any_of HT_.out (by kernel_rfl)) (fun _ _ _ h => h) (Or.inl ⟨by rfl, ?_⟩) ?_ ?_
              rotate_left
              ·intro w'
               go_simp
               with_reducible rfl
              rotate_left
              ·simp only [Act.put, List.setIfInBounds_toArray, List.set_cons_zero, List.set_cons_succ, i64_w, i32_w]
               rfl
              refine pure_ (i := 6) (N := some 40) (v := ?_) (a' := ?_) #[false, true, false, false, false, false, true, false, false, false, false] rfl rfl (any_of HT_.out (by kernel_rfl)) (fun _ _ _ h => h) (Or.inl ⟨by rfl, ?_⟩) ?_ ?_
              rotate_left
              ·intro w'
               go_simp
               with_reducible rfl
              rotate_left
              ·simp only [Act.put, List.setIfInBounds_toArray, List.set_cons_zero, List.set_cons_succ, i64_w, i32_w]
               rfl
              refine take_ (i := 0) (N := some 34) (v := ?_) (a' := ?_) #[true, true, false, false, false, false, true, false, false, false, false] rfl rfl (take_ofW HT_.out HW_.out (by kernel_rfl)) (fun _ _ _ h => h) (Or.inl ⟨by rfl, ?_⟩) hHeld ?_ ?_
              rotate_left
              ·rintro w' ⟨s0, s1, s2, s3⟩
               go_simp
               with_reducible rfl
              rotate_left
              ·simp only [Act.put, List.setIfInBounds_toArray, List.set_cons_zero, List.set_cons_succ, i64_w, i32_w]
               rfl
              refine take_ (i := 2) (N := some 36) (v := ?_) (a' := ?_) #[true, true, true, false, false, false, true, false, false, false, false] rfl rfl (take_ofW HT_.out HW_.out (by kernel_rfl)) (fun _ _ _ h => h) (Or.inl ⟨by rfl, ?_⟩) hHeld ?_ ?_
              rotate_left
              ·rintro w' ⟨s0, s1, s2, s3⟩
               go_simp
               with_reducible rfl
              rotate_left
              ·simp only [Act.put, List.setIfInBounds_toArray, List.set_cons_zero, List.set_cons_succ, i64_w, i32_w]
               rfl
              refine take_ (i := 5) (N := some 39) (v := ?_) (a' := ?_) #[true, true, true, false, false, true, true, false, false, false, false] rfl rfl (take_ofW HT_.out HW_.out (by kernel_rfl)) (fun _ _ _ h => h) (Or.inl ⟨by rfl, ?_⟩) hHeld ?_ ?_
              rotate_left
              ·rintro w' ⟨s0, s1, s2, s3⟩
               go_simp
               with_reducible rfl
              rotate_left
              ·simp only [Act.put, List.setIfInBounds_toArray, List.set_cons_zero, List.set_cons_succ, i64_w, i32_w]
               rfl
              refine take_ (i := 7) (N := some 41) (v := ?_) (a' := ?_) #[true, true, true, false, false, true, true, true, false, false, false] rfl rfl (take_ofW HT_.out HW_.out (by kernel_rfl)) (fun _ _ _ h => h) (Or.inl ⟨by rfl, ?_⟩) hHeld ?_ ?_
              rotate_left
              ·rintro w' ⟨s0, s1, s2, s3⟩
               go_simp
               with_reducible rfl
              rotate_left
              ·simp only [Act.put, List.setIfInBounds_toArray, List.set_cons_zero, List.set_cons_succ, i64_w, i32_w]
               rfl
              refine one_ (i := 3) (N := some 37) #[true, true, true, true, false, true, true, true, false, false, false] rfl rfl (one_of HT_.out (by kernel_rfl)) (by decide) (fun K hK => ?_)
              refine goes_ Tryd.func17 (by kernel_rfl) rfl #[.agg #[.slice (some ad181) l0_0.length c0_0], .int .i64 ((rd_T51 l0_0 a1).f1)] (by rfl) rfl rfl zl ?_
              with_reducible refine (ih k (by omega) _ _ l0_0 ((rd_T51 l0_0 a1).f1) t186 _ ?side1 ?side2 A34.out).mono ?_
              (case side1 => exact zc (Kd.C_below HR0_0.out HB.out))
              (case side2 => exact HC0_0.out)
              rintro e w87 ⟨rfl, hb⟩
              refine ⟨_, rfl, ?_⟩
              have n0_ := Aside0.mk (blk_below (zh BK180.out) hb)
              have n1_ := Aside0.mk (blk_below (zh BK182.out) hb)
              have n2_ := Aside0.mk (below_step (zb HB.out) hb)
              clear BK180
              clear BK182
              clear HB
              have BK180 := n0_
              have BK182 := n1_
              have HB := n2_
              clear n0_ n1_ n2_
              (try clear hb)
              (try clear hb2)
              (try clear hk)
              (try clear hi)
              refine hK.out _ _ ⟨(blk_cell BK180.out 0).trans rfl, (blk_cell BK182.out 0).trans rfl, (blk_cell BK182.out 1).trans rfl, (blk_cell BK182.out 2).trans rfl⟩ (fun hHeld => ?_)
              clear hK K
              refine norm_ (a' := ?_) ?_ ?_
              rotate_left
              ·show Act.put _ (some 37) _ = _
               simp only [Act.put, List.setIfInBounds_toArray, List.set_cons_zero, List.set_cons_succ, i64_w, i32_w]
               rfl
              refine pure_ (i := 4) (N := some 38) (v := ?_) (a' := ?_) #[true, true, true, true, true, true, true, true, false, false, false] rfl rfl (any_of HT_.out (by kernel_rfl)) (fun _ _ _ h => h) (Or.inl ⟨by rfl, ?_⟩) ?_ ?_
              rotate_left
              ·intro w'
               go_simp
               with_reducible rfl
              rotate_left
              ·simp only [Act.put, List.setIfInBounds_toArray, List.set_cons_zero, List.set_cons_succ, i64_w, i32_w]
               rfl
              refine one_ (i := 8) (N := some 42) #[true, true, true, true, true, true, true, true, true, false, false] rfl rfl (one_of HT_.out (by kernel_rfl)) (by decide) (fun K hK => ?_)
              refine goes_ Tryd.func17 (by kernel_rfl) rfl #[.agg #[.slice (some ad181) l0_0.length c0_0], .int .i64 ((rd_T51 l0_0 a1).f2)] (by rfl) rfl rfl zl ?_
              with_reducible refine (ih k (by omega) _ _ l0_0 ((rd_T51 l0_0 a1).f2) t187 _ ?side1 ?side2 A36.out).mono ?_
              (case side1 => exact zc (Kd.C_below HR0_0.out HB.out))
              (case side2 => exact HC0_0.out)
              rintro e w88 ⟨rfl, hb⟩
              refine ⟨_, rfl, ?_⟩
              have n0_ := Aside0.mk (blk_below (zh BK180.out) hb)
              have n1_ := Aside0.mk (blk_below (zh BK182.out) hb)
              have n2_ := Aside0.mk (below_step (zb HB.out) hb)
              clear BK180
              clear BK182
              clear HB
              have BK180 := n0_
              have BK182 := n1_
              have HB := n2_
              clear n0_ n1_ n2_
              (try clear hb)
              (try clear hb2)
              (try clear hk)
              (try clear hi)
              refine hK.out _ _ ⟨(blk_cell BK180.out 0).trans rfl, (blk_cell BK182.out 0).trans rfl, (blk_cell BK182.out 1).trans rfl, (blk_cell BK182.out 2).trans rfl⟩ (fun hHeld => ?_)
              clear hK K
              refine norm_ (a' := ?_) ?_ ?_
              rotate_left
              ·show Act.put _ (some 42) _ = _
               simp only [Act.put, List.setIfInBounds_toArray, List.set_cons_zero, List.set_cons_succ, i64_w, i32_w]
               rfl
              refine pure_ (i := 9) (N := some 43) (v := ?_) (a' := ?_) #[true, true, true, true, true, true, true, true, true, true, false] rfl rfl (any_of HT_.out (by kernel_rfl)) (fun _ _ _ h => h) (Or.inl ⟨by rfl, ?_⟩) ?_ ?_
              rotate_left
              ·intro w'
               go_simp
               with_reducible rfl
              rotate_left
              ·simp only [Act.put, List.setIfInBounds_toArray, List.set_cons_zero, List.set_cons_succ, i64_w, i32_w]
               rfl
              refine pure_ (i := 10) (N := some 6) (v := ?_) (a' := ?_) #[true, true, true, true, true, true, true, true, true, true, true] rfl rfl (any_of HT_.out (by kernel_rfl)) (fun _ _ _ h => h) (Or.inl ⟨by rfl, ?_⟩) ?_ ?_
              rotate_left
              ·intro w'
               go_simp
               with_reducible rfl
              rotate_left
              ·simp only [Act.put, List.setIfInBounds_toArray, List.set_cons_zero, List.set_cons_succ, i64_w, i32_w]
               rfl
              refine done_ (done_of HT_.out (by kernel_rfl)) ?_
              have hcz89_0 : w88.cell? ⟨gb182, 0, none⟩ = some (.int .i64 ((rd_T51 l0_0 a1).f0)) := (blk_cell BK182.out 0).trans rfl
              have hcz89_1 : w88.cell? ⟨gb182, 1, none⟩ = some (.int .i64 ((rd_T51 l0_0 a1).f1)) := (blk_cell BK182.out 1).trans rfl
              have hcz89_2 : w88.cell? ⟨gb182, 2, none⟩ = some (.int .i64 ((rd_T51 l0_0 a1).f2)) := (blk_cell BK182.out 2).trans rfl
              have hfz89_0 := blk_frozen BK182.out 0
              have hfz89_1 := blk_frozen BK182.out 1
              have hfz89_2 := blk_frozen BK182.out 2
              try go_wp2
              go_ret
              exact ⟨ze, zb HB.out⟩
             ·rw [if_neg c79] at H
              exact absurd H (by simp)
            ·rw [if_neg c78] at H
             exact absurd H (by simp)
           ·rw [if_neg c77] at H
            have c77b0 : (((rd_T51 l0_0 a1).f0) == 6) = false := beq_eq_false_iff_ne.mpr c77
            have c77b1 : (((rd_T51 l0_0 a1).f0) != 6) = true := bne_iff_ne.mpr c77
            by_cases c90 : 2 + ((t186 ++ (⟨#[44]⟩ : ByteArray)) ++ t187).size ≤ 9223372036854775807
            ·rw [if_pos c90] at H
             have c90b0 := eq_true c90
             have c90b1 : decide (2 + ((t186 ++ (⟨#[44]⟩ : ByteArray)) ++ t187).size ≤ 9223372036854775807) = true := decide_eq_true c90
             try have c90b2 : (9223372036854775807 < 2 + ((t186 ++ (⟨#[44]⟩ : ByteArray)) ++ t187).size) = False := eq_false (Nat.not_lt.2 c90)
             try have c90b3 : (9223372036854775807 < 2 + (t186.size + 1 + t187.size)) = False := eq_false (by have h_ := c90; simp only [ByteArray.size_append] at h_; have l0_ : (⟨#[44]⟩ : ByteArray).size = 1 := rfl; omega)
             by_cases c91 : ((⟨#[42, 40]⟩ : ByteArray) ++ ((t186 ++ (⟨#[44]⟩ : ByteArray)) ++ t187)).size + 1 ≤ 9223372036854775807
             ·rw [if_pos c91] at H
              have c91b0 := eq_true c91
              have c91b1 : decide (((⟨#[42, 40]⟩ : ByteArray) ++ ((t186 ++ (⟨#[44]⟩ : ByteArray)) ++ t187)).size + 1 ≤ 9223372036854775807) = true := decide_eq_true c91
              try have c91b2 : (9223372036854775807 < ((⟨#[42, 40]⟩ : ByteArray) ++ ((t186 ++ (⟨#[44]⟩ : ByteArray)) ++ t187)).size + 1) = False := eq_false (Nat.not_lt.2 c91)
              try have c91b3 : (9223372036854775807 < 2 + (t186.size + 1 + t187.size) + 1) = False := eq_false (by have h_ := c91; simp only [ByteArray.size_append] at h_; have l0_ : (⟨#[42, 40]⟩ : ByteArray).size = 2 := rfl; have l1_ : (⟨#[44]⟩ : ByteArray).size = 1 := rfl; omega)
              obtain rfl := Option.some.inj H
              go_enter Tryd.func17, Tryd.ntmps17
              try go_wp2_with (first | ((with_reducible refine gate_dst (N := 2) rfl ?_); refine box_event ?hg (N := 2) ?hd (cs := #[.slice A0_0 l0_0.length c0_0]) (t := 29) ?hr ?_; (case hd => rfl); (case hg => rfl); (case hr => first | (go_simp; done) | (go_simp; rfl)); intro gb180 hg w92 hbox hb; have n0_ := Aside0.mk (below_step (zb HB.out) hb); have n1_ := Aside0.mk (hbox); have n2_ := Aside0.mk ((by rw [hg]; exact (below_size (zb HB.out)) : w.heap.size ≤ gb180)); have n3_ := Aside0.mk ((by rw [hg]; exact (below_size (zb HB.out)) : w.heap.size ≤ gb180)); clear HB; have HB := n0_; have BK180 := n1_; have GW180 := n2_; have GE180 := n3_; clear n0_ n1_ n2_ n3_; clear hb hbox hg; have hcz93_0 : w92.cell? ⟨gb180, 0, none⟩ = some (.slice A0_0 l0_0.length c0_0) := (blk_cell BK180.out 0).trans rfl; have hfz93_0 := blk_frozen BK180.out 0; have p181 : 0 ≤ (a1 : Int) := of_decide_eq_true (by first | (with_reducible assumption) | assumption); have q181 : a1 < (l0_0.length : Int) := of_decide_eq_true (by first | (with_reducible assumption) | assumption); obtain ⟨ad181, e181, hx181_0, hx181_1, hx181_2⟩ := at_T51 HR0_0.out a1 p181 q181; cases e181; replace hx181_0 := (HB.out.cell (World.block_lt_of_cell? w _ hx181_0)).trans hx181_0; replace hx181_1 := (HB.out.cell (World.block_lt_of_cell? w _ hx181_1)).trans hx181_1; replace hx181_2 := (HB.out.cell (World.block_lt_of_cell? w _ hx181_2)).trans hx181_2; replace p181 := eq_true p181; replace q181 := eq_true q181) | ((with_reducible refine gate_dst (N := 5) rfl ?_); refine box_event ?hg (N := 5) ?hd (cs := #[.int .i64 0, .int .i64 0, .int .i64 0]) (t := 51) ?hr ?_; (case hd => rfl); (case hg => rfl); (case hr => first | (go_simp; done) | (go_simp; rfl)); intro gb182 hg w94 hbox hb; have n0_ := Aside0.mk (blk_below (zh BK180.out) hb); have n1_ := Aside0.mk (below_step (zb HB.out) hb); have n2_ := Aside0.mk (hbox); have n3_ := Aside0.mk ((by rw [hg]; exact (below_size (zb HB.out)) : w.heap.size ≤ gb182)); have n4_ := Aside0.mk ((by rw [hg]; exact (below_size (zb HB.out)) : w.heap.size ≤ gb182)); have n5_ := Aside0.mk ((by rw [hg]; exact Nat.ne_of_lt (blk_lt (zh BK180.out)) : gb180 ≠ gb182)); have n6_ := Aside0.mk ((by rw [hg]; exact Nat.ne_of_gt (blk_lt (zh BK180.out)) : gb182 ≠ gb180)); clear BK180; clear HB; have BK180 := n0_; have HB := n1_; have BK182 := n2_; have GW182 := n3_; have GE182 := n4_; have NB180_182 := n5_; have NB182_180 := n6_; clear n0_ n1_ n2_ n3_ n4_ n5_ n6_; clear hb hbox hg; have hnb95 := NB182_180.out; have hnc95 := NB180_182.out; have hcz96_0 : w94.cell? ⟨gb182, 0, none⟩ = some (.int .i64 0) := (blk_cell BK182.out 0).trans rfl; have hcz96_1 : w94.cell? ⟨gb182, 1, none⟩ = some (.int .i64 0) := (blk_cell BK182.out 1).trans rfl; have hcz96_2 : w94.cell? ⟨gb182, 2, none⟩ = some (.int .i64 0) := (blk_cell BK182.out 2).trans rfl; have hfz96_0 := blk_frozen BK182.out 0; have hfz96_1 := blk_frozen BK182.out 1; have hfz96_2 := blk_frozen BK182.out 2))
              have n0_ : Aside0 ((((w94.setCell ⟨gb182, 0, none⟩ (.int .i64 ((rd_T51 l0_0 a1).f0))).setCell ⟨gb182, 1, none⟩ (.int .i64 ((rd_T51 l0_0 a1).f1))).setCell ⟨gb182, 2, none⟩ (.int .i64 ((rd_T51 l0_0 a1).f2))).heap[gb180]? = some (.cells #[.slice (some ad181) l0_0.length c0_0] 29 (0, 0))) := ⟨zf BK180.out⟩
              have n1_ : Aside0 ((((w94.setCell ⟨gb182, 0, none⟩ (.int .i64 ((rd_T51 l0_0 a1).f0))).setCell ⟨gb182, 1, none⟩ (.int .i64 ((rd_T51 l0_0 a1).f1))).setCell ⟨gb182, 2, none⟩ (.int .i64 ((rd_T51 l0_0 a1).f2))).heap[gb182]? = some (.cells #[.int .i64 ((rd_T51 l0_0 a1).f0), .int .i64 ((rd_T51 l0_0 a1).f1), .int .i64 ((rd_T51 l0_0 a1).f2)] 51 (0, 0))) := ⟨by (with_reducible repeat (first | refine blk_drewN ?_ _ | refine blk_drew ?_ | refine blk_alloc ?_ _)); refine blk_put (cs := #[.int .i64 ((rd_T51 l0_0 a1).f0), .int .i64 ((rd_T51 l0_0 a1).f1), .int .i64 0]) ?_ 2 _ rfl; (with_reducible repeat (first | refine blk_drewN ?_ _ | refine blk_drew ?_ | refine blk_alloc ?_ _)); refine blk_put (cs := #[.int .i64 ((rd_T51 l0_0 a1).f0), .int .i64 0, .int .i64 0]) ?_ 1 _ rfl; (with_reducible repeat (first | refine blk_drewN ?_ _ | refine blk_drew ?_ | refine blk_alloc ?_ _)); refine blk_put (cs := #[.int .i64 0, .int .i64 0, .int .i64 0]) ?_ 0 _ rfl; (with_reducible repeat (first | refine blk_drewN ?_ _ | refine blk_drew ?_ | refine blk_alloc ?_ _)); exact BK182.out⟩
              have n2_ : Aside0 (Below w.heap.size w (((w94.setCell ⟨gb182, 0, none⟩ (.int .i64 ((rd_T51 l0_0 a1).f0))).setCell ⟨gb182, 1, none⟩ (.int .i64 ((rd_T51 l0_0 a1).f1))).setCell ⟨gb182, 2, none⟩ (.int .i64 ((rd_T51 l0_0 a1).f2)))) := ⟨zb HB.out⟩
              (try clear BK180)
              (try clear BK182)
              (try clear HB)
              generalize (((w94.setCell ⟨gb182, 0, none⟩ (.int .i64 ((rd_T51 l0_0 a1).f0))).setCell ⟨gb182, 1, none⟩ (.int .i64 ((rd_T51 l0_0 a1).f1))).setCell ⟨gb182, 2, none⟩ (.int .i64 ((rd_T51 l0_0 a1).f2))) = w97 at n0_ n1_ n2_ ⊢
              have BK180 := n0_
              have BK182 := n1_
              have HB := n2_
              clear n0_ n1_ n2_
              have n0_ := Aside0.mk (blk_drew BK180.out)
              have n1_ := Aside0.mk (blk_drew BK182.out)
              have n2_ := Aside0.mk (below_drew1 HB.out)
              clear BK180
              clear BK182
              clear HB
              have BK180 := n0_
              have BK182 := n1_
              have HB := n2_
              clear n0_ n1_ n2_
              refine start_ (n := 11) (S := fun w' => w'.cell? ⟨gb180, 0, none⟩ = some (.slice (some ad181) l0_0.length c0_0) ∧ w'.cell? ⟨gb182, 0, none⟩ = some (.int .i64 ((rd_T51 l0_0 a1).f0)) ∧ w'.cell? ⟨gb182, 1, none⟩ = some (.int .i64 ((rd_T51 l0_0 a1).f1)) ∧ w'.cell? ⟨gb182, 2, none⟩ = some (.int .i64 ((rd_T51 l0_0 a1).f2))) (ds := []) #[false, false, false, false, false, false, false, false, false, false, false] (by kernel_rfl) rfl rfl ⟨(blk_cell BK180.out 0).trans rfl, (blk_cell BK182.out 0).trans rfl, (blk_cell BK182.out 1).trans rfl, (blk_cell BK182.out 2).trans rfl⟩ (fun hHeld => ?_); refine with_tabW spec_l4Print.tab9 spec_l4Print.bits9 (fun HT_ HW_ => ?_)
              generalize w97.drew = w98 at BK180 BK182 HB hHeld ⊢
              refine pure_ (i := 1) (N := some 35) (v := ?_) (a' := ?_) #[false, true, false, false, false, false, false, false, false, false, false] rfl rfl (any_of HT_.out (by kernel_rfl)) (fun _ _ _ h => h) (Or.inl ⟨by rfl, ?_⟩) ?_ ?_
              rotate_left
              ·intro w'
               go_simp
               with_reducible rfl
              rotate_left
              ·simp only [Act.put, List.setIfInBounds_toArray, List.set_cons_zero, List.set_cons_succ, i64_w, i32_w]
               rfl
              refine pure_ (i := 6) (N := some 40) (v := ?_) (a' := ?_) #[false, true, false, false, false, false, true, false, false, false, false] rfl rfl (any_of HT_.out (by kernel_rfl)) (fun _ _ _ h => h) (Or.inl ⟨by rfl, ?_⟩) ?_ ?_
              rotate_left
              ·intro w'
               go_simp
               with_reducible rfl
              rotate_left
              ·simp only [Act.put, List.setIfInBounds_toArray, List.set_cons_zero, List.set_cons_succ, i64_w, i32_w]
               rfl
              refine take_ (i := 0) (N := some 34) (v := ?_) (a' := ?_) #[true, true, false, false, false, false, true, false, false, false, false] rfl rfl (take_ofW HT_.out HW_.out (by kernel_rfl)) (fun _ _ _ h => h) (Or.inl ⟨by rfl, ?_⟩) hHeld ?_ ?_
              rotate_left
              ·rintro w' ⟨s0, s1, s2, s3⟩
               go_simp
               with_reducible rfl
              rotate_left
              ·simp only [Act.put, List.setIfInBounds_toArray, List.set_cons_zero, List.set_cons_succ, i64_w, i32_w]
               rfl
              refine take_ (i := 2) (N := some 36) (v := ?_) (a' := ?_) #[true, true, true, false, false, false, true, false, false, false, false] rfl rfl (take_ofW HT_.out HW_.out (by kernel_rfl)) (fun _ _ _ h => h) (Or.inl ⟨by rfl, ?_⟩) hHeld ?_ ?_
              rotate_left
              ·rintro w' ⟨s0, s1, s2, s3⟩
               go_simp
               with_reducible rfl
              rotate_left
              ·simp only [Act.put, List.setIfInBounds_toArray, List.set_cons_zero, List.set_cons_succ, i64_w, i32_w]
               rfl
              refine take_ (i := 5) (N := some 39) (v := ?_) (a' := ?_) #[true, true, true, false, false, true, true, false, false, false, false] rfl rfl (take_ofW HT_.out HW_.out (by kernel_rfl)) (fun _ _ _ h => h) (Or.inl ⟨by rfl, ?_⟩) hHeld ?_ ?_
              rotate_left
              ·rintro w' ⟨s0, s1, s2, s3⟩
               go_simp
               with_reducible rfl
              rotate_left
              ·simp only [Act.put, List.setIfInBounds_toArray, List.set_cons_zero, List.set_cons_succ, i64_w, i32_w]
               rfl
              refine take_ (i := 7) (N := some 41) (v := ?_) (a' := ?_) #[true, true, true, false, false, true, true, true, false, false, false] rfl rfl (take_ofW HT_.out HW_.out (by kernel_rfl)) (fun _ _ _ h => h) (Or.inl ⟨by rfl, ?_⟩) hHeld ?_ ?_
              rotate_left
              ·rintro w' ⟨s0, s1, s2, s3⟩
               go_simp
               with_reducible rfl
              rotate_left
              ·simp only [Act.put, List.setIfInBounds_toArray, List.set_cons_zero, List.set_cons_succ, i64_w, i32_w]
               rfl
              refine one_ (i := 3) (N := some 37) #[true, true, true, true, false, true, true, true, false, false, false] rfl rfl (one_of HT_.out (by kernel_rfl)) (by decide) (fun K hK => ?_)
              refine goes_ Tryd.func17 (by kernel_rfl) rfl #[.agg #[.slice (some ad181) l0_0.length c0_0], .int .i64 ((rd_T51 l0_0 a1).f1)] (by rfl) rfl rfl zl ?_
              with_reducible refine (ih k (by omega) _ _ l0_0 ((rd_T51 l0_0 a1).f1) t186 _ ?side1 ?side2 A34.out).mono ?_
              (case side1 => exact zc (Kd.C_below HR0_0.out HB.out))
              (case side2 => exact HC0_0.out)
              rintro e w99 ⟨rfl, hb⟩
              refine ⟨_, rfl, ?_⟩
              have n0_ := Aside0.mk (blk_below (zh BK180.out) hb)
              have n1_ := Aside0.mk (blk_below (zh BK182.out) hb)
              have n2_ := Aside0.mk (below_step (zb HB.out) hb)
              clear BK180
              clear BK182
              clear HB
              have BK180 := n0_
              have BK182 := n1_
              have HB := n2_
              clear n0_ n1_ n2_
              (try clear hb)
              (try clear hb2)
              (try clear hk)
              (try clear hi)
              refine hK.out _ _ ⟨(blk_cell BK180.out 0).trans rfl, (blk_cell BK182.out 0).trans rfl, (blk_cell BK182.out 1).trans rfl, (blk_cell BK182.out 2).trans rfl⟩ (fun hHeld => ?_)
              clear hK K
              refine norm_ (a' := ?_) ?_ ?_
              rotate_left
              ·show Act.put _ (some 37) _ = _
               simp only [Act.put, List.setIfInBounds_toArray, List.set_cons_zero, List.set_cons_succ, i64_w, i32_w]
               rfl
              refine pure_ (i := 4) (N := some 38) (v := ?_) (a' := ?_) #[true, true, true, true, true, true, true, true, false, false, false] rfl rfl (any_of HT_.out (by kernel_rfl)) (fun _ _ _ h => h) (Or.inl ⟨by rfl, ?_⟩) ?_ ?_
              rotate_left
              ·intro w'
               go_simp
               with_reducible rfl
              rotate_left
              ·simp only [Act.put, List.setIfInBounds_toArray, List.set_cons_zero, List.set_cons_succ, i64_w, i32_w]
               rfl
              refine one_ (i := 8) (N := some 42) #[true, true, true, true, true, true, true, true, true, false, false] rfl rfl (one_of HT_.out (by kernel_rfl)) (by decide) (fun K hK => ?_)
              refine goes_ Tryd.func17 (by kernel_rfl) rfl #[.agg #[.slice (some ad181) l0_0.length c0_0], .int .i64 ((rd_T51 l0_0 a1).f2)] (by rfl) rfl rfl zl ?_
              with_reducible refine (ih k (by omega) _ _ l0_0 ((rd_T51 l0_0 a1).f2) t187 _ ?side1 ?side2 A36.out).mono ?_
              (case side1 => exact zc (Kd.C_below HR0_0.out HB.out))
              (case side2 => exact HC0_0.out)
              rintro e w100 ⟨rfl, hb⟩
              refine ⟨_, rfl, ?_⟩
              have n0_ := Aside0.mk (blk_below (zh BK180.out) hb)
              have n1_ := Aside0.mk (blk_below (zh BK182.out) hb)
              have n2_ := Aside0.mk (below_step (zb HB.out) hb)
              clear BK180
              clear BK182
              clear HB
              have BK180 := n0_
              have BK182 := n1_
              have HB := n2_
              clear n0_ n1_ n2_
              (try clear hb)
              (try clear hb2)
              (try clear hk)
              (try clear hi)
              refine hK.out _ _ ⟨(blk_cell BK180.out 0).trans rfl, (blk_cell BK182.out 0).trans rfl, (blk_cell BK182.out 1).trans rfl, (blk_cell BK182.out 2).trans rfl⟩ (fun hHeld => ?_)
              clear hK K
              refine norm_ (a' := ?_) ?_ ?_
              rotate_left
              ·show Act.put _ (some 42) _ = _
               simp only [Act.put, List.setIfInBounds_toArray, List.set_cons_zero, List.set_cons_succ, i64_w, i32_w]
               rfl
              refine pure_ (i := 9) (N := some 43) (v := ?_) (a' := ?_) #[true, true, true, true, true, true, true, true, true, true, false] rfl rfl (any_of HT_.out (by kernel_rfl)) (fun _ _ _ h => h) (Or.inl ⟨by rfl, ?_⟩) ?_ ?_
              rotate_left
              ·intro w'
               go_simp
               with_reducible rfl
              rotate_left
              ·simp only [Act.put, List.setIfInBounds_toArray, List.set_cons_zero, List.set_cons_succ, i64_w, i32_w]
               rfl
              refine pure_ (i := 10) (N := some 6) (v := ?_) (a' := ?_) #[true, true, true, true, true, true, true, true, true, true, true] rfl rfl (any_of HT_.out (by kernel_rfl)) (fun _ _ _ h => h) (Or.inl ⟨by rfl, ?_⟩) ?_ ?_
              rotate_left
              ·intro w'
               go_simp
               with_reducible rfl
              rotate_left
              ·simp only [Act.put, List.setIfInBounds_toArray, List.set_cons_zero, List.set_cons_succ, i64_w, i32_w]
               rfl
              refine done_ (done_of HT_.out (by kernel_rfl)) ?_
              have hcz101_0 : w100.cell? ⟨gb182, 0, none⟩ = some (.int .i64 ((rd_T51 l0_0 a1).f0)) := (blk_cell BK182.out 0).trans rfl
              have hcz101_1 : w100.cell? ⟨gb182, 1, none⟩ = some (.int .i64 ((rd_T51 l0_0 a1).f1)) := (blk_cell BK182.out 1).trans rfl
              have hcz101_2 : w100.cell? ⟨gb182, 2, none⟩ = some (.int .i64 ((rd_T51 l0_0 a1).f2)) := (blk_cell BK182.out 2).trans rfl
              have hfz101_0 := blk_frozen BK182.out 0
              have hfz101_1 := blk_frozen BK182.out 1
              have hfz101_2 := blk_frozen BK182.out 2
              try go_wp2
              go_ret
              exact ⟨ze, zb HB.out⟩
             ·rw [if_neg c91] at H
              exact absurd H (by simp)
            ·rw [if_neg c90] at H
             exact absurd H (by simp)
       ·rw [if_neg c37] at H
        exact absurd H (by simp)
      ·rw [if_neg c35] at H
       exact absurd H (by simp)
  ·rw [if_neg c4] at H
   exact absurd H (by simp)
 ·rw [if_neg c3] at H
  exact absurd H (by simp)

end Go.Proofs.YtjcemohmlpgfnaaDoor.K
end

section
namespace Go.Proofs.YtjcemohmlpgfnaaDoor.K
open Go.RowKit Go.Proofs.YtjcemohmlpgfnaaDoorW.PrintWords Go.Proofs.YtjcemohmlpgfnaaDoorW.PrintLast Go.Proofs.YtjcemohmlpgfnaaDoorW.PrintMore
attribute [local go_sem] max2_int min2_int max_two min_two max_three min_three max_four min_four   -- for this text's walks alone
set_option linter.unusedVariables false
set_option linter.unusedSimpArgs false
set_option maxRecDepth 100000

/-! ### spec_TermPrint: function 6 -/
def spec_TermPrint.f (k : Nat) (l0_0 : List (S51)) (a1 : Int) : Option (ByteArray) := (spec_TermSize.f k l0_0 a1).bind fun t189 => ((spec_l1In.f t189 1 1000).bind fun t190 => (if t190 = true then ((spec_l4Print.f k l0_0 a1).bind fun t191 => (some t191)) else (some (⟨#[]⟩ : ByteArray))))
set_option maxHeartbeats 8000000 in
set_option maxRecDepth 100000 in
theorem spec_TermPrint.calls (k : Nat) (A0_0 : Option Addr) (c0_0 : Nat) (l0_0 : List (S51)) (a1 : Int) (r : ByteArray) (w : World) (hr0_0 : Kd.C k51 w A0_0 l0_0.length l0_0) (hc0_0 : l0_0.length ≤ c0_0) (h : spec_TermPrint.f k l0_0 a1 = some r) :
  Calls Tryd.prog 6 #[.agg #[.slice A0_0 l0_0.length c0_0], .int .i64 a1] w fun e w' => e = .returned (.string r) ∧ Below w.heap.size w w' := by
 have hu29 := Tryd.underlying29
 have HR0_0 := Aside0.mk hr0_0
 have HC0_0 := Aside0.mk hc0_0
 clear hr0_0 hc0_0
 have HB := Aside0.mk (Below.refl w.heap.size w)
 have H : ((spec_TermSize.f k l0_0 a1).bind fun t189 => ((spec_l1In.f t189 1 1000).bind fun t190 => (if t190 = true then ((spec_l4Print.f k l0_0 a1).bind fun t191 => (some t191)) else (some (⟨#[]⟩ : ByteArray))))) = some r := h
 clear h
 replace H := Option.bind_eq_some_iff.mp H
 obtain ⟨t189, A30, H⟩ := H
 replace H : ((spec_l1In.f t189 1 1000).bind fun t190 => (if t190 = true then ((spec_l4Print.f k l0_0 a1).bind fun t191 => (some t191)) else (some (⟨#[]⟩ : ByteArray)))) = some r := H
 have A3 := Aside0.mk A30
 clear A30
 replace H := Option.bind_eq_some_iff.mp H
 obtain ⟨t190, A40, H⟩ := H
 replace H : (if t190 = true then ((spec_l4Print.f k l0_0 a1).bind fun t191 => (some t191)) else (some (⟨#[]⟩ : ByteArray))) = some r := H
 have A4 := Aside0.mk A40
 clear A40
 by_cases c5 : t190 = true
 ·subst c5
  have H1 : ((spec_l4Print.f k l0_0 a1).bind fun t191 => (some t191)) = some r := by rw [if_pos rfl] at H; exact H
  clear H
  have H := H1
  clear H1
  replace H := Option.bind_eq_some_iff.mp H
  obtain ⟨t191, A60, H⟩ := H
  replace H : (some t191) = some r := H
  have A6 := Aside0.mk A60
  clear A60
  obtain rfl := Option.some.inj H
  go_enter Tryd.func6, Tryd.ntmps6
  go_wp2_with (first | ((with_reducible refine gate_dst (N := 2) rfl ?_); refine box_event ?hg (N := 2) ?hd (cs := #[.slice A0_0 l0_0.length c0_0]) (t := 29) ?hr ?_; (case hd => rfl); (case hg => rfl); (case hr => first | (go_simp; done) | (go_simp; rfl)); intro gb188 hg w7 hbox hb; have n0_ := Aside0.mk (below_step (zb HB.out) hb); have n1_ := Aside0.mk (hbox); have n2_ := Aside0.mk ((by rw [hg]; exact (below_size (zb HB.out)) : w.heap.size ≤ gb188)); have n3_ := Aside0.mk ((by rw [hg]; exact (below_size (zb HB.out)) : w.heap.size ≤ gb188)); clear HB; have HB := n0_; have BK188 := n1_; have GW188 := n2_; have GE188 := n3_; clear n0_ n1_ n2_ n3_; clear hb hbox hg; have hcz8_0 : w7.cell? ⟨gb188, 0, none⟩ = some (.slice A0_0 l0_0.length c0_0) := (blk_cell BK188.out 0).trans rfl; have hfz8_0 := blk_frozen BK188.out 0) | ((with_reducible refine gate_callee (f := 16) rfl ?_); refine goesL_ (some 7) rfl rfl Tryd.func16 (by kernel_rfl) rfl #[.agg #[.slice A0_0 l0_0.length c0_0], .int .i64 a1] rfl zl ?_; (with_reducible refine (spec_TermSize.calls k _ _ l0_0 a1 t189 _ ?side1 ?side2 A3.out).mono ?_); (case side1 => exact zc (Kd.C_below HR0_0.out HB.out)); (case side2 => exact HC0_0.out); rintro e w9 ⟨rfl, hb⟩; refine ⟨_, rfl, ?_⟩; have n0_ := Aside0.mk (blk_below (zh BK188.out) hb); have n1_ := Aside0.mk (below_step (zb HB.out) hb); clear BK188; clear HB; have BK188 := n0_; have HB := n1_; clear n0_ n1_; (try clear hb); (try clear hb2); (try clear hk); (try clear hi)) | ((with_reducible refine gate_callee (f := 15) rfl ?_); refine goesL_ (some 8) rfl rfl Tryd.func15 (by kernel_rfl) rfl #[.int .i64 t189, .int .i64 1, .int .i64 1000] rfl zl ?_; (with_reducible refine (spec_l1In.calls t189 1 1000 true _ A4.out).mono ?_); rintro e w' ⟨rfl, ⟨nd, rfl⟩⟩; refine ⟨_, rfl, ?_⟩; have hcz10_0 : w9.cell? ⟨gb188, 0, none⟩ = some (.slice A0_0 l0_0.length c0_0) := (blk_cell BK188.out 0).trans rfl; have hfz10_0 := blk_frozen BK188.out 0) | ((with_reducible refine gate_callee (f := 17) rfl ?_); refine goesL_ (some 12) rfl rfl Tryd.func17 (by kernel_rfl) rfl #[.agg #[.slice A0_0 l0_0.length c0_0], .int .i64 a1] rfl zl ?_; (with_reducible refine (spec_l4Print.calls k _ _ l0_0 a1 t191 _ ?side1 ?side2 A6.out).mono ?_); (case side1 => exact zc (Kd.C_below HR0_0.out (zb HB.out))); (case side2 => exact HC0_0.out); rintro e w11 ⟨rfl, hb⟩; refine ⟨_, rfl, ?_⟩; have n0_ := Aside0.mk (blk_below (zh BK188.out) hb); have n1_ := Aside0.mk (below_step (zb HB.out) hb); clear BK188; clear HB; have BK188 := n0_; have HB := n1_; clear n0_ n1_; (try clear hb); (try clear hb2); (try clear hk); (try clear hi)))
  go_ret
  exact ⟨ze, zb HB.out⟩
 ·replace c5 := Bool.eq_false_iff.mpr c5
  subst c5
  have H1 : (some (⟨#[]⟩ : ByteArray)) = some r := by rw [if_neg (show ¬ (false = true) by decide)] at H; exact H
  clear H
  have H := H1
  clear H1
  obtain rfl := Option.some.inj H
  go_enter Tryd.func6, Tryd.ntmps6
  go_wp2_with (first | ((with_reducible refine gate_dst (N := 2) rfl ?_); refine box_event ?hg (N := 2) ?hd (cs := #[.slice A0_0 l0_0.length c0_0]) (t := 29) ?hr ?_; (case hd => rfl); (case hg => rfl); (case hr => first | (go_simp; done) | (go_simp; rfl)); intro gb188 hg w12 hbox hb; have n0_ := Aside0.mk (below_step (zb HB.out) hb); have n1_ := Aside0.mk (hbox); have n2_ := Aside0.mk ((by rw [hg]; exact (below_size (zb HB.out)) : w.heap.size ≤ gb188)); have n3_ := Aside0.mk ((by rw [hg]; exact (below_size (zb HB.out)) : w.heap.size ≤ gb188)); clear HB; have HB := n0_; have BK188 := n1_; have GW188 := n2_; have GE188 := n3_; clear n0_ n1_ n2_ n3_; clear hb hbox hg; have hcz13_0 : w12.cell? ⟨gb188, 0, none⟩ = some (.slice A0_0 l0_0.length c0_0) := (blk_cell BK188.out 0).trans rfl; have hfz13_0 := blk_frozen BK188.out 0) | ((with_reducible refine gate_callee (f := 16) rfl ?_); refine goesL_ (some 7) rfl rfl Tryd.func16 (by kernel_rfl) rfl #[.agg #[.slice A0_0 l0_0.length c0_0], .int .i64 a1] rfl zl ?_; (with_reducible refine (spec_TermSize.calls k _ _ l0_0 a1 t189 _ ?side1 ?side2 A3.out).mono ?_); (case side1 => exact zc (Kd.C_below HR0_0.out HB.out)); (case side2 => exact HC0_0.out); rintro e w14 ⟨rfl, hb⟩; refine ⟨_, rfl, ?_⟩; have n0_ := Aside0.mk (blk_below (zh BK188.out) hb); have n1_ := Aside0.mk (below_step (zb HB.out) hb); clear BK188; clear HB; have BK188 := n0_; have HB := n1_; clear n0_ n1_; (try clear hb); (try clear hb2); (try clear hk); (try clear hi)) | ((with_reducible refine gate_callee (f := 15) rfl ?_); refine goesL_ (some 8) rfl rfl Tryd.func15 (by kernel_rfl) rfl #[.int .i64 t189, .int .i64 1, .int .i64 1000] rfl zl ?_; (with_reducible refine (spec_l1In.calls t189 1 1000 false _ A4.out).mono ?_); rintro e w' ⟨rfl, ⟨nd, rfl⟩⟩; refine ⟨_, rfl, ?_⟩))
  go_ret
  exact ⟨ze, zb HB.out⟩

end Go.Proofs.YtjcemohmlpgfnaaDoor.K
end
