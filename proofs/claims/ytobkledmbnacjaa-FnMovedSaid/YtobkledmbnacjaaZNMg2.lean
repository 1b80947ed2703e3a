import Derived.Test.YtobkledmbnacjaaZNM0
import Derived.Test.YtobkledmbnacjaaZNMg1
import Derived.ChangeMaps4
import Derived.MapKept
import Derived.RegionTactic
import Derived.ChangeAlike
import Derived.Laws.StructEq
import Derived.Lib.SliceRun
import Derived.Test.YtobkledmbnacjaaZNMg0
section
namespace Go.Proofs.Ytobkledmbnacjaa.M
open Go.RowKit Go.Proofs.YtobkledmbnacjaaW.PrintWords Go.Proofs.YtobkledmbnacjaaW.PrintLast Go.Proofs.YtobkledmbnacjaaW.PrintMore
attribute [local go_sem] max2_int min2_int max_two min_two max_three min_three max_four min_four   -- for this text's walks alone
set_option linter.unusedVariables false
set_option linter.unusedSimpArgs false
set_option maxRecDepth 100000

/-! ### impl_nodeOk: function 59 -/
def impl_nodeOk.f (k : Nat) (a0_0 : Int) (a0_1 : Int) (a0_2 : Int) (a1 : Int) : Option (Bool) := (impl_count.f k a0_0).bind fun t162 => (if t162 = 0 then ((impl_inRange.f a0_1 0 199).bind fun t163 => (if t163 = true then (some (a0_2 == 0)) else (some false))) else (if t162 = 1 then ((impl_inRange.f a0_1 0 (wrap64 (a1 - 1))).bind fun t164 => (if t164 = true then (some (a0_2 == 0)) else (some false))) else (if t162 = 2 then ((impl_inRange.f a0_1 0 (wrap64 (a1 - 1))).bind fun t165 => (if t165 = true then ((impl_inRange.f a0_2 0 (wrap64 (a1 - 1))).bind fun t166 => (if t166 = true then (if a0_0 = 8 then (some (decide (a0_1 ≤ a0_2))) else (some true)) else (some false))) else (some false))) else (some false))))
set_option maxHeartbeats 8000000 in
set_option maxRecDepth 100000 in
theorem impl_nodeOk.calls (k : Nat) (a0_0 : Int) (a0_1 : Int) (a0_2 : Int) (a1 : Int) (r : Bool) (w : World) (h : impl_nodeOk.f k a0_0 a0_1 a0_2 a1 = some r) :
  Calls Try.prog 59 #[.agg #[.int .i64 a0_0, .int .i64 a0_1, .int .i64 a0_2], .int .i64 a1] w fun e w' => e = .returned (.bool r) ∧ Below w.heap.size w w' := by
 have hu55 := Try.underlying55
 have HB := Aside0.mk (Below.refl w.heap.size w)
 have H : ((impl_count.f k a0_0).bind fun t162 => (if t162 = 0 then ((impl_inRange.f a0_1 0 199).bind fun t163 => (if t163 = true then (some (a0_2 == 0)) else (some false))) else (if t162 = 1 then ((impl_inRange.f a0_1 0 (wrap64 (a1 - 1))).bind fun t164 => (if t164 = true then (some (a0_2 == 0)) else (some false))) else (if t162 = 2 then ((impl_inRange.f a0_1 0 (wrap64 (a1 - 1))).bind fun t165 => (if t165 = true then ((impl_inRange.f a0_2 0 (wrap64 (a1 - 1))).bind fun t166 => (if t166 = true then (if a0_0 = 8 then (some (decide (a0_1 ≤ a0_2))) else (some true)) else (some false))) else (some false))) else (some false))))) = some r := h
 clear h
 replace H := Option.bind_eq_some_iff.mp H
 obtain ⟨t162, A30, H⟩ := H
 replace H : (if t162 = 0 then ((impl_inRange.f a0_1 0 199).bind fun t163 => (if t163 = true then (some (a0_2 == 0)) else (some false))) else (if t162 = 1 then ((impl_inRange.f a0_1 0 (wrap64 (a1 - 1))).bind fun t164 => (if t164 = true then (some (a0_2 == 0)) else (some false))) else (if t162 = 2 then ((impl_inRange.f a0_1 0 (wrap64 (a1 - 1))).bind fun t165 => (if t165 = true then ((impl_inRange.f a0_2 0 (wrap64 (a1 - 1))).bind fun t166 => (if t166 = true then (if a0_0 = 8 then (some (decide (a0_1 ≤ a0_2))) else (some true)) else (some false))) else (some false))) else (some false)))) = some r := H
 have A3 := Aside0.mk A30
 clear A30
 by_cases c4 : t162 = 0
 ·rw [if_pos c4] at H
  have c4b0 : (t162 == 0) = true := beq_iff_eq.mpr c4
  have c4b1 : (t162 != 0) = false := bne_eq_false_iff_eq.mpr c4
  clear c4
  replace H := Option.bind_eq_some_iff.mp H
  obtain ⟨t163, A50, H⟩ := H
  replace H : (if t163 = true then (some (a0_2 == 0)) else (some false)) = some r := H
  have A5 := Aside0.mk A50
  clear A50
  by_cases c6 : t163 = true
  ·subst c6
   have H1 : (some (a0_2 == 0)) = some r := by rw [if_pos rfl] at H; exact H
   clear H
   have H := H1
   clear H1
   obtain rfl := Option.some.inj H
   go_enter Try.func59, Try.ntmps59
   go_wp2_with (first | ((with_reducible refine gate_dst (N := 2) rfl ?_); refine box_event ?hg (N := 2) ?hd (cs := #[.int .i64 a0_0, .int .i64 a0_1, .int .i64 a0_2]) (t := 55) ?hr ?_; (case hd => rfl); (case hg => rfl); (case hr => first | (go_simp; done) | (go_simp; rfl)); intro gb161 hg w7 hbox hb; have n0_ := Aside0.mk (below_step (zb HB.out) hb); have n1_ := Aside0.mk (hbox); have n2_ := Aside0.mk ((by rw [hg]; exact (below_size (zb HB.out)) : w.heap.size ≤ gb161)); have n3_ := Aside0.mk ((by rw [hg]; exact (below_size (zb HB.out)) : w.heap.size ≤ gb161)); clear HB; have HB := n0_; have BK161 := n1_; have GW161 := n2_; have GE161 := n3_; clear n0_ n1_ n2_ n3_ hb hbox hg; have hcz8_0 : w7.cell? ⟨gb161, 0, none⟩ = some (.int .i64 a0_0) := (blk_cell BK161.out 0).trans rfl; have hcz8_1 : w7.cell? ⟨gb161, 1, none⟩ = some (.int .i64 a0_1) := (blk_cell BK161.out 1).trans rfl; have hcz8_2 : w7.cell? ⟨gb161, 2, none⟩ = some (.int .i64 a0_2) := (blk_cell BK161.out 2).trans rfl; have hfz8_0 := blk_frozen BK161.out 0; have hfz8_1 := blk_frozen BK161.out 1; have hfz8_2 := blk_frozen BK161.out 2) | ((with_reducible refine gate_callee (f := 63) rfl ?_); refine goesL_ (some 7) rfl rfl Try.func63 (by kernel_rfl) rfl #[.int .i64 a0_0] rfl zl ?_; (with_reducible refine (impl_count.calls k a0_0 t162 _ A3.out).mono ?_); rintro e w' ⟨rfl, ⟨nd, rfl⟩⟩; refine ⟨_, rfl, ?_⟩) | ((with_reducible refine gate_callee (f := 60) rfl ?_); refine goesL_ (some 12) rfl rfl Try.func60 (by kernel_rfl) rfl #[.int .i64 a0_1, .int .i64 0, .int .i64 199] rfl zl ?_; (with_reducible refine (impl_inRange.calls a0_1 0 199 true _ A5.out).mono ?_); rintro e w' ⟨rfl, ⟨nd, rfl⟩⟩; refine ⟨_, rfl, ?_⟩))
   go_ret
   exact ⟨ze, zb HB.out⟩
  replace c6 := Bool.eq_false_iff.mpr c6
  subst c6
  have H1 : (some false) = some r := by rw [if_neg (show ¬ (false = true) by decide)] at H; exact H
  clear H
  have H := H1
  clear H1
  obtain rfl := Option.some.inj H
  go_enter Try.func59, Try.ntmps59
  go_wp2_with (first | ((with_reducible refine gate_dst (N := 2) rfl ?_); refine box_event ?hg (N := 2) ?hd (cs := #[.int .i64 a0_0, .int .i64 a0_1, .int .i64 a0_2]) (t := 55) ?hr ?_; (case hd => rfl); (case hg => rfl); (case hr => first | (go_simp; done) | (go_simp; rfl)); intro gb161 hg w9 hbox hb; have n0_ := Aside0.mk (below_step (zb HB.out) hb); have n1_ := Aside0.mk (hbox); have n2_ := Aside0.mk ((by rw [hg]; exact (below_size (zb HB.out)) : w.heap.size ≤ gb161)); have n3_ := Aside0.mk ((by rw [hg]; exact (below_size (zb HB.out)) : w.heap.size ≤ gb161)); clear HB; have HB := n0_; have BK161 := n1_; have GW161 := n2_; have GE161 := n3_; clear n0_ n1_ n2_ n3_ hb hbox hg; have hcz10_0 : w9.cell? ⟨gb161, 0, none⟩ = some (.int .i64 a0_0) := (blk_cell BK161.out 0).trans rfl; have hcz10_1 : w9.cell? ⟨gb161, 1, none⟩ = some (.int .i64 a0_1) := (blk_cell BK161.out 1).trans rfl; have hcz10_2 : w9.cell? ⟨gb161, 2, none⟩ = some (.int .i64 a0_2) := (blk_cell BK161.out 2).trans rfl; have hfz10_0 := blk_frozen BK161.out 0; have hfz10_1 := blk_frozen BK161.out 1; have hfz10_2 := blk_frozen BK161.out 2) | ((with_reducible refine gate_callee (f := 63) rfl ?_); refine goesL_ (some 7) rfl rfl Try.func63 (by kernel_rfl) rfl #[.int .i64 a0_0] rfl zl ?_; (with_reducible refine (impl_count.calls k a0_0 t162 _ A3.out).mono ?_); rintro e w' ⟨rfl, ⟨nd, rfl⟩⟩; refine ⟨_, rfl, ?_⟩) | ((with_reducible refine gate_callee (f := 60) rfl ?_); refine goesL_ (some 12) rfl rfl Try.func60 (by kernel_rfl) rfl #[.int .i64 a0_1, .int .i64 0, .int .i64 199] rfl zl ?_; (with_reducible refine (impl_inRange.calls a0_1 0 199 false _ A5.out).mono ?_); rintro e w' ⟨rfl, ⟨nd, rfl⟩⟩; refine ⟨_, rfl, ?_⟩))
  go_ret
  exact ⟨ze, zb HB.out⟩
 rw [if_neg c4] at H
 have c4b0 : (t162 == 0) = false := beq_eq_false_iff_ne.mpr c4
 have c4b1 : (t162 != 0) = true := bne_iff_ne.mpr c4
 by_cases c11 : t162 = 1
 ·rw [if_pos c11] at H
  have c11b0 : (t162 == 1) = true := beq_iff_eq.mpr c11
  have c11b1 : (t162 != 1) = false := bne_eq_false_iff_eq.mpr c11
  clear c11
  replace H := Option.bind_eq_some_iff.mp H
  obtain ⟨t164, A120, H⟩ := H
  replace H : (if t164 = true then (some (a0_2 == 0)) else (some false)) = some r := H
  have A12 := Aside0.mk A120
  clear A120
  by_cases c13 : t164 = true
  ·subst c13
   have H1 : (some (a0_2 == 0)) = some r := by rw [if_pos rfl] at H; exact H
   clear H
   have H := H1
   clear H1
   obtain rfl := Option.some.inj H
   go_enter Try.func59, Try.ntmps59
   go_wp2_with (first | ((with_reducible refine gate_dst (N := 2) rfl ?_); refine box_event ?hg (N := 2) ?hd (cs := #[.int .i64 a0_0, .int .i64 a0_1, .int .i64 a0_2]) (t := 55) ?hr ?_; (case hd => rfl); (case hg => rfl); (case hr => first | (go_simp; done) | (go_simp; rfl)); intro gb161 hg w14 hbox hb; have n0_ := Aside0.mk (below_step (zb HB.out) hb); have n1_ := Aside0.mk (hbox); have n2_ := Aside0.mk ((by rw [hg]; exact (below_size (zb HB.out)) : w.heap.size ≤ gb161)); have n3_ := Aside0.mk ((by rw [hg]; exact (below_size (zb HB.out)) : w.heap.size ≤ gb161)); clear HB; have HB := n0_; have BK161 := n1_; have GW161 := n2_; have GE161 := n3_; clear n0_ n1_ n2_ n3_ hb hbox hg; have hcz15_0 : w14.cell? ⟨gb161, 0, none⟩ = some (.int .i64 a0_0) := (blk_cell BK161.out 0).trans rfl; have hcz15_1 : w14.cell? ⟨gb161, 1, none⟩ = some (.int .i64 a0_1) := (blk_cell BK161.out 1).trans rfl; have hcz15_2 : w14.cell? ⟨gb161, 2, none⟩ = some (.int .i64 a0_2) := (blk_cell BK161.out 2).trans rfl; have hfz15_0 := blk_frozen BK161.out 0; have hfz15_1 := blk_frozen BK161.out 1; have hfz15_2 := blk_frozen BK161.out 2) | ((with_reducible refine gate_callee (f := 63) rfl ?_); refine goesL_ (some 7) rfl rfl Try.func63 (by kernel_rfl) rfl #[.int .i64 a0_0] rfl zl ?_; (with_reducible refine (impl_count.calls k a0_0 t162 _ A3.out).mono ?_); rintro e w' ⟨rfl, ⟨nd, rfl⟩⟩; refine ⟨_, rfl, ?_⟩) | ((with_reducible refine gate_callee (f := 60) rfl ?_); refine goesL_ (some 24) rfl rfl Try.func60 (by kernel_rfl) rfl #[.int .i64 a0_1, .int .i64 0, .int .i64 (wrap64 (a1 - 1))] rfl zl ?_; (with_reducible refine (impl_inRange.calls a0_1 0 (wrap64 (a1 - 1)) true _ A12.out).mono ?_); rintro e w' ⟨rfl, ⟨nd, rfl⟩⟩; refine ⟨_, rfl, ?_⟩))
   go_ret
   exact ⟨ze, zb HB.out⟩
  replace c13 := Bool.eq_false_iff.mpr c13
  subst c13
  have H1 : (some false) = some r := by rw [if_neg (show ¬ (false = true) by decide)] at H; exact H
  clear H
  have H := H1
  clear H1
  obtain rfl := Option.some.inj H
  go_enter Try.func59, Try.ntmps59
  go_wp2_with (first | ((with_reducible refine gate_dst (N := 2) rfl ?_); refine box_event ?hg (N := 2) ?hd (cs := #[.int .i64 a0_0, .int .i64 a0_1, .int .i64 a0_2]) (t := 55) ?hr ?_; (case hd => rfl); (case hg => rfl); (case hr => first | (go_simp; done) | (go_simp; rfl)); intro gb161 hg w16 hbox hb; have n0_ := Aside0.mk (below_step (zb HB.out) hb); have n1_ := Aside0.mk (hbox); have n2_ := Aside0.mk ((by rw [hg]; exact (below_size (zb HB.out)) : w.heap.size ≤ gb161)); have n3_ := Aside0.mk ((by rw [hg]; exact (below_size (zb HB.out)) : w.heap.size ≤ gb161)); clear HB; have HB := n0_; have BK161 := n1_; have GW161 := n2_; have GE161 := n3_; clear n0_ n1_ n2_ n3_ hb hbox hg; have hcz17_0 : w16.cell? ⟨gb161, 0, none⟩ = some (.int .i64 a0_0) := (blk_cell BK161.out 0).trans rfl; have hcz17_1 : w16.cell? ⟨gb161, 1, none⟩ = some (.int .i64 a0_1) := (blk_cell BK161.out 1).trans rfl; have hcz17_2 : w16.cell? ⟨gb161, 2, none⟩ = some (.int .i64 a0_2) := (blk_cell BK161.out 2).trans rfl; have hfz17_0 := blk_frozen BK161.out 0; have hfz17_1 := blk_frozen BK161.out 1; have hfz17_2 := blk_frozen BK161.out 2) | ((with_reducible refine gate_callee (f := 63) rfl ?_); refine goesL_ (some 7) rfl rfl Try.func63 (by kernel_rfl) rfl #[.int .i64 a0_0] rfl zl ?_; (with_reducible refine (impl_count.calls k a0_0 t162 _ A3.out).mono ?_); rintro e w' ⟨rfl, ⟨nd, rfl⟩⟩; refine ⟨_, rfl, ?_⟩) | ((with_reducible refine gate_callee (f := 60) rfl ?_); refine goesL_ (some 24) rfl rfl Try.func60 (by kernel_rfl) rfl #[.int .i64 a0_1, .int .i64 0, .int .i64 (wrap64 (a1 - 1))] rfl zl ?_; (with_reducible refine (impl_inRange.calls a0_1 0 (wrap64 (a1 - 1)) false _ A12.out).mono ?_); rintro e w' ⟨rfl, ⟨nd, rfl⟩⟩; refine ⟨_, rfl, ?_⟩))
  go_ret
  exact ⟨ze, zb HB.out⟩
 rw [if_neg c11] at H
 have c11b0 : (t162 == 1) = false := beq_eq_false_iff_ne.mpr c11
 have c11b1 : (t162 != 1) = true := bne_iff_ne.mpr c11
 by_cases c18 : t162 = 2
 rotate_left
 ·rw [if_neg c18] at H
  have c18b0 : (t162 == 2) = false := beq_eq_false_iff_ne.mpr c18
  have c18b1 : (t162 != 2) = true := bne_iff_ne.mpr c18
  obtain rfl := Option.some.inj H
  go_enter Try.func59, Try.ntmps59
  go_wp2_with (first | ((with_reducible refine gate_dst (N := 2) rfl ?_); refine box_event ?hg (N := 2) ?hd (cs := #[.int .i64 a0_0, .int .i64 a0_1, .int .i64 a0_2]) (t := 55) ?hr ?_; (case hd => rfl); (case hg => rfl); (case hr => first | (go_simp; done) | (go_simp; rfl)); intro gb161 hg w32 hbox hb; have n0_ := Aside0.mk (below_step (zb HB.out) hb); have n1_ := Aside0.mk (hbox); have n2_ := Aside0.mk ((by rw [hg]; exact (below_size (zb HB.out)) : w.heap.size ≤ gb161)); have n3_ := Aside0.mk ((by rw [hg]; exact (below_size (zb HB.out)) : w.heap.size ≤ gb161)); clear HB; have HB := n0_; have BK161 := n1_; have GW161 := n2_; have GE161 := n3_; clear n0_ n1_ n2_ n3_ hb hbox hg; have hcz33_0 : w32.cell? ⟨gb161, 0, none⟩ = some (.int .i64 a0_0) := (blk_cell BK161.out 0).trans rfl; have hcz33_1 : w32.cell? ⟨gb161, 1, none⟩ = some (.int .i64 a0_1) := (blk_cell BK161.out 1).trans rfl; have hcz33_2 : w32.cell? ⟨gb161, 2, none⟩ = some (.int .i64 a0_2) := (blk_cell BK161.out 2).trans rfl; have hfz33_0 := blk_frozen BK161.out 0; have hfz33_1 := blk_frozen BK161.out 1; have hfz33_2 := blk_frozen BK161.out 2) | ((with_reducible refine gate_callee (f := 63) rfl ?_); refine goesL_ (some 7) rfl rfl Try.func63 (by kernel_rfl) rfl #[.int .i64 a0_0] rfl zl ?_; (with_reducible refine (impl_count.calls k a0_0 t162 _ A3.out).mono ?_); rintro e w' ⟨rfl, ⟨nd, rfl⟩⟩; refine ⟨_, rfl, ?_⟩))
  go_ret
  exact ⟨ze, zb HB.out⟩

 rw [if_pos c18] at H
 have c18b0 : (t162 == 2) = true := beq_iff_eq.mpr c18
 have c18b1 : (t162 != 2) = false := bne_eq_false_iff_eq.mpr c18
 clear c18
 replace H := Option.bind_eq_some_iff.mp H
 obtain ⟨t165, A190, H⟩ := H
 replace H : (if t165 = true then ((impl_inRange.f a0_2 0 (wrap64 (a1 - 1))).bind fun t166 => (if t166 = true then (if a0_0 = 8 then (some (decide (a0_1 ≤ a0_2))) else (some true)) else (some false))) else (some false)) = some r := H
 have A19 := Aside0.mk A190
 clear A190
 by_cases c20 : t165 = true
 rotate_left
 ·replace c20 := Bool.eq_false_iff.mpr c20
  subst c20
  have H1 : (some false) = some r := by rw [if_neg (show ¬ (false = true) by decide)] at H; exact H
  clear H
  have H := H1
  clear H1
  obtain rfl := Option.some.inj H
  go_enter Try.func59, Try.ntmps59
  go_wp2_with (first | ((with_reducible refine gate_dst (N := 2) rfl ?_); refine box_event ?hg (N := 2) ?hd (cs := #[.int .i64 a0_0, .int .i64 a0_1, .int .i64 a0_2]) (t := 55) ?hr ?_; (case hd => rfl); (case hg => rfl); (case hr => first | (go_simp; done) | (go_simp; rfl)); intro gb161 hg w30 hbox hb; have n0_ := Aside0.mk (below_step (zb HB.out) hb); have n1_ := Aside0.mk (hbox); have n2_ := Aside0.mk ((by rw [hg]; exact (below_size (zb HB.out)) : w.heap.size ≤ gb161)); have n3_ := Aside0.mk ((by rw [hg]; exact (below_size (zb HB.out)) : w.heap.size ≤ gb161)); clear HB; have HB := n0_; have BK161 := n1_; have GW161 := n2_; have GE161 := n3_; clear n0_ n1_ n2_ n3_ hb hbox hg; have hcz31_0 : w30.cell? ⟨gb161, 0, none⟩ = some (.int .i64 a0_0) := (blk_cell BK161.out 0).trans rfl; have hcz31_1 : w30.cell? ⟨gb161, 1, none⟩ = some (.int .i64 a0_1) := (blk_cell BK161.out 1).trans rfl; have hcz31_2 : w30.cell? ⟨gb161, 2, none⟩ = some (.int .i64 a0_2) := (blk_cell BK161.out 2).trans rfl; have hfz31_0 := blk_frozen BK161.out 0; have hfz31_1 := blk_frozen BK161.out 1; have hfz31_2 := blk_frozen BK161.out 2) | ((with_reducible refine gate_callee (f := 63) rfl ?_); refine goesL_ (some 7) rfl rfl Try.func63 (by kernel_rfl) rfl #[.int .i64 a0_0] rfl zl ?_; (with_reducible refine (impl_count.calls k a0_0 t162 _ A3.out).mono ?_); rintro e w' ⟨rfl, ⟨nd, rfl⟩⟩; refine ⟨_, rfl, ?_⟩) | ((with_reducible refine gate_callee (f := 60) rfl ?_); refine goesL_ (some 36) rfl rfl Try.func60 (by kernel_rfl) rfl #[.int .i64 a0_1, .int .i64 0, .int .i64 (wrap64 (a1 - 1))] rfl zl ?_; (with_reducible refine (impl_inRange.calls a0_1 0 (wrap64 (a1 - 1)) false _ A19.out).mono ?_); rintro e w' ⟨rfl, ⟨nd, rfl⟩⟩; refine ⟨_, rfl, ?_⟩))
  go_ret
  exact ⟨ze, zb HB.out⟩
 subst c20
 have H1 : ((impl_inRange.f a0_2 0 (wrap64 (a1 - 1))).bind fun t166 => (if t166 = true then (if a0_0 = 8 then (some (decide (a0_1 ≤ a0_2))) else (some true)) else (some false))) = some r := by rw [if_pos rfl] at H; exact H
 clear H
 have H := H1
 clear H1
 replace H := Option.bind_eq_some_iff.mp H
 obtain ⟨t166, A210, H⟩ := H
 replace H : (if t166 = true then (if a0_0 = 8 then (some (decide (a0_1 ≤ a0_2))) else (some true)) else (some false)) = some r := H
 have A21 := Aside0.mk A210
 clear A210
 by_cases c22 : t166 = true
 rotate_left
 ·replace c22 := Bool.eq_false_iff.mpr c22
  subst c22
  have H1 : (some false) = some r := by rw [if_neg (show ¬ (false = true) by decide)] at H; exact H
  clear H
  have H := H1
  clear H1
  obtain rfl := Option.some.inj H
  go_enter Try.func59, Try.ntmps59
  go_wp2_with (first | ((with_reducible refine gate_dst (N := 2) rfl ?_); refine box_event ?hg (N := 2) ?hd (cs := #[.int .i64 a0_0, .int .i64 a0_1, .int .i64 a0_2]) (t := 55) ?hr ?_; (case hd => rfl); (case hg => rfl); (case hr => first | (go_simp; done) | (go_simp; rfl)); intro gb161 hg w28 hbox hb; have n0_ := Aside0.mk (below_step (zb HB.out) hb); have n1_ := Aside0.mk (hbox); have n2_ := Aside0.mk ((by rw [hg]; exact (below_size (zb HB.out)) : w.heap.size ≤ gb161)); have n3_ := Aside0.mk ((by rw [hg]; exact (below_size (zb HB.out)) : w.heap.size ≤ gb161)); clear HB; have HB := n0_; have BK161 := n1_; have GW161 := n2_; have GE161 := n3_; clear n0_ n1_ n2_ n3_ hb hbox hg; have hcz29_0 : w28.cell? ⟨gb161, 0, none⟩ = some (.int .i64 a0_0) := (blk_cell BK161.out 0).trans rfl; have hcz29_1 : w28.cell? ⟨gb161, 1, none⟩ = some (.int .i64 a0_1) := (blk_cell BK161.out 1).trans rfl; have hcz29_2 : w28.cell? ⟨gb161, 2, none⟩ = some (.int .i64 a0_2) := (blk_cell BK161.out 2).trans rfl; have hfz29_0 := blk_frozen BK161.out 0; have hfz29_1 := blk_frozen BK161.out 1; have hfz29_2 := blk_frozen BK161.out 2) | ((with_reducible refine gate_callee (f := 63) rfl ?_); refine goesL_ (some 7) rfl rfl Try.func63 (by kernel_rfl) rfl #[.int .i64 a0_0] rfl zl ?_; (with_reducible refine (impl_count.calls k a0_0 t162 _ A3.out).mono ?_); rintro e w' ⟨rfl, ⟨nd, rfl⟩⟩; refine ⟨_, rfl, ?_⟩) | ((with_reducible refine gate_callee (f := 60) rfl ?_); refine goesL_ (some 36) rfl rfl Try.func60 (by kernel_rfl) rfl #[.int .i64 a0_1, .int .i64 0, .int .i64 (wrap64 (a1 - 1))] rfl zl ?_; (with_reducible refine (impl_inRange.calls a0_1 0 (wrap64 (a1 - 1)) true _ A19.out).mono ?_); rintro e w' ⟨rfl, ⟨nd, rfl⟩⟩; refine ⟨_, rfl, ?_⟩) | (go_at_call 60; (with_reducible refine (impl_inRange.calls a0_2 0 (wrap64 (a1 - 1)) false _ A21.out).mono ?_); rintro e w' ⟨rfl, ⟨nd, rfl⟩⟩))
  go_ret
  exact ⟨ze, zb HB.out⟩
 subst c22
 have H1 : (if a0_0 = 8 then (some (decide (a0_1 ≤ a0_2))) else (some true)) = some r := by rw [if_pos rfl] at H; exact H
 clear H
 have H := H1
 clear H1
 by_cases c23 : a0_0 = 8
 rotate_left
 ·rw [if_neg c23] at H
  have c23b0 : (a0_0 == 8) = false := beq_eq_false_iff_ne.mpr c23
  have c23b1 : (a0_0 != 8) = true := bne_iff_ne.mpr c23
  obtain rfl := Option.some.inj H
  go_enter Try.func59, Try.ntmps59
  go_wp2_with (first | ((with_reducible refine gate_dst (N := 2) rfl ?_); refine box_event ?hg (N := 2) ?hd (cs := #[.int .i64 a0_0, .int .i64 a0_1, .int .i64 a0_2]) (t := 55) ?hr ?_; (case hd => rfl); (case hg => rfl); (case hr => first | (go_simp; done) | (go_simp; rfl)); intro gb161 hg w26 hbox hb; have n0_ := Aside0.mk (below_step (zb HB.out) hb); have n1_ := Aside0.mk (hbox); have n2_ := Aside0.mk ((by rw [hg]; exact (below_size (zb HB.out)) : w.heap.size ≤ gb161)); have n3_ := Aside0.mk ((by rw [hg]; exact (below_size (zb HB.out)) : w.heap.size ≤ gb161)); clear HB; have HB := n0_; have BK161 := n1_; have GW161 := n2_; have GE161 := n3_; clear n0_ n1_ n2_ n3_ hb hbox hg; have hcz27_0 : w26.cell? ⟨gb161, 0, none⟩ = some (.int .i64 a0_0) := (blk_cell BK161.out 0).trans rfl; have hcz27_1 : w26.cell? ⟨gb161, 1, none⟩ = some (.int .i64 a0_1) := (blk_cell BK161.out 1).trans rfl; have hcz27_2 : w26.cell? ⟨gb161, 2, none⟩ = some (.int .i64 a0_2) := (blk_cell BK161.out 2).trans rfl; have hfz27_0 := blk_frozen BK161.out 0; have hfz27_1 := blk_frozen BK161.out 1; have hfz27_2 := blk_frozen BK161.out 2) | ((with_reducible refine gate_callee (f := 63) rfl ?_); refine goesL_ (some 7) rfl rfl Try.func63 (by kernel_rfl) rfl #[.int .i64 a0_0] rfl zl ?_; (with_reducible refine (impl_count.calls k a0_0 t162 _ A3.out).mono ?_); rintro e w' ⟨rfl, ⟨nd, rfl⟩⟩; refine ⟨_, rfl, ?_⟩) | ((with_reducible refine gate_callee (f := 60) rfl ?_); refine goesL_ (some 36) rfl rfl Try.func60 (by kernel_rfl) rfl #[.int .i64 a0_1, .int .i64 0, .int .i64 (wrap64 (a1 - 1))] rfl zl ?_; (with_reducible refine (impl_inRange.calls a0_1 0 (wrap64 (a1 - 1)) true _ A19.out).mono ?_); rintro e w' ⟨rfl, ⟨nd, rfl⟩⟩; refine ⟨_, rfl, ?_⟩) | (go_at_call 60; (with_reducible refine (impl_inRange.calls a0_2 0 (wrap64 (a1 - 1)) true _ A21.out).mono ?_); rintro e w' ⟨rfl, ⟨nd, rfl⟩⟩))
  go_ret
  exact ⟨ze, zb HB.out⟩
 rw [if_pos c23] at H
 have c23b0 : (a0_0 == 8) = true := beq_iff_eq.mpr c23
 have c23b1 : (a0_0 != 8) = false := bne_eq_false_iff_eq.mpr c23
 clear c23
 obtain rfl := Option.some.inj H
 go_enter Try.func59, Try.ntmps59
 go_wp2_with (first | ((with_reducible refine gate_dst (N := 2) rfl ?_); refine box_event ?hg (N := 2) ?hd (cs := #[.int .i64 a0_0, .int .i64 a0_1, .int .i64 a0_2]) (t := 55) ?hr ?_; (case hd => rfl); (case hg => rfl); (case hr => first | (go_simp; done) | (go_simp; rfl)); intro gb161 hg w24 hbox hb; have n0_ := Aside0.mk (below_step (zb HB.out) hb); have n1_ := Aside0.mk (hbox); have n2_ := Aside0.mk ((by rw [hg]; exact (below_size (zb HB.out)) : w.heap.size ≤ gb161)); have n3_ := Aside0.mk ((by rw [hg]; exact (below_size (zb HB.out)) : w.heap.size ≤ gb161)); clear HB; have HB := n0_; have BK161 := n1_; have GW161 := n2_; have GE161 := n3_; clear n0_ n1_ n2_ n3_ hb hbox hg; have hcz25_0 : w24.cell? ⟨gb161, 0, none⟩ = some (.int .i64 a0_0) := (blk_cell BK161.out 0).trans rfl; have hcz25_1 : w24.cell? ⟨gb161, 1, none⟩ = some (.int .i64 a0_1) := (blk_cell BK161.out 1).trans rfl; have hcz25_2 : w24.cell? ⟨gb161, 2, none⟩ = some (.int .i64 a0_2) := (blk_cell BK161.out 2).trans rfl; have hfz25_0 := blk_frozen BK161.out 0; have hfz25_1 := blk_frozen BK161.out 1; have hfz25_2 := blk_frozen BK161.out 2) | ((with_reducible refine gate_callee (f := 63) rfl ?_); refine goesL_ (some 7) rfl rfl Try.func63 (by kernel_rfl) rfl #[.int .i64 a0_0] rfl zl ?_; (with_reducible refine (impl_count.calls k a0_0 t162 _ A3.out).mono ?_); rintro e w' ⟨rfl, ⟨nd, rfl⟩⟩; refine ⟨_, rfl, ?_⟩) | ((with_reducible refine gate_callee (f := 60) rfl ?_); refine goesL_ (some 36) rfl rfl Try.func60 (by kernel_rfl) rfl #[.int .i64 a0_1, .int .i64 0, .int .i64 (wrap64 (a1 - 1))] rfl zl ?_; (with_reducible refine (impl_inRange.calls a0_1 0 (wrap64 (a1 - 1)) true _ A19.out).mono ?_); rintro e w' ⟨rfl, ⟨nd, rfl⟩⟩; refine ⟨_, rfl, ?_⟩) | (go_at_call 60; (with_reducible refine (impl_inRange.calls a0_2 0 (wrap64 (a1 - 1)) true _ A21.out).mono ?_); rintro e w' ⟨rfl, ⟨nd, rfl⟩⟩))
 go_ret
 exact ⟨ze, zb HB.out⟩
end Go.Proofs.Ytobkledmbnacjaa.M
end

section
namespace Go.Proofs.Ytobkledmbnacjaa.M
open Go.RowKit Go.Proofs.YtobkledmbnacjaaW.PrintWords Go.Proofs.YtobkledmbnacjaaW.PrintLast Go.Proofs.YtobkledmbnacjaaW.PrintMore
attribute [local go_sem] max2_int min2_int max_two min_two max_three min_three max_four min_four   -- for this text's walks alone
set_option linter.unusedVariables false
set_option linter.unusedSimpArgs false
set_option maxRecDepth 100000


/-! ### impl_PoolOk: function 32 -/
-- IMPORT Derived.ChangeMaps4
-- IMPORT Derived.MapKept
-- IMPORT Derived.RegionTactic
-- IMPORT Derived.ChangeAlike
-- IMPORT Derived.Laws.StructEq
/-! #### a map from nodes to counts, by hand -/
instance decN : DecidableEq S55 := fun a b =>
 if h : a.f0 = b.f0 ∧ a.f1 = b.f1 ∧ a.f2 = b.f2 then .isTrue (by cases a; cases b; simp_all) else .isFalse (fun e => h (by subst e; exact ⟨rfl, rfl, rfl⟩))
def encN (n : S55) : Value := .agg #[.int .i64 n.f0, .int .i64 n.f1, .int .i64 n.f2]
theorem eqN (d : Nat) (w : World) (x0 y0 : Int) (x1 y1 : Int) (x2 y2 : Int) :
  (Op.equalIn (d + 2) 55 (.agg #[.int .i64 x0, .int .i64 x1, .int .i64 x2]) (.agg #[.int .i64 y0, .int .i64 y1, .int .i64 y2])).run Try.prog w = .ok (x0 == y0 && (x1 == y1 && (x2 == y2))) w := by
 refine eqA_of Try.underlying55 (by kernel_rfl) ?_
 refine eqf_cons (by rfl) (by go_simp; rfl) (by go_simp; rfl) (by go_simp) ?_
 refine eqf_cons (by rfl) (by go_simp; rfl) (by go_simp; rfl) (by go_simp) ?_
 exact eqf_last (by rfl) (by go_simp; rfl) (by go_simp; rfl) (by go_simp)
theorem run_eqN (w : World) (a b : S55) : (Op.equal 55 (encN a) (encN b)).run Try.prog w = .ok (decide (a = b)) w := by
 have h := eqN 9998 w a.f0 b.f0 a.f1 b.f1 a.f2 b.f2
 have e : (a.f0 == b.f0 && (a.f1 == b.f1 && (a.f2 == b.f2))) = decide (a = b) := by
  rw [Bool.eq_iff_iff]
  cases a; cases b
  simp
 rw [e] at h
 simp only [Op.equal, Op.maxDepth, encN]
 exact h
def lookN : List (S55 × Int) → S55 → Nat → Option (Nat × Int)
 | [], _, _ => none
 | (m, v) :: r, n, i => if n = m then some (i, v) else lookN r n (i + 1)
def entsN (es : List MapEntry) (kv : List (S55 × Int)) : Prop := es.map (fun e => (e.key, e.val)) = kv.map (fun p => (encN p.1, Value.int .i64 p.2))
theorem run_askN (w : World) (n : S55) : ∀ (es : List MapEntry) (kv : List (S55 × Int)) (i : Nat), entsN es kv →
  (Instr.findAsking 55 (encN n) es i).run Try.prog w = .ok ((lookN kv n i).map fun p => (p.1, Value.int .i64 p.2)) w
 | [], [], i, _ => by simp [Instr.findAsking, lookN]
 | [], _ :: _, i, h => by simp [entsN] at h
 | _ :: _, [], i, h => by simp [entsN] at h
 | e :: es, (m, v) :: kv, i, h => by
  simp only [entsN, List.map_cons, List.cons.injEq, Prod.mk.injEq] at h
  obtain ⟨⟨h1, h2⟩, h3⟩ := h
  have ih := run_askN w n es kv (i + 1) h3
  simp only [Instr.findAsking, Sem.run_bind, h1, h2, run_eqN, Result.andThen_ok, lookN]
  by_cases hn : n = m
  ·simp [hn]
  ·simp [hn, ih]
theorem run_findN (w : World) (n : S55) (es : List MapEntry) (kv : List (S55 × Int)) (h : entsN es kv) :
  (Instr.findKey 55 (encN n) es).run Try.prog w = .ok ((lookN kv n 0).map fun p => (p.1, Value.int .i64 p.2)) w := by
 cases es with
 | nil =>
  cases kv with
  | nil => simp [Instr.findKey, run_underlying Try.underlying55, Instr.findNow, lookN, Result.andThen]
  | cons p r => simp [entsN] at h
 | cons e r =>
  have h0 := run_askN w n (e :: r) kv 0 h
  have hn : ∀ (k : Value) (d : Array Field), Instr.findNow (.struct d) (encN n) (e :: r) 0 = none := fun _ d => by simp [Instr.findNow, Instr.sameNow]
  simp only [Instr.findKey, Sem.run_bind, run_underlying Try.underlying55, Result.andThen_ok, hn .nilIface]
  exact h0
theorem run_checkN (w : World) (em : Bool) (n : S55) : (Instr.checkKey em 10000 55 (encN n)).run Try.prog w = .ok () w := by
 cases n
 kernel_rfl
theorem run_staysN (w : World) (n : S55) : (Instr.keyThatStays (encN n) (encN n)).run Try.prog w = .ok (encN n) w := by
 have h : Instr.sameBits 10000 (encN n) (encN n) = true := by simp [encN, Instr.sameBits]
 simp [Instr.keyThatStays, h]
theorem zeroN (w : World) : (zeroValue 3).run Try.prog w = .ok (.int .i64 0) w := by kernel_rfl
def MapN (w : World) (b : Nat) (kv : List (S55 × Int)) : Prop :=
 ∃ es clock, w.heap[b]? = some (.map es clock) ∧ entsN es.toList kv ∧ (∀ x ∈ es.toList, x.born < clock) ∧ (es.toList.map (·.born)).Nodup
def cntN (kv : List (S55 × Int)) (n : S55) : Int := ((lookN kv n 0).map (·.2)).getD 0
theorem MapN.look {w : World} {b : Nat} {kv : List (S55 × Int)} (h : MapN w b kv) (n : S55) :
  (Instr.lookup 80 (.map (some b)) (encN n) false).run Try.prog w = .ok (.int .i64 (cntN kv n)) w := by
 obtain ⟨es, clock, hb, he, _, _⟩ := h
 simp only [Instr.lookup, Sem.run_bind, run_underlying Try.underlying80, Result.andThen_ok, MapKept.run_getObj_map hb, Sem.run_pure, run_checkN, run_findN w n es.toList kv he, cntN]
 cases lookN kv n 0 with
 | none => simp [zeroN, Result.andThen]
 | some p => simp [Result.andThen]
def setN : List (S55 × Int) → S55 → Int → List (S55 × Int)
 | [], n, x => [(n, x)]
 | (m, v) :: r, n, x => if n = m then (m, x) :: r else (m, v) :: setN r n x
theorem lookN_shift (kv : List (S55 × Int)) (n : S55) : ∀ i j, (lookN kv n (i + j)) = (lookN kv n i).map fun p => (p.1 + j, p.2) := by
 induction kv with
 | nil => intro i j; rfl
 | cons p r ih =>
  intro i j
  obtain ⟨m, v⟩ := p
  simp only [lookN]
  split
  ·rfl
  ·rw [show i + j + 1 = (i + 1) + j by omega]; exact ih (i + 1) j
theorem cntN_set (kv : List (S55 × Int)) (n : S55) (x : Int) : cntN (setN kv n x) n = x := by
 have key : ∀ i, (lookN (setN kv n x) n i).map (·.2) = some x := by
  induction kv with
  | nil => intro i; simp [setN, lookN]
  | cons p r ih =>
   intro i
   obtain ⟨m, v⟩ := p
   by_cases e : n = m
   ·simp [setN, lookN, e]
   simp [setN, lookN, e]; simpa using ih (i + 1)
 simp [cntN, key 0]
theorem setN_new (kv : List (S55 × Int)) (n : S55) (x : Int) (h : n ∉ kv.map (·.1)) : setN kv n x = kv ++ [(n, x)] := by
 induction kv with
 | nil => rfl
 | cons p r ih =>
  obtain ⟨m, v⟩ := p
  simp only [List.map_cons, List.mem_cons, not_or] at h
  simp [setN, h.1, ih h.2]
theorem cntN_ones (l : List S55) (n : S55) : cntN (l.map fun m => (m, (1 : Int))) n = if n ∈ l then 1 else 0 := by
 have key : ∀ i, (lookN (l.map fun m => (m, (1 : Int))) n i).map (·.2) = if n ∈ l then some 1 else none := by
  induction l with
  | nil => intro i; simp [lookN]
  | cons m r ih =>
   intro i
   by_cases e : n = m
   ·simp [lookN, e]
   simp [lookN, e]; simpa using ih (i + 1)
 unfold cntN
 rw [key 0]
 split <;> simp
theorem lookN_none {kv : List (S55 × Int)} {n : S55} : ∀ {i}, lookN kv n i = none → ∀ x, setN kv n x = kv ++ [(n, x)] := by
 induction kv with
 | nil => intro i _ x; rfl
 | cons p r ih =>
  intro i h x
  obtain ⟨m, v⟩ := p
  simp only [lookN] at h
  split at h
  ·cases h
  ·rename_i e
   simp [setN, e, ih h x]
theorem lookN_some {n : S55} : ∀ {kv : List (S55 × Int)} {i j : Nat} {v : Int}, lookN kv n i = some (i + j, v) → kv[j]? = some (n, v) ∧ ∀ x, setN kv n x = kv.set j (n, x)
 | [], i, j, v, h => by simp [lookN] at h
 | (m, u) :: r, i, j, v, h => by
  simp only [lookN] at h
  split at h
  ·rename_i e
   simp only [Option.some.injEq, Prod.mk.injEq] at h
   obtain ⟨h1, rfl⟩ := h
   obtain rfl : j = 0 := by omega
   subst e
   exact ⟨rfl, fun x => by simp [setN]⟩
  ·rename_i e
   cases j with
   | zero =>
    exfalso
    rw [lookN_shift r n i 1] at h
    have hs := lookN_shift r n 0 i
    rw [Nat.zero_add] at hs
    rw [hs] at h
    cases hl : lookN r n 0 with
    | none => rw [hl] at h; simp at h
    | some p => rw [hl] at h; simp at h; omega
   | succ j =>
    have h' : lookN r n (i + 1) = some (i + 1 + j, v) := by rw [h]; simp; omega
    obtain ⟨a, b⟩ := lookN_some h'
    exact ⟨by simpa using a, fun x => by simp [setN, e, b x]⟩
theorem lookN_form {kv : List (S55 × Int)} {n : S55} {j : Nat} {v : Int} (h : lookN kv n 0 = some (j, v)) : kv[j]? = some (n, v) ∧ ∀ x, setN kv n x = kv.set j (n, x) :=
 lookN_some (i := 0) (by simpa using h)
theorem findIdx_bornN {l : List MapEntry} (hn : (l.map (·.born)).Nodup) {j : Nat} {e0 : MapEntry} (h : l[j]? = some e0) : l.findIdx? (fun e => ((e.born : Nat) : Int) == ((e0.born : Nat) : Int)) = some j := by
 induction l generalizing j with
 | nil => simp at h
 | cons a r ih =>
  simp only [List.map_cons, List.nodup_cons] at hn
  cases j with
  | zero =>
   simp only [List.getElem?_cons_zero, Option.some.injEq] at h
   subst h
   simp [List.findIdx?_cons]
  | succ j =>
   simp only [List.getElem?_cons_succ] at h
   have hne : a.born ≠ e0.born := fun e1 => hn.1 (List.mem_map.2 ⟨e0, List.mem_of_getElem? h, e1.symm⟩)
   have hb : (((a.born : Nat) : Int) == ((e0.born : Nat) : Int)) = false := by
    simp only [beq_eq_false_iff_ne, ne_eq, Int.natCast_inj]
    exact hne
   rw [List.findIdx?_cons, hb]
   simp [ih hn.2 h]
theorem findIdxArrN (xs : Array MapEntry) (p : MapEntry → Bool) : xs.findIdx? p = xs.toList.findIdx? p := by
 cases xs
 simp
theorem heapSetN {w : World} {b : Nat} {o o' : Obj} (hb : w.heap[b]? = some o) : (ChangeMaps.setBlock w b o').heap[b]? = some o' := by
 have := (Array.getElem?_eq_some_iff.1 hb).1
 simp [ChangeMaps.setBlock, this]
theorem run_storeN {W : World} {b : Nat} {es : Array MapEntry} {clock st i : Nat} (x : Int) (hb : W.heap[b]? = some (.map es clock)) (hi : es.findIdx? (fun e => ((e.born : Nat) : Int) == ((st : Nat) : Int)) = some i) :
  (Instr.entryStore 80 (.map (some b)) (.int .i64 (st : Int)) (.int .i64 x)).run Try.prog W = .ok () (ChangeMaps.setBlock W b (.map (es.modify i (fun e => { e with val := .int .i64 x })) clock)) := by
 simp [Instr.entryStore, MapKept.run_getObj_map hb, asInt, asIntOf, hi, MapKept.run_setObj_map _ hb, Result.andThen, ChangeMaps.setBlock]
theorem MapN.entry {w : World} {b : Nat} {kv : List (S55 × Int)} (h : MapN w b kv) (n : S55) :
  ∃ (st : Nat) (o1 : Obj), (Instr.mapEntry 80 (.map (some b)) (encN n)).run Try.prog w = .ok (.tuple #[.int .i64 (cntN kv n), .int .i64 (st : Int)]) (ChangeMaps.setBlock w b o1) ∧
   MapN (ChangeMaps.setBlock w b o1) b (setN kv n (cntN kv n)) ∧
   ∀ x : Int, ∃ o2 : Obj, (Instr.entryStore 80 (.map (some b)) (.int .i64 (st : Int)) (.int .i64 x)).run Try.prog (ChangeMaps.setBlock w b o1) = .ok () (ChangeMaps.setBlock (ChangeMaps.setBlock w b o1) b o2) ∧
    MapN (ChangeMaps.setBlock (ChangeMaps.setBlock w b o1) b o2) b (setN kv n x) := by
 obtain ⟨es, clock, hb, he, hlt, hnd⟩ := h
 have hf := run_findN w n es.toList kv he
 cases hl : lookN kv n 0 with
 | none =>
  rw [hl] at hf
  have hset := lookN_none hl
  have hc : cntN kv n = 0 := by simp [cntN, hl]
  have hnd' : ((es.push ⟨encN n, .int .i64 0, clock⟩).toList.map (·.born)).Nodup := by
   simp only [Array.toList_push, List.map_append, List.map_cons, List.map_nil]
   refine List.nodup_append.2 ⟨hnd, by simp, fun a ha c hc e1 => ?_⟩
   simp only [List.mem_singleton] at hc
   obtain ⟨x, hx, rfl⟩ := List.mem_map.1 ha
   have := hlt x hx
   omega
  have hb1 := heapSetN (o' := .map (es.push ⟨encN n, .int .i64 0, clock⟩) (clock + 1)) hb
  refine ⟨clock, .map (es.push ⟨encN n, .int .i64 0, clock⟩) (clock + 1), ?_, ?_, fun x => ⟨.map (es.push ⟨encN n, .int .i64 x, clock⟩) (clock + 1), ?_, ?_⟩⟩
  ·rw [hc]
   simp [Instr.mapEntry, run_underlying Try.underlying80, MapKept.run_getObj_map hb, run_checkN, hf, zeroN, MapKept.run_setObj_map _ hb, Result.andThen, ChangeMaps.setBlock, goInt]
  ·refine ⟨_, _, hb1, ?_, ?_, hnd'⟩
   ·rw [hset, hc]
    simp only [entsN, Array.toList_push, List.map_append] at he ⊢
    rw [he]; rfl
   ·intro y hy
    simp only [Array.toList_push, List.mem_append, List.mem_singleton] at hy
    rcases hy with hy | rfl
    ·exact Nat.lt_succ_of_lt (hlt y hy)
    ·exact Nat.lt_succ_self _
  ·have hidx : (es.push ⟨encN n, .int .i64 0, clock⟩).findIdx? (fun e => ((e.born : Nat) : Int) == ((clock : Nat) : Int)) = some es.size := by
    rw [findIdxArrN]
    exact findIdx_bornN (e0 := ⟨encN n, .int .i64 0, clock⟩) hnd' (by simp)
   have hmod : (es.push ⟨encN n, .int .i64 0, clock⟩).modify es.size (fun e => { e with val := .int .i64 x }) = es.push ⟨encN n, .int .i64 x, clock⟩ := by
    apply Array.ext
    ·simp
    ·intro j h1 h2
     simp only [Array.getElem_modify, Array.getElem_push]
     by_cases hj : j < es.size
     ·have : es.size ≠ j := by omega
      simp [hj, this]
     ·have : es.size = j := by simp at h1; omega
      simp [this]
   rw [run_storeN x hb1 hidx, hmod]
  ·refine ⟨_, _, heapSetN hb1, ?_, ?_, ?_⟩
   ·rw [hset]
    simp only [entsN, Array.toList_push, List.map_append] at he ⊢
    rw [he]; rfl
   ·intro y hy
    simp only [Array.toList_push, List.mem_append, List.mem_singleton] at hy
    rcases hy with hy | rfl
    ·exact Nat.lt_succ_of_lt (hlt y hy)
    ·exact Nat.lt_succ_self _
   ·simpa using hnd'
 | some p =>
  obtain ⟨j, v⟩ := p
  rw [hl] at hf
  obtain ⟨hkv, hset⟩ := lookN_form hl
  have hc : cntN kv n = v := by simp [cntN, hl]
  have hjk : j < kv.length := (List.getElem?_eq_some_iff.1 hkv).1
  have hlen : es.toList.length = kv.length := by simpa [entsN] using congrArg List.length he
  have hjl : j < es.size := by rw [← Array.length_toList]; omega
  obtain ⟨e0, hj⟩ : ∃ e0, es[j]? = some e0 := ⟨_, Array.getElem?_eq_getElem hjl⟩
  have hj' : es.toList[j]? = some e0 := by simpa using hj
  have hej : es[j] = e0 := by rw [Array.getElem?_eq_getElem hjl] at hj; exact Option.some.inj hj
  have hkj : kv[j] = (n, v) := by rw [List.getElem?_eq_getElem hjk] at hkv; exact Option.some.inj hkv
  have hev : e0.key = encN n ∧ e0.val = .int .i64 v := by
   have h1 := congrArg (fun l => l[j]?) he
   simp only [List.getElem?_map, hj', hkv, Option.map_some, Option.some.injEq, Prod.mk.injEq] at h1
   exact h1
  have hsame : es.modify j (fun e => { e with key := encN n }) = es := by
   apply Array.ext
   ·simp
   ·intro i h1 h2
    rw [Array.getElem_modify]
    split
    ·rename_i hij
     subst hij
     have : es[j] = e0 := by rw [Array.getElem?_eq_getElem hjl] at hj; exact Option.some.inj hj
     rw [this, ← hev.1]
    ·rfl
  have hb1 := heapSetN (o' := .map es clock) hb
  have hself : entsN es.toList (setN kv n v) := by
   rw [hset]
   have : kv.set j (n, v) = kv := by
    apply List.ext_getElem?
    intro i
    rw [List.getElem?_set]
    split
    ·rename_i hij
     subst hij
     simp [hjk, hkj]
    ·rfl
   rw [this]; exact he
  refine ⟨e0.born, .map es clock, ?_, ?_, fun x => ⟨.map (es.modify j (fun e => { e with val := .int .i64 x })) clock, ?_, ?_⟩⟩
  ·rw [hc]
   simp [Instr.mapEntry, run_underlying Try.underlying80, MapKept.run_getObj_map hb, run_checkN, hf, hj, hev.1, run_staysN, hsame, MapKept.run_setObj_map _ hb, Result.andThen, ChangeMaps.setBlock, goInt]
  ·exact ⟨_, _, hb1, by rw [hc]; exact hself, hlt, hnd⟩
  ·have hidx : es.findIdx? (fun e => ((e.born : Nat) : Int) == ((e0.born : Nat) : Int)) = some j := by
    rw [findIdxArrN]
    exact findIdx_bornN hnd hj'
   exact run_storeN x hb1 hidx
  ·have hml : (es.modify j (fun e => { e with val := Value.int .i64 x })).toList = es.toList.set j { e0 with val := .int .i64 x } := by
    apply List.ext_getElem?
    intro i
    rw [Array.getElem?_toList, Array.getElem?_modify, List.getElem?_set]
    split
    ·rename_i hij
     subst hij
     simp [hej, hjl]
    ·simp
   refine ⟨_, _, heapSetN hb1, ?_, ?_, ?_⟩
   ·rw [hml, hset]
    simp only [entsN] at he ⊢
    rw [List.map_set, List.map_set, he, hev.1]
   ·intro y hy
    rw [hml] at hy
    rcases List.mem_or_eq_of_mem_set hy with hy | rfl
    ·exact hlt y hy
    ·exact hlt e0 (List.mem_of_getElem? hj')
   ·rw [hml, List.map_set]
    have : (es.toList.map (·.born)).set j e0.born = es.toList.map (·.born) := by
     apply List.ext_getElem?
     intro i
     rw [List.getElem?_set]
     split
     ·rename_i hij
      subst hij
      simp [hej, hjl]
     ·rfl
    rw [show ({ e0 with val := Value.int .i64 x } : MapEntry).born = e0.born from rfl, this]
    exact hnd
/-! #### what PoolOk answers -/
theorem nodeOk_total (a b c i : Int) : ∃ r, impl_nodeOk.f 1 a b c i = some r := by
 have hc : ∃ q, impl_count.f 1 a = some q := by
  unfold impl_count.f
  simp only [impl_count.j0]
  repeat' split
  all_goals exact ⟨_, rfl⟩
 have hr : ∀ x y z : Int, ∃ q, impl_inRange.f x y z = some q := fun x y z => by
  unfold impl_inRange.f
  split <;> exact ⟨_, rfl⟩
 obtain ⟨q, hq⟩ := hc
 obtain ⟨q1, h1⟩ := hr b 0 199
 obtain ⟨q2, h2⟩ := hr b 0 (wrap64 (i - 1))
 obtain ⟨q3, h3⟩ := hr c 0 (wrap64 (i - 1))
 unfold impl_nodeOk.f
 rw [hq, h1, h2, h3]
 simp only [Option.bind_some]
 repeat' split
 all_goals exact ⟨_, rfl⟩
def nodeOkB (n : S55) (i : Int) : Bool := (impl_nodeOk.f 1 n.f0 n.f1 n.f2 i).getD false
theorem nodeOk_at (n : S55) (i : Int) : impl_nodeOk.f 1 n.f0 n.f1 n.f2 i = some (nodeOkB n i) := by
 obtain ⟨r, h⟩ := nodeOk_total n.f0 n.f1 n.f2 i
 simp [nodeOkB, h]
def okStep (l : List S55) (i : Nat) : Bool := decide (rd_T55 l i ∉ l.take i) && nodeOkB (rd_T55 l i) i
def okFrom (l : List S55) : Nat → Nat → Bool
 | 0, _ => true
 | d + 1, i => okStep l i && okFrom l d (i + 1)
def poolOkB (l : List S55) : Bool := decide (l.length ≤ 500) && okFrom l l.length 0
def impl_PoolOk.f (l0_0 : List S55) : Option Bool := some (poolOkB l0_0)
theorem below_setBlock {B : Nat} {w W : World} (h : Below B w W) {b : Nat} (hb : B ≤ b) (o : Obj) : Below B w (ChangeMaps.setBlock W b o) :=
 h.trans ⟨rfl, rfl, rfl, by simp [ChangeMaps.setBlock], fun i hi => by
  have : b ≠ i := by omega
  simp [ChangeMaps.setBlock, this]⟩
theorem cell_setBlock (W : World) (b : Nat) (o : Obj) (a : Addr) (h : a.block ≠ b) : (ChangeMaps.setBlock W b o).cell? a = W.cell? a := by
 simp [World.cell?, ChangeMaps.setBlock, Ne.symm h]
theorem MapN.of_heap {w w' : World} {b : Nat} {kv : List (S55 × Int)} (h : MapN w b kv) (e : w'.heap[b]? = w.heap[b]?) : MapN w' b kv := by
 obtain ⟨es, clock, h1, h2⟩ := h
 exact ⟨es, clock, e.trans h1, h2⟩
set_option maxHeartbeats 8000000 in
set_option maxRecDepth 100000 in
theorem impl_PoolOk.calls (A0_0 : Option Addr) (c0_0 : Nat) (l0_0 : List S55) (r : Bool) (w : World) (hr0_0 : Kd.C k55 w A0_0 l0_0.length l0_0) (hc0_0 : l0_0.length ≤ c0_0) (h : impl_PoolOk.f l0_0 = some r) :
  Calls Try.prog 32 #[.agg #[.slice A0_0 l0_0.length c0_0]] w fun e w' => e = .returned (.bool r) ∧ Below w.heap.size w w' := by
 have HR := Aside0.mk hr0_0
 have HF := Aside0.mk (Option.some.inj h)
 clear hr0_0 h hc0_0
 have hu29 := Try.underlying28
 have hu67 := Try.underlying55
 have hmm := @run_makeMap Try.prog
 by_cases hbig : (l0_0.length : Int) > 500
 ·have hb0 : decide (500 < (l0_0.length : Int)) = true := by simpa using hbig
  have hb1 : decide (500 < l0_0.length) = true := by simp; omega
  have HV : Aside0 (r = false) := ⟨by rw [← HF.out]; simp [poolOkB]; omega⟩
  clear hbig HF
  obtain rfl := HV.out
  go_enter Try.func32, Try.ntmps32
  go_wp2
  go_ret
  exact ⟨rfl, (Below.refl _ _).alloc (Nat.le_refl _) _⟩
 have hb0 : decide (500 < (l0_0.length : Int)) = false := by simpa using hbig
 have hb1 : decide (500 < l0_0.length) = false := by simp; omega
 have HL := Aside0.mk (show l0_0.length ≤ 500 by omega)
 have HV := Aside0.mk (show okFrom l0_0 l0_0.length 0 = r by rw [← HF.out]; simp [poolOkB]; omega)
 clear hbig HF
 go_enter Try.func32, Try.ntmps32
 go_wp2
 go_loopw [14] (fun v wr => ∃ i : Nat, v = .int .i64 i ∧ Aside0 (i ≤ l0_0.length) ∧ Aside0 (okFrom l0_0 (l0_0.length - i) i = r) ∧ Aside0 (MapN wr (w.heap.size + 1) ((l0_0.take i).map fun m => (m, (1 : Int)))) ∧ Aside0 (Below w.heap.size w wr) ∧ Aside0 (w.heap.size + 1 < wr.heap.size)) (fun v _ => l0_0.length - (intOf v).toNat)
 case atStart =>
  refine ⟨0, rfl, ⟨Nat.zero_le _⟩, ⟨HV.out⟩, ⟨⟨#[], 0, ?_, rfl, by simp, by simp⟩⟩, ⟨((Below.refl _ _).alloc (Nat.le_refl _) _).alloc (by simp) _⟩, ⟨by simp⟩⟩
  have h_ := (MapKept.heap_alloc (w.alloc (.cells #[Value.slice A0_0 l0_0.length c0_0] 28)) (.map #[] 0)).1
  simpa using h_
 case round =>
  obtain ⟨i, rfl, HI, HR1, HM, HB, HZ⟩ := hrel
  by_cases hlt : i < l0_0.length
  rotate_left
  ·have : i = l0_0.length := by have := HI.out; omega
   subst this
   have HF : Aside0 (true = r) := ⟨by have := HR1.out; rwa [Nat.sub_self] at this⟩
   clear HR1
   obtain rfl := HF.out
   go_wp2
   go_ret
   exact ⟨rfl, HB.out⟩


  have hle := HL.out
  obtain ⟨ad, rfl, h0, h1, h2⟩ := at_T55 (Kd.C_below HR.out HB.out) (i : Int) (by omega) (by omega)
  simp only [Int.toNat_natCast] at h0 h1 h2
  obtain ⟨n, hn⟩ : ∃ n, rd_T55 l0_0 (i : Int) = n := ⟨_, rfl⟩
  rw [hn] at h0 h1 h2
  have Hn := Aside0.mk hn
  clear hn
  go_wp2
  obtain ⟨W, hW⟩ : ∃ W, wr.alloc (.cells #[.int .i64 n.f0, .int .i64 n.f1, .int .i64 n.f2] 55) = W := ⟨_, rfl⟩
  have hWb : W.heap[wr.heap.size]? = some (.cells #[.int .i64 n.f0, .int .i64 n.f1, .int .i64 n.f2] 55 (0, 0)) := by rw [← hW]; exact (MapKept.heap_alloc _ _).1
  have hMW : MapN W (w.heap.size + 1) ((l0_0.take i).map fun m => (m, (1 : Int))) := HM.out.of_heap (by rw [← hW]; exact (MapKept.heap_alloc wr _).2 _ HZ.out)
  have HBW := Aside0.mk (show Below w.heap.size w W by rw [← hW]; exact HB.out.alloc HB.out.size _)
  have HZW := Aside0.mk (show w.heap.size + 1 < W.heap.size by rw [← hW]; have := HZ.out; simp; omega)
  have HNE := Aside0.mk (show wr.heap.size ≠ w.heap.size + 1 by have := HZ.out; omega)
  rw [hW]
  clear hW HM HB h0 h1 h2
  obtain ⟨st, o1, e2, hM1, hst⟩ := MapN.entry (w := W.drew) hMW n
  have e1 := MapN.look (w := W.drew) hMW n
  have e3 := hM1.look n
  rw [cntN_set] at e3
  have c0 : W.cell? ⟨wr.heap.size, 0, none⟩ = some (.int .i64 n.f0) := (blk_cell hWb 0).trans rfl
  have c1 : W.cell? ⟨wr.heap.size, 1, none⟩ = some (.int .i64 n.f1) := (blk_cell hWb 1).trans rfl
  have c2 : W.cell? ⟨wr.heap.size, 2, none⟩ = some (.int .i64 n.f2) := (blk_cell hWb 2).trans rfl
  have d0 := (cell_setBlock W.drew (w.heap.size + 1) o1 ⟨wr.heap.size, 0, none⟩ HNE.out).trans c0
  have d1 := (cell_setBlock W.drew (w.heap.size + 1) o1 ⟨wr.heap.size, 1, none⟩ HNE.out).trans c1
  have d2 := (cell_setBlock W.drew (w.heap.size + 1) o1 ⟨wr.heap.size, 2, none⟩ HNE.out).trans c2
  have HB1 := Aside0.mk (below_setBlock (below_drew HBW.out) (b := w.heap.size + 1) (by omega) o1)
  have HZ1 := Aside0.mk (show w.heap.size + 1 < (ChangeMaps.setBlock W.drew (w.heap.size + 1) o1).heap.size by have := HZW.out; simpa [ChangeMaps.setBlock] using this)
  rw [cntN_ones] at e1 e2 e3 hM1
  obtain ⟨W1, hW1⟩ : ∃ W1, ChangeMaps.setBlock W.drew (w.heap.size + 1) o1 = W1 := ⟨_, rfl⟩
  rw [hW1] at e2 e3 d0 d1 d2 hM1 hst HB1 HZ1
  clear hW1 hWb hMW
  have key : ∀ x : Int, ∃ W2, (Instr.entryStore 80 (.map (some (w.heap.size + 1))) (.int .i64 (st : Int)) (.int .i64 x)).run Try.prog W1 = .ok () W2 ∧ MapN W2 (w.heap.size + 1) (setN ((l0_0.take i).map fun m => (m, (1 : Int))) n x) ∧ Below w.heap.size w W2 ∧ w.heap.size + 1 < W2.heap.size ∧
    W2.cell? ⟨wr.heap.size, 0, none⟩ = some (.int .i64 n.f0) ∧ W2.cell? ⟨wr.heap.size, 1, none⟩ = some (.int .i64 n.f1) ∧ W2.cell? ⟨wr.heap.size, 2, none⟩ = some (.int .i64 n.f2) := fun x => by
   obtain ⟨o2, e4, hM2⟩ := hst x
   exact ⟨_, e4, hM2, below_setBlock HB1.out (by omega) _, by have := HZ1.out; simpa [ChangeMaps.setBlock] using this, (cell_setBlock W1 (w.heap.size + 1) o2 ⟨wr.heap.size, 0, none⟩ HNE.out).trans d0, (cell_setBlock W1 (w.heap.size + 1) o2 ⟨wr.heap.size, 1, none⟩ HNE.out).trans d1, (cell_setBlock W1 (w.heap.size + 1) o2 ⟨wr.heap.size, 2, none⟩ HNE.out).trans d2⟩
  clear hst
  by_cases hmem : n ∈ l0_0.take i
  ·have HF : Aside0 (false = r) := ⟨by
    have h_ := HR1.out
    obtain ⟨d, hd⟩ : ∃ d, l0_0.length - i = d + 1 := ⟨l0_0.length - i - 1, by omega⟩
    rw [hd] at h_
    simp only [okFrom, okStep, Hn.out] at h_
    rw [← h_]
    simp [hmem]⟩
   clear HR1
   obtain rfl := HF.out
   rw [if_pos hmem] at e1 e2 e3 hM1
   obtain ⟨W2, e4, hM2, hB2, _, f0, f1, f2⟩ := key 2
   have e5 := hM2.look n
   rw [cntN_set] at e5
   have HB2 := Aside0.mk hB2
   clear key hM1 hM2 hB2 hmem HF
   simp only [encN] at e1 e2 e3 e5
   have b2 : decide ((1 : Int) < 2) = true := rfl
   go_region
   all_goals go_wp2
   all_goals go_ret
   all_goals exact ⟨rfl, HB2.out⟩
  rw [if_neg hmem] at e1 e2 e3 hM1
  obtain ⟨W2, e4, hM2, hB2, hZ2, f0, f1, f2⟩ := key 1
  have e5 := hM2.look n
  rw [cntN_set] at e5
  have HB2 := Aside0.mk hB2
  have HZ2 := Aside0.mk hZ2
  have HM2 := Aside0.mk (show MapN W2 (w.heap.size + 1) ((l0_0.take (i + 1)).map fun m => (m, (1 : Int))) by
   rw [setN_new _ _ _ (by simp only [List.map_map]; rw [show ((fun x : S55 × Int => x.1) ∘ fun m => (m, (1 : Int))) = id from rfl, List.map_id]; exact hmem)] at hM2
   have hl : l0_0[i] = n := by rw [← Hn.out]; simp [rd_T55, hlt]
   rw [List.take_succ_eq_append_getElem hlt, hl]
   simpa using hM2)
  have HS := Aside0.mk (show okFrom l0_0 (l0_0.length - i) i = (nodeOkB n i && okFrom l0_0 (l0_0.length - (i + 1)) (i + 1)) by
   obtain ⟨d, hd⟩ : ∃ d, l0_0.length - i = d + 1 := ⟨l0_0.length - i - 1, by omega⟩
   rw [hd, show l0_0.length - (i + 1) = d by omega]
   simp only [okFrom, okStep, Hn.out]
   simp [hmem])
  have HC := Aside0.mk (nodeOk_at n i)
  clear key hM1 hM2 hB2 hZ2 hmem
  simp only [encN] at e1 e2 e3 e5
  have b2 : decide ((1 : Int) < 1) = false := rfl
  obtain ⟨q, hq⟩ : ∃ q, nodeOkB n i = q := ⟨_, rfl⟩
  rw [hq] at HS HC
  clear hq
  cases q with
  | false =>
   have HF : Aside0 (false = r) := ⟨by rw [← HR1.out, HS.out]; rfl⟩
   clear HR1 HS
   obtain rfl := HF.out
   go_region
   all_goals go_wp2_with (go_at_call 59; (with_reducible refine (impl_nodeOk.calls 1 n.f0 n.f1 n.f2 (i : Int) false _ HC.out).mono ?_); rintro e w' ⟨rfl, hb⟩; have HB3 := Aside0.mk hb; clear hb)
   all_goals go_ret
   all_goals exact ⟨rfl, below_then HB2.out HB2.out.size HB3.out⟩
  | true =>
   have HR2 : Aside0 (okFrom l0_0 (l0_0.length - (i + 1)) (i + 1) = r) := ⟨by rw [← HR1.out, HS.out]; rfl⟩
   clear HR1 HS
   go_region
   all_goals go_wp2_with (go_at_call 59; (with_reducible refine (impl_nodeOk.calls 1 n.f0 n.f1 n.f2 (i : Int) true _ HC.out).mono ?_); rintro e w' ⟨rfl, hb⟩; have HB3 := Aside0.mk hb; clear hb)
   all_goals go_roundw
   case rel => exact ⟨i + 1, rfl, ⟨hlt⟩, ⟨HR2.out⟩, ⟨HM2.out.of_heap (HB3.out.block _ HZ2.out)⟩, ⟨below_then HB2.out HB2.out.size HB3.out⟩, ⟨Nat.lt_of_lt_of_le HZ2.out HB3.out.size⟩⟩
   case measure => simp [intOf]; omega
/-! ### impl_Pool_isTerm: function 33 -/
def impl_Pool_isTerm.f (l0_0 : List (S55)) (a1 : Int) : Option (Bool) := (impl_inRange.f a1 0 (wrap64 ((l0_0.length : Int) - 1))).bind fun t167 => (some t167)
set_option maxHeartbeats 8000000 in
set_option maxRecDepth 100000 in
theorem impl_Pool_isTerm.calls (g0_ : Nat) (A0_0 : Option Addr) (c0_0 : Nat) (l0_0 : List (S55)) (a1 : Int) (r : Bool) (w : World) (hk0_ : w.heap[g0_]? = some (.cells #[.slice A0_0 l0_0.length c0_0] 28 (0, 0))) (hr0_0 : Kd.C k55 w A0_0 l0_0.length l0_0) (hc0_0 : l0_0.length ≤ c0_0) (h : impl_Pool_isTerm.f l0_0 a1 = some r) :
  Calls Try.prog 33 #[.pointer (some ⟨g0_, 0, none⟩), .int .i64 a1] w fun e w' => e = .returned (.bool r) ∧ Below w.heap.size w w' := by
 have HR0_0 := Aside0.mk hr0_0
 have HC0_0 := Aside0.mk hc0_0
 clear hr0_0 hc0_0
 have BK0 := Aside0.mk hk0_
 clear hk0_
 have HB := Aside0.mk (Below.refl w.heap.size w)
 have H : ((impl_inRange.f a1 0 (wrap64 ((l0_0.length : Int) - 1))).bind fun t167 => (some t167)) = some r := h
 clear h
 replace H := Option.bind_eq_some_iff.mp H
 obtain ⟨t167, A30, H⟩ := H
 replace H : (some t167) = some r := H
 have A3 := Aside0.mk A30
 clear A30
 obtain rfl := Option.some.inj H
 have hcz4_0 : w.cell? ⟨g0_, 0, none⟩ = some (.slice A0_0 l0_0.length c0_0) := (blk_cell BK0.out 0).trans rfl
 have hfz4_0 := blk_frozen BK0.out 0
 go_enter Try.func33, Try.ntmps33
 go_wp2_with (first | ((with_reducible refine gate_callee (f := 60) rfl ?_); refine goesL_ (some 12) rfl rfl Try.func60 (by kernel_rfl) rfl #[.int .i64 a1, .int .i64 0, .int .i64 (wrap64 ((l0_0.length : Int) - 1))] rfl zl ?_; (with_reducible refine (impl_inRange.calls a1 0 (wrap64 ((l0_0.length : Int) - 1)) t167 _ A3.out).mono ?_); rintro e w' ⟨rfl, ⟨nd, rfl⟩⟩; refine ⟨_, rfl, ?_⟩))
 go_ret
 exact ⟨ze, zb HB.out⟩


/-! ### impl_Node_61: function 61 -/
-- IMPORT Derived.Lib.SliceRun
def impl_Node_61.f (l0 : List S55) : Option (List S55) := if l0.length < 5864062014805 then some l0 else none
set_option maxHeartbeats 8000000 in
set_option maxRecDepth 100000 in
theorem impl_Node_61.calls (A0 : Option Addr) (c0 : Nat) (l0 : List S55) (r : List S55) (w : World) (hr0 : Kd.C k55 w A0 l0.length l0) (hc0 : l0.length ≤ c0) (h : impl_Node_61.f l0 = some r) :
  Calls Try.prog 61 #[.slice A0 l0.length c0] w fun e w' => ∃ v0_ : Value, e = .returned v0_ ∧ Kd.R k55 55 w' w.heap.size (fun _ => True) v0_ r ∧ Below w.heap.size w w' := by
 have HB := Aside0.mk (Below.refl w.heap.size w)
 have hnil := fun (w : World) (a : Option Addr) (n c : Nat) => Go.Lib.run_eql_slice_nil (P := Try.prog) w 26 55 a n c 0 0 Try.underlying26
 unfold impl_Node_61.f at h
 by_cases hl : l0.length < 5864062014805
 case neg => rw [if_neg hl] at h; exact absurd h (by simp)
 rw [if_pos hl] at h
 obtain rfl := Option.some.inj h
 cases A0 with
 | none =>
  have hn : l0 = [] := by
   by_cases h0 : 0 < l0.length
   rotate_left
   ·exact List.eq_nil_of_length_eq_zero (by omega)
   obtain ⟨ad, e, _⟩ := hr0.2.2 h0
   exact absurd e (by simp)
  subst hn
  go_enter Try.func61, Try.ntmps61
  go_wp2
  repeat (go_quiet (fail); try go_wp2)
  go_ret
  exact ⟨_, rfl, Kd.R_nil _ _ _ _ _, zb HB.out⟩
 | some a =>
  have HR0 := Aside0.mk hr0
  go_enter Try.func61, Try.ntmps61
  go_wp2_with (first | ((with_reducible refine gate_dst (N := 5) rfl ?_); refine Kd.R_lit k55 _ 55 ?hg (N := 5) ?hd (xs := ([] : List (S55))) (inner := []) (ok := fun _ => True) (okp := fun _ => True) ?hr ?hp (fun _ hk => hk) trivial (Below.refl _ _) (Nat.le_refl _) (by simp) ?_; (case hd => rfl); (case hg => rfl); (case hr => first | (go_simp; done) | (go_simp; rfl)); (case hp => exact (Reps.none _ _)); intro v120 w5 ho6 hb hg_ hnew_; clear hg_ hnew_; have n0_ := Aside0.mk (Kd.R_lower ho6 (below_size (zb HB.out))); have n3_ := Aside0.mk (below_step (zb HB.out) hb); clear HB; have HO121 := n0_; have HB := n3_; clear n0_ n3_ hb ho6) | ((with_reducible refine gate_builtin (b := .append) (xs := #[.tmp 5, .tmp 6]) rfl ?_); at_builtin; refine Kd.R_append_rows k55 (w0 := w) w.heap.size rfl (.tmp 5) (.tmp 6) 26 55 (.agg #[(.int .i64 0), (.int .i64 0), (.int .i64 0)]) 24 rfl Try.underlying26 info55 rfl (by decide) (by omega) v120 ([] : List (S55)) l0 _ _ _ (fun _ => True) (fun _ => False) rfl rfl ?aO ?aR (fun _ _ h => h) (fun _ h => h.elim) ?aF ?aB ?aS ?aL ?_; (case aR => exact zc (Kd.C_below HR0.out HB.out)); (case aB => exact (zb HB.out)); (case aF => exact (fun _ _ => trivial)); (case aO => exact (zr HO121.out)); (case aS => exact (below_size (zb HB.out))); (case aL => simp; omega); intro v123 w9 ho hb hg hat; rw [List.nil_append] at ho; have n2_ := Aside0.mk hb; have n3_ := Aside0.mk ho; clear HB HO121; have HB := n2_; have HO124 := n3_; clear n2_ n3_ ho hb hg hat; obtain ⟨Ao10, co10, eo10⟩ := Kd.R_slice HO124.out; subst eo10))
  go_ret
  exact ⟨_, rfl, zr HO124.out, zb HB.out⟩


/-! ### impl_copyPool: function 34 -/
def impl_copyPool.f (l0_0 : List (S55)) : Option ((List (S55))) := (impl_Node_61.f l0_0).bind fun t170 => (some t170)
set_option maxHeartbeats 8000000 in
set_option maxRecDepth 100000 in
theorem impl_copyPool.calls (A0_0 : Option Addr) (c0_0 : Nat) (l0_0 : List (S55)) (r : List (S55)) (w : World) (hr0_0 : Kd.C k55 w A0_0 l0_0.length l0_0) (hc0_0 : l0_0.length ≤ c0_0) (h : impl_copyPool.f l0_0 = some r) :
  Calls Try.prog 34 #[.agg #[.slice A0_0 l0_0.length c0_0]] w fun e w' => ∃ v0_ : Value, e = .returned (.agg #[v0_]) ∧ Kd.R k55 55 w' w.heap.size (fun _ => True) v0_ r ∧ Below w.heap.size w w' := by
 have hu28 := Try.underlying28
 have HR0_0 := Aside0.mk hr0_0
 have HC0_0 := Aside0.mk hc0_0
 clear hr0_0 hc0_0
 have HB := Aside0.mk (Below.refl w.heap.size w)
 have H : ((impl_Node_61.f l0_0).bind fun t170 => (some t170)) = some r := h
 clear h
 replace H := Option.bind_eq_some_iff.mp H
 obtain ⟨t170, A20, H⟩ := H
 replace H : (some t170) = some r := H
 have A2 := Aside0.mk A20
 clear A20
 obtain rfl := Option.some.inj H
 go_enter Try.func34, Try.ntmps34
 go_wp2_with (first | ((with_reducible refine gate_dst (N := 1) rfl ?_); refine box_event ?hg (N := 1) ?hd (cs := #[.slice A0_0 l0_0.length c0_0]) (t := 28) ?hr ?_; (case hd => rfl); (case hg => rfl); (case hr => first | (go_simp; done) | (go_simp; rfl)); intro gb168 hg w3 hbox hb; have n0_ := Aside0.mk (below_step (zb HB.out) hb); have n1_ := Aside0.mk (hbox); have n2_ := Aside0.mk ((by rw [hg]; exact (below_size (zb HB.out)) : w.heap.size ≤ gb168)); have n3_ := Aside0.mk ((by rw [hg]; exact (below_size (zb HB.out)) : w.heap.size ≤ gb168)); clear HB; have HB := n0_; have BK168 := n1_; have GW168 := n2_; have GE168 := n3_; clear n0_ n1_ n2_ n3_ hb hbox hg) | ((with_reducible refine gate_dst (N := 2) rfl ?_); refine box_event ?hg (N := 2) ?hd (cs := #[.slice none 0 0]) (t := 28) ?hr ?_; (case hd => rfl); (case hg => rfl); (case hr => first | (go_simp; done) | (go_simp; rfl)); intro gb169 hg w4 hbox hb; have n0_ := Aside0.mk (blk_below (zh BK168.out) hb); have n1_ := Aside0.mk (below_step (zb HB.out) hb); have n2_ := Aside0.mk (hbox); have n3_ := Aside0.mk ((by rw [hg]; exact (below_size (zb HB.out)) : w.heap.size ≤ gb169)); have n4_ := Aside0.mk ((by rw [hg]; exact (below_size (zb HB.out)) : w.heap.size ≤ gb169)); have n5_ := Aside0.mk ((by rw [hg]; exact Nat.ne_of_lt (blk_lt (zh BK168.out)) : gb168 ≠ gb169)); have n6_ := Aside0.mk ((by rw [hg]; exact Nat.ne_of_gt (blk_lt (zh BK168.out)) : gb169 ≠ gb168)); clear BK168 HB; have BK168 := n0_; have HB := n1_; have BK169 := n2_; have GW169 := n3_; have GE169 := n4_; have NB168_169 := n5_; have NB169_168 := n6_; clear n0_ n1_ n2_ n3_ n4_ n5_ n6_ hb hbox hg; have hnb5 := NB168_169.out; have hnc5 := NB169_168.out; have hcz6_0 : w4.cell? ⟨gb168, 0, none⟩ = some (.slice A0_0 l0_0.length c0_0) := (blk_cell BK168.out 0).trans rfl; have hfz6_0 := blk_frozen BK168.out 0) | ((with_reducible refine gate_callee (f := 61) rfl ?_); refine goesL_ (some 5) rfl rfl Try.func61 (by kernel_rfl) rfl #[.slice A0_0 l0_0.length c0_0] rfl zl ?_; (with_reducible refine (impl_Node_61.calls _ _ l0_0 t170 _ ?side1 ?side2 A2.out).mono ?_); (case side1 => exact zc (Kd.C_below HR0_0.out HB.out)); (case side2 => exact HC0_0.out); rintro e w7 ⟨v171, rfl, ho0, hb⟩; refine ⟨_, rfl, ?_⟩; have n0_ := Aside0.mk (Kd.R_lower ho0 (below_size (zb HB.out))); have n1_ := Aside0.mk (blk_below (zh BK168.out) hb); have n2_ := Aside0.mk (blk_below (zh BK169.out) hb); have n3_ := Aside0.mk (below_step (zb HB.out) hb); clear BK168 BK169 HB; have HO172 := n0_; have BK168 := n1_; have BK169 := n2_; have HB := n3_; clear n0_ n1_ n2_ n3_; (try clear hb); (try clear hb2); (try clear hk); (try clear hi); (try clear ho0); obtain ⟨Ao8, co8, eo8⟩ := Kd.R_slice HO172.out; subst eo8; have hcz9_0 : w7.cell? ⟨gb169, 0, none⟩ = some (.slice none 0 0) := (blk_cell BK169.out 0).trans rfl; have hfz9_0 := blk_frozen BK169.out 0))
 refine bodyPost_ret (results_cell_row rfl _ _ gb169 28 #[.slice Ao8 t170.length co8] (0, 0) _ rfl (by (with_reducible repeat (first | refine blk_drewN ?_ _ | refine blk_drew ?_ | refine blk_alloc ?_ _)); refine blk_put (cs := #[.slice none 0 0]) ?_ 0 _ rfl; (with_reducible repeat (first | refine blk_drewN ?_ _ | refine blk_drew ?_ | refine blk_alloc ?_ _)); exact BK169.out) Try.underlying28 rfl (by kernel_rfl)) rfl ?_
 exact ⟨_, ze, zr (Kd.R_mono (Kd.R_far (p := ⟨gb169, 0, none⟩) (Kd.R_types HO172.out BK169.out (by decide)) (fun _ hk => hk.2) (.slice Ao8 t170.length co8)) (fun _ hk => trivial)), zb HB.out⟩

end Go.Proofs.Ytobkledmbnacjaa.M
end

section
namespace Go.Proofs.Ytobkledmbnacjaa.M
open Go.RowKit Go.Proofs.YtobkledmbnacjaaW.PrintWords Go.Proofs.YtobkledmbnacjaaW.PrintLast Go.Proofs.YtobkledmbnacjaaW.PrintMore
attribute [local go_sem] max2_int min2_int max_two min_two max_three min_three max_four min_four   -- for this text's walks alone
set_option linter.unusedVariables false
set_option linter.unusedSimpArgs false
set_option maxRecDepth 100000

/-! ### impl_Pool_parts: function 52 -/
def impl_Pool_parts.f (k : Nat) (l0_0 : List (S55)) (a1 : Int) : Option (List Int) := if 0 ≤ a1 then (if a1 < (l0_0.length : Int) then ((impl_count.f k ((rd_T55 l0_0 a1).f0)).bind fun t175 => (if t175 = 1 then (some (([(rd_T55 l0_0 a1).f1] : List Int))) else (if t175 = 2 then (some (([(rd_T55 l0_0 a1).f1, (rd_T55 l0_0 a1).f2] : List Int))) else (some ([] : List Int))))) else (none)) else (none)
set_option maxHeartbeats 8000000 in
set_option maxRecDepth 100000 in
theorem impl_Pool_parts.calls (k : Nat) (g0_ : Nat) (A0_0 : Option Addr) (c0_0 : Nat) (l0_0 : List (S55)) (a1 : Int) (r : List Int) (w : World) (hk0_ : w.heap[g0_]? = some (.cells #[.slice A0_0 l0_0.length c0_0] 28 (0, 0))) (hr0_0 : Kd.C k55 w A0_0 l0_0.length l0_0) (hc0_0 : l0_0.length ≤ c0_0) (h : impl_Pool_parts.f k l0_0 a1 = some r) :
  Calls Try.prog 52 #[.pointer (some ⟨g0_, 0, none⟩), .int .i64 a1] w fun e w' => ∃ v0_ : Value, e = .returned (v0_) ∧ Kd.R (Kd.int .i64) 3 w' w.heap.size (fun _ => True) v0_ r ∧ Below w.heap.size w w' := by
 have hu55 := Try.underlying55
 have HR0_0 := Aside0.mk hr0_0
 have HC0_0 := Aside0.mk hc0_0
 clear hr0_0 hc0_0
 have BK0 := Aside0.mk hk0_
 clear hk0_
 have HB := Aside0.mk (Below.refl w.heap.size w)
 have H : (if 0 ≤ a1 then (if a1 < (l0_0.length : Int) then ((impl_count.f k ((rd_T55 l0_0 a1).f0)).bind fun t175 => (if t175 = 1 then (some (([(rd_T55 l0_0 a1).f1] : List Int))) else (if t175 = 2 then (some (([(rd_T55 l0_0 a1).f1, (rd_T55 l0_0 a1).f2] : List Int))) else (some ([] : List Int))))) else (none)) else (none)) = some r := h
 clear h
 by_cases c3 : 0 ≤ a1
 rotate_left
 ·rw [if_neg c3] at H
  exact absurd H (by simp)

 rw [if_pos c3] at H
 have c3b0 : decide (0 ≤ a1) = true := decide_eq_true c3
 clear c3
 by_cases c4 : a1 < (l0_0.length : Int)
 rotate_left
 ·rw [if_neg c4] at H
  exact absurd H (by simp)
 rw [if_pos c4] at H
 have c4b0 : decide (a1 < (l0_0.length : Int)) = true := decide_eq_true c4
 clear c4
 replace H := Option.bind_eq_some_iff.mp H
 obtain ⟨t175, A50, H⟩ := H
 replace H : (if t175 = 1 then (some (([(rd_T55 l0_0 a1).f1] : List Int))) else (if t175 = 2 then (some (([(rd_T55 l0_0 a1).f1, (rd_T55 l0_0 a1).f2] : List Int))) else (some ([] : List Int)))) = some r := H
 have A5 := Aside0.mk A50
 clear A50
 by_cases c6 : t175 = 1
 ·rw [if_pos c6] at H
  have c6b0 : (t175 == 1) = true := beq_iff_eq.mpr c6
  have c6b1 : (t175 != 1) = false := bne_eq_false_iff_eq.mpr c6
  clear c6
  obtain ⟨y176, hy176⟩ : ∃ y_ : List Int, y_ = (([(rd_T55 l0_0 a1).f1] : List Int)) := ⟨_, rfl⟩
  replace H : (some y176) = some r := by first | (rw [hy176]; with_reducible exact H) | (have H2_ := (Option.bind_some _ _).symm.trans H; rw [hy176]; with_reducible exact H2_) | (have H2_ := (Option.bind_some _ _).symm.trans H; with_reducible exact H2_) | with_reducible exact H | (rw [hy176]; exact H) | exact H
  have Ny176 := Aside0.mk hy176
  clear hy176
  obtain rfl := Option.some.inj H
  have hcz7_0 : w.cell? ⟨g0_, 0, none⟩ = some (.slice A0_0 l0_0.length c0_0) := (blk_cell BK0.out 0).trans rfl
  have hfz7_0 := blk_frozen BK0.out 0
  have p173 : 0 ≤ (a1 : Int) := of_decide_eq_true (by first | (with_reducible assumption) | assumption)
  have q173 : a1 < (l0_0.length : Int) := of_decide_eq_true (by first | (with_reducible assumption) | assumption)
  obtain ⟨ad173, e173, hx173_0, hx173_1, hx173_2⟩ := at_T55 HR0_0.out a1 p173 q173
  cases e173
  replace p173 := eq_true p173
  replace q173 := eq_true q173
  go_enter Try.func52, Try.ntmps52
  go_wp2_with (first | ((with_reducible refine gate_dst (N := 5) rfl ?_); refine box_event ?hg (N := 5) ?hd (cs := #[.int .i64 0, .int .i64 0, .int .i64 0]) (t := 55) ?hr ?_; (case hd => rfl); (case hg => rfl); (case hr => first | (go_simp; done) | (go_simp; rfl)); intro gb174 hg w8 hbox hb; have n0_ := Aside0.mk (blk_below (zh BK0.out) hb); have n1_ := Aside0.mk (below_step (zb HB.out) hb); have n2_ := Aside0.mk (hbox); have n3_ := Aside0.mk ((by rw [hg]; exact (below_size (zb HB.out)) : w.heap.size ≤ gb174)); have n4_ := Aside0.mk ((by rw [hg]; exact (below_size (zb HB.out)) : w.heap.size ≤ gb174)); have n5_ := Aside0.mk ((by rw [hg]; exact Nat.ne_of_lt (blk_lt (zh BK0.out)) : g0_ ≠ gb174)); have n6_ := Aside0.mk ((by rw [hg]; exact Nat.ne_of_gt (blk_lt (zh BK0.out)) : gb174 ≠ g0_)); clear BK0 HB; have BK0 := n0_; have HB := n1_; have BK174 := n2_; have GW174 := n3_; have GE174 := n4_; have NB0_174 := n5_; have NB174_0 := n6_; clear n0_ n1_ n2_ n3_ n4_ n5_ n6_ hb hbox hg; have hnb9 := NB174_0.out; have hnc9 := NB0_174.out; have hcz10_0 : w8.cell? ⟨gb174, 0, none⟩ = some (.int .i64 0) := (blk_cell BK174.out 0).trans rfl; have hcz10_1 : w8.cell? ⟨gb174, 1, none⟩ = some (.int .i64 0) := (blk_cell BK174.out 1).trans rfl; have hcz10_2 : w8.cell? ⟨gb174, 2, none⟩ = some (.int .i64 0) := (blk_cell BK174.out 2).trans rfl; have hfz10_0 := blk_frozen BK174.out 0; have hfz10_1 := blk_frozen BK174.out 1; have hfz10_2 := blk_frozen BK174.out 2) | ((with_reducible refine gate_callee (f := 63) rfl ?_); refine goesL_ (some 15) rfl rfl Try.func63 (by kernel_rfl) rfl #[.int .i64 ((rd_T55 l0_0 a1).f0)] rfl zl ?_; (with_reducible refine (impl_count.calls k ((rd_T55 l0_0 a1).f0) t175 _ A5.out).mono ?_); rintro e w' ⟨rfl, ⟨nd, rfl⟩⟩; refine ⟨_, rfl, ?_⟩) | ((with_reducible refine gate_dst (N := 20) rfl ?_); refine Kd.R_lit (Kd.int .i64) _ 3 ?hg (N := 20) ?hd (xs := ([(rd_T55 l0_0 a1).f1] : List Int)) (inner := [.int .i64 ((rd_T55 l0_0 a1).f1)]) (ok := fun _ => True) (okp := fun _ => True) ?hr ?hp (fun _ hk => hk) trivial (Below.refl _ _) (Nat.le_refl _) (by simp) ?_; (case hd => rfl); (case hg => rfl); (case hr => first | (go_simp; done) | (go_simp; rfl)); (case hp => exact (Reps.one (show Kd.M (Kd.int .i64) _ _ _ ((rd_T55 l0_0 a1).f1) [.int .i64 ((rd_T55 l0_0 a1).f1)] from rfl) (Reps.none _ _))); intro v177 w11 ho12 hb hg_ hnew_; clear hg_ hnew_; (first | rw [← Ny176.out] at ho12 | (simp only [Int.reduceToNat] at ho12; rw [← Ny176.out] at ho12)); have n0_ := Aside0.mk (Kd.R_lower ho12 (below_size (zb HB.out))); have n1_ := Aside0.mk (blk_below (g := g0_) (o := .cells #[.slice (some ad173) l0_0.length c0_0] 28 (0, 0)) (zf BK0.out) hb); have n2_ := Aside0.mk (blk_below (g := gb174) (o := .cells #[.int .i64 ((rd_T55 l0_0 a1).f0), .int .i64 ((rd_T55 l0_0 a1).f1), .int .i64 ((rd_T55 l0_0 a1).f2)] 55 (0, 0)) (by (with_reducible repeat (first | refine blk_drewN ?_ _ | refine blk_drew ?_ | refine blk_alloc ?_ _)); refine blk_put (cs := #[.int .i64 ((rd_T55 l0_0 a1).f0), .int .i64 ((rd_T55 l0_0 a1).f1), .int .i64 0]) ?_ 2 _ rfl; (with_reducible repeat (first | refine blk_drewN ?_ _ | refine blk_drew ?_ | refine blk_alloc ?_ _)); refine blk_put (cs := #[.int .i64 ((rd_T55 l0_0 a1).f0), .int .i64 0, .int .i64 0]) ?_ 1 _ rfl; (with_reducible repeat (first | refine blk_drewN ?_ _ | refine blk_drew ?_ | refine blk_alloc ?_ _)); refine blk_put (cs := #[.int .i64 0, .int .i64 0, .int .i64 0]) ?_ 0 _ rfl; (with_reducible repeat (first | refine blk_drewN ?_ _ | refine blk_drew ?_ | refine blk_alloc ?_ _)); exact BK174.out) hb); have n3_ := Aside0.mk (below_step (zb HB.out) hb); clear BK0 BK174 HB; have HO178 := n0_; have BK0 := n1_; have BK174 := n2_; have HB := n3_; clear n0_ n1_ n2_ n3_ hb ho12))
  go_ret
  exact ⟨_, ze, zr HO178.out, zb HB.out⟩
 rw [if_neg c6] at H
 have c6b0 : (t175 == 1) = false := beq_eq_false_iff_ne.mpr c6
 have c6b1 : (t175 != 1) = true := bne_iff_ne.mpr c6
 by_cases c13 : t175 = 2
 rotate_left
 ·rw [if_neg c13] at H
  have c13b0 : (t175 == 2) = false := beq_eq_false_iff_ne.mpr c13
  have c13b1 : (t175 != 2) = true := bne_iff_ne.mpr c13
  obtain rfl := Option.some.inj H
  have hcz20_0 : w.cell? ⟨g0_, 0, none⟩ = some (.slice A0_0 l0_0.length c0_0) := (blk_cell BK0.out 0).trans rfl
  have hfz20_0 := blk_frozen BK0.out 0
  have p173 : 0 ≤ (a1 : Int) := of_decide_eq_true (by first | (with_reducible assumption) | assumption)
  have q173 : a1 < (l0_0.length : Int) := of_decide_eq_true (by first | (with_reducible assumption) | assumption)
  obtain ⟨ad173, e173, hx173_0, hx173_1, hx173_2⟩ := at_T55 HR0_0.out a1 p173 q173
  cases e173
  replace p173 := eq_true p173
  replace q173 := eq_true q173
  go_enter Try.func52, Try.ntmps52
  go_wp2_with (first | ((with_reducible refine gate_dst (N := 5) rfl ?_); refine box_event ?hg (N := 5) ?hd (cs := #[.int .i64 0, .int .i64 0, .int .i64 0]) (t := 55) ?hr ?_; (case hd => rfl); (case hg => rfl); (case hr => first | (go_simp; done) | (go_simp; rfl)); intro gb174 hg w21 hbox hb; have n0_ := Aside0.mk (blk_below (zh BK0.out) hb); have n1_ := Aside0.mk (below_step (zb HB.out) hb); have n2_ := Aside0.mk (hbox); have n3_ := Aside0.mk ((by rw [hg]; exact (below_size (zb HB.out)) : w.heap.size ≤ gb174)); have n4_ := Aside0.mk ((by rw [hg]; exact (below_size (zb HB.out)) : w.heap.size ≤ gb174)); have n5_ := Aside0.mk ((by rw [hg]; exact Nat.ne_of_lt (blk_lt (zh BK0.out)) : g0_ ≠ gb174)); have n6_ := Aside0.mk ((by rw [hg]; exact Nat.ne_of_gt (blk_lt (zh BK0.out)) : gb174 ≠ g0_)); clear BK0 HB; have BK0 := n0_; have HB := n1_; have BK174 := n2_; have GW174 := n3_; have GE174 := n4_; have NB0_174 := n5_; have NB174_0 := n6_; clear n0_ n1_ n2_ n3_ n4_ n5_ n6_ hb hbox hg; have hnb22 := NB174_0.out; have hnc22 := NB0_174.out; have hcz23_0 : w21.cell? ⟨gb174, 0, none⟩ = some (.int .i64 0) := (blk_cell BK174.out 0).trans rfl; have hcz23_1 : w21.cell? ⟨gb174, 1, none⟩ = some (.int .i64 0) := (blk_cell BK174.out 1).trans rfl; have hcz23_2 : w21.cell? ⟨gb174, 2, none⟩ = some (.int .i64 0) := (blk_cell BK174.out 2).trans rfl; have hfz23_0 := blk_frozen BK174.out 0; have hfz23_1 := blk_frozen BK174.out 1; have hfz23_2 := blk_frozen BK174.out 2) | ((with_reducible refine gate_callee (f := 63) rfl ?_); refine goesL_ (some 15) rfl rfl Try.func63 (by kernel_rfl) rfl #[.int .i64 ((rd_T55 l0_0 a1).f0)] rfl zl ?_; (with_reducible refine (impl_count.calls k ((rd_T55 l0_0 a1).f0) t175 _ A5.out).mono ?_); rintro e w' ⟨rfl, ⟨nd, rfl⟩⟩; refine ⟨_, rfl, ?_⟩))
  go_ret
  exact ⟨_, ze, by first | exact Kd.R_nil _ _ _ _ _ | exact Kd.N_nil _ _ _ _ _ | exact Kd.V_nil _ _ _ _ _ | exact Kd.Q_nil _ _ _ _ _ | exact Kd.S_nil _ _ _ _ _, zb HB.out⟩
 rw [if_pos c13] at H
 have c13b0 : (t175 == 2) = true := beq_iff_eq.mpr c13
 have c13b1 : (t175 != 2) = false := bne_eq_false_iff_eq.mpr c13
 clear c13
 obtain ⟨y179, hy179⟩ : ∃ y_ : List Int, y_ = (([(rd_T55 l0_0 a1).f1, (rd_T55 l0_0 a1).f2] : List Int)) := ⟨_, rfl⟩
 replace H : (some y179) = some r := by first | (rw [hy179]; with_reducible exact H) | (have H2_ := (Option.bind_some _ _).symm.trans H; rw [hy179]; with_reducible exact H2_) | (have H2_ := (Option.bind_some _ _).symm.trans H; with_reducible exact H2_) | with_reducible exact H | (rw [hy179]; exact H) | exact H
 have Ny179 := Aside0.mk hy179
 clear hy179
 obtain rfl := Option.some.inj H
 have hcz14_0 : w.cell? ⟨g0_, 0, none⟩ = some (.slice A0_0 l0_0.length c0_0) := (blk_cell BK0.out 0).trans rfl
 have hfz14_0 := blk_frozen BK0.out 0
 have p173 : 0 ≤ (a1 : Int) := of_decide_eq_true (by first | (with_reducible assumption) | assumption)
 have q173 : a1 < (l0_0.length : Int) := of_decide_eq_true (by first | (with_reducible assumption) | assumption)
 obtain ⟨ad173, e173, hx173_0, hx173_1, hx173_2⟩ := at_T55 HR0_0.out a1 p173 q173
 cases e173
 replace p173 := eq_true p173
 replace q173 := eq_true q173
 go_enter Try.func52, Try.ntmps52
 go_wp2_with (first | ((with_reducible refine gate_dst (N := 5) rfl ?_); refine box_event ?hg (N := 5) ?hd (cs := #[.int .i64 0, .int .i64 0, .int .i64 0]) (t := 55) ?hr ?_; (case hd => rfl); (case hg => rfl); (case hr => first | (go_simp; done) | (go_simp; rfl)); intro gb174 hg w15 hbox hb; have n0_ := Aside0.mk (blk_below (zh BK0.out) hb); have n1_ := Aside0.mk (below_step (zb HB.out) hb); have n2_ := Aside0.mk (hbox); have n3_ := Aside0.mk ((by rw [hg]; exact (below_size (zb HB.out)) : w.heap.size ≤ gb174)); have n4_ := Aside0.mk ((by rw [hg]; exact (below_size (zb HB.out)) : w.heap.size ≤ gb174)); have n5_ := Aside0.mk ((by rw [hg]; exact Nat.ne_of_lt (blk_lt (zh BK0.out)) : g0_ ≠ gb174)); have n6_ := Aside0.mk ((by rw [hg]; exact Nat.ne_of_gt (blk_lt (zh BK0.out)) : gb174 ≠ g0_)); clear BK0 HB; have BK0 := n0_; have HB := n1_; have BK174 := n2_; have GW174 := n3_; have GE174 := n4_; have NB0_174 := n5_; have NB174_0 := n6_; clear n0_ n1_ n2_ n3_ n4_ n5_ n6_ hb hbox hg; have hnb16 := NB174_0.out; have hnc16 := NB0_174.out; have hcz17_0 : w15.cell? ⟨gb174, 0, none⟩ = some (.int .i64 0) := (blk_cell BK174.out 0).trans rfl; have hcz17_1 : w15.cell? ⟨gb174, 1, none⟩ = some (.int .i64 0) := (blk_cell BK174.out 1).trans rfl; have hcz17_2 : w15.cell? ⟨gb174, 2, none⟩ = some (.int .i64 0) := (blk_cell BK174.out 2).trans rfl; have hfz17_0 := blk_frozen BK174.out 0; have hfz17_1 := blk_frozen BK174.out 1; have hfz17_2 := blk_frozen BK174.out 2) | ((with_reducible refine gate_callee (f := 63) rfl ?_); refine goesL_ (some 15) rfl rfl Try.func63 (by kernel_rfl) rfl #[.int .i64 ((rd_T55 l0_0 a1).f0)] rfl zl ?_; (with_reducible refine (impl_count.calls k ((rd_T55 l0_0 a1).f0) t175 _ A5.out).mono ?_); rintro e w' ⟨rfl, ⟨nd, rfl⟩⟩; refine ⟨_, rfl, ?_⟩) | ((with_reducible refine gate_dst (N := 27) rfl ?_); refine Kd.R_lit (Kd.int .i64) _ 3 ?hg (N := 27) ?hd (xs := ([(rd_T55 l0_0 a1).f1, (rd_T55 l0_0 a1).f2] : List Int)) (inner := [.int .i64 ((rd_T55 l0_0 a1).f1), .int .i64 ((rd_T55 l0_0 a1).f2)]) (ok := fun _ => True) (okp := fun _ => True) ?hr ?hp (fun _ hk => hk) trivial (Below.refl _ _) (Nat.le_refl _) (by simp) ?_; (case hd => rfl); (case hg => rfl); (case hr => first | (go_simp; done) | (go_simp; rfl)); (case hp => exact (Reps.one (show Kd.M (Kd.int .i64) _ _ _ ((rd_T55 l0_0 a1).f1) [.int .i64 ((rd_T55 l0_0 a1).f1)] from rfl) (Reps.one (show Kd.M (Kd.int .i64) _ _ _ ((rd_T55 l0_0 a1).f2) [.int .i64 ((rd_T55 l0_0 a1).f2)] from rfl) (Reps.none _ _)))); intro v180 w18 ho19 hb hg_ hnew_; clear hg_ hnew_; (first | rw [← Ny179.out] at ho19 | (simp only [Int.reduceToNat] at ho19; rw [← Ny179.out] at ho19)); have n0_ := Aside0.mk (Kd.R_lower ho19 (below_size (zb HB.out))); have n1_ := Aside0.mk (blk_below (g := g0_) (o := .cells #[.slice (some ad173) l0_0.length c0_0] 28 (0, 0)) (zf BK0.out) hb); have n2_ := Aside0.mk (blk_below (g := gb174) (o := .cells #[.int .i64 ((rd_T55 l0_0 a1).f0), .int .i64 ((rd_T55 l0_0 a1).f1), .int .i64 ((rd_T55 l0_0 a1).f2)] 55 (0, 0)) (by (with_reducible repeat (first | refine blk_drewN ?_ _ | refine blk_drew ?_ | refine blk_alloc ?_ _)); refine blk_put (cs := #[.int .i64 ((rd_T55 l0_0 a1).f0), .int .i64 ((rd_T55 l0_0 a1).f1), .int .i64 0]) ?_ 2 _ rfl; (with_reducible repeat (first | refine blk_drewN ?_ _ | refine blk_drew ?_ | refine blk_alloc ?_ _)); refine blk_put (cs := #[.int .i64 ((rd_T55 l0_0 a1).f0), .int .i64 0, .int .i64 0]) ?_ 1 _ rfl; (with_reducible repeat (first | refine blk_drewN ?_ _ | refine blk_drew ?_ | refine blk_alloc ?_ _)); refine blk_put (cs := #[.int .i64 0, .int .i64 0, .int .i64 0]) ?_ 0 _ rfl; (with_reducible repeat (first | refine blk_drewN ?_ _ | refine blk_drew ?_ | refine blk_alloc ?_ _)); exact BK174.out) hb); have n3_ := Aside0.mk (below_step (zb HB.out) hb); clear BK0 BK174 HB; have HO181 := n0_; have BK0 := n1_; have BK174 := n2_; have HB := n3_; clear n0_ n1_ n2_ n3_ hb ho19))
 go_ret
 exact ⟨_, ze, zr HO181.out, zb HB.out⟩
/-! ### slices_Reverse_int_int: function 62 -/
def slices_Reverse_int_int.l0 : Nat → List Int → Int → Int → Option (List Int)
 | 0, _, _, _ => none
 | k + 1, x0, x2, x3 => if x2 < x3 then (if 0 ≤ x3 then (if x3 < (x0.length : Int) then (if 0 ≤ x2 then (if x2 < (x0.length : Int) then (slices_Reverse_int_int.l0 k ((x0.set (x2 : Int).toNat (rd x0 x3)).set (x3 : Int).toNat (rd x0 x2)) (wrap64 (x2 + 1)) (wrap64 (x3 - 1))) else (none)) else (none)) else (none)) else (none)) else (some x0)
def slices_Reverse_int_int.f (k : Nat) (l0 : List Int) : Option (List Int) := slices_Reverse_int_int.l0 k l0 0 (wrap64 ((l0.length : Int) - 1))
def slices_Reverse_int_int.T3 : Bool × List (List Nat × List Nat) := (true, [([], []), ([], []), ([], []), ([], []), ([], []), ([], []), ([4, 5], [4, 5]), ([6], [6]), ([], []), ([], []), ([8, 9], [8, 9]), ([10], [10]), ([0, 1, 0, 1, 4, 5, 6, 7, 11], [0, 1]), ([12, 7, 0, 1, 4, 5, 6, 7, 11], [7, 12]), ([2, 3, 0, 1, 2, 3, 4, 5, 6, 7, 8, 9, 10, 11, 12, 13], [2, 3]), ([14, 11, 13, 0, 1, 2, 3, 4, 5, 6, 7, 8, 9, 10, 11, 12, 13], [11, 14])])
def slices_Reverse_int_int.B3 : List Nat := [0, 0, 0, 0, 0, 0, 48, 112, 0, 0, 768, 1792, 4083, 8179, 16383, 32767]
theorem slices_Reverse_int_int.tab3 : rtab .any (opsOf Try.f62 3) = slices_Reverse_int_int.T3 := by kernel_rfl
theorem slices_Reverse_int_int.bits3 : waitsOk slices_Reverse_int_int.T3.2 slices_Reverse_int_int.B3 = true := by kernel_rfl
set_option maxHeartbeats 8000000 in
set_option maxRecDepth 100000 in
theorem slices_Reverse_int_int.calls (k : Nat) (P0_ : Nat → Prop) (u9000_ : Value) (l0 : List Int) (r : List Int) (w0 w : World) (hB : Below w0.heap.size w0 w) (ho0 : Kd.R (Kd.int .i64) 3 w w0.heap.size P0_ u9000_ l0) (h : slices_Reverse_int_int.f k l0 = some r) :
  Calls Try.prog 62 #[u9000_] w fun e w' => e = .returned (.tuple #[]) ∧ Kd.R (Kd.int .i64) 3 w' w0.heap.size (fun k_ => (P0_ k_ ∨ w.heap.size ≤ k_)) u9000_ r ∧ Below w0.heap.size w0 w' ∧ Kept w w' (fun k_ => P0_ k_) := by
 have HO0 := Aside0.mk (show Kd.R (Kd.int .i64) 3 w w0.heap.size (fun k_ => (P0_ k_ ∨ w.heap.size ≤ k_)) u9000_ l0 from Kd.R_mono ho0 (fun k_ hk => (.inl hk)))
 have HK := Aside0.mk (Kept.refl w (fun k_ => P0_ k_))
 have HW0 := Aside0.mk hB.size
 have HB := Aside0.mk hB
 clear hB
 have H : (slices_Reverse_int_int.l0 k l0 0 (wrap64 ((l0.length : Int) - 1))) = some r := h
 clear h
 have H' := Aside0.mk H
 clear H
 obtain ⟨Ao2, co2, eo2⟩ := Kd.R_slice HO0.out
 subst eo2
 go_enter Try.func62, Try.ntmps62
 go_wp2
 go_loopg [2, 3] k (fun kq v2 v3 w' => ∃ (x0_1 : List Int) (x2_1 : Int) (x3_1 : Int), v2 = .int .i64 x2_1 ∧ v3 = .int .i64 x3_1 ∧ Aside0 (slices_Reverse_int_int.l0 kq x0_1 x2_1 x3_1 = some r) ∧ Aside0 (kq ≤ k) ∧ Aside0 (Kd.R (Kd.int .i64) 3 w' w0.heap.size (fun k_ => (P0_ k_ ∨ w.heap.size ≤ k_)) (.slice Ao2 l0.length co2) x0_1) ∧ Aside0 (Kept w w' (fun k_ => P0_ k_)) ∧ Aside0 (Below w0.heap.size w0 w'))
 case atStart => exact ⟨(l0), (0), (wrap64 ((l0.length : Int) - 1)), (by first | rfl | (simp; done) | (simp [*]; done)), (by first | rfl | (simp; done) | (simp [*]; done)), H', ⟨Nat.le_refl _⟩, ⟨zr HO0.out⟩, ⟨zk HK.out⟩, ⟨zb HB.out⟩⟩
 case round =>
  clear H'
  try clear p2
  obtain ⟨x0_1, x2_1, x3_1, rfl, rfl, HA, HK1, HO_0, HK, HB⟩ := hrel
  have hl0_1 := (Kd.R_reads' HO_0.out).1
  rw [hl0_1] at HO_0
  (try simp only [hl0_1])
  cases gk with
  | zero => exact absurd HA.out (by simp [slices_Reverse_int_int.l0])
  | succ k1 =>
   have H := HA.out
   clear HA
   simp only [slices_Reverse_int_int.l0] at H
   by_cases c3 : x2_1 < x3_1
   rotate_left
   ·rw [if_neg c3] at H
    have c3b0 : decide (x2_1 < x3_1) = false := decide_eq_false c3
    clear c3
    obtain rfl := Option.some.inj H
    go_wp2
    first | go_end0 | ((try simp only [Exit.inBlock, Exit.then]); refine bodyPost_ret (results_none rfl _ _ _) rfl ?_)
    exact ⟨ze, (by first | exact (zr HO_0.out) | (simp only [hl0_1]; exact (zr HO_0.out))), zb HB.out, zk HK.out⟩

   rw [if_pos c3] at H
   have c3b0 : decide (x2_1 < x3_1) = true := decide_eq_true c3
   clear c3
   by_cases c4 : 0 ≤ x3_1
   rotate_left
   ·rw [if_neg c4] at H
    exact absurd H (by simp)
   rw [if_pos c4] at H
   have c4b0 : decide (0 ≤ x3_1) = true := decide_eq_true c4
   clear c4
   by_cases c5 : x3_1 < (x0_1.length : Int)
   rotate_left
   ·rw [if_neg c5] at H
    exact absurd H (by simp)
   rw [if_pos c5] at H
   have c5b0 : decide (x3_1 < (x0_1.length : Int)) = true := decide_eq_true c5
   (try (have c5b0h := c5b0; simp only [hl0_1] at c5b0h))
   clear c5
   by_cases c6 : 0 ≤ x2_1
   rotate_left
   ·rw [if_neg c6] at H
    exact absurd H (by simp)
   rw [if_pos c6] at H
   have c6b0 : decide (0 ≤ x2_1) = true := decide_eq_true c6
   clear c6
   by_cases c7 : x2_1 < (x0_1.length : Int)
   rotate_left
   ·rw [if_neg c7] at H
    exact absurd H (by simp)
   rw [if_pos c7] at H
   have c7b0 : decide (x2_1 < (x0_1.length : Int)) = true := decide_eq_true c7
   (try (have c7b0h := c7b0; simp only [hl0_1] at c7b0h))
   clear c7
   obtain ⟨y184, hy184⟩ : ∃ y_ : List Int, y_ = (x0_1.set (x2_1 : Int).toNat (rd x0_1 x3_1)) := ⟨_, rfl⟩
   replace H : (slices_Reverse_int_int.l0 k1 (y184.set (x3_1 : Int).toNat (rd x0_1 x2_1)) (wrap64 (x2_1 + 1)) (wrap64 (x3_1 - 1))) = some r := by first | (rw [hy184]; with_reducible exact H) | (have H2_ := (Option.bind_some _ _).symm.trans H; rw [hy184]; with_reducible exact H2_) | (have H2_ := (Option.bind_some _ _).symm.trans H; with_reducible exact H2_) | with_reducible exact H | (rw [hy184]; exact H) | exact H
   have Ny184 := Aside0.mk hy184
   clear hy184
   obtain ⟨y185, hy185⟩ : ∃ y_ : List Int, y_ = (y184.set (x3_1 : Int).toNat (rd x0_1 x2_1)) := ⟨_, rfl⟩
   replace H : (slices_Reverse_int_int.l0 k1 y185 (wrap64 (x2_1 + 1)) (wrap64 (x3_1 - 1))) = some r := by first | (rw [hy185]; with_reducible exact H) | (have H2_ := (Option.bind_some _ _).symm.trans H; rw [hy185]; with_reducible exact H2_) | (have H2_ := (Option.bind_some _ _).symm.trans H; with_reducible exact H2_) | with_reducible exact H | (rw [hy185]; exact H) | exact H
   have Ny185 := Aside0.mk hy185
   clear hy185
   have H' := Aside0.mk H
   clear H
   try go_wp2
   have n0_ := Aside0.mk (Kd.R_drew HO_0.out)
   have n1_ := Aside0.mk (Kept.drew HK.out)
   have n2_ := Aside0.mk (below_drew1 HB.out)
   clear HO_0 HK HB
   have HO_0 := n0_
   have HK := n1_
   have HB := n2_
   clear n0_ n1_ n2_
   have p182 : 0 ≤ (x3_1 : Int) := of_decide_eq_true (by first | (with_reducible assumption) | assumption)
   have q182 : x3_1 < (x0_1.length : Int) := of_decide_eq_true (by first | (with_reducible assumption) | assumption)
   obtain ⟨ad182, e182, hx182_0⟩ := Kd.at_int (Kd.R_reads' HO_0.out).2.2 x3_1 p182 q182
   cases e182
   replace p182 := eq_true p182
   replace q182 := eq_true q182
   have p183 : 0 ≤ (x2_1 : Int) := of_decide_eq_true (by first | (with_reducible assumption) | assumption)
   have q183 : x2_1 < (x0_1.length : Int) := of_decide_eq_true (by first | (with_reducible assumption) | assumption)
   obtain ⟨ad183, e183, hx183_0⟩ := Kd.at_int (Kd.R_reads' HO_0.out).2.2 x2_1 p183 q183
   obtain rfl : ad182 = ad183 := (by injection e183)
   replace p183 := eq_true p183
   replace q183 := eq_true q183
   have p8 : 0 ≤ (x2_1 : Int) := of_decide_eq_true (by first | (with_reducible assumption) | assumption)
   have q8 : (x2_1 : Int) < ((x0_1.length : Int) : Int) := of_decide_eq_true (by first | (with_reducible assumption) | assumption)
   obtain ⟨go8, co8, eo8, gb8, gl8, cl8, HG8⟩ := Kd.R_form HO_0.out (by omega)
   (first | cases eo8 | (injection eo8 with ea_ en_ ec_; (first | subst ea_ | (injection ea_ with ea_; subst ea_)); subst ec_; clear en_))
   have GB8 := Aside0.mk gb8
   have GG8 := Aside0.mk HG8
   clear gb8 gl8 HG8
   have HMgo8 := Aside0.mk (show (P0_ go8 ∨ w.heap.size ≤ go8) from (HO_0.out.1 _ rfl))
   (first | simp only [add_plain] at hx182_0 | skip)
   (first | simp only [add_plain] at hx183_0 | skip)
   obtain ⟨hx8_0, hf8_0⟩ := Kd.R_celln 0 HO_0.out (x2_1 : Int) p8 q8
   replace p8 := eq_true p8
   replace q8 := eq_true q8
   have HP11 := Kd.R_putn HO_0.out (x2_1 : Int) (rd x0_1 x3_1)
   rw [← Ny184.out] at HP11
   have HQ11 := Aside0.mk HP11
   clear HP11
   have p9 : 0 ≤ (x3_1 : Int) := of_decide_eq_true (by first | (with_reducible assumption) | assumption)
   have q9 : (x3_1 : Int) < ((x0_1.length : Int) : Int) := of_decide_eq_true (by first | (with_reducible assumption) | assumption)
   obtain ⟨hx9_0, hf9_0⟩ := Kd.R_celln 0 HQ11.out (x3_1 : Int) p9 q9
   replace p9 := eq_true p9
   replace q9 := eq_true q9
   have HP12 := Kd.R_putn HQ11.out (x3_1 : Int) (rd x0_1 x2_1)
   rw [← Ny185.out] at HP12
   have HQ12 := Aside0.mk HP12
   clear HP12
   refine start_ (n := 16) (S := fun w' => w'.cell? ⟨go8, (x3_1).toNat, none⟩ = some (.int .i64 (rd x0_1 x3_1)) ∧ w'.cell? ⟨go8, (x2_1).toNat, none⟩ = some (.int .i64 (rd x0_1 x2_1))) (ds := [13, 15]) #[false, false, false, false, false, false, false, false, false, false, false, false, false, false, false, false] (by kernel_rfl) rfl rfl ⟨hx182_0, hx183_0⟩ (fun hHeld => ?_); refine with_tabW slices_Reverse_int_int.tab3 slices_Reverse_int_int.bits3 (fun HT_ HW_ => ?_)
   generalize wr.drew = w10 at HO_0 HK HB GG8 HQ11 HQ12 hf8_0 hf9_0 hx182_0 hx183_0 hx8_0 hx9_0 hHeld ⊢
   refine pure_ (i := 0) (N := some 14) (v := ?_) (a' := ?_) (zB 16 1) rfl rfl (any_of HT_.out (by kernel_rfl)) (fun _ _ _ h => h) (Or.inl ⟨by rfl, ?_⟩) ?_ ?_
   rotate_left
   ·intro w'
    go_simp
    with_reducible rfl
   rotate_left
   ·exact zn
   refine pure_ (i := 1) (N := some 15) (v := ?_) (a' := ?_) (zB 16 3) rfl rfl (any_of HT_.out (by kernel_rfl)) (fun _ _ _ h => h) (Or.inl ⟨by rfl, ?_⟩) ?_ ?_
   rotate_left
   ·intro w'
    go_simp
    with_reducible rfl
   rotate_left
   ·exact zn
   refine pure_ (i := 2) (N := some 16) (v := ?_) (a' := ?_) (zB 16 7) rfl rfl (any_of HT_.out (by kernel_rfl)) (fun _ _ _ h => h) (Or.inl ⟨by rfl, ?_⟩) ?_ ?_
   rotate_left
   ·intro w'
    go_simp
    with_reducible rfl
   rotate_left
   ·exact zn
   refine pure_ (i := 3) (N := some 17) (v := ?_) (a' := ?_) (zB 16 15) rfl rfl (any_of HT_.out (by kernel_rfl)) (fun _ _ _ h => h) (Or.inl ⟨by rfl, ?_⟩) ?_ ?_
   rotate_left
   ·intro w'
    go_simp
    with_reducible rfl
   rotate_left
   ·exact zn
   refine pure_ (i := 4) (N := some 18) (v := ?_) (a' := ?_) (zB 16 31) rfl rfl (any_of HT_.out (by kernel_rfl)) (fun _ _ _ h => h) (Or.inl ⟨by rfl, ?_⟩) ?_ ?_
   rotate_left
   ·intro w'
    go_simp
    with_reducible rfl
   rotate_left
   ·exact zn
   refine pure_ (i := 5) (N := some 19) (v := ?_) (a' := ?_) (zB 16 63) rfl rfl (any_of HT_.out (by kernel_rfl)) (fun _ _ _ h => h) (Or.inl ⟨by rfl, ?_⟩) ?_ ?_
   rotate_left
   ·intro w'
    go_simp
    with_reducible rfl
   rotate_left
   ·exact zn
   refine pure_ (i := 6) (N := some 20) (v := ?_) (a' := ?_) (zB 16 127) rfl rfl (any_of HT_.out (by kernel_rfl)) (fun _ _ _ h => h) (Or.inl ⟨by rfl, ?_⟩) ?_ ?_
   rotate_left
   ·intro w'
    go_simp
    with_reducible rfl
   rotate_left
   ·exact zn
   refine pure_ (i := 8) (N := some 22) (v := ?_) (a' := ?_) (zB 16 383) rfl rfl (any_of HT_.out (by kernel_rfl)) (fun _ _ _ h => h) (Or.inl ⟨by rfl, ?_⟩) ?_ ?_
   rotate_left
   ·intro w'
    go_simp
    with_reducible rfl
   rotate_left
   ·exact zn
   refine pure_ (i := 9) (N := some 23) (v := ?_) (a' := ?_) (zB 16 895) rfl rfl (any_of HT_.out (by kernel_rfl)) (fun _ _ _ h => h) (Or.inl ⟨by rfl, ?_⟩) ?_ ?_
   rotate_left
   ·intro w'
    go_simp
    with_reducible rfl
   rotate_left
   ·exact zn
   refine pure_ (i := 10) (N := some 24) (v := ?_) (a' := ?_) (zB 16 1919) rfl rfl (any_of HT_.out (by kernel_rfl)) (fun _ _ _ h => h) (Or.inl ⟨by rfl, ?_⟩) ?_ ?_
   rotate_left
   ·intro w'
    go_simp
    with_reducible rfl
   rotate_left
   ·exact zn
   refine take_ (i := 7) (N := some 21) (v := ?_) (a' := ?_) (zB 16 2047) rfl rfl (take_ofW HT_.out HW_.out (by kernel_rfl)) (fun _ _ _ h => h) (Or.inl ⟨by rfl, ?_⟩) hHeld ?_ ?_
   rotate_left
   ·rintro w' ⟨s0, s1⟩
    go_simp
    with_reducible rfl
   rotate_left
   ·exact zn
   refine take_ (i := 11) (N := some 25) (v := ?_) (a' := ?_) (zB 16 4095) rfl rfl (take_ofW HT_.out HW_.out (by kernel_rfl)) (fun _ _ _ h => h) (Or.inl ⟨by rfl, ?_⟩) hHeld ?_ ?_
   rotate_left
   ·rintro w' ⟨s0, s1⟩
    go_simp
    with_reducible rfl
   rotate_left
   ·exact zn
   refine pure_ (i := 12) (N := some 26) (v := ?_) (a' := ?_) (zB 16 8191) rfl rfl (any_of HT_.out (by kernel_rfl)) (fun _ _ _ h => h) (Or.inl ⟨by rfl, ?_⟩) ?_ ?_
   rotate_left
   ·intro w'
    go_simp
    with_reducible rfl
   rotate_left
   ·exact zn
   refine last_ (i := 13) (N := none) (zB 16 16383) rfl rfl (one_of HT_.out (by kernel_rfl)) (by decide) (fun K hK => ?_)
   refine skip_ (w1 := ?_) (by rfl) rfl ?_ ?_
   rotate_left
   ·go_simp
    rfl
   refine hK.out _ _ ?_
   clear hK K
   refine pure_ (i := 14) (N := some 27) (v := ?_) (a' := ?_) (zB 16 32767) rfl rfl (any_of HT_.out (by kernel_rfl)) (fun _ _ _ h => h) (Or.inl ⟨by rfl, ?_⟩) ?_ ?_
   rotate_left
   ·intro w'
    go_simp
    with_reducible rfl
   rotate_left
   ·exact zn
   refine last_ (i := 15) (N := none) (zB 16 65535) rfl rfl (one_of HT_.out (by kernel_rfl)) (by decide) (fun K hK => ?_)
   refine skip_ (w1 := ?_) (by rfl) rfl ?_ ?_
   rotate_left
   ·go_simp
    rfl
   refine hK.out _ _ ?_
   clear hK K
   refine done_ (done_of HT_.out (by kernel_rfl)) ?_
   try go_wp2
   (try simp only [← hl0_1])
   go_roundg k1
   case measure => have := HK1.out; omega
   case rel => exact ⟨(y185), (wrap64 (x2_1 + 1)), (wrap64 (x3_1 - 1)), (by first | rfl | (simp; done) | (simp [*]; done)), (by first | rfl | (simp; done) | (simp [*]; done)), H', ⟨by have := HK1.out; omega⟩, ⟨by (try simp only [hl0_1]); (with_reducible repeat (first | apply Kd.R_alloc | apply Kd.R_drewN | apply Kd.R_drew)); exact HQ12.out⟩, ⟨by repeat (first | (with_reducible first | exact HK.out | apply Kept.alloc | apply Kept.drewN | apply Kept.drew | refine Kept.setCell ?_ HMgo8.out _ | refine Kept.setCell ?_ HMgo8.out _) | exact HK.out)⟩, ⟨zb HB.out⟩⟩
end Go.Proofs.Ytobkledmbnacjaa.M
end

section
namespace Go.Proofs.Ytobkledmbnacjaa.M
open Go.RowKit Go.Proofs.YtobkledmbnacjaaW.PrintWords Go.Proofs.YtobkledmbnacjaaW.PrintLast Go.Proofs.YtobkledmbnacjaaW.PrintMore
attribute [local go_sem] max2_int min2_int max_two min_two max_three min_three max_four min_four   -- for this text's walks alone
set_option linter.unusedVariables false
set_option linter.unusedSimpArgs false
set_option maxRecDepth 100000

attribute [local go_sem high] eqA55
/-! ### impl_Pool_below: function 35 -/
mutual
def impl_Pool_below.l0 : Nat → List Bool → List Int → Int → List (S55) → Option (List Int)
 | 0, _, _, _, _ => none
 | k + 1, x5, x6, x7, x1000 => if x7 ≥ 0 then (if 0 ≤ x7 then (if x7 < (x5.length : Int) then (if rdOf false x5 x7 = true then (if x6.length < 17592186044416 then ((impl_Pool_parts.f k x1000 x7).bind fun t195 => (impl_Pool_below.l1 k x5 (x6 ++ [x7]) x7 t195 (t195.length : Int) 0 x1000)) else (none)) else (impl_Pool_below.l0 k x5 x6 (wrap64 (x7 - 1)) x1000)) else (none)) else (none)) else ((slices_Reverse_int_int.f k x6).bind fun t190 => (some t190))
def impl_Pool_below.l1 : Nat → List Bool → List Int → Int → List Int → Int → Int → List (S55) → Option (List Int)
 | 0, _, _, _, _, _, _, _ => none
 | k + 1, x5, x6, x7, x32, x33, x34, x1000 => if x34 < x33 then (if 0 ≤ x34 then (if x34 < (x32.length : Int) then (if 0 ≤ (rd x32 x34) then (if (rd x32 x34) < (x5.length : Int) then (impl_Pool_below.l1 k (x5.set ((rd x32 x34) : Int).toNat true) x6 x7 x32 x33 (wrap64 (x34 + 1)) x1000) else (none)) else (none)) else (none)) else (none)) else (impl_Pool_below.l0 k x5 x6 (wrap64 (x7 - 1)) x1000)
end
def impl_Pool_below.f (k : Nat) (l0_0 : List (S55)) (a1 : Int) : Option (List Int) := if 0 ≤ (wrap64 (a1 + 1)) then (if (wrap64 (a1 + 1) : Int).toNat ≤ 281474976710656 then ((some (List.replicate (wrap64 (a1 + 1) : Int).toNat false : List Bool)).bind fun y186 => (if 0 ≤ a1 then (if a1 < (y186.length : Int) then (impl_Pool_below.l0 k (y186.set (a1 : Int).toNat true) ([] : List Int) a1 l0_0) else (none)) else (none))) else (none)) else (none)
set_option maxHeartbeats 8000000 in
set_option maxRecDepth 100000 in
theorem impl_Pool_below.calls (k : Nat) (g0_ : Nat) (A0_0 : Option Addr) (c0_0 : Nat) (l0_0 : List (S55)) (a1 : Int) (r : List Int) (w : World) (hk0_ : w.heap[g0_]? = some (.cells #[.slice A0_0 l0_0.length c0_0] 28 (0, 0))) (hr0_0 : Kd.C k55 w A0_0 l0_0.length l0_0) (hc0_0 : l0_0.length ≤ c0_0) (h : impl_Pool_below.f k l0_0 a1 = some r) :
  Calls Try.prog 35 #[.pointer (some ⟨g0_, 0, none⟩), .int .i64 a1] w fun e w' => ∃ v0_ : Value, e = .returned (v0_) ∧ Kd.R (Kd.int .i64) 3 w' w.heap.size (fun _ => True) v0_ r ∧ Below w.heap.size w w' := by
 have HR0_0 := Aside0.mk hr0_0
 have HC0_0 := Aside0.mk hc0_0
 clear hr0_0 hc0_0
 have BK0 := Aside0.mk hk0_
 clear hk0_
 have HB := Aside0.mk (Below.refl w.heap.size w)
 have H : (if 0 ≤ (wrap64 (a1 + 1)) then (if (wrap64 (a1 + 1) : Int).toNat ≤ 281474976710656 then ((some (List.replicate (wrap64 (a1 + 1) : Int).toNat false : List Bool)).bind fun y186 => (if 0 ≤ a1 then (if a1 < (y186.length : Int) then (impl_Pool_below.l0 k (y186.set (a1 : Int).toNat true) ([] : List Int) a1 l0_0) else (none)) else (none))) else (none)) else (none)) = some r := h
 clear h
 obtain ⟨ji3, hji3⟩ : ∃ j_ : Int, (wrap64 (a1 + 1)) = j_ := ⟨_, rfl⟩
 replace H : (if 0 ≤ (ji3) then (if (ji3 : Int).toNat ≤ 281474976710656 then ((some (List.replicate (ji3 : Int).toNat false : List Bool)).bind fun y186 => (if 0 ≤ a1 then (if a1 < (y186.length : Int) then (impl_Pool_below.l0 k (y186.set (a1 : Int).toNat true) ([] : List Int) a1 l0_0) else (none)) else (none))) else (none)) else (none)) = some r := by first | (rw [hji3] at H; exact H) | (simp only [hji3] at H ⊢; exact H)
 have hji3w : (IntKind.i64.wrap (a1 + 1)) = ji3 := (i64_w _).trans hji3
 by_cases c4 : 0 ≤ (ji3)
 rotate_left
 ·rw [if_neg c4] at H
  exact absurd H (by simp)

 rw [if_pos c4] at H
 have c4b0 := eq_true c4
 have c4b1 : decide (0 ≤ (ji3)) = true := decide_eq_true c4
 clear c4
 by_cases c5 : (ji3 : Int).toNat ≤ 281474976710656
 rotate_left
 ·rw [if_neg c5] at H
  exact absurd H (by simp)
 rw [if_pos c5] at H
 have c5b0 := eq_true c5
 have c5b1 : decide ((ji3 : Int).toNat ≤ 281474976710656) = true := decide_eq_true c5
 clear c5
 obtain ⟨y186, hy186⟩ : ∃ y_ : List Bool, y_ = (List.replicate (ji3 : Int).toNat false) := ⟨_, rfl⟩
 replace H : (if 0 ≤ a1 then (if a1 < (y186.length : Int) then (impl_Pool_below.l0 k (y186.set (a1 : Int).toNat true) ([] : List Int) a1 l0_0) else (none)) else (none)) = some r := by first | (rw [hy186]; with_reducible exact H) | (have H2_ := (Option.bind_some _ _).symm.trans H; rw [hy186]; with_reducible exact H2_) | (have H2_ := (Option.bind_some _ _).symm.trans H; with_reducible exact H2_) | with_reducible exact H | (rw [hy186]; exact H) | exact H
 have Ny186 := Aside0.mk hy186
 clear hy186
 by_cases c6 : 0 ≤ a1
 rotate_left
 ·rw [if_neg c6] at H
  exact absurd H (by simp)
 rw [if_pos c6] at H
 have c6b0 : decide (0 ≤ a1) = true := decide_eq_true c6
 clear c6
 by_cases c7 : a1 < (y186.length : Int)
 rotate_left
 ·rw [if_neg c7] at H
  exact absurd H (by simp)
 rw [if_pos c7] at H
 have c7b0 : decide (a1 < (y186.length : Int)) = true := decide_eq_true c7
 clear c7
 obtain ⟨y189, hy189⟩ : ∃ y_ : List Bool, y_ = (y186.set (a1 : Int).toNat true) := ⟨_, rfl⟩
 replace H : (impl_Pool_below.l0 k y189 ([] : List Int) a1 l0_0) = some r := by first | (rw [hy189]; with_reducible exact H) | (have H2_ := (Option.bind_some _ _).symm.trans H; rw [hy189]; with_reducible exact H2_) | (have H2_ := (Option.bind_some _ _).symm.trans H; with_reducible exact H2_) | with_reducible exact H | (rw [hy189]; exact H) | exact H
 have Ny189 := Aside0.mk hy189
 clear hy189
 have H' := Aside0.mk H
 clear H
 go_enter Try.func35, Try.ntmps35
 go_wp2_with (first | ((with_reducible refine gate_dst (N := 12) rfl ?_); refine Kd.R_make Kd.bool _ 4 rfl (N := 12) rfl 51 _ _ rfl ji3 rfl rfl Try.underlying51 (.bool false) 1 info4 rfl (by decide) (by omega) false (ok := fun _ => True) (okp := fun _ => True) rfl (fun _ hk => hk) trivial (of_decide_eq_true (by first | (with_reducible assumption) | assumption)) (Nat.le_trans (Nat.mul_le_mul_right _ (of_decide_eq_true (by first | (with_reducible assumption) | assumption) : ji3.toNat ≤ 281474976710656)) (by omega)) (Below.refl _ _) (Nat.le_refl _) ?_; intro v187 w9 ho10 hb hg_ hnew_; clear hg_ hnew_; (first | rw [← Ny186.out] at ho10 | (simp only [Int.reduceToNat] at ho10; rw [← Ny186.out] at ho10)); have n0_ := Aside0.mk (Kd.R_lower ho10 (below_size (zb HB.out))); have n1_ := Aside0.mk (blk_below (zh BK0.out) hb); have n2_ := Aside0.mk (below_step (zb HB.out) hb); clear BK0 HB; have HO188 := n0_; have BK0 := n1_; have HB := n2_; clear n0_ n1_ n2_ hb ho10; have p8 : 0 ≤ (a1 : Int) := of_decide_eq_true (by first | (with_reducible assumption) | assumption); have q8 : (a1 : Int) < ((y186.length : Int) : Int) := of_decide_eq_true (by first | (with_reducible assumption) | assumption); obtain ⟨go8, co8, eo8, gb8, gl8, cl8, HG8⟩ := Kd.R_form HO188.out (by omega); (first | cases eo8 | (injection eo8 with ea_ en_ ec_; (first | subst ea_ | (injection ea_ with ea_; subst ea_)); subst ec_; clear en_)); have GB8 := Aside0.mk gb8; have GG8 := Aside0.mk HG8; clear gb8 gl8 HG8; obtain ⟨hx8_0, hf8_0⟩ := Kd.R_celln false HO188.out (a1 : Int) p8 q8; replace p8 := eq_true p8; replace q8 := eq_true q8; obtain ⟨hy11_, hz11_⟩ := Kd.R_celln false HO188.out (a1 : Int) (of_decide_eq_true (by first | (with_reducible assumption) | assumption)) (of_decide_eq_true (by first | (with_reducible assumption) | assumption)); have HP11 := Kd.R_putg HO188.out (a1 : Int) true) | ((with_reducible refine gate_store (t := 4) (p := 15) rfl ?_); refine store_event (t := 4) (p := 15) (v := ?vo_w12) (w1 := (w9.setCell ⟨go8, (a1 : Int).toNat, none⟩ (.bool true))) ?hg ?ho ?hn ?hr ?_; (case ho => rfl); (case hg => rfl); (case hn => rfl); (case hr => first | (go_simp; done) | (go_simp; rfl)); intro w12 hw; have hg : w9.grownBy w12 (some go8) := (by rw [hw]; exact HP11.2); have hp_ : Kd.R Kd.bool 4 w12 w.heap.size (fun _ => True) (.slice (some ⟨go8, 0, none⟩) y186.length co8) y189 := (by rw [hw, Ny189.out]; exact HP11.1); clear HP11; have n0_ := Aside0.mk (blk_grown (zh BK0.out) hg (Kd.R_ne HO188.out BK0.out (by decide))); have n1_ := Aside0.mk (hp_); have n2_ := Aside0.mk ((by rw [hw]; exact below_set (HB.out) GB8.out : Below w.heap.size w w12)); clear BK0 HO188 HB; have BK0 := n0_; have HO188 := n1_; have HB := n2_; clear n0_ n1_ n2_ hg hw hp_))
 go_loopg [6, 7] k (fun kq v6 v7 w' => ∃ (x5_1 : List Bool) (x6_1 : List Int) (x7_1 : Int), v7 = .int .i64 x7_1 ∧ Aside0 (impl_Pool_below.l0 kq x5_1 x6_1 x7_1 l0_0 = some r) ∧ Aside0 (kq ≤ k) ∧ Aside0 (Kd.R Kd.bool 4 w' w.heap.size (fun _ => True) (.slice (some ⟨go8, 0, none⟩) y186.length co8) x5_1) ∧ Aside0 (Kd.R (Kd.int .i64) 3 w' w.heap.size (fun _ => True) v6 x6_1) ∧ Aside0 (w'.heap[g0_]? = some (.cells #[(.slice A0_0 l0_0.length c0_0)] 28 (0, 0))) ∧ Aside0 (Below w.heap.size w w'))
 case atStart => exact ⟨(y189), (([] : List Int)), (a1), (by first | rfl | (simp; done) | (simp [*]; done)), H', ⟨Nat.le_refl _⟩, ⟨zr HO188.out⟩, ⟨by first | exact Kd.R_nil _ _ _ _ _ | exact Kd.N_nil _ _ _ _ _ | exact Kd.V_nil _ _ _ _ _ | exact Kd.Q_nil _ _ _ _ _ | exact Kd.S_nil _ _ _ _ _⟩, ⟨zh BK0.out⟩, ⟨zb HB.out⟩⟩
 case round =>
  clear H'
  try clear p2
  try clear c3
  try clear c4
  try clear c4b0
  try clear c4b1
  try clear c5
  try clear c5b0
  try clear c5b1
  try clear c6
  try clear c6b0
  try clear p6
  try clear c7
  try clear c7b0
  try clear p8
  try clear q8
  try clear hx8
  try clear hf8
  try clear hx8_0
  try clear p8
  try clear q8
  obtain ⟨x5_1, x6_1, x7_1, rfl, HA, HK1, HO_5, HO_6, BK0, HB⟩ := hrel
  have hl5_1 := (Kd.R_reads' HO_5.out).1
  rw [hl5_1] at HO_5
  (try simp only [hl5_1])
  (try simp only [hl5_1] at BK0)
  (try simp only [hl5_1] at HO_6)
  cases gk with
  | zero => exact absurd HA.out (by simp [impl_Pool_below.l0])
  | succ k1 =>
   have H := HA.out
   clear HA
   simp only [impl_Pool_below.l0] at H
   by_cases c13 : x7_1 ≥ 0
   rotate_left
   ·rw [if_neg c13] at H
    have c13b0 : decide (0 ≤ x7_1) = false := decide_eq_false c13
    clear c13
    replace H := Option.bind_eq_some_iff.mp H
    obtain ⟨t190, A310, H⟩ := H
    replace H : (some t190) = some r := H
    have A31 := Aside0.mk A310
    clear A310
    obtain rfl := Option.some.inj H
    obtain ⟨Ao32, co32, eo32⟩ := Kd.R_slice HO_6.out
    subst eo32
    go_wp2_with (first | ((with_reducible refine gate_callee (f := 62) rfl ?_); refine goesL_ (some 43) rfl rfl Try.func62 (by kernel_rfl) rfl #[.slice Ao32 x6_1.length co32] rfl zl ?_; (with_reducible refine (slices_Reverse_int_int.calls k1 (fun k_ => some k_ = (.slice Ao32 x6_1.length co32 : Value).ownBlock) (.slice Ao32 x6_1.length co32) x6_1 t190 w _ ?side1 ?side2 A31.out).mono ?_); (case side1 => exact zb HB.out); (case side2 => exact Kd.R_tight rfl HO_6.out); rintro e w33 ⟨rfl, hy0, hb, hkp⟩; refine ⟨_, rfl, ?_⟩; have n0_ := Aside0.mk (Kd.R_mono (ok' := fun k_ => True) (Kd.R_keptB ((Kd.R_apart' HO_5.out (Kd.R_typed HO_6.out) (by decide))) hkp (fun k_ hk_ hs_ => by first | exact (hk_.2) hs_ | (revert hk_; simp only [and_imp]; intros; exact absurd hs_ (by assumption)))) (fun k_ hk_ => trivial)); have n1_ := Aside0.mk (Kd.R_reok rfl hy0 (fun k_ e_ => HO_6.out.1 k_ e_)); have n2_ := Aside0.mk (blk_kept (zh BK0.out) hkp (fun hs_ => (fun e_ => (Kd.R_ne HO_6.out BK0.out (by decide)) e_) hs_)); have n3_ := Aside0.mk (hb); clear HO_5 HO_6 BK0 HB; have HO_5 := n0_; have HO_6 := n1_; have BK0 := n2_; have HB := n3_; clear n0_ n1_ n2_ n3_; (try clear hb); (try clear hkp); (try clear hy0)))
    go_ret
    exact ⟨_, by first | rfl | (simp [errW_none, errW_some] <;> rfl) | (simp only [← hji3]; first | rfl | (simp [errW_none, errW_some] <;> rfl)) | (simp [*, errW_none, errW_some] <;> rfl), zr HO_6.out, zb HB.out⟩
   rw [if_pos c13] at H
   have c13b0 : decide (0 ≤ x7_1) = true := decide_eq_true c13
   clear c13
   by_cases c14 : 0 ≤ x7_1
   rotate_left
   ·rw [if_neg c14] at H
    exact absurd H (by simp)
   rw [if_pos c14] at H
   have c14b0 : decide (0 ≤ x7_1) = true := decide_eq_true c14
   clear c14
   by_cases c15 : x7_1 < (x5_1.length : Int)
   rotate_left
   ·rw [if_neg c15] at H
    exact absurd H (by simp)
   rw [if_pos c15] at H
   have c15b0 : decide (x7_1 < (x5_1.length : Int)) = true := decide_eq_true c15
   (try (have c15b0h := c15b0; simp only [hl5_1] at c15b0h))
   clear c15
   obtain ⟨bq16, hbq16⟩ : ∃ b_ : Bool, b_ = (rdOf false x5_1 x7_1) := ⟨_, rfl⟩
   replace H : (if bq16 = true then (if x6_1.length < 17592186044416 then ((impl_Pool_parts.f k1 l0_0 x7_1).bind fun t195 => (impl_Pool_below.l1 k1 x5_1 (x6_1 ++ [x7_1]) x7_1 t195 (t195.length : Int) 0 l0_0)) else (none)) else (impl_Pool_below.l0 k1 x5_1 x6_1 (wrap64 (x7_1 - 1)) l0_0)) = some r := by rw [← hbq16] at H; exact H
   have Nbq16 := Aside0.mk hbq16
   clear hbq16
   by_cases c17 : bq16 = true
   rotate_left
   ·replace c17 := Bool.eq_false_iff.mpr c17
    subst c17
    have H1 : (impl_Pool_below.l0 k1 x5_1 x6_1 (wrap64 (x7_1 - 1)) l0_0) = some r := by rw [if_neg (show ¬ (false = true) by decide)] at H; exact H
    clear H
    have H := H1
    clear H1
    have H' := Aside0.mk H
    clear H
    have p191 : 0 ≤ (x7_1 : Int) := of_decide_eq_true (by first | (with_reducible assumption) | assumption)
    have q191 : x7_1 < (x5_1.length : Int) := of_decide_eq_true (by first | (with_reducible assumption) | assumption)
    obtain ⟨ad191, e191, hx191_0⟩ := Kd.at_bool (Kd.R_reads' HO_5.out).2.2 x7_1 p191 q191
    (try rw [← Nbq16.out] at hx191_0)
    obtain rfl : (⟨go8, 0, none⟩ : Addr) = ad191 := (by injection e191)
    (first | simp only [add_plain] at hx191_0 | simp only [add_at] at hx191_0 | simp only [Addr.add, Nat.zero_add] at hx191_0 | skip)
    replace p191 := eq_true p191
    replace q191 := eq_true q191
    go_wp2
    (try simp only [← hl5_1])
    go_roundg k1
    case measure => have := HK1.out; omega
    case rel => exact ⟨(x5_1), (x6_1), (wrap64 (x7_1 - 1)), (by first | rfl | (simp; done) | (simp [*]; done)), H', ⟨by have := HK1.out; omega⟩, ⟨by (try simp only [hl5_1]); (with_reducible repeat (first | apply Kd.R_alloc | apply Kd.R_drewN | apply Kd.R_drew)); exact HO_5.out⟩, ⟨by (try simp only [hl5_1]); (with_reducible repeat (first | apply Kd.R_alloc | apply Kd.R_drewN | apply Kd.R_drew)); exact HO_6.out⟩, ⟨by (try simp only [hl5_1]); (with_reducible repeat (first | refine blk_drewN ?_ _ | refine blk_drew ?_ | refine blk_alloc ?_ _)); exact BK0.out⟩, ⟨zb HB.out⟩⟩
   subst c17
   have H1 : (if x6_1.length < 17592186044416 then ((impl_Pool_parts.f k1 l0_0 x7_1).bind fun t195 => (impl_Pool_below.l1 k1 x5_1 (x6_1 ++ [x7_1]) x7_1 t195 (t195.length : Int) 0 l0_0)) else (none)) = some r := by rw [if_pos rfl] at H; exact H
   clear H
   have H := H1
   clear H1
   by_cases c18 : x6_1.length < 17592186044416
   rotate_left
   ·rw [if_neg c18] at H
    exact absurd H (by simp)
   rw [if_pos c18] at H
   have LMc18 := Aside0.mk c18
   clear c18
   obtain ⟨y192, hy192⟩ : ∃ y_ : List Int, y_ = (x6_1 ++ [x7_1]) := ⟨_, rfl⟩
   replace H : ((impl_Pool_parts.f k1 l0_0 x7_1).bind fun t195 => (impl_Pool_below.l1 k1 x5_1 y192 x7_1 t195 (t195.length : Int) 0 l0_0)) = some r := by first | (rw [hy192]; with_reducible exact H) | (have H2_ := (Option.bind_some _ _).symm.trans H; rw [hy192]; with_reducible exact H2_) | (have H2_ := (Option.bind_some _ _).symm.trans H; with_reducible exact H2_) | with_reducible exact H | (rw [hy192]; exact H) | exact H
   have Ny192 := Aside0.mk hy192
   clear hy192
   replace H := Option.bind_eq_some_iff.mp H
   obtain ⟨t195, A190, H⟩ := H
   replace H : (impl_Pool_below.l1 k1 x5_1 y192 x7_1 t195 (t195.length : Int) 0 l0_0) = some r := H
   have A19 := Aside0.mk A190
   clear A190
   have H' := Aside0.mk H
   clear H
   have p191 : 0 ≤ (x7_1 : Int) := of_decide_eq_true (by first | (with_reducible assumption) | assumption)
   have q191 : x7_1 < (x5_1.length : Int) := of_decide_eq_true (by first | (with_reducible assumption) | assumption)
   obtain ⟨ad191, e191, hx191_0⟩ := Kd.at_bool (Kd.R_reads' HO_5.out).2.2 x7_1 p191 q191
   (try rw [← Nbq16.out] at hx191_0)
   obtain rfl : (⟨go8, 0, none⟩ : Addr) = ad191 := (by injection e191)
   (first | simp only [add_plain] at hx191_0 | simp only [add_at] at hx191_0 | simp only [Addr.add, Nat.zero_add] at hx191_0 | skip)
   replace p191 := eq_true p191
   replace q191 := eq_true q191
   go_wp2_with (first | ((with_reducible refine gate_builtin (b := .append) (xs := #[.tmp 26, .tmp 28]) rfl ?_); at_builtin; refine Kd.R_append (Kd.int .i64) (w0 := w) w.heap.size rfl (.tmp 26) (.tmp 28) 45 3 (.int .i64 0) 8 rfl Try.underlying45 info3 rfl (by decide) (by omega) u6 x6_1 x7_1 [.int .i64 x7_1] (fun _ => True) (fun _ => False) rfl rfl ?aP (fun _ hk => hk.elim) ?aF ?aO ?aB ?aS ?aL ?_; (case aP => exact rfl); (case aB => exact (zb HB.out)); (case aF => exact (fun _ _ => trivial)); (case aO => exact (zr HO_6.out)); (case aS => exact (below_size (zb HB.out))); (case aL => have := LMc18.out; omega); intro v193 w20 ho hb hg hat; rw [← Ny192.out] at ho; have n0_ := Aside0.mk (Kd.R_over' (zr HO_5.out) (Kd.R_typed (zr HO_6.out)) (by decide) hg); have n1_ := Aside0.mk (blk_grown (zh BK0.out) hg (Kd.R_ne HO_6.out BK0.out (by decide))); have n2_ := Aside0.mk (hb); have n3_ := Aside0.mk (ho); clear HO_5 BK0 HB HO_6; have HO_5 := n0_; have BK0 := n1_; have HB := n2_; have HO194 := n3_; clear n0_ n1_ n2_ n3_ ho hb hg hat) | ((with_reducible refine gate_callee (f := 52) rfl ?_); refine goesL_ (some 32) rfl rfl Try.func52 (by kernel_rfl) rfl #[.pointer (some ⟨g0_, 0, none⟩), .int .i64 x7_1] rfl zl ?_; (with_reducible refine (impl_Pool_parts.calls k1 _ A0_0 c0_0 l0_0 x7_1 t195 _ ?side1 ?side2 ?side3 A19.out).mono ?_); (case side1 => exact zh BK0.out); (case side2 => exact zc (Kd.C_below HR0_0.out HB.out)); (case side3 => exact HC0_0.out); rintro e w21 ⟨v196, rfl, ho0, hb⟩; refine ⟨_, rfl, ?_⟩; have n0_ := Aside0.mk (Kd.R_below (zr HO_5.out) hb); have n1_ := Aside0.mk (Kd.R_elder' (zr HO194.out) (Kd.R_base ho0) hb); have n2_ := Aside0.mk (Kd.R_lower (Kd.R_new' ho0 (Kd.R_lt (zr HO194.out))) (below_size (zb HB.out))); have n3_ := Aside0.mk (blk_below (zh BK0.out) hb); have n4_ := Aside0.mk (below_step (zb HB.out) hb); clear HO_5 HO194 BK0 HB; have HO_5 := n0_; have HO194 := n1_; have HO197 := n2_; have BK0 := n3_; have HB := n4_; clear n0_ n1_ n2_ n3_ n4_; (try clear hb); (try clear hb2); (try clear hk); (try clear hi); (try clear ho0); obtain ⟨Ao22, co22, eo22⟩ := Kd.R_slice HO197.out; subst eo22))
   go_loopg [34] k1 (fun kq v34 w' => ∃ (x5_2 : List Bool) (x34_2 : Int), v34 = .int .i64 x34_2 ∧ Aside0 (impl_Pool_below.l1 kq x5_2 y192 x7_1 t195 (t195.length : Int) x34_2 l0_0 = some r) ∧ Aside0 (kq ≤ k1) ∧ Aside0 (Kd.R Kd.bool 4 w' w.heap.size (fun _ => True) (.slice (some ⟨go8, 0, none⟩) x5_1.length co8) x5_2) ∧ Aside0 (Kd.R (Kd.int .i64) 3 w' w.heap.size (fun k_ => some k_ ≠ ((.slice Ao22 t195.length co22) : Value).ownBlock) v193 y192) ∧ Aside0 (Kd.R (Kd.int .i64) 3 w' w.heap.size (fun k_ => some k_ ≠ (v193 : Value).ownBlock) (.slice Ao22 t195.length co22) t195) ∧ Aside0 (w'.heap[g0_]? = some (.cells #[(.slice A0_0 l0_0.length c0_0)] 28 (0, 0))) ∧ Aside0 (Below w.heap.size w w'))
   case atStart => exact ⟨(x5_1), (0), (by first | rfl | (simp; done) | (simp [*]; done)), H', ⟨Nat.le_refl _⟩, ⟨by (try simp only [hl5_1]); (with_reducible repeat (first | apply Kd.R_alloc | apply Kd.R_drewN | apply Kd.R_drew)); exact HO_5.out⟩, ⟨by (try simp only [hl5_1]); (with_reducible repeat (first | apply Kd.R_alloc | apply Kd.R_drewN | apply Kd.R_drew)); exact Kd.R_mono HO194.out (fun _ hk => hk.2)⟩, ⟨by (try simp only [hl5_1]); (with_reducible repeat (first | apply Kd.R_alloc | apply Kd.R_drewN | apply Kd.R_drew)); exact Kd.R_mono HO197.out (fun _ hk => hk.2)⟩, ⟨by (try simp only [hl5_1]); (with_reducible repeat (first | refine blk_drewN ?_ _ | refine blk_drew ?_ | refine blk_alloc ?_ _)); exact BK0.out⟩, ⟨zb HB.out⟩⟩
   case round =>
    clear H'
    try clear c1
    try clear p1
    try clear q1
    try clear hx1
    try clear p2
    try clear c3
    try clear c4
    try clear c4b0
    try clear c4b1
    try clear c5
    try clear c5b0
    try clear c5b1
    try clear c6
    try clear c6b0
    try clear p6
    try clear c7
    try clear c7b0
    try clear p8
    try clear q8
    try clear hx8
    try clear hf8
    try clear c13
    try clear c13b0
    try clear c14
    try clear c14b0
    try clear c15
    try clear c15b0
    try clear q16
    try clear c17
    try clear c18
    try clear p19
    try clear q19
    try clear hx19
    try clear hx191_0
    try clear hx8_0
    try clear p191
    try clear p2
    try clear p6
    try clear p8
    try clear q191
    try clear q8
    obtain ⟨x5_2, x34_2, rfl, HA, HK2, HO_5, HO_6, HO_32, BK0, HB⟩ := hrel
    have hl5_2 := (Kd.R_reads' HO_5.out).1
    rw [hl5_2] at HO_5
    (try simp only [hl5_2])
    (try simp only [hl5_2] at BK0)
    (try simp only [hl5_2] at HO_6)
    (try simp only [hl5_2] at HO_32)
    cases gk with
    | zero => exact absurd HA.out (by simp [impl_Pool_below.l1])
    | succ k2 =>
     have H := HA.out
     clear HA
     simp only [impl_Pool_below.l1] at H
     by_cases c23 : x34_2 < (t195.length : Int)
     rotate_left
     ·rw [if_neg c23] at H
      have c23b0 : decide (x34_2 < (t195.length : Int)) = false := decide_eq_false c23
      (try (have c23b0h := c23b0; simp only [hl5_1, hl5_2] at c23b0h))
      clear c23
      have H' := Aside0.mk H
      clear H
      go_wp2
      (try simp only [← hl5_1, ← hl5_2])
      go_roundg k2
      case measure => have := HK1.out; have := HK2.out; omega
      case rel => exact ⟨(x5_2), (y192), (wrap64 (x7_1 - 1)), (by first | rfl | (simp; done) | (simp [*]; done)), H', ⟨by have := HK1.out; have := HK2.out; omega⟩, ⟨by (try simp only [hl5_1]); (try simp only [hl5_2]); (with_reducible repeat (first | apply Kd.R_alloc | apply Kd.R_drewN | apply Kd.R_drew)); exact HO_5.out⟩, ⟨by (try simp only [hl5_1]); (try simp only [hl5_2]); (with_reducible repeat (first | apply Kd.R_alloc | apply Kd.R_drewN | apply Kd.R_drew)); exact Kd.R_mono HO_6.out (fun _ hk => trivial)⟩, ⟨by (try simp only [hl5_1]); (try simp only [hl5_2]); (with_reducible repeat (first | refine blk_drewN ?_ _ | refine blk_drew ?_ | refine blk_alloc ?_ _)); exact BK0.out⟩, ⟨zb HB.out⟩⟩
     rw [if_pos c23] at H
     have c23b0 : decide (x34_2 < (t195.length : Int)) = true := decide_eq_true c23
     (try (have c23b0h := c23b0; simp only [hl5_1, hl5_2] at c23b0h))
     clear c23
     by_cases c24 : 0 ≤ x34_2
     rotate_left
     ·rw [if_neg c24] at H
      exact absurd H (by simp)
     rw [if_pos c24] at H
     have c24b0 : decide (0 ≤ x34_2) = true := decide_eq_true c24
     clear c24
     by_cases c25 : x34_2 < (t195.length : Int)
     rotate_left
     ·rw [if_neg c25] at H
      exact absurd H (by simp)
     rw [if_pos c25] at H
     have c25b0 : decide (x34_2 < (t195.length : Int)) = true := decide_eq_true c25
     (try (have c25b0h := c25b0; simp only [hl5_1, hl5_2] at c25b0h))
     clear c25
     by_cases c26 : 0 ≤ (rd t195 x34_2)
     rotate_left
     ·rw [if_neg c26] at H
      exact absurd H (by simp)
     rw [if_pos c26] at H
     have c26b0 : decide (0 ≤ (rd t195 x34_2)) = true := decide_eq_true c26
     clear c26
     by_cases c27 : (rd t195 x34_2) < (x5_2.length : Int)
     rotate_left
     ·rw [if_neg c27] at H
      exact absurd H (by simp)
     rw [if_pos c27] at H
     have c27b0 : decide ((rd t195 x34_2) < (x5_2.length : Int)) = true := decide_eq_true c27
     (try (have c27b0h := c27b0; simp only [hl5_1, hl5_2] at c27b0h))
     clear c27
     obtain ⟨y199, hy199⟩ : ∃ y_ : List Bool, y_ = (x5_2.set ((rd t195 x34_2) : Int).toNat true) := ⟨_, rfl⟩
     replace H : (impl_Pool_below.l1 k2 y199 y192 x7_1 t195 (t195.length : Int) (wrap64 (x34_2 + 1)) l0_0) = some r := by first | (rw [hy199]; with_reducible exact H) | (have H2_ := (Option.bind_some _ _).symm.trans H; rw [hy199]; with_reducible exact H2_) | (have H2_ := (Option.bind_some _ _).symm.trans H; with_reducible exact H2_) | with_reducible exact H | (rw [hy199]; exact H) | exact H
     have Ny199 := Aside0.mk hy199
     clear hy199
     have H' := Aside0.mk H
     clear H
     have p198 : 0 ≤ (x34_2 : Int) := of_decide_eq_true (by first | (with_reducible assumption) | assumption)
     have q198 : x34_2 < (t195.length : Int) := of_decide_eq_true (by first | (with_reducible assumption) | assumption)
     obtain ⟨ad198, e198, hx198_0⟩ := Kd.at_int (Kd.R_reads' HO_32.out).2.2 x34_2 p198 q198
     cases e198
     replace p198 := eq_true p198
     replace q198 := eq_true q198
     have p28 : 0 ≤ ((rd t195 x34_2) : Int) := of_decide_eq_true (by first | (with_reducible assumption) | assumption)
     have q28 : ((rd t195 x34_2) : Int) < ((x5_2.length : Int) : Int) := of_decide_eq_true (by first | (with_reducible assumption) | assumption)
     obtain ⟨hx28_0, hf28_0⟩ := Kd.R_celln false HO_5.out ((rd t195 x34_2) : Int) p28 q28
     replace p28 := eq_true p28
     replace q28 := eq_true q28
     have HP29 := Kd.R_putg HO_5.out ((rd t195 x34_2) : Int) true
     go_wp2_with (first | ((with_reducible refine gate_store (t := 4) (p := 40) rfl ?_); refine store_event (t := 4) (p := 40) (v := ?vo_w30) (w1 := (wr.setCell ⟨go8, ((rd t195 x34_2) : Int).toNat, none⟩ (.bool true))) ?hg ?ho ?hn ?hr ?_; (case ho => rfl); (case hg => rfl); (case hn => rfl); (case hr => first | (go_simp; done) | (go_simp; rfl)); intro w30 hw; have hg : wr.grownBy w30 (some go8) := (by rw [hw]; exact HP29.2); have hp_ : Kd.R Kd.bool 4 w30 w.heap.size (fun _ => True) (.slice (some ⟨go8, 0, none⟩) x5_2.length co8) y199 := (by rw [hw, Ny199.out]; exact HP29.1); clear HP29; have n0_ := Aside0.mk (hp_); have n1_ := Aside0.mk (Kd.R_over' (v := (.slice (some ⟨go8, 0, none⟩) x5_2.length co8)) (zr HO_6.out) (Kd.R_typed HO_5.out) (by decide) hg); have n2_ := Aside0.mk (Kd.R_over' (v := (.slice (some ⟨go8, 0, none⟩) x5_2.length co8)) (zr HO_32.out) (Kd.R_typed HO_5.out) (by decide) hg); have n3_ := Aside0.mk (blk_grown (zh BK0.out) hg (Kd.R_ne HO_5.out BK0.out (by decide))); have n4_ := Aside0.mk ((by rw [hw]; exact below_set (HB.out) GB8.out : Below w.heap.size w w30)); clear HO_5 HO_6 HO_32 BK0 HB; have HO_5 := n0_; have HO_6 := n1_; have HO_32 := n2_; have BK0 := n3_; have HB := n4_; clear n0_ n1_ n2_ n3_ n4_ hg hw hp_))
     (try simp only [← hl5_2])
     go_roundg k2
     case measure => have := HK1.out; have := HK2.out; omega
     case rel => exact ⟨(y199), (wrap64 (x34_2 + 1)), (by first | rfl | (simp; done) | (simp [*]; done)), H', ⟨by have := HK1.out; have := HK2.out; omega⟩, ⟨by (try simp only [hl5_1]); (try simp only [hl5_2]); (with_reducible repeat (first | apply Kd.R_alloc | apply Kd.R_drewN | apply Kd.R_drew)); exact HO_5.out⟩, ⟨by (try simp only [hl5_1]); (try simp only [hl5_2]); (with_reducible repeat (first | apply Kd.R_alloc | apply Kd.R_drewN | apply Kd.R_drew)); exact HO_6.out⟩, ⟨by (try simp only [hl5_1]); (try simp only [hl5_2]); (with_reducible repeat (first | apply Kd.R_alloc | apply Kd.R_drewN | apply Kd.R_drew)); exact HO_32.out⟩, ⟨by (try simp only [hl5_1]); (try simp only [hl5_2]); (with_reducible repeat (first | refine blk_drewN ?_ _ | refine blk_drew ?_ | refine blk_alloc ?_ _)); exact BK0.out⟩, ⟨zb HB.out⟩⟩
/-! ### impl_Node_87: function 87 -/
def impl_Node_87.l0 : Nat → List (S55) → Int → Int → Int → Int → Int → Option (Int)
 | 0, _, _, _, _, _, _ => none
 | k + 1, x0, x7, x8, x201000, x201001, x201002 => if x8 < x7 then (if 0 ≤ x8 then (if x8 < (x0.length : Int) then (if (x201000 == ((rd_T55 x0 x8).f0) && (x201001 == ((rd_T55 x0 x8).f1) && (x201002 == ((rd_T55 x0 x8).f2)))) = true then (some x8) else (impl_Node_87.l0 k x0 x7 (wrap64 (x8 + 1)) x201000 x201001 x201002)) else (none)) else (none)) else (some (-1))
def impl_Node_87.f (k : Nat) (l0 : List (S55)) (a1_0 : Int) (a1_1 : Int) (a1_2 : Int) : Option (Int) := impl_Node_87.l0 k l0 (l0.length : Int) 0 a1_0 a1_1 a1_2
set_option maxHeartbeats 8000000 in
set_option maxRecDepth 100000 in
theorem impl_Node_87.calls (k : Nat) (A0 : Option Addr) (c0 : Nat) (l0 : List (S55)) (a1_0 : Int) (a1_1 : Int) (a1_2 : Int) (r : Int) (w : World) (hr0 : Kd.C k55 w A0 l0.length l0) (hc0 : l0.length ≤ c0) (h : impl_Node_87.f k l0 a1_0 a1_1 a1_2 = some r) :
  Calls Try.prog 87 #[.slice A0 l0.length c0, .agg #[.int .i64 a1_0, .int .i64 a1_1, .int .i64 a1_2]] w fun e w' => e = .returned (.int .i64 r) ∧ Below w.heap.size w w' := by
 have hu55 := Try.underlying55
 have HR0 := Aside0.mk hr0
 have HC0 := Aside0.mk hc0
 clear hr0 hc0
 have HB := Aside0.mk (Below.refl w.heap.size w)
 have H : (impl_Node_87.l0 k l0 (l0.length : Int) 0 a1_0 a1_1 a1_2) = some r := h
 clear h
 have H' := Aside0.mk H
 clear H
 go_enter Try.func87, Try.ntmps87
 go_wp2_with (first | ((with_reducible refine gate_dst (N := 3) rfl ?_); refine box_event ?hg (N := 3) ?hd (cs := #[.int .i64 a1_0, .int .i64 a1_1, .int .i64 a1_2]) (t := 55) ?hr ?_; (case hd => rfl); (case hg => rfl); (case hr => first | (go_simp; done) | (go_simp; rfl)); intro gb200 hg w3 hbox hb; have n0_ := Aside0.mk (below_step (zb HB.out) hb); have n1_ := Aside0.mk (hbox); have n2_ := Aside0.mk ((by rw [hg]; exact (below_size (zb HB.out)) : w.heap.size ≤ gb200)); have n3_ := Aside0.mk ((by rw [hg]; exact (below_size (zb HB.out)) : w.heap.size ≤ gb200)); clear HB; have HB := n0_; have BK200 := n1_; have GW200 := n2_; have GE200 := n3_; clear n0_ n1_ n2_ n3_ hb hbox hg))
 repeat (go_quiet (first | ((with_reducible refine gate_dst (N := 3) rfl ?_); refine box_event ?hg (N := 3) ?hd (cs := #[.int .i64 a1_0, .int .i64 a1_1, .int .i64 a1_2]) (t := 55) ?hr ?_; (case hd => rfl); (case hg => rfl); (case hr => first | (go_simp; done) | (go_simp; rfl)); intro gb200 hg w3 hbox hb; have n0_ := Aside0.mk (below_step (zb HB.out) hb); have n1_ := Aside0.mk (hbox); have n2_ := Aside0.mk ((by rw [hg]; exact (below_size (zb HB.out)) : w.heap.size ≤ gb200)); have n3_ := Aside0.mk ((by rw [hg]; exact (below_size (zb HB.out)) : w.heap.size ≤ gb200)); clear HB; have HB := n0_; have BK200 := n1_; have GW200 := n2_; have GE200 := n3_; clear n0_ n1_ n2_ n3_ hb hbox hg)); try go_wp2_with (first | ((with_reducible refine gate_dst (N := 3) rfl ?_); refine box_event ?hg (N := 3) ?hd (cs := #[.int .i64 a1_0, .int .i64 a1_1, .int .i64 a1_2]) (t := 55) ?hr ?_; (case hd => rfl); (case hg => rfl); (case hr => first | (go_simp; done) | (go_simp; rfl)); intro gb200 hg w3 hbox hb; have n0_ := Aside0.mk (below_step (zb HB.out) hb); have n1_ := Aside0.mk (hbox); have n2_ := Aside0.mk ((by rw [hg]; exact (below_size (zb HB.out)) : w.heap.size ≤ gb200)); have n3_ := Aside0.mk ((by rw [hg]; exact (below_size (zb HB.out)) : w.heap.size ≤ gb200)); clear HB; have HB := n0_; have BK200 := n1_; have GW200 := n2_; have GE200 := n3_; clear n0_ n1_ n2_ n3_ hb hbox hg)))
 go_loopg [8] k (fun kq v8 w' => ∃ (x8_1 : Int), v8 = .int .i64 x8_1 ∧ Aside0 (impl_Node_87.l0 kq l0 (l0.length : Int) x8_1 a1_0 a1_1 a1_2 = some r) ∧ Aside0 (kq ≤ k) ∧ Aside0 (w'.heap[gb200]? = some (.cells #[.int .i64 a1_0, .int .i64 a1_1, .int .i64 a1_2] 55 (0, 0))) ∧ Aside0 (Below w.heap.size w w'))
 case atStart => exact ⟨(0), (by first | rfl | (simp; done) | (simp [*]; done)), H', ⟨Nat.le_refl _⟩, ⟨zh BK200.out⟩, ⟨zb HB.out⟩⟩
 case round =>
  clear H'
  try clear p2
  obtain ⟨x8_1, rfl, HA, HK1, BK200, HB⟩ := hrel
  cases gk with
  | zero => exact absurd HA.out (by simp [impl_Node_87.l0])
  | succ k1 =>
   have H := HA.out
   clear HA
   simp only [impl_Node_87.l0] at H
   by_cases c4 : x8_1 < (l0.length : Int)
   rotate_left
   ·rw [if_neg c4] at H
    have c4b0 : decide (x8_1 < (l0.length : Int)) = false := decide_eq_false c4
    clear c4
    obtain rfl := Option.some.inj H
    go_wp2
    repeat (go_quiet (fail); try go_wp2)
    go_ret
    exact ⟨ze, zb HB.out⟩

   rw [if_pos c4] at H
   have c4b0 : decide (x8_1 < (l0.length : Int)) = true := decide_eq_true c4
   clear c4
   by_cases c5 : 0 ≤ x8_1
   rotate_left
   ·rw [if_neg c5] at H
    exact absurd H (by simp)
   rw [if_pos c5] at H
   have c5b0 : decide (0 ≤ x8_1) = true := decide_eq_true c5
   clear c5
   by_cases c6 : x8_1 < (l0.length : Int)
   rotate_left
   ·rw [if_neg c6] at H
    exact absurd H (by simp)
   rw [if_pos c6] at H
   have c6b0 : decide (x8_1 < (l0.length : Int)) = true := decide_eq_true c6
   clear c6
   by_cases c7 : (a1_0 == ((rd_T55 l0 x8_1).f0) && (a1_1 == ((rd_T55 l0 x8_1).f1) && (a1_2 == ((rd_T55 l0 x8_1).f2)))) = true
   ·rw [if_pos c7] at H
    have c7b0 : (a1_0 == ((rd_T55 l0 x8_1).f0) && (a1_1 == ((rd_T55 l0 x8_1).f1) && (a1_2 == ((rd_T55 l0 x8_1).f2)))) = true := c7
    (try (have c7b1 : decide (a1_0 = ((rd_T55 l0 x8_1).f0) && (a1_1 == ((rd_T55 l0 x8_1).f1) && (a1_2 == ((rd_T55 l0 x8_1).f2)))) = true := by simpa using c7))
    (try (have c7b2 : (a1_0 == ((rd_T55 l0 x8_1).f0) && (a1_1 == ((rd_T55 l0 x8_1).f1) && (a1_2 == ((rd_T55 l0 x8_1).f2)))) = true := by simpa using c7))
    clear c7
    obtain rfl := Option.some.inj H
    have hcz8_0 : wr.cell? ⟨gb200, 0, none⟩ = some (.int .i64 a1_0) := (blk_cell BK200.out 0).trans rfl
    have hcz8_1 : wr.cell? ⟨gb200, 1, none⟩ = some (.int .i64 a1_1) := (blk_cell BK200.out 1).trans rfl
    have hcz8_2 : wr.cell? ⟨gb200, 2, none⟩ = some (.int .i64 a1_2) := (blk_cell BK200.out 2).trans rfl
    have hfz8_0 := blk_frozen BK200.out 0
    have hfz8_1 := blk_frozen BK200.out 1
    have hfz8_2 := blk_frozen BK200.out 2
    have p201 : 0 ≤ (x8_1 : Int) := of_decide_eq_true (by first | (with_reducible assumption) | assumption)
    have q201 : x8_1 < (l0.length : Int) := of_decide_eq_true (by first | (with_reducible assumption) | assumption)
    obtain ⟨ad201, e201, hx201_0, hx201_1, hx201_2⟩ := at_T55 HR0.out x8_1 p201 q201
    cases e201
    replace hx201_0 := (HB.out.cell (World.block_lt_of_cell? w _ hx201_0)).trans hx201_0
    replace hx201_1 := (HB.out.cell (World.block_lt_of_cell? w _ hx201_1)).trans hx201_1
    replace hx201_2 := (HB.out.cell (World.block_lt_of_cell? w _ hx201_2)).trans hx201_2
    replace p201 := eq_true p201
    replace q201 := eq_true q201
    go_wp2
    repeat (go_quiet (fail); try go_wp2)
    go_ret
    exact ⟨ze, zb HB.out⟩
   rw [if_neg c7] at H
   have c7b0 : (a1_0 == ((rd_T55 l0 x8_1).f0) && (a1_1 == ((rd_T55 l0 x8_1).f1) && (a1_2 == ((rd_T55 l0 x8_1).f2)))) = false := by simpa using c7
   (try (have c7b1 : decide (a1_0 = ((rd_T55 l0 x8_1).f0) && (a1_1 == ((rd_T55 l0 x8_1).f1) && (a1_2 == ((rd_T55 l0 x8_1).f2)))) = false := by simpa using c7))
   (try (have c7b2 : (a1_0 == ((rd_T55 l0 x8_1).f0) && (a1_1 == ((rd_T55 l0 x8_1).f1) && (a1_2 == ((rd_T55 l0 x8_1).f2)))) = false := by simpa using c7))
   (try (have c7b3 : ¬ (a1_0 = ((rd_T55 l0 x8_1).f0) && (a1_1 == ((rd_T55 l0 x8_1).f1) && (a1_2 == ((rd_T55 l0 x8_1).f2)))) := by simpa using c7))
   clear c7
   have H' := Aside0.mk H
   clear H
   have hcz9_0 : wr.cell? ⟨gb200, 0, none⟩ = some (.int .i64 a1_0) := (blk_cell BK200.out 0).trans rfl
   have hcz9_1 : wr.cell? ⟨gb200, 1, none⟩ = some (.int .i64 a1_1) := (blk_cell BK200.out 1).trans rfl
   have hcz9_2 : wr.cell? ⟨gb200, 2, none⟩ = some (.int .i64 a1_2) := (blk_cell BK200.out 2).trans rfl
   have hfz9_0 := blk_frozen BK200.out 0
   have hfz9_1 := blk_frozen BK200.out 1
   have hfz9_2 := blk_frozen BK200.out 2
   have p201 : 0 ≤ (x8_1 : Int) := of_decide_eq_true (by first | (with_reducible assumption) | assumption)
   have q201 : x8_1 < (l0.length : Int) := of_decide_eq_true (by first | (with_reducible assumption) | assumption)
   obtain ⟨ad201, e201, hx201_0, hx201_1, hx201_2⟩ := at_T55 HR0.out x8_1 p201 q201
   cases e201
   replace hx201_0 := (HB.out.cell (World.block_lt_of_cell? w _ hx201_0)).trans hx201_0
   replace hx201_1 := (HB.out.cell (World.block_lt_of_cell? w _ hx201_1)).trans hx201_1
   replace hx201_2 := (HB.out.cell (World.block_lt_of_cell? w _ hx201_2)).trans hx201_2
   replace p201 := eq_true p201
   replace q201 := eq_true q201
   go_wp2
   repeat (go_quiet (fail); try go_wp2)
   go_roundg k1
   case measure => have := HK1.out; omega
   case rel => exact ⟨(wrap64 (x8_1 + 1)), (by first | rfl | (simp; done) | (simp [*]; done)), H', ⟨by have := HK1.out; omega⟩, ⟨zh BK200.out⟩, ⟨zb HB.out⟩⟩
end Go.Proofs.Ytobkledmbnacjaa.M
end

section
namespace Go.Proofs.Ytobkledmbnacjaa.M
open Go.RowKit Go.Proofs.YtobkledmbnacjaaW.PrintWords Go.Proofs.YtobkledmbnacjaaW.PrintLast Go.Proofs.YtobkledmbnacjaaW.PrintMore
attribute [local go_sem] max2_int min2_int max_two min_two max_three min_three max_four min_four   -- for this text's walks alone
set_option linter.unusedVariables false
set_option linter.unusedSimpArgs false
set_option maxRecDepth 100000

/-! ### impl_Pool_find: function 74 -/
def impl_Pool_find.f (k : Nat) (l0_0 : List (S55)) (a1_0 : Int) (a1_1 : Int) (a1_2 : Int) : Option (Int) := (impl_Node_87.f k l0_0 a1_0 a1_1 a1_2).bind fun t203 => (some t203)
set_option maxHeartbeats 8000000 in
set_option maxRecDepth 100000 in
theorem impl_Pool_find.calls (k : Nat) (g0_ : Nat) (A0_0 : Option Addr) (c0_0 : Nat) (l0_0 : List (S55)) (a1_0 : Int) (a1_1 : Int) (a1_2 : Int) (r : Int) (w : World) (hk0_ : w.heap[g0_]? = some (.cells #[.slice A0_0 l0_0.length c0_0] 28 (0, 0))) (hr0_0 : Kd.C k55 w A0_0 l0_0.length l0_0) (hc0_0 : l0_0.length ≤ c0_0) (h : impl_Pool_find.f k l0_0 a1_0 a1_1 a1_2 = some r) :
  Calls Try.prog 74 #[.pointer (some ⟨g0_, 0, none⟩), .agg #[.int .i64 a1_0, .int .i64 a1_1, .int .i64 a1_2]] w fun e w' => e = .returned (.int .i64 r) ∧ Below w.heap.size w w' := by
 have hu55 := Try.underlying55
 have HR0_0 := Aside0.mk hr0_0
 have HC0_0 := Aside0.mk hc0_0
 clear hr0_0 hc0_0
 have BK0 := Aside0.mk hk0_
 clear hk0_
 have HB := Aside0.mk (Below.refl w.heap.size w)
 have H : ((impl_Node_87.f k l0_0 a1_0 a1_1 a1_2).bind fun t203 => (some t203)) = some r := h
 clear h
 replace H := Option.bind_eq_some_iff.mp H
 obtain ⟨t203, A30, H⟩ := H
 replace H : (some t203) = some r := H
 have A3 := Aside0.mk A30
 clear A30
 obtain rfl := Option.some.inj H
 go_enter Try.func74, Try.ntmps74
 try go_wp2_with (first | ((with_reducible refine gate_dst (N := 3) rfl ?_); refine box_event ?hg (N := 3) ?hd (cs := #[.int .i64 a1_0, .int .i64 a1_1, .int .i64 a1_2]) (t := 55) ?hr ?_; (case hd => rfl); (case hg => rfl); (case hr => first | (go_simp; done) | (go_simp; rfl)); intro gb202 hg w4 hbox hb; have n0_ := Aside0.mk (blk_below (zh BK0.out) hb); have n1_ := Aside0.mk (below_step (zb HB.out) hb); have n2_ := Aside0.mk (hbox); have n3_ := Aside0.mk ((by rw [hg]; exact (below_size (zb HB.out)) : w.heap.size ≤ gb202)); have n4_ := Aside0.mk ((by rw [hg]; exact (below_size (zb HB.out)) : w.heap.size ≤ gb202)); have n5_ := Aside0.mk ((by rw [hg]; exact Nat.ne_of_lt (blk_lt (zh BK0.out)) : g0_ ≠ gb202)); have n6_ := Aside0.mk ((by rw [hg]; exact Nat.ne_of_gt (blk_lt (zh BK0.out)) : gb202 ≠ g0_)); clear BK0 HB; have BK0 := n0_; have HB := n1_; have BK202 := n2_; have GW202 := n3_; have GE202 := n4_; have NB0_202 := n5_; have NB202_0 := n6_; clear n0_ n1_ n2_ n3_ n4_ n5_ n6_ hb hbox hg))
 have n0_ := Aside0.mk (blk_drew BK0.out)
 have n1_ := Aside0.mk (blk_drew BK202.out)
 have n2_ := Aside0.mk (below_drew1 HB.out)
 clear BK0 BK202 HB
 have BK0 := n0_
 have BK202 := n1_
 have HB := n2_
 clear n0_ n1_ n2_
 refine start_ (n := 7) (S := fun w' => w'.cell? ⟨g0_, 0, none⟩ = some (.slice A0_0 l0_0.length c0_0) ∧ w'.cell? ⟨gb202, 0, none⟩ = some (.int .i64 a1_0) ∧ w'.cell? ⟨gb202, 1, none⟩ = some (.int .i64 a1_1) ∧ w'.cell? ⟨gb202, 2, none⟩ = some (.int .i64 a1_2)) (ds := []) #[false, false, false, false, false, false, false] (by kernel_rfl) rfl rfl ⟨(blk_cell BK0.out 0).trans rfl, (blk_cell BK202.out 0).trans rfl, (blk_cell BK202.out 1).trans rfl, (blk_cell BK202.out 2).trans rfl⟩ (fun hHeld => ?_)
 generalize w4.drew = w5 at BK0 BK202 HB hHeld ⊢
 refine pure_ (i := 0) (N := some 5) (v := ?_) (a' := ?_) (zB 7 1) rfl rfl (by kernel_rfl) (fun _ _ _ h => h) (Or.inl ⟨by rfl, ?_⟩) ?_ ?_
 rotate_left
 ·intro w'
  go_simp
  with_reducible rfl
 rotate_left
 ·exact zn
 refine pure_ (i := 1) (N := some 6) (v := ?_) (a' := ?_) (zB 7 3) rfl rfl (by kernel_rfl) (fun _ _ _ h => h) (Or.inl ⟨by rfl, ?_⟩) ?_ ?_
 rotate_left
 ·intro w'
  go_simp
  with_reducible rfl
 rotate_left
 ·exact zn
 refine pure_ (i := 2) (N := some 7) (v := ?_) (a' := ?_) (zB 7 7) rfl rfl (by kernel_rfl) (fun _ _ _ h => h) (Or.inl ⟨by rfl, ?_⟩) ?_ ?_
 rotate_left
 ·intro w'
  go_simp
  with_reducible rfl
 rotate_left
 ·exact zn
 refine take_ (i := 3) (N := some 8) (v := ?_) (a' := ?_) (zB 7 15) rfl rfl (by kernel_rfl) (fun _ _ _ h => h) (Or.inl ⟨by rfl, ?_⟩) hHeld ?_ ?_
 rotate_left
 ·rintro w' ⟨s0, s1, s2, s3⟩
  go_simp
  with_reducible rfl
 rotate_left
 ·exact zn
 refine take_ (i := 4) (N := some 9) (v := ?_) (a' := ?_) (zB 7 31) rfl rfl (by kernel_rfl) (fun _ _ _ h => h) (Or.inl ⟨by rfl, ?_⟩) hHeld ?_ ?_
 rotate_left
 ·rintro w' ⟨s0, s1, s2, s3⟩
  go_simp
  with_reducible rfl
 rotate_left
 ·exact zn
 refine one_ (i := 5) (N := some 10) (zB 7 63) rfl rfl (by kernel_rfl) (by decide) (fun K hK => ?_)
 refine goes_ Try.func87 (by kernel_rfl) rfl #[.slice A0_0 l0_0.length c0_0, .agg #[.int .i64 a1_0, .int .i64 a1_1, .int .i64 a1_2]] (by rfl) rfl rfl zl ?_
 with_reducible refine (impl_Node_87.calls k _ _ l0_0 a1_0 a1_1 a1_2 t203 _ ?side1 ?side2 A3.out).mono ?_
 (case side1 => exact zc (Kd.C_below HR0_0.out HB.out))
 (case side2 => exact HC0_0.out)
 rintro e w6 ⟨rfl, hb⟩
 refine ⟨_, rfl, ?_⟩
 have n0_ := Aside0.mk (blk_below (zh BK0.out) hb)
 have n1_ := Aside0.mk (blk_below (zh BK202.out) hb)
 have n2_ := Aside0.mk (below_step (zb HB.out) hb)
 clear BK0 BK202 HB
 have BK0 := n0_
 have BK202 := n1_
 have HB := n2_
 clear n0_ n1_ n2_
 (try clear hb)
 (try clear hb2)
 (try clear hk)
 (try clear hi)
 refine hK.out _ _ ⟨(blk_cell BK0.out 0).trans rfl, (blk_cell BK202.out 0).trans rfl, (blk_cell BK202.out 1).trans rfl, (blk_cell BK202.out 2).trans rfl⟩ (fun hHeld => ?_)
 clear hK K
 refine norm_ (a' := ?_) ?_ ?_
 rotate_left
 ·exact zn (N := some 10)
 refine pure_ (i := 6) (N := some 4) (v := ?_) (a' := ?_) (zB 7 127) rfl rfl (by kernel_rfl) (fun _ _ _ h => h) (Or.inl ⟨by rfl, ?_⟩) ?_ ?_
 rotate_left
 ·intro w'
  go_simp
  with_reducible rfl
 rotate_left
 ·exact zn
 refine done_ (by kernel_rfl) ?_
 try go_wp2
 go_ret
 exact ⟨ze, zb HB.out⟩

end Go.Proofs.Ytobkledmbnacjaa.M
end

section
namespace Go.Proofs.Ytobkledmbnacjaa.M
open Go.RowKit Go.Proofs.YtobkledmbnacjaaW.PrintWords Go.Proofs.YtobkledmbnacjaaW.PrintLast Go.Proofs.YtobkledmbnacjaaW.PrintMore
attribute [local go_sem] max2_int min2_int max_two min_two max_three min_three max_four min_four   -- for this text's walks alone
set_option linter.unusedVariables false
set_option linter.unusedSimpArgs false
set_option maxRecDepth 100000

/-! ### impl_Pool_add: function 64 -/
def impl_Pool_add.j0 : Nat → List (S55) → Int → Int → Int → Option (List (S55) × Int)
 | 0, _, _, _, _ => none
 | k + 1, x280000, x281000, x281001, x281002 => (impl_nodeOk.f k x281000 x281001 x281002 (x280000.length : Int)).bind fun t281 => (if t281 = true then ((impl_Pool_find.f k x280000 x281000 x281001 x281002).bind fun t282 => (if t282 ≥ 0 then (some (x280000, t282)) else (if (x280000.length : Int) ≥ 500 then (some (x280000, -1)) else (if x280000.length < 5864062014805 then (some (x280000 ++ [(⟨x281000, x281001, x281002⟩ : S55)], wrap64 (((x280000 ++ [(⟨x281000, x281001, x281002⟩ : S55)]).length : Int) - 1))) else (none))))) else (some (x280000, -1)))
def impl_Pool_add.f (k : Nat) (l0_0 : List (S55)) (a1 : Int) (a2 : Int) (a3 : Int) : Option (List (S55) × Int) := if a1 = 8 then (impl_Pool_add.j0 k l0_0 a1 (mn a2 a3) (mx a2 a3)) else (impl_Pool_add.j0 k l0_0 a1 a2 a3)
def impl_Pool_add.T4 : Bool × List (List Nat × List Nat) := (true, [([], []), ([], []), ([1], [1]), ([2], [2]), ([3], [3]), ([4], [4]), ([0, 5], [0, 5]), ([6], [6])])
def impl_Pool_add.B4 : List Nat := [0, 0, 2, 6, 14, 30, 63, 127]
theorem impl_Pool_add.tab4 : rtab .any (opsOf Try.f64 4) = impl_Pool_add.T4 := by kernel_rfl
theorem impl_Pool_add.bits4 : waitsOk impl_Pool_add.T4.2 impl_Pool_add.B4 = true := by kernel_rfl
def impl_Pool_add.T11 : Bool × List (List Nat × List Nat) := (true, [([], []), ([], []), ([1], [1]), ([2], [2]), ([3], [3]), ([], []), ([5], [5]), ([4, 6], [4, 6]), ([0, 0, 1, 2, 3, 4, 5, 6, 7], [0]), ([8, 0, 1, 2, 3, 4, 5, 6, 7], [8]), ([9, 7, 7, 0, 1, 2, 3, 4, 5, 6, 7], [7, 9])])
def impl_Pool_add.B11 : List Nat := [0, 0, 2, 6, 14, 0, 32, 126, 255, 511, 1023]
theorem impl_Pool_add.tab11 : rtab .any (opsOf Try.f64 11) = impl_Pool_add.T11 := by kernel_rfl
theorem impl_Pool_add.bits11 : waitsOk impl_Pool_add.T11.2 impl_Pool_add.B11 = true := by kernel_rfl
set_option maxHeartbeats 8000000 in
set_option maxRecDepth 100000 in
theorem impl_Pool_add.calls (k : Nat) (gb279 : Nat) (P0_0_ : Nat → Prop) (u9000_ : Value) (l0_0 : List (S55)) (a1 : Int) (a2 : Int) (a3 : Int) (r : List (S55) × Int) (w0 w : World) (hB : Below w0.heap.size w0 w) (hge : w0.heap.size ≤ gb279) (hbx : w.heap[gb279]? = some (.cells #[u9000_] 28 (0, 0))) (ho0_0 : Kd.R k55 55 w w0.heap.size P0_0_ u9000_ l0_0) (h : impl_Pool_add.f k l0_0 a1 a2 a3 = some r) :
  Calls Try.prog 64 #[.pointer (some ⟨gb279, 0, none⟩), .int .i64 a1, .int .i64 a2, .int .i64 a3] w fun e w' => e = .returned (.int .i64 r.2) ∧ Below w0.heap.size w0 w' ∧ Kept w w' (fun k_ => P0_0_ k_ ∨ k_ = gb279) ∧ ∃ u_ : Value, w'.heap[gb279]? = some (.cells #[u_] 28 (0, 0)) ∧ Kd.R k55 55 w' w0.heap.size (fun k_ => P0_0_ k_ ∨ w.heap.size ≤ k_) u_ r.1 := by
 have hu28 := Try.underlying28
 have hu55 := Try.underlying55
 have HO0_0 := Aside0.mk (show Kd.R k55 55 w w0.heap.size (fun k_ => (P0_0_ k_ ∨ w.heap.size ≤ k_)) u9000_ l0_0 from Kd.R_mono ho0_0 (fun k_ hk => (.inl hk)))
 have HK := Aside0.mk (Kept.refl w (fun k_ => P0_0_ k_ ∨ k_ = gb279))
 have HW0 := Aside0.mk hB.size
 have HB := Aside0.mk hB
 clear hB
 have H : (if a1 = 8 then (impl_Pool_add.j0 k l0_0 a1 (mn a2 a3) (mx a2 a3)) else (impl_Pool_add.j0 k l0_0 a1 a2 a3)) = some r := h
 clear h
 have HC5 := Aside0.mk H
 clear H
 obtain ⟨Ao6, co6, eo6⟩ := Kd.R_slice HO0_0.out
 subst eo6
 have BK279 := Aside0.mk hbx
 have GE279 := Aside0.mk hge
 clear hbx hge
 go_enter Try.func64, Try.ntmps64
 go_upto_if 16 with (first | ((with_reducible refine gate_dst (N := 9) rfl ?_); refine box_event ?hg (N := 9) ?hd (cs := #[.int .i64 0, .int .i64 0, .int .i64 0]) (t := 55) ?hr ?_; (case hd => rfl); (case hg => rfl); (case hr => first | (go_simp; done) | (go_simp; rfl)); intro gb280 hg w8 hbox hb; have n0_ := Aside0.mk (Kd.R_below (Kd.R_elderB (zr HO0_0.out) gb280 (Nat.le_of_eq hg.symm)) hb); have n1_ := Aside0.mk (blk_below (zh BK279.out) hb); have n2_ := Aside0.mk (Kept.below (S := (fun k_ => P0_0_ k_ ∨ k_ = gb279)) (zk HK.out) hb); have n3_ := Aside0.mk (below_step (zb HB.out) hb); have n4_ := Aside0.mk (hbox); have n5_ := Aside0.mk ((by rw [hg]; exact (by first | exact HK.out.1 | exact (show Kept w _ (fun k_ => P0_0_ k_ ∨ k_ = gb279) from zk HK.out).1) : w.heap.size ≤ gb280)); have n6_ := Aside0.mk ((by rw [hg]; exact (below_size (zb HB.out)) : w0.heap.size ≤ gb280)); have n7_ := Aside0.mk ((by rw [hg]; exact Nat.ne_of_lt (blk_lt (zh BK279.out)) : gb279 ≠ gb280)); have n8_ := Aside0.mk ((by rw [hg]; exact Nat.ne_of_gt (blk_lt (zh BK279.out)) : gb280 ≠ gb279)); clear HO0_0 BK279 HK HB; have HO0_0 := n0_; have BK279 := n1_; have HK := n2_; have HB := n3_; have BK280 := n4_; have GW280 := n5_; have GE280 := n6_; have NB279_280 := n7_; have NB280_279 := n8_; clear n0_ n1_ n2_ n3_ n4_ n5_ n6_ n7_ n8_ hb hbox hg; have hnb9 := NB280_279.out; have hnc9 := NB279_280.out; have hcz10_0 : w8.cell? ⟨gb280, 0, none⟩ = some (.int .i64 0) := (blk_cell BK280.out 0).trans rfl; have hcz10_1 : w8.cell? ⟨gb280, 1, none⟩ = some (.int .i64 0) := (blk_cell BK280.out 1).trans rfl; have hcz10_2 : w8.cell? ⟨gb280, 2, none⟩ = some (.int .i64 0) := (blk_cell BK280.out 2).trans rfl; have hfz10_0 := blk_frozen BK280.out 0; have hfz10_1 := blk_frozen BK280.out 1; have hfz10_2 := blk_frozen BK280.out 2))
 (try simp only [Act.put, List.setIfInBounds_toArray, List.set_cons_zero, List.set_cons_succ])
 go_cut [] (fun wc => ∃ (kq : Nat) (x281001_4 : Int) (x281002_4 : Int), Aside0 (impl_Pool_add.j0 kq l0_0 a1 x281001_4 x281002_4 = some r) ∧ Aside0 (kq ≤ k) ∧ Aside0 (Kd.R k55 55 wc w0.heap.size (fun k_ => (P0_0_ k_ ∨ w.heap.size ≤ k_) ∧ k_ ≠ gb280) (.slice Ao6 l0_0.length co6) l0_0) ∧ Aside0 (wc.heap[gb279]? = some (.cells #[(.slice Ao6 l0_0.length co6)] 28 (0, 0))) ∧ Aside0 (wc.heap[gb280]? = some (.cells #[.int .i64 a1, .int .i64 x281001_4, .int .i64 x281002_4] 55 (0, 0))) ∧ Aside0 (Kept w wc (fun k_ => P0_0_ k_ ∨ k_ = gb279)) ∧ Aside0 (Below w0.heap.size w0 wc))
 case first =>
  have H := HC5.out
  clear HC5
  by_cases c11 : a1 = 8
  rotate_left
  ·rw [if_neg c11] at H
   have c11b0 : (a1 == 8) = false := beq_eq_false_iff_ne.mpr c11
   have c11b1 : (a1 != 8) = true := bne_iff_ne.mpr c11
   (first | rw [c11b0] | (simp only [i64_w, i32_w]; rw [c11b0]) | skip)
   have H' := Aside0.mk H
   clear H
   go_wp2
   go_meet
   case rel => exact ⟨_, (a2), (a3), H', ⟨by first | omega | exact Nat.le_refl _⟩, ⟨zr (Kd.R_mono (Kd.R_far (p := ⟨gb280, 2, none⟩) (Kd.R_far (p := ⟨gb280, 1, none⟩) (Kd.R_far (p := ⟨gb280, 0, none⟩) (Kd.R_mono HO0_0.out (fun k_ hk => (⟨hk, hk.2⟩ : _ ∧ k_ ≠ gb280))) (fun _ hk => hk.2) (.int .i64 a1)) (fun _ hk => hk.2) (.int .i64 a2)) (fun _ hk => hk.2) (.int .i64 a3)) (fun _ hk => ⟨hk.1.1, hk.1.2⟩))⟩, ⟨zf BK279.out⟩, ⟨by (with_reducible repeat (first | refine blk_drewN ?_ _ | refine blk_drew ?_ | refine blk_alloc ?_ _)); refine blk_put (cs := #[.int .i64 a1, .int .i64 a2, .int .i64 0]) ?_ 2 _ rfl; (with_reducible repeat (first | refine blk_drewN ?_ _ | refine blk_drew ?_ | refine blk_alloc ?_ _)); refine blk_put (cs := #[.int .i64 a1, .int .i64 0, .int .i64 0]) ?_ 1 _ rfl; (with_reducible repeat (first | refine blk_drewN ?_ _ | refine blk_drew ?_ | refine blk_alloc ?_ _)); refine blk_put (cs := #[.int .i64 0, .int .i64 0, .int .i64 0]) ?_ 0 _ rfl; (with_reducible repeat (first | refine blk_drewN ?_ _ | refine blk_drew ?_ | refine blk_alloc ?_ _)); exact BK280.out⟩, ⟨zk HK.out⟩, ⟨zb HB.out⟩⟩
  rw [if_pos c11] at H
  have c11b0 : (a1 == 8) = true := beq_iff_eq.mpr c11
  have c11b1 : (a1 != 8) = false := bne_eq_false_iff_eq.mpr c11
  clear c11
  (first | rw [c11b0] | (simp only [i64_w, i32_w]; rw [c11b0]) | skip)
  obtain ⟨ji12, hji12⟩ : ∃ j_ : Int, (mn a2 a3) = j_ := ⟨_, rfl⟩
  replace H : (impl_Pool_add.j0 k l0_0 a1 ji12 (mx a2 a3)) = some r := by first | (rw [hji12] at H; exact H) | (simp only [hji12] at H ⊢; exact H)
  have hji12_ : (if a3 < a2 then a3 else a2) = ji12 := hji12
  obtain ⟨ji13, hji13⟩ : ∃ j_ : Int, (mx a2 a3) = j_ := ⟨_, rfl⟩
  replace H : (impl_Pool_add.j0 k l0_0 a1 ji12 ji13) = some r := by first | (rw [hji13] at H; exact H) | (simp only [hji13] at H ⊢; exact H)
  have hji13_ : (if a2 < a3 then a3 else a2) = ji13 := hji13
  have H' := Aside0.mk H
  clear H
  have hnb14 := NB280_279.out
  have hnc14 := NB279_280.out
  have hcz15_0 : w8.cell? ⟨gb280, 0, none⟩ = some (.int .i64 0) := (blk_cell BK280.out 0).trans rfl
  have hcz15_1 : w8.cell? ⟨gb280, 1, none⟩ = some (.int .i64 0) := (blk_cell BK280.out 1).trans rfl
  have hcz15_2 : w8.cell? ⟨gb280, 2, none⟩ = some (.int .i64 0) := (blk_cell BK280.out 2).trans rfl
  have hfz15_0 := blk_frozen BK280.out 0
  have hfz15_1 := blk_frozen BK280.out 1
  have hfz15_2 := blk_frozen BK280.out 2
  go_wp2
  go_meet
  case rel => exact ⟨_, (ji12), (ji13), H', ⟨by first | omega | exact Nat.le_refl _⟩, ⟨zr (Kd.R_mono (Kd.R_far (p := ⟨gb280, 2, none⟩) (Kd.R_far (p := ⟨gb280, 1, none⟩) (Kd.R_far (p := ⟨gb280, 2, none⟩) (Kd.R_far (p := ⟨gb280, 1, none⟩) (Kd.R_far (p := ⟨gb280, 0, none⟩) (Kd.R_mono HO0_0.out (fun k_ hk => (⟨hk, hk.2⟩ : _ ∧ k_ ≠ gb280))) (fun _ hk => hk.2) (.int .i64 a1)) (fun _ hk => hk.2) (.int .i64 a2)) (fun _ hk => hk.2) (.int .i64 a3)) (fun _ hk => hk.2) (.int .i64 ji12)) (fun _ hk => hk.2) (.int .i64 ji13)) (fun _ hk => ⟨hk.1.1, hk.1.2⟩))⟩, ⟨zf BK279.out⟩, ⟨by (with_reducible repeat (first | refine blk_drewN ?_ _ | refine blk_drew ?_ | refine blk_alloc ?_ _)); refine blk_put (cs := #[.int .i64 a1, .int .i64 ji12, .int .i64 a3]) ?_ 2 _ rfl; (with_reducible repeat (first | refine blk_drewN ?_ _ | refine blk_drew ?_ | refine blk_alloc ?_ _)); refine blk_put (cs := #[.int .i64 a1, .int .i64 a2, .int .i64 a3]) ?_ 1 _ rfl; (with_reducible repeat (first | refine blk_drewN ?_ _ | refine blk_drew ?_ | refine blk_alloc ?_ _)); refine blk_put (cs := #[.int .i64 a1, .int .i64 a2, .int .i64 0]) ?_ 2 _ rfl; (with_reducible repeat (first | refine blk_drewN ?_ _ | refine blk_drew ?_ | refine blk_alloc ?_ _)); refine blk_put (cs := #[.int .i64 a1, .int .i64 0, .int .i64 0]) ?_ 1 _ rfl; (with_reducible repeat (first | refine blk_drewN ?_ _ | refine blk_drew ?_ | refine blk_alloc ?_ _)); refine blk_put (cs := #[.int .i64 0, .int .i64 0, .int .i64 0]) ?_ 0 _ rfl; (with_reducible repeat (first | refine blk_drewN ?_ _ | refine blk_drew ?_ | refine blk_alloc ?_ _)); exact BK280.out⟩, ⟨zk HK.out⟩, ⟨zb HB.out⟩⟩
 case rest =>
  clear HC5
  try clear c1
  try clear p2
  try clear c6
  try clear c9
  try clear c11
  try clear c11b0
  try clear c11b1
  try clear c14
  try clear hcz10_0
  try clear hcz10_1
  try clear hcz10_2
  try clear hcz15_0
  try clear hcz15_1
  try clear hcz15_2
  try clear hfz10_0
  try clear hfz10_1
  try clear hfz10_2
  try clear hfz15_0
  try clear hfz15_1
  try clear hfz15_2
  obtain ⟨kq, x281001_4, x281002_4, HA, HJ4, HO_280000, BK279, BK280, HK, HB⟩ := hcut
  cases kq with
  | zero => exact absurd HA.out (by simp [impl_Pool_add.j0])
  | succ kj4 =>
   have H := HA.out
   clear HA
   simp only [impl_Pool_add.j0] at H
   replace H := Option.bind_eq_some_iff.mp H
   obtain ⟨t281, A160, H⟩ := H
   replace H : (if t281 = true then ((impl_Pool_find.f kj4 l0_0 a1 x281001_4 x281002_4).bind fun t282 => (if t282 ≥ 0 then (some (l0_0, t282)) else (if (l0_0.length : Int) ≥ 500 then (some (l0_0, -1)) else (if l0_0.length < 5864062014805 then (some (l0_0 ++ [(⟨a1, x281001_4, x281002_4⟩ : S55)], wrap64 (((l0_0 ++ [(⟨a1, x281001_4, x281002_4⟩ : S55)]).length : Int) - 1))) else (none))))) else (some (l0_0, -1))) = some r := H
   have A16 := Aside0.mk A160
   clear A160
   by_cases c17 : t281 = true
   rotate_left
   ·replace c17 := Bool.eq_false_iff.mpr c17
    subst c17
    have H1 : (some (l0_0, -1)) = some r := by rw [if_neg (show ¬ (false = true) by decide)] at H; exact H
    clear H
    have H := H1
    clear H1
    obtain rfl := Option.some.inj H
    try go_wp2
    have n0_ := Aside0.mk (Kd.R_drew HO_280000.out)
    have n1_ := Aside0.mk (blk_drew BK279.out)
    have n2_ := Aside0.mk (blk_drew BK280.out)
    have n3_ := Aside0.mk (Kept.drew HK.out)
    have n4_ := Aside0.mk (below_drew1 HB.out)
    clear HO_280000 BK279 BK280 HK HB
    have HO_280000 := n0_
    have BK279 := n1_
    have BK280 := n2_
    have HK := n3_
    have HB := n4_
    clear n0_ n1_ n2_ n3_ n4_
    refine start_ (n := 8) (S := fun w' => w'.cell? ⟨gb280, 0, none⟩ = some (.int .i64 a1) ∧ w'.cell? ⟨gb280, 1, none⟩ = some (.int .i64 x281001_4) ∧ w'.cell? ⟨gb280, 2, none⟩ = some (.int .i64 x281002_4) ∧ w'.cell? ⟨gb279, 0, none⟩ = some (.slice Ao6 l0_0.length co6)) (ds := []) #[false, false, false, false, false, false, false, false] (by kernel_rfl) rfl rfl ⟨(blk_cell BK280.out 0).trans rfl, (blk_cell BK280.out 1).trans rfl, (blk_cell BK280.out 2).trans rfl, (blk_cell BK279.out 0).trans rfl⟩ (fun hHeld => ?_); refine with_tabW impl_Pool_add.tab4 impl_Pool_add.bits4 (fun HT_ HW_ => ?_)
    generalize wc.drew = w44 at HO_280000 BK279 BK280 HK HB hHeld ⊢
    refine pure_ (i := 1) (N := some 26) (v := ?_) (a' := ?_) (zB 8 2) rfl rfl (any_of HT_.out (by kernel_rfl)) (fun _ _ _ h => h) (Or.inl ⟨by rfl, ?_⟩) ?_ ?_
    rotate_left
    ·intro w'
     go_simp
     with_reducible rfl
    rotate_left
    ·exact zn
    refine pure_ (i := 2) (N := some 27) (v := ?_) (a' := ?_) (zB 8 6) rfl rfl (any_of HT_.out (by kernel_rfl)) (fun _ _ _ h => h) (Or.inl ⟨by rfl, ?_⟩) ?_ ?_
    rotate_left
    ·intro w'
     go_simp
     with_reducible rfl
    rotate_left
    ·exact zn
    refine pure_ (i := 3) (N := some 28) (v := ?_) (a' := ?_) (zB 8 14) rfl rfl (any_of HT_.out (by kernel_rfl)) (fun _ _ _ h => h) (Or.inl ⟨by rfl, ?_⟩) ?_ ?_
    rotate_left
    ·intro w'
     go_simp
     with_reducible rfl
    rotate_left
    ·exact zn
    refine take_ (i := 0) (N := some 25) (v := ?_) (a' := ?_) (zB 8 15) rfl rfl (take_ofW HT_.out HW_.out (by kernel_rfl)) (fun _ _ _ h => h) (Or.inl ⟨by rfl, ?_⟩) hHeld ?_ ?_
    rotate_left
    ·rintro w' ⟨s0, s1, s2, s3⟩
     go_simp
     with_reducible rfl
    rotate_left
    ·exact zn
    refine take_ (i := 4) (N := some 29) (v := ?_) (a' := ?_) (zB 8 31) rfl rfl (take_ofW HT_.out HW_.out (by kernel_rfl)) (fun _ _ _ h => h) (Or.inl ⟨by rfl, ?_⟩) hHeld ?_ ?_
    rotate_left
    ·rintro w' ⟨s0, s1, s2, s3⟩
     go_simp
     with_reducible rfl
    rotate_left
    ·exact zn
    refine pure_ (i := 5) (N := some 30) (v := ?_) (a' := ?_) (zB 8 63) rfl rfl (any_of HT_.out (by kernel_rfl)) (fun _ _ _ h => h) (Or.inl ⟨by rfl, ?_⟩) ?_ ?_
    rotate_left
    ·intro w'
     go_simp
     with_reducible rfl
    rotate_left
    ·exact zn
    refine one_ (i := 6) (N := some 31) (zB 8 127) rfl rfl (one_of HT_.out (by kernel_rfl)) (by decide) (fun K hK => ?_)
    refine goes_ Try.func59 (by kernel_rfl) rfl #[.agg #[.int .i64 a1, .int .i64 x281001_4, .int .i64 x281002_4], .int .i64 (l0_0.length : Int)] (by rfl) rfl rfl zl ?_
    with_reducible refine (impl_nodeOk.calls kj4 a1 x281001_4 x281002_4 (l0_0.length : Int) false _ A16.out).mono ?_
    rintro e w45 ⟨rfl, hb⟩
    refine ⟨_, rfl, ?_⟩
    have n0_ := Aside0.mk (Kd.R_below (zr HO_280000.out) hb)
    have n1_ := Aside0.mk (blk_below (zh BK279.out) hb)
    have n2_ := Aside0.mk (blk_below (zh BK280.out) hb)
    have n3_ := Aside0.mk (Kept.below (S := (fun k_ => P0_0_ k_ ∨ k_ = gb279)) (zk HK.out) hb)
    have n4_ := Aside0.mk (below_step (zb HB.out) hb)
    clear HO_280000 BK279 BK280 HK HB
    have HO_280000 := n0_
    have BK279 := n1_
    have BK280 := n2_
    have HK := n3_
    have HB := n4_
    clear n0_ n1_ n2_ n3_ n4_
    (try clear hb)
    (try clear hb2)
    (try clear hk)
    (try clear hi)
    refine hK.out _ _ ⟨(blk_cell BK280.out 0).trans rfl, (blk_cell BK280.out 1).trans rfl, (blk_cell BK280.out 2).trans rfl, (blk_cell BK279.out 0).trans rfl⟩ (fun hHeld => ?_)
    clear hK K
    refine norm_ (a' := ?_) ?_ ?_
    rotate_left
    ·exact zn (N := some 31)
    refine pure_ (i := 7) (N := some 32) (v := ?_) (a' := ?_) (zB 8 255) rfl rfl (any_of HT_.out (by kernel_rfl)) (fun _ _ _ h => h) (Or.inl ⟨by rfl, ?_⟩) ?_ ?_
    rotate_left
    ·intro w'
     go_simp
     with_reducible rfl
    rotate_left
    ·exact zn
    refine done_ (done_of HT_.out (by kernel_rfl)) ?_
    try go_wp2
    go_ret
    exact ⟨ze, zb HB.out, zk HK.out, _, zh BK279.out, zr (Kd.R_mono HO_280000.out (fun _ hk => hk.1))⟩






   subst c17
   have H1 : ((impl_Pool_find.f kj4 l0_0 a1 x281001_4 x281002_4).bind fun t282 => (if t282 ≥ 0 then (some (l0_0, t282)) else (if (l0_0.length : Int) ≥ 500 then (some (l0_0, -1)) else (if l0_0.length < 5864062014805 then (some (l0_0 ++ [(⟨a1, x281001_4, x281002_4⟩ : S55)], wrap64 (((l0_0 ++ [(⟨a1, x281001_4, x281002_4⟩ : S55)]).length : Int) - 1))) else (none))))) = some r := by rw [if_pos rfl] at H; exact H
   clear H
   have H := H1
   clear H1
   replace H := Option.bind_eq_some_iff.mp H
   obtain ⟨t282, A180, H⟩ := H
   replace H : (if t282 ≥ 0 then (some (l0_0, t282)) else (if (l0_0.length : Int) ≥ 500 then (some (l0_0, -1)) else (if l0_0.length < 5864062014805 then (some (l0_0 ++ [(⟨a1, x281001_4, x281002_4⟩ : S55)], wrap64 (((l0_0 ++ [(⟨a1, x281001_4, x281002_4⟩ : S55)]).length : Int) - 1))) else (none)))) = some r := H
   have A18 := Aside0.mk A180
   clear A180
   by_cases c19 : t282 ≥ 0
   ·rw [if_pos c19] at H
    have c19b0 : decide (0 ≤ t282) = true := decide_eq_true c19
    clear c19
    obtain rfl := Option.some.inj H
    try go_wp2
    have n0_ := Aside0.mk (Kd.R_drew HO_280000.out)
    have n1_ := Aside0.mk (blk_drew BK279.out)
    have n2_ := Aside0.mk (blk_drew BK280.out)
    have n3_ := Aside0.mk (Kept.drew HK.out)
    have n4_ := Aside0.mk (below_drew1 HB.out)
    clear HO_280000 BK279 BK280 HK HB
    have HO_280000 := n0_
    have BK279 := n1_
    have BK280 := n2_
    have HK := n3_
    have HB := n4_
    clear n0_ n1_ n2_ n3_ n4_
    refine start_ (n := 8) (S := fun w' => w'.cell? ⟨gb280, 0, none⟩ = some (.int .i64 a1) ∧ w'.cell? ⟨gb280, 1, none⟩ = some (.int .i64 x281001_4) ∧ w'.cell? ⟨gb280, 2, none⟩ = some (.int .i64 x281002_4) ∧ w'.cell? ⟨gb279, 0, none⟩ = some (.slice Ao6 l0_0.length co6)) (ds := []) #[false, false, false, false, false, false, false, false] (by kernel_rfl) rfl rfl ⟨(blk_cell BK280.out 0).trans rfl, (blk_cell BK280.out 1).trans rfl, (blk_cell BK280.out 2).trans rfl, (blk_cell BK279.out 0).trans rfl⟩ (fun hHeld => ?_); refine with_tabW impl_Pool_add.tab4 impl_Pool_add.bits4 (fun HT_ HW_ => ?_)
    generalize wc.drew = w20 at HO_280000 BK279 BK280 HK HB hHeld ⊢
    refine pure_ (i := 1) (N := some 26) (v := ?_) (a' := ?_) (zB 8 2) rfl rfl (any_of HT_.out (by kernel_rfl)) (fun _ _ _ h => h) (Or.inl ⟨by rfl, ?_⟩) ?_ ?_
    rotate_left
    ·intro w'
     go_simp
     with_reducible rfl
    rotate_left
    ·exact zn
    refine pure_ (i := 2) (N := some 27) (v := ?_) (a' := ?_) (zB 8 6) rfl rfl (any_of HT_.out (by kernel_rfl)) (fun _ _ _ h => h) (Or.inl ⟨by rfl, ?_⟩) ?_ ?_
    rotate_left
    ·intro w'
     go_simp
     with_reducible rfl
    rotate_left
    ·exact zn
    refine pure_ (i := 3) (N := some 28) (v := ?_) (a' := ?_) (zB 8 14) rfl rfl (any_of HT_.out (by kernel_rfl)) (fun _ _ _ h => h) (Or.inl ⟨by rfl, ?_⟩) ?_ ?_
    rotate_left
    ·intro w'
     go_simp
     with_reducible rfl
    rotate_left
    ·exact zn
    refine take_ (i := 0) (N := some 25) (v := ?_) (a' := ?_) (zB 8 15) rfl rfl (take_ofW HT_.out HW_.out (by kernel_rfl)) (fun _ _ _ h => h) (Or.inl ⟨by rfl, ?_⟩) hHeld ?_ ?_
    rotate_left
    ·rintro w' ⟨s0, s1, s2, s3⟩
     go_simp
     with_reducible rfl
    rotate_left
    ·exact zn
    refine take_ (i := 4) (N := some 29) (v := ?_) (a' := ?_) (zB 8 31) rfl rfl (take_ofW HT_.out HW_.out (by kernel_rfl)) (fun _ _ _ h => h) (Or.inl ⟨by rfl, ?_⟩) hHeld ?_ ?_
    rotate_left
    ·rintro w' ⟨s0, s1, s2, s3⟩
     go_simp
     with_reducible rfl
    rotate_left
    ·exact zn
    refine pure_ (i := 5) (N := some 30) (v := ?_) (a' := ?_) (zB 8 63) rfl rfl (any_of HT_.out (by kernel_rfl)) (fun _ _ _ h => h) (Or.inl ⟨by rfl, ?_⟩) ?_ ?_
    rotate_left
    ·intro w'
     go_simp
     with_reducible rfl
    rotate_left
    ·exact zn
    refine one_ (i := 6) (N := some 31) (zB 8 127) rfl rfl (one_of HT_.out (by kernel_rfl)) (by decide) (fun K hK => ?_)
    refine goes_ Try.func59 (by kernel_rfl) rfl #[.agg #[.int .i64 a1, .int .i64 x281001_4, .int .i64 x281002_4], .int .i64 (l0_0.length : Int)] (by rfl) rfl rfl zl ?_
    with_reducible refine (impl_nodeOk.calls kj4 a1 x281001_4 x281002_4 (l0_0.length : Int) true _ A16.out).mono ?_
    rintro e w21 ⟨rfl, hb⟩
    refine ⟨_, rfl, ?_⟩
    have n0_ := Aside0.mk (Kd.R_below (zr HO_280000.out) hb)
    have n1_ := Aside0.mk (blk_below (zh BK279.out) hb)
    have n2_ := Aside0.mk (blk_below (zh BK280.out) hb)
    have n3_ := Aside0.mk (Kept.below (S := (fun k_ => P0_0_ k_ ∨ k_ = gb279)) (zk HK.out) hb)
    have n4_ := Aside0.mk (below_step (zb HB.out) hb)
    clear HO_280000 BK279 BK280 HK HB
    have HO_280000 := n0_
    have BK279 := n1_
    have BK280 := n2_
    have HK := n3_
    have HB := n4_
    clear n0_ n1_ n2_ n3_ n4_
    (try clear hb)
    (try clear hb2)
    (try clear hk)
    (try clear hi)
    refine hK.out _ _ ⟨(blk_cell BK280.out 0).trans rfl, (blk_cell BK280.out 1).trans rfl, (blk_cell BK280.out 2).trans rfl, (blk_cell BK279.out 0).trans rfl⟩ (fun hHeld => ?_)
    clear hK K
    refine norm_ (a' := ?_) ?_ ?_
    rotate_left
    ·exact zn (N := some 31)
    refine pure_ (i := 7) (N := some 32) (v := ?_) (a' := ?_) (zB 8 255) rfl rfl (any_of HT_.out (by kernel_rfl)) (fun _ _ _ h => h) (Or.inl ⟨by rfl, ?_⟩) ?_ ?_
    rotate_left
    ·intro w'
     go_simp
     with_reducible rfl
    rotate_left
    ·exact zn
    refine done_ (done_of HT_.out (by kernel_rfl)) ?_
    have hnb22 := NB280_279.out
    have hnc22 := NB279_280.out
    have hcz23_0 : w21.cell? ⟨gb280, 0, none⟩ = some (.int .i64 a1) := (blk_cell BK280.out 0).trans rfl
    have hcz23_1 : w21.cell? ⟨gb280, 1, none⟩ = some (.int .i64 x281001_4) := (blk_cell BK280.out 1).trans rfl
    have hcz23_2 : w21.cell? ⟨gb280, 2, none⟩ = some (.int .i64 x281002_4) := (blk_cell BK280.out 2).trans rfl
    have hfz23_0 := blk_frozen BK280.out 0
    have hfz23_1 := blk_frozen BK280.out 1
    have hfz23_2 := blk_frozen BK280.out 2
    try go_wp2_with (first | ((with_reducible refine gate_callee (f := 74) rfl ?_); refine goesL_ (some 35) rfl rfl Try.func74 (by kernel_rfl) rfl #[.pointer (some ⟨gb279, 0, none⟩), .agg #[.int .i64 a1, .int .i64 x281001_4, .int .i64 x281002_4]] rfl zl ?_; (with_reducible refine (impl_Pool_find.calls kj4 _ Ao6 co6 l0_0 a1 x281001_4 x281002_4 t282 _ ?side1 ?side2 ?side3 A18.out).mono ?_); (case side1 => exact zh BK279.out); (case side2 => exact zc (Kd.R_reads' HO_280000.out).2.2); (case side3 => exact (Kd.R_reads' HO_280000.out).2.1); rintro e w24 ⟨rfl, hb⟩; refine ⟨_, rfl, ?_⟩; have n0_ := Aside0.mk (Kd.R_below (zr HO_280000.out) hb); have n1_ := Aside0.mk (blk_below (zh BK279.out) hb); have n2_ := Aside0.mk (blk_below (zh BK280.out) hb); have n3_ := Aside0.mk (Kept.below (S := (fun k_ => P0_0_ k_ ∨ k_ = gb279)) (zk HK.out) hb); have n4_ := Aside0.mk (below_step (zb HB.out) hb); clear HO_280000 BK279 BK280 HK HB; have HO_280000 := n0_; have BK279 := n1_; have BK280 := n2_; have HK := n3_; have HB := n4_; clear n0_ n1_ n2_ n3_ n4_; (try clear hb); (try clear hb2); (try clear hk); (try clear hi)))
    go_ret
    exact ⟨ze, zb HB.out, zk HK.out, _, zh BK279.out, zr (Kd.R_mono HO_280000.out (fun _ hk => hk.1))⟩
   rw [if_neg c19] at H
   have c19b0 : decide (0 ≤ t282) = false := decide_eq_false c19
   clear c19
   by_cases c25 : (l0_0.length : Int) ≥ 500
   ·rw [if_pos c25] at H
    have c25b0 : decide (500 ≤ (l0_0.length : Int)) = true := decide_eq_true c25
    have c25b1 : decide (500 ≤ l0_0.length) = true := decide_eq_true (by omega)
    clear c25
    obtain rfl := Option.some.inj H
    try go_wp2
    have n0_ := Aside0.mk (Kd.R_drew HO_280000.out)
    have n1_ := Aside0.mk (blk_drew BK279.out)
    have n2_ := Aside0.mk (blk_drew BK280.out)
    have n3_ := Aside0.mk (Kept.drew HK.out)
    have n4_ := Aside0.mk (below_drew1 HB.out)
    clear HO_280000 BK279 BK280 HK HB
    have HO_280000 := n0_
    have BK279 := n1_
    have BK280 := n2_
    have HK := n3_
    have HB := n4_
    clear n0_ n1_ n2_ n3_ n4_
    refine start_ (n := 8) (S := fun w' => w'.cell? ⟨gb280, 0, none⟩ = some (.int .i64 a1) ∧ w'.cell? ⟨gb280, 1, none⟩ = some (.int .i64 x281001_4) ∧ w'.cell? ⟨gb280, 2, none⟩ = some (.int .i64 x281002_4) ∧ w'.cell? ⟨gb279, 0, none⟩ = some (.slice Ao6 l0_0.length co6)) (ds := []) #[false, false, false, false, false, false, false, false] (by kernel_rfl) rfl rfl ⟨(blk_cell BK280.out 0).trans rfl, (blk_cell BK280.out 1).trans rfl, (blk_cell BK280.out 2).trans rfl, (blk_cell BK279.out 0).trans rfl⟩ (fun hHeld => ?_); refine with_tabW impl_Pool_add.tab4 impl_Pool_add.bits4 (fun HT_ HW_ => ?_)
    generalize wc.drew = w26 at HO_280000 BK279 BK280 HK HB hHeld ⊢
    refine pure_ (i := 1) (N := some 26) (v := ?_) (a' := ?_) (zB 8 2) rfl rfl (any_of HT_.out (by kernel_rfl)) (fun _ _ _ h => h) (Or.inl ⟨by rfl, ?_⟩) ?_ ?_
    rotate_left
    ·intro w'
     go_simp
     with_reducible rfl
    rotate_left
    ·exact zn
    refine pure_ (i := 2) (N := some 27) (v := ?_) (a' := ?_) (zB 8 6) rfl rfl (any_of HT_.out (by kernel_rfl)) (fun _ _ _ h => h) (Or.inl ⟨by rfl, ?_⟩) ?_ ?_
    rotate_left
    ·intro w'
     go_simp
     with_reducible rfl
    rotate_left
    ·exact zn
    refine pure_ (i := 3) (N := some 28) (v := ?_) (a' := ?_) (zB 8 14) rfl rfl (any_of HT_.out (by kernel_rfl)) (fun _ _ _ h => h) (Or.inl ⟨by rfl, ?_⟩) ?_ ?_
    rotate_left
    ·intro w'
     go_simp
     with_reducible rfl
    rotate_left
    ·exact zn
    refine take_ (i := 0) (N := some 25) (v := ?_) (a' := ?_) (zB 8 15) rfl rfl (take_ofW HT_.out HW_.out (by kernel_rfl)) (fun _ _ _ h => h) (Or.inl ⟨by rfl, ?_⟩) hHeld ?_ ?_
    rotate_left
    ·rintro w' ⟨s0, s1, s2, s3⟩
     go_simp
     with_reducible rfl
    rotate_left
    ·exact zn
    refine take_ (i := 4) (N := some 29) (v := ?_) (a' := ?_) (zB 8 31) rfl rfl (take_ofW HT_.out HW_.out (by kernel_rfl)) (fun _ _ _ h => h) (Or.inl ⟨by rfl, ?_⟩) hHeld ?_ ?_
    rotate_left
    ·rintro w' ⟨s0, s1, s2, s3⟩
     go_simp
     with_reducible rfl
    rotate_left
    ·exact zn
    refine pure_ (i := 5) (N := some 30) (v := ?_) (a' := ?_) (zB 8 63) rfl rfl (any_of HT_.out (by kernel_rfl)) (fun _ _ _ h => h) (Or.inl ⟨by rfl, ?_⟩) ?_ ?_
    rotate_left
    ·intro w'
     go_simp
     with_reducible rfl
    rotate_left
    ·exact zn
    refine one_ (i := 6) (N := some 31) (zB 8 127) rfl rfl (one_of HT_.out (by kernel_rfl)) (by decide) (fun K hK => ?_)
    refine goes_ Try.func59 (by kernel_rfl) rfl #[.agg #[.int .i64 a1, .int .i64 x281001_4, .int .i64 x281002_4], .int .i64 (l0_0.length : Int)] (by rfl) rfl rfl zl ?_
    with_reducible refine (impl_nodeOk.calls kj4 a1 x281001_4 x281002_4 (l0_0.length : Int) true _ A16.out).mono ?_
    rintro e w27 ⟨rfl, hb⟩
    refine ⟨_, rfl, ?_⟩
    have n0_ := Aside0.mk (Kd.R_below (zr HO_280000.out) hb)
    have n1_ := Aside0.mk (blk_below (zh BK279.out) hb)
    have n2_ := Aside0.mk (blk_below (zh BK280.out) hb)
    have n3_ := Aside0.mk (Kept.below (S := (fun k_ => P0_0_ k_ ∨ k_ = gb279)) (zk HK.out) hb)
    have n4_ := Aside0.mk (below_step (zb HB.out) hb)
    clear HO_280000 BK279 BK280 HK HB
    have HO_280000 := n0_
    have BK279 := n1_
    have BK280 := n2_
    have HK := n3_
    have HB := n4_
    clear n0_ n1_ n2_ n3_ n4_
    (try clear hb)
    (try clear hb2)
    (try clear hk)
    (try clear hi)
    refine hK.out _ _ ⟨(blk_cell BK280.out 0).trans rfl, (blk_cell BK280.out 1).trans rfl, (blk_cell BK280.out 2).trans rfl, (blk_cell BK279.out 0).trans rfl⟩ (fun hHeld => ?_)
    clear hK K
    refine norm_ (a' := ?_) ?_ ?_
    rotate_left
    ·exact zn (N := some 31)
    refine pure_ (i := 7) (N := some 32) (v := ?_) (a' := ?_) (zB 8 255) rfl rfl (any_of HT_.out (by kernel_rfl)) (fun _ _ _ h => h) (Or.inl ⟨by rfl, ?_⟩) ?_ ?_
    rotate_left
    ·intro w'
     go_simp
     with_reducible rfl
    rotate_left
    ·exact zn
    refine done_ (done_of HT_.out (by kernel_rfl)) ?_
    have hnb28 := NB280_279.out
    have hnc28 := NB279_280.out
    have hcz29_0 : w27.cell? ⟨gb280, 0, none⟩ = some (.int .i64 a1) := (blk_cell BK280.out 0).trans rfl
    have hcz29_1 : w27.cell? ⟨gb280, 1, none⟩ = some (.int .i64 x281001_4) := (blk_cell BK280.out 1).trans rfl
    have hcz29_2 : w27.cell? ⟨gb280, 2, none⟩ = some (.int .i64 x281002_4) := (blk_cell BK280.out 2).trans rfl
    have hfz29_0 := blk_frozen BK280.out 0
    have hfz29_1 := blk_frozen BK280.out 1
    have hfz29_2 := blk_frozen BK280.out 2
    try go_wp2_with (first | ((with_reducible refine gate_callee (f := 74) rfl ?_); refine goesL_ (some 35) rfl rfl Try.func74 (by kernel_rfl) rfl #[.pointer (some ⟨gb279, 0, none⟩), .agg #[.int .i64 a1, .int .i64 x281001_4, .int .i64 x281002_4]] rfl zl ?_; (with_reducible refine (impl_Pool_find.calls kj4 _ Ao6 co6 l0_0 a1 x281001_4 x281002_4 t282 _ ?side1 ?side2 ?side3 A18.out).mono ?_); (case side1 => exact zh BK279.out); (case side2 => exact zc (Kd.R_reads' HO_280000.out).2.2); (case side3 => exact (Kd.R_reads' HO_280000.out).2.1); rintro e w30 ⟨rfl, hb⟩; refine ⟨_, rfl, ?_⟩; have n0_ := Aside0.mk (Kd.R_below (zr HO_280000.out) hb); have n1_ := Aside0.mk (blk_below (zh BK279.out) hb); have n2_ := Aside0.mk (blk_below (zh BK280.out) hb); have n3_ := Aside0.mk (Kept.below (S := (fun k_ => P0_0_ k_ ∨ k_ = gb279)) (zk HK.out) hb); have n4_ := Aside0.mk (below_step (zb HB.out) hb); clear HO_280000 BK279 BK280 HK HB; have HO_280000 := n0_; have BK279 := n1_; have BK280 := n2_; have HK := n3_; have HB := n4_; clear n0_ n1_ n2_ n3_ n4_; (try clear hb); (try clear hb2); (try clear hk); (try clear hi); have hcz31_0 : w30.cell? ⟨gb279, 0, none⟩ = some (.slice Ao6 l0_0.length co6) := (blk_cell BK279.out 0).trans rfl; have hfz31_0 := blk_frozen BK279.out 0))
    go_ret
    exact ⟨ze, zb HB.out, zk HK.out, _, zh BK279.out, zr (Kd.R_mono HO_280000.out (fun _ hk => hk.1))⟩
   rw [if_neg c25] at H
   have c25b0 : decide (500 ≤ (l0_0.length : Int)) = false := decide_eq_false c25
   have c25b1 : decide (500 ≤ l0_0.length) = false := decide_eq_false (by omega)
   clear c25
   by_cases c32 : l0_0.length < 5864062014805
   rotate_left
   ·rw [if_neg c32] at H
    exact absurd H (by simp)
   rw [if_pos c32] at H
   have LMc32 := Aside0.mk c32
   clear c32
   obtain ⟨y283, hy283⟩ : ∃ y_ : List (S55), y_ = (l0_0 ++ [(⟨a1, x281001_4, x281002_4⟩ : S55)]) := ⟨_, rfl⟩
   replace H : (some (y283, wrap64 ((y283.length : Int) - 1))) = some r := by first | (rw [hy283]; with_reducible exact H) | (have H2_ := (Option.bind_some _ _).symm.trans H; rw [hy283]; with_reducible exact H2_) | (have H2_ := (Option.bind_some _ _).symm.trans H; with_reducible exact H2_) | with_reducible exact H | (rw [hy283]; exact H) | exact H
   have Ny283 := Aside0.mk hy283
   clear hy283
   obtain rfl := Option.some.inj H
   try go_wp2
   have n0_ := Aside0.mk (Kd.R_drew HO_280000.out)
   have n1_ := Aside0.mk (blk_drew BK279.out)
   have n2_ := Aside0.mk (blk_drew BK280.out)
   have n3_ := Aside0.mk (Kept.drew HK.out)
   have n4_ := Aside0.mk (below_drew1 HB.out)
   clear HO_280000 BK279 BK280 HK HB
   have HO_280000 := n0_
   have BK279 := n1_
   have BK280 := n2_
   have HK := n3_
   have HB := n4_
   clear n0_ n1_ n2_ n3_ n4_
   refine start_ (n := 8) (S := fun w' => w'.cell? ⟨gb280, 0, none⟩ = some (.int .i64 a1) ∧ w'.cell? ⟨gb280, 1, none⟩ = some (.int .i64 x281001_4) ∧ w'.cell? ⟨gb280, 2, none⟩ = some (.int .i64 x281002_4) ∧ w'.cell? ⟨gb279, 0, none⟩ = some (.slice Ao6 l0_0.length co6)) (ds := []) #[false, false, false, false, false, false, false, false] (by kernel_rfl) rfl rfl ⟨(blk_cell BK280.out 0).trans rfl, (blk_cell BK280.out 1).trans rfl, (blk_cell BK280.out 2).trans rfl, (blk_cell BK279.out 0).trans rfl⟩ (fun hHeld => ?_); refine with_tabW impl_Pool_add.tab4 impl_Pool_add.bits4 (fun HT_ HW_ => ?_)
   generalize wc.drew = w33 at HO_280000 BK279 BK280 HK HB hHeld ⊢
   refine pure_ (i := 1) (N := some 26) (v := ?_) (a' := ?_) (zB 8 2) rfl rfl (any_of HT_.out (by kernel_rfl)) (fun _ _ _ h => h) (Or.inl ⟨by rfl, ?_⟩) ?_ ?_
   rotate_left
   ·intro w'
    go_simp
    with_reducible rfl
   rotate_left
   ·exact zn
   refine pure_ (i := 2) (N := some 27) (v := ?_) (a' := ?_) (zB 8 6) rfl rfl (any_of HT_.out (by kernel_rfl)) (fun _ _ _ h => h) (Or.inl ⟨by rfl, ?_⟩) ?_ ?_
   rotate_left
   ·intro w'
    go_simp
    with_reducible rfl
   rotate_left
   ·exact zn
   refine pure_ (i := 3) (N := some 28) (v := ?_) (a' := ?_) (zB 8 14) rfl rfl (any_of HT_.out (by kernel_rfl)) (fun _ _ _ h => h) (Or.inl ⟨by rfl, ?_⟩) ?_ ?_
   rotate_left
   ·intro w'
    go_simp
    with_reducible rfl
   rotate_left
   ·exact zn
   refine take_ (i := 0) (N := some 25) (v := ?_) (a' := ?_) (zB 8 15) rfl rfl (take_ofW HT_.out HW_.out (by kernel_rfl)) (fun _ _ _ h => h) (Or.inl ⟨by rfl, ?_⟩) hHeld ?_ ?_
   rotate_left
   ·rintro w' ⟨s0, s1, s2, s3⟩
    go_simp
    with_reducible rfl
   rotate_left
   ·exact zn
   refine take_ (i := 4) (N := some 29) (v := ?_) (a' := ?_) (zB 8 31) rfl rfl (take_ofW HT_.out HW_.out (by kernel_rfl)) (fun _ _ _ h => h) (Or.inl ⟨by rfl, ?_⟩) hHeld ?_ ?_
   rotate_left
   ·rintro w' ⟨s0, s1, s2, s3⟩
    go_simp
    with_reducible rfl
   rotate_left
   ·exact zn
   refine pure_ (i := 5) (N := some 30) (v := ?_) (a' := ?_) (zB 8 63) rfl rfl (any_of HT_.out (by kernel_rfl)) (fun _ _ _ h => h) (Or.inl ⟨by rfl, ?_⟩) ?_ ?_
   rotate_left
   ·intro w'
    go_simp
    with_reducible rfl
   rotate_left
   ·exact zn
   refine one_ (i := 6) (N := some 31) (zB 8 127) rfl rfl (one_of HT_.out (by kernel_rfl)) (by decide) (fun K hK => ?_)
   refine goes_ Try.func59 (by kernel_rfl) rfl #[.agg #[.int .i64 a1, .int .i64 x281001_4, .int .i64 x281002_4], .int .i64 (l0_0.length : Int)] (by rfl) rfl rfl zl ?_
   with_reducible refine (impl_nodeOk.calls kj4 a1 x281001_4 x281002_4 (l0_0.length : Int) true _ A16.out).mono ?_
   rintro e w34 ⟨rfl, hb⟩
   refine ⟨_, rfl, ?_⟩
   have n0_ := Aside0.mk (Kd.R_below (zr HO_280000.out) hb)
   have n1_ := Aside0.mk (blk_below (zh BK279.out) hb)
   have n2_ := Aside0.mk (blk_below (zh BK280.out) hb)
   have n3_ := Aside0.mk (Kept.below (S := (fun k_ => P0_0_ k_ ∨ k_ = gb279)) (zk HK.out) hb)
   have n4_ := Aside0.mk (below_step (zb HB.out) hb)
   clear HO_280000 BK279 BK280 HK HB
   have HO_280000 := n0_
   have BK279 := n1_
   have BK280 := n2_
   have HK := n3_
   have HB := n4_
   clear n0_ n1_ n2_ n3_ n4_
   (try clear hb)
   (try clear hb2)
   (try clear hk)
   (try clear hi)
   refine hK.out _ _ ⟨(blk_cell BK280.out 0).trans rfl, (blk_cell BK280.out 1).trans rfl, (blk_cell BK280.out 2).trans rfl, (blk_cell BK279.out 0).trans rfl⟩ (fun hHeld => ?_)
   clear hK K
   refine norm_ (a' := ?_) ?_ ?_
   rotate_left
   ·exact zn (N := some 31)
   refine pure_ (i := 7) (N := some 32) (v := ?_) (a' := ?_) (zB 8 255) rfl rfl (any_of HT_.out (by kernel_rfl)) (fun _ _ _ h => h) (Or.inl ⟨by rfl, ?_⟩) ?_ ?_
   rotate_left
   ·intro w'
    go_simp
    with_reducible rfl
   rotate_left
   ·exact zn
   refine done_ (done_of HT_.out (by kernel_rfl)) ?_
   have hnb35 := NB280_279.out
   have hnc35 := NB279_280.out
   have hcz36_0 : w34.cell? ⟨gb280, 0, none⟩ = some (.int .i64 a1) := (blk_cell BK280.out 0).trans rfl
   have hcz36_1 : w34.cell? ⟨gb280, 1, none⟩ = some (.int .i64 x281001_4) := (blk_cell BK280.out 1).trans rfl
   have hcz36_2 : w34.cell? ⟨gb280, 2, none⟩ = some (.int .i64 x281002_4) := (blk_cell BK280.out 2).trans rfl
   have hfz36_0 := blk_frozen BK280.out 0
   have hfz36_1 := blk_frozen BK280.out 1
   have hfz36_2 := blk_frozen BK280.out 2
   try go_wp2_with (first | ((with_reducible refine gate_callee (f := 74) rfl ?_); refine goesL_ (some 35) rfl rfl Try.func74 (by kernel_rfl) rfl #[.pointer (some ⟨gb279, 0, none⟩), .agg #[.int .i64 a1, .int .i64 x281001_4, .int .i64 x281002_4]] rfl zl ?_; (with_reducible refine (impl_Pool_find.calls kj4 _ Ao6 co6 l0_0 a1 x281001_4 x281002_4 t282 _ ?side1 ?side2 ?side3 A18.out).mono ?_); (case side1 => exact zh BK279.out); (case side2 => exact zc (Kd.R_reads' HO_280000.out).2.2); (case side3 => exact (Kd.R_reads' HO_280000.out).2.1); rintro e w37 ⟨rfl, hb⟩; refine ⟨_, rfl, ?_⟩; have n0_ := Aside0.mk (Kd.R_below (zr HO_280000.out) hb); have n1_ := Aside0.mk (blk_below (zh BK279.out) hb); have n2_ := Aside0.mk (blk_below (zh BK280.out) hb); have n3_ := Aside0.mk (Kept.below (S := (fun k_ => P0_0_ k_ ∨ k_ = gb279)) (zk HK.out) hb); have n4_ := Aside0.mk (below_step (zb HB.out) hb); clear HO_280000 BK279 BK280 HK HB; have HO_280000 := n0_; have BK279 := n1_; have BK280 := n2_; have HK := n3_; have HB := n4_; clear n0_ n1_ n2_ n3_ n4_; (try clear hb); (try clear hb2); (try clear hk); (try clear hi); have hcz38_0 : w37.cell? ⟨gb279, 0, none⟩ = some (.slice Ao6 l0_0.length co6) := (blk_cell BK279.out 0).trans rfl; have hfz38_0 := blk_frozen BK279.out 0))
   have n0_ := Aside0.mk (Kd.R_drew HO_280000.out)
   have n1_ := Aside0.mk (blk_drew BK279.out)
   have n2_ := Aside0.mk (blk_drew BK280.out)
   have n3_ := Aside0.mk (Kept.drew HK.out)
   have n4_ := Aside0.mk (below_drew1 HB.out)
   clear HO_280000 BK279 BK280 HK HB
   have HO_280000 := n0_
   have BK279 := n1_
   have BK280 := n2_
   have HK := n3_
   have HB := n4_
   clear n0_ n1_ n2_ n3_ n4_
   refine start_ (n := 11) (S := fun w' => w'.cell? ⟨gb279, 0, none⟩ = some (.slice Ao6 l0_0.length co6) ∧ w'.cell? ⟨gb280, 0, none⟩ = some (.int .i64 a1) ∧ w'.cell? ⟨gb280, 1, none⟩ = some (.int .i64 x281001_4) ∧ w'.cell? ⟨gb280, 2, none⟩ = some (.int .i64 x281002_4)) (ds := [10]) #[false, false, false, false, false, false, false, false, false, false, false] (by kernel_rfl) rfl rfl ⟨(blk_cell BK279.out 0).trans rfl, (blk_cell BK280.out 0).trans rfl, (blk_cell BK280.out 1).trans rfl, (blk_cell BK280.out 2).trans rfl⟩ (fun hHeld => ?_); refine with_tabW impl_Pool_add.tab11 impl_Pool_add.bits11 (fun HT_ HW_ => ?_)
   generalize w37.drew = w39 at HO_280000 BK279 BK280 HK HB hHeld ⊢
   refine pure_ (i := 0) (N := some 45) (v := ?_) (a' := ?_) (zB 11 1) rfl rfl (any_of HT_.out (by kernel_rfl)) (fun _ _ _ h => h) (Or.inl ⟨by rfl, ?_⟩) ?_ ?_
   rotate_left
   ·intro w'
    go_simp
    with_reducible rfl
   rotate_left
   ·exact zn
   refine pure_ (i := 1) (N := some 46) (v := ?_) (a' := ?_) (zB 11 3) rfl rfl (any_of HT_.out (by kernel_rfl)) (fun _ _ _ h => h) (Or.inl ⟨by rfl, ?_⟩) ?_ ?_
   rotate_left
   ·intro w'
    go_simp
    with_reducible rfl
   rotate_left
   ·exact zn
   refine pure_ (i := 2) (N := some 47) (v := ?_) (a' := ?_) (zB 11 7) rfl rfl (any_of HT_.out (by kernel_rfl)) (fun _ _ _ h => h) (Or.inl ⟨by rfl, ?_⟩) ?_ ?_
   rotate_left
   ·intro w'
    go_simp
    with_reducible rfl
   rotate_left
   ·exact zn
   refine pure_ (i := 3) (N := some 48) (v := ?_) (a' := ?_) (zB 11 15) rfl rfl (any_of HT_.out (by kernel_rfl)) (fun _ _ _ h => h) (Or.inl ⟨by rfl, ?_⟩) ?_ ?_
   rotate_left
   ·intro w'
    go_simp
    with_reducible rfl
   rotate_left
   ·exact zn
   refine take_ (i := 4) (N := some 49) (v := ?_) (a' := ?_) (zB 11 31) rfl rfl (take_ofW HT_.out HW_.out (by kernel_rfl)) (fun _ _ _ h => h) (Or.inl ⟨by rfl, ?_⟩) hHeld ?_ ?_
   rotate_left
   ·rintro w' ⟨s0, s1, s2, s3⟩
    go_simp
    with_reducible rfl
   rotate_left
   ·exact zn
   refine take_ (i := 5) (N := some 50) (v := ?_) (a' := ?_) (zB 11 63) rfl rfl (take_ofW HT_.out HW_.out (by kernel_rfl)) (fun _ _ _ h => h) (Or.inl ⟨by rfl, ?_⟩) hHeld ?_ ?_
   rotate_left
   ·rintro w' ⟨s0, s1, s2, s3⟩
    go_simp
    with_reducible rfl
   rotate_left
   ·exact zn
   refine one_ (i := 6) (N := some 51) (zB 11 127) rfl rfl (one_of HT_.out (by kernel_rfl)) (by decide) (fun K hK => ?_)
   refine value_ (w1 := ?_) (v := ?_) (by rfl) rfl ?_ ?_
   rotate_left 2
   ·go_simp
    constructor
    ·rfl
    ·rfl
   refine hK.out _ _ ⟨(blk_cell (blk_alloc BK279.out _) 0).trans rfl, (blk_cell (blk_alloc BK280.out _) 0).trans rfl, (blk_cell (blk_alloc BK280.out _) 1).trans rfl, (blk_cell (blk_alloc BK280.out _) 2).trans rfl⟩ (fun hHeld => ?_)
   clear hK K
   refine norm_ (a' := ?_) ?_ ?_
   rotate_left
   ·exact zn (N := some 51)
   refine one_ (i := 7) (N := some 52) (zB 11 255) rfl rfl (one_of HT_.out (by kernel_rfl)) (by decide) (fun K hK => ?_)
   refine Kd.R_append_step k55 (w0 := w0) w0.heap.size (by rfl) (.tmp 49) (.tmp 51) 26 55 (.agg #[(.int .i64 0), (.int .i64 0), (.int .i64 0)]) 24 rfl Try.underlying26 info55 rfl (by decide) (by omega) (.slice Ao6 l0_0.length co6) l0_0 (⟨a1, x281001_4, x281002_4⟩ : S55) [.int .i64 a1, .int .i64 x281001_4, .int .i64 x281002_4] (fun k_ => (P0_0_ k_ ∨ w.heap.size ≤ k_) ∧ k_ ≠ gb280) (fun _ => False) rfl rfl ?aP (fun _ hk => hk.elim) ?aF ?aO ?aB ?aS ?aL ?_
   (case aP => exact k55_mkM _ _ _ (⟨a1, x281001_4, x281002_4⟩ : S55))
   (case aB => exact (zb HB.out))
   (case aF => exact (fun k_ hk => ⟨(.inr (Nat.le_trans (by first | exact HK.out.1 | exact (show Kept w _ (fun k_ => P0_0_ k_ ∨ k_ = gb279) from zk HK.out).1) hk)), Kd.freshB (zh BK280.out) k_ hk⟩))
   (case aO => exact (zr HO_280000.out))
   (case aS => exact (below_size (zb HB.out)))
   (case aL => have := LMc32.out; omega)
   intro v284 w40 ho hb hg hat
   rw [← Ny283.out] at ho
   have n0_ := Aside0.mk (blk_grown (zh BK279.out) hg (Kd.R_ne HO_280000.out BK279.out (by decide)))
   have n1_ := Aside0.mk (blk_grown (zh BK280.out) hg (Kd.R_away HO_280000.out (fun _ hk => hk.2)))
   have n2_ := Aside0.mk (hb)
   have n3_ := Aside0.mk (Kept.of_grown (S := (fun k_ => P0_0_ k_ ∨ k_ = gb279)) hg (zk HK.out) (fun k_ e_ => ((HO_280000.out.1 k_ e_).1).imp Or.inl id))
   have n4_ := Aside0.mk (ho)
   clear BK279 BK280 HB HK HO_280000
   have BK279 := n0_
   have BK280 := n1_
   have HB := n2_
   have HK := n3_
   have HO285 := n4_
   clear n0_ n1_ n2_ n3_ n4_ ho hb hg hat
   obtain ⟨Ao41, co41, eo41⟩ := Kd.R_slice HO285.out
   (first | subst eo41 | (injection eo41 with f1_ f2_ f3_; have f4_ := f1_.symm; have f5_ := f3_.symm; clear f1_ f2_ f3_; subst f4_; subst f5_))
   refine hK.out _ _ ⟨(blk_cell BK279.out 0).trans rfl, (blk_cell BK280.out 0).trans rfl, (blk_cell BK280.out 1).trans rfl, (blk_cell BK280.out 2).trans rfl⟩ (fun hHeld => ?_)
   clear hK K
   refine norm_ (a' := ?_) ?_ ?_
   rotate_left
   ·exact zn (N := some 52)
   refine pure_ (i := 8) (N := some 53) (v := ?_) (a' := ?_) (zB 11 511) rfl rfl (any_of HT_.out (by kernel_rfl)) (fun _ _ _ h => h) (Or.inl ⟨by rfl, ?_⟩) ?_ ?_
   rotate_left
   ·intro w'
    go_simp
    with_reducible rfl
   rotate_left
   ·exact zn
   refine pure_ (i := 9) (N := some 54) (v := ?_) (a' := ?_) (zB 11 1023) rfl rfl (any_of HT_.out (by kernel_rfl)) (fun _ _ _ h => h) (Or.inl ⟨by rfl, ?_⟩) ?_ ?_
   rotate_left
   ·intro w'
    go_simp
    with_reducible rfl
   rotate_left
   ·exact zn
   refine last_ (i := 10) (N := none) (zB 11 2047) rfl rfl (one_of HT_.out (by kernel_rfl)) (by decide) (fun K hK => ?_)
   have hs42 : w40.cell? ⟨gb279, 0, none⟩ = some (.slice Ao6 l0_0.length co6) := (blk_cell BK279.out 0).trans rfl
   have hfs42 := blk_frozen BK279.out 0
   have hns42_1 := NB280_279.out
   have hms42_1 := NB279_280.out
   refine skip_ (w1 := ?_) (by rfl) rfl ?_ ?_
   rotate_left
   ·go_simp
    rfl
   refine hK.out _ _ ?_
   clear hK K
   refine done_ (done_of HT_.out (by kernel_rfl)) ?_
   have hcz43_0 : w40.cell? ⟨gb279, 0, none⟩ = some (.slice Ao6 l0_0.length co6) := (blk_cell BK279.out 0).trans rfl
   have hfz43_0 := blk_frozen BK279.out 0
   try go_wp2
   go_ret
   exact ⟨ze, zb HB.out, zk HK.out, _, by (with_reducible repeat (first | refine blk_drewN ?_ _ | refine blk_drew ?_ | refine blk_alloc ?_ _)); refine blk_put (cs := #[.slice Ao6 l0_0.length co6]) ?_ 0 _ rfl; (with_reducible repeat (first | refine blk_drewN ?_ _ | refine blk_drew ?_ | refine blk_alloc ?_ _)); exact BK279.out, zr (Kd.R_mono (Kd.R_far (p := ⟨gb279, 0, none⟩) (Kd.R_far1 HO285.out rfl (Kd.R_ne HO285.out BK279.out (by decide))) (fun _ hk => hk.2) _) (fun _ hk => hk.1.1))⟩
end Go.Proofs.Ytobkledmbnacjaa.M
end

section
namespace Go.Proofs.Ytobkledmbnacjaa.M
open Go.RowKit Go.Proofs.YtobkledmbnacjaaW.PrintWords Go.Proofs.YtobkledmbnacjaaW.PrintLast Go.Proofs.YtobkledmbnacjaaW.PrintMore
attribute [local go_sem] max2_int min2_int max_two min_two max_three min_three max_four min_four   -- for this text's walks alone
set_option linter.unusedVariables false
set_option linter.unusedSimpArgs false
set_option maxRecDepth 100000


/-! ### impl_Pool_rebuilt: function 36 -/
def impl_Pool_rebuilt.f (k : Nat) (l0_0 : List (S55)) (a1_0 : Int) (a1_1 : Int) (a1_2 : Int) (l2 : List Int) : Option (List (S55) × Int) := (impl_count.f k a1_0).bind fun t265 => (if t265 = 0 then (impl_Pool_add.f k l0_0 a1_0 a1_1 0) else (if t265 = 1 then (if 0 ≤ a1_1 then (if a1_1 < (l2.length : Int) then (impl_Pool_add.f k l0_0 a1_0 (rd l2 a1_1) 0) else (none)) else (none)) else (if 0 ≤ a1_1 then (if a1_1 < (l2.length : Int) then (if 0 ≤ a1_2 then (if a1_2 < (l2.length : Int) then (impl_Pool_add.f k l0_0 a1_0 (rd l2 a1_1) (rd l2 a1_2)) else (none)) else (none)) else (none)) else (none))))
def impl_Pool_rebuilt.T5 : Bool × List (List Nat × List Nat) := (true, [([], []), ([], []), ([1], [1]), ([], []), ([], []), ([4], [4]), ([3, 5], [3, 5]), ([6], [6]), ([0, 2, 7], [0, 2, 7]), ([8, 8, 0, 1, 2, 3, 4, 5, 6, 7, 8], [8])])
def impl_Pool_rebuilt.B5 : List Nat := [0, 0, 2, 0, 0, 16, 56, 120, 255, 511]
theorem impl_Pool_rebuilt.tab5 : rtab .any (opsOf Try.f36 5) = impl_Pool_rebuilt.T5 := by kernel_rfl
theorem impl_Pool_rebuilt.bits5 : waitsOk impl_Pool_rebuilt.T5.2 impl_Pool_rebuilt.B5 = true := by kernel_rfl
def impl_Pool_rebuilt.T6 : Bool × List (List Nat × List Nat) := (true, [([], []), ([], []), ([1], [1]), ([], []), ([], []), ([4], [4]), ([3, 5], [3, 5]), ([6], [6]), ([], []), ([], []), ([9], [9]), ([8, 10], [8, 10]), ([11], [11]), ([0, 2, 7, 12], [0, 2, 7, 12]), ([13, 13, 0, 1, 2, 3, 4, 5, 6, 7, 8, 9, 10, 11, 12, 13], [13])])
def impl_Pool_rebuilt.B6 : List Nat := [0, 0, 2, 0, 0, 16, 56, 120, 0, 0, 512, 1792, 3840, 8191, 16383]
theorem impl_Pool_rebuilt.tab6 : rtab .any (opsOf Try.f36 6) = impl_Pool_rebuilt.T6 := by kernel_rfl
theorem impl_Pool_rebuilt.bits6 : waitsOk impl_Pool_rebuilt.T6.2 impl_Pool_rebuilt.B6 = true := by kernel_rfl
set_option maxHeartbeats 8000000 in
set_option maxRecDepth 100000 in
theorem impl_Pool_rebuilt.calls (k : Nat) (g0_ : Nat) (P0_0_ : Nat → Prop) (u9000_ : Value) (l0_0 : List (S55)) (a1_0 : Int) (a1_1 : Int) (a1_2 : Int) (A2 : Option Addr) (c2 : Nat) (l2 : List Int) (r : List (S55) × Int) (w0 w : World) (hB : Below w0.heap.size w0 w) (hge : w0.heap.size ≤ g0_) (hbx : w.heap[g0_]? = some (.cells #[u9000_] 28 (0, 0))) (ho0_0 : Kd.R k55 55 w w0.heap.size P0_0_ u9000_ l0_0) (hr2 : Kd.C (Kd.int .i64) w A2 l2.length l2) (hc2 : l2.length ≤ c2) (h : impl_Pool_rebuilt.f k l0_0 a1_0 a1_1 a1_2 l2 = some r) :
  Calls Try.prog 36 #[.pointer (some ⟨g0_, 0, none⟩), .agg #[.int .i64 a1_0, .int .i64 a1_1, .int .i64 a1_2], .slice A2 l2.length c2] w fun e w' => e = .returned (.int .i64 r.2) ∧ Below w0.heap.size w0 w' ∧ Kept w w' (fun k_ => P0_0_ k_ ∨ k_ = g0_) ∧ ∃ u_ : Value, w'.heap[g0_]? = some (.cells #[u_] 28 (0, 0)) ∧ Kd.R k55 55 w' w0.heap.size (fun k_ => P0_0_ k_ ∨ w.heap.size ≤ k_) u_ r.1 := by
 have HWB_ := Aside0.mk hB
 have HGE_ := Aside0.mk hge
 have HO_ := Aside0.mk ho0_0
 obtain ⟨A0_0, c0_0, eo_⟩ := Kd.R_slice ho0_0
 subst eo_
 have hk0_ := hbx
 have hr0_0 := (Kd.R_reads' ho0_0).2.2
 have hc0_0 := (Kd.R_reads' ho0_0).2.1
 clear hB hge hbx ho0_0
 have hu55 := Try.underlying55
 have HR0_0 := Aside0.mk hr0_0
 have HC0_0 := Aside0.mk hc0_0
 clear hr0_0 hc0_0
 have HR2 := Aside0.mk hr2
 have HC2 := Aside0.mk hc2
 clear hr2 hc2
 have BK0 := Aside0.mk hk0_
 clear hk0_
 have HB := Aside0.mk (Below.refl w.heap.size w)
 have H : ((impl_count.f k a1_0).bind fun t259 => (if t259 = 0 then (impl_Pool_add.f k l0_0 a1_0 a1_1 0) else (if t259 = 1 then (if 0 ≤ a1_1 then (if a1_1 < (l2.length : Int) then (impl_Pool_add.f k l0_0 a1_0 (rd l2 a1_1) 0) else (none)) else (none)) else (if 0 ≤ a1_1 then (if a1_1 < (l2.length : Int) then (if 0 ≤ a1_2 then (if a1_2 < (l2.length : Int) then (impl_Pool_add.f k l0_0 a1_0 (rd l2 a1_1) (rd l2 a1_2)) else (none)) else (none)) else (none)) else (none))))) = some r := h
 clear h
 replace H := Option.bind_eq_some_iff.mp H
 obtain ⟨t259, A40, H⟩ := H
 replace H : (if t259 = 0 then (impl_Pool_add.f k l0_0 a1_0 a1_1 0) else (if t259 = 1 then (if 0 ≤ a1_1 then (if a1_1 < (l2.length : Int) then (impl_Pool_add.f k l0_0 a1_0 (rd l2 a1_1) 0) else (none)) else (none)) else (if 0 ≤ a1_1 then (if a1_1 < (l2.length : Int) then (if 0 ≤ a1_2 then (if a1_2 < (l2.length : Int) then (impl_Pool_add.f k l0_0 a1_0 (rd l2 a1_1) (rd l2 a1_2)) else (none)) else (none)) else (none)) else (none)))) = some r := H
 have A4 := Aside0.mk A40
 clear A40
 by_cases c5 : t259 = 0
 ·rw [if_pos c5] at H
  have c5b0 : (t259 == 0) = true := beq_iff_eq.mpr c5
  have c5b1 : (t259 != 0) = false := bne_eq_false_iff_eq.mpr c5
  clear c5
  have A6 := Aside0.mk H
  clear H
  go_enter Try.func36, Try.ntmps36
  go_wp2_with (first | ((with_reducible refine gate_dst (N := 4) rfl ?_); refine box_event ?hg (N := 4) ?hd (cs := #[.int .i64 a1_0, .int .i64 a1_1, .int .i64 a1_2]) (t := 55) ?hr ?_; (case hd => rfl); (case hg => rfl); (case hr => first | (go_simp; done) | (go_simp; rfl)); intro gb264 hg w6 hbox hb; have n0_ := Aside0.mk (blk_below (zh BK0.out) hb); have n1_ := Aside0.mk (below_step (zb HB.out) hb); have n2_ := Aside0.mk (hbox); have n3_ := Aside0.mk ((by rw [hg]; exact (below_size (zb HB.out)) : w.heap.size ≤ gb264)); have n4_ := Aside0.mk ((by rw [hg]; exact (below_size (zb HB.out)) : w.heap.size ≤ gb264)); have n5_ := Aside0.mk ((by rw [hg]; exact Nat.ne_of_lt (blk_lt (zh BK0.out)) : g0_ ≠ gb264)); have n6_ := Aside0.mk ((by rw [hg]; exact Nat.ne_of_gt (blk_lt (zh BK0.out)) : gb264 ≠ g0_)); clear BK0 HB; have BK0 := n0_; have HB := n1_; have BK264 := n2_; have GW264 := n3_; have GE264 := n4_; have NB0_264 := n5_; have NB264_0 := n6_; clear n0_ n1_ n2_ n3_ n4_ n5_ n6_ hb hbox hg; have hnb7 := NB264_0.out; have hnc7 := NB0_264.out; have hcz8_0 : w6.cell? ⟨gb264, 0, none⟩ = some (.int .i64 a1_0) := (blk_cell BK264.out 0).trans rfl; have hcz8_1 : w6.cell? ⟨gb264, 1, none⟩ = some (.int .i64 a1_1) := (blk_cell BK264.out 1).trans rfl; have hcz8_2 : w6.cell? ⟨gb264, 2, none⟩ = some (.int .i64 a1_2) := (blk_cell BK264.out 2).trans rfl; have hfz8_0 := blk_frozen BK264.out 0; have hfz8_1 := blk_frozen BK264.out 1; have hfz8_2 := blk_frozen BK264.out 2) | (go_at_call 63; (with_reducible refine (impl_count.calls k a1_0 t259 _ A4.out).mono ?_); rintro e w' ⟨rfl, ⟨nd, rfl⟩⟩; (try first | exact ⟨rfl, _, World.drewN_drewN _ _ _⟩ | exact ⟨rfl, _, Eq.trans (World.drewN_drewN _ _ _) (congrArg (World.drewN _) (Nat.add_assoc _ _ _))⟩)) | ((with_reducible refine gate_callee (f := 64) rfl ?_); refine goesL_ (some 17) rfl rfl Try.func64 (by kernel_rfl) rfl #[.pointer (some ⟨g0_, 0, none⟩), .int .i64 a1_0, .int .i64 a1_1, .int .i64 0] rfl zl ?_; (with_reducible refine (impl_Pool_add.calls k g0_ P0_0_ _ l0_0 a1_0 a1_1 0 r w0 _ (below_step HWB_.out (zb HB.out)) HGE_.out (zh BK0.out) (Kd.R_below HO_.out (zb HB.out)) A6.out).mono ?_); rintro e w916 ⟨rfl, hb, hkp, u_, hbx2, ho2⟩; refine ⟨_, rfl, ?_⟩; have K1_ := Aside0.mk (Kept.then_ (Kept.of_below (W := _) (show Below w.heap.size w _ from (zb HB.out)) (fun k_ => P0_0_ k_ ∨ k_ = g0_)) hkp (fun _ h_ => .inl h_)); have O1_ := Aside0.mk (Kd.R_mono (ok' := fun k_ => P0_0_ k_ ∨ w.heap.size ≤ k_) ho2 (fun _ h_ => h_.imp id (fun q_ => Nat.le_trans (below_size (show Below w.heap.size w _ from (zb HB.out))) q_))); have B1_ := Aside0.mk hb; have X1_ := Aside0.mk hbx2; clear hb hkp hbx2 ho2))
  repeat (go_quiet (first | ((with_reducible refine gate_dst (N := 4) rfl ?_); refine box_event ?hg (N := 4) ?hd (cs := #[.int .i64 a1_0, .int .i64 a1_1, .int .i64 a1_2]) (t := 55) ?hr ?_; (case hd => rfl); (case hg => rfl); (case hr => first | (go_simp; done) | (go_simp; rfl)); intro gb264 hg w6 hbox hb; have n0_ := Aside0.mk (blk_below (zh BK0.out) hb); have n1_ := Aside0.mk (below_step (zb HB.out) hb); have n2_ := Aside0.mk (hbox); have n3_ := Aside0.mk ((by rw [hg]; exact (below_size (zb HB.out)) : w.heap.size ≤ gb264)); have n4_ := Aside0.mk ((by rw [hg]; exact (below_size (zb HB.out)) : w.heap.size ≤ gb264)); have n5_ := Aside0.mk ((by rw [hg]; exact Nat.ne_of_lt (blk_lt (zh BK0.out)) : g0_ ≠ gb264)); have n6_ := Aside0.mk ((by rw [hg]; exact Nat.ne_of_gt (blk_lt (zh BK0.out)) : gb264 ≠ g0_)); clear BK0 HB; have BK0 := n0_; have HB := n1_; have BK264 := n2_; have GW264 := n3_; have GE264 := n4_; have NB0_264 := n5_; have NB264_0 := n6_; clear n0_ n1_ n2_ n3_ n4_ n5_ n6_ hb hbox hg; have hnb7 := NB264_0.out; have hnc7 := NB0_264.out; have hcz8_0 : w6.cell? ⟨gb264, 0, none⟩ = some (.int .i64 a1_0) := (blk_cell BK264.out 0).trans rfl; have hcz8_1 : w6.cell? ⟨gb264, 1, none⟩ = some (.int .i64 a1_1) := (blk_cell BK264.out 1).trans rfl; have hcz8_2 : w6.cell? ⟨gb264, 2, none⟩ = some (.int .i64 a1_2) := (blk_cell BK264.out 2).trans rfl; have hfz8_0 := blk_frozen BK264.out 0; have hfz8_1 := blk_frozen BK264.out 1; have hfz8_2 := blk_frozen BK264.out 2) | (go_at_call 63; (with_reducible refine (impl_count.calls k a1_0 t259 _ A4.out).mono ?_); rintro e w' ⟨rfl, ⟨nd, rfl⟩⟩; (try first | exact ⟨rfl, _, World.drewN_drewN _ _ _⟩ | exact ⟨rfl, _, Eq.trans (World.drewN_drewN _ _ _) (congrArg (World.drewN _) (Nat.add_assoc _ _ _))⟩))); try go_wp2_with (first | ((with_reducible refine gate_dst (N := 4) rfl ?_); refine box_event ?hg (N := 4) ?hd (cs := #[.int .i64 a1_0, .int .i64 a1_1, .int .i64 a1_2]) (t := 55) ?hr ?_; (case hd => rfl); (case hg => rfl); (case hr => first | (go_simp; done) | (go_simp; rfl)); intro gb264 hg w6 hbox hb; have n0_ := Aside0.mk (blk_below (zh BK0.out) hb); have n1_ := Aside0.mk (below_step (zb HB.out) hb); have n2_ := Aside0.mk (hbox); have n3_ := Aside0.mk ((by rw [hg]; exact (below_size (zb HB.out)) : w.heap.size ≤ gb264)); have n4_ := Aside0.mk ((by rw [hg]; exact (below_size (zb HB.out)) : w.heap.size ≤ gb264)); have n5_ := Aside0.mk ((by rw [hg]; exact Nat.ne_of_lt (blk_lt (zh BK0.out)) : g0_ ≠ gb264)); have n6_ := Aside0.mk ((by rw [hg]; exact Nat.ne_of_gt (blk_lt (zh BK0.out)) : gb264 ≠ g0_)); clear BK0 HB; have BK0 := n0_; have HB := n1_; have BK264 := n2_; have GW264 := n3_; have GE264 := n4_; have NB0_264 := n5_; have NB264_0 := n6_; clear n0_ n1_ n2_ n3_ n4_ n5_ n6_ hb hbox hg; have hnb7 := NB264_0.out; have hnc7 := NB0_264.out; have hcz8_0 : w6.cell? ⟨gb264, 0, none⟩ = some (.int .i64 a1_0) := (blk_cell BK264.out 0).trans rfl; have hcz8_1 : w6.cell? ⟨gb264, 1, none⟩ = some (.int .i64 a1_1) := (blk_cell BK264.out 1).trans rfl; have hcz8_2 : w6.cell? ⟨gb264, 2, none⟩ = some (.int .i64 a1_2) := (blk_cell BK264.out 2).trans rfl; have hfz8_0 := blk_frozen BK264.out 0; have hfz8_1 := blk_frozen BK264.out 1; have hfz8_2 := blk_frozen BK264.out 2) | (go_at_call 63; (with_reducible refine (impl_count.calls k a1_0 t259 _ A4.out).mono ?_); rintro e w' ⟨rfl, ⟨nd, rfl⟩⟩; (try first | exact ⟨rfl, _, World.drewN_drewN _ _ _⟩ | exact ⟨rfl, _, Eq.trans (World.drewN_drewN _ _ _) (congrArg (World.drewN _) (Nat.add_assoc _ _ _))⟩)) | ((with_reducible refine gate_callee (f := 64) rfl ?_); refine goesL_ (some 17) rfl rfl Try.func64 (by kernel_rfl) rfl #[.pointer (some ⟨g0_, 0, none⟩), .int .i64 a1_0, .int .i64 a1_1, .int .i64 0] rfl zl ?_; (with_reducible refine (impl_Pool_add.calls k g0_ P0_0_ _ l0_0 a1_0 a1_1 0 r w0 _ (below_step HWB_.out (zb HB.out)) HGE_.out (zh BK0.out) (Kd.R_below HO_.out (zb HB.out)) A6.out).mono ?_); rintro e w916 ⟨rfl, hb, hkp, u_, hbx2, ho2⟩; refine ⟨_, rfl, ?_⟩; have K1_ := Aside0.mk (Kept.then_ (Kept.of_below (W := _) (show Below w.heap.size w _ from (zb HB.out)) (fun k_ => P0_0_ k_ ∨ k_ = g0_)) hkp (fun _ h_ => .inl h_)); have O1_ := Aside0.mk (Kd.R_mono (ok' := fun k_ => P0_0_ k_ ∨ w.heap.size ≤ k_) ho2 (fun _ h_ => h_.imp id (fun q_ => Nat.le_trans (below_size (show Below w.heap.size w _ from (zb HB.out))) q_))); have B1_ := Aside0.mk hb; have X1_ := Aside0.mk hbx2; clear hb hkp hbx2 ho2)))
  go_ret
  exact ⟨ze, B1_.out, K1_.out, _, zh X1_.out, O1_.out⟩
 rw [if_neg c5] at H
 have c5b0 : (t259 == 0) = false := beq_eq_false_iff_ne.mpr c5
 have c5b1 : (t259 != 0) = true := bne_iff_ne.mpr c5
 by_cases c11 : t259 = 1
 ·rw [if_pos c11] at H
  have c11b0 : (t259 == 1) = true := beq_iff_eq.mpr c11
  have c11b1 : (t259 != 1) = false := bne_eq_false_iff_eq.mpr c11
  clear c11
  by_cases c12 : 0 ≤ a1_1
  rotate_left
  ·rw [if_neg c12] at H
   exact absurd H (by simp)
  rw [if_pos c12] at H
  have c12b0 : decide (0 ≤ a1_1) = true := decide_eq_true c12
  clear c12
  by_cases c13 : a1_1 < (l2.length : Int)
  rotate_left
  ·rw [if_neg c13] at H
   exact absurd H (by simp)
  rw [if_pos c13] at H
  have c13b0 : decide (a1_1 < (l2.length : Int)) = true := decide_eq_true c13
  clear c13
  have A14 := Aside0.mk H
  clear H
  go_enter Try.func36, Try.ntmps36
  try go_wp2_with (first | ((with_reducible refine gate_dst (N := 4) rfl ?_); refine box_event ?hg (N := 4) ?hd (cs := #[.int .i64 a1_0, .int .i64 a1_1, .int .i64 a1_2]) (t := 55) ?hr ?_; (case hd => rfl); (case hg => rfl); (case hr => first | (go_simp; done) | (go_simp; rfl)); intro gb258 hg w15 hbox hb; have n0_ := Aside0.mk (blk_below (zh BK0.out) hb); have n1_ := Aside0.mk (below_step (zb HB.out) hb); have n2_ := Aside0.mk (hbox); have n3_ := Aside0.mk ((by rw [hg]; exact (below_size (zb HB.out)) : w.heap.size ≤ gb258)); have n4_ := Aside0.mk ((by rw [hg]; exact (below_size (zb HB.out)) : w.heap.size ≤ gb258)); have n5_ := Aside0.mk ((by rw [hg]; exact Nat.ne_of_lt (blk_lt (zh BK0.out)) : g0_ ≠ gb258)); have n6_ := Aside0.mk ((by rw [hg]; exact Nat.ne_of_gt (blk_lt (zh BK0.out)) : gb258 ≠ g0_)); clear BK0 HB; have BK0 := n0_; have HB := n1_; have BK258 := n2_; have GW258 := n3_; have GE258 := n4_; have NB0_258 := n5_; have NB258_0 := n6_; clear n0_ n1_ n2_ n3_ n4_ n5_ n6_ hb hbox hg; have hnb16 := NB258_0.out; have hnc16 := NB0_258.out; have hcz17_0 : w15.cell? ⟨gb258, 0, none⟩ = some (.int .i64 a1_0) := (blk_cell BK258.out 0).trans rfl; have hcz17_1 : w15.cell? ⟨gb258, 1, none⟩ = some (.int .i64 a1_1) := (blk_cell BK258.out 1).trans rfl; have hcz17_2 : w15.cell? ⟨gb258, 2, none⟩ = some (.int .i64 a1_2) := (blk_cell BK258.out 2).trans rfl; have hfz17_0 := blk_frozen BK258.out 0; have hfz17_1 := blk_frozen BK258.out 1; have hfz17_2 := blk_frozen BK258.out 2) | ((with_reducible refine gate_callee (f := 63) rfl ?_); refine goesL_ (some 9) rfl rfl Try.func63 (by kernel_rfl) rfl #[.int .i64 a1_0] rfl zl ?_; (with_reducible refine (impl_count.calls k a1_0 t259 _ A4.out).mono ?_); rintro e w' ⟨rfl, ⟨nd, rfl⟩⟩; refine ⟨_, rfl, ?_⟩))
  (try (rw [drewN_self w15]; generalize hq_ : World.drewN w15 _ = w15; have n0_ : Aside0 (w15.heap[g0_]? = some (.cells #[.slice A0_0 l0_0.length c0_0] 28 (0, 0))) := ⟨by rw [← hq_]; exact (zh BK0.out)⟩; have n1_ : Aside0 (w15.heap[gb258]? = some (.cells #[.int .i64 a1_0, .int .i64 a1_1, .int .i64 a1_2] 55 (0, 0))) := ⟨by rw [← hq_]; exact (zh BK258.out)⟩; have n2_ : Aside0 (Below w.heap.size w w15) := ⟨by rw [← hq_]; exact (zb HB.out)⟩; clear BK0 BK258 HB hq_; have BK0 := n0_; have BK258 := n1_; have HB := n2_; clear n0_ n1_ n2_))
  have n0_ := Aside0.mk (blk_drew BK0.out)
  have n1_ := Aside0.mk (blk_drew BK258.out)
  have n2_ := Aside0.mk (below_drew1 HB.out)
  clear BK0 BK258 HB
  have BK0 := n0_
  have BK258 := n1_
  have HB := n2_
  clear n0_ n1_ n2_
  have p261 : 0 ≤ (a1_1 : Int) := of_decide_eq_true (by first | (with_reducible assumption) | assumption)
  have q261 : a1_1 < (l2.length : Int) := of_decide_eq_true (by first | (with_reducible assumption) | assumption)
  obtain ⟨ad261, e261, hx261_0⟩ := Kd.at_int HR2.out a1_1 p261 q261
  have hw261_0 := hx261_0
  cases e261
  replace hx261_0 := (HB.out.cell (World.block_lt_of_cell? w _ hx261_0)).trans hx261_0
  replace p261 := eq_true p261
  replace q261 := eq_true q261
  refine start_ (n := 10) (S := fun w' => w'.cell? ⟨gb258, 0, none⟩ = some (.int .i64 a1_0) ∧ w'.cell? ⟨gb258, 1, none⟩ = some (.int .i64 a1_1) ∧ w'.cell? ⟨gb258, 2, none⟩ = some (.int .i64 a1_2) ∧ w'.cell? (ad261.add (a1_1).toNat) = some (.int .i64 (rd l2 a1_1))) (ds := [8]) #[false, false, false, false, false, false, false, false, false, false] (by kernel_rfl) rfl rfl ⟨(blk_cell BK258.out 0).trans rfl, (blk_cell BK258.out 1).trans rfl, (blk_cell BK258.out 2).trans rfl, ((HB.out.cell (World.block_lt_of_cell? w _ hw261_0)).trans hw261_0)⟩ (fun hHeld => ?_); refine with_tabW impl_Pool_rebuilt.tab5 impl_Pool_rebuilt.bits5 (fun HT_ HW_ => ?_)
  generalize w15.drew = w18 at BK0 BK258 HB hx261_0 hHeld ⊢
  refine pure_ (i := 0) (N := some 20) (v := ?_) (a' := ?_) (zB 10 1) rfl rfl (any_of HT_.out (by kernel_rfl)) (fun _ _ _ h => h) (Or.inl ⟨by rfl, ?_⟩) ?_ ?_
  rotate_left
  ·intro w'
   go_simp
   with_reducible rfl
  rotate_left
  ·exact zn
  refine pure_ (i := 1) (N := some 21) (v := ?_) (a' := ?_) (zB 10 3) rfl rfl (any_of HT_.out (by kernel_rfl)) (fun _ _ _ h => h) (Or.inl ⟨by rfl, ?_⟩) ?_ ?_
  rotate_left
  ·intro w'
   go_simp
   with_reducible rfl
  rotate_left
  ·exact zn
  refine pure_ (i := 3) (N := some 23) (v := ?_) (a' := ?_) (zB 10 11) rfl rfl (any_of HT_.out (by kernel_rfl)) (fun _ _ _ h => h) (Or.inl ⟨by rfl, ?_⟩) ?_ ?_
  rotate_left
  ·intro w'
   go_simp
   with_reducible rfl
  rotate_left
  ·exact zn
  refine pure_ (i := 4) (N := some 24) (v := ?_) (a' := ?_) (zB 10 27) rfl rfl (any_of HT_.out (by kernel_rfl)) (fun _ _ _ h => h) (Or.inl ⟨by rfl, ?_⟩) ?_ ?_
  rotate_left
  ·intro w'
   go_simp
   with_reducible rfl
  rotate_left
  ·exact zn
  refine take_ (i := 2) (N := some 22) (v := ?_) (a' := ?_) (zB 10 31) rfl rfl (take_ofW HT_.out HW_.out (by kernel_rfl)) (fun _ _ _ h => h) (Or.inl ⟨by rfl, ?_⟩) hHeld ?_ ?_
  rotate_left
  ·rintro w' ⟨s0, s1, s2, s3⟩
   go_simp
   with_reducible rfl
  rotate_left
  ·exact zn
  refine take_ (i := 5) (N := some 25) (v := ?_) (a' := ?_) (zB 10 63) rfl rfl (take_ofW HT_.out HW_.out (by kernel_rfl)) (fun _ _ _ h => h) (Or.inl ⟨by rfl, ?_⟩) hHeld ?_ ?_
  rotate_left
  ·rintro w' ⟨s0, s1, s2, s3⟩
   go_simp
   with_reducible rfl
  rotate_left
  ·exact zn
  refine pure_ (i := 6) (N := some 26) (v := ?_) (a' := ?_) (zB 10 127) rfl rfl (any_of HT_.out (by kernel_rfl)) (fun _ _ _ h => h) (Or.inl ⟨by rfl, ?_⟩) ?_ ?_
  rotate_left
  ·intro w'
   go_simp
   with_reducible rfl
  rotate_left
  ·exact zn
  refine take_ (i := 7) (N := some 27) (v := ?_) (a' := ?_) (zB 10 255) rfl rfl (take_ofW HT_.out HW_.out (by kernel_rfl)) (fun _ _ _ h => h) (Or.inl ⟨by rfl, ?_⟩) hHeld ?_ ?_
  rotate_left
  ·rintro w' ⟨s0, s1, s2, s3⟩
   go_simp
   with_reducible rfl
  rotate_left
  ·exact zn
  refine last_ (i := 8) (N := some 28) (zB 10 511) rfl rfl (one_of HT_.out (by kernel_rfl)) (by decide) (fun K hK => ?_)
  refine goes_ Try.func64 (by kernel_rfl) rfl #[.pointer (some ⟨g0_, 0, none⟩), .int .i64 a1_0, .int .i64 (rd l2 a1_1), .int .i64 0] (by rfl) rfl rfl zl ?_
  with_reducible refine (impl_Pool_add.calls k g0_ P0_0_ _ l0_0 a1_0 (rd l2 a1_1) 0 r w0 _ (below_step HWB_.out (zb HB.out)) HGE_.out (zh BK0.out) (Kd.R_below HO_.out (zb HB.out)) A14.out).mono ?_
  rintro e w916 ⟨rfl, hb, hkp, u_, hbx2, ho2⟩
  refine ⟨_, rfl, ?_⟩
  have K1_ := Aside0.mk (Kept.then_ (Kept.of_below (W := _) (show Below w.heap.size w _ from (zb HB.out)) (fun k_ => P0_0_ k_ ∨ k_ = g0_)) hkp (fun _ h_ => .inl h_))
  have O1_ := Aside0.mk (Kd.R_mono (ok' := fun k_ => P0_0_ k_ ∨ w.heap.size ≤ k_) ho2 (fun _ h_ => h_.imp id (fun q_ => Nat.le_trans (below_size (show Below w.heap.size w _ from (zb HB.out))) q_)))
  have B1_ := Aside0.mk hb
  have X1_ := Aside0.mk hbx2
  clear hb hkp hbx2 ho2
  refine hK.out _ _ ?_
  clear hK K
  refine norm_ (a' := ?_) ?_ ?_
  rotate_left
  ·exact zn (N := some 28)
  refine pure_ (i := 9) (N := some 6) (v := ?_) (a' := ?_) (zB 10 1023) rfl rfl (any_of HT_.out (by kernel_rfl)) (fun _ _ _ h => h) (Or.inl ⟨by rfl, ?_⟩) ?_ ?_
  rotate_left
  ·intro w'
   go_simp
   with_reducible rfl
  rotate_left
  ·exact zn
  refine done_ (done_of HT_.out (by kernel_rfl)) ?_
  try go_wp2
  go_ret
  exact ⟨ze, B1_.out, K1_.out, _, zh X1_.out, O1_.out⟩
 rw [if_neg c11] at H
 have c11b0 : (t259 == 1) = false := beq_eq_false_iff_ne.mpr c11
 have c11b1 : (t259 != 1) = true := bne_iff_ne.mpr c11
 by_cases c20 : 0 ≤ a1_1
 rotate_left
 ·rw [if_neg c20] at H
  exact absurd H (by simp)






 rw [if_pos c20] at H
 have c20b0 : decide (0 ≤ a1_1) = true := decide_eq_true c20
 clear c20
 by_cases c21 : a1_1 < (l2.length : Int)
 rotate_left
 ·rw [if_neg c21] at H
  exact absurd H (by simp)
 rw [if_pos c21] at H
 have c21b0 : decide (a1_1 < (l2.length : Int)) = true := decide_eq_true c21
 clear c21
 by_cases c22 : 0 ≤ a1_2
 rotate_left
 ·rw [if_neg c22] at H
  exact absurd H (by simp)
 rw [if_pos c22] at H
 have c22b0 : decide (0 ≤ a1_2) = true := decide_eq_true c22
 clear c22
 by_cases c23 : a1_2 < (l2.length : Int)
 rotate_left
 ·rw [if_neg c23] at H
  exact absurd H (by simp)
 rw [if_pos c23] at H
 have c23b0 : decide (a1_2 < (l2.length : Int)) = true := decide_eq_true c23
 clear c23
 have A24 := Aside0.mk H
 clear H
 go_enter Try.func36, Try.ntmps36
 try go_wp2_with (first | ((with_reducible refine gate_dst (N := 4) rfl ?_); refine box_event ?hg (N := 4) ?hd (cs := #[.int .i64 a1_0, .int .i64 a1_1, .int .i64 a1_2]) (t := 55) ?hr ?_; (case hd => rfl); (case hg => rfl); (case hr => first | (go_simp; done) | (go_simp; rfl)); intro gb258 hg w25 hbox hb; have n0_ := Aside0.mk (blk_below (zh BK0.out) hb); have n1_ := Aside0.mk (below_step (zb HB.out) hb); have n2_ := Aside0.mk (hbox); have n3_ := Aside0.mk ((by rw [hg]; exact (below_size (zb HB.out)) : w.heap.size ≤ gb258)); have n4_ := Aside0.mk ((by rw [hg]; exact (below_size (zb HB.out)) : w.heap.size ≤ gb258)); have n5_ := Aside0.mk ((by rw [hg]; exact Nat.ne_of_lt (blk_lt (zh BK0.out)) : g0_ ≠ gb258)); have n6_ := Aside0.mk ((by rw [hg]; exact Nat.ne_of_gt (blk_lt (zh BK0.out)) : gb258 ≠ g0_)); clear BK0 HB; have BK0 := n0_; have HB := n1_; have BK258 := n2_; have GW258 := n3_; have GE258 := n4_; have NB0_258 := n5_; have NB258_0 := n6_; clear n0_ n1_ n2_ n3_ n4_ n5_ n6_ hb hbox hg; have hnb26 := NB258_0.out; have hnc26 := NB0_258.out; have hcz27_0 : w25.cell? ⟨gb258, 0, none⟩ = some (.int .i64 a1_0) := (blk_cell BK258.out 0).trans rfl; have hcz27_1 : w25.cell? ⟨gb258, 1, none⟩ = some (.int .i64 a1_1) := (blk_cell BK258.out 1).trans rfl; have hcz27_2 : w25.cell? ⟨gb258, 2, none⟩ = some (.int .i64 a1_2) := (blk_cell BK258.out 2).trans rfl; have hfz27_0 := blk_frozen BK258.out 0; have hfz27_1 := blk_frozen BK258.out 1; have hfz27_2 := blk_frozen BK258.out 2) | ((with_reducible refine gate_callee (f := 63) rfl ?_); refine goesL_ (some 9) rfl rfl Try.func63 (by kernel_rfl) rfl #[.int .i64 a1_0] rfl zl ?_; (with_reducible refine (impl_count.calls k a1_0 t259 _ A4.out).mono ?_); rintro e w' ⟨rfl, ⟨nd, rfl⟩⟩; refine ⟨_, rfl, ?_⟩))
 (try (rw [drewN_self w25]; generalize hq_ : World.drewN w25 _ = w25; have n0_ : Aside0 (w25.heap[g0_]? = some (.cells #[.slice A0_0 l0_0.length c0_0] 28 (0, 0))) := ⟨by rw [← hq_]; exact (zh BK0.out)⟩; have n1_ : Aside0 (w25.heap[gb258]? = some (.cells #[.int .i64 a1_0, .int .i64 a1_1, .int .i64 a1_2] 55 (0, 0))) := ⟨by rw [← hq_]; exact (zh BK258.out)⟩; have n2_ : Aside0 (Below w.heap.size w w25) := ⟨by rw [← hq_]; exact (zb HB.out)⟩; clear BK0 BK258 HB hq_; have BK0 := n0_; have BK258 := n1_; have HB := n2_; clear n0_ n1_ n2_))
 have n0_ := Aside0.mk (blk_drew BK0.out)
 have n1_ := Aside0.mk (blk_drew BK258.out)
 have n2_ := Aside0.mk (below_drew1 HB.out)
 clear BK0 BK258 HB
 have BK0 := n0_
 have BK258 := n1_
 have HB := n2_
 clear n0_ n1_ n2_
 have p263 : 0 ≤ (a1_1 : Int) := of_decide_eq_true (by first | (with_reducible assumption) | assumption)
 have q263 : a1_1 < (l2.length : Int) := of_decide_eq_true (by first | (with_reducible assumption) | assumption)
 obtain ⟨ad263, e263, hx263_0⟩ := Kd.at_int HR2.out a1_1 p263 q263
 have hw263_0 := hx263_0
 cases e263
 replace hx263_0 := (HB.out.cell (World.block_lt_of_cell? w _ hx263_0)).trans hx263_0
 replace p263 := eq_true p263
 replace q263 := eq_true q263
 have p264 : 0 ≤ (a1_2 : Int) := of_decide_eq_true (by first | (with_reducible assumption) | assumption)
 have q264 : a1_2 < (l2.length : Int) := of_decide_eq_true (by first | (with_reducible assumption) | assumption)
 obtain ⟨ad264, e264, hx264_0⟩ := Kd.at_int HR2.out a1_2 p264 q264
 have hw264_0 := hx264_0
 obtain rfl : ad263 = ad264 := (by injection e264)
 replace hx264_0 := (HB.out.cell (World.block_lt_of_cell? w _ hx264_0)).trans hx264_0
 replace p264 := eq_true p264
 replace q264 := eq_true q264
 refine start_ (n := 15) (S := fun w' => w'.cell? ⟨gb258, 0, none⟩ = some (.int .i64 a1_0) ∧ w'.cell? ⟨gb258, 1, none⟩ = some (.int .i64 a1_1) ∧ w'.cell? ⟨gb258, 2, none⟩ = some (.int .i64 a1_2) ∧ w'.cell? (ad263.add (a1_1).toNat) = some (.int .i64 (rd l2 a1_1)) ∧ w'.cell? (ad263.add (a1_2).toNat) = some (.int .i64 (rd l2 a1_2))) (ds := [13]) #[false, false, false, false, false, false, false, false, false, false, false, false, false, false, false] (by kernel_rfl) rfl rfl ⟨(blk_cell BK258.out 0).trans rfl, (blk_cell BK258.out 1).trans rfl, (blk_cell BK258.out 2).trans rfl, ((HB.out.cell (World.block_lt_of_cell? w _ hw263_0)).trans hw263_0), ((HB.out.cell (World.block_lt_of_cell? w _ hw264_0)).trans hw264_0)⟩ (fun hHeld => ?_); refine with_tabW impl_Pool_rebuilt.tab6 impl_Pool_rebuilt.bits6 (fun HT_ HW_ => ?_)
 generalize w25.drew = w28 at BK0 BK258 HB hx263_0 hx264_0 hHeld ⊢
 refine pure_ (i := 0) (N := some 29) (v := ?_) (a' := ?_) (zB 15 1) rfl rfl (any_of HT_.out (by kernel_rfl)) (fun _ _ _ h => h) (Or.inl ⟨by rfl, ?_⟩) ?_ ?_
 rotate_left
 ·intro w'
  go_simp
  with_reducible rfl
 rotate_left
 ·exact zn
 refine pure_ (i := 1) (N := some 30) (v := ?_) (a' := ?_) (zB 15 3) rfl rfl (any_of HT_.out (by kernel_rfl)) (fun _ _ _ h => h) (Or.inl ⟨by rfl, ?_⟩) ?_ ?_
 rotate_left
 ·intro w'
  go_simp
  with_reducible rfl
 rotate_left
 ·exact zn
 refine pure_ (i := 3) (N := some 32) (v := ?_) (a' := ?_) (zB 15 11) rfl rfl (any_of HT_.out (by kernel_rfl)) (fun _ _ _ h => h) (Or.inl ⟨by rfl, ?_⟩) ?_ ?_
 rotate_left
 ·intro w'
  go_simp
  with_reducible rfl
 rotate_left
 ·exact zn
 refine pure_ (i := 4) (N := some 33) (v := ?_) (a' := ?_) (zB 15 27) rfl rfl (any_of HT_.out (by kernel_rfl)) (fun _ _ _ h => h) (Or.inl ⟨by rfl, ?_⟩) ?_ ?_
 rotate_left
 ·intro w'
  go_simp
  with_reducible rfl
 rotate_left
 ·exact zn
 refine pure_ (i := 8) (N := some 37) (v := ?_) (a' := ?_) (zB 15 283) rfl rfl (any_of HT_.out (by kernel_rfl)) (fun _ _ _ h => h) (Or.inl ⟨by rfl, ?_⟩) ?_ ?_
 rotate_left
 ·intro w'
  go_simp
  with_reducible rfl
 rotate_left
 ·exact zn
 refine pure_ (i := 9) (N := some 38) (v := ?_) (a' := ?_) (zB 15 795) rfl rfl (any_of HT_.out (by kernel_rfl)) (fun _ _ _ h => h) (Or.inl ⟨by rfl, ?_⟩) ?_ ?_
 rotate_left
 ·intro w'
  go_simp
  with_reducible rfl
 rotate_left
 ·exact zn
 refine take_ (i := 2) (N := some 31) (v := ?_) (a' := ?_) (zB 15 799) rfl rfl (take_ofW HT_.out HW_.out (by kernel_rfl)) (fun _ _ _ h => h) (Or.inl ⟨by rfl, ?_⟩) hHeld ?_ ?_
 rotate_left
 ·rintro w' ⟨s0, s1, s2, s3, s4⟩
  go_simp
  with_reducible rfl
 rotate_left
 ·exact zn
 refine take_ (i := 5) (N := some 34) (v := ?_) (a' := ?_) (zB 15 831) rfl rfl (take_ofW HT_.out HW_.out (by kernel_rfl)) (fun _ _ _ h => h) (Or.inl ⟨by rfl, ?_⟩) hHeld ?_ ?_
 rotate_left
 ·rintro w' ⟨s0, s1, s2, s3, s4⟩
  go_simp
  with_reducible rfl
 rotate_left
 ·exact zn
 refine pure_ (i := 6) (N := some 35) (v := ?_) (a' := ?_) (zB 15 895) rfl rfl (any_of HT_.out (by kernel_rfl)) (fun _ _ _ h => h) (Or.inl ⟨by rfl, ?_⟩) ?_ ?_
 rotate_left
 ·intro w'
  go_simp
  with_reducible rfl
 rotate_left
 ·exact zn
 refine take_ (i := 7) (N := some 36) (v := ?_) (a' := ?_) (zB 15 1023) rfl rfl (take_ofW HT_.out HW_.out (by kernel_rfl)) (fun _ _ _ h => h) (Or.inl ⟨by rfl, ?_⟩) hHeld ?_ ?_
 rotate_left
 ·rintro w' ⟨s0, s1, s2, s3, s4⟩
  go_simp
  with_reducible rfl
 rotate_left
 ·exact zn
 refine take_ (i := 10) (N := some 39) (v := ?_) (a' := ?_) (zB 15 2047) rfl rfl (take_ofW HT_.out HW_.out (by kernel_rfl)) (fun _ _ _ h => h) (Or.inl ⟨by rfl, ?_⟩) hHeld ?_ ?_
 rotate_left
 ·rintro w' ⟨s0, s1, s2, s3, s4⟩
  go_simp
  with_reducible rfl
 rotate_left
 ·exact zn
 refine pure_ (i := 11) (N := some 40) (v := ?_) (a' := ?_) (zB 15 4095) rfl rfl (any_of HT_.out (by kernel_rfl)) (fun _ _ _ h => h) (Or.inl ⟨by rfl, ?_⟩) ?_ ?_
 rotate_left
 ·intro w'
  go_simp
  with_reducible rfl
 rotate_left
 ·exact zn
 refine take_ (i := 12) (N := some 41) (v := ?_) (a' := ?_) (zB 15 8191) rfl rfl (take_ofW HT_.out HW_.out (by kernel_rfl)) (fun _ _ _ h => h) (Or.inl ⟨by rfl, ?_⟩) hHeld ?_ ?_
 rotate_left
 ·rintro w' ⟨s0, s1, s2, s3, s4⟩
  go_simp
  with_reducible rfl
 rotate_left
 ·exact zn
 refine last_ (i := 13) (N := some 42) (zB 15 16383) rfl rfl (one_of HT_.out (by kernel_rfl)) (by decide) (fun K hK => ?_)
 refine goes_ Try.func64 (by kernel_rfl) rfl #[.pointer (some ⟨g0_, 0, none⟩), .int .i64 a1_0, .int .i64 (rd l2 a1_1), .int .i64 (rd l2 a1_2)] (by rfl) rfl rfl zl ?_
 with_reducible refine (impl_Pool_add.calls k g0_ P0_0_ _ l0_0 a1_0 (rd l2 a1_1) (rd l2 a1_2) r w0 _ (below_step HWB_.out (zb HB.out)) HGE_.out (zh BK0.out) (Kd.R_below HO_.out (zb HB.out)) A24.out).mono ?_
 rintro e w916 ⟨rfl, hb, hkp, u_, hbx2, ho2⟩
 refine ⟨_, rfl, ?_⟩
 have K1_ := Aside0.mk (Kept.then_ (Kept.of_below (W := _) (show Below w.heap.size w _ from (zb HB.out)) (fun k_ => P0_0_ k_ ∨ k_ = g0_)) hkp (fun _ h_ => .inl h_))
 have O1_ := Aside0.mk (Kd.R_mono (ok' := fun k_ => P0_0_ k_ ∨ w.heap.size ≤ k_) ho2 (fun _ h_ => h_.imp id (fun q_ => Nat.le_trans (below_size (show Below w.heap.size w _ from (zb HB.out))) q_)))
 have B1_ := Aside0.mk hb
 have X1_ := Aside0.mk hbx2
 clear hb hkp hbx2 ho2
 refine hK.out _ _ ?_
 clear hK K
 refine norm_ (a' := ?_) ?_ ?_
 rotate_left
 ·exact zn (N := some 42)
 refine pure_ (i := 14) (N := some 6) (v := ?_) (a' := ?_) (zB 15 32767) rfl rfl (any_of HT_.out (by kernel_rfl)) (fun _ _ _ h => h) (Or.inl ⟨by rfl, ?_⟩) ?_ ?_
 rotate_left
 ·intro w'
  go_simp
  with_reducible rfl
 rotate_left
 ·exact zn
 refine done_ (done_of HT_.out (by kernel_rfl)) ?_
 try go_wp2
 go_ret
 exact ⟨ze, B1_.out, K1_.out, _, zh X1_.out, O1_.out⟩
end Go.Proofs.Ytobkledmbnacjaa.M
end
