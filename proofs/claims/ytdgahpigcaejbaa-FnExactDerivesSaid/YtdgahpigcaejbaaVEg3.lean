import Derived.Test.YtdgahpigcaejbaaVE0
import Derived.Test.YtdgahpigcaejbaaVEg2
import Derived.ChangeMaps4
import Derived.MapKept
import Derived.RegionTactic
import Derived.ChangeAlike
import Derived.Laws.StructEq
import Derived.Test.YtdgahpigcaejbaaVEg0
import Derived.Test.YtdgahpigcaejbaaVLibSort
import Derived.Test.YtdgahpigcaejbaaVShelf
import Derived.Test.YtdgahpigcaejbaaVLibCompact
import Derived.Test.YtdgahpigcaejbaaVLibClip
import Derived.Lib.SliceRun
section
-- Written by this session's program (wip/tools/gprint.py over the kit's print) out of the translation; Lean checks it.
namespace Go.Proofs.Ytdgahpigcaejbaa.E
open Go.RowKit Go.Proofs.YtdgahpigcaejbaaW.PrintWords Go.Proofs.YtdgahpigcaejbaaW.PrintLast Go.Proofs.YtdgahpigcaejbaaW.PrintMore
attribute [local go_sem] max2_int min2_int max_two min_two max_three min_three max_four min_four   -- for this text's walks alone
set_option linter.unusedVariables false
set_option linter.unusedSimpArgs false
set_option maxRecDepth 100000

/-! ### impl_nodeOk: function 85 -/
def impl_nodeOk.f (k : Nat) (a0_0 : Int) (a0_1 : Int) (a0_2 : Int) (a1 : Int) : Option (Bool) := (impl_count.f k a0_0).bind fun t267 => (if t267 = 0 then ((impl_inRange.f a0_1 0 199).bind fun t268 => (if t268 = true then (some (a0_2 == 0)) else (some false))) else (if t267 = 1 then ((impl_inRange.f a0_1 0 (wrap64 (a1 - 1))).bind fun t269 => (if t269 = true then (some (a0_2 == 0)) else (some false))) else (if t267 = 2 then ((impl_inRange.f a0_1 0 (wrap64 (a1 - 1))).bind fun t270 => (if t270 = true then ((impl_inRange.f a0_2 0 (wrap64 (a1 - 1))).bind fun t271 => (if t271 = true then (if a0_0 = 8 then (some (decide (a0_1 ≤ a0_2))) else (some true)) else (some false))) else (some false))) else (some false))))
theorem impl_nodeOk.mono : ∀ a0 a1 a2 a3 k, LeO (impl_nodeOk.f k a0 a1 a2 a3) (impl_nodeOk.f (k + 1) a0 a1 a2 a3) := by
 intro a0 a1 a2 a3 k
 unfold impl_nodeOk.f
 repeat' first
   | (with_reducible exact impl_count.mono _ _)
   | (with_reducible exact LeO.refl _)
   | (with_reducible exact LeO.none _)
   | (with_reducible refine LeO.ite ?_ ?_)
   | (with_reducible refine LeO.bind ?_ (fun _ => ?_))
   | exact impl_count.mono _ _
   | exact LeO.none _
   | refine LeO.ite ?_ ?_
   | refine LeO.bind ?_ (fun _ => ?_)
set_option maxHeartbeats 8000000 in
set_option maxRecDepth 100000 in
theorem impl_nodeOk.calls (k : Nat) (a0_0 : Int) (a0_1 : Int) (a0_2 : Int) (a1 : Int) (r : Bool) (w : World) (h : impl_nodeOk.f k a0_0 a0_1 a0_2 a1 = some r) :
  Calls Try.prog 85 #[.agg #[.int .i64 a0_0, .int .i64 a0_1, .int .i64 a0_2], .int .i64 a1] w fun e w' => e = .returned (.bool r) ∧ Below w.heap.size w w' := by
 have hu44 := Try.underlying44
 have HB := Aside0.mk (Below.refl w.heap.size w)
 have H : ((impl_count.f k a0_0).bind fun t267 => (if t267 = 0 then ((impl_inRange.f a0_1 0 199).bind fun t268 => (if t268 = true then (some (a0_2 == 0)) else (some false))) else (if t267 = 1 then ((impl_inRange.f a0_1 0 (wrap64 (a1 - 1))).bind fun t269 => (if t269 = true then (some (a0_2 == 0)) else (some false))) else (if t267 = 2 then ((impl_inRange.f a0_1 0 (wrap64 (a1 - 1))).bind fun t270 => (if t270 = true then ((impl_inRange.f a0_2 0 (wrap64 (a1 - 1))).bind fun t271 => (if t271 = true then (if a0_0 = 8 then (some (decide (a0_1 ≤ a0_2))) else (some true)) else (some false))) else (some false))) else (some false))))) = some r := h
 clear h
 replace H := Option.bind_eq_some_iff.mp H
 obtain ⟨t267, A30, H⟩ := H
 replace H : (if t267 = 0 then ((impl_inRange.f a0_1 0 199).bind fun t268 => (if t268 = true then (some (a0_2 == 0)) else (some false))) else (if t267 = 1 then ((impl_inRange.f a0_1 0 (wrap64 (a1 - 1))).bind fun t269 => (if t269 = true then (some (a0_2 == 0)) else (some false))) else (if t267 = 2 then ((impl_inRange.f a0_1 0 (wrap64 (a1 - 1))).bind fun t270 => (if t270 = true then ((impl_inRange.f a0_2 0 (wrap64 (a1 - 1))).bind fun t271 => (if t271 = true then (if a0_0 = 8 then (some (decide (a0_1 ≤ a0_2))) else (some true)) else (some false))) else (some false))) else (some false)))) = some r := H
 have A3 := Aside0.mk A30
 clear A30
 by_cases c4 : t267 = 0
 ·rw [if_pos c4] at H
  have c4b0 : (t267 == 0) = true := beq_iff_eq.mpr c4
  have c4b1 : (t267 != 0) = false := bne_eq_false_iff_eq.mpr c4
  clear c4
  replace H := Option.bind_eq_some_iff.mp H
  obtain ⟨t268, A50, H⟩ := H
  replace H : (if t268 = true then (some (a0_2 == 0)) else (some false)) = some r := H
  have A5 := Aside0.mk A50
  clear A50
  by_cases c6 : t268 = true
  ·subst c6
   have H1 : (some (a0_2 == 0)) = some r := by rw [if_pos rfl] at H; exact H
   clear H
   have H := H1
   clear H1
   obtain rfl := Option.some.inj H
   go_enter Try.func85, Try.ntmps85
   go_wp2_with (first | ((with_reducible refine gate_dst (N := 2) rfl ?_); refine box_event ?hg (N := 2) ?hd (cs := #[.int .i64 a0_0, .int .i64 a0_1, .int .i64 a0_2]) (t := 44) ?hr ?_; (case hd => rfl); (case hg => rfl); (case hr => first | (go_simp; done) | (go_simp; rfl)); intro gb266 hg w7 hbox hb; have n0_ := Aside0.mk (below_step (zb HB.out) hb); have n1_ := Aside0.mk (hbox); have n2_ := Aside0.mk ((by rw [hg]; exact (below_size (zb HB.out)) : w.heap.size ≤ gb266)); have n3_ := Aside0.mk ((by rw [hg]; exact (below_size (zb HB.out)) : w.heap.size ≤ gb266)); clear HB; have HB := n0_; have BK266 := n1_; have GW266 := n2_; have GE266 := n3_; clear n0_ n1_ n2_ n3_; clear hb hbox hg; have hcz8_0 : w7.cell? ⟨gb266, 0, none⟩ = some (.int .i64 a0_0) := (blk_cell BK266.out 0).trans rfl; have hcz8_1 : w7.cell? ⟨gb266, 1, none⟩ = some (.int .i64 a0_1) := (blk_cell BK266.out 1).trans rfl; have hcz8_2 : w7.cell? ⟨gb266, 2, none⟩ = some (.int .i64 a0_2) := (blk_cell BK266.out 2).trans rfl; have hfz8_0 := blk_frozen BK266.out 0; have hfz8_1 := blk_frozen BK266.out 1; have hfz8_2 := blk_frozen BK266.out 2) | ((with_reducible refine gate_callee (f := 86) rfl ?_); refine goesL_ (some 7) rfl rfl Try.func86 (by kernel_rfl) rfl #[.int .i64 a0_0] rfl zl ?_; (with_reducible refine (impl_count.calls k a0_0 t267 _ A3.out).mono ?_); rintro e w' ⟨rfl, ⟨nd, rfl⟩⟩; refine ⟨_, rfl, ?_⟩) | ((with_reducible refine gate_callee (f := 84) rfl ?_); refine goesL_ (some 12) rfl rfl Try.func84 (by kernel_rfl) rfl #[.int .i64 a0_1, .int .i64 0, .int .i64 199] rfl zl ?_; (with_reducible refine (impl_inRange.calls a0_1 0 199 true _ A5.out).mono ?_); rintro e w' ⟨rfl, ⟨nd, rfl⟩⟩; refine ⟨_, rfl, ?_⟩))
   go_ret
   exact ⟨ze, zb HB.out⟩
  ·replace c6 := Bool.eq_false_iff.mpr c6
   subst c6
   have H1 : (some false) = some r := by rw [if_neg (show ¬ (false = true) by decide)] at H; exact H
   clear H
   have H := H1
   clear H1
   obtain rfl := Option.some.inj H
   go_enter Try.func85, Try.ntmps85
   go_wp2_with (first | ((with_reducible refine gate_dst (N := 2) rfl ?_); refine box_event ?hg (N := 2) ?hd (cs := #[.int .i64 a0_0, .int .i64 a0_1, .int .i64 a0_2]) (t := 44) ?hr ?_; (case hd => rfl); (case hg => rfl); (case hr => first | (go_simp; done) | (go_simp; rfl)); intro gb266 hg w9 hbox hb; have n0_ := Aside0.mk (below_step (zb HB.out) hb); have n1_ := Aside0.mk (hbox); have n2_ := Aside0.mk ((by rw [hg]; exact (below_size (zb HB.out)) : w.heap.size ≤ gb266)); have n3_ := Aside0.mk ((by rw [hg]; exact (below_size (zb HB.out)) : w.heap.size ≤ gb266)); clear HB; have HB := n0_; have BK266 := n1_; have GW266 := n2_; have GE266 := n3_; clear n0_ n1_ n2_ n3_; clear hb hbox hg; have hcz10_0 : w9.cell? ⟨gb266, 0, none⟩ = some (.int .i64 a0_0) := (blk_cell BK266.out 0).trans rfl; have hcz10_1 : w9.cell? ⟨gb266, 1, none⟩ = some (.int .i64 a0_1) := (blk_cell BK266.out 1).trans rfl; have hcz10_2 : w9.cell? ⟨gb266, 2, none⟩ = some (.int .i64 a0_2) := (blk_cell BK266.out 2).trans rfl; have hfz10_0 := blk_frozen BK266.out 0; have hfz10_1 := blk_frozen BK266.out 1; have hfz10_2 := blk_frozen BK266.out 2) | ((with_reducible refine gate_callee (f := 86) rfl ?_); refine goesL_ (some 7) rfl rfl Try.func86 (by kernel_rfl) rfl #[.int .i64 a0_0] rfl zl ?_; (with_reducible refine (impl_count.calls k a0_0 t267 _ A3.out).mono ?_); rintro e w' ⟨rfl, ⟨nd, rfl⟩⟩; refine ⟨_, rfl, ?_⟩) | ((with_reducible refine gate_callee (f := 84) rfl ?_); refine goesL_ (some 12) rfl rfl Try.func84 (by kernel_rfl) rfl #[.int .i64 a0_1, .int .i64 0, .int .i64 199] rfl zl ?_; (with_reducible refine (impl_inRange.calls a0_1 0 199 false _ A5.out).mono ?_); rintro e w' ⟨rfl, ⟨nd, rfl⟩⟩; refine ⟨_, rfl, ?_⟩))
   go_ret
   exact ⟨ze, zb HB.out⟩
 ·rw [if_neg c4] at H
  have c4b0 : (t267 == 0) = false := beq_eq_false_iff_ne.mpr c4
  have c4b1 : (t267 != 0) = true := bne_iff_ne.mpr c4
  by_cases c11 : t267 = 1
  ·rw [if_pos c11] at H
   have c11b0 : (t267 == 1) = true := beq_iff_eq.mpr c11
   have c11b1 : (t267 != 1) = false := bne_eq_false_iff_eq.mpr c11
   clear c11
   replace H := Option.bind_eq_some_iff.mp H
   obtain ⟨t269, A120, H⟩ := H
   replace H : (if t269 = true then (some (a0_2 == 0)) else (some false)) = some r := H
   have A12 := Aside0.mk A120
   clear A120
   by_cases c13 : t269 = true
   ·subst c13
    have H1 : (some (a0_2 == 0)) = some r := by rw [if_pos rfl] at H; exact H
    clear H
    have H := H1
    clear H1
    obtain rfl := Option.some.inj H
    go_enter Try.func85, Try.ntmps85
    go_wp2_with (first | ((with_reducible refine gate_dst (N := 2) rfl ?_); refine box_event ?hg (N := 2) ?hd (cs := #[.int .i64 a0_0, .int .i64 a0_1, .int .i64 a0_2]) (t := 44) ?hr ?_; (case hd => rfl); (case hg => rfl); (case hr => first | (go_simp; done) | (go_simp; rfl)); intro gb266 hg w14 hbox hb; have n0_ := Aside0.mk (below_step (zb HB.out) hb); have n1_ := Aside0.mk (hbox); have n2_ := Aside0.mk ((by rw [hg]; exact (below_size (zb HB.out)) : w.heap.size ≤ gb266)); have n3_ := Aside0.mk ((by rw [hg]; exact (below_size (zb HB.out)) : w.heap.size ≤ gb266)); clear HB; have HB := n0_; have BK266 := n1_; have GW266 := n2_; have GE266 := n3_; clear n0_ n1_ n2_ n3_; clear hb hbox hg; have hcz15_0 : w14.cell? ⟨gb266, 0, none⟩ = some (.int .i64 a0_0) := (blk_cell BK266.out 0).trans rfl; have hcz15_1 : w14.cell? ⟨gb266, 1, none⟩ = some (.int .i64 a0_1) := (blk_cell BK266.out 1).trans rfl; have hcz15_2 : w14.cell? ⟨gb266, 2, none⟩ = some (.int .i64 a0_2) := (blk_cell BK266.out 2).trans rfl; have hfz15_0 := blk_frozen BK266.out 0; have hfz15_1 := blk_frozen BK266.out 1; have hfz15_2 := blk_frozen BK266.out 2) | ((with_reducible refine gate_callee (f := 86) rfl ?_); refine goesL_ (some 7) rfl rfl Try.func86 (by kernel_rfl) rfl #[.int .i64 a0_0] rfl zl ?_; (with_reducible refine (impl_count.calls k a0_0 t267 _ A3.out).mono ?_); rintro e w' ⟨rfl, ⟨nd, rfl⟩⟩; refine ⟨_, rfl, ?_⟩) | ((with_reducible refine gate_callee (f := 84) rfl ?_); refine goesL_ (some 24) rfl rfl Try.func84 (by kernel_rfl) rfl #[.int .i64 a0_1, .int .i64 0, .int .i64 (wrap64 (a1 - 1))] rfl zl ?_; (with_reducible refine (impl_inRange.calls a0_1 0 (wrap64 (a1 - 1)) true _ A12.out).mono ?_); rintro e w' ⟨rfl, ⟨nd, rfl⟩⟩; refine ⟨_, rfl, ?_⟩))
    go_ret
    exact ⟨ze, zb HB.out⟩
   ·replace c13 := Bool.eq_false_iff.mpr c13
    subst c13
    have H1 : (some false) = some r := by rw [if_neg (show ¬ (false = true) by decide)] at H; exact H
    clear H
    have H := H1
    clear H1
    obtain rfl := Option.some.inj H
    go_enter Try.func85, Try.ntmps85
    go_wp2_with (first | ((with_reducible refine gate_dst (N := 2) rfl ?_); refine box_event ?hg (N := 2) ?hd (cs := #[.int .i64 a0_0, .int .i64 a0_1, .int .i64 a0_2]) (t := 44) ?hr ?_; (case hd => rfl); (case hg => rfl); (case hr => first | (go_simp; done) | (go_simp; rfl)); intro gb266 hg w16 hbox hb; have n0_ := Aside0.mk (below_step (zb HB.out) hb); have n1_ := Aside0.mk (hbox); have n2_ := Aside0.mk ((by rw [hg]; exact (below_size (zb HB.out)) : w.heap.size ≤ gb266)); have n3_ := Aside0.mk ((by rw [hg]; exact (below_size (zb HB.out)) : w.heap.size ≤ gb266)); clear HB; have HB := n0_; have BK266 := n1_; have GW266 := n2_; have GE266 := n3_; clear n0_ n1_ n2_ n3_; clear hb hbox hg; have hcz17_0 : w16.cell? ⟨gb266, 0, none⟩ = some (.int .i64 a0_0) := (blk_cell BK266.out 0).trans rfl; have hcz17_1 : w16.cell? ⟨gb266, 1, none⟩ = some (.int .i64 a0_1) := (blk_cell BK266.out 1).trans rfl; have hcz17_2 : w16.cell? ⟨gb266, 2, none⟩ = some (.int .i64 a0_2) := (blk_cell BK266.out 2).trans rfl; have hfz17_0 := blk_frozen BK266.out 0; have hfz17_1 := blk_frozen BK266.out 1; have hfz17_2 := blk_frozen BK266.out 2) | ((with_reducible refine gate_callee (f := 86) rfl ?_); refine goesL_ (some 7) rfl rfl Try.func86 (by kernel_rfl) rfl #[.int .i64 a0_0] rfl zl ?_; (with_reducible refine (impl_count.calls k a0_0 t267 _ A3.out).mono ?_); rintro e w' ⟨rfl, ⟨nd, rfl⟩⟩; refine ⟨_, rfl, ?_⟩) | ((with_reducible refine gate_callee (f := 84) rfl ?_); refine goesL_ (some 24) rfl rfl Try.func84 (by kernel_rfl) rfl #[.int .i64 a0_1, .int .i64 0, .int .i64 (wrap64 (a1 - 1))] rfl zl ?_; (with_reducible refine (impl_inRange.calls a0_1 0 (wrap64 (a1 - 1)) false _ A12.out).mono ?_); rintro e w' ⟨rfl, ⟨nd, rfl⟩⟩; refine ⟨_, rfl, ?_⟩))
    go_ret
    exact ⟨ze, zb HB.out⟩
  ·rw [if_neg c11] at H
   have c11b0 : (t267 == 1) = false := beq_eq_false_iff_ne.mpr c11
   have c11b1 : (t267 != 1) = true := bne_iff_ne.mpr c11
   by_cases c18 : t267 = 2
   ·rw [if_pos c18] at H
    have c18b0 : (t267 == 2) = true := beq_iff_eq.mpr c18
    have c18b1 : (t267 != 2) = false := bne_eq_false_iff_eq.mpr c18
    clear c18
    replace H := Option.bind_eq_some_iff.mp H
    obtain ⟨t270, A190, H⟩ := H
    replace H : (if t270 = true then ((impl_inRange.f a0_2 0 (wrap64 (a1 - 1))).bind fun t271 => (if t271 = true then (if a0_0 = 8 then (some (decide (a0_1 ≤ a0_2))) else (some true)) else (some false))) else (some false)) = some r := H
    have A19 := Aside0.mk A190
    clear A190
    by_cases c20 : t270 = true
    ·subst c20
     have H1 : ((impl_inRange.f a0_2 0 (wrap64 (a1 - 1))).bind fun t271 => (if t271 = true then (if a0_0 = 8 then (some (decide (a0_1 ≤ a0_2))) else (some true)) else (some false))) = some r := by rw [if_pos rfl] at H; exact H
     clear H
     have H := H1
     clear H1
     replace H := Option.bind_eq_some_iff.mp H
     obtain ⟨t271, A210, H⟩ := H
     replace H : (if t271 = true then (if a0_0 = 8 then (some (decide (a0_1 ≤ a0_2))) else (some true)) else (some false)) = some r := H
     have A21 := Aside0.mk A210
     clear A210
     by_cases c22 : t271 = true
     ·subst c22
      have H1 : (if a0_0 = 8 then (some (decide (a0_1 ≤ a0_2))) else (some true)) = some r := by rw [if_pos rfl] at H; exact H
      clear H
      have H := H1
      clear H1
      by_cases c23 : a0_0 = 8
      ·rw [if_pos c23] at H
       have c23b0 : (a0_0 == 8) = true := beq_iff_eq.mpr c23
       have c23b1 : (a0_0 != 8) = false := bne_eq_false_iff_eq.mpr c23
       clear c23
       obtain rfl := Option.some.inj H
       go_enter Try.func85, Try.ntmps85
       go_wp2_with (first | ((with_reducible refine gate_dst (N := 2) rfl ?_); refine box_event ?hg (N := 2) ?hd (cs := #[.int .i64 a0_0, .int .i64 a0_1, .int .i64 a0_2]) (t := 44) ?hr ?_; (case hd => rfl); (case hg => rfl); (case hr => first | (go_simp; done) | (go_simp; rfl)); intro gb266 hg w24 hbox hb; have n0_ := Aside0.mk (below_step (zb HB.out) hb); have n1_ := Aside0.mk (hbox); have n2_ := Aside0.mk ((by rw [hg]; exact (below_size (zb HB.out)) : w.heap.size ≤ gb266)); have n3_ := Aside0.mk ((by rw [hg]; exact (below_size (zb HB.out)) : w.heap.size ≤ gb266)); clear HB; have HB := n0_; have BK266 := n1_; have GW266 := n2_; have GE266 := n3_; clear n0_ n1_ n2_ n3_; clear hb hbox hg; have hcz25_0 : w24.cell? ⟨gb266, 0, none⟩ = some (.int .i64 a0_0) := (blk_cell BK266.out 0).trans rfl; have hcz25_1 : w24.cell? ⟨gb266, 1, none⟩ = some (.int .i64 a0_1) := (blk_cell BK266.out 1).trans rfl; have hcz25_2 : w24.cell? ⟨gb266, 2, none⟩ = some (.int .i64 a0_2) := (blk_cell BK266.out 2).trans rfl; have hfz25_0 := blk_frozen BK266.out 0; have hfz25_1 := blk_frozen BK266.out 1; have hfz25_2 := blk_frozen BK266.out 2) | ((with_reducible refine gate_callee (f := 86) rfl ?_); refine goesL_ (some 7) rfl rfl Try.func86 (by kernel_rfl) rfl #[.int .i64 a0_0] rfl zl ?_; (with_reducible refine (impl_count.calls k a0_0 t267 _ A3.out).mono ?_); rintro e w' ⟨rfl, ⟨nd, rfl⟩⟩; refine ⟨_, rfl, ?_⟩) | ((with_reducible refine gate_callee (f := 84) rfl ?_); refine goesL_ (some 36) rfl rfl Try.func84 (by kernel_rfl) rfl #[.int .i64 a0_1, .int .i64 0, .int .i64 (wrap64 (a1 - 1))] rfl zl ?_; (with_reducible refine (impl_inRange.calls a0_1 0 (wrap64 (a1 - 1)) true _ A19.out).mono ?_); rintro e w' ⟨rfl, ⟨nd, rfl⟩⟩; refine ⟨_, rfl, ?_⟩) | (go_at_call 84; (with_reducible refine (impl_inRange.calls a0_2 0 (wrap64 (a1 - 1)) true _ A21.out).mono ?_); rintro e w' ⟨rfl, ⟨nd, rfl⟩⟩))
       go_ret
       exact ⟨ze, zb HB.out⟩
      ·rw [if_neg c23] at H
       have c23b0 : (a0_0 == 8) = false := beq_eq_false_iff_ne.mpr c23
       have c23b1 : (a0_0 != 8) = true := bne_iff_ne.mpr c23
       obtain rfl := Option.some.inj H
       go_enter Try.func85, Try.ntmps85
       go_wp2_with (first | ((with_reducible refine gate_dst (N := 2) rfl ?_); refine box_event ?hg (N := 2) ?hd (cs := #[.int .i64 a0_0, .int .i64 a0_1, .int .i64 a0_2]) (t := 44) ?hr ?_; (case hd => rfl); (case hg => rfl); (case hr => first | (go_simp; done) | (go_simp; rfl)); intro gb266 hg w26 hbox hb; have n0_ := Aside0.mk (below_step (zb HB.out) hb); have n1_ := Aside0.mk (hbox); have n2_ := Aside0.mk ((by rw [hg]; exact (below_size (zb HB.out)) : w.heap.size ≤ gb266)); have n3_ := Aside0.mk ((by rw [hg]; exact (below_size (zb HB.out)) : w.heap.size ≤ gb266)); clear HB; have HB := n0_; have BK266 := n1_; have GW266 := n2_; have GE266 := n3_; clear n0_ n1_ n2_ n3_; clear hb hbox hg; have hcz27_0 : w26.cell? ⟨gb266, 0, none⟩ = some (.int .i64 a0_0) := (blk_cell BK266.out 0).trans rfl; have hcz27_1 : w26.cell? ⟨gb266, 1, none⟩ = some (.int .i64 a0_1) := (blk_cell BK266.out 1).trans rfl; have hcz27_2 : w26.cell? ⟨gb266, 2, none⟩ = some (.int .i64 a0_2) := (blk_cell BK266.out 2).trans rfl; have hfz27_0 := blk_frozen BK266.out 0; have hfz27_1 := blk_frozen BK266.out 1; have hfz27_2 := blk_frozen BK266.out 2) | ((with_reducible refine gate_callee (f := 86) rfl ?_); refine goesL_ (some 7) rfl rfl Try.func86 (by kernel_rfl) rfl #[.int .i64 a0_0] rfl zl ?_; (with_reducible refine (impl_count.calls k a0_0 t267 _ A3.out).mono ?_); rintro e w' ⟨rfl, ⟨nd, rfl⟩⟩; refine ⟨_, rfl, ?_⟩) | ((with_reducible refine gate_callee (f := 84) rfl ?_); refine goesL_ (some 36) rfl rfl Try.func84 (by kernel_rfl) rfl #[.int .i64 a0_1, .int .i64 0, .int .i64 (wrap64 (a1 - 1))] rfl zl ?_; (with_reducible refine (impl_inRange.calls a0_1 0 (wrap64 (a1 - 1)) true _ A19.out).mono ?_); rintro e w' ⟨rfl, ⟨nd, rfl⟩⟩; refine ⟨_, rfl, ?_⟩) | (go_at_call 84; (with_reducible refine (impl_inRange.calls a0_2 0 (wrap64 (a1 - 1)) true _ A21.out).mono ?_); rintro e w' ⟨rfl, ⟨nd, rfl⟩⟩))
       go_ret
       exact ⟨ze, zb HB.out⟩
     ·replace c22 := Bool.eq_false_iff.mpr c22
      subst c22
      have H1 : (some false) = some r := by rw [if_neg (show ¬ (false = true) by decide)] at H; exact H
      clear H
      have H := H1
      clear H1
      obtain rfl := Option.some.inj H
      go_enter Try.func85, Try.ntmps85
      go_wp2_with (first | ((with_reducible refine gate_dst (N := 2) rfl ?_); refine box_event ?hg (N := 2) ?hd (cs := #[.int .i64 a0_0, .int .i64 a0_1, .int .i64 a0_2]) (t := 44) ?hr ?_; (case hd => rfl); (case hg => rfl); (case hr => first | (go_simp; done) | (go_simp; rfl)); intro gb266 hg w28 hbox hb; have n0_ := Aside0.mk (below_step (zb HB.out) hb); have n1_ := Aside0.mk (hbox); have n2_ := Aside0.mk ((by rw [hg]; exact (below_size (zb HB.out)) : w.heap.size ≤ gb266)); have n3_ := Aside0.mk ((by rw [hg]; exact (below_size (zb HB.out)) : w.heap.size ≤ gb266)); clear HB; have HB := n0_; have BK266 := n1_; have GW266 := n2_; have GE266 := n3_; clear n0_ n1_ n2_ n3_; clear hb hbox hg; have hcz29_0 : w28.cell? ⟨gb266, 0, none⟩ = some (.int .i64 a0_0) := (blk_cell BK266.out 0).trans rfl; have hcz29_1 : w28.cell? ⟨gb266, 1, none⟩ = some (.int .i64 a0_1) := (blk_cell BK266.out 1).trans rfl; have hcz29_2 : w28.cell? ⟨gb266, 2, none⟩ = some (.int .i64 a0_2) := (blk_cell BK266.out 2).trans rfl; have hfz29_0 := blk_frozen BK266.out 0; have hfz29_1 := blk_frozen BK266.out 1; have hfz29_2 := blk_frozen BK266.out 2) | ((with_reducible refine gate_callee (f := 86) rfl ?_); refine goesL_ (some 7) rfl rfl Try.func86 (by kernel_rfl) rfl #[.int .i64 a0_0] rfl zl ?_; (with_reducible refine (impl_count.calls k a0_0 t267 _ A3.out).mono ?_); rintro e w' ⟨rfl, ⟨nd, rfl⟩⟩; refine ⟨_, rfl, ?_⟩) | ((with_reducible refine gate_callee (f := 84) rfl ?_); refine goesL_ (some 36) rfl rfl Try.func84 (by kernel_rfl) rfl #[.int .i64 a0_1, .int .i64 0, .int .i64 (wrap64 (a1 - 1))] rfl zl ?_; (with_reducible refine (impl_inRange.calls a0_1 0 (wrap64 (a1 - 1)) true _ A19.out).mono ?_); rintro e w' ⟨rfl, ⟨nd, rfl⟩⟩; refine ⟨_, rfl, ?_⟩) | (go_at_call 84; (with_reducible refine (impl_inRange.calls a0_2 0 (wrap64 (a1 - 1)) false _ A21.out).mono ?_); rintro e w' ⟨rfl, ⟨nd, rfl⟩⟩))
      go_ret
      exact ⟨ze, zb HB.out⟩
    ·replace c20 := Bool.eq_false_iff.mpr c20
     subst c20
     have H1 : (some false) = some r := by rw [if_neg (show ¬ (false = true) by decide)] at H; exact H
     clear H
     have H := H1
     clear H1
     obtain rfl := Option.some.inj H
     go_enter Try.func85, Try.ntmps85
     go_wp2_with (first | ((with_reducible refine gate_dst (N := 2) rfl ?_); refine box_event ?hg (N := 2) ?hd (cs := #[.int .i64 a0_0, .int .i64 a0_1, .int .i64 a0_2]) (t := 44) ?hr ?_; (case hd => rfl); (case hg => rfl); (case hr => first | (go_simp; done) | (go_simp; rfl)); intro gb266 hg w30 hbox hb; have n0_ := Aside0.mk (below_step (zb HB.out) hb); have n1_ := Aside0.mk (hbox); have n2_ := Aside0.mk ((by rw [hg]; exact (below_size (zb HB.out)) : w.heap.size ≤ gb266)); have n3_ := Aside0.mk ((by rw [hg]; exact (below_size (zb HB.out)) : w.heap.size ≤ gb266)); clear HB; have HB := n0_; have BK266 := n1_; have GW266 := n2_; have GE266 := n3_; clear n0_ n1_ n2_ n3_; clear hb hbox hg; have hcz31_0 : w30.cell? ⟨gb266, 0, none⟩ = some (.int .i64 a0_0) := (blk_cell BK266.out 0).trans rfl; have hcz31_1 : w30.cell? ⟨gb266, 1, none⟩ = some (.int .i64 a0_1) := (blk_cell BK266.out 1).trans rfl; have hcz31_2 : w30.cell? ⟨gb266, 2, none⟩ = some (.int .i64 a0_2) := (blk_cell BK266.out 2).trans rfl; have hfz31_0 := blk_frozen BK266.out 0; have hfz31_1 := blk_frozen BK266.out 1; have hfz31_2 := blk_frozen BK266.out 2) | ((with_reducible refine gate_callee (f := 86) rfl ?_); refine goesL_ (some 7) rfl rfl Try.func86 (by kernel_rfl) rfl #[.int .i64 a0_0] rfl zl ?_; (with_reducible refine (impl_count.calls k a0_0 t267 _ A3.out).mono ?_); rintro e w' ⟨rfl, ⟨nd, rfl⟩⟩; refine ⟨_, rfl, ?_⟩) | ((with_reducible refine gate_callee (f := 84) rfl ?_); refine goesL_ (some 36) rfl rfl Try.func84 (by kernel_rfl) rfl #[.int .i64 a0_1, .int .i64 0, .int .i64 (wrap64 (a1 - 1))] rfl zl ?_; (with_reducible refine (impl_inRange.calls a0_1 0 (wrap64 (a1 - 1)) false _ A19.out).mono ?_); rintro e w' ⟨rfl, ⟨nd, rfl⟩⟩; refine ⟨_, rfl, ?_⟩))
     go_ret
     exact ⟨ze, zb HB.out⟩
   ·rw [if_neg c18] at H
    have c18b0 : (t267 == 2) = false := beq_eq_false_iff_ne.mpr c18
    have c18b1 : (t267 != 2) = true := bne_iff_ne.mpr c18
    obtain rfl := Option.some.inj H
    go_enter Try.func85, Try.ntmps85
    go_wp2_with (first | ((with_reducible refine gate_dst (N := 2) rfl ?_); refine box_event ?hg (N := 2) ?hd (cs := #[.int .i64 a0_0, .int .i64 a0_1, .int .i64 a0_2]) (t := 44) ?hr ?_; (case hd => rfl); (case hg => rfl); (case hr => first | (go_simp; done) | (go_simp; rfl)); intro gb266 hg w32 hbox hb; have n0_ := Aside0.mk (below_step (zb HB.out) hb); have n1_ := Aside0.mk (hbox); have n2_ := Aside0.mk ((by rw [hg]; exact (below_size (zb HB.out)) : w.heap.size ≤ gb266)); have n3_ := Aside0.mk ((by rw [hg]; exact (below_size (zb HB.out)) : w.heap.size ≤ gb266)); clear HB; have HB := n0_; have BK266 := n1_; have GW266 := n2_; have GE266 := n3_; clear n0_ n1_ n2_ n3_; clear hb hbox hg; have hcz33_0 : w32.cell? ⟨gb266, 0, none⟩ = some (.int .i64 a0_0) := (blk_cell BK266.out 0).trans rfl; have hcz33_1 : w32.cell? ⟨gb266, 1, none⟩ = some (.int .i64 a0_1) := (blk_cell BK266.out 1).trans rfl; have hcz33_2 : w32.cell? ⟨gb266, 2, none⟩ = some (.int .i64 a0_2) := (blk_cell BK266.out 2).trans rfl; have hfz33_0 := blk_frozen BK266.out 0; have hfz33_1 := blk_frozen BK266.out 1; have hfz33_2 := blk_frozen BK266.out 2) | ((with_reducible refine gate_callee (f := 86) rfl ?_); refine goesL_ (some 7) rfl rfl Try.func86 (by kernel_rfl) rfl #[.int .i64 a0_0] rfl zl ?_; (with_reducible refine (impl_count.calls k a0_0 t267 _ A3.out).mono ?_); rintro e w' ⟨rfl, ⟨nd, rfl⟩⟩; refine ⟨_, rfl, ?_⟩))
    go_ret
    exact ⟨ze, zb HB.out⟩

end Go.Proofs.Ytdgahpigcaejbaa.E
end

section
-- Written by this session's program (wip/tools/gprint.py over the kit's print) out of the translation; Lean checks it.
namespace Go.Proofs.Ytdgahpigcaejbaa.E
open Go.RowKit Go.Proofs.YtdgahpigcaejbaaW.PrintWords Go.Proofs.YtdgahpigcaejbaaW.PrintLast Go.Proofs.YtdgahpigcaejbaaW.PrintMore
attribute [local go_sem] max2_int min2_int max_two min_two max_three min_three max_four min_four   -- for this text's walks alone
set_option linter.unusedVariables false
set_option linter.unusedSimpArgs false
set_option maxRecDepth 100000


/-! ### impl_PoolOk: function 52 -/
-- IMPORT Derived.ChangeMaps4
-- IMPORT Derived.MapKept
-- IMPORT Derived.RegionTactic
-- IMPORT Derived.ChangeAlike
-- IMPORT Derived.Laws.StructEq
/-! #### a map from nodes to counts, by hand -/
instance decN : DecidableEq S44 := fun a b =>
 if h : a.f0 = b.f0 ∧ a.f1 = b.f1 ∧ a.f2 = b.f2 then .isTrue (by cases a; cases b; simp_all) else .isFalse (fun e => h (by subst e; exact ⟨rfl, rfl, rfl⟩))
def encN (n : S44) : Value := .agg #[.int .i64 n.f0, .int .i64 n.f1, .int .i64 n.f2]
theorem eqN (d : Nat) (w : World) (x0 y0 : Int) (x1 y1 : Int) (x2 y2 : Int) :
  (Op.equalIn (d + 2) 44 (.agg #[.int .i64 x0, .int .i64 x1, .int .i64 x2]) (.agg #[.int .i64 y0, .int .i64 y1, .int .i64 y2])).run Try.prog w = .ok (x0 == y0 && (x1 == y1 && (x2 == y2))) w := by
 refine eqA_of Try.underlying44 (by kernel_rfl) ?_
 refine eqf_cons (by rfl) (by go_simp; rfl) (by go_simp; rfl) (by go_simp) ?_
 refine eqf_cons (by rfl) (by go_simp; rfl) (by go_simp; rfl) (by go_simp) ?_
 exact eqf_last (by rfl) (by go_simp; rfl) (by go_simp; rfl) (by go_simp)
theorem run_eqN (w : World) (a b : S44) : (Op.equal 44 (encN a) (encN b)).run Try.prog w = .ok (decide (a = b)) w := by
 have h := eqN 9998 w a.f0 b.f0 a.f1 b.f1 a.f2 b.f2
 have e : (a.f0 == b.f0 && (a.f1 == b.f1 && (a.f2 == b.f2))) = decide (a = b) := by
  rw [Bool.eq_iff_iff]
  cases a; cases b
  simp
 rw [e] at h
 simp only [Op.equal, Op.maxDepth, encN]
 exact h
def lookN : List (S44 × Int) → S44 → Nat → Option (Nat × Int)
 | [], _, _ => none
 | (m, v) :: r, n, i => if n = m then some (i, v) else lookN r n (i + 1)
def entsN (es : List MapEntry) (kv : List (S44 × Int)) : Prop := es.map (fun e => (e.key, e.val)) = kv.map (fun p => (encN p.1, Value.int .i64 p.2))
theorem run_askN (w : World) (n : S44) : ∀ (es : List MapEntry) (kv : List (S44 × Int)) (i : Nat), entsN es kv →
  (Instr.findAsking 44 (encN n) es i).run Try.prog w = .ok ((lookN kv n i).map fun p => (p.1, Value.int .i64 p.2)) w
 | [], [], i, _ => by simp [Instr.findAsking, lookN]
 | [], _ :: _, i, h => by simp [entsN] at h
 | _ :: _, [], i, h => by simp [entsN] at h
 | e :: es, (m, v) :: kv, i, h => by
  simp only [entsN, List.map_cons, List.cons.injEq, Prod.mk.injEq] at h
  obtain ⟨⟨h1, h2⟩, h3⟩ := h
  have ih := run_askN w n es kv (i + 1) h3
  simp only [Instr.findAsking, Sem.run_bind, h1, h2, run_eqN, Result.andThen_ok, lookN]
  by_cases hn : n = m
  ·simp [hn]
  ·simp [hn, ih]
theorem run_findN (w : World) (n : S44) (es : List MapEntry) (kv : List (S44 × Int)) (h : entsN es kv) :
  (Instr.findKey 44 (encN n) es).run Try.prog w = .ok ((lookN kv n 0).map fun p => (p.1, Value.int .i64 p.2)) w := by
 cases es with
 | nil =>
  cases kv with
  | nil => simp [Instr.findKey, run_underlying Try.underlying44, Instr.findNow, lookN, Result.andThen]
  | cons p r => simp [entsN] at h
 | cons e r =>
  have h0 := run_askN w n (e :: r) kv 0 h
  have hn : ∀ (k : Value) (d : Array Field), Instr.findNow (.struct d) (encN n) (e :: r) 0 = none := fun _ d => by simp [Instr.findNow, Instr.sameNow]
  simp only [Instr.findKey, Sem.run_bind, run_underlying Try.underlying44, Result.andThen_ok, hn .nilIface]
  exact h0
theorem run_checkN (w : World) (em : Bool) (n : S44) : (Instr.checkKey em 10000 44 (encN n)).run Try.prog w = .ok () w := by
 cases n
 kernel_rfl
theorem run_staysN (w : World) (n : S44) : (Instr.keyThatStays (encN n) (encN n)).run Try.prog w = .ok (encN n) w := by
 have h : Instr.sameBits 10000 (encN n) (encN n) = true := by simp [encN, Instr.sameBits]
 simp [Instr.keyThatStays, h]
theorem zeroN (w : World) : (zeroValue 3).run Try.prog w = .ok (.int .i64 0) w := by kernel_rfl
def MapN (w : World) (b : Nat) (kv : List (S44 × Int)) : Prop :=
 ∃ es clock, w.heap[b]? = some (.map es clock) ∧ entsN es.toList kv ∧ (∀ x ∈ es.toList, x.born < clock) ∧ (es.toList.map (·.born)).Nodup
def cntN (kv : List (S44 × Int)) (n : S44) : Int := ((lookN kv n 0).map (·.2)).getD 0
theorem MapN.look {w : World} {b : Nat} {kv : List (S44 × Int)} (h : MapN w b kv) (n : S44) :
  (Instr.lookup 100 (.map (some b)) (encN n) false).run Try.prog w = .ok (.int .i64 (cntN kv n)) w := by
 obtain ⟨es, clock, hb, he, _, _⟩ := h
 simp only [Instr.lookup, Sem.run_bind, run_underlying Try.underlying100, Result.andThen_ok, MapKept.run_getObj_map hb, Sem.run_pure, run_checkN, run_findN w n es.toList kv he, cntN]
 cases lookN kv n 0 with
 | none => simp [zeroN, Result.andThen]
 | some p => simp [Result.andThen]
def setN : List (S44 × Int) → S44 → Int → List (S44 × Int)
 | [], n, x => [(n, x)]
 | (m, v) :: r, n, x => if n = m then (m, x) :: r else (m, v) :: setN r n x
theorem lookN_shift (kv : List (S44 × Int)) (n : S44) : ∀ i j, (lookN kv n (i + j)) = (lookN kv n i).map fun p => (p.1 + j, p.2) := by
 induction kv with
 | nil => intro i j; rfl
 | cons p r ih =>
  intro i j
  obtain ⟨m, v⟩ := p
  simp only [lookN]
  split
  ·rfl
  ·rw [show i + j + 1 = (i + 1) + j by omega]; exact ih (i + 1) j
theorem cntN_set (kv : List (S44 × Int)) (n : S44) (x : Int) : cntN (setN kv n x) n = x := by
 have key : ∀ i, (lookN (setN kv n x) n i).map (·.2) = some x := by
  induction kv with
  | nil => intro i; simp [setN, lookN]
  | cons p r ih =>
   intro i
   obtain ⟨m, v⟩ := p
   by_cases e : n = m
   ·simp [setN, lookN, e]
   ·simp [setN, lookN, e]; simpa using ih (i + 1)
 simp [cntN, key 0]
theorem setN_new (kv : List (S44 × Int)) (n : S44) (x : Int) (h : n ∉ kv.map (·.1)) : setN kv n x = kv ++ [(n, x)] := by
 induction kv with
 | nil => rfl
 | cons p r ih =>
  obtain ⟨m, v⟩ := p
  simp only [List.map_cons, List.mem_cons, not_or] at h
  simp [setN, h.1, ih h.2]
theorem cntN_ones (l : List S44) (n : S44) : cntN (l.map fun m => (m, (1 : Int))) n = if n ∈ l then 1 else 0 := by
 have key : ∀ i, (lookN (l.map fun m => (m, (1 : Int))) n i).map (·.2) = if n ∈ l then some 1 else none := by
  induction l with
  | nil => intro i; simp [lookN]
  | cons m r ih =>
   intro i
   by_cases e : n = m
   ·simp [lookN, e]
   ·simp [lookN, e]; simpa using ih (i + 1)
 unfold cntN
 rw [key 0]
 split <;> simp
theorem lookN_none {kv : List (S44 × Int)} {n : S44} : ∀ {i}, lookN kv n i = none → ∀ x, setN kv n x = kv ++ [(n, x)] := by
 induction kv with
 | nil => intro i _ x; rfl
 | cons p r ih =>
  intro i h x
  obtain ⟨m, v⟩ := p
  simp only [lookN] at h
  split at h
  ·cases h
  ·rename_i e
   simp [setN, e, ih h x]
theorem lookN_some {n : S44} : ∀ {kv : List (S44 × Int)} {i j : Nat} {v : Int}, lookN kv n i = some (i + j, v) → kv[j]? = some (n, v) ∧ ∀ x, setN kv n x = kv.set j (n, x)
 | [], i, j, v, h => by simp [lookN] at h
 | (m, u) :: r, i, j, v, h => by
  simp only [lookN] at h
  split at h
  ·rename_i e
   simp only [Option.some.injEq, Prod.mk.injEq] at h
   obtain ⟨h1, rfl⟩ := h
   obtain rfl : j = 0 := by omega
   subst e
   exact ⟨rfl, fun x => by simp [setN]⟩
  ·rename_i e
   cases j with
   | zero =>
    exfalso
    rw [lookN_shift r n i 1] at h
    have hs := lookN_shift r n 0 i
    rw [Nat.zero_add] at hs
    rw [hs] at h
    cases hl : lookN r n 0 with
    | none => rw [hl] at h; simp at h
    | some p => rw [hl] at h; simp at h; omega
   | succ j =>
    have h' : lookN r n (i + 1) = some (i + 1 + j, v) := by rw [h]; simp; omega
    obtain ⟨a, b⟩ := lookN_some h'
    exact ⟨by simpa using a, fun x => by simp [setN, e, b x]⟩
theorem lookN_form {kv : List (S44 × Int)} {n : S44} {j : Nat} {v : Int} (h : lookN kv n 0 = some (j, v)) : kv[j]? = some (n, v) ∧ ∀ x, setN kv n x = kv.set j (n, x) :=
 lookN_some (i := 0) (by simpa using h)
theorem findIdx_bornN {l : List MapEntry} (hn : (l.map (·.born)).Nodup) {j : Nat} {e0 : MapEntry} (h : l[j]? = some e0) : l.findIdx? (fun e => ((e.born : Nat) : Int) == ((e0.born : Nat) : Int)) = some j := by
 induction l generalizing j with
 | nil => simp at h
 | cons a r ih =>
  simp only [List.map_cons, List.nodup_cons] at hn
  cases j with
  | zero =>
   simp only [List.getElem?_cons_zero, Option.some.injEq] at h
   subst h
   simp [List.findIdx?_cons]
  | succ j =>
   simp only [List.getElem?_cons_succ] at h
   have hne : a.born ≠ e0.born := fun e1 => hn.1 (List.mem_map.2 ⟨e0, List.mem_of_getElem? h, e1.symm⟩)
   have hb : (((a.born : Nat) : Int) == ((e0.born : Nat) : Int)) = false := by
    simp only [beq_eq_false_iff_ne, ne_eq, Int.natCast_inj]
    exact hne
   rw [List.findIdx?_cons, hb]
   simp [ih hn.2 h]
theorem findIdxArrN (xs : Array MapEntry) (p : MapEntry → Bool) : xs.findIdx? p = xs.toList.findIdx? p := by
 cases xs
 simp
theorem heapSetN {w : World} {b : Nat} {o o' : Obj} (hb : w.heap[b]? = some o) : (ChangeMaps.setBlock w b o').heap[b]? = some o' := by
 have := (Array.getElem?_eq_some_iff.1 hb).1
 simp [ChangeMaps.setBlock, this]
theorem run_storeN {W : World} {b : Nat} {es : Array MapEntry} {clock st i : Nat} (x : Int) (hb : W.heap[b]? = some (.map es clock)) (hi : es.findIdx? (fun e => ((e.born : Nat) : Int) == ((st : Nat) : Int)) = some i) :
  (Instr.entryStore 100 (.map (some b)) (.int .i64 (st : Int)) (.int .i64 x)).run Try.prog W = .ok () (ChangeMaps.setBlock W b (.map (es.modify i (fun e => { e with val := .int .i64 x })) clock)) := by
 simp [Instr.entryStore, MapKept.run_getObj_map hb, asInt, asIntOf, hi, MapKept.run_setObj_map _ hb, Result.andThen, ChangeMaps.setBlock]
theorem MapN.entry {w : World} {b : Nat} {kv : List (S44 × Int)} (h : MapN w b kv) (n : S44) :
  ∃ (st : Nat) (o1 : Obj), (Instr.mapEntry 100 (.map (some b)) (encN n)).run Try.prog w = .ok (.tuple #[.int .i64 (cntN kv n), .int .i64 (st : Int)]) (ChangeMaps.setBlock w b o1) ∧
   MapN (ChangeMaps.setBlock w b o1) b (setN kv n (cntN kv n)) ∧
   ∀ x : Int, ∃ o2 : Obj, (Instr.entryStore 100 (.map (some b)) (.int .i64 (st : Int)) (.int .i64 x)).run Try.prog (ChangeMaps.setBlock w b o1) = .ok () (ChangeMaps.setBlock (ChangeMaps.setBlock w b o1) b o2) ∧
    MapN (ChangeMaps.setBlock (ChangeMaps.setBlock w b o1) b o2) b (setN kv n x) := by
 obtain ⟨es, clock, hb, he, hlt, hnd⟩ := h
 have hf := run_findN w n es.toList kv he
 cases hl : lookN kv n 0 with
 | none =>
  rw [hl] at hf
  have hset := lookN_none hl
  have hc : cntN kv n = 0 := by simp [cntN, hl]
  have hnd' : ((es.push ⟨encN n, .int .i64 0, clock⟩).toList.map (·.born)).Nodup := by
   simp only [Array.toList_push, List.map_append, List.map_cons, List.map_nil]
   refine List.nodup_append.2 ⟨hnd, by simp, fun a ha c hc e1 => ?_⟩
   simp only [List.mem_singleton] at hc
   obtain ⟨x, hx, rfl⟩ := List.mem_map.1 ha
   have := hlt x hx
   omega
  have hb1 := heapSetN (o' := .map (es.push ⟨encN n, .int .i64 0, clock⟩) (clock + 1)) hb
  refine ⟨clock, .map (es.push ⟨encN n, .int .i64 0, clock⟩) (clock + 1), ?_, ?_, fun x => ⟨.map (es.push ⟨encN n, .int .i64 x, clock⟩) (clock + 1), ?_, ?_⟩⟩
  ·rw [hc]
   simp [Instr.mapEntry, run_underlying Try.underlying100, MapKept.run_getObj_map hb, run_checkN, hf, zeroN, MapKept.run_setObj_map _ hb, Result.andThen, ChangeMaps.setBlock, goInt]
  ·refine ⟨_, _, hb1, ?_, ?_, hnd'⟩
   ·rw [hset, hc]
    simp only [entsN, Array.toList_push, List.map_append] at he ⊢
    rw [he]; rfl
   ·intro y hy
    simp only [Array.toList_push, List.mem_append, List.mem_singleton] at hy
    rcases hy with hy | rfl
    ·exact Nat.lt_succ_of_lt (hlt y hy)
    ·exact Nat.lt_succ_self _
  ·have hidx : (es.push ⟨encN n, .int .i64 0, clock⟩).findIdx? (fun e => ((e.born : Nat) : Int) == ((clock : Nat) : Int)) = some es.size := by
    rw [findIdxArrN]
    exact findIdx_bornN (e0 := ⟨encN n, .int .i64 0, clock⟩) hnd' (by simp)
   have hmod : (es.push ⟨encN n, .int .i64 0, clock⟩).modify es.size (fun e => { e with val := .int .i64 x }) = es.push ⟨encN n, .int .i64 x, clock⟩ := by
    apply Array.ext
    ·simp
    ·intro j h1 h2
     simp only [Array.getElem_modify, Array.getElem_push]
     by_cases hj : j < es.size
     ·have : es.size ≠ j := by omega
      simp [hj, this]
     ·have : es.size = j := by simp at h1; omega
      simp [this]
   rw [run_storeN x hb1 hidx, hmod]
  ·refine ⟨_, _, heapSetN hb1, ?_, ?_, ?_⟩
   ·rw [hset]
    simp only [entsN, Array.toList_push, List.map_append] at he ⊢
    rw [he]; rfl
   ·intro y hy
    simp only [Array.toList_push, List.mem_append, List.mem_singleton] at hy
    rcases hy with hy | rfl
    ·exact Nat.lt_succ_of_lt (hlt y hy)
    ·exact Nat.lt_succ_self _
   ·simpa using hnd'
 | some p =>
  obtain ⟨j, v⟩ := p
  rw [hl] at hf
  obtain ⟨hkv, hset⟩ := lookN_form hl
  have hc : cntN kv n = v := by simp [cntN, hl]
  have hjk : j < kv.length := (List.getElem?_eq_some_iff.1 hkv).1
  have hlen : es.toList.length = kv.length := by simpa [entsN] using congrArg List.length he
  have hjl : j < es.size := by rw [← Array.length_toList]; omega
  obtain ⟨e0, hj⟩ : ∃ e0, es[j]? = some e0 := ⟨_, Array.getElem?_eq_getElem hjl⟩
  have hj' : es.toList[j]? = some e0 := by simpa using hj
  have hej : es[j] = e0 := by rw [Array.getElem?_eq_getElem hjl] at hj; exact Option.some.inj hj
  have hkj : kv[j] = (n, v) := by rw [List.getElem?_eq_getElem hjk] at hkv; exact Option.some.inj hkv
  have hev : e0.key = encN n ∧ e0.val = .int .i64 v := by
   have h1 := congrArg (fun l => l[j]?) he
   simp only [List.getElem?_map, hj', hkv, Option.map_some, Option.some.injEq, Prod.mk.injEq] at h1
   exact h1
  have hsame : es.modify j (fun e => { e with key := encN n }) = es := by
   apply Array.ext
   ·simp
   ·intro i h1 h2
    rw [Array.getElem_modify]
    split
    ·rename_i hij
     subst hij
     have : es[j] = e0 := by rw [Array.getElem?_eq_getElem hjl] at hj; exact Option.some.inj hj
     rw [this, ← hev.1]
    ·rfl
  have hb1 := heapSetN (o' := .map es clock) hb
  have hself : entsN es.toList (setN kv n v) := by
   rw [hset]
   have : kv.set j (n, v) = kv := by
    apply List.ext_getElem?
    intro i
    rw [List.getElem?_set]
    split
    ·rename_i hij
     subst hij
     simp [hjk, hkj]
    ·rfl
   rw [this]; exact he
  refine ⟨e0.born, .map es clock, ?_, ?_, fun x => ⟨.map (es.modify j (fun e => { e with val := .int .i64 x })) clock, ?_, ?_⟩⟩
  ·rw [hc]
   simp [Instr.mapEntry, run_underlying Try.underlying100, MapKept.run_getObj_map hb, run_checkN, hf, hj, hev.1, run_staysN, hsame, MapKept.run_setObj_map _ hb, Result.andThen, ChangeMaps.setBlock, goInt]
  ·exact ⟨_, _, hb1, by rw [hc]; exact hself, hlt, hnd⟩
  ·have hidx : es.findIdx? (fun e => ((e.born : Nat) : Int) == ((e0.born : Nat) : Int)) = some j := by
    rw [findIdxArrN]
    exact findIdx_bornN hnd hj'
   exact run_storeN x hb1 hidx
  ·have hml : (es.modify j (fun e => { e with val := Value.int .i64 x })).toList = es.toList.set j { e0 with val := .int .i64 x } := by
    apply List.ext_getElem?
    intro i
    rw [Array.getElem?_toList, Array.getElem?_modify, List.getElem?_set]
    split
    ·rename_i hij
     subst hij
     simp [hej, hjl]
    ·simp
   refine ⟨_, _, heapSetN hb1, ?_, ?_, ?_⟩
   ·rw [hml, hset]
    simp only [entsN] at he ⊢
    rw [List.map_set, List.map_set, he, hev.1]
   ·intro y hy
    rw [hml] at hy
    rcases List.mem_or_eq_of_mem_set hy with hy | rfl
    ·exact hlt y hy
    ·exact hlt e0 (List.mem_of_getElem? hj')
   ·rw [hml, List.map_set]
    have : (es.toList.map (·.born)).set j e0.born = es.toList.map (·.born) := by
     apply List.ext_getElem?
     intro i
     rw [List.getElem?_set]
     split
     ·rename_i hij
      subst hij
      simp [hej, hjl]
     ·rfl
    rw [show ({ e0 with val := Value.int .i64 x } : MapEntry).born = e0.born from rfl, this]
    exact hnd
/-! #### what PoolOk answers -/
theorem nodeOk_total (a b c i : Int) : ∃ r, impl_nodeOk.f 1 a b c i = some r := by
 have hc : ∃ q, impl_count.f 1 a = some q := by
  unfold impl_count.f
  simp only [impl_count.j0]
  repeat' split
  all_goals exact ⟨_, rfl⟩
 have hr : ∀ x y z : Int, ∃ q, impl_inRange.f x y z = some q := fun x y z => by
  unfold impl_inRange.f
  split <;> exact ⟨_, rfl⟩
 obtain ⟨q, hq⟩ := hc
 obtain ⟨q1, h1⟩ := hr b 0 199
 obtain ⟨q2, h2⟩ := hr b 0 (wrap64 (i - 1))
 obtain ⟨q3, h3⟩ := hr c 0 (wrap64 (i - 1))
 unfold impl_nodeOk.f
 rw [hq, h1, h2, h3]
 simp only [Option.bind_some]
 repeat' split
 all_goals exact ⟨_, rfl⟩
def nodeOkB (n : S44) (i : Int) : Bool := (impl_nodeOk.f 1 n.f0 n.f1 n.f2 i).getD false
theorem nodeOk_at (n : S44) (i : Int) : impl_nodeOk.f 1 n.f0 n.f1 n.f2 i = some (nodeOkB n i) := by
 obtain ⟨r, h⟩ := nodeOk_total n.f0 n.f1 n.f2 i
 simp [nodeOkB, h]
def okStep (l : List S44) (i : Nat) : Bool := decide (rd_T44 l i ∉ l.take i) && nodeOkB (rd_T44 l i) i
def okFrom (l : List S44) : Nat → Nat → Bool
 | 0, _ => true
 | d + 1, i => okStep l i && okFrom l d (i + 1)
def poolOkB (l : List S44) : Bool := decide (l.length ≤ 500) && okFrom l l.length 0
def impl_PoolOk.f (l0_0 : List S44) : Option Bool := some (poolOkB l0_0)
theorem below_setBlock {B : Nat} {w W : World} (h : Below B w W) {b : Nat} (hb : B ≤ b) (o : Obj) : Below B w (ChangeMaps.setBlock W b o) :=
 h.trans ⟨rfl, rfl, rfl, by simp [ChangeMaps.setBlock], fun i hi => by
  have : b ≠ i := by omega
  simp [ChangeMaps.setBlock, this]⟩
theorem cell_setBlock (W : World) (b : Nat) (o : Obj) (a : Addr) (h : a.block ≠ b) : (ChangeMaps.setBlock W b o).cell? a = W.cell? a := by
 simp [World.cell?, ChangeMaps.setBlock, Ne.symm h]
theorem MapN.of_heap {w w' : World} {b : Nat} {kv : List (S44 × Int)} (h : MapN w b kv) (e : w'.heap[b]? = w.heap[b]?) : MapN w' b kv := by
 obtain ⟨es, clock, h1, h2⟩ := h
 exact ⟨es, clock, e.trans h1, h2⟩
set_option maxHeartbeats 8000000 in
set_option maxRecDepth 100000 in
theorem impl_PoolOk.calls (A0_0 : Option Addr) (c0_0 : Nat) (l0_0 : List S44) (r : Bool) (w : World) (hr0_0 : Kd.C k44 w A0_0 l0_0.length l0_0) (hc0_0 : l0_0.length ≤ c0_0) (h : impl_PoolOk.f l0_0 = some r) :
  Calls Try.prog 52 #[.agg #[.slice A0_0 l0_0.length c0_0]] w fun e w' => e = .returned (.bool r) ∧ Below w.heap.size w w' := by
 have HR := Aside0.mk hr0_0
 have HF := Aside0.mk (Option.some.inj h)
 clear hr0_0 h hc0_0
 have hu29 := Try.underlying30
 have hu67 := Try.underlying44
 have hmm := @run_makeMap Try.prog
 by_cases hbig : (l0_0.length : Int) > 500
 ·have hb0 : decide (500 < (l0_0.length : Int)) = true := by simpa using hbig
  have hb1 : decide (500 < l0_0.length) = true := by simp; omega
  have HV : Aside0 (r = false) := ⟨by rw [← HF.out]; simp [poolOkB]; omega⟩
  clear hbig HF
  obtain rfl := HV.out
  go_enter Try.func52, Try.ntmps52
  go_wp2
  go_ret
  exact ⟨rfl, (Below.refl _ _).alloc (Nat.le_refl _) _⟩
 ·have hb0 : decide (500 < (l0_0.length : Int)) = false := by simpa using hbig
  have hb1 : decide (500 < l0_0.length) = false := by simp; omega
  have HL := Aside0.mk (show l0_0.length ≤ 500 by omega)
  have HV := Aside0.mk (show okFrom l0_0 l0_0.length 0 = r by rw [← HF.out]; simp [poolOkB]; omega)
  clear hbig HF
  go_enter Try.func52, Try.ntmps52
  go_wp2
  go_loopw [14] (fun v wr => ∃ i : Nat, v = .int .i64 i ∧ Aside0 (i ≤ l0_0.length) ∧ Aside0 (okFrom l0_0 (l0_0.length - i) i = r) ∧ Aside0 (MapN wr (w.heap.size + 1) ((l0_0.take i).map fun m => (m, (1 : Int)))) ∧ Aside0 (Below w.heap.size w wr) ∧ Aside0 (w.heap.size + 1 < wr.heap.size)) (fun v _ => l0_0.length - (intOf v).toNat)
  case atStart =>
   refine ⟨0, rfl, ⟨Nat.zero_le _⟩, ⟨HV.out⟩, ⟨⟨#[], 0, ?_, rfl, by simp, by simp⟩⟩, ⟨((Below.refl _ _).alloc (Nat.le_refl _) _).alloc (by simp) _⟩, ⟨by simp⟩⟩
   have h_ := (MapKept.heap_alloc (w.alloc (.cells #[Value.slice A0_0 l0_0.length c0_0] 30)) (.map #[] 0)).1
   simpa using h_
  case round =>
   obtain ⟨i, rfl, HI, HR1, HM, HB, HZ⟩ := hrel
   by_cases hlt : i < l0_0.length
   ·have hle := HL.out
    obtain ⟨ad, rfl, h0, h1, h2⟩ := at_T44 (Kd.C_below HR.out HB.out) (i : Int) (by omega) (by omega)
    simp only [Int.toNat_natCast] at h0 h1 h2
    obtain ⟨n, hn⟩ : ∃ n, rd_T44 l0_0 (i : Int) = n := ⟨_, rfl⟩
    rw [hn] at h0 h1 h2
    have Hn := Aside0.mk hn
    clear hn
    go_wp2
    obtain ⟨W, hW⟩ : ∃ W, wr.alloc (.cells #[.int .i64 n.f0, .int .i64 n.f1, .int .i64 n.f2] 44) = W := ⟨_, rfl⟩
    have hWb : W.heap[wr.heap.size]? = some (.cells #[.int .i64 n.f0, .int .i64 n.f1, .int .i64 n.f2] 44 (0, 0)) := by rw [← hW]; exact (MapKept.heap_alloc _ _).1
    have hMW : MapN W (w.heap.size + 1) ((l0_0.take i).map fun m => (m, (1 : Int))) := HM.out.of_heap (by rw [← hW]; exact (MapKept.heap_alloc wr _).2 _ HZ.out)
    have HBW := Aside0.mk (show Below w.heap.size w W by rw [← hW]; exact HB.out.alloc HB.out.size _)
    have HZW := Aside0.mk (show w.heap.size + 1 < W.heap.size by rw [← hW]; have := HZ.out; simp; omega)
    have HNE := Aside0.mk (show wr.heap.size ≠ w.heap.size + 1 by have := HZ.out; omega)
    rw [hW]
    clear hW HM HB h0 h1 h2
    obtain ⟨st, o1, e2, hM1, hst⟩ := MapN.entry (w := W.drew) hMW n
    have e1 := MapN.look (w := W.drew) hMW n
    have e3 := hM1.look n
    rw [cntN_set] at e3
    have c0 : W.cell? ⟨wr.heap.size, 0, none⟩ = some (.int .i64 n.f0) := (blk_cell hWb 0).trans rfl
    have c1 : W.cell? ⟨wr.heap.size, 1, none⟩ = some (.int .i64 n.f1) := (blk_cell hWb 1).trans rfl
    have c2 : W.cell? ⟨wr.heap.size, 2, none⟩ = some (.int .i64 n.f2) := (blk_cell hWb 2).trans rfl
    have d0 := (cell_setBlock W.drew (w.heap.size + 1) o1 ⟨wr.heap.size, 0, none⟩ HNE.out).trans c0
    have d1 := (cell_setBlock W.drew (w.heap.size + 1) o1 ⟨wr.heap.size, 1, none⟩ HNE.out).trans c1
    have d2 := (cell_setBlock W.drew (w.heap.size + 1) o1 ⟨wr.heap.size, 2, none⟩ HNE.out).trans c2
    have HB1 := Aside0.mk (below_setBlock (below_drew HBW.out) (b := w.heap.size + 1) (by omega) o1)
    have HZ1 := Aside0.mk (show w.heap.size + 1 < (ChangeMaps.setBlock W.drew (w.heap.size + 1) o1).heap.size by have := HZW.out; simpa [ChangeMaps.setBlock] using this)
    rw [cntN_ones] at e1 e2 e3 hM1
    obtain ⟨W1, hW1⟩ : ∃ W1, ChangeMaps.setBlock W.drew (w.heap.size + 1) o1 = W1 := ⟨_, rfl⟩
    rw [hW1] at e2 e3 d0 d1 d2 hM1 hst HB1 HZ1
    clear hW1 hWb hMW
    have key : ∀ x : Int, ∃ W2, (Instr.entryStore 100 (.map (some (w.heap.size + 1))) (.int .i64 (st : Int)) (.int .i64 x)).run Try.prog W1 = .ok () W2 ∧ MapN W2 (w.heap.size + 1) (setN ((l0_0.take i).map fun m => (m, (1 : Int))) n x) ∧ Below w.heap.size w W2 ∧ w.heap.size + 1 < W2.heap.size ∧
      W2.cell? ⟨wr.heap.size, 0, none⟩ = some (.int .i64 n.f0) ∧ W2.cell? ⟨wr.heap.size, 1, none⟩ = some (.int .i64 n.f1) ∧ W2.cell? ⟨wr.heap.size, 2, none⟩ = some (.int .i64 n.f2) := fun x => by
     obtain ⟨o2, e4, hM2⟩ := hst x
     exact ⟨_, e4, hM2, below_setBlock HB1.out (by omega) _, by have := HZ1.out; simpa [ChangeMaps.setBlock] using this, (cell_setBlock W1 (w.heap.size + 1) o2 ⟨wr.heap.size, 0, none⟩ HNE.out).trans d0, (cell_setBlock W1 (w.heap.size + 1) o2 ⟨wr.heap.size, 1, none⟩ HNE.out).trans d1, (cell_setBlock W1 (w.heap.size + 1) o2 ⟨wr.heap.size, 2, none⟩ HNE.out).trans d2⟩
    clear hst
    by_cases hmem : n ∈ l0_0.take i
    ·have HF : Aside0 (false = r) := ⟨by
      have h_ := HR1.out
      obtain ⟨d, hd⟩ : ∃ d, l0_0.length - i = d + 1 := ⟨l0_0.length - i - 1, by omega⟩
      rw [hd] at h_
      simp only [okFrom, okStep, Hn.out] at h_
      rw [← h_]
      simp [hmem]⟩
     clear HR1
     obtain rfl := HF.out
     rw [if_pos hmem] at e1 e2 e3 hM1
     obtain ⟨W2, e4, hM2, hB2, _, f0, f1, f2⟩ := key 2
     have e5 := hM2.look n
     rw [cntN_set] at e5
     have HB2 := Aside0.mk hB2
     clear key hM1 hM2 hB2 hmem HF
     simp only [encN] at e1 e2 e3 e5
     have b2 : decide ((1 : Int) < 2) = true := rfl
     go_region
     all_goals go_wp2
     all_goals go_ret
     all_goals exact ⟨rfl, HB2.out⟩
    ·rw [if_neg hmem] at e1 e2 e3 hM1
     obtain ⟨W2, e4, hM2, hB2, hZ2, f0, f1, f2⟩ := key 1
     have e5 := hM2.look n
     rw [cntN_set] at e5
     have HB2 := Aside0.mk hB2
     have HZ2 := Aside0.mk hZ2
     have HM2 := Aside0.mk (show MapN W2 (w.heap.size + 1) ((l0_0.take (i + 1)).map fun m => (m, (1 : Int))) by
      rw [setN_new _ _ _ (by simp only [List.map_map]; rw [show ((fun x : S44 × Int => x.1) ∘ fun m => (m, (1 : Int))) = id from rfl, List.map_id]; exact hmem)] at hM2
      have hl : l0_0[i] = n := by rw [← Hn.out]; simp [rd_T44, hlt]
      rw [List.take_succ_eq_append_getElem hlt, hl]
      simpa using hM2)
     have HS := Aside0.mk (show okFrom l0_0 (l0_0.length - i) i = (nodeOkB n i && okFrom l0_0 (l0_0.length - (i + 1)) (i + 1)) by
      obtain ⟨d, hd⟩ : ∃ d, l0_0.length - i = d + 1 := ⟨l0_0.length - i - 1, by omega⟩
      rw [hd, show l0_0.length - (i + 1) = d by omega]
      simp only [okFrom, okStep, Hn.out]
      simp [hmem])
     have HC := Aside0.mk (nodeOk_at n i)
     clear key hM1 hM2 hB2 hZ2 hmem
     simp only [encN] at e1 e2 e3 e5
     have b2 : decide ((1 : Int) < 1) = false := rfl
     obtain ⟨q, hq⟩ : ∃ q, nodeOkB n i = q := ⟨_, rfl⟩
     rw [hq] at HS HC
     clear hq
     cases q with
     | false =>
      have HF : Aside0 (false = r) := ⟨by rw [← HR1.out, HS.out]; rfl⟩
      clear HR1 HS
      obtain rfl := HF.out
      go_region
      all_goals go_wp2_with (go_at_call 85; (with_reducible refine (impl_nodeOk.calls 1 n.f0 n.f1 n.f2 (i : Int) false _ HC.out).mono ?_); rintro e w' ⟨rfl, hb⟩; have HB3 := Aside0.mk hb; clear hb)
      all_goals go_ret
      all_goals exact ⟨rfl, below_then HB2.out HB2.out.size HB3.out⟩
     | true =>
      have HR2 : Aside0 (okFrom l0_0 (l0_0.length - (i + 1)) (i + 1) = r) := ⟨by rw [← HR1.out, HS.out]; rfl⟩
      clear HR1 HS
      go_region
      all_goals go_wp2_with (go_at_call 85; (with_reducible refine (impl_nodeOk.calls 1 n.f0 n.f1 n.f2 (i : Int) true _ HC.out).mono ?_); rintro e w' ⟨rfl, hb⟩; have HB3 := Aside0.mk hb; clear hb)
      all_goals go_roundw
      case rel => exact ⟨i + 1, rfl, ⟨hlt⟩, ⟨HR2.out⟩, ⟨HM2.out.of_heap (HB3.out.block _ HZ2.out)⟩, ⟨below_then HB2.out HB2.out.size HB3.out⟩, ⟨Nat.lt_of_lt_of_le HZ2.out HB3.out.size⟩⟩
      case measure => simp [intOf]; omega
   ·have : i = l0_0.length := by have := HI.out; omega
    subst this
    have HF : Aside0 (true = r) := ⟨by have := HR1.out; rwa [Nat.sub_self] at this⟩
    clear HR1
    obtain rfl := HF.out
    go_wp2
    go_ret
    exact ⟨rfl, HB.out⟩


end Go.Proofs.Ytdgahpigcaejbaa.E
end

section
-- Written by this session's program (wip/tools/gprint.py over the kit's print) out of the translation; Lean checks it.
namespace Go.Proofs.Ytdgahpigcaejbaa.E
open Go.RowKit Go.Proofs.YtdgahpigcaejbaaW.PrintWords Go.Proofs.YtdgahpigcaejbaaW.PrintLast Go.Proofs.YtdgahpigcaejbaaW.PrintMore
attribute [local go_sem] max2_int min2_int max_two min_two max_three min_three max_four min_four   -- for this text's walks alone
set_option linter.unusedVariables false
set_option linter.unusedSimpArgs false
set_option maxRecDepth 100000

attribute [local go_sem high] eqA44
/-! ### impl_KnowOk: function 56 -/
def impl_KnowOk.l0 : Nat → List Int → List Int → Int → Int → List (S44) → Option (Bool)
 | 0, _, _, _, _, _ => none
 | k + 1, x1, x7, x8, x9, x273000 => if x9 < x8 then (if 0 ≤ x9 then (if x9 < (x7.length : Int) then ((impl_Pool_isTerm.f x273000 (rd x7 x9)).bind fun t274 => (if t274 = true then (if x9 > 0 then (if 0 ≤ (wrap64 (x9 - 1)) then (if (wrap64 (x9 - 1)) < (x1.length : Int) then (if (rd x7 x9) ≤ (rd x1 (wrap64 (x9 - 1))) then (some false) else (impl_KnowOk.l0 k x1 x7 x8 (wrap64 (x9 + 1)) x273000)) else (none)) else (none)) else (impl_KnowOk.l0 k x1 x7 x8 (wrap64 (x9 + 1)) x273000)) else (some false))) else (none)) else (none)) else (if (x1.length : Int) ≤ 200 then ((impl_PoolOk.f x273000).bind fun t276 => (some t276)) else (some false))
def impl_KnowOk.f (k : Nat) (l0_0 : List (S44)) (l1 : List Int) : Option (Bool) := impl_KnowOk.l0 k l1 l1 (l1.length : Int) 0 l0_0
theorem impl_KnowOk.mono_l : ∀ k, (∀ y0 y1 y2 y3 y4, LeO (impl_KnowOk.l0 k y0 y1 y2 y3 y4) (impl_KnowOk.l0 (k + 1) y0 y1 y2 y3 y4))
 | 0 => fun _ _ _ _ _ r h => by simp [impl_KnowOk.l0] at h
 | k + 1 => by
  have ih0 := impl_KnowOk.mono_l k
  ·intro y0 y1 y2 y3 y4
   unfold impl_KnowOk.l0
   repeat' first
   | (with_reducible exact ih0 _ _ _ _ _)
   | (with_reducible exact LeO.refl _)
   | (with_reducible exact LeO.none _)
   | (with_reducible refine LeO.ite ?_ ?_)
   | (with_reducible refine LeO.bind ?_ (fun _ => ?_))
   | exact ih0 _ _ _ _ _
   | exact LeO.none _
   | refine LeO.ite ?_ ?_
   | refine LeO.bind ?_ (fun _ => ?_)
theorem impl_KnowOk.mono : ∀ a0 a1 k, LeO (impl_KnowOk.f k a0 a1) (impl_KnowOk.f (k + 1) a0 a1) := by
 intro a0 a1 k
 have ih0 := impl_KnowOk.mono_l k
 unfold impl_KnowOk.f
 repeat' first
   | (with_reducible exact ih0 _ _ _ _ _)
   | (with_reducible exact LeO.refl _)
   | (with_reducible exact LeO.none _)
   | (with_reducible refine LeO.ite ?_ ?_)
   | (with_reducible refine LeO.bind ?_ (fun _ => ?_))
   | exact ih0 _ _ _ _ _
   | exact LeO.none _
   | refine LeO.ite ?_ ?_
   | refine LeO.bind ?_ (fun _ => ?_)
set_option maxHeartbeats 8000000 in
set_option maxRecDepth 100000 in
theorem impl_KnowOk.calls (k : Nat) (A0_0 : Option Addr) (c0_0 : Nat) (l0_0 : List (S44)) (A1 : Option Addr) (c1 : Nat) (l1 : List Int) (r : Bool) (w : World) (hr0_0 : Kd.C k44 w A0_0 l0_0.length l0_0) (hc0_0 : l0_0.length ≤ c0_0) (hr1 : Kd.C (Kd.int .i64) w A1 l1.length l1) (hc1 : l1.length ≤ c1) (h : impl_KnowOk.f k l0_0 l1 = some r) :
  Calls Try.prog 56 #[.agg #[.slice A0_0 l0_0.length c0_0], .slice A1 l1.length c1] w fun e w' => e = .returned (.bool r) ∧ Below w.heap.size w w' := by
 have hu30 := Try.underlying30
 have HR0_0 := Aside0.mk hr0_0
 have HC0_0 := Aside0.mk hc0_0
 clear hr0_0 hc0_0
 have HR1 := Aside0.mk hr1
 have HC1 := Aside0.mk hc1
 clear hr1 hc1
 have HB := Aside0.mk (Below.refl w.heap.size w)
 have H : (impl_KnowOk.l0 k l1 l1 (l1.length : Int) 0 l0_0) = some r := h
 clear h
 have H' := Aside0.mk H
 clear H
 go_enter Try.func56, Try.ntmps56
 go_wp2_with (first | ((with_reducible refine gate_dst (N := 2) rfl ?_); refine box_event ?hg (N := 2) ?hd (cs := #[.slice A0_0 l0_0.length c0_0]) (t := 30) ?hr ?_; (case hd => rfl); (case hg => rfl); (case hr => first | (go_simp; done) | (go_simp; rfl)); intro gb272 hg w3 hbox hb; have n0_ := Aside0.mk (below_step (zb HB.out) hb); have n1_ := Aside0.mk (hbox); have n2_ := Aside0.mk ((by rw [hg]; exact (below_size (zb HB.out)) : w.heap.size ≤ gb272)); have n3_ := Aside0.mk ((by rw [hg]; exact (below_size (zb HB.out)) : w.heap.size ≤ gb272)); clear HB; have HB := n0_; have BK272 := n1_; have GW272 := n2_; have GE272 := n3_; clear n0_ n1_ n2_ n3_; clear hb hbox hg))
 go_loopg [9] k (fun kq v9 w' => ∃ (x9_1 : Int), v9 = .int .i64 x9_1 ∧ Aside0 (impl_KnowOk.l0 kq l1 l1 (l1.length : Int) x9_1 l0_0 = some r) ∧ Aside0 (kq ≤ k) ∧ Aside0 (w'.heap[gb272]? = some (.cells #[(.slice A0_0 l0_0.length c0_0)] 30 (0, 0))) ∧ Aside0 (Below w.heap.size w w'))
 case atStart => exact ⟨(0), (by first | rfl | (simp; done) | (simp [*]; done)), H', ⟨Nat.le_refl _⟩, ⟨zh BK272.out⟩, ⟨zb HB.out⟩⟩
 case round =>
  clear H'
  try clear c1
  try clear p2
  obtain ⟨x9_1, rfl, HA, HK1, BK272, HB⟩ := hrel
  cases gk with
  | zero => exact absurd HA.out (by simp [impl_KnowOk.l0])
  | succ k1 =>
   have H := HA.out
   clear HA
   simp only [impl_KnowOk.l0] at H
   by_cases c4 : x9_1 < (l1.length : Int)
   ·rw [if_pos c4] at H
    have c4b0 : decide (x9_1 < (l1.length : Int)) = true := decide_eq_true c4
    clear c4
    by_cases c5 : 0 ≤ x9_1
    ·rw [if_pos c5] at H
     have c5b0 : decide (0 ≤ x9_1) = true := decide_eq_true c5
     clear c5
     by_cases c6 : x9_1 < (l1.length : Int)
     ·rw [if_pos c6] at H
      have c6b0 : decide (x9_1 < (l1.length : Int)) = true := decide_eq_true c6
      clear c6
      replace H := Option.bind_eq_some_iff.mp H
      obtain ⟨t274, A70, H⟩ := H
      replace H : (if t274 = true then (if x9_1 > 0 then (if 0 ≤ (wrap64 (x9_1 - 1)) then (if (wrap64 (x9_1 - 1)) < (l1.length : Int) then (if (rd l1 x9_1) ≤ (rd l1 (wrap64 (x9_1 - 1))) then (some false) else (impl_KnowOk.l0 k1 l1 l1 (l1.length : Int) (wrap64 (x9_1 + 1)) l0_0)) else (none)) else (none)) else (impl_KnowOk.l0 k1 l1 l1 (l1.length : Int) (wrap64 (x9_1 + 1)) l0_0)) else (some false)) = some r := H
      have A7 := Aside0.mk A70
      clear A70
      by_cases c8 : t274 = true
      ·subst c8
       have H1 : (if x9_1 > 0 then (if 0 ≤ (wrap64 (x9_1 - 1)) then (if (wrap64 (x9_1 - 1)) < (l1.length : Int) then (if (rd l1 x9_1) ≤ (rd l1 (wrap64 (x9_1 - 1))) then (some false) else (impl_KnowOk.l0 k1 l1 l1 (l1.length : Int) (wrap64 (x9_1 + 1)) l0_0)) else (none)) else (none)) else (impl_KnowOk.l0 k1 l1 l1 (l1.length : Int) (wrap64 (x9_1 + 1)) l0_0)) = some r := by rw [if_pos rfl] at H; exact H
       clear H
       have H := H1
       clear H1
       by_cases c9 : x9_1 > 0
       ·rw [if_pos c9] at H
        have c9b0 : decide (0 < x9_1) = true := decide_eq_true c9
        clear c9
        obtain ⟨ji10, hji10⟩ : ∃ j_ : Int, (wrap64 (x9_1 - 1)) = j_ := ⟨_, rfl⟩
        replace H : (if 0 ≤ (ji10) then (if (ji10) < (l1.length : Int) then (if (rd l1 x9_1) ≤ (rd l1 (ji10)) then (some false) else (impl_KnowOk.l0 k1 l1 l1 (l1.length : Int) (wrap64 (x9_1 + 1)) l0_0)) else (none)) else (none)) = some r := by first | (rw [hji10] at H; exact H) | (simp only [hji10] at H ⊢; exact H)
        (try rw [hji10] at A7)
        have hji10w : (IntKind.i64.wrap (x9_1 - 1)) = ji10 := (i64_w _).trans hji10
        by_cases c11 : 0 ≤ (ji10)
        ·rw [if_pos c11] at H
         have c11b0 : decide (0 ≤ (ji10)) = true := decide_eq_true c11
         clear c11
         by_cases c12 : (ji10) < (l1.length : Int)
         ·rw [if_pos c12] at H
          have c12b0 : decide ((ji10) < (l1.length : Int)) = true := decide_eq_true c12
          clear c12
          by_cases c13 : (rd l1 x9_1) ≤ (rd l1 (ji10))
          ·rw [if_pos c13] at H
           have c13b0 : decide ((rd l1 x9_1) ≤ (rd l1 (ji10))) = true := decide_eq_true c13
           clear c13
           obtain rfl := Option.some.inj H
           have p273 : 0 ≤ (x9_1 : Int) := of_decide_eq_true (by first | (with_reducible assumption) | assumption)
           have q273 : x9_1 < (l1.length : Int) := of_decide_eq_true (by first | (with_reducible assumption) | assumption)
           obtain ⟨ad273, e273, hx273_0⟩ := Kd.at_int HR1.out x9_1 p273 q273
           cases e273
           replace hx273_0 := (HB.out.cell (World.block_lt_of_cell? w _ hx273_0)).trans hx273_0
           replace p273 := eq_true p273
           replace q273 := eq_true q273
           go_wp2_with (first | ((with_reducible refine gate_callee (f := 51) rfl ?_); refine goesL_ (some 15) rfl rfl Try.func51 (by kernel_rfl) rfl #[.pointer (some ⟨gb272, 0, none⟩), .int .i64 (rd l1 x9_1)] rfl zl ?_; (with_reducible refine (impl_Pool_isTerm.calls _ A0_0 c0_0 l0_0 (rd l1 x9_1) true _ ?side1 ?side2 ?side3 A7.out).mono ?_); (case side1 => exact zh BK272.out); (case side2 => exact zc (Kd.C_below HR0_0.out HB.out)); (case side3 => exact HC0_0.out); rintro e w14 ⟨rfl, hb⟩; refine ⟨_, rfl, ?_⟩; have n0_ := Aside0.mk (blk_below (zh BK272.out) hb); have n1_ := Aside0.mk (below_step (zb HB.out) hb); clear BK272; clear HB; have BK272 := n0_; have HB := n1_; clear n0_ n1_; (try clear hb); (try clear hb2); (try clear hk); (try clear hi); have p275 : 0 ≤ ((ji10) : Int) := of_decide_eq_true (by first | (with_reducible assumption) | assumption); have q275 : (ji10) < (l1.length : Int) := of_decide_eq_true (by first | (with_reducible assumption) | assumption); obtain ⟨ad275, e275, hx275_0⟩ := Kd.at_int HR1.out (ji10) p275 q275; obtain rfl : ad273 = ad275 := (by injection e275); replace hx275_0 := (HB.out.cell (World.block_lt_of_cell? w _ hx275_0)).trans hx275_0; replace p275 := eq_true p275; replace q275 := eq_true q275))
           go_ret
           exact ⟨by first | rfl | (simp [errW_none, errW_some] <;> rfl) | (simp only [← hji10]; first | rfl | (simp [errW_none, errW_some] <;> rfl)) | (simp [*, errW_none, errW_some] <;> rfl), zb HB.out⟩
          ·rw [if_neg c13] at H
           have c13b0 : decide ((rd l1 x9_1) ≤ (rd l1 (ji10))) = false := decide_eq_false c13
           clear c13
           have H' := Aside0.mk H
           clear H
           have p273 : 0 ≤ (x9_1 : Int) := of_decide_eq_true (by first | (with_reducible assumption) | assumption)
           have q273 : x9_1 < (l1.length : Int) := of_decide_eq_true (by first | (with_reducible assumption) | assumption)
           obtain ⟨ad273, e273, hx273_0⟩ := Kd.at_int HR1.out x9_1 p273 q273
           cases e273
           replace hx273_0 := (HB.out.cell (World.block_lt_of_cell? w _ hx273_0)).trans hx273_0
           replace p273 := eq_true p273
           replace q273 := eq_true q273
           go_wp2_with (first | ((with_reducible refine gate_callee (f := 51) rfl ?_); refine goesL_ (some 15) rfl rfl Try.func51 (by kernel_rfl) rfl #[.pointer (some ⟨gb272, 0, none⟩), .int .i64 (rd l1 x9_1)] rfl zl ?_; (with_reducible refine (impl_Pool_isTerm.calls _ A0_0 c0_0 l0_0 (rd l1 x9_1) true _ ?side1 ?side2 ?side3 A7.out).mono ?_); (case side1 => exact zh BK272.out); (case side2 => exact zc (Kd.C_below HR0_0.out HB.out)); (case side3 => exact HC0_0.out); rintro e w15 ⟨rfl, hb⟩; refine ⟨_, rfl, ?_⟩; have n0_ := Aside0.mk (blk_below (zh BK272.out) hb); have n1_ := Aside0.mk (below_step (zb HB.out) hb); clear BK272; clear HB; have BK272 := n0_; have HB := n1_; clear n0_ n1_; (try clear hb); (try clear hb2); (try clear hk); (try clear hi); have p275 : 0 ≤ ((ji10) : Int) := of_decide_eq_true (by first | (with_reducible assumption) | assumption); have q275 : (ji10) < (l1.length : Int) := of_decide_eq_true (by first | (with_reducible assumption) | assumption); obtain ⟨ad275, e275, hx275_0⟩ := Kd.at_int HR1.out (ji10) p275 q275; obtain rfl : ad273 = ad275 := (by injection e275); replace hx275_0 := (HB.out.cell (World.block_lt_of_cell? w _ hx275_0)).trans hx275_0; replace p275 := eq_true p275; replace q275 := eq_true q275))
           go_roundg k1
           case measure => have := HK1.out; omega
           case rel => exact ⟨(wrap64 (x9_1 + 1)), (by first | rfl | (simp; done) | (simp [*]; done)), H', ⟨by have := HK1.out; omega⟩, ⟨zh BK272.out⟩, ⟨zb HB.out⟩⟩
         ·rw [if_neg c12] at H
          exact absurd H (by simp)
        ·rw [if_neg c11] at H
         exact absurd H (by simp)
       ·rw [if_neg c9] at H
        have c9b0 : decide (0 < x9_1) = false := decide_eq_false c9
        clear c9
        have H' := Aside0.mk H
        clear H
        have p273 : 0 ≤ (x9_1 : Int) := of_decide_eq_true (by first | (with_reducible assumption) | assumption)
        have q273 : x9_1 < (l1.length : Int) := of_decide_eq_true (by first | (with_reducible assumption) | assumption)
        obtain ⟨ad273, e273, hx273_0⟩ := Kd.at_int HR1.out x9_1 p273 q273
        cases e273
        replace hx273_0 := (HB.out.cell (World.block_lt_of_cell? w _ hx273_0)).trans hx273_0
        replace p273 := eq_true p273
        replace q273 := eq_true q273
        go_wp2_with (first | ((with_reducible refine gate_callee (f := 51) rfl ?_); refine goesL_ (some 15) rfl rfl Try.func51 (by kernel_rfl) rfl #[.pointer (some ⟨gb272, 0, none⟩), .int .i64 (rd l1 x9_1)] rfl zl ?_; (with_reducible refine (impl_Pool_isTerm.calls _ A0_0 c0_0 l0_0 (rd l1 x9_1) true _ ?side1 ?side2 ?side3 A7.out).mono ?_); (case side1 => exact zh BK272.out); (case side2 => exact zc (Kd.C_below HR0_0.out HB.out)); (case side3 => exact HC0_0.out); rintro e w16 ⟨rfl, hb⟩; refine ⟨_, rfl, ?_⟩; have n0_ := Aside0.mk (blk_below (zh BK272.out) hb); have n1_ := Aside0.mk (below_step (zb HB.out) hb); clear BK272; clear HB; have BK272 := n0_; have HB := n1_; clear n0_ n1_; (try clear hb); (try clear hb2); (try clear hk); (try clear hi)))
        go_roundg k1
        case measure => have := HK1.out; omega
        case rel => exact ⟨(wrap64 (x9_1 + 1)), (by first | rfl | (simp; done) | (simp [*]; done)), H', ⟨by have := HK1.out; omega⟩, ⟨zh BK272.out⟩, ⟨zb HB.out⟩⟩
      ·replace c8 := Bool.eq_false_iff.mpr c8
       subst c8
       have H1 : (some false) = some r := by rw [if_neg (show ¬ (false = true) by decide)] at H; exact H
       clear H
       have H := H1
       clear H1
       obtain rfl := Option.some.inj H
       have p273 : 0 ≤ (x9_1 : Int) := of_decide_eq_true (by first | (with_reducible assumption) | assumption)
       have q273 : x9_1 < (l1.length : Int) := of_decide_eq_true (by first | (with_reducible assumption) | assumption)
       obtain ⟨ad273, e273, hx273_0⟩ := Kd.at_int HR1.out x9_1 p273 q273
       cases e273
       replace hx273_0 := (HB.out.cell (World.block_lt_of_cell? w _ hx273_0)).trans hx273_0
       replace p273 := eq_true p273
       replace q273 := eq_true q273
       go_wp2_with (first | ((with_reducible refine gate_callee (f := 51) rfl ?_); refine goesL_ (some 15) rfl rfl Try.func51 (by kernel_rfl) rfl #[.pointer (some ⟨gb272, 0, none⟩), .int .i64 (rd l1 x9_1)] rfl zl ?_; (with_reducible refine (impl_Pool_isTerm.calls _ A0_0 c0_0 l0_0 (rd l1 x9_1) false _ ?side1 ?side2 ?side3 A7.out).mono ?_); (case side1 => exact zh BK272.out); (case side2 => exact zc (Kd.C_below HR0_0.out HB.out)); (case side3 => exact HC0_0.out); rintro e w17 ⟨rfl, hb⟩; refine ⟨_, rfl, ?_⟩; have n0_ := Aside0.mk (blk_below (zh BK272.out) hb); have n1_ := Aside0.mk (below_step (zb HB.out) hb); clear BK272; clear HB; have BK272 := n0_; have HB := n1_; clear n0_ n1_; (try clear hb); (try clear hb2); (try clear hk); (try clear hi)))
       go_ret
       exact ⟨ze, zb HB.out⟩
     ·rw [if_neg c6] at H
      exact absurd H (by simp)
    ·rw [if_neg c5] at H
     exact absurd H (by simp)
   ·rw [if_neg c4] at H
    have c4b0 : decide (x9_1 < (l1.length : Int)) = false := decide_eq_false c4
    clear c4
    by_cases c18 : (l1.length : Int) ≤ 200
    ·rw [if_pos c18] at H
     have c18b0 : decide ((l1.length : Int) ≤ 200) = true := decide_eq_true c18
     have c18b1 : decide (l1.length ≤ 200) = true := decide_eq_true (by omega)
     clear c18
     replace H := Option.bind_eq_some_iff.mp H
     obtain ⟨t276, A190, H⟩ := H
     replace H : (some t276) = some r := H
     have A19 := Aside0.mk A190
     clear A190
     obtain rfl := Option.some.inj H
     have hcz20_0 : wr.cell? ⟨gb272, 0, none⟩ = some (.slice A0_0 l0_0.length c0_0) := (blk_cell BK272.out 0).trans rfl
     have hfz20_0 := blk_frozen BK272.out 0
     go_wp2_with (first | (go_at_call 52; (with_reducible refine (impl_PoolOk.calls _ _ l0_0 t276 _ ?side1 ?side2 A19.out).mono ?_); (case side1 => exact zc (Kd.C_below HR0_0.out HB.out)); (case side2 => exact HC0_0.out); rintro e w21 ⟨rfl, hb⟩; have n0_ := Aside0.mk (blk_below (zh BK272.out) hb); have n1_ := Aside0.mk (below_step (zb HB.out) hb); clear BK272; clear HB; have BK272 := n0_; have HB := n1_; clear n0_ n1_; (try clear hb); (try clear hb2); (try clear hk); (try clear hi)))
     go_ret
     exact ⟨ze, zb HB.out⟩
    ·rw [if_neg c18] at H
     have c18b0 : decide ((l1.length : Int) ≤ 200) = false := decide_eq_false c18
     have c18b1 : decide (l1.length ≤ 200) = false := decide_eq_false (by omega)
     clear c18
     obtain rfl := Option.some.inj H
     go_wp2
     go_ret
     exact ⟨ze, zb HB.out⟩


/-! ### slices_Sort_int_int: function 40 -/
-- IMPORT Derived.Test.YtdgahpigcaejbaaLibSort
-- IMPORT Derived.Test.YtdgahpigcaejbaaShelf
def slices_Sort_int_int.f (l0 : List Int) : Option (List Int) := if l0.length < 1000000 then some (l0.mergeSort fun x y => decide (x ≤ y)) else none
set_option maxHeartbeats 8000000 in
set_option maxRecDepth 100000 in
theorem slices_Sort_int_int.calls (P0_ : Nat → Prop) (u9000_ : Value) (l0 : List Int) (r : List Int) (w0 w : World) (hB : Below w0.heap.size w0 w) (ho0 : Kd.R (Kd.int .i64) 3 w w0.heap.size P0_ u9000_ l0) (h : slices_Sort_int_int.f l0 = some r) :
  Calls Try.prog 40 #[u9000_] w fun e w' => e = .returned (.tuple #[]) ∧ Kd.R (Kd.int .i64) 3 w' w0.heap.size (fun k_ => (P0_ k_ ∨ w.heap.size ≤ k_)) u9000_ r ∧ Below w0.heap.size w0 w' ∧ Kept w w' (fun k_ => P0_ k_) := by
 unfold slices_Sort_int_int.f at h
 by_cases hc : l0.length < 1000000
 case neg => rw [if_neg hc] at h; exact absurd h (by simp)
 rw [if_pos hc] at h
 obtain rfl := Option.some.inj h
 exact RowSort.sortR Try.lays189 P0_ u9000_ l0 w0 w hB ho0 hc



/-! ### slices_Compact_int_int: function 58 -/
-- IMPORT Derived.Test.YtdgahpigcaejbaaLibCompact
-- IMPORT Derived.Test.YtdgahpigcaejbaaShelf
def slices_Compact_int_int.f (l0 : List Int) : Option (List Int) := some (Lib.compact l0)
set_option maxHeartbeats 8000000 in
set_option maxRecDepth 100000 in
theorem slices_Compact_int_int.calls (P0_ : Nat → Prop) (u9000_ : Value) (l0 : List Int) (r : List Int) (w0 w : World) (hB : Below w0.heap.size w0 w) (ho0 : Kd.R (Kd.int .i64) 3 w w0.heap.size P0_ u9000_ l0) (h : slices_Compact_int_int.f l0 = some r) :
  Calls Try.prog 58 #[u9000_] w fun e w' => ∃ v0_ : Value, e = .returned (v0_) ∧ Kd.R (Kd.int .i64) 3 w' w0.heap.size (fun k_ => (P0_ k_ ∨ w.heap.size ≤ k_)) v0_ r ∧ Below w0.heap.size w0 w' ∧ Kept w w' (fun k_ => P0_ k_) := by
 unfold slices_Compact_int_int.f at h
 obtain rfl := Option.some.inj h
 exact RowCompact.compactR Try.laysNm220 P0_ u9000_ l0 w0 w hB ho0



/-! ### slices_Clip_int_int: function 59 -/
-- IMPORT Derived.Test.YtdgahpigcaejbaaLibClip
def slices_Clip_int_int.f (l0 : List Int) : Option (List Int) := some l0
set_option maxHeartbeats 8000000 in
set_option maxRecDepth 100000 in
theorem slices_Clip_int_int.calls (P0_ : Nat → Prop) (A0 : Option Addr) (c0 : Nat) (l0 : List Int) (r : List Int) (w : World) (hs0 : Kd.V (Kd.int .i64) 3 w w.heap.size (fun k_ => P0_ k_) (.slice A0 l0.length c0) l0) (h : slices_Clip_int_int.f l0 = some r) :
  Calls Try.prog 59 #[.slice A0 l0.length c0] w fun e w' => ∃ v0_ : Value, e = .returned (v0_) ∧ Kd.V (Kd.int .i64) 3 w' w.heap.size (fun k_ => (P0_ k_ ∨ w.heap.size ≤ k_)) v0_ r ∧ Below w.heap.size w w' := by
 unfold slices_Clip_int_int.f at h
 obtain rfl := Option.some.inj h
 have HO0 := Aside0.mk (show Kd.V (Kd.int .i64) 3 w w.heap.size (fun k_ => (P0_ k_ ∨ w.heap.size ≤ k_)) (.slice A0 l0.length c0) l0 from Kd.V_mono hs0 (fun k_ hk => .inl hk))
 have HB := Aside0.mk (Below.refl w.heap.size w)
 obtain ⟨i04, hi04, _, hsz4, _⟩ := info_parts info3
 have hcut4 := RowClip.cut_clip (P := Try.prog) 26 3 Try.underlying26 hi04 A0 l0.length c0 (Kd.V_reads' HO0.out).2.1
 have HO1 := Aside0.mk (show Kd.V (Kd.int .i64) 3 w w.heap.size _ (.slice A0 l0.length l0.length) l0 from Kd.V_mk (Nat.le_refl _) (Kd.V_at (base := w.heap.size) HO0.out).2.2)
 clear hi04 hsz4
 go_enter Try.func59, Try.ntmps59
 go_wp2
 go_ret
 exact ⟨_, by first | rfl | (simp [*]; done), by (with_reducible repeat (first | apply Kd.V_alloc | apply Kd.V_drewN | apply Kd.V_drew)); exact HO1.out, zb HB.out⟩


/-! ### impl_Pool_parts: function 53 -/
def impl_Pool_parts.f (k : Nat) (l0_0 : List (S44)) (a1 : Int) : Option (List Int) := if 0 ≤ a1 then (if a1 < (l0_0.length : Int) then ((impl_count.f k ((rd_T44 l0_0 a1).f0)).bind fun t279 => (if t279 = 1 then (some (([(rd_T44 l0_0 a1).f1] : List Int))) else (if t279 = 2 then (some (([(rd_T44 l0_0 a1).f1, (rd_T44 l0_0 a1).f2] : List Int))) else (some ([] : List Int))))) else (none)) else (none)
theorem impl_Pool_parts.mono : ∀ a0 a1 k, LeO (impl_Pool_parts.f k a0 a1) (impl_Pool_parts.f (k + 1) a0 a1) := by
 intro a0 a1 k
 unfold impl_Pool_parts.f
 repeat' first
   | (with_reducible exact impl_count.mono _ _)
   | (with_reducible exact LeO.refl _)
   | (with_reducible exact LeO.none _)
   | (with_reducible refine LeO.ite ?_ ?_)
   | (with_reducible refine LeO.bind ?_ (fun _ => ?_))
   | exact impl_count.mono _ _
   | exact LeO.none _
   | refine LeO.ite ?_ ?_
   | refine LeO.bind ?_ (fun _ => ?_)
set_option maxHeartbeats 8000000 in
set_option maxRecDepth 100000 in
theorem impl_Pool_parts.calls (k : Nat) (g0_ : Nat) (A0_0 : Option Addr) (c0_0 : Nat) (l0_0 : List (S44)) (a1 : Int) (r : List Int) (w : World) (hk0_ : w.heap[g0_]? = some (.cells #[.slice A0_0 l0_0.length c0_0] 30 (0, 0))) (hr0_0 : Kd.C k44 w A0_0 l0_0.length l0_0) (hc0_0 : l0_0.length ≤ c0_0) (h : impl_Pool_parts.f k l0_0 a1 = some r) :
  Calls Try.prog 53 #[.pointer (some ⟨g0_, 0, none⟩), .int .i64 a1] w fun e w' => ∃ v0_ : Value, e = .returned (v0_) ∧ Kd.R (Kd.int .i64) 3 w' w.heap.size (fun _ => True) v0_ r ∧ Below w.heap.size w w' := by
 have hu44 := Try.underlying44
 have HR0_0 := Aside0.mk hr0_0
 have HC0_0 := Aside0.mk hc0_0
 clear hr0_0 hc0_0
 have BK0 := Aside0.mk hk0_
 clear hk0_
 have HB := Aside0.mk (Below.refl w.heap.size w)
 have H : (if 0 ≤ a1 then (if a1 < (l0_0.length : Int) then ((impl_count.f k ((rd_T44 l0_0 a1).f0)).bind fun t279 => (if t279 = 1 then (some (([(rd_T44 l0_0 a1).f1] : List Int))) else (if t279 = 2 then (some (([(rd_T44 l0_0 a1).f1, (rd_T44 l0_0 a1).f2] : List Int))) else (some ([] : List Int))))) else (none)) else (none)) = some r := h
 clear h
 by_cases c3 : 0 ≤ a1
 ·rw [if_pos c3] at H
  have c3b0 : decide (0 ≤ a1) = true := decide_eq_true c3
  clear c3
  by_cases c4 : a1 < (l0_0.length : Int)
  ·rw [if_pos c4] at H
   have c4b0 : decide (a1 < (l0_0.length : Int)) = true := decide_eq_true c4
   clear c4
   replace H := Option.bind_eq_some_iff.mp H
   obtain ⟨t279, A50, H⟩ := H
   replace H : (if t279 = 1 then (some (([(rd_T44 l0_0 a1).f1] : List Int))) else (if t279 = 2 then (some (([(rd_T44 l0_0 a1).f1, (rd_T44 l0_0 a1).f2] : List Int))) else (some ([] : List Int)))) = some r := H
   have A5 := Aside0.mk A50
   clear A50
   by_cases c6 : t279 = 1
   ·rw [if_pos c6] at H
    have c6b0 : (t279 == 1) = true := beq_iff_eq.mpr c6
    have c6b1 : (t279 != 1) = false := bne_eq_false_iff_eq.mpr c6
    clear c6
    obtain ⟨y280, hy280⟩ : ∃ y_ : List Int, y_ = (([(rd_T44 l0_0 a1).f1] : List Int)) := ⟨_, rfl⟩
    replace H : (some y280) = some r := by first | (rw [hy280]; with_reducible exact H) | (have H2_ := (Option.bind_some _ _).symm.trans H; rw [hy280]; with_reducible exact H2_) | (have H2_ := (Option.bind_some _ _).symm.trans H; with_reducible exact H2_) | with_reducible exact H | (rw [hy280]; exact H) | exact H
    have Ny280 := Aside0.mk hy280
    clear hy280
    obtain rfl := Option.some.inj H
    have hcz7_0 : w.cell? ⟨g0_, 0, none⟩ = some (.slice A0_0 l0_0.length c0_0) := (blk_cell BK0.out 0).trans rfl
    have hfz7_0 := blk_frozen BK0.out 0
    have p277 : 0 ≤ (a1 : Int) := of_decide_eq_true (by first | (with_reducible assumption) | assumption)
    have q277 : a1 < (l0_0.length : Int) := of_decide_eq_true (by first | (with_reducible assumption) | assumption)
    obtain ⟨ad277, e277, hx277_0, hx277_1, hx277_2⟩ := at_T44 HR0_0.out a1 p277 q277
    cases e277
    replace p277 := eq_true p277
    replace q277 := eq_true q277
    go_enter Try.func53, Try.ntmps53
    go_wp2_with (first | ((with_reducible refine gate_dst (N := 5) rfl ?_); refine box_event ?hg (N := 5) ?hd (cs := #[.int .i64 0, .int .i64 0, .int .i64 0]) (t := 44) ?hr ?_; (case hd => rfl); (case hg => rfl); (case hr => first | (go_simp; done) | (go_simp; rfl)); intro gb278 hg w8 hbox hb; have n0_ := Aside0.mk (blk_below (zh BK0.out) hb); have n1_ := Aside0.mk (below_step (zb HB.out) hb); have n2_ := Aside0.mk (hbox); have n3_ := Aside0.mk ((by rw [hg]; exact (below_size (zb HB.out)) : w.heap.size ≤ gb278)); have n4_ := Aside0.mk ((by rw [hg]; exact (below_size (zb HB.out)) : w.heap.size ≤ gb278)); have n5_ := Aside0.mk ((by rw [hg]; exact Nat.ne_of_lt (blk_lt (zh BK0.out)) : g0_ ≠ gb278)); have n6_ := Aside0.mk ((by rw [hg]; exact Nat.ne_of_gt (blk_lt (zh BK0.out)) : gb278 ≠ g0_)); clear BK0; clear HB; have BK0 := n0_; have HB := n1_; have BK278 := n2_; have GW278 := n3_; have GE278 := n4_; have NB0_278 := n5_; have NB278_0 := n6_; clear n0_ n1_ n2_ n3_ n4_ n5_ n6_; clear hb hbox hg; have hnb9 := NB278_0.out; have hnc9 := NB0_278.out; have hcz10_0 : w8.cell? ⟨gb278, 0, none⟩ = some (.int .i64 0) := (blk_cell BK278.out 0).trans rfl; have hcz10_1 : w8.cell? ⟨gb278, 1, none⟩ = some (.int .i64 0) := (blk_cell BK278.out 1).trans rfl; have hcz10_2 : w8.cell? ⟨gb278, 2, none⟩ = some (.int .i64 0) := (blk_cell BK278.out 2).trans rfl; have hfz10_0 := blk_frozen BK278.out 0; have hfz10_1 := blk_frozen BK278.out 1; have hfz10_2 := blk_frozen BK278.out 2) | ((with_reducible refine gate_callee (f := 86) rfl ?_); refine goesL_ (some 15) rfl rfl Try.func86 (by kernel_rfl) rfl #[.int .i64 ((rd_T44 l0_0 a1).f0)] rfl zl ?_; (with_reducible refine (impl_count.calls k ((rd_T44 l0_0 a1).f0) t279 _ A5.out).mono ?_); rintro e w' ⟨rfl, ⟨nd, rfl⟩⟩; refine ⟨_, rfl, ?_⟩) | ((with_reducible refine gate_dst (N := 20) rfl ?_); refine Kd.R_lit (Kd.int .i64) _ 3 ?hg (N := 20) ?hd (xs := ([(rd_T44 l0_0 a1).f1] : List Int)) (inner := [.int .i64 ((rd_T44 l0_0 a1).f1)]) (ok := fun _ => True) (okp := fun _ => True) ?hr ?hp (fun _ hk => hk) trivial (Below.refl _ _) (Nat.le_refl _) (by simp) ?_; (case hd => rfl); (case hg => rfl); (case hr => first | (go_simp; done) | (go_simp; rfl)); (case hp => exact (Reps.one (show Kd.M (Kd.int .i64) _ _ _ ((rd_T44 l0_0 a1).f1) [.int .i64 ((rd_T44 l0_0 a1).f1)] from rfl) (Reps.none _ _))); intro v281 w11 ho12 hb hg_ hnew_; clear hg_ hnew_; (first | rw [← Ny280.out] at ho12 | (simp only [Int.reduceToNat] at ho12; rw [← Ny280.out] at ho12)); have n0_ := Aside0.mk (Kd.R_lower ho12 (below_size (zb HB.out))); have n1_ := Aside0.mk (blk_below (g := g0_) (o := .cells #[.slice (some ad277) l0_0.length c0_0] 30 (0, 0)) (zf BK0.out) hb); have n2_ := Aside0.mk (blk_below (g := gb278) (o := .cells #[.int .i64 ((rd_T44 l0_0 a1).f0), .int .i64 ((rd_T44 l0_0 a1).f1), .int .i64 ((rd_T44 l0_0 a1).f2)] 44 (0, 0)) (by (with_reducible repeat (first | refine blk_drewN ?_ _ | refine blk_drew ?_ | refine blk_alloc ?_ _)); refine blk_put (cs := #[.int .i64 ((rd_T44 l0_0 a1).f0), .int .i64 ((rd_T44 l0_0 a1).f1), .int .i64 0]) ?_ 2 _ rfl; (with_reducible repeat (first | refine blk_drewN ?_ _ | refine blk_drew ?_ | refine blk_alloc ?_ _)); refine blk_put (cs := #[.int .i64 ((rd_T44 l0_0 a1).f0), .int .i64 0, .int .i64 0]) ?_ 1 _ rfl; (with_reducible repeat (first | refine blk_drewN ?_ _ | refine blk_drew ?_ | refine blk_alloc ?_ _)); refine blk_put (cs := #[.int .i64 0, .int .i64 0, .int .i64 0]) ?_ 0 _ rfl; (with_reducible repeat (first | refine blk_drewN ?_ _ | refine blk_drew ?_ | refine blk_alloc ?_ _)); exact BK278.out) hb); have n3_ := Aside0.mk (below_step (zb HB.out) hb); clear BK0; clear BK278; clear HB; have HO282 := n0_; have BK0 := n1_; have BK278 := n2_; have HB := n3_; clear n0_ n1_ n2_ n3_; clear hb ho12))
    go_ret
    exact ⟨_, ze, zr HO282.out, zb HB.out⟩
   ·rw [if_neg c6] at H
    have c6b0 : (t279 == 1) = false := beq_eq_false_iff_ne.mpr c6
    have c6b1 : (t279 != 1) = true := bne_iff_ne.mpr c6
    by_cases c13 : t279 = 2
    ·rw [if_pos c13] at H
     have c13b0 : (t279 == 2) = true := beq_iff_eq.mpr c13
     have c13b1 : (t279 != 2) = false := bne_eq_false_iff_eq.mpr c13
     clear c13
     obtain ⟨y283, hy283⟩ : ∃ y_ : List Int, y_ = (([(rd_T44 l0_0 a1).f1, (rd_T44 l0_0 a1).f2] : List Int)) := ⟨_, rfl⟩
     replace H : (some y283) = some r := by first | (rw [hy283]; with_reducible exact H) | (have H2_ := (Option.bind_some _ _).symm.trans H; rw [hy283]; with_reducible exact H2_) | (have H2_ := (Option.bind_some _ _).symm.trans H; with_reducible exact H2_) | with_reducible exact H | (rw [hy283]; exact H) | exact H
     have Ny283 := Aside0.mk hy283
     clear hy283
     obtain rfl := Option.some.inj H
     have hcz14_0 : w.cell? ⟨g0_, 0, none⟩ = some (.slice A0_0 l0_0.length c0_0) := (blk_cell BK0.out 0).trans rfl
     have hfz14_0 := blk_frozen BK0.out 0
     have p277 : 0 ≤ (a1 : Int) := of_decide_eq_true (by first | (with_reducible assumption) | assumption)
     have q277 : a1 < (l0_0.length : Int) := of_decide_eq_true (by first | (with_reducible assumption) | assumption)
     obtain ⟨ad277, e277, hx277_0, hx277_1, hx277_2⟩ := at_T44 HR0_0.out a1 p277 q277
     cases e277
     replace p277 := eq_true p277
     replace q277 := eq_true q277
     go_enter Try.func53, Try.ntmps53
     go_wp2_with (first | ((with_reducible refine gate_dst (N := 5) rfl ?_); refine box_event ?hg (N := 5) ?hd (cs := #[.int .i64 0, .int .i64 0, .int .i64 0]) (t := 44) ?hr ?_; (case hd => rfl); (case hg => rfl); (case hr => first | (go_simp; done) | (go_simp; rfl)); intro gb278 hg w15 hbox hb; have n0_ := Aside0.mk (blk_below (zh BK0.out) hb); have n1_ := Aside0.mk (below_step (zb HB.out) hb); have n2_ := Aside0.mk (hbox); have n3_ := Aside0.mk ((by rw [hg]; exact (below_size (zb HB.out)) : w.heap.size ≤ gb278)); have n4_ := Aside0.mk ((by rw [hg]; exact (below_size (zb HB.out)) : w.heap.size ≤ gb278)); have n5_ := Aside0.mk ((by rw [hg]; exact Nat.ne_of_lt (blk_lt (zh BK0.out)) : g0_ ≠ gb278)); have n6_ := Aside0.mk ((by rw [hg]; exact Nat.ne_of_gt (blk_lt (zh BK0.out)) : gb278 ≠ g0_)); clear BK0; clear HB; have BK0 := n0_; have HB := n1_; have BK278 := n2_; have GW278 := n3_; have GE278 := n4_; have NB0_278 := n5_; have NB278_0 := n6_; clear n0_ n1_ n2_ n3_ n4_ n5_ n6_; clear hb hbox hg; have hnb16 := NB278_0.out; have hnc16 := NB0_278.out; have hcz17_0 : w15.cell? ⟨gb278, 0, none⟩ = some (.int .i64 0) := (blk_cell BK278.out 0).trans rfl; have hcz17_1 : w15.cell? ⟨gb278, 1, none⟩ = some (.int .i64 0) := (blk_cell BK278.out 1).trans rfl; have hcz17_2 : w15.cell? ⟨gb278, 2, none⟩ = some (.int .i64 0) := (blk_cell BK278.out 2).trans rfl; have hfz17_0 := blk_frozen BK278.out 0; have hfz17_1 := blk_frozen BK278.out 1; have hfz17_2 := blk_frozen BK278.out 2) | ((with_reducible refine gate_callee (f := 86) rfl ?_); refine goesL_ (some 15) rfl rfl Try.func86 (by kernel_rfl) rfl #[.int .i64 ((rd_T44 l0_0 a1).f0)] rfl zl ?_; (with_reducible refine (impl_count.calls k ((rd_T44 l0_0 a1).f0) t279 _ A5.out).mono ?_); rintro e w' ⟨rfl, ⟨nd, rfl⟩⟩; refine ⟨_, rfl, ?_⟩) | ((with_reducible refine gate_dst (N := 27) rfl ?_); refine Kd.R_lit (Kd.int .i64) _ 3 ?hg (N := 27) ?hd (xs := ([(rd_T44 l0_0 a1).f1, (rd_T44 l0_0 a1).f2] : List Int)) (inner := [.int .i64 ((rd_T44 l0_0 a1).f1), .int .i64 ((rd_T44 l0_0 a1).f2)]) (ok := fun _ => True) (okp := fun _ => True) ?hr ?hp (fun _ hk => hk) trivial (Below.refl _ _) (Nat.le_refl _) (by simp) ?_; (case hd => rfl); (case hg => rfl); (case hr => first | (go_simp; done) | (go_simp; rfl)); (case hp => exact (Reps.one (show Kd.M (Kd.int .i64) _ _ _ ((rd_T44 l0_0 a1).f1) [.int .i64 ((rd_T44 l0_0 a1).f1)] from rfl) (Reps.one (show Kd.M (Kd.int .i64) _ _ _ ((rd_T44 l0_0 a1).f2) [.int .i64 ((rd_T44 l0_0 a1).f2)] from rfl) (Reps.none _ _)))); intro v284 w18 ho19 hb hg_ hnew_; clear hg_ hnew_; (first | rw [← Ny283.out] at ho19 | (simp only [Int.reduceToNat] at ho19; rw [← Ny283.out] at ho19)); have n0_ := Aside0.mk (Kd.R_lower ho19 (below_size (zb HB.out))); have n1_ := Aside0.mk (blk_below (g := g0_) (o := .cells #[.slice (some ad277) l0_0.length c0_0] 30 (0, 0)) (zf BK0.out) hb); have n2_ := Aside0.mk (blk_below (g := gb278) (o := .cells #[.int .i64 ((rd_T44 l0_0 a1).f0), .int .i64 ((rd_T44 l0_0 a1).f1), .int .i64 ((rd_T44 l0_0 a1).f2)] 44 (0, 0)) (by (with_reducible repeat (first | refine blk_drewN ?_ _ | refine blk_drew ?_ | refine blk_alloc ?_ _)); refine blk_put (cs := #[.int .i64 ((rd_T44 l0_0 a1).f0), .int .i64 ((rd_T44 l0_0 a1).f1), .int .i64 0]) ?_ 2 _ rfl; (with_reducible repeat (first | refine blk_drewN ?_ _ | refine blk_drew ?_ | refine blk_alloc ?_ _)); refine blk_put (cs := #[.int .i64 ((rd_T44 l0_0 a1).f0), .int .i64 0, .int .i64 0]) ?_ 1 _ rfl; (with_reducible repeat (first | refine blk_drewN ?_ _ | refine blk_drew ?_ | refine blk_alloc ?_ _)); refine blk_put (cs := #[.int .i64 0, .int .i64 0, .int .i64 0]) ?_ 0 _ rfl; (with_reducible repeat (first | refine blk_drewN ?_ _ | refine blk_drew ?_ | refine blk_alloc ?_ _)); exact BK278.out) hb); have n3_ := Aside0.mk (below_step (zb HB.out) hb); clear BK0; clear BK278; clear HB; have HO285 := n0_; have BK0 := n1_; have BK278 := n2_; have HB := n3_; clear n0_ n1_ n2_ n3_; clear hb ho19))
     go_ret
     exact ⟨_, ze, zr HO285.out, zb HB.out⟩
    ·rw [if_neg c13] at H
     have c13b0 : (t279 == 2) = false := beq_eq_false_iff_ne.mpr c13
     have c13b1 : (t279 != 2) = true := bne_iff_ne.mpr c13
     obtain rfl := Option.some.inj H
     have hcz20_0 : w.cell? ⟨g0_, 0, none⟩ = some (.slice A0_0 l0_0.length c0_0) := (blk_cell BK0.out 0).trans rfl
     have hfz20_0 := blk_frozen BK0.out 0
     have p277 : 0 ≤ (a1 : Int) := of_decide_eq_true (by first | (with_reducible assumption) | assumption)
     have q277 : a1 < (l0_0.length : Int) := of_decide_eq_true (by first | (with_reducible assumption) | assumption)
     obtain ⟨ad277, e277, hx277_0, hx277_1, hx277_2⟩ := at_T44 HR0_0.out a1 p277 q277
     cases e277
     replace p277 := eq_true p277
     replace q277 := eq_true q277
     go_enter Try.func53, Try.ntmps53
     go_wp2_with (first | ((with_reducible refine gate_dst (N := 5) rfl ?_); refine box_event ?hg (N := 5) ?hd (cs := #[.int .i64 0, .int .i64 0, .int .i64 0]) (t := 44) ?hr ?_; (case hd => rfl); (case hg => rfl); (case hr => first | (go_simp; done) | (go_simp; rfl)); intro gb278 hg w21 hbox hb; have n0_ := Aside0.mk (blk_below (zh BK0.out) hb); have n1_ := Aside0.mk (below_step (zb HB.out) hb); have n2_ := Aside0.mk (hbox); have n3_ := Aside0.mk ((by rw [hg]; exact (below_size (zb HB.out)) : w.heap.size ≤ gb278)); have n4_ := Aside0.mk ((by rw [hg]; exact (below_size (zb HB.out)) : w.heap.size ≤ gb278)); have n5_ := Aside0.mk ((by rw [hg]; exact Nat.ne_of_lt (blk_lt (zh BK0.out)) : g0_ ≠ gb278)); have n6_ := Aside0.mk ((by rw [hg]; exact Nat.ne_of_gt (blk_lt (zh BK0.out)) : gb278 ≠ g0_)); clear BK0; clear HB; have BK0 := n0_; have HB := n1_; have BK278 := n2_; have GW278 := n3_; have GE278 := n4_; have NB0_278 := n5_; have NB278_0 := n6_; clear n0_ n1_ n2_ n3_ n4_ n5_ n6_; clear hb hbox hg; have hnb22 := NB278_0.out; have hnc22 := NB0_278.out; have hcz23_0 : w21.cell? ⟨gb278, 0, none⟩ = some (.int .i64 0) := (blk_cell BK278.out 0).trans rfl; have hcz23_1 : w21.cell? ⟨gb278, 1, none⟩ = some (.int .i64 0) := (blk_cell BK278.out 1).trans rfl; have hcz23_2 : w21.cell? ⟨gb278, 2, none⟩ = some (.int .i64 0) := (blk_cell BK278.out 2).trans rfl; have hfz23_0 := blk_frozen BK278.out 0; have hfz23_1 := blk_frozen BK278.out 1; have hfz23_2 := blk_frozen BK278.out 2) | ((with_reducible refine gate_callee (f := 86) rfl ?_); refine goesL_ (some 15) rfl rfl Try.func86 (by kernel_rfl) rfl #[.int .i64 ((rd_T44 l0_0 a1).f0)] rfl zl ?_; (with_reducible refine (impl_count.calls k ((rd_T44 l0_0 a1).f0) t279 _ A5.out).mono ?_); rintro e w' ⟨rfl, ⟨nd, rfl⟩⟩; refine ⟨_, rfl, ?_⟩))
     go_ret
     exact ⟨_, ze, by first | exact Kd.R_nil _ _ _ _ _ | exact Kd.N_nil _ _ _ _ _ | exact Kd.V_nil _ _ _ _ _ | exact Kd.Q_nil _ _ _ _ _ | exact Kd.S_nil _ _ _ _ _, zb HB.out⟩
  ·rw [if_neg c4] at H
   exact absurd H (by simp)
 ·rw [if_neg c3] at H
  exact absurd H (by simp)

/-! ### impl_IsPublic: function 126 -/
def impl_IsPublic.f (a0 : Int) : Option (Bool) := (impl_inRange.f a0 0 49).bind fun t286 => (some t286)
set_option maxHeartbeats 8000000 in
set_option maxRecDepth 100000 in
theorem impl_IsPublic.calls (a0 : Int) (r : Bool) (w : World) (h : impl_IsPublic.f a0 = some r) :
  Calls Try.prog 126 #[.int .i64 a0] w fun e w' => e = .returned (.bool r) ∧ Drawn0 w w' := by
 have H : ((impl_inRange.f a0 0 49).bind fun t286 => (some t286)) = some r := h
 clear h
 replace H := Option.bind_eq_some_iff.mp H
 obtain ⟨t286, A20, H⟩ := H
 replace H : (some t286) = some r := H
 have A2 := Aside0.mk A20
 clear A20
 obtain rfl := Option.some.inj H
 go_enter Try.func126, Try.ntmps126
 go_wp2_with (first | ((with_reducible refine gate_callee (f := 84) rfl ?_); refine goesL_ (some 4) rfl rfl Try.func84 (by kernel_rfl) rfl #[.int .i64 a0, .int .i64 0, .int .i64 49] rfl zl ?_; (with_reducible refine (impl_inRange.calls a0 0 49 t286 _ A2.out).mono ?_); rintro e w' ⟨rfl, ⟨nd, rfl⟩⟩; refine ⟨_, rfl, ?_⟩))
 go_ret
 exact ⟨by first | rfl | (simp; done) | (simp [*]; done), by repeat (first | exact Drawn0.refl _ | apply Drawn0.step)⟩

/-! ### impl_Node: function 122 -/
def impl_Node.l0 : Nat → List (S44) → Int → Int → Int → Int → Int → Option (Int)
 | 0, _, _, _, _, _, _ => none
 | k + 1, x0, x7, x8, x288000, x288001, x288002 => if x8 < x7 then (if 0 ≤ x8 then (if x8 < (x0.length : Int) then (if (x288000 == ((rd_T44 x0 x8).f0) && (x288001 == ((rd_T44 x0 x8).f1) && (x288002 == ((rd_T44 x0 x8).f2)))) = true then (some x8) else (impl_Node.l0 k x0 x7 (wrap64 (x8 + 1)) x288000 x288001 x288002)) else (none)) else (none)) else (some (-1))
def impl_Node.f (k : Nat) (l0 : List (S44)) (a1_0 : Int) (a1_1 : Int) (a1_2 : Int) : Option (Int) := impl_Node.l0 k l0 (l0.length : Int) 0 a1_0 a1_1 a1_2
theorem impl_Node.mono_l : ∀ k, (∀ y0 y1 y2 y3 y4 y5, LeO (impl_Node.l0 k y0 y1 y2 y3 y4 y5) (impl_Node.l0 (k + 1) y0 y1 y2 y3 y4 y5))
 | 0 => fun _ _ _ _ _ _ r h => by simp [impl_Node.l0] at h
 | k + 1 => by
  have ih0 := impl_Node.mono_l k
  ·intro y0 y1 y2 y3 y4 y5
   unfold impl_Node.l0
   repeat' first
   | (with_reducible exact ih0 _ _ _ _ _ _)
   | (with_reducible exact LeO.refl _)
   | (with_reducible exact LeO.none _)
   | (with_reducible refine LeO.ite ?_ ?_)
   | (with_reducible refine LeO.bind ?_ (fun _ => ?_))
   | exact ih0 _ _ _ _ _ _
   | exact LeO.none _
   | refine LeO.ite ?_ ?_
   | refine LeO.bind ?_ (fun _ => ?_)
theorem impl_Node.mono : ∀ a0 a1 a2 a3 k, LeO (impl_Node.f k a0 a1 a2 a3) (impl_Node.f (k + 1) a0 a1 a2 a3) := by
 intro a0 a1 a2 a3 k
 have ih0 := impl_Node.mono_l k
 unfold impl_Node.f
 repeat' first
   | (with_reducible exact ih0 _ _ _ _ _ _)
   | (with_reducible exact LeO.refl _)
   | (with_reducible exact LeO.none _)
   | (with_reducible refine LeO.ite ?_ ?_)
   | (with_reducible refine LeO.bind ?_ (fun _ => ?_))
   | exact ih0 _ _ _ _ _ _
   | exact LeO.none _
   | refine LeO.ite ?_ ?_
   | refine LeO.bind ?_ (fun _ => ?_)
set_option maxHeartbeats 8000000 in
set_option maxRecDepth 100000 in
theorem impl_Node.calls (k : Nat) (A0 : Option Addr) (c0 : Nat) (l0 : List (S44)) (a1_0 : Int) (a1_1 : Int) (a1_2 : Int) (r : Int) (w : World) (hr0 : Kd.C k44 w A0 l0.length l0) (hc0 : l0.length ≤ c0) (h : impl_Node.f k l0 a1_0 a1_1 a1_2 = some r) :
  Calls Try.prog 122 #[.slice A0 l0.length c0, .agg #[.int .i64 a1_0, .int .i64 a1_1, .int .i64 a1_2]] w fun e w' => e = .returned (.int .i64 r) ∧ Below w.heap.size w w' := by
 have hu44 := Try.underlying44
 have HR0 := Aside0.mk hr0
 have HC0 := Aside0.mk hc0
 clear hr0 hc0
 have HB := Aside0.mk (Below.refl w.heap.size w)
 have H : (impl_Node.l0 k l0 (l0.length : Int) 0 a1_0 a1_1 a1_2) = some r := h
 clear h
 have H' := Aside0.mk H
 clear H
 go_enter Try.func122, Try.ntmps122
 go_wp2_with (first | ((with_reducible refine gate_dst (N := 3) rfl ?_); refine box_event ?hg (N := 3) ?hd (cs := #[.int .i64 a1_0, .int .i64 a1_1, .int .i64 a1_2]) (t := 44) ?hr ?_; (case hd => rfl); (case hg => rfl); (case hr => first | (go_simp; done) | (go_simp; rfl)); intro gb287 hg w3 hbox hb; have n0_ := Aside0.mk (below_step (zb HB.out) hb); have n1_ := Aside0.mk (hbox); have n2_ := Aside0.mk ((by rw [hg]; exact (below_size (zb HB.out)) : w.heap.size ≤ gb287)); have n3_ := Aside0.mk ((by rw [hg]; exact (below_size (zb HB.out)) : w.heap.size ≤ gb287)); clear HB; have HB := n0_; have BK287 := n1_; have GW287 := n2_; have GE287 := n3_; clear n0_ n1_ n2_ n3_; clear hb hbox hg))
 repeat (go_quiet (first | ((with_reducible refine gate_dst (N := 3) rfl ?_); refine box_event ?hg (N := 3) ?hd (cs := #[.int .i64 a1_0, .int .i64 a1_1, .int .i64 a1_2]) (t := 44) ?hr ?_; (case hd => rfl); (case hg => rfl); (case hr => first | (go_simp; done) | (go_simp; rfl)); intro gb287 hg w3 hbox hb; have n0_ := Aside0.mk (below_step (zb HB.out) hb); have n1_ := Aside0.mk (hbox); have n2_ := Aside0.mk ((by rw [hg]; exact (below_size (zb HB.out)) : w.heap.size ≤ gb287)); have n3_ := Aside0.mk ((by rw [hg]; exact (below_size (zb HB.out)) : w.heap.size ≤ gb287)); clear HB; have HB := n0_; have BK287 := n1_; have GW287 := n2_; have GE287 := n3_; clear n0_ n1_ n2_ n3_; clear hb hbox hg)); try go_wp2_with (first | ((with_reducible refine gate_dst (N := 3) rfl ?_); refine box_event ?hg (N := 3) ?hd (cs := #[.int .i64 a1_0, .int .i64 a1_1, .int .i64 a1_2]) (t := 44) ?hr ?_; (case hd => rfl); (case hg => rfl); (case hr => first | (go_simp; done) | (go_simp; rfl)); intro gb287 hg w3 hbox hb; have n0_ := Aside0.mk (below_step (zb HB.out) hb); have n1_ := Aside0.mk (hbox); have n2_ := Aside0.mk ((by rw [hg]; exact (below_size (zb HB.out)) : w.heap.size ≤ gb287)); have n3_ := Aside0.mk ((by rw [hg]; exact (below_size (zb HB.out)) : w.heap.size ≤ gb287)); clear HB; have HB := n0_; have BK287 := n1_; have GW287 := n2_; have GE287 := n3_; clear n0_ n1_ n2_ n3_; clear hb hbox hg)))
 go_loopg [8] k (fun kq v8 w' => ∃ (x8_1 : Int), v8 = .int .i64 x8_1 ∧ Aside0 (impl_Node.l0 kq l0 (l0.length : Int) x8_1 a1_0 a1_1 a1_2 = some r) ∧ Aside0 (kq ≤ k) ∧ Aside0 (w'.heap[gb287]? = some (.cells #[.int .i64 a1_0, .int .i64 a1_1, .int .i64 a1_2] 44 (0, 0))) ∧ Aside0 (Below w.heap.size w w'))
 case atStart => exact ⟨(0), (by first | rfl | (simp; done) | (simp [*]; done)), H', ⟨Nat.le_refl _⟩, ⟨zh BK287.out⟩, ⟨zb HB.out⟩⟩
 case round =>
  clear H'
  try clear c1
  try clear p2
  obtain ⟨x8_1, rfl, HA, HK1, BK287, HB⟩ := hrel
  cases gk with
  | zero => exact absurd HA.out (by simp [impl_Node.l0])
  | succ k1 =>
   have H := HA.out
   clear HA
   simp only [impl_Node.l0] at H
   by_cases c4 : x8_1 < (l0.length : Int)
   ·rw [if_pos c4] at H
    have c4b0 : decide (x8_1 < (l0.length : Int)) = true := decide_eq_true c4
    clear c4
    by_cases c5 : 0 ≤ x8_1
    ·rw [if_pos c5] at H
     have c5b0 : decide (0 ≤ x8_1) = true := decide_eq_true c5
     clear c5
     by_cases c6 : x8_1 < (l0.length : Int)
     ·rw [if_pos c6] at H
      have c6b0 : decide (x8_1 < (l0.length : Int)) = true := decide_eq_true c6
      clear c6
      by_cases c7 : (a1_0 == ((rd_T44 l0 x8_1).f0) && (a1_1 == ((rd_T44 l0 x8_1).f1) && (a1_2 == ((rd_T44 l0 x8_1).f2)))) = true
      ·rw [if_pos c7] at H
       have c7b0 : (a1_0 == ((rd_T44 l0 x8_1).f0) && (a1_1 == ((rd_T44 l0 x8_1).f1) && (a1_2 == ((rd_T44 l0 x8_1).f2)))) = true := c7
       (try (have c7b1 : decide (a1_0 = ((rd_T44 l0 x8_1).f0) && (a1_1 == ((rd_T44 l0 x8_1).f1) && (a1_2 == ((rd_T44 l0 x8_1).f2)))) = true := by simpa using c7))
       (try (have c7b2 : (a1_0 == ((rd_T44 l0 x8_1).f0) && (a1_1 == ((rd_T44 l0 x8_1).f1) && (a1_2 == ((rd_T44 l0 x8_1).f2)))) = true := by simpa using c7))
       clear c7
       obtain rfl := Option.some.inj H
       have hcz8_0 : wr.cell? ⟨gb287, 0, none⟩ = some (.int .i64 a1_0) := (blk_cell BK287.out 0).trans rfl
       have hcz8_1 : wr.cell? ⟨gb287, 1, none⟩ = some (.int .i64 a1_1) := (blk_cell BK287.out 1).trans rfl
       have hcz8_2 : wr.cell? ⟨gb287, 2, none⟩ = some (.int .i64 a1_2) := (blk_cell BK287.out 2).trans rfl
       have hfz8_0 := blk_frozen BK287.out 0
       have hfz8_1 := blk_frozen BK287.out 1
       have hfz8_2 := blk_frozen BK287.out 2
       have p288 : 0 ≤ (x8_1 : Int) := of_decide_eq_true (by first | (with_reducible assumption) | assumption)
       have q288 : x8_1 < (l0.length : Int) := of_decide_eq_true (by first | (with_reducible assumption) | assumption)
       obtain ⟨ad288, e288, hx288_0, hx288_1, hx288_2⟩ := at_T44 HR0.out x8_1 p288 q288
       cases e288
       replace hx288_0 := (HB.out.cell (World.block_lt_of_cell? w _ hx288_0)).trans hx288_0
       replace hx288_1 := (HB.out.cell (World.block_lt_of_cell? w _ hx288_1)).trans hx288_1
       replace hx288_2 := (HB.out.cell (World.block_lt_of_cell? w _ hx288_2)).trans hx288_2
       replace p288 := eq_true p288
       replace q288 := eq_true q288
       go_wp2
       repeat (go_quiet (fail); try go_wp2)
       go_ret
       exact ⟨ze, zb HB.out⟩
      ·rw [if_neg c7] at H
       have c7b0 : (a1_0 == ((rd_T44 l0 x8_1).f0) && (a1_1 == ((rd_T44 l0 x8_1).f1) && (a1_2 == ((rd_T44 l0 x8_1).f2)))) = false := by simpa using c7
       (try (have c7b1 : decide (a1_0 = ((rd_T44 l0 x8_1).f0) && (a1_1 == ((rd_T44 l0 x8_1).f1) && (a1_2 == ((rd_T44 l0 x8_1).f2)))) = false := by simpa using c7))
       (try (have c7b2 : (a1_0 == ((rd_T44 l0 x8_1).f0) && (a1_1 == ((rd_T44 l0 x8_1).f1) && (a1_2 == ((rd_T44 l0 x8_1).f2)))) = false := by simpa using c7))
       (try (have c7b3 : ¬ (a1_0 = ((rd_T44 l0 x8_1).f0) && (a1_1 == ((rd_T44 l0 x8_1).f1) && (a1_2 == ((rd_T44 l0 x8_1).f2)))) := by simpa using c7))
       clear c7
       have H' := Aside0.mk H
       clear H
       have hcz9_0 : wr.cell? ⟨gb287, 0, none⟩ = some (.int .i64 a1_0) := (blk_cell BK287.out 0).trans rfl
       have hcz9_1 : wr.cell? ⟨gb287, 1, none⟩ = some (.int .i64 a1_1) := (blk_cell BK287.out 1).trans rfl
       have hcz9_2 : wr.cell? ⟨gb287, 2, none⟩ = some (.int .i64 a1_2) := (blk_cell BK287.out 2).trans rfl
       have hfz9_0 := blk_frozen BK287.out 0
       have hfz9_1 := blk_frozen BK287.out 1
       have hfz9_2 := blk_frozen BK287.out 2
       have p288 : 0 ≤ (x8_1 : Int) := of_decide_eq_true (by first | (with_reducible assumption) | assumption)
       have q288 : x8_1 < (l0.length : Int) := of_decide_eq_true (by first | (with_reducible assumption) | assumption)
       obtain ⟨ad288, e288, hx288_0, hx288_1, hx288_2⟩ := at_T44 HR0.out x8_1 p288 q288
       cases e288
       replace hx288_0 := (HB.out.cell (World.block_lt_of_cell? w _ hx288_0)).trans hx288_0
       replace hx288_1 := (HB.out.cell (World.block_lt_of_cell? w _ hx288_1)).trans hx288_1
       replace hx288_2 := (HB.out.cell (World.block_lt_of_cell? w _ hx288_2)).trans hx288_2
       replace p288 := eq_true p288
       replace q288 := eq_true q288
       go_wp2
       repeat (go_quiet (fail); try go_wp2)
       go_roundg k1
       case measure => have := HK1.out; omega
       case rel => exact ⟨(wrap64 (x8_1 + 1)), (by first | rfl | (simp; done) | (simp [*]; done)), H', ⟨by have := HK1.out; omega⟩, ⟨zh BK287.out⟩, ⟨zb HB.out⟩⟩
     ·rw [if_neg c6] at H
      exact absurd H (by simp)
    ·rw [if_neg c5] at H
     exact absurd H (by simp)
   ·rw [if_neg c4] at H
    have c4b0 : decide (x8_1 < (l0.length : Int)) = false := decide_eq_false c4
    clear c4
    obtain rfl := Option.some.inj H
    go_wp2
    repeat (go_quiet (fail); try go_wp2)
    go_ret
    exact ⟨ze, zb HB.out⟩

end Go.Proofs.Ytdgahpigcaejbaa.E
end

section
-- Written by this session's program (wip/tools/gprint.py over the kit's print) out of the translation; Lean checks it.
namespace Go.Proofs.Ytdgahpigcaejbaa.E
open Go.RowKit Go.Proofs.YtdgahpigcaejbaaW.PrintWords Go.Proofs.YtdgahpigcaejbaaW.PrintLast Go.Proofs.YtdgahpigcaejbaaW.PrintMore
attribute [local go_sem] max2_int min2_int max_two min_two max_three min_three max_four min_four   -- for this text's walks alone
set_option linter.unusedVariables false
set_option linter.unusedSimpArgs false
set_option maxRecDepth 100000

/-! ### impl_Pool_find: function 111 -/
def impl_Pool_find.f (k : Nat) (l0_0 : List (S44)) (a1_0 : Int) (a1_1 : Int) (a1_2 : Int) : Option (Int) := (impl_Node.f k l0_0 a1_0 a1_1 a1_2).bind fun t290 => (some t290)
theorem impl_Pool_find.mono : ∀ a0 a1 a2 a3 k, LeO (impl_Pool_find.f k a0 a1 a2 a3) (impl_Pool_find.f (k + 1) a0 a1 a2 a3) := by
 intro a0 a1 a2 a3 k
 unfold impl_Pool_find.f
 repeat' first
   | (with_reducible exact impl_Node.mono _ _ _ _ _)
   | (with_reducible exact LeO.refl _)
   | (with_reducible exact LeO.none _)
   | (with_reducible refine LeO.ite ?_ ?_)
   | (with_reducible refine LeO.bind ?_ (fun _ => ?_))
   | exact impl_Node.mono _ _ _ _ _
   | exact LeO.none _
   | refine LeO.ite ?_ ?_
   | refine LeO.bind ?_ (fun _ => ?_)
set_option maxHeartbeats 8000000 in
set_option maxRecDepth 100000 in
theorem impl_Pool_find.calls (k : Nat) (g0_ : Nat) (A0_0 : Option Addr) (c0_0 : Nat) (l0_0 : List (S44)) (a1_0 : Int) (a1_1 : Int) (a1_2 : Int) (r : Int) (w : World) (hk0_ : w.heap[g0_]? = some (.cells #[.slice A0_0 l0_0.length c0_0] 30 (0, 0))) (hr0_0 : Kd.C k44 w A0_0 l0_0.length l0_0) (hc0_0 : l0_0.length ≤ c0_0) (h : impl_Pool_find.f k l0_0 a1_0 a1_1 a1_2 = some r) :
  Calls Try.prog 111 #[.pointer (some ⟨g0_, 0, none⟩), .agg #[.int .i64 a1_0, .int .i64 a1_1, .int .i64 a1_2]] w fun e w' => e = .returned (.int .i64 r) ∧ Below w.heap.size w w' := by
 have hu44 := Try.underlying44
 have HR0_0 := Aside0.mk hr0_0
 have HC0_0 := Aside0.mk hc0_0
 clear hr0_0 hc0_0
 have BK0 := Aside0.mk hk0_
 clear hk0_
 have HB := Aside0.mk (Below.refl w.heap.size w)
 have H : ((impl_Node.f k l0_0 a1_0 a1_1 a1_2).bind fun t290 => (some t290)) = some r := h
 clear h
 replace H := Option.bind_eq_some_iff.mp H
 obtain ⟨t290, A30, H⟩ := H
 replace H : (some t290) = some r := H
 have A3 := Aside0.mk A30
 clear A30
 obtain rfl := Option.some.inj H
 go_enter Try.func111, Try.ntmps111
 try go_wp2_with (first | ((with_reducible refine gate_dst (N := 3) rfl ?_); refine box_event ?hg (N := 3) ?hd (cs := #[.int .i64 a1_0, .int .i64 a1_1, .int .i64 a1_2]) (t := 44) ?hr ?_; (case hd => rfl); (case hg => rfl); (case hr => first | (go_simp; done) | (go_simp; rfl)); intro gb289 hg w4 hbox hb; have n0_ := Aside0.mk (blk_below (zh BK0.out) hb); have n1_ := Aside0.mk (below_step (zb HB.out) hb); have n2_ := Aside0.mk (hbox); have n3_ := Aside0.mk ((by rw [hg]; exact (below_size (zb HB.out)) : w.heap.size ≤ gb289)); have n4_ := Aside0.mk ((by rw [hg]; exact (below_size (zb HB.out)) : w.heap.size ≤ gb289)); have n5_ := Aside0.mk ((by rw [hg]; exact Nat.ne_of_lt (blk_lt (zh BK0.out)) : g0_ ≠ gb289)); have n6_ := Aside0.mk ((by rw [hg]; exact Nat.ne_of_gt (blk_lt (zh BK0.out)) : gb289 ≠ g0_)); clear BK0; clear HB; have BK0 := n0_; have HB := n1_; have BK289 := n2_; have GW289 := n3_; have GE289 := n4_; have NB0_289 := n5_; have NB289_0 := n6_; clear n0_ n1_ n2_ n3_ n4_ n5_ n6_; clear hb hbox hg))
 have n0_ := Aside0.mk (blk_drew BK0.out)
 have n1_ := Aside0.mk (blk_drew BK289.out)
 have n2_ := Aside0.mk (below_drew1 HB.out)
 clear BK0
 clear BK289
 clear HB
 have BK0 := n0_
 have BK289 := n1_
 have HB := n2_
 clear n0_ n1_ n2_
 refine start_ (n := 7) (S := fun w' => w'.cell? ⟨g0_, 0, none⟩ = some (.slice A0_0 l0_0.length c0_0) ∧ w'.cell? ⟨gb289, 0, none⟩ = some (.int .i64 a1_0) ∧ w'.cell? ⟨gb289, 1, none⟩ = some (.int .i64 a1_1) ∧ w'.cell? ⟨gb289, 2, none⟩ = some (.int .i64 a1_2)) (ds := []) #[false, false, false, false, false, false, false] (by kernel_rfl) rfl rfl ⟨(blk_cell BK0.out 0).trans rfl, (blk_cell BK289.out 0).trans rfl, (blk_cell BK289.out 1).trans rfl, (blk_cell BK289.out 2).trans rfl⟩ (fun hHeld => ?_)
 generalize w4.drew = w5 at BK0 BK289 HB hHeld ⊢
 refine pure_ (i := 0) (N := some 5) (v := ?_) (a' := ?_) #[true, false, false, false, false, false, false] rfl rfl (by kernel_rfl) (fun _ _ _ h => h) (Or.inl ⟨by rfl, ?_⟩) ?_ ?_
 rotate_left
 ·intro w'
  go_simp
  with_reducible rfl
 rotate_left
 ·simp only [Act.put, List.setIfInBounds_toArray, List.set_cons_zero, List.set_cons_succ, i64_w, i32_w]
  rfl
 refine pure_ (i := 1) (N := some 6) (v := ?_) (a' := ?_) #[true, true, false, false, false, false, false] rfl rfl (by kernel_rfl) (fun _ _ _ h => h) (Or.inl ⟨by rfl, ?_⟩) ?_ ?_
 rotate_left
 ·intro w'
  go_simp
  with_reducible rfl
 rotate_left
 ·simp only [Act.put, List.setIfInBounds_toArray, List.set_cons_zero, List.set_cons_succ, i64_w, i32_w]
  rfl
 refine pure_ (i := 2) (N := some 7) (v := ?_) (a' := ?_) #[true, true, true, false, false, false, false] rfl rfl (by kernel_rfl) (fun _ _ _ h => h) (Or.inl ⟨by rfl, ?_⟩) ?_ ?_
 rotate_left
 ·intro w'
  go_simp
  with_reducible rfl
 rotate_left
 ·simp only [Act.put, List.setIfInBounds_toArray, List.set_cons_zero, List.set_cons_succ, i64_w, i32_w]
  rfl
 refine take_ (i := 3) (N := some 8) (v := ?_) (a' := ?_) #[true, true, true, true, false, false, false] rfl rfl (by kernel_rfl) (fun _ _ _ h => h) (Or.inl ⟨by rfl, ?_⟩) hHeld ?_ ?_
 rotate_left
 ·rintro w' ⟨s0, s1, s2, s3⟩
  go_simp
  with_reducible rfl
 rotate_left
 ·simp only [Act.put, List.setIfInBounds_toArray, List.set_cons_zero, List.set_cons_succ, i64_w, i32_w]
  rfl
 refine take_ (i := 4) (N := some 9) (v := ?_) (a' := ?_) #[true, true, true, true, true, false, false] rfl rfl (by kernel_rfl) (fun _ _ _ h => h) (Or.inl ⟨by rfl, ?_⟩) hHeld ?_ ?_
 rotate_left
 ·rintro w' ⟨s0, s1, s2, s3⟩
  go_simp
  with_reducible rfl
 rotate_left
 ·simp only [Act.put, List.setIfInBounds_toArray, List.set_cons_zero, List.set_cons_succ, i64_w, i32_w]
  rfl
 refine one_ (i := 5) (N := some 10) #[true, true, true, true, true, true, false] rfl rfl (by kernel_rfl) (by decide) (fun K hK => ?_)
 refine goes_ Try.func122 (by kernel_rfl) rfl #[.slice A0_0 l0_0.length c0_0, .agg #[.int .i64 a1_0, .int .i64 a1_1, .int .i64 a1_2]] (by rfl) rfl rfl zl ?_
 with_reducible refine (impl_Node.calls k _ _ l0_0 a1_0 a1_1 a1_2 t290 _ ?side1 ?side2 A3.out).mono ?_
 (case side1 => exact zc (Kd.C_below HR0_0.out HB.out))
 (case side2 => exact HC0_0.out)
 rintro e w6 ⟨rfl, hb⟩
 refine ⟨_, rfl, ?_⟩
 have n0_ := Aside0.mk (blk_below (zh BK0.out) hb)
 have n1_ := Aside0.mk (blk_below (zh BK289.out) hb)
 have n2_ := Aside0.mk (below_step (zb HB.out) hb)
 clear BK0
 clear BK289
 clear HB
 have BK0 := n0_
 have BK289 := n1_
 have HB := n2_
 clear n0_ n1_ n2_
 (try clear hb)
 (try clear hb2)
 (try clear hk)
 (try clear hi)
 refine hK.out _ _ ⟨(blk_cell BK0.out 0).trans rfl, (blk_cell BK289.out 0).trans rfl, (blk_cell BK289.out 1).trans rfl, (blk_cell BK289.out 2).trans rfl⟩ (fun hHeld => ?_)
 clear hK K
 refine norm_ (a' := ?_) ?_ ?_
 rotate_left
 ·show Act.put _ (some 10) _ = _
  simp only [Act.put, List.setIfInBounds_toArray, List.set_cons_zero, List.set_cons_succ, i64_w, i32_w]
  rfl
 refine pure_ (i := 6) (N := some 4) (v := ?_) (a' := ?_) #[true, true, true, true, true, true, true] rfl rfl (by kernel_rfl) (fun _ _ _ h => h) (Or.inl ⟨by rfl, ?_⟩) ?_ ?_
 rotate_left
 ·intro w'
  go_simp
  with_reducible rfl
 rotate_left
 ·simp only [Act.put, List.setIfInBounds_toArray, List.set_cons_zero, List.set_cons_succ, i64_w, i32_w]
  rfl
 refine done_ (by kernel_rfl) ?_
 try go_wp2
 go_ret
 exact ⟨ze, zb HB.out⟩

/-! ### impl_Pool_isMade: function 127 -/
def impl_Pool_isMade.f (k : Nat) (l0_0 : List (S44)) (a1_0 : Int) (a1_1 : Int) (a1_2 : Int) (l2 : List Bool) : Option (Bool) := (impl_Pool_find.f k l0_0 a1_0 a1_1 a1_2).bind fun t292 => (if t292 ≥ 0 then (if 0 ≤ t292 then (if t292 < (l2.length : Int) then (some (rdOf false l2 t292)) else (none)) else (none)) else (some false))
theorem impl_Pool_isMade.mono : ∀ a0 a1 a2 a3 a4 k, LeO (impl_Pool_isMade.f k a0 a1 a2 a3 a4) (impl_Pool_isMade.f (k + 1) a0 a1 a2 a3 a4) := by
 intro a0 a1 a2 a3 a4 k
 unfold impl_Pool_isMade.f
 repeat' first
   | (with_reducible exact impl_Pool_find.mono _ _ _ _ _)
   | (with_reducible exact LeO.refl _)
   | (with_reducible exact LeO.none _)
   | (with_reducible refine LeO.ite ?_ ?_)
   | (with_reducible refine LeO.bind ?_ (fun _ => ?_))
   | exact impl_Pool_find.mono _ _ _ _ _
   | exact LeO.none _
   | refine LeO.ite ?_ ?_
   | refine LeO.bind ?_ (fun _ => ?_)
set_option maxHeartbeats 8000000 in
set_option maxRecDepth 100000 in
theorem impl_Pool_isMade.calls (k : Nat) (g0_ : Nat) (A0_0 : Option Addr) (c0_0 : Nat) (l0_0 : List (S44)) (a1_0 : Int) (a1_1 : Int) (a1_2 : Int) (A2 : Option Addr) (c2 : Nat) (l2 : List Bool) (r : Bool) (w : World) (hk0_ : w.heap[g0_]? = some (.cells #[.slice A0_0 l0_0.length c0_0] 30 (0, 0))) (hr0_0 : Kd.C k44 w A0_0 l0_0.length l0_0) (hc0_0 : l0_0.length ≤ c0_0) (hr2 : Kd.C Kd.bool w A2 l2.length l2) (hc2 : l2.length ≤ c2) (h : impl_Pool_isMade.f k l0_0 a1_0 a1_1 a1_2 l2 = some r) :
  Calls Try.prog 127 #[.pointer (some ⟨g0_, 0, none⟩), .agg #[.int .i64 a1_0, .int .i64 a1_1, .int .i64 a1_2], .slice A2 l2.length c2] w fun e w' => e = .returned (.bool r) ∧ Below w.heap.size w w' := by
 have hu44 := Try.underlying44
 have HR0_0 := Aside0.mk hr0_0
 have HC0_0 := Aside0.mk hc0_0
 clear hr0_0 hc0_0
 have HR2 := Aside0.mk hr2
 have HC2 := Aside0.mk hc2
 clear hr2 hc2
 have BK0 := Aside0.mk hk0_
 clear hk0_
 have HB := Aside0.mk (Below.refl w.heap.size w)
 have H : ((impl_Pool_find.f k l0_0 a1_0 a1_1 a1_2).bind fun t292 => (if t292 ≥ 0 then (if 0 ≤ t292 then (if t292 < (l2.length : Int) then (some (rdOf false l2 t292)) else (none)) else (none)) else (some false))) = some r := h
 clear h
 replace H := Option.bind_eq_some_iff.mp H
 obtain ⟨t292, A40, H⟩ := H
 replace H : (if t292 ≥ 0 then (if 0 ≤ t292 then (if t292 < (l2.length : Int) then (some (rdOf false l2 t292)) else (none)) else (none)) else (some false)) = some r := H
 have A4 := Aside0.mk A40
 clear A40
 by_cases c5 : t292 ≥ 0
 ·rw [if_pos c5] at H
  have c5b0 : decide (0 ≤ t292) = true := decide_eq_true c5
  clear c5
  by_cases c6 : 0 ≤ t292
  ·rw [if_pos c6] at H
   have c6b0 : decide (0 ≤ t292) = true := decide_eq_true c6
   clear c6
   by_cases c7 : t292 < (l2.length : Int)
   ·rw [if_pos c7] at H
    have c7b0 : decide (t292 < (l2.length : Int)) = true := decide_eq_true c7
    clear c7
    obtain rfl := Option.some.inj H
    go_enter Try.func127, Try.ntmps127
    go_wp2_with (first | ((with_reducible refine gate_dst (N := 4) rfl ?_); refine box_event ?hg (N := 4) ?hd (cs := #[.int .i64 a1_0, .int .i64 a1_1, .int .i64 a1_2]) (t := 44) ?hr ?_; (case hd => rfl); (case hg => rfl); (case hr => first | (go_simp; done) | (go_simp; rfl)); intro gb291 hg w8 hbox hb; have n0_ := Aside0.mk (blk_below (zh BK0.out) hb); have n1_ := Aside0.mk (below_step (zb HB.out) hb); have n2_ := Aside0.mk (hbox); have n3_ := Aside0.mk ((by rw [hg]; exact (below_size (zb HB.out)) : w.heap.size ≤ gb291)); have n4_ := Aside0.mk ((by rw [hg]; exact (below_size (zb HB.out)) : w.heap.size ≤ gb291)); have n5_ := Aside0.mk ((by rw [hg]; exact Nat.ne_of_lt (blk_lt (zh BK0.out)) : g0_ ≠ gb291)); have n6_ := Aside0.mk ((by rw [hg]; exact Nat.ne_of_gt (blk_lt (zh BK0.out)) : gb291 ≠ g0_)); clear BK0; clear HB; have BK0 := n0_; have HB := n1_; have BK291 := n2_; have GW291 := n3_; have GE291 := n4_; have NB0_291 := n5_; have NB291_0 := n6_; clear n0_ n1_ n2_ n3_ n4_ n5_ n6_; clear hb hbox hg; have hnb9 := NB291_0.out; have hnc9 := NB0_291.out; have hcz10_0 : w8.cell? ⟨gb291, 0, none⟩ = some (.int .i64 a1_0) := (blk_cell BK291.out 0).trans rfl; have hcz10_1 : w8.cell? ⟨gb291, 1, none⟩ = some (.int .i64 a1_1) := (blk_cell BK291.out 1).trans rfl; have hcz10_2 : w8.cell? ⟨gb291, 2, none⟩ = some (.int .i64 a1_2) := (blk_cell BK291.out 2).trans rfl; have hfz10_0 := blk_frozen BK291.out 0; have hfz10_1 := blk_frozen BK291.out 1; have hfz10_2 := blk_frozen BK291.out 2) | ((with_reducible refine gate_callee (f := 111) rfl ?_); refine goesL_ (some 10) rfl rfl Try.func111 (by kernel_rfl) rfl #[.pointer (some ⟨g0_, 0, none⟩), .agg #[.int .i64 a1_0, .int .i64 a1_1, .int .i64 a1_2]] rfl zl ?_; (with_reducible refine (impl_Pool_find.calls k _ A0_0 c0_0 l0_0 a1_0 a1_1 a1_2 t292 _ ?side1 ?side2 ?side3 A4.out).mono ?_); (case side1 => exact zh BK0.out); (case side2 => exact zc (Kd.C_below HR0_0.out HB.out)); (case side3 => exact HC0_0.out); rintro e w11 ⟨rfl, hb⟩; refine ⟨_, rfl, ?_⟩; have n0_ := Aside0.mk (blk_below (zh BK0.out) hb); have n1_ := Aside0.mk (blk_below (zh BK291.out) hb); have n2_ := Aside0.mk (below_step (zb HB.out) hb); clear BK0; clear BK291; clear HB; have BK0 := n0_; have BK291 := n1_; have HB := n2_; clear n0_ n1_ n2_; (try clear hb); (try clear hb2); (try clear hk); (try clear hi); have p293 : 0 ≤ (t292 : Int) := of_decide_eq_true (by first | (with_reducible assumption) | assumption); have q293 : t292 < (l2.length : Int) := of_decide_eq_true (by first | (with_reducible assumption) | assumption); obtain ⟨ad293, e293, hx293_0⟩ := Kd.at_bool HR2.out t292 p293 q293; cases e293; replace hx293_0 := (HB.out.cell (World.block_lt_of_cell? w _ hx293_0)).trans hx293_0; replace p293 := eq_true p293; replace q293 := eq_true q293))
    go_ret
    exact ⟨ze, zb HB.out⟩
   ·rw [if_neg c7] at H
    exact absurd H (by simp)
  ·rw [if_neg c6] at H
   exact absurd H (by simp)
 ·rw [if_neg c5] at H
  have c5b0 : decide (0 ≤ t292) = false := decide_eq_false c5
  clear c5
  obtain rfl := Option.some.inj H
  go_enter Try.func127, Try.ntmps127
  go_wp2_with (first | ((with_reducible refine gate_dst (N := 4) rfl ?_); refine box_event ?hg (N := 4) ?hd (cs := #[.int .i64 a1_0, .int .i64 a1_1, .int .i64 a1_2]) (t := 44) ?hr ?_; (case hd => rfl); (case hg => rfl); (case hr => first | (go_simp; done) | (go_simp; rfl)); intro gb291 hg w12 hbox hb; have n0_ := Aside0.mk (blk_below (zh BK0.out) hb); have n1_ := Aside0.mk (below_step (zb HB.out) hb); have n2_ := Aside0.mk (hbox); have n3_ := Aside0.mk ((by rw [hg]; exact (below_size (zb HB.out)) : w.heap.size ≤ gb291)); have n4_ := Aside0.mk ((by rw [hg]; exact (below_size (zb HB.out)) : w.heap.size ≤ gb291)); have n5_ := Aside0.mk ((by rw [hg]; exact Nat.ne_of_lt (blk_lt (zh BK0.out)) : g0_ ≠ gb291)); have n6_ := Aside0.mk ((by rw [hg]; exact Nat.ne_of_gt (blk_lt (zh BK0.out)) : gb291 ≠ g0_)); clear BK0; clear HB; have BK0 := n0_; have HB := n1_; have BK291 := n2_; have GW291 := n3_; have GE291 := n4_; have NB0_291 := n5_; have NB291_0 := n6_; clear n0_ n1_ n2_ n3_ n4_ n5_ n6_; clear hb hbox hg; have hnb13 := NB291_0.out; have hnc13 := NB0_291.out; have hcz14_0 : w12.cell? ⟨gb291, 0, none⟩ = some (.int .i64 a1_0) := (blk_cell BK291.out 0).trans rfl; have hcz14_1 : w12.cell? ⟨gb291, 1, none⟩ = some (.int .i64 a1_1) := (blk_cell BK291.out 1).trans rfl; have hcz14_2 : w12.cell? ⟨gb291, 2, none⟩ = some (.int .i64 a1_2) := (blk_cell BK291.out 2).trans rfl; have hfz14_0 := blk_frozen BK291.out 0; have hfz14_1 := blk_frozen BK291.out 1; have hfz14_2 := blk_frozen BK291.out 2) | ((with_reducible refine gate_callee (f := 111) rfl ?_); refine goesL_ (some 10) rfl rfl Try.func111 (by kernel_rfl) rfl #[.pointer (some ⟨g0_, 0, none⟩), .agg #[.int .i64 a1_0, .int .i64 a1_1, .int .i64 a1_2]] rfl zl ?_; (with_reducible refine (impl_Pool_find.calls k _ A0_0 c0_0 l0_0 a1_0 a1_1 a1_2 t292 _ ?side1 ?side2 ?side3 A4.out).mono ?_); (case side1 => exact zh BK0.out); (case side2 => exact zc (Kd.C_below HR0_0.out HB.out)); (case side3 => exact HC0_0.out); rintro e w15 ⟨rfl, hb⟩; refine ⟨_, rfl, ?_⟩; have n0_ := Aside0.mk (blk_below (zh BK0.out) hb); have n1_ := Aside0.mk (blk_below (zh BK291.out) hb); have n2_ := Aside0.mk (below_step (zb HB.out) hb); clear BK0; clear BK291; clear HB; have BK0 := n0_; have BK291 := n1_; have HB := n2_; clear n0_ n1_ n2_; (try clear hb); (try clear hb2); (try clear hk); (try clear hi)))
  go_ret
  exact ⟨ze, zb HB.out⟩

end Go.Proofs.Ytdgahpigcaejbaa.E
end

section
-- Written by this session's program (wip/tools/gprint.py over the kit's print) out of the translation; Lean checks it.
namespace Go.Proofs.Ytdgahpigcaejbaa.E
open Go.RowKit Go.Proofs.YtdgahpigcaejbaaW.PrintWords Go.Proofs.YtdgahpigcaejbaaW.PrintLast Go.Proofs.YtdgahpigcaejbaaW.PrintMore
attribute [local go_sem] max2_int min2_int max_two min_two max_three min_three max_four min_four   -- for this text's walks alone
set_option linter.unusedVariables false
set_option linter.unusedSimpArgs false
set_option maxRecDepth 100000

/-! ### impl_Pool_canMake: function 115 -/
mutual
def impl_Pool_canMake.l0 : Nat → List Bool → Bool → List Int → Int → Int → List (S44) → Int → Int → Int → Option (Bool)
 | 0, _, _, _, _, _, _, _, _, _ => none
 | k + 1, x2, x8, x26, x27, x28, x1000, x296000, x296001, x296002 => if x28 < x27 then (if 0 ≤ x28 then (if x28 < (x26.length : Int) then (if x8 = true then (if 0 ≤ (rd x26 x28) then (if (rd x26 x28) < (x2.length : Int) then (impl_Pool_canMake.l0 k x2 (rdOf false x2 (rd x26 x28)) x26 x27 (wrap64 (x28 + 1)) x1000 x296000 x296001 x296002) else (none)) else (none)) else (impl_Pool_canMake.l0 k x2 false x26 x27 (wrap64 (x28 + 1)) x1000 x296000 x296001 x296002)) else (none)) else (none)) else (if x8 = true then (impl_Pool_canMake.j1 k x2 x8 true x1000 x296000 x296001 x296002) else (impl_Pool_canMake.j1 k x2 x8 (x296000 != 8) x1000 x296000 x296001 x296002))
def impl_Pool_canMake.j1 : Nat → List Bool → Bool → Bool → List (S44) → Int → Int → Int → Option (Bool)
 | 0, _, _, _, _, _, _, _ => none
 | k + 1, x2, x8, x45, x1000, x296000, x296001, x296002 => if x45 = true then (some x8) else (if 0 ≤ x296001 then (if x296001 < (x2.length : Int) then (if rdOf false x2 x296001 = true then ((impl_Pool_isMade.f k x1000 7 x296002 0 x2).bind fun t303 => (if t303 = true then (some true) else (if 0 ≤ x296002 then (if x296002 < (x2.length : Int) then (if rdOf false x2 x296002 = true then ((impl_Pool_isMade.f k x1000 7 x296001 0 x2).bind fun t305 => (some t305)) else (some false)) else (none)) else (none)))) else (if 0 ≤ x296002 then (if x296002 < (x2.length : Int) then (if rdOf false x2 x296002 = true then ((impl_Pool_isMade.f k x1000 7 x296001 0 x2).bind fun t307 => (some t307)) else (some false)) else (none)) else (none))) else (none)) else (none))
end
def impl_Pool_canMake.f (k : Nat) (l0_0 : List (S44)) (a1 : Int) (l2 : List Bool) : Option (Bool) := if 0 ≤ a1 then (if a1 < (l0_0.length : Int) then (if ((rd_T44 l0_0 a1).f0) = 1 then ((impl_IsPublic.f ((rd_T44 l0_0 a1).f1)).bind fun t296 => (some t296)) else ((impl_Pool_parts.f k l0_0 a1).bind fun t297 => (impl_Pool_canMake.l0 k l2 true t297 (t297.length : Int) 0 l0_0 ((rd_T44 l0_0 a1).f0) ((rd_T44 l0_0 a1).f1) ((rd_T44 l0_0 a1).f2)))) else (none)) else (none)
theorem impl_Pool_canMake.mono_l : ∀ k, (∀ y0 y1 y2 y3 y4 y5 y6 y7 y8, LeO (impl_Pool_canMake.l0 k y0 y1 y2 y3 y4 y5 y6 y7 y8) (impl_Pool_canMake.l0 (k + 1) y0 y1 y2 y3 y4 y5 y6 y7 y8)) ∧ (∀ y0 y1 y2 y3 y4 y5 y6, LeO (impl_Pool_canMake.j1 k y0 y1 y2 y3 y4 y5 y6) (impl_Pool_canMake.j1 (k + 1) y0 y1 y2 y3 y4 y5 y6))
 | 0 => ⟨fun _ _ _ _ _ _ _ _ _ r h => by simp [impl_Pool_canMake.l0] at h, fun _ _ _ _ _ _ _ r h => by simp [impl_Pool_canMake.j1] at h⟩
 | k + 1 => by
  obtain ⟨ih0, ih1⟩ := impl_Pool_canMake.mono_l k
  refine ⟨?_, ?_⟩
  ·intro y0 y1 y2 y3 y4 y5 y6 y7 y8
   unfold impl_Pool_canMake.l0
   repeat' first
   | (with_reducible exact ih0 _ _ _ _ _ _ _ _ _)
   | (with_reducible exact ih1 _ _ _ _ _ _ _)
   | (with_reducible exact impl_Pool_isMade.mono _ _ _ _ _ _)
   | (with_reducible exact impl_Pool_parts.mono _ _ _)
   | (with_reducible exact LeO.refl _)
   | (with_reducible exact LeO.none _)
   | (with_reducible refine LeO.ite ?_ ?_)
   | (with_reducible refine LeO.bind ?_ (fun _ => ?_))
   | exact ih0 _ _ _ _ _ _ _ _ _
   | exact ih1 _ _ _ _ _ _ _
   | exact impl_Pool_isMade.mono _ _ _ _ _ _
   | exact impl_Pool_parts.mono _ _ _
   | exact LeO.none _
   | refine LeO.ite ?_ ?_
   | refine LeO.bind ?_ (fun _ => ?_)
  ·intro y0 y1 y2 y3 y4 y5 y6
   unfold impl_Pool_canMake.j1
   repeat' first
   | (with_reducible exact ih0 _ _ _ _ _ _ _ _ _)
   | (with_reducible exact ih1 _ _ _ _ _ _ _)
   | (with_reducible exact impl_Pool_isMade.mono _ _ _ _ _ _)
   | (with_reducible exact impl_Pool_parts.mono _ _ _)
   | (with_reducible exact LeO.refl _)
   | (with_reducible exact LeO.none _)
   | (with_reducible refine LeO.ite ?_ ?_)
   | (with_reducible refine LeO.bind ?_ (fun _ => ?_))
   | exact ih0 _ _ _ _ _ _ _ _ _
   | exact ih1 _ _ _ _ _ _ _
   | exact impl_Pool_isMade.mono _ _ _ _ _ _
   | exact impl_Pool_parts.mono _ _ _
   | exact LeO.none _
   | refine LeO.ite ?_ ?_
   | refine LeO.bind ?_ (fun _ => ?_)
theorem impl_Pool_canMake.mono : ∀ a0 a1 a2 k, LeO (impl_Pool_canMake.f k a0 a1 a2) (impl_Pool_canMake.f (k + 1) a0 a1 a2) := by
 intro a0 a1 a2 k
 obtain ⟨ih0, ih1⟩ := impl_Pool_canMake.mono_l k
 unfold impl_Pool_canMake.f
 repeat' first
   | (with_reducible exact ih0 _ _ _ _ _ _ _ _ _)
   | (with_reducible exact ih1 _ _ _ _ _ _ _)
   | (with_reducible exact impl_Pool_isMade.mono _ _ _ _ _ _)
   | (with_reducible exact impl_Pool_parts.mono _ _ _)
   | (with_reducible exact LeO.refl _)
   | (with_reducible exact LeO.none _)
   | (with_reducible refine LeO.ite ?_ ?_)
   | (with_reducible refine LeO.bind ?_ (fun _ => ?_))
   | exact ih0 _ _ _ _ _ _ _ _ _
   | exact ih1 _ _ _ _ _ _ _
   | exact impl_Pool_isMade.mono _ _ _ _ _ _
   | exact impl_Pool_parts.mono _ _ _
   | exact LeO.none _
   | refine LeO.ite ?_ ?_
   | refine LeO.bind ?_ (fun _ => ?_)
set_option maxHeartbeats 8000000 in
set_option maxRecDepth 100000 in
theorem impl_Pool_canMake.calls (k : Nat) (g0_ : Nat) (A0_0 : Option Addr) (c0_0 : Nat) (l0_0 : List (S44)) (a1 : Int) (A2 : Option Addr) (c2 : Nat) (l2 : List Bool) (r : Bool) (w : World) (hk0_ : w.heap[g0_]? = some (.cells #[.slice A0_0 l0_0.length c0_0] 30 (0, 0))) (hr0_0 : Kd.C k44 w A0_0 l0_0.length l0_0) (hc0_0 : l0_0.length ≤ c0_0) (hr2 : Kd.C Kd.bool w A2 l2.length l2) (hc2 : l2.length ≤ c2) (h : impl_Pool_canMake.f k l0_0 a1 l2 = some r) :
  Calls Try.prog 115 #[.pointer (some ⟨g0_, 0, none⟩), .int .i64 a1, .slice A2 l2.length c2] w fun e w' => e = .returned (.bool r) ∧ Below w.heap.size w w' := by
 have hu44 := Try.underlying44
 have HR0_0 := Aside0.mk hr0_0
 have HC0_0 := Aside0.mk hc0_0
 clear hr0_0 hc0_0
 have HR2 := Aside0.mk hr2
 have HC2 := Aside0.mk hc2
 clear hr2 hc2
 have BK0 := Aside0.mk hk0_
 clear hk0_
 have HB := Aside0.mk (Below.refl w.heap.size w)
 have H : (if 0 ≤ a1 then (if a1 < (l0_0.length : Int) then (if ((rd_T44 l0_0 a1).f0) = 1 then ((impl_IsPublic.f ((rd_T44 l0_0 a1).f1)).bind fun t296 => (some t296)) else ((impl_Pool_parts.f k l0_0 a1).bind fun t297 => (impl_Pool_canMake.l0 k l2 true t297 (t297.length : Int) 0 l0_0 ((rd_T44 l0_0 a1).f0) ((rd_T44 l0_0 a1).f1) ((rd_T44 l0_0 a1).f2)))) else (none)) else (none)) = some r := h
 clear h
 by_cases c4 : 0 ≤ a1
 ·rw [if_pos c4] at H
  have c4b0 : decide (0 ≤ a1) = true := decide_eq_true c4
  clear c4
  by_cases c5 : a1 < (l0_0.length : Int)
  ·rw [if_pos c5] at H
   have c5b0 : decide (a1 < (l0_0.length : Int)) = true := decide_eq_true c5
   clear c5
   by_cases c6 : ((rd_T44 l0_0 a1).f0) = 1
   ·rw [if_pos c6] at H
    have c6b0 : (((rd_T44 l0_0 a1).f0) == 1) = true := beq_iff_eq.mpr c6
    have c6b1 : (((rd_T44 l0_0 a1).f0) != 1) = false := bne_eq_false_iff_eq.mpr c6
    clear c6
    replace H := Option.bind_eq_some_iff.mp H
    obtain ⟨t296, A70, H⟩ := H
    replace H : (some t296) = some r := H
    have A7 := Aside0.mk A70
    clear A70
    obtain rfl := Option.some.inj H
    have hcz8_0 : w.cell? ⟨g0_, 0, none⟩ = some (.slice A0_0 l0_0.length c0_0) := (blk_cell BK0.out 0).trans rfl
    have hfz8_0 := blk_frozen BK0.out 0
    have p294 : 0 ≤ (a1 : Int) := of_decide_eq_true (by first | (with_reducible assumption) | assumption)
    have q294 : a1 < (l0_0.length : Int) := of_decide_eq_true (by first | (with_reducible assumption) | assumption)
    obtain ⟨ad294, e294, hx294_0, hx294_1, hx294_2⟩ := at_T44 HR0_0.out a1 p294 q294
    cases e294
    replace p294 := eq_true p294
    replace q294 := eq_true q294
    go_enter Try.func115, Try.ntmps115
    go_wp2_with (first | ((with_reducible refine gate_dst (N := 7) rfl ?_); refine box_event ?hg (N := 7) ?hd (cs := #[.int .i64 0, .int .i64 0, .int .i64 0]) (t := 44) ?hr ?_; (case hd => rfl); (case hg => rfl); (case hr => first | (go_simp; done) | (go_simp; rfl)); intro gb295 hg w9 hbox hb; have n0_ := Aside0.mk (blk_below (zh BK0.out) hb); have n1_ := Aside0.mk (below_step (zb HB.out) hb); have n2_ := Aside0.mk (hbox); have n3_ := Aside0.mk ((by rw [hg]; exact (below_size (zb HB.out)) : w.heap.size ≤ gb295)); have n4_ := Aside0.mk ((by rw [hg]; exact (below_size (zb HB.out)) : w.heap.size ≤ gb295)); have n5_ := Aside0.mk ((by rw [hg]; exact Nat.ne_of_lt (blk_lt (zh BK0.out)) : g0_ ≠ gb295)); have n6_ := Aside0.mk ((by rw [hg]; exact Nat.ne_of_gt (blk_lt (zh BK0.out)) : gb295 ≠ g0_)); clear BK0; clear HB; have BK0 := n0_; have HB := n1_; have BK295 := n2_; have GW295 := n3_; have GE295 := n4_; have NB0_295 := n5_; have NB295_0 := n6_; clear n0_ n1_ n2_ n3_ n4_ n5_ n6_; clear hb hbox hg; have hnb10 := NB295_0.out; have hnc10 := NB0_295.out; have hcz11_0 : w9.cell? ⟨gb295, 0, none⟩ = some (.int .i64 0) := (blk_cell BK295.out 0).trans rfl; have hcz11_1 : w9.cell? ⟨gb295, 1, none⟩ = some (.int .i64 0) := (blk_cell BK295.out 1).trans rfl; have hcz11_2 : w9.cell? ⟨gb295, 2, none⟩ = some (.int .i64 0) := (blk_cell BK295.out 2).trans rfl; have hfz11_0 := blk_frozen BK295.out 0; have hfz11_1 := blk_frozen BK295.out 1; have hfz11_2 := blk_frozen BK295.out 2) | ((with_reducible refine gate_callee (f := 126) rfl ?_); refine goesL_ (some 23) rfl rfl Try.func126 (by kernel_rfl) rfl #[.int .i64 ((rd_T44 l0_0 a1).f1)] rfl zl ?_; (with_reducible refine (impl_IsPublic.calls ((rd_T44 l0_0 a1).f1) t296 _ A7.out).mono ?_); rintro e w' ⟨rfl, ⟨nd, rfl⟩⟩; refine ⟨_, rfl, ?_⟩))
    go_ret
    exact ⟨ze, zb HB.out⟩
   ·rw [if_neg c6] at H
    have c6b0 : (((rd_T44 l0_0 a1).f0) == 1) = false := beq_eq_false_iff_ne.mpr c6
    have c6b1 : (((rd_T44 l0_0 a1).f0) != 1) = true := bne_iff_ne.mpr c6
    replace H := Option.bind_eq_some_iff.mp H
    obtain ⟨t297, A120, H⟩ := H
    replace H : (impl_Pool_canMake.l0 k l2 true t297 (t297.length : Int) 0 l0_0 ((rd_T44 l0_0 a1).f0) ((rd_T44 l0_0 a1).f1) ((rd_T44 l0_0 a1).f2)) = some r := H
    have A12 := Aside0.mk A120
    clear A120
    have H' := Aside0.mk H
    clear H
    have hcz13_0 : w.cell? ⟨g0_, 0, none⟩ = some (.slice A0_0 l0_0.length c0_0) := (blk_cell BK0.out 0).trans rfl
    have hfz13_0 := blk_frozen BK0.out 0
    have p294 : 0 ≤ (a1 : Int) := of_decide_eq_true (by first | (with_reducible assumption) | assumption)
    have q294 : a1 < (l0_0.length : Int) := of_decide_eq_true (by first | (with_reducible assumption) | assumption)
    obtain ⟨ad294, e294, hx294_0, hx294_1, hx294_2⟩ := at_T44 HR0_0.out a1 p294 q294
    cases e294
    replace p294 := eq_true p294
    replace q294 := eq_true q294
    go_enter Try.func115, Try.ntmps115
    go_wp2_with (first | ((with_reducible refine gate_dst (N := 7) rfl ?_); refine box_event ?hg (N := 7) ?hd (cs := #[.int .i64 0, .int .i64 0, .int .i64 0]) (t := 44) ?hr ?_; (case hd => rfl); (case hg => rfl); (case hr => first | (go_simp; done) | (go_simp; rfl)); intro gb295 hg w14 hbox hb; have n0_ := Aside0.mk (blk_below (zh BK0.out) hb); have n1_ := Aside0.mk (below_step (zb HB.out) hb); have n2_ := Aside0.mk (hbox); have n3_ := Aside0.mk ((by rw [hg]; exact (below_size (zb HB.out)) : w.heap.size ≤ gb295)); have n4_ := Aside0.mk ((by rw [hg]; exact (below_size (zb HB.out)) : w.heap.size ≤ gb295)); have n5_ := Aside0.mk ((by rw [hg]; exact Nat.ne_of_lt (blk_lt (zh BK0.out)) : g0_ ≠ gb295)); have n6_ := Aside0.mk ((by rw [hg]; exact Nat.ne_of_gt (blk_lt (zh BK0.out)) : gb295 ≠ g0_)); clear BK0; clear HB; have BK0 := n0_; have HB := n1_; have BK295 := n2_; have GW295 := n3_; have GE295 := n4_; have NB0_295 := n5_; have NB295_0 := n6_; clear n0_ n1_ n2_ n3_ n4_ n5_ n6_; clear hb hbox hg; have hnb15 := NB295_0.out; have hnc15 := NB0_295.out; have hcz16_0 : w14.cell? ⟨gb295, 0, none⟩ = some (.int .i64 0) := (blk_cell BK295.out 0).trans rfl; have hcz16_1 : w14.cell? ⟨gb295, 1, none⟩ = some (.int .i64 0) := (blk_cell BK295.out 1).trans rfl; have hcz16_2 : w14.cell? ⟨gb295, 2, none⟩ = some (.int .i64 0) := (blk_cell BK295.out 2).trans rfl; have hfz16_0 := blk_frozen BK295.out 0; have hfz16_1 := blk_frozen BK295.out 1; have hfz16_2 := blk_frozen BK295.out 2) | ((with_reducible refine gate_callee (f := 53) rfl ?_); refine goesL_ (some 26) rfl rfl Try.func53 (by kernel_rfl) rfl #[.pointer (some ⟨g0_, 0, none⟩), .int .i64 a1] rfl zl ?_; (with_reducible refine (impl_Pool_parts.calls k _ (some ad294) c0_0 l0_0 a1 t297 _ ?side1 ?side2 ?side3 A12.out).mono ?_); (case side1 => exact zf BK0.out); (case side2 => exact Kd.C_below HR0_0.out (zb HB.out)); (case side3 => exact HC0_0.out); rintro e w17 ⟨v298, rfl, ho0, hb⟩; refine ⟨_, rfl, ?_⟩; have n0_ := Aside0.mk (Kd.R_lower ho0 (below_size (zb HB.out))); have n1_ := Aside0.mk (blk_below (g := g0_) (o := .cells #[.slice (some ad294) l0_0.length c0_0] 30 (0, 0)) (zf BK0.out) hb); have n2_ := Aside0.mk (blk_below (g := gb295) (o := .cells #[.int .i64 ((rd_T44 l0_0 a1).f0), .int .i64 ((rd_T44 l0_0 a1).f1), .int .i64 ((rd_T44 l0_0 a1).f2)] 44 (0, 0)) (by (with_reducible repeat (first | refine blk_drewN ?_ _ | refine blk_drew ?_ | refine blk_alloc ?_ _)); refine blk_put (cs := #[.int .i64 ((rd_T44 l0_0 a1).f0), .int .i64 ((rd_T44 l0_0 a1).f1), .int .i64 0]) ?_ 2 _ rfl; (with_reducible repeat (first | refine blk_drewN ?_ _ | refine blk_drew ?_ | refine blk_alloc ?_ _)); refine blk_put (cs := #[.int .i64 ((rd_T44 l0_0 a1).f0), .int .i64 0, .int .i64 0]) ?_ 1 _ rfl; (with_reducible repeat (first | refine blk_drewN ?_ _ | refine blk_drew ?_ | refine blk_alloc ?_ _)); refine blk_put (cs := #[.int .i64 0, .int .i64 0, .int .i64 0]) ?_ 0 _ rfl; (with_reducible repeat (first | refine blk_drewN ?_ _ | refine blk_drew ?_ | refine blk_alloc ?_ _)); exact BK295.out) hb); have n3_ := Aside0.mk (below_step (zb HB.out) hb); clear BK0; clear BK295; clear HB; have HO299 := n0_; have BK0 := n1_; have BK295 := n2_; have HB := n3_; clear n0_ n1_ n2_ n3_; (try clear hb); (try clear hb2); (try clear hk); (try clear hi); (try clear ho0); obtain ⟨Ao18, co18, eo18⟩ := Kd.R_slice HO299.out; subst eo18))
    go_loopg [8, 28] k (fun kq v8 v28 w' => ∃ (x8_1 : Bool) (x28_1 : Int), v8 = .bool x8_1 ∧ v28 = .int .i64 x28_1 ∧ Aside0 (impl_Pool_canMake.l0 kq l2 x8_1 t297 (t297.length : Int) x28_1 l0_0 ((rd_T44 l0_0 a1).f0) ((rd_T44 l0_0 a1).f1) ((rd_T44 l0_0 a1).f2) = some r) ∧ Aside0 (kq ≤ k) ∧ Aside0 (Kd.R (Kd.int .i64) 3 w' w.heap.size (fun _ => True) (.slice Ao18 t297.length co18) t297) ∧ Aside0 (w'.heap[g0_]? = some (.cells #[(.slice (some ad294) l0_0.length c0_0)] 30 (0, 0))) ∧ Aside0 (w'.heap[gb295]? = some (.cells #[.int .i64 ((rd_T44 l0_0 a1).f0), .int .i64 ((rd_T44 l0_0 a1).f1), .int .i64 ((rd_T44 l0_0 a1).f2)] 44 (0, 0))) ∧ Aside0 (Below w.heap.size w w'))
    case atStart => exact ⟨(true), (0), (by first | rfl | (simp; done) | (simp [*]; done)), (by first | rfl | (simp; done) | (simp [*]; done)), H', ⟨Nat.le_refl _⟩, ⟨zr HO299.out⟩, ⟨zh BK0.out⟩, ⟨zh BK295.out⟩, ⟨zb HB.out⟩⟩
    case round =>
     clear H'
     try clear c1
     try clear c2
     try clear p2
     try clear q2
     try clear hx2
     try clear c4
     try clear c4b0
     try clear c5
     try clear c5b0
     try clear c6
     try clear c6b0
     try clear c6b1
     try clear c10
     try clear c11
     try clear c12
     try clear c15
     try clear hcz11_0
     try clear hcz11_1
     try clear hcz11_2
     try clear hcz13_0
     try clear hcz16_0
     try clear hcz16_1
     try clear hcz16_2
     try clear hcz8_0
     try clear hfz11_0
     try clear hfz11_1
     try clear hfz11_2
     try clear hfz13_0
     try clear hfz16_0
     try clear hfz16_1
     try clear hfz16_2
     try clear hfz8_0
     try clear hx294_0
     try clear hx294_1
     try clear hx294_2
     try clear p294
     try clear q294
     obtain ⟨x8_1, x28_1, rfl, rfl, HA, HK1, HO_26, BK0, BK295, HB⟩ := hrel
     cases gk with
     | zero => exact absurd HA.out (by simp [impl_Pool_canMake.l0])
     | succ k1 =>
      have H := HA.out
      clear HA
      simp only [impl_Pool_canMake.l0] at H
      by_cases c19 : x28_1 < (t297.length : Int)
      ·rw [if_pos c19] at H
       have c19b0 : decide (x28_1 < (t297.length : Int)) = true := decide_eq_true c19
       clear c19
       by_cases c20 : 0 ≤ x28_1
       ·rw [if_pos c20] at H
        have c20b0 : decide (0 ≤ x28_1) = true := decide_eq_true c20
        clear c20
        by_cases c21 : x28_1 < (t297.length : Int)
        ·rw [if_pos c21] at H
         have c21b0 : decide (x28_1 < (t297.length : Int)) = true := decide_eq_true c21
         clear c21
         by_cases c22 : x8_1 = true
         ·subst c22
          have H1 : (if 0 ≤ (rd t297 x28_1) then (if (rd t297 x28_1) < (l2.length : Int) then (impl_Pool_canMake.l0 k1 l2 (rdOf false l2 (rd t297 x28_1)) t297 (t297.length : Int) (wrap64 (x28_1 + 1)) l0_0 ((rd_T44 l0_0 a1).f0) ((rd_T44 l0_0 a1).f1) ((rd_T44 l0_0 a1).f2)) else (none)) else (none)) = some r := by rw [if_pos rfl] at H; exact H
          clear H
          have H := H1
          clear H1
          by_cases c23 : 0 ≤ (rd t297 x28_1)
          ·rw [if_pos c23] at H
           have c23b0 : decide (0 ≤ (rd t297 x28_1)) = true := decide_eq_true c23
           clear c23
           by_cases c24 : (rd t297 x28_1) < (l2.length : Int)
           ·rw [if_pos c24] at H
            have c24b0 : decide ((rd t297 x28_1) < (l2.length : Int)) = true := decide_eq_true c24
            clear c24
            have H' := Aside0.mk H
            clear H
            have p300 : 0 ≤ (x28_1 : Int) := of_decide_eq_true (by first | (with_reducible assumption) | assumption)
            have q300 : x28_1 < (t297.length : Int) := of_decide_eq_true (by first | (with_reducible assumption) | assumption)
            obtain ⟨ad300, e300, hx300_0⟩ := Kd.at_int (Kd.R_reads' HO_26.out).2.2 x28_1 p300 q300
            cases e300
            replace p300 := eq_true p300
            replace q300 := eq_true q300
            have p301 : 0 ≤ ((rd t297 x28_1) : Int) := of_decide_eq_true (by first | (with_reducible assumption) | assumption)
            have q301 : (rd t297 x28_1) < (l2.length : Int) := of_decide_eq_true (by first | (with_reducible assumption) | assumption)
            obtain ⟨ad301, e301, hx301_0⟩ := Kd.at_bool HR2.out (rd t297 x28_1) p301 q301
            cases e301
            replace hx301_0 := (HB.out.cell (World.block_lt_of_cell? w _ hx301_0)).trans hx301_0
            replace p301 := eq_true p301
            replace q301 := eq_true q301
            go_wp2
            go_roundg k1
            case measure => have := HK1.out; omega
            case rel => exact ⟨(rdOf false l2 (rd t297 x28_1)), (wrap64 (x28_1 + 1)), (by first | rfl | (simp; done) | (simp [*]; done)), (by first | rfl | (simp; done) | (simp [*]; done)), H', ⟨by have := HK1.out; omega⟩, ⟨zr HO_26.out⟩, ⟨zh BK0.out⟩, ⟨zh BK295.out⟩, ⟨zb HB.out⟩⟩
           ·rw [if_neg c24] at H
            exact absurd H (by simp)
          ·rw [if_neg c23] at H
           exact absurd H (by simp)
         ·replace c22 := Bool.eq_false_iff.mpr c22
          subst c22
          have H1 : (impl_Pool_canMake.l0 k1 l2 false t297 (t297.length : Int) (wrap64 (x28_1 + 1)) l0_0 ((rd_T44 l0_0 a1).f0) ((rd_T44 l0_0 a1).f1) ((rd_T44 l0_0 a1).f2)) = some r := by rw [if_neg (show ¬ (false = true) by decide)] at H; exact H
          clear H
          have H := H1
          clear H1
          have H' := Aside0.mk H
          clear H
          have p300 : 0 ≤ (x28_1 : Int) := of_decide_eq_true (by first | (with_reducible assumption) | assumption)
          have q300 : x28_1 < (t297.length : Int) := of_decide_eq_true (by first | (with_reducible assumption) | assumption)
          obtain ⟨ad300, e300, hx300_0⟩ := Kd.at_int (Kd.R_reads' HO_26.out).2.2 x28_1 p300 q300
          cases e300
          replace p300 := eq_true p300
          replace q300 := eq_true q300
          go_wp2
          go_roundg k1
          case measure => have := HK1.out; omega
          case rel => exact ⟨(false), (wrap64 (x28_1 + 1)), (by first | rfl | (simp; done) | (simp [*]; done)), (by first | rfl | (simp; done) | (simp [*]; done)), H', ⟨by have := HK1.out; omega⟩, ⟨zr HO_26.out⟩, ⟨zh BK0.out⟩, ⟨zh BK295.out⟩, ⟨zb HB.out⟩⟩
        ·rw [if_neg c21] at H
         exact absurd H (by simp)
       ·rw [if_neg c20] at H
        exact absurd H (by simp)
      ·rw [if_neg c19] at H
       have c19b0 : decide (x28_1 < (t297.length : Int)) = false := decide_eq_false c19
       clear c19
       have HC25 := Aside0.mk H
       clear H
       go_upto_region 10 with (fail)
       go_cut [45] (fun v45 wc => ∃ (kq : Nat) (x45_24 : Bool), v45 = .bool x45_24 ∧ Aside0 (impl_Pool_canMake.j1 kq l2 x8_1 x45_24 l0_0 ((rd_T44 l0_0 a1).f0) ((rd_T44 l0_0 a1).f1) ((rd_T44 l0_0 a1).f2) = some r) ∧ Aside0 (kq ≤ k1) ∧ Aside0 (wc.heap[g0_]? = some (.cells #[(.slice (some ad294) l0_0.length c0_0)] 30 (0, 0))) ∧ Aside0 (wc.heap[gb295]? = some (.cells #[.int .i64 ((rd_T44 l0_0 a1).f0), .int .i64 ((rd_T44 l0_0 a1).f1), .int .i64 ((rd_T44 l0_0 a1).f2)] 44 (0, 0))) ∧ Aside0 (Below w.heap.size w wc))
       case first =>
        have H := HC25.out
        clear HC25
        by_cases c26 : x8_1 = true
        ·subst c26
         have H1 : (impl_Pool_canMake.j1 k1 l2 true true l0_0 ((rd_T44 l0_0 a1).f0) ((rd_T44 l0_0 a1).f1) ((rd_T44 l0_0 a1).f2)) = some r := by rw [if_pos rfl] at H; exact H
         clear H
         have H := H1
         clear H1
         have H' := Aside0.mk H
         clear H
         go_wp2
         go_meet
         case rel => exact ⟨_, (true), (by first | rfl | (simp; done) | (simp [*]; done)), H', ⟨by have := HK1.out; first | omega | exact Nat.le_refl _⟩, ⟨zh BK0.out⟩, ⟨zh BK295.out⟩, ⟨zb HB.out⟩⟩
        ·replace c26 := Bool.eq_false_iff.mpr c26
         subst c26
         have H1 : (impl_Pool_canMake.j1 k1 l2 false (((rd_T44 l0_0 a1).f0) != 8) l0_0 ((rd_T44 l0_0 a1).f0) ((rd_T44 l0_0 a1).f1) ((rd_T44 l0_0 a1).f2)) = some r := by rw [if_neg (show ¬ (false = true) by decide)] at H; exact H
         clear H
         have H := H1
         clear H1
         have H' := Aside0.mk H
         clear H
         have hnb27 := NB295_0.out
         have hnc27 := NB0_295.out
         have hcz28_0 : wr.cell? ⟨gb295, 0, none⟩ = some (.int .i64 ((rd_T44 l0_0 a1).f0)) := (blk_cell BK295.out 0).trans rfl
         have hcz28_1 : wr.cell? ⟨gb295, 1, none⟩ = some (.int .i64 ((rd_T44 l0_0 a1).f1)) := (blk_cell BK295.out 1).trans rfl
         have hcz28_2 : wr.cell? ⟨gb295, 2, none⟩ = some (.int .i64 ((rd_T44 l0_0 a1).f2)) := (blk_cell BK295.out 2).trans rfl
         have hfz28_0 := blk_frozen BK295.out 0
         have hfz28_1 := blk_frozen BK295.out 1
         have hfz28_2 := blk_frozen BK295.out 2
         go_wp2
         go_meet
         case rel => exact ⟨_, ((((rd_T44 l0_0 a1).f0) != 8)), (by first | rfl | (simp; done) | (simp [*]; done)), H', ⟨by have := HK1.out; first | omega | exact Nat.le_refl _⟩, ⟨zh BK0.out⟩, ⟨zh BK295.out⟩, ⟨zb HB.out⟩⟩
       case rest =>
        clear HC25
        try clear c1
        try clear c2
        try clear p2
        try clear q2
        try clear hx2
        try clear p3
        try clear q3
        try clear hx3
        try clear c4
        try clear c4b0
        try clear c5
        try clear c5b0
        try clear c6
        try clear c6b0
        try clear c6b1
        try clear p6
        try clear c10
        try clear c11
        try clear c12
        try clear c15
        try clear c19
        try clear c19b0
        try clear c20
        try clear c20b0
        try clear c21
        try clear c21b0
        try clear c22
        try clear c23
        try clear c23b0
        try clear c24
        try clear c24b0
        try clear c26
        try clear c27
        try clear hcz11_0
        try clear hcz11_1
        try clear hcz11_2
        try clear hcz13_0
        try clear hcz16_0
        try clear hcz16_1
        try clear hcz16_2
        try clear hcz28_0
        try clear hcz28_1
        try clear hcz28_2
        try clear hcz8_0
        try clear hfz11_0
        try clear hfz11_1
        try clear hfz11_2
        try clear hfz13_0
        try clear hfz16_0
        try clear hfz16_1
        try clear hfz16_2
        try clear hfz28_0
        try clear hfz28_1
        try clear hfz28_2
        try clear hfz8_0
        try clear hx294_0
        try clear hx294_1
        try clear hx294_2
        try clear hx300_0
        try clear hx301_0
        try clear p2
        try clear p294
        try clear p300
        try clear p301
        try clear q2
        try clear q294
        try clear q300
        try clear q301
        obtain ⟨kq, x45_24, rfl, HA, HJ24, BK0, BK295, HB⟩ := hcut
        cases kq with
        | zero => exact absurd HA.out (by simp [impl_Pool_canMake.j1])
        | succ kj24 =>
         have H := HA.out
         clear HA
         simp only [impl_Pool_canMake.j1] at H
         by_cases c29 : x45_24 = true
         ·subst c29
          have H1 : (some x8_1) = some r := by rw [if_pos rfl] at H; exact H
          clear H
          have H := H1
          clear H1
          obtain rfl := Option.some.inj H
          go_wp2
          go_ret
          exact ⟨ze, zb HB.out⟩
         ·replace c29 := Bool.eq_false_iff.mpr c29
          subst c29
          have H1 : (if 0 ≤ ((rd_T44 l0_0 a1).f1) then (if ((rd_T44 l0_0 a1).f1) < (l2.length : Int) then (if rdOf false l2 ((rd_T44 l0_0 a1).f1) = true then ((impl_Pool_isMade.f kj24 l0_0 7 ((rd_T44 l0_0 a1).f2) 0 l2).bind fun t303 => (if t303 = true then (some true) else (if 0 ≤ ((rd_T44 l0_0 a1).f2) then (if ((rd_T44 l0_0 a1).f2) < (l2.length : Int) then (if rdOf false l2 ((rd_T44 l0_0 a1).f2) = true then ((impl_Pool_isMade.f kj24 l0_0 7 ((rd_T44 l0_0 a1).f1) 0 l2).bind fun t305 => (some t305)) else (some false)) else (none)) else (none)))) else (if 0 ≤ ((rd_T44 l0_0 a1).f2) then (if ((rd_T44 l0_0 a1).f2) < (l2.length : Int) then (if rdOf false l2 ((rd_T44 l0_0 a1).f2) = true then ((impl_Pool_isMade.f kj24 l0_0 7 ((rd_T44 l0_0 a1).f1) 0 l2).bind fun t307 => (some t307)) else (some false)) else (none)) else (none))) else (none)) else (none)) = some r := by rw [if_neg (show ¬ (false = true) by decide)] at H; exact H
          clear H
          have H := H1
          clear H1
          by_cases c30 : 0 ≤ ((rd_T44 l0_0 a1).f1)
          ·rw [if_pos c30] at H
           have c30b0 : decide (0 ≤ ((rd_T44 l0_0 a1).f1)) = true := decide_eq_true c30
           clear c30
           by_cases c31 : ((rd_T44 l0_0 a1).f1) < (l2.length : Int)
           ·rw [if_pos c31] at H
            have c31b0 : decide (((rd_T44 l0_0 a1).f1) < (l2.length : Int)) = true := decide_eq_true c31
            clear c31
            obtain ⟨bq32, hbq32⟩ : ∃ b_ : Bool, b_ = (rdOf false l2 ((rd_T44 l0_0 a1).f1)) := ⟨_, rfl⟩
            replace H : (if bq32 = true then ((impl_Pool_isMade.f kj24 l0_0 7 ((rd_T44 l0_0 a1).f2) 0 l2).bind fun t303 => (if t303 = true then (some true) else (if 0 ≤ ((rd_T44 l0_0 a1).f2) then (if ((rd_T44 l0_0 a1).f2) < (l2.length : Int) then (if rdOf false l2 ((rd_T44 l0_0 a1).f2) = true then ((impl_Pool_isMade.f kj24 l0_0 7 ((rd_T44 l0_0 a1).f1) 0 l2).bind fun t305 => (some t305)) else (some false)) else (none)) else (none)))) else (if 0 ≤ ((rd_T44 l0_0 a1).f2) then (if ((rd_T44 l0_0 a1).f2) < (l2.length : Int) then (if rdOf false l2 ((rd_T44 l0_0 a1).f2) = true then ((impl_Pool_isMade.f kj24 l0_0 7 ((rd_T44 l0_0 a1).f1) 0 l2).bind fun t307 => (some t307)) else (some false)) else (none)) else (none))) = some r := by rw [← hbq32] at H; exact H
            have Nbq32 := Aside0.mk hbq32
            clear hbq32
            by_cases c33 : bq32 = true
            ·subst c33
             have H1 : ((impl_Pool_isMade.f kj24 l0_0 7 ((rd_T44 l0_0 a1).f2) 0 l2).bind fun t303 => (if t303 = true then (some true) else (if 0 ≤ ((rd_T44 l0_0 a1).f2) then (if ((rd_T44 l0_0 a1).f2) < (l2.length : Int) then (if rdOf false l2 ((rd_T44 l0_0 a1).f2) = true then ((impl_Pool_isMade.f kj24 l0_0 7 ((rd_T44 l0_0 a1).f1) 0 l2).bind fun t305 => (some t305)) else (some false)) else (none)) else (none)))) = some r := by rw [if_pos rfl] at H; exact H
             clear H
             have H := H1
             clear H1
             replace H := Option.bind_eq_some_iff.mp H
             obtain ⟨t303, A340, H⟩ := H
             replace H : (if t303 = true then (some true) else (if 0 ≤ ((rd_T44 l0_0 a1).f2) then (if ((rd_T44 l0_0 a1).f2) < (l2.length : Int) then (if rdOf false l2 ((rd_T44 l0_0 a1).f2) = true then ((impl_Pool_isMade.f kj24 l0_0 7 ((rd_T44 l0_0 a1).f1) 0 l2).bind fun t305 => (some t305)) else (some false)) else (none)) else (none))) = some r := H
             have A34 := Aside0.mk A340
             clear A340
             by_cases c35 : t303 = true
             ·subst c35
              have H1 : (some true) = some r := by rw [if_pos rfl] at H; exact H
              clear H
              have H := H1
              clear H1
              obtain rfl := Option.some.inj H
              have hnb36 := NB295_0.out
              have hnc36 := NB0_295.out
              have hcz37_0 : wc.cell? ⟨gb295, 0, none⟩ = some (.int .i64 ((rd_T44 l0_0 a1).f0)) := (blk_cell BK295.out 0).trans rfl
              have hcz37_1 : wc.cell? ⟨gb295, 1, none⟩ = some (.int .i64 ((rd_T44 l0_0 a1).f1)) := (blk_cell BK295.out 1).trans rfl
              have hcz37_2 : wc.cell? ⟨gb295, 2, none⟩ = some (.int .i64 ((rd_T44 l0_0 a1).f2)) := (blk_cell BK295.out 2).trans rfl
              have hfz37_0 := blk_frozen BK295.out 0
              have hfz37_1 := blk_frozen BK295.out 1
              have hfz37_2 := blk_frozen BK295.out 2
              have p302 : 0 ≤ (((rd_T44 l0_0 a1).f1) : Int) := of_decide_eq_true (by first | (with_reducible assumption) | assumption)
              have q302 : ((rd_T44 l0_0 a1).f1) < (l2.length : Int) := of_decide_eq_true (by first | (with_reducible assumption) | assumption)
              obtain ⟨ad302, e302, hx302_0⟩ := Kd.at_bool HR2.out ((rd_T44 l0_0 a1).f1) p302 q302
              (try rw [← Nbq32.out] at hx302_0)
              cases e302
              replace hx302_0 := (HB.out.cell (World.block_lt_of_cell? w _ hx302_0)).trans hx302_0
              replace p302 := eq_true p302
              replace q302 := eq_true q302
              go_wp2_with (first | (go_at_call 127; (with_reducible refine (impl_Pool_isMade.calls kj24 _ (some ad294) c0_0 l0_0 7 ((rd_T44 l0_0 a1).f2) 0 _ _ l2 true _ ?side1 ?side2 ?side3 ?side4 ?side5 A34.out).mono ?_); (case side1 => exact zh BK0.out); (case side2 => exact zc (Kd.C_below HR0_0.out HB.out)); (case side3 => exact HC0_0.out); (case side4 => exact zc (Kd.C_below HR2.out HB.out)); (case side5 => exact HC2.out); rintro e w38 ⟨rfl, hb⟩; have n0_ := Aside0.mk (blk_below (zh BK0.out) hb); have n1_ := Aside0.mk (blk_below (zh BK295.out) hb); have n2_ := Aside0.mk (below_step (zb HB.out) hb); clear BK0; clear BK295; clear HB; have BK0 := n0_; have BK295 := n1_; have HB := n2_; clear n0_ n1_ n2_; (try clear hb); (try clear hb2); (try clear hk); (try clear hi)))
              go_ret
              exact ⟨ze, zb HB.out⟩
             ·replace c35 := Bool.eq_false_iff.mpr c35
              subst c35
              have H1 : (if 0 ≤ ((rd_T44 l0_0 a1).f2) then (if ((rd_T44 l0_0 a1).f2) < (l2.length : Int) then (if rdOf false l2 ((rd_T44 l0_0 a1).f2) = true then ((impl_Pool_isMade.f kj24 l0_0 7 ((rd_T44 l0_0 a1).f1) 0 l2).bind fun t305 => (some t305)) else (some false)) else (none)) else (none)) = some r := by rw [if_neg (show ¬ (false = true) by decide)] at H; exact H
              clear H
              have H := H1
              clear H1
              by_cases c39 : 0 ≤ ((rd_T44 l0_0 a1).f2)
              ·rw [if_pos c39] at H
               have c39b0 : decide (0 ≤ ((rd_T44 l0_0 a1).f2)) = true := decide_eq_true c39
               clear c39
               by_cases c40 : ((rd_T44 l0_0 a1).f2) < (l2.length : Int)
               ·rw [if_pos c40] at H
                have c40b0 : decide (((rd_T44 l0_0 a1).f2) < (l2.length : Int)) = true := decide_eq_true c40
                clear c40
                obtain ⟨bq41, hbq41⟩ : ∃ b_ : Bool, b_ = (rdOf false l2 ((rd_T44 l0_0 a1).f2)) := ⟨_, rfl⟩
                replace H : (if bq41 = true then ((impl_Pool_isMade.f kj24 l0_0 7 ((rd_T44 l0_0 a1).f1) 0 l2).bind fun t305 => (some t305)) else (some false)) = some r := by rw [← hbq41] at H; exact H
                have Nbq41 := Aside0.mk hbq41
                clear hbq41
                by_cases c42 : bq41 = true
                ·subst c42
                 have H1 : ((impl_Pool_isMade.f kj24 l0_0 7 ((rd_T44 l0_0 a1).f1) 0 l2).bind fun t305 => (some t305)) = some r := by rw [if_pos rfl] at H; exact H
                 clear H
                 have H := H1
                 clear H1
                 replace H := Option.bind_eq_some_iff.mp H
                 obtain ⟨t305, A430, H⟩ := H
                 replace H : (some t305) = some r := H
                 have A43 := Aside0.mk A430
                 clear A430
                 obtain rfl := Option.some.inj H
                 have hnb44 := NB295_0.out
                 have hnc44 := NB0_295.out
                 have hcz45_0 : wc.cell? ⟨gb295, 0, none⟩ = some (.int .i64 ((rd_T44 l0_0 a1).f0)) := (blk_cell BK295.out 0).trans rfl
                 have hcz45_1 : wc.cell? ⟨gb295, 1, none⟩ = some (.int .i64 ((rd_T44 l0_0 a1).f1)) := (blk_cell BK295.out 1).trans rfl
                 have hcz45_2 : wc.cell? ⟨gb295, 2, none⟩ = some (.int .i64 ((rd_T44 l0_0 a1).f2)) := (blk_cell BK295.out 2).trans rfl
                 have hfz45_0 := blk_frozen BK295.out 0
                 have hfz45_1 := blk_frozen BK295.out 1
                 have hfz45_2 := blk_frozen BK295.out 2
                 have p302 : 0 ≤ (((rd_T44 l0_0 a1).f1) : Int) := of_decide_eq_true (by first | (with_reducible assumption) | assumption)
                 have q302 : ((rd_T44 l0_0 a1).f1) < (l2.length : Int) := of_decide_eq_true (by first | (with_reducible assumption) | assumption)
                 obtain ⟨ad302, e302, hx302_0⟩ := Kd.at_bool HR2.out ((rd_T44 l0_0 a1).f1) p302 q302
                 (try rw [← Nbq32.out] at hx302_0)
                 (try rw [← Nbq41.out] at hx302_0)
                 cases e302
                 replace hx302_0 := (HB.out.cell (World.block_lt_of_cell? w _ hx302_0)).trans hx302_0
                 replace p302 := eq_true p302
                 replace q302 := eq_true q302
                 go_wp2_with (first | (go_at_call 127; (with_reducible refine (impl_Pool_isMade.calls kj24 _ (some ad294) c0_0 l0_0 7 ((rd_T44 l0_0 a1).f2) 0 _ _ l2 false _ ?side1 ?side2 ?side3 ?side4 ?side5 A34.out).mono ?_); (case side1 => exact zh BK0.out); (case side2 => exact zc (Kd.C_below HR0_0.out HB.out)); (case side3 => exact HC0_0.out); (case side4 => exact zc (Kd.C_below HR2.out HB.out)); (case side5 => exact HC2.out); rintro e w46 ⟨rfl, hb⟩; have n0_ := Aside0.mk (blk_below (zh BK0.out) hb); have n1_ := Aside0.mk (blk_below (zh BK295.out) hb); have n2_ := Aside0.mk (below_step (zb HB.out) hb); clear BK0; clear BK295; clear HB; have BK0 := n0_; have BK295 := n1_; have HB := n2_; clear n0_ n1_ n2_; (try clear hb); (try clear hb2); (try clear hk); (try clear hi); have hcz47_0 : w46.cell? ⟨gb295, 0, none⟩ = some (.int .i64 ((rd_T44 l0_0 a1).f0)) := (blk_cell BK295.out 0).trans rfl; have hcz47_1 : w46.cell? ⟨gb295, 1, none⟩ = some (.int .i64 ((rd_T44 l0_0 a1).f1)) := (blk_cell BK295.out 1).trans rfl; have hcz47_2 : w46.cell? ⟨gb295, 2, none⟩ = some (.int .i64 ((rd_T44 l0_0 a1).f2)) := (blk_cell BK295.out 2).trans rfl; have hfz47_0 := blk_frozen BK295.out 0; have hfz47_1 := blk_frozen BK295.out 1; have hfz47_2 := blk_frozen BK295.out 2; have p304 : 0 ≤ (((rd_T44 l0_0 a1).f2) : Int) := of_decide_eq_true (by first | (with_reducible assumption) | assumption); have q304 : ((rd_T44 l0_0 a1).f2) < (l2.length : Int) := of_decide_eq_true (by first | (with_reducible assumption) | assumption); obtain ⟨ad304, e304, hx304_0⟩ := Kd.at_bool HR2.out ((rd_T44 l0_0 a1).f2) p304 q304; (try rw [← Nbq32.out] at hx304_0); (try rw [← Nbq41.out] at hx304_0); obtain rfl : ad302 = ad304 := (by injection e304); replace hx304_0 := (HB.out.cell (World.block_lt_of_cell? w _ hx304_0)).trans hx304_0; replace p304 := eq_true p304; replace q304 := eq_true q304) | (go_at_call 127; (with_reducible refine (impl_Pool_isMade.calls kj24 _ (some ad294) c0_0 l0_0 7 ((rd_T44 l0_0 a1).f1) 0 _ _ l2 t305 _ ?side1 ?side2 ?side3 ?side4 ?side5 A43.out).mono ?_); (case side1 => exact zh BK0.out); (case side2 => exact zc (Kd.C_below HR0_0.out HB.out)); (case side3 => exact HC0_0.out); (case side4 => exact zc (Kd.C_below HR2.out HB.out)); (case side5 => exact HC2.out); rintro e w48 ⟨rfl, hb⟩; have n0_ := Aside0.mk (blk_below (zh BK0.out) hb); have n1_ := Aside0.mk (blk_below (zh BK295.out) hb); have n2_ := Aside0.mk (below_step (zb HB.out) hb); clear BK0; clear BK295; clear HB; have BK0 := n0_; have BK295 := n1_; have HB := n2_; clear n0_ n1_ n2_; (try clear hb); (try clear hb2); (try clear hk); (try clear hi)))
                 go_ret
                 exact ⟨ze, zb HB.out⟩
                ·replace c42 := Bool.eq_false_iff.mpr c42
                 subst c42
                 have H1 : (some false) = some r := by rw [if_neg (show ¬ (false = true) by decide)] at H; exact H
                 clear H
                 have H := H1
                 clear H1
                 obtain rfl := Option.some.inj H
                 have hnb49 := NB295_0.out
                 have hnc49 := NB0_295.out
                 have hcz50_0 : wc.cell? ⟨gb295, 0, none⟩ = some (.int .i64 ((rd_T44 l0_0 a1).f0)) := (blk_cell BK295.out 0).trans rfl
                 have hcz50_1 : wc.cell? ⟨gb295, 1, none⟩ = some (.int .i64 ((rd_T44 l0_0 a1).f1)) := (blk_cell BK295.out 1).trans rfl
                 have hcz50_2 : wc.cell? ⟨gb295, 2, none⟩ = some (.int .i64 ((rd_T44 l0_0 a1).f2)) := (blk_cell BK295.out 2).trans rfl
                 have hfz50_0 := blk_frozen BK295.out 0
                 have hfz50_1 := blk_frozen BK295.out 1
                 have hfz50_2 := blk_frozen BK295.out 2
                 have p302 : 0 ≤ (((rd_T44 l0_0 a1).f1) : Int) := of_decide_eq_true (by first | (with_reducible assumption) | assumption)
                 have q302 : ((rd_T44 l0_0 a1).f1) < (l2.length : Int) := of_decide_eq_true (by first | (with_reducible assumption) | assumption)
                 obtain ⟨ad302, e302, hx302_0⟩ := Kd.at_bool HR2.out ((rd_T44 l0_0 a1).f1) p302 q302
                 (try rw [← Nbq32.out] at hx302_0)
                 (try rw [← Nbq41.out] at hx302_0)
                 cases e302
                 replace hx302_0 := (HB.out.cell (World.block_lt_of_cell? w _ hx302_0)).trans hx302_0
                 replace p302 := eq_true p302
                 replace q302 := eq_true q302
                 go_wp2_with (first | (go_at_call 127; (with_reducible refine (impl_Pool_isMade.calls kj24 _ (some ad294) c0_0 l0_0 7 ((rd_T44 l0_0 a1).f2) 0 _ _ l2 false _ ?side1 ?side2 ?side3 ?side4 ?side5 A34.out).mono ?_); (case side1 => exact zh BK0.out); (case side2 => exact zc (Kd.C_below HR0_0.out HB.out)); (case side3 => exact HC0_0.out); (case side4 => exact zc (Kd.C_below HR2.out HB.out)); (case side5 => exact HC2.out); rintro e w51 ⟨rfl, hb⟩; have n0_ := Aside0.mk (blk_below (zh BK0.out) hb); have n1_ := Aside0.mk (blk_below (zh BK295.out) hb); have n2_ := Aside0.mk (below_step (zb HB.out) hb); clear BK0; clear BK295; clear HB; have BK0 := n0_; have BK295 := n1_; have HB := n2_; clear n0_ n1_ n2_; (try clear hb); (try clear hb2); (try clear hk); (try clear hi); have hcz52_0 : w51.cell? ⟨gb295, 0, none⟩ = some (.int .i64 ((rd_T44 l0_0 a1).f0)) := (blk_cell BK295.out 0).trans rfl; have hcz52_1 : w51.cell? ⟨gb295, 1, none⟩ = some (.int .i64 ((rd_T44 l0_0 a1).f1)) := (blk_cell BK295.out 1).trans rfl; have hcz52_2 : w51.cell? ⟨gb295, 2, none⟩ = some (.int .i64 ((rd_T44 l0_0 a1).f2)) := (blk_cell BK295.out 2).trans rfl; have hfz52_0 := blk_frozen BK295.out 0; have hfz52_1 := blk_frozen BK295.out 1; have hfz52_2 := blk_frozen BK295.out 2; have p304 : 0 ≤ (((rd_T44 l0_0 a1).f2) : Int) := of_decide_eq_true (by first | (with_reducible assumption) | assumption); have q304 : ((rd_T44 l0_0 a1).f2) < (l2.length : Int) := of_decide_eq_true (by first | (with_reducible assumption) | assumption); obtain ⟨ad304, e304, hx304_0⟩ := Kd.at_bool HR2.out ((rd_T44 l0_0 a1).f2) p304 q304; (try rw [← Nbq32.out] at hx304_0); (try rw [← Nbq41.out] at hx304_0); obtain rfl : ad302 = ad304 := (by injection e304); replace hx304_0 := (HB.out.cell (World.block_lt_of_cell? w _ hx304_0)).trans hx304_0; replace p304 := eq_true p304; replace q304 := eq_true q304))
                 go_ret
                 exact ⟨ze, zb HB.out⟩
               ·rw [if_neg c40] at H
                exact absurd H (by simp)
              ·rw [if_neg c39] at H
               exact absurd H (by simp)
            ·replace c33 := Bool.eq_false_iff.mpr c33
             subst c33
             have H1 : (if 0 ≤ ((rd_T44 l0_0 a1).f2) then (if ((rd_T44 l0_0 a1).f2) < (l2.length : Int) then (if rdOf false l2 ((rd_T44 l0_0 a1).f2) = true then ((impl_Pool_isMade.f kj24 l0_0 7 ((rd_T44 l0_0 a1).f1) 0 l2).bind fun t307 => (some t307)) else (some false)) else (none)) else (none)) = some r := by rw [if_neg (show ¬ (false = true) by decide)] at H; exact H
             clear H
             have H := H1
             clear H1
             by_cases c53 : 0 ≤ ((rd_T44 l0_0 a1).f2)
             ·rw [if_pos c53] at H
              have c53b0 : decide (0 ≤ ((rd_T44 l0_0 a1).f2)) = true := decide_eq_true c53
              clear c53
              by_cases c54 : ((rd_T44 l0_0 a1).f2) < (l2.length : Int)
              ·rw [if_pos c54] at H
               have c54b0 : decide (((rd_T44 l0_0 a1).f2) < (l2.length : Int)) = true := decide_eq_true c54
               clear c54
               obtain ⟨bq55, hbq55⟩ : ∃ b_ : Bool, b_ = (rdOf false l2 ((rd_T44 l0_0 a1).f2)) := ⟨_, rfl⟩
               replace H : (if bq55 = true then ((impl_Pool_isMade.f kj24 l0_0 7 ((rd_T44 l0_0 a1).f1) 0 l2).bind fun t307 => (some t307)) else (some false)) = some r := by rw [← hbq55] at H; exact H
               have Nbq55 := Aside0.mk hbq55
               clear hbq55
               by_cases c56 : bq55 = true
               ·subst c56
                have H1 : ((impl_Pool_isMade.f kj24 l0_0 7 ((rd_T44 l0_0 a1).f1) 0 l2).bind fun t307 => (some t307)) = some r := by rw [if_pos rfl] at H; exact H
                clear H
                have H := H1
                clear H1
                replace H := Option.bind_eq_some_iff.mp H
                obtain ⟨t307, A570, H⟩ := H
                replace H : (some t307) = some r := H
                have A57 := Aside0.mk A570
                clear A570
                obtain rfl := Option.some.inj H
                have hnb58 := NB295_0.out
                have hnc58 := NB0_295.out
                have hcz59_0 : wc.cell? ⟨gb295, 0, none⟩ = some (.int .i64 ((rd_T44 l0_0 a1).f0)) := (blk_cell BK295.out 0).trans rfl
                have hcz59_1 : wc.cell? ⟨gb295, 1, none⟩ = some (.int .i64 ((rd_T44 l0_0 a1).f1)) := (blk_cell BK295.out 1).trans rfl
                have hcz59_2 : wc.cell? ⟨gb295, 2, none⟩ = some (.int .i64 ((rd_T44 l0_0 a1).f2)) := (blk_cell BK295.out 2).trans rfl
                have hfz59_0 := blk_frozen BK295.out 0
                have hfz59_1 := blk_frozen BK295.out 1
                have hfz59_2 := blk_frozen BK295.out 2
                have p302 : 0 ≤ (((rd_T44 l0_0 a1).f1) : Int) := of_decide_eq_true (by first | (with_reducible assumption) | assumption)
                have q302 : ((rd_T44 l0_0 a1).f1) < (l2.length : Int) := of_decide_eq_true (by first | (with_reducible assumption) | assumption)
                obtain ⟨ad302, e302, hx302_0⟩ := Kd.at_bool HR2.out ((rd_T44 l0_0 a1).f1) p302 q302
                (try rw [← Nbq32.out] at hx302_0)
                (try rw [← Nbq55.out] at hx302_0)
                cases e302
                replace hx302_0 := (HB.out.cell (World.block_lt_of_cell? w _ hx302_0)).trans hx302_0
                replace p302 := eq_true p302
                replace q302 := eq_true q302
                have p306 : 0 ≤ (((rd_T44 l0_0 a1).f2) : Int) := of_decide_eq_true (by first | (with_reducible assumption) | assumption)
                have q306 : ((rd_T44 l0_0 a1).f2) < (l2.length : Int) := of_decide_eq_true (by first | (with_reducible assumption) | assumption)
                obtain ⟨ad306, e306, hx306_0⟩ := Kd.at_bool HR2.out ((rd_T44 l0_0 a1).f2) p306 q306
                (try rw [← Nbq32.out] at hx306_0)
                (try rw [← Nbq55.out] at hx306_0)
                obtain rfl : ad302 = ad306 := (by injection e306)
                replace hx306_0 := (HB.out.cell (World.block_lt_of_cell? w _ hx306_0)).trans hx306_0
                replace p306 := eq_true p306
                replace q306 := eq_true q306
                go_wp2_with (first | (go_at_call 127; (with_reducible refine (impl_Pool_isMade.calls kj24 _ (some ad294) c0_0 l0_0 7 ((rd_T44 l0_0 a1).f1) 0 _ _ l2 t307 _ ?side1 ?side2 ?side3 ?side4 ?side5 A57.out).mono ?_); (case side1 => exact zh BK0.out); (case side2 => exact zc (Kd.C_below HR0_0.out HB.out)); (case side3 => exact HC0_0.out); (case side4 => exact zc (Kd.C_below HR2.out HB.out)); (case side5 => exact HC2.out); rintro e w60 ⟨rfl, hb⟩; have n0_ := Aside0.mk (blk_below (zh BK0.out) hb); have n1_ := Aside0.mk (blk_below (zh BK295.out) hb); have n2_ := Aside0.mk (below_step (zb HB.out) hb); clear BK0; clear BK295; clear HB; have BK0 := n0_; have BK295 := n1_; have HB := n2_; clear n0_ n1_ n2_; (try clear hb); (try clear hb2); (try clear hk); (try clear hi)))
                go_ret
                exact ⟨ze, zb HB.out⟩
               ·replace c56 := Bool.eq_false_iff.mpr c56
                subst c56
                have H1 : (some false) = some r := by rw [if_neg (show ¬ (false = true) by decide)] at H; exact H
                clear H
                have H := H1
                clear H1
                obtain rfl := Option.some.inj H
                have hnb61 := NB295_0.out
                have hnc61 := NB0_295.out
                have hcz62_0 : wc.cell? ⟨gb295, 0, none⟩ = some (.int .i64 ((rd_T44 l0_0 a1).f0)) := (blk_cell BK295.out 0).trans rfl
                have hcz62_1 : wc.cell? ⟨gb295, 1, none⟩ = some (.int .i64 ((rd_T44 l0_0 a1).f1)) := (blk_cell BK295.out 1).trans rfl
                have hcz62_2 : wc.cell? ⟨gb295, 2, none⟩ = some (.int .i64 ((rd_T44 l0_0 a1).f2)) := (blk_cell BK295.out 2).trans rfl
                have hfz62_0 := blk_frozen BK295.out 0
                have hfz62_1 := blk_frozen BK295.out 1
                have hfz62_2 := blk_frozen BK295.out 2
                have p302 : 0 ≤ (((rd_T44 l0_0 a1).f1) : Int) := of_decide_eq_true (by first | (with_reducible assumption) | assumption)
                have q302 : ((rd_T44 l0_0 a1).f1) < (l2.length : Int) := of_decide_eq_true (by first | (with_reducible assumption) | assumption)
                obtain ⟨ad302, e302, hx302_0⟩ := Kd.at_bool HR2.out ((rd_T44 l0_0 a1).f1) p302 q302
                (try rw [← Nbq32.out] at hx302_0)
                (try rw [← Nbq55.out] at hx302_0)
                cases e302
                replace hx302_0 := (HB.out.cell (World.block_lt_of_cell? w _ hx302_0)).trans hx302_0
                replace p302 := eq_true p302
                replace q302 := eq_true q302
                have p306 : 0 ≤ (((rd_T44 l0_0 a1).f2) : Int) := of_decide_eq_true (by first | (with_reducible assumption) | assumption)
                have q306 : ((rd_T44 l0_0 a1).f2) < (l2.length : Int) := of_decide_eq_true (by first | (with_reducible assumption) | assumption)
                obtain ⟨ad306, e306, hx306_0⟩ := Kd.at_bool HR2.out ((rd_T44 l0_0 a1).f2) p306 q306
                (try rw [← Nbq32.out] at hx306_0)
                (try rw [← Nbq55.out] at hx306_0)
                obtain rfl : ad302 = ad306 := (by injection e306)
                replace hx306_0 := (HB.out.cell (World.block_lt_of_cell? w _ hx306_0)).trans hx306_0
                replace p306 := eq_true p306
                replace q306 := eq_true q306
                go_wp2
                go_ret
                exact ⟨ze, zb HB.out⟩
              ·rw [if_neg c54] at H
               exact absurd H (by simp)
             ·rw [if_neg c53] at H
              exact absurd H (by simp)
           ·rw [if_neg c31] at H
            exact absurd H (by simp)
          ·rw [if_neg c30] at H
           exact absurd H (by simp)
  ·rw [if_neg c5] at H
   exact absurd H (by simp)
 ·rw [if_neg c4] at H
  exact absurd H (by simp)

end Go.Proofs.Ytdgahpigcaejbaa.E
end

section
-- Written by this session's program (wip/tools/gprint.py over the kit's print) out of the translation; Lean checks it.
namespace Go.Proofs.Ytdgahpigcaejbaa.E
open Go.RowKit Go.Proofs.YtdgahpigcaejbaaW.PrintWords Go.Proofs.YtdgahpigcaejbaaW.PrintLast Go.Proofs.YtdgahpigcaejbaaW.PrintMore
attribute [local go_sem] max2_int min2_int max_two min_two max_three min_three max_four min_four   -- for this text's walks alone
set_option linter.unusedVariables false
set_option linter.unusedSimpArgs false
set_option maxRecDepth 100000

/-! ### impl_Pool_makes: function 95 -/
mutual
def impl_Pool_makes.l0 : Nat → List Bool → List Int → Int → Int → List (S44) → Option (List Bool)
 | 0, _, _, _, _, _ => none
 | k + 1, x5, x16, x17, x18, x1000 => if x18 < x17 then (if 0 ≤ x18 then (if x18 < (x16.length : Int) then (if 0 ≤ (rd x16 x18) then (if (rd x16 x18) < (x5.length : Int) then (impl_Pool_makes.l0 k (x5.set ((rd x16 x18) : Int).toNat true) x16 x17 (wrap64 (x18 + 1)) x1000) else (none)) else (none)) else (none)) else (none)) else (impl_Pool_makes.l1 k x5 true x1000)
def impl_Pool_makes.l1 : Nat → List Bool → Bool → List (S44) → Option (List Bool)
 | 0, _, _, _ => none
 | k + 1, x5, x8, x1000 => if x8 = true then (impl_Pool_makes.l2 k x5 false (x5.length : Int) 0 x1000) else (some x5)
def impl_Pool_makes.l2 : Nat → List Bool → Bool → Int → Int → List (S44) → Option (List Bool)
 | 0, _, _, _, _, _ => none
 | k + 1, x5, x8, x28, x29, x1000 => if x29 < x28 then (if 0 ≤ x29 then (if x29 < (x5.length : Int) then (if rdOf false x5 x29 = true then (impl_Pool_makes.l2 k x5 x8 x28 (wrap64 (x29 + 1)) x1000) else ((impl_Pool_canMake.f k x1000 x29 x5).bind fun t314 => (if t314 = true then (impl_Pool_makes.l2 k (x5.set (x29 : Int).toNat true) true x28 (wrap64 (x29 + 1)) x1000) else (impl_Pool_makes.l2 k x5 x8 x28 (wrap64 (x29 + 1)) x1000)))) else (none)) else (none)) else (impl_Pool_makes.l1 k x5 x8 x1000)
end
def impl_Pool_makes.f (k : Nat) (l0_0 : List (S44)) (l1 : List Int) : Option (List Bool) := if 0 ≤ (l0_0.length : Int) then (if ((l0_0.length : Int) : Int).toNat ≤ 281474976710656 then (impl_Pool_makes.l0 k (List.replicate ((l0_0.length : Int) : Int).toNat false) l1 (l1.length : Int) 0 l0_0) else (none)) else (none)
theorem impl_Pool_makes.mono_l : ∀ k, (∀ y0 y1 y2 y3 y4, LeO (impl_Pool_makes.l0 k y0 y1 y2 y3 y4) (impl_Pool_makes.l0 (k + 1) y0 y1 y2 y3 y4)) ∧ (∀ y0 y1 y2, LeO (impl_Pool_makes.l1 k y0 y1 y2) (impl_Pool_makes.l1 (k + 1) y0 y1 y2)) ∧ (∀ y0 y1 y2 y3 y4, LeO (impl_Pool_makes.l2 k y0 y1 y2 y3 y4) (impl_Pool_makes.l2 (k + 1) y0 y1 y2 y3 y4))
 | 0 => ⟨fun _ _ _ _ _ r h => by simp [impl_Pool_makes.l0] at h, fun _ _ _ r h => by simp [impl_Pool_makes.l1] at h, fun _ _ _ _ _ r h => by simp [impl_Pool_makes.l2] at h⟩
 | k + 1 => by
  obtain ⟨ih0, ih1, ih2⟩ := impl_Pool_makes.mono_l k
  refine ⟨?_, ?_, ?_⟩
  ·intro y0 y1 y2 y3 y4
   unfold impl_Pool_makes.l0
   repeat' first
   | (with_reducible exact ih0 _ _ _ _ _)
   | (with_reducible exact ih1 _ _ _)
   | (with_reducible exact ih2 _ _ _ _ _)
   | (with_reducible exact impl_Pool_canMake.mono _ _ _ _)
   | (with_reducible exact LeO.refl _)
   | (with_reducible exact LeO.none _)
   | (with_reducible refine LeO.ite ?_ ?_)
   | (with_reducible refine LeO.bind ?_ (fun _ => ?_))
   | exact ih0 _ _ _ _ _
   | exact ih1 _ _ _
   | exact ih2 _ _ _ _ _
   | exact impl_Pool_canMake.mono _ _ _ _
   | exact LeO.none _
   | refine LeO.ite ?_ ?_
   | refine LeO.bind ?_ (fun _ => ?_)
  ·intro y0 y1 y2
   unfold impl_Pool_makes.l1
   repeat' first
   | (with_reducible exact ih0 _ _ _ _ _)
   | (with_reducible exact ih1 _ _ _)
   | (with_reducible exact ih2 _ _ _ _ _)
   | (with_reducible exact impl_Pool_canMake.mono _ _ _ _)
   | (with_reducible exact LeO.refl _)
   | (with_reducible exact LeO.none _)
   | (with_reducible refine LeO.ite ?_ ?_)
   | (with_reducible refine LeO.bind ?_ (fun _ => ?_))
   | exact ih0 _ _ _ _ _
   | exact ih1 _ _ _
   | exact ih2 _ _ _ _ _
   | exact impl_Pool_canMake.mono _ _ _ _
   | exact LeO.none _
   | refine LeO.ite ?_ ?_
   | refine LeO.bind ?_ (fun _ => ?_)
  ·intro y0 y1 y2 y3 y4
   unfold impl_Pool_makes.l2
   repeat' first
   | (with_reducible exact ih0 _ _ _ _ _)
   | (with_reducible exact ih1 _ _ _)
   | (with_reducible exact ih2 _ _ _ _ _)
   | (with_reducible exact impl_Pool_canMake.mono _ _ _ _)
   | (with_reducible exact LeO.refl _)
   | (with_reducible exact LeO.none _)
   | (with_reducible refine LeO.ite ?_ ?_)
   | (with_reducible refine LeO.bind ?_ (fun _ => ?_))
   | exact ih0 _ _ _ _ _
   | exact ih1 _ _ _
   | exact ih2 _ _ _ _ _
   | exact impl_Pool_canMake.mono _ _ _ _
   | exact LeO.none _
   | refine LeO.ite ?_ ?_
   | refine LeO.bind ?_ (fun _ => ?_)
theorem impl_Pool_makes.mono : ∀ a0 a1 k, LeO (impl_Pool_makes.f k a0 a1) (impl_Pool_makes.f (k + 1) a0 a1) := by
 intro a0 a1 k
 obtain ⟨ih0, ih1, ih2⟩ := impl_Pool_makes.mono_l k
 unfold impl_Pool_makes.f
 repeat' first
   | (with_reducible exact ih0 _ _ _ _ _)
   | (with_reducible exact ih1 _ _ _)
   | (with_reducible exact ih2 _ _ _ _ _)
   | (with_reducible exact impl_Pool_canMake.mono _ _ _ _)
   | (with_reducible exact LeO.refl _)
   | (with_reducible exact LeO.none _)
   | (with_reducible refine LeO.ite ?_ ?_)
   | (with_reducible refine LeO.bind ?_ (fun _ => ?_))
   | exact ih0 _ _ _ _ _
   | exact ih1 _ _ _
   | exact ih2 _ _ _ _ _
   | exact impl_Pool_canMake.mono _ _ _ _
   | exact LeO.none _
   | refine LeO.ite ?_ ?_
   | refine LeO.bind ?_ (fun _ => ?_)
set_option maxHeartbeats 8000000 in
set_option maxRecDepth 100000 in
theorem impl_Pool_makes.calls (k : Nat) (g0_ : Nat) (A0_0 : Option Addr) (c0_0 : Nat) (l0_0 : List (S44)) (A1 : Option Addr) (c1 : Nat) (l1 : List Int) (r : List Bool) (w : World) (hk0_ : w.heap[g0_]? = some (.cells #[.slice A0_0 l0_0.length c0_0] 30 (0, 0))) (hr0_0 : Kd.C k44 w A0_0 l0_0.length l0_0) (hc0_0 : l0_0.length ≤ c0_0) (hr1 : Kd.C (Kd.int .i64) w A1 l1.length l1) (hc1 : l1.length ≤ c1) (h : impl_Pool_makes.f k l0_0 l1 = some r) :
  Calls Try.prog 95 #[.pointer (some ⟨g0_, 0, none⟩), .slice A1 l1.length c1] w fun e w' => ∃ v0_ : Value, e = .returned (v0_) ∧ Kd.R Kd.bool 4 w' w.heap.size (fun _ => True) v0_ r ∧ Below w.heap.size w w' := by
 have HR0_0 := Aside0.mk hr0_0
 have HC0_0 := Aside0.mk hc0_0
 clear hr0_0 hc0_0
 have HR1 := Aside0.mk hr1
 have HC1 := Aside0.mk hc1
 clear hr1 hc1
 have BK0 := Aside0.mk hk0_
 clear hk0_
 have HB := Aside0.mk (Below.refl w.heap.size w)
 have H : (if 0 ≤ (l0_0.length : Int) then (if ((l0_0.length : Int) : Int).toNat ≤ 281474976710656 then (impl_Pool_makes.l0 k (List.replicate ((l0_0.length : Int) : Int).toNat false) l1 (l1.length : Int) 0 l0_0) else (none)) else (none)) = some r := h
 clear h
 by_cases c3 : 0 ≤ (l0_0.length : Int)
 ·rw [if_pos c3] at H
  have c3b0 := eq_true c3
  have c3b1 : decide (0 ≤ (l0_0.length : Int)) = true := decide_eq_true c3
  clear c3
  by_cases c4 : ((l0_0.length : Int) : Int).toNat ≤ 281474976710656
  ·rw [if_pos c4] at H
   have c4b0 := eq_true c4
   have c4b1 : decide (((l0_0.length : Int) : Int).toNat ≤ 281474976710656) = true := decide_eq_true c4
   clear c4
   obtain ⟨y308, hy308⟩ : ∃ y_ : List Bool, y_ = (List.replicate ((l0_0.length : Int) : Int).toNat false) := ⟨_, rfl⟩
   replace H : (impl_Pool_makes.l0 k y308 l1 (l1.length : Int) 0 l0_0) = some r := by first | (rw [hy308]; with_reducible exact H) | (have H2_ := (Option.bind_some _ _).symm.trans H; rw [hy308]; with_reducible exact H2_) | (have H2_ := (Option.bind_some _ _).symm.trans H; with_reducible exact H2_) | with_reducible exact H | (rw [hy308]; exact H) | exact H
   have Ny308 := Aside0.mk hy308
   clear hy308
   have H' := Aside0.mk H
   clear H
   have hcz5_0 : w.cell? ⟨g0_, 0, none⟩ = some (.slice A0_0 l0_0.length c0_0) := (blk_cell BK0.out 0).trans rfl
   have hfz5_0 := blk_frozen BK0.out 0
   go_enter Try.func95, Try.ntmps95
   go_wp2_with (first | ((with_reducible refine gate_dst (N := 15) rfl ?_); refine Kd.R_make Kd.bool _ 4 rfl (N := 15) rfl 55 _ _ rfl (l0_0.length : Int) rfl rfl Try.underlying55 (.bool false) 1 info4 rfl (by decide) (by omega) false (ok := fun _ => True) (okp := fun _ => True) rfl (fun _ hk => hk) trivial (of_decide_eq_true (by first | (with_reducible assumption) | assumption)) (Nat.le_trans (Nat.mul_le_mul_right _ (of_decide_eq_true (by first | (with_reducible assumption) | assumption) : (l0_0.length : Int).toNat ≤ 281474976710656)) (by omega)) (Below.refl _ _) (Nat.le_refl _) ?_; intro v309 w6 ho7 hb hg_ hnew_; clear hg_ hnew_; (first | rw [← Ny308.out] at ho7 | (simp only [Int.reduceToNat] at ho7; rw [← Ny308.out] at ho7)); have n0_ := Aside0.mk (Kd.R_lower ho7 (below_size (zb HB.out))); have n1_ := Aside0.mk (blk_below (zh BK0.out) hb); have n2_ := Aside0.mk (below_step (zb HB.out) hb); clear BK0; clear HB; have HO310 := n0_; have BK0 := n1_; have HB := n2_; clear n0_ n1_ n2_; clear hb ho7))
   go_loopg [18] k (fun kq v18 w' => ∃ (x5_1 : List Bool) (x18_1 : Int), v18 = .int .i64 x18_1 ∧ Aside0 (impl_Pool_makes.l0 kq x5_1 l1 (l1.length : Int) x18_1 l0_0 = some r) ∧ Aside0 (kq ≤ k) ∧ Aside0 (Kd.R Kd.bool 4 w' w.heap.size (fun _ => True) v309 x5_1) ∧ Aside0 (w'.heap[g0_]? = some (.cells #[(.slice A0_0 l0_0.length c0_0)] 30 (0, 0))) ∧ Aside0 (Below w.heap.size w w'))
   case atStart => exact ⟨(y308), (0), (by first | rfl | (simp; done) | (simp [*]; done)), H', ⟨Nat.le_refl _⟩, ⟨zr HO310.out⟩, ⟨zh BK0.out⟩, ⟨zb HB.out⟩⟩
   case round =>
    clear H'
    try clear c1
    try clear p2
    try clear c3
    try clear c3b0
    try clear c3b1
    try clear c4
    try clear c4b0
    try clear c4b1
    try clear hcz5_0
    try clear hfz5_0
    obtain ⟨x5_1, x18_1, rfl, HA, HK1, HO_5, BK0, HB⟩ := hrel
    cases gk with
    | zero => exact absurd HA.out (by simp [impl_Pool_makes.l0])
    | succ k1 =>
     have H := HA.out
     clear HA
     simp only [impl_Pool_makes.l0] at H
     by_cases c8 : x18_1 < (l1.length : Int)
     ·rw [if_pos c8] at H
      have c8b0 : decide (x18_1 < (l1.length : Int)) = true := decide_eq_true c8
      clear c8
      by_cases c9 : 0 ≤ x18_1
      ·rw [if_pos c9] at H
       have c9b0 : decide (0 ≤ x18_1) = true := decide_eq_true c9
       clear c9
       by_cases c10 : x18_1 < (l1.length : Int)
       ·rw [if_pos c10] at H
        have c10b0 : decide (x18_1 < (l1.length : Int)) = true := decide_eq_true c10
        clear c10
        by_cases c11 : 0 ≤ (rd l1 x18_1)
        ·rw [if_pos c11] at H
         have c11b0 : decide (0 ≤ (rd l1 x18_1)) = true := decide_eq_true c11
         clear c11
         by_cases c12 : (rd l1 x18_1) < (x5_1.length : Int)
         ·rw [if_pos c12] at H
          have c12b0 : decide ((rd l1 x18_1) < (x5_1.length : Int)) = true := decide_eq_true c12
          clear c12
          obtain ⟨y312, hy312⟩ : ∃ y_ : List Bool, y_ = (x5_1.set ((rd l1 x18_1) : Int).toNat true) := ⟨_, rfl⟩
          replace H : (impl_Pool_makes.l0 k1 y312 l1 (l1.length : Int) (wrap64 (x18_1 + 1)) l0_0) = some r := by first | (rw [hy312]; with_reducible exact H) | (have H2_ := (Option.bind_some _ _).symm.trans H; rw [hy312]; with_reducible exact H2_) | (have H2_ := (Option.bind_some _ _).symm.trans H; with_reducible exact H2_) | with_reducible exact H | (rw [hy312]; exact H) | exact H
          have Ny312 := Aside0.mk hy312
          clear hy312
          have H' := Aside0.mk H
          clear H
          have p311 : 0 ≤ (x18_1 : Int) := of_decide_eq_true (by first | (with_reducible assumption) | assumption)
          have q311 : x18_1 < (l1.length : Int) := of_decide_eq_true (by first | (with_reducible assumption) | assumption)
          obtain ⟨ad311, e311, hx311_0⟩ := Kd.at_int HR1.out x18_1 p311 q311
          cases e311
          replace hx311_0 := (HB.out.cell (World.block_lt_of_cell? w _ hx311_0)).trans hx311_0
          replace p311 := eq_true p311
          replace q311 := eq_true q311
          have p13 : 0 ≤ ((rd l1 x18_1) : Int) := of_decide_eq_true (by first | (with_reducible assumption) | assumption)
          have q13 : ((rd l1 x18_1) : Int) < ((x5_1.length : Int) : Int) := of_decide_eq_true (by first | (with_reducible assumption) | assumption)
          obtain ⟨go13, co13, eo13, gb13, gl13, cl13, HG13⟩ := Kd.R_form HO_5.out (by omega)
          (first | cases eo13 | (injection eo13 with ea_ en_ ec_; (first | subst ea_ | (injection ea_ with ea_; subst ea_)); subst ec_; clear en_))
          have GB13 := Aside0.mk gb13
          have GG13 := Aside0.mk HG13
          clear gb13 gl13 HG13
          obtain ⟨hx13_0, hf13_0⟩ := Kd.R_celln false HO_5.out ((rd l1 x18_1) : Int) p13 q13
          replace p13 := eq_true p13
          replace q13 := eq_true q13
          have HP14 := Kd.R_putg HO_5.out ((rd l1 x18_1) : Int) true
          go_wp2_with (first | ((with_reducible refine gate_store (t := 4) (p := 24) rfl ?_); refine store_event (t := 4) (p := 24) (v := ?vo_w15) (w1 := (wr.setCell ⟨go13, ((rd l1 x18_1) : Int).toNat, none⟩ (.bool true))) ?hg ?ho ?hn ?hr ?_; (case ho => rfl); (case hg => rfl); (case hn => rfl); (case hr => first | (go_simp; done) | (go_simp; rfl)); intro w15 hw; have hg : wr.grownBy w15 (some go13) := (by rw [hw]; exact HP14.2); have hp_ : Kd.R Kd.bool 4 w15 w.heap.size (fun _ => True) (.slice (some ⟨go13, 0, none⟩) x5_1.length co13) y312 := (by rw [hw, Ny312.out]; exact HP14.1); clear HP14; have n0_ := Aside0.mk (hp_); have n1_ := Aside0.mk (blk_grown (zh BK0.out) hg (Kd.R_ne HO_5.out BK0.out (by decide))); have n2_ := Aside0.mk ((by rw [hw]; exact below_set (HB.out) GB13.out : Below w.heap.size w w15)); clear HO_5; clear BK0; clear HB; have HO_5 := n0_; have BK0 := n1_; have HB := n2_; clear n0_ n1_ n2_; clear hg hw hp_))
          go_roundg k1
          case measure => have := HK1.out; omega
          case rel => exact ⟨(y312), (wrap64 (x18_1 + 1)), (by first | rfl | (simp; done) | (simp [*]; done)), H', ⟨by have := HK1.out; omega⟩, ⟨zr HO_5.out⟩, ⟨zh BK0.out⟩, ⟨zb HB.out⟩⟩
         ·rw [if_neg c12] at H
          exact absurd H (by simp)
        ·rw [if_neg c11] at H
         exact absurd H (by simp)
       ·rw [if_neg c10] at H
        exact absurd H (by simp)
      ·rw [if_neg c9] at H
       exact absurd H (by simp)
     ·rw [if_neg c8] at H
      have c8b0 : decide (x18_1 < (l1.length : Int)) = false := decide_eq_false c8
      clear c8
      have H' := Aside0.mk H
      clear H
      go_wp2
      go_loopg [8] k1 (fun kq v8 w' => ∃ (x5_2 : List Bool) (x8_2 : Bool), v8 = .bool x8_2 ∧ Aside0 (impl_Pool_makes.l1 kq x5_2 x8_2 l0_0 = some r) ∧ Aside0 (kq ≤ k1) ∧ Aside0 (Kd.R Kd.bool 4 w' w.heap.size (fun _ => True) v309 x5_2) ∧ Aside0 (w'.heap[g0_]? = some (.cells #[(.slice A0_0 l0_0.length c0_0)] 30 (0, 0))) ∧ Aside0 (Below w.heap.size w w'))
      case atStart => exact ⟨(x5_1), (true), (by first | rfl | (simp; done) | (simp [*]; done)), H', ⟨Nat.le_refl _⟩, ⟨zr HO_5.out⟩, ⟨zh BK0.out⟩, ⟨zb HB.out⟩⟩
      case round =>
       clear H'
       try clear c1
       try clear p1
       try clear q1
       try clear hx1
       try clear p2
       try clear c3
       try clear c3b0
       try clear c3b1
       try clear p3
       try clear q3
       try clear hx3
       try clear c4
       try clear c4b0
       try clear c4b1
       try clear p6
       try clear c8
       try clear c8b0
       try clear c9
       try clear c9b0
       try clear c10
       try clear c10b0
       try clear c11
       try clear c11b0
       try clear c12
       try clear c12b0
       try clear p13
       try clear q13
       try clear hx13
       try clear hf13
       try clear hcz5_0
       try clear hfz5_0
       try clear hx13_0
       try clear hx311_0
       try clear p13
       try clear p2
       try clear p311
       try clear q13
       try clear q311
       obtain ⟨x5_2, x8_2, rfl, HA, HK2, HO_5, BK0, HB⟩ := hrel
       cases gk with
       | zero => exact absurd HA.out (by simp [impl_Pool_makes.l1])
       | succ k2 =>
        have H := HA.out
        clear HA
        simp only [impl_Pool_makes.l1] at H
        by_cases c16 : x8_2 = true
        ·subst c16
         have H1 : (impl_Pool_makes.l2 k2 x5_2 false (x5_2.length : Int) 0 l0_0) = some r := by rw [if_pos rfl] at H; exact H
         clear H
         have H := H1
         clear H1
         have H' := Aside0.mk H
         clear H
         obtain ⟨Ao17, co17, eo17⟩ := Kd.R_slice HO_5.out
         subst eo17
         go_wp2
         go_loopg [8, 29] k2 (fun kq v8 v29 w' => ∃ (x5_3 : List Bool) (x8_3 : Bool) (x29_3 : Int), v8 = .bool x8_3 ∧ v29 = .int .i64 x29_3 ∧ Aside0 (impl_Pool_makes.l2 kq x5_3 x8_3 (x5_2.length : Int) x29_3 l0_0 = some r) ∧ Aside0 (kq ≤ k2) ∧ Aside0 (Kd.R Kd.bool 4 w' w.heap.size (fun _ => True) (.slice Ao17 x5_2.length co17) x5_3) ∧ Aside0 (w'.heap[g0_]? = some (.cells #[(.slice A0_0 l0_0.length c0_0)] 30 (0, 0))) ∧ Aside0 (Below w.heap.size w w'))
         case atStart => exact ⟨(x5_2), (false), (0), (by first | rfl | (simp; done) | (simp [*]; done)), (by first | rfl | (simp; done) | (simp [*]; done)), H', ⟨Nat.le_refl _⟩, ⟨zr HO_5.out⟩, ⟨zh BK0.out⟩, ⟨zb HB.out⟩⟩
         case round =>
          clear H'
          try clear c1
          try clear p1
          try clear q1
          try clear hx1
          try clear p2
          try clear c3
          try clear c3b0
          try clear c3b1
          try clear p3
          try clear q3
          try clear hx3
          try clear c4
          try clear c4b0
          try clear c4b1
          try clear p6
          try clear c8
          try clear c8b0
          try clear c9
          try clear c9b0
          try clear c10
          try clear c10b0
          try clear c11
          try clear c11b0
          try clear c12
          try clear c12b0
          try clear p13
          try clear q13
          try clear hx13
          try clear hf13
          try clear c16
          try clear hcz5_0
          try clear hfz5_0
          try clear hx13_0
          try clear hx311_0
          try clear p1
          try clear p13
          try clear p2
          try clear p3
          try clear p311
          try clear p6
          try clear q1
          try clear q13
          try clear q3
          try clear q311
          obtain ⟨x5_3, x8_3, x29_3, rfl, rfl, HA, HK3, HO_5, BK0, HB⟩ := hrel
          have hl5_3 := (Kd.R_reads' HO_5.out).1
          rw [hl5_3] at HO_5
          (try simp only [hl5_3])
          (try simp only [hl5_3] at BK0)
          cases gk with
          | zero => exact absurd HA.out (by simp [impl_Pool_makes.l2])
          | succ k3 =>
           have H := HA.out
           clear HA
           simp only [impl_Pool_makes.l2] at H
           by_cases c18 : x29_3 < (x5_2.length : Int)
           ·rw [if_pos c18] at H
            have c18b0 : decide (x29_3 < (x5_2.length : Int)) = true := decide_eq_true c18
            (try (have c18b0h := c18b0; simp only [hl5_3] at c18b0h))
            clear c18
            by_cases c19 : 0 ≤ x29_3
            ·rw [if_pos c19] at H
             have c19b0 : decide (0 ≤ x29_3) = true := decide_eq_true c19
             clear c19
             by_cases c20 : x29_3 < (x5_3.length : Int)
             ·rw [if_pos c20] at H
              have c20b0 : decide (x29_3 < (x5_3.length : Int)) = true := decide_eq_true c20
              (try (have c20b0h := c20b0; simp only [hl5_3] at c20b0h))
              clear c20
              obtain ⟨bq21, hbq21⟩ : ∃ b_ : Bool, b_ = (rdOf false x5_3 x29_3) := ⟨_, rfl⟩
              replace H : (if bq21 = true then (impl_Pool_makes.l2 k3 x5_3 x8_3 (x5_2.length : Int) (wrap64 (x29_3 + 1)) l0_0) else ((impl_Pool_canMake.f k3 l0_0 x29_3 x5_3).bind fun t314 => (if t314 = true then (impl_Pool_makes.l2 k3 (x5_3.set (x29_3 : Int).toNat true) true (x5_2.length : Int) (wrap64 (x29_3 + 1)) l0_0) else (impl_Pool_makes.l2 k3 x5_3 x8_3 (x5_2.length : Int) (wrap64 (x29_3 + 1)) l0_0)))) = some r := by rw [← hbq21] at H; exact H
              have Nbq21 := Aside0.mk hbq21
              clear hbq21
              by_cases c22 : bq21 = true
              ·subst c22
               have H1 : (impl_Pool_makes.l2 k3 x5_3 x8_3 (x5_2.length : Int) (wrap64 (x29_3 + 1)) l0_0) = some r := by rw [if_pos rfl] at H; exact H
               clear H
               have H := H1
               clear H1
               have H' := Aside0.mk H
               clear H
               have p313 : 0 ≤ (x29_3 : Int) := of_decide_eq_true (by first | (with_reducible assumption) | assumption)
               have q313 : x29_3 < (x5_3.length : Int) := of_decide_eq_true (by first | (with_reducible assumption) | assumption)
               obtain ⟨ad313, e313, hx313_0⟩ := Kd.at_bool (Kd.R_reads' HO_5.out).2.2 x29_3 p313 q313
               (try rw [← Nbq21.out] at hx313_0)
               cases e313
               replace p313 := eq_true p313
               replace q313 := eq_true q313
               go_wp2
               (try simp only [← hl5_3])
               go_roundg k3
               case measure => have := HK1.out; have := HK2.out; have := HK3.out; omega
               case rel => exact ⟨(x5_3), (x8_3), (wrap64 (x29_3 + 1)), (by first | rfl | (simp; done) | (simp [*]; done)), (by first | rfl | (simp; done) | (simp [*]; done)), H', ⟨by have := HK1.out; have := HK2.out; have := HK3.out; omega⟩, ⟨by (try simp only [hl5_3]); (with_reducible repeat (first | apply Kd.R_alloc | apply Kd.R_drewN | apply Kd.R_drew)); exact HO_5.out⟩, ⟨by (try simp only [hl5_3]); (with_reducible repeat (first | refine blk_drewN ?_ _ | refine blk_drew ?_ | refine blk_alloc ?_ _)); exact BK0.out⟩, ⟨zb HB.out⟩⟩
              ·replace c22 := Bool.eq_false_iff.mpr c22
               subst c22
               have H1 : ((impl_Pool_canMake.f k3 l0_0 x29_3 x5_3).bind fun t314 => (if t314 = true then (impl_Pool_makes.l2 k3 (x5_3.set (x29_3 : Int).toNat true) true (x5_2.length : Int) (wrap64 (x29_3 + 1)) l0_0) else (impl_Pool_makes.l2 k3 x5_3 x8_3 (x5_2.length : Int) (wrap64 (x29_3 + 1)) l0_0))) = some r := by rw [if_neg (show ¬ (false = true) by decide)] at H; exact H
               clear H
               have H := H1
               clear H1
               replace H := Option.bind_eq_some_iff.mp H
               obtain ⟨t314, A230, H⟩ := H
               replace H : (if t314 = true then (impl_Pool_makes.l2 k3 (x5_3.set (x29_3 : Int).toNat true) true (x5_2.length : Int) (wrap64 (x29_3 + 1)) l0_0) else (impl_Pool_makes.l2 k3 x5_3 x8_3 (x5_2.length : Int) (wrap64 (x29_3 + 1)) l0_0)) = some r := H
               have A23 := Aside0.mk A230
               clear A230
               by_cases c24 : t314 = true
               ·subst c24
                have H1 : (impl_Pool_makes.l2 k3 (x5_3.set (x29_3 : Int).toNat true) true (x5_2.length : Int) (wrap64 (x29_3 + 1)) l0_0) = some r := by rw [if_pos rfl] at H; exact H
                clear H
                have H := H1
                clear H1
                obtain ⟨y315, hy315⟩ : ∃ y_ : List Bool, y_ = (x5_3.set (x29_3 : Int).toNat true) := ⟨_, rfl⟩
                replace H : (impl_Pool_makes.l2 k3 y315 true (x5_2.length : Int) (wrap64 (x29_3 + 1)) l0_0) = some r := by first | (rw [hy315]; with_reducible exact H) | (have H2_ := (Option.bind_some _ _).symm.trans H; rw [hy315]; with_reducible exact H2_) | (have H2_ := (Option.bind_some _ _).symm.trans H; with_reducible exact H2_) | with_reducible exact H | (rw [hy315]; exact H) | exact H
                have Ny315 := Aside0.mk hy315
                clear hy315
                have H' := Aside0.mk H
                clear H
                have p313 : 0 ≤ (x29_3 : Int) := of_decide_eq_true (by first | (with_reducible assumption) | assumption)
                have q313 : x29_3 < (x5_3.length : Int) := of_decide_eq_true (by first | (with_reducible assumption) | assumption)
                obtain ⟨ad313, e313, hx313_0⟩ := Kd.at_bool (Kd.R_reads' HO_5.out).2.2 x29_3 p313 q313
                (try rw [← Nbq21.out] at hx313_0)
                cases e313
                replace p313 := eq_true p313
                replace q313 := eq_true q313
                go_wp2_with (first | (go_at_call 115; (with_reducible refine (impl_Pool_canMake.calls k3 _ A0_0 c0_0 l0_0 x29_3 _ _ x5_3 true _ ?side1 ?side2 ?side3 ?side4 ?side5 A23.out).mono ?_); (case side1 => exact zh BK0.out); (case side2 => exact zc (Kd.C_below HR0_0.out HB.out)); (case side3 => exact HC0_0.out); (case side4 => exact zc (Kd.R_reads' HO_5.out).2.2); (case side5 => exact (Kd.R_reads' HO_5.out).2.1); rintro e w26 ⟨rfl, hb⟩; have n0_ := Aside0.mk (Kd.R_below (zr HO_5.out) hb); have n1_ := Aside0.mk (blk_below (zh BK0.out) hb); have n2_ := Aside0.mk (below_step (zb HB.out) hb); clear HO_5; clear BK0; clear HB; have HO_5 := n0_; have BK0 := n1_; have HB := n2_; clear n0_ n1_ n2_; (try clear hb); (try clear hb2); (try clear hk); (try clear hi); have p25 : 0 ≤ (x29_3 : Int) := of_decide_eq_true (by first | (with_reducible assumption) | assumption); have q25 : (x29_3 : Int) < ((x5_3.length : Int) : Int) := of_decide_eq_true (by first | (with_reducible assumption) | assumption); obtain ⟨go25, co25, eo25, gb25, gl25, cl25, HG25⟩ := Kd.R_form HO_5.out (by omega); (first | cases eo25 | (injection eo25 with ea_ en_ ec_; (first | subst ea_ | (injection ea_ with ea_; subst ea_)); subst ec_; clear en_)); have GB25 := Aside0.mk gb25; have GG25 := Aside0.mk HG25; clear gb25 gl25 HG25; (first | simp only [add_plain] at hx313_0 | skip); obtain ⟨hx25_0, hf25_0⟩ := Kd.R_celln false HO_5.out (x29_3 : Int) p25 q25; replace p25 := eq_true p25; replace q25 := eq_true q25; obtain ⟨hy27_, hz27_⟩ := Kd.R_celln false HO_5.out (x29_3 : Int) (of_decide_eq_true (by first | (with_reducible assumption) | assumption)) (of_decide_eq_true (by first | (with_reducible assumption) | assumption)); have HP27 := Kd.R_putg HO_5.out (x29_3 : Int) true) | ((with_reducible refine gate_store (t := 4) (p := 45) rfl ?_); refine store_event (t := 4) (p := 45) (v := ?vo_w28) (w1 := (w26.setCell ⟨go25, (x29_3 : Int).toNat, none⟩ (.bool true))) ?hg ?ho ?hn ?hr ?_; (case ho => rfl); (case hg => rfl); (case hn => rfl); (case hr => first | (go_simp; done) | (go_simp; rfl)); intro w28 hw; have hg : w26.grownBy w28 (some go25) := (by rw [hw]; exact HP27.2); have hp_ : Kd.R Kd.bool 4 w28 w.heap.size (fun _ => True) (.slice (some ⟨go25, 0, none⟩) x5_3.length co17) y315 := (by rw [hw, Ny315.out]; exact HP27.1); clear HP27; have n0_ := Aside0.mk (hp_); have n1_ := Aside0.mk (blk_grown (zh BK0.out) hg (Kd.R_ne HO_5.out BK0.out (by decide))); have n2_ := Aside0.mk ((by rw [hw]; exact below_set (HB.out) GB25.out : Below w.heap.size w w28)); clear HO_5; clear BK0; clear HB; have HO_5 := n0_; have BK0 := n1_; have HB := n2_; clear n0_ n1_ n2_; clear hg hw hp_))
                (try simp only [← hl5_3])
                go_roundg k3
                case measure => have := HK1.out; have := HK2.out; have := HK3.out; omega
                case rel => exact ⟨(y315), (true), (wrap64 (x29_3 + 1)), (by first | rfl | (simp; done) | (simp [*]; done)), (by first | rfl | (simp; done) | (simp [*]; done)), H', ⟨by have := HK1.out; have := HK2.out; have := HK3.out; omega⟩, ⟨by (try simp only [hl5_3]); (with_reducible repeat (first | apply Kd.R_alloc | apply Kd.R_drewN | apply Kd.R_drew)); exact HO_5.out⟩, ⟨by (try simp only [hl5_3]); (with_reducible repeat (first | refine blk_drewN ?_ _ | refine blk_drew ?_ | refine blk_alloc ?_ _)); exact BK0.out⟩, ⟨zb HB.out⟩⟩
               ·replace c24 := Bool.eq_false_iff.mpr c24
                subst c24
                have H1 : (impl_Pool_makes.l2 k3 x5_3 x8_3 (x5_2.length : Int) (wrap64 (x29_3 + 1)) l0_0) = some r := by rw [if_neg (show ¬ (false = true) by decide)] at H; exact H
                clear H
                have H := H1
                clear H1
                have H' := Aside0.mk H
                clear H
                have p313 : 0 ≤ (x29_3 : Int) := of_decide_eq_true (by first | (with_reducible assumption) | assumption)
                have q313 : x29_3 < (x5_3.length : Int) := of_decide_eq_true (by first | (with_reducible assumption) | assumption)
                obtain ⟨ad313, e313, hx313_0⟩ := Kd.at_bool (Kd.R_reads' HO_5.out).2.2 x29_3 p313 q313
                (try rw [← Nbq21.out] at hx313_0)
                cases e313
                replace p313 := eq_true p313
                replace q313 := eq_true q313
                go_wp2_with (first | (go_at_call 115; (with_reducible refine (impl_Pool_canMake.calls k3 _ A0_0 c0_0 l0_0 x29_3 _ _ x5_3 false _ ?side1 ?side2 ?side3 ?side4 ?side5 A23.out).mono ?_); (case side1 => exact zh BK0.out); (case side2 => exact zc (Kd.C_below HR0_0.out HB.out)); (case side3 => exact HC0_0.out); (case side4 => exact zc (Kd.R_reads' HO_5.out).2.2); (case side5 => exact (Kd.R_reads' HO_5.out).2.1); rintro e w29 ⟨rfl, hb⟩; have n0_ := Aside0.mk (Kd.R_below (zr HO_5.out) hb); have n1_ := Aside0.mk (blk_below (zh BK0.out) hb); have n2_ := Aside0.mk (below_step (zb HB.out) hb); clear HO_5; clear BK0; clear HB; have HO_5 := n0_; have BK0 := n1_; have HB := n2_; clear n0_ n1_ n2_; (try clear hb); (try clear hb2); (try clear hk); (try clear hi)))
                (try simp only [← hl5_3])
                go_roundg k3
                case measure => have := HK1.out; have := HK2.out; have := HK3.out; omega
                case rel => exact ⟨(x5_3), (x8_3), (wrap64 (x29_3 + 1)), (by first | rfl | (simp; done) | (simp [*]; done)), (by first | rfl | (simp; done) | (simp [*]; done)), H', ⟨by have := HK1.out; have := HK2.out; have := HK3.out; omega⟩, ⟨by (try simp only [hl5_3]); (with_reducible repeat (first | apply Kd.R_alloc | apply Kd.R_drewN | apply Kd.R_drew)); exact HO_5.out⟩, ⟨by (try simp only [hl5_3]); (with_reducible repeat (first | refine blk_drewN ?_ _ | refine blk_drew ?_ | refine blk_alloc ?_ _)); exact BK0.out⟩, ⟨zb HB.out⟩⟩
             ·rw [if_neg c20] at H
              exact absurd H (by simp)
            ·rw [if_neg c19] at H
             exact absurd H (by simp)
           ·rw [if_neg c18] at H
            have c18b0 : decide (x29_3 < (x5_2.length : Int)) = false := decide_eq_false c18
            (try (have c18b0h := c18b0; simp only [hl5_3] at c18b0h))
            clear c18
            have H' := Aside0.mk H
            clear H
            go_wp2
            (try simp only [← hl5_3])
            go_roundg k3
            case measure => have := HK1.out; have := HK2.out; have := HK3.out; omega
            case rel => exact ⟨(x5_3), (x8_3), (by first | rfl | (simp; done) | (simp [*]; done)), H', ⟨by have := HK1.out; have := HK2.out; have := HK3.out; omega⟩, ⟨by (try simp only [hl5_3]); (with_reducible repeat (first | apply Kd.R_alloc | apply Kd.R_drewN | apply Kd.R_drew)); exact HO_5.out⟩, ⟨by (try simp only [hl5_3]); (with_reducible repeat (first | refine blk_drewN ?_ _ | refine blk_drew ?_ | refine blk_alloc ?_ _)); exact BK0.out⟩, ⟨zb HB.out⟩⟩
        ·replace c16 := Bool.eq_false_iff.mpr c16
         subst c16
         have H1 : (some x5_2) = some r := by rw [if_neg (show ¬ (false = true) by decide)] at H; exact H
         clear H
         have H := H1
         clear H1
         obtain rfl := Option.some.inj H
         go_wp2
         go_ret
         exact ⟨_, ze, zr HO_5.out, zb HB.out⟩
  ·rw [if_neg c4] at H
   exact absurd H (by simp)
 ·rw [if_neg c3] at H
  exact absurd H (by simp)


/-! ### slices_Clone_int_int: function 125 -/
-- IMPORT Derived.Lib.SliceRun
def slices_Clone_int_int.f (l0 : List Int) : Option (List Int) := if l0.length < 17592186044416 then some l0 else none
set_option maxHeartbeats 8000000 in
set_option maxRecDepth 100000 in
theorem slices_Clone_int_int.calls (A0 : Option Addr) (c0 : Nat) (l0 : List Int) (r : List Int) (w : World) (hr0 : Kd.C (Kd.int .i64) w A0 l0.length l0) (hc0 : l0.length ≤ c0) (h : slices_Clone_int_int.f l0 = some r) :
  Calls Try.prog 125 #[.slice A0 l0.length c0] w fun e w' => ∃ v0_ : Value, e = .returned v0_ ∧ Kd.R (Kd.int .i64) 3 w' w.heap.size (fun _ => True) v0_ r ∧ Below w.heap.size w w' := by
 have HB := Aside0.mk (Below.refl w.heap.size w)
 have hnil := fun (w : World) (a : Option Addr) (n c : Nat) => Go.Lib.run_eql_slice_nil (P := Try.prog) w 26 3 a n c 0 0 Try.underlying26
 unfold slices_Clone_int_int.f at h
 by_cases hl : l0.length < 17592186044416
 case neg => rw [if_neg hl] at h; exact absurd h (by simp)
 rw [if_pos hl] at h
 obtain rfl := Option.some.inj h
 cases A0 with
 | none =>
  have hn : l0 = [] := by
   by_cases h0 : 0 < l0.length
   ·obtain ⟨ad, e, _⟩ := hr0.2.2 h0
    exact absurd e (by simp)
   ·exact List.eq_nil_of_length_eq_zero (by omega)
  subst hn
  go_enter Try.func125, Try.ntmps125
  go_wp2
  repeat (go_quiet (fail); try go_wp2)
  go_ret
  exact ⟨_, rfl, Kd.R_nil _ _ _ _ _, zb HB.out⟩
 | some a =>
  have HR0 := Aside0.mk hr0
  go_enter Try.func125, Try.ntmps125
  go_wp2_with (first | ((with_reducible refine gate_dst (N := 5) rfl ?_); refine Kd.R_lit (Kd.int .i64) _ 3 ?hg (N := 5) ?hd (xs := ([] : List (Int))) (inner := []) (ok := fun _ => True) (okp := fun _ => True) ?hr ?hp (fun _ hk => hk) trivial (Below.refl _ _) (Nat.le_refl _) (by simp) ?_; (case hd => rfl); (case hg => rfl); (case hr => first | (go_simp; done) | (go_simp; rfl)); (case hp => exact (Reps.none _ _)); intro v120 w5 ho6 hb hg_ hnew_; clear hg_ hnew_; have n0_ := Aside0.mk (Kd.R_lower ho6 (below_size (zb HB.out))); have n3_ := Aside0.mk (below_step (zb HB.out) hb); clear HB; have HO121 := n0_; have HB := n3_; clear n0_ n3_; clear hb ho6) | ((with_reducible refine gate_builtin (b := .append) (xs := #[.tmp 5, .tmp 6]) rfl ?_); at_builtin; refine Kd.R_append_rows (Kd.int .i64) (w0 := w) w.heap.size rfl (.tmp 5) (.tmp 6) 26 3 (.int .i64 0) 8 rfl Try.underlying26 info3 rfl (by decide) (by omega) v120 ([] : List (Int)) l0 _ _ _ (fun _ => True) (fun _ => False) rfl rfl ?aO ?aR (fun _ _ h => h) (fun _ h => h.elim) ?aF ?aB ?aS ?aL ?_; (case aR => exact zc (Kd.C_below HR0.out HB.out)); (case aB => exact (zb HB.out)); (case aF => exact (fun _ _ => trivial)); (case aO => exact (zr HO121.out)); (case aS => exact (below_size (zb HB.out))); (case aL => simp; omega); intro v123 w9 ho hb hg hat; rw [List.nil_append] at ho; have n2_ := Aside0.mk hb; have n3_ := Aside0.mk ho; clear HB; clear HO121; have HB := n2_; have HO124 := n3_; clear n2_ n3_; clear ho hb hg hat; obtain ⟨Ao10, co10, eo10⟩ := Kd.R_slice HO124.out; subst eo10))
  go_ret
  exact ⟨_, rfl, zr HO124.out, zb HB.out⟩


end Go.Proofs.Ytdgahpigcaejbaa.E
end
