import Derived.Test.YtilnfdnigjblcaaVH0
import Derived.Test.YtilnfdnigjblcaaVHg5
import Derived.Test.YtilnfdnigjblcaaVHg0
import Derived.Lib.SliceRun
section
-- Written by this session's program (wip/tools/gprint.py over the kit's print) out of the translation; Lean checks it.
namespace Go.Proofs.Ytilnfdnigjblcaa.H
open Go.RowKit Go.Proofs.YtilnfdnigjblcaaW.PrintWords Go.Proofs.YtilnfdnigjblcaaW.PrintLast Go.Proofs.YtilnfdnigjblcaaW.PrintMore
attribute [local go_sem] max2_int min2_int max_two min_two max_three min_three max_four min_four   -- for this text's walks alone
set_option linter.unusedVariables false
set_option linter.unusedSimpArgs false
set_option maxRecDepth 100000

/-! ### impl_Pool_canMake: function 68 -/
mutual
def impl_Pool_canMake.l0 : Nat → List Bool → Bool → List Int → Int → Int → List (S67) → Int → Int → Int → Option (Bool)
 | 0, _, _, _, _, _, _, _, _, _ => none
 | k + 1, x2, x8, x26, x27, x28, x1000, x407000, x407001, x407002 => if x28 < x27 then (if 0 ≤ x28 then (if x28 < (x26.length : Int) then (if x8 = true then (if 0 ≤ (rd x26 x28) then (if (rd x26 x28) < (x2.length : Int) then (impl_Pool_canMake.l0 k x2 (rdOf false x2 (rd x26 x28)) x26 x27 (wrap64 (x28 + 1)) x1000 x407000 x407001 x407002) else (none)) else (none)) else (impl_Pool_canMake.l0 k x2 false x26 x27 (wrap64 (x28 + 1)) x1000 x407000 x407001 x407002)) else (none)) else (none)) else (if x8 = true then (impl_Pool_canMake.j1 k x2 x8 true x1000 x407000 x407001 x407002) else (impl_Pool_canMake.j1 k x2 x8 (x407000 != 8) x1000 x407000 x407001 x407002))
def impl_Pool_canMake.j1 : Nat → List Bool → Bool → Bool → List (S67) → Int → Int → Int → Option (Bool)
 | 0, _, _, _, _, _, _, _ => none
 | k + 1, x2, x8, x45, x1000, x407000, x407001, x407002 => if x45 = true then (some x8) else (if 0 ≤ x407001 then (if x407001 < (x2.length : Int) then (if rdOf false x2 x407001 = true then ((impl_Pool_isMade.f k x1000 7 x407002 0 x2).bind fun t414 => (if t414 = true then (some true) else (if 0 ≤ x407002 then (if x407002 < (x2.length : Int) then (if rdOf false x2 x407002 = true then ((impl_Pool_isMade.f k x1000 7 x407001 0 x2).bind fun t416 => (some t416)) else (some false)) else (none)) else (none)))) else (if 0 ≤ x407002 then (if x407002 < (x2.length : Int) then (if rdOf false x2 x407002 = true then ((impl_Pool_isMade.f k x1000 7 x407001 0 x2).bind fun t418 => (some t418)) else (some false)) else (none)) else (none))) else (none)) else (none))
end
def impl_Pool_canMake.f (k : Nat) (l0_0 : List (S67)) (a1 : Int) (l2 : List Bool) : Option (Bool) := if 0 ≤ a1 then (if a1 < (l0_0.length : Int) then (if ((rd_T67 l0_0 a1).f0) = 1 then ((impl_IsPublic.f ((rd_T67 l0_0 a1).f1)).bind fun t407 => (some t407)) else ((impl_Pool_parts.f k l0_0 a1).bind fun t408 => (impl_Pool_canMake.l0 k l2 true t408 (t408.length : Int) 0 l0_0 ((rd_T67 l0_0 a1).f0) ((rd_T67 l0_0 a1).f1) ((rd_T67 l0_0 a1).f2)))) else (none)) else (none)
theorem impl_Pool_canMake.mono_l : ∀ k, (∀ y0 y1 y2 y3 y4 y5 y6 y7 y8, LeO (impl_Pool_canMake.l0 k y0 y1 y2 y3 y4 y5 y6 y7 y8) (impl_Pool_canMake.l0 (k + 1) y0 y1 y2 y3 y4 y5 y6 y7 y8)) ∧ (∀ y0 y1 y2 y3 y4 y5 y6, LeO (impl_Pool_canMake.j1 k y0 y1 y2 y3 y4 y5 y6) (impl_Pool_canMake.j1 (k + 1) y0 y1 y2 y3 y4 y5 y6))
 | 0 => ⟨fun _ _ _ _ _ _ _ _ _ r h => by simp [impl_Pool_canMake.l0] at h, fun _ _ _ _ _ _ _ r h => by simp [impl_Pool_canMake.j1] at h⟩
 | k + 1 => by
  obtain ⟨ih0, ih1⟩ := impl_Pool_canMake.mono_l k
  refine ⟨?_, ?_⟩
  ·intro y0 y1 y2 y3 y4 y5 y6 y7 y8
   unfold impl_Pool_canMake.l0
   repeat' first
   | (with_reducible exact ih0 _ _ _ _ _ _ _ _ _)
   | (with_reducible exact ih1 _ _ _ _ _ _ _)
   | (with_reducible exact impl_Pool_isMade.mono _ _ _ _ _ _)
   | (with_reducible exact impl_Pool_parts.mono _ _ _)
   | (with_reducible exact LeO.refl _)
   | (with_reducible exact LeO.none _)
   | (with_reducible refine LeO.ite ?_ ?_)
   | (with_reducible refine LeO.bind ?_ (fun _ => ?_))
   | exact ih0 _ _ _ _ _ _ _ _ _
   | exact ih1 _ _ _ _ _ _ _
   | exact impl_Pool_isMade.mono _ _ _ _ _ _
   | exact impl_Pool_parts.mono _ _ _
   | exact LeO.none _
   | refine LeO.ite ?_ ?_
   | refine LeO.bind ?_ (fun _ => ?_)
  ·intro y0 y1 y2 y3 y4 y5 y6
   unfold impl_Pool_canMake.j1
   repeat' first
   | (with_reducible exact ih0 _ _ _ _ _ _ _ _ _)
   | (with_reducible exact ih1 _ _ _ _ _ _ _)
   | (with_reducible exact impl_Pool_isMade.mono _ _ _ _ _ _)
   | (with_reducible exact impl_Pool_parts.mono _ _ _)
   | (with_reducible exact LeO.refl _)
   | (with_reducible exact LeO.none _)
   | (with_reducible refine LeO.ite ?_ ?_)
   | (with_reducible refine LeO.bind ?_ (fun _ => ?_))
   | exact ih0 _ _ _ _ _ _ _ _ _
   | exact ih1 _ _ _ _ _ _ _
   | exact impl_Pool_isMade.mono _ _ _ _ _ _
   | exact impl_Pool_parts.mono _ _ _
   | exact LeO.none _
   | refine LeO.ite ?_ ?_
   | refine LeO.bind ?_ (fun _ => ?_)
theorem impl_Pool_canMake.mono : ∀ a0 a1 a2 k, LeO (impl_Pool_canMake.f k a0 a1 a2) (impl_Pool_canMake.f (k + 1) a0 a1 a2) := by
 intro a0 a1 a2 k
 obtain ⟨ih0, ih1⟩ := impl_Pool_canMake.mono_l k
 unfold impl_Pool_canMake.f
 repeat' first
   | (with_reducible exact ih0 _ _ _ _ _ _ _ _ _)
   | (with_reducible exact ih1 _ _ _ _ _ _ _)
   | (with_reducible exact impl_Pool_isMade.mono _ _ _ _ _ _)
   | (with_reducible exact impl_Pool_parts.mono _ _ _)
   | (with_reducible exact LeO.refl _)
   | (with_reducible exact LeO.none _)
   | (with_reducible refine LeO.ite ?_ ?_)
   | (with_reducible refine LeO.bind ?_ (fun _ => ?_))
   | exact ih0 _ _ _ _ _ _ _ _ _
   | exact ih1 _ _ _ _ _ _ _
   | exact impl_Pool_isMade.mono _ _ _ _ _ _
   | exact impl_Pool_parts.mono _ _ _
   | exact LeO.none _
   | refine LeO.ite ?_ ?_
   | refine LeO.bind ?_ (fun _ => ?_)
set_option maxHeartbeats 8000000 in
set_option maxRecDepth 100000 in
theorem impl_Pool_canMake.calls (k : Nat) (g0_ : Nat) (A0_0 : Option Addr) (c0_0 : Nat) (l0_0 : List (S67)) (a1 : Int) (A2 : Option Addr) (c2 : Nat) (l2 : List Bool) (r : Bool) (w : World) (hk0_ : w.heap[g0_]? = some (.cells #[.slice A0_0 l0_0.length c0_0] 31 (0, 0))) (hr0_0 : Kd.C k67 w A0_0 l0_0.length l0_0) (hc0_0 : l0_0.length ≤ c0_0) (hr2 : Kd.C Kd.bool w A2 l2.length l2) (hc2 : l2.length ≤ c2) (h : impl_Pool_canMake.f k l0_0 a1 l2 = some r) :
  Calls Try.prog 68 #[.pointer (some ⟨g0_, 0, none⟩), .int .i64 a1, .slice A2 l2.length c2] w fun e w' => e = .returned (.bool r) ∧ Below w.heap.size w w' := by
 have hu67 := Try.underlying67
 have HR0_0 := Aside0.mk hr0_0
 have HC0_0 := Aside0.mk hc0_0
 clear hr0_0 hc0_0
 have HR2 := Aside0.mk hr2
 have HC2 := Aside0.mk hc2
 clear hr2 hc2
 have BK0 := Aside0.mk hk0_
 clear hk0_
 have HB := Aside0.mk (Below.refl w.heap.size w)
 have H : (if 0 ≤ a1 then (if a1 < (l0_0.length : Int) then (if ((rd_T67 l0_0 a1).f0) = 1 then ((impl_IsPublic.f ((rd_T67 l0_0 a1).f1)).bind fun t407 => (some t407)) else ((impl_Pool_parts.f k l0_0 a1).bind fun t408 => (impl_Pool_canMake.l0 k l2 true t408 (t408.length : Int) 0 l0_0 ((rd_T67 l0_0 a1).f0) ((rd_T67 l0_0 a1).f1) ((rd_T67 l0_0 a1).f2)))) else (none)) else (none)) = some r := h
 clear h
 by_cases c4 : 0 ≤ a1
 ·rw [if_pos c4] at H
  have c4b0 : decide (0 ≤ a1) = true := decide_eq_true c4
  clear c4
  by_cases c5 : a1 < (l0_0.length : Int)
  ·rw [if_pos c5] at H
   have c5b0 : decide (a1 < (l0_0.length : Int)) = true := decide_eq_true c5
   clear c5
   by_cases c6 : ((rd_T67 l0_0 a1).f0) = 1
   ·rw [if_pos c6] at H
    have c6b0 : (((rd_T67 l0_0 a1).f0) == 1) = true := beq_iff_eq.mpr c6
    have c6b1 : (((rd_T67 l0_0 a1).f0) != 1) = false := bne_eq_false_iff_eq.mpr c6
    clear c6
    replace H := Option.bind_eq_some_iff.mp H
    obtain ⟨t407, A70, H⟩ := H
    replace H : (some t407) = some r := H
    have A7 := Aside0.mk A70
    clear A70
    obtain rfl := Option.some.inj H
    have hcz8_0 : w.cell? ⟨g0_, 0, none⟩ = some (.slice A0_0 l0_0.length c0_0) := (blk_cell BK0.out 0).trans rfl
    have hfz8_0 := blk_frozen BK0.out 0
    have p405 : 0 ≤ (a1 : Int) := of_decide_eq_true (by first | (with_reducible assumption) | assumption)
    have q405 : a1 < (l0_0.length : Int) := of_decide_eq_true (by first | (with_reducible assumption) | assumption)
    obtain ⟨ad405, e405, hx405_0, hx405_1, hx405_2⟩ := at_T67 HR0_0.out a1 p405 q405
    cases e405
    replace p405 := eq_true p405
    replace q405 := eq_true q405
    go_enter Try.func68, Try.ntmps68
    go_wp2_with (first | ((with_reducible refine gate_dst (N := 7) rfl ?_); refine box_event ?hg (N := 7) ?hd (cs := #[.int .i64 0, .int .i64 0, .int .i64 0]) (t := 67) ?hr ?_; (case hd => rfl); (case hg => rfl); (case hr => first | (go_simp; done) | (go_simp; rfl)); intro gb406 hg w9 hbox hb; have n0_ := Aside0.mk (blk_below (zh BK0.out) hb); have n1_ := Aside0.mk (below_step (zb HB.out) hb); have n2_ := Aside0.mk (hbox); have n3_ := Aside0.mk ((by rw [hg]; exact (below_size (zb HB.out)) : w.heap.size ≤ gb406)); have n4_ := Aside0.mk ((by rw [hg]; exact (below_size (zb HB.out)) : w.heap.size ≤ gb406)); have n5_ := Aside0.mk ((by rw [hg]; exact Nat.ne_of_lt (blk_lt (zh BK0.out)) : g0_ ≠ gb406)); have n6_ := Aside0.mk ((by rw [hg]; exact Nat.ne_of_gt (blk_lt (zh BK0.out)) : gb406 ≠ g0_)); clear BK0; clear HB; have BK0 := n0_; have HB := n1_; have BK406 := n2_; have GW406 := n3_; have GE406 := n4_; have NB0_406 := n5_; have NB406_0 := n6_; clear n0_ n1_ n2_ n3_ n4_ n5_ n6_; clear hb hbox hg; have hnb10 := NB406_0.out; have hnc10 := NB0_406.out; have hcz11_0 : w9.cell? ⟨gb406, 0, none⟩ = some (.int .i64 0) := (blk_cell BK406.out 0).trans rfl; have hcz11_1 : w9.cell? ⟨gb406, 1, none⟩ = some (.int .i64 0) := (blk_cell BK406.out 1).trans rfl; have hcz11_2 : w9.cell? ⟨gb406, 2, none⟩ = some (.int .i64 0) := (blk_cell BK406.out 2).trans rfl; have hfz11_0 := blk_frozen BK406.out 0; have hfz11_1 := blk_frozen BK406.out 1; have hfz11_2 := blk_frozen BK406.out 2) | ((with_reducible refine gate_callee (f := 88) rfl ?_); refine goesL_ (some 23) rfl rfl Try.func88 (by kernel_rfl) rfl #[.int .i64 ((rd_T67 l0_0 a1).f1)] rfl zl ?_; (with_reducible refine (impl_IsPublic.calls ((rd_T67 l0_0 a1).f1) t407 _ A7.out).mono ?_); rintro e w' ⟨rfl, ⟨nd, rfl⟩⟩; refine ⟨_, rfl, ?_⟩))
    go_ret
    exact ⟨ze, zb HB.out⟩
   ·rw [if_neg c6] at H
    have c6b0 : (((rd_T67 l0_0 a1).f0) == 1) = false := beq_eq_false_iff_ne.mpr c6
    have c6b1 : (((rd_T67 l0_0 a1).f0) != 1) = true := bne_iff_ne.mpr c6
    replace H := Option.bind_eq_some_iff.mp H
    obtain ⟨t408, A120, H⟩ := H
    replace H : (impl_Pool_canMake.l0 k l2 true t408 (t408.length : Int) 0 l0_0 ((rd_T67 l0_0 a1).f0) ((rd_T67 l0_0 a1).f1) ((rd_T67 l0_0 a1).f2)) = some r := H
    have A12 := Aside0.mk A120
    clear A120
    have H' := Aside0.mk H
    clear H
    have hcz13_0 : w.cell? ⟨g0_, 0, none⟩ = some (.slice A0_0 l0_0.length c0_0) := (blk_cell BK0.out 0).trans rfl
    have hfz13_0 := blk_frozen BK0.out 0
    have p405 : 0 ≤ (a1 : Int) := of_decide_eq_true (by first | (with_reducible assumption) | assumption)
    have q405 : a1 < (l0_0.length : Int) := of_decide_eq_true (by first | (with_reducible assumption) | assumption)
    obtain ⟨ad405, e405, hx405_0, hx405_1, hx405_2⟩ := at_T67 HR0_0.out a1 p405 q405
    cases e405
    replace p405 := eq_true p405
    replace q405 := eq_true q405
    go_enter Try.func68, Try.ntmps68
    go_wp2_with (first | ((with_reducible refine gate_dst (N := 7) rfl ?_); refine box_event ?hg (N := 7) ?hd (cs := #[.int .i64 0, .int .i64 0, .int .i64 0]) (t := 67) ?hr ?_; (case hd => rfl); (case hg => rfl); (case hr => first | (go_simp; done) | (go_simp; rfl)); intro gb406 hg w14 hbox hb; have n0_ := Aside0.mk (blk_below (zh BK0.out) hb); have n1_ := Aside0.mk (below_step (zb HB.out) hb); have n2_ := Aside0.mk (hbox); have n3_ := Aside0.mk ((by rw [hg]; exact (below_size (zb HB.out)) : w.heap.size ≤ gb406)); have n4_ := Aside0.mk ((by rw [hg]; exact (below_size (zb HB.out)) : w.heap.size ≤ gb406)); have n5_ := Aside0.mk ((by rw [hg]; exact Nat.ne_of_lt (blk_lt (zh BK0.out)) : g0_ ≠ gb406)); have n6_ := Aside0.mk ((by rw [hg]; exact Nat.ne_of_gt (blk_lt (zh BK0.out)) : gb406 ≠ g0_)); clear BK0; clear HB; have BK0 := n0_; have HB := n1_; have BK406 := n2_; have GW406 := n3_; have GE406 := n4_; have NB0_406 := n5_; have NB406_0 := n6_; clear n0_ n1_ n2_ n3_ n4_ n5_ n6_; clear hb hbox hg; have hnb15 := NB406_0.out; have hnc15 := NB0_406.out; have hcz16_0 : w14.cell? ⟨gb406, 0, none⟩ = some (.int .i64 0) := (blk_cell BK406.out 0).trans rfl; have hcz16_1 : w14.cell? ⟨gb406, 1, none⟩ = some (.int .i64 0) := (blk_cell BK406.out 1).trans rfl; have hcz16_2 : w14.cell? ⟨gb406, 2, none⟩ = some (.int .i64 0) := (blk_cell BK406.out 2).trans rfl; have hfz16_0 := blk_frozen BK406.out 0; have hfz16_1 := blk_frozen BK406.out 1; have hfz16_2 := blk_frozen BK406.out 2) | ((with_reducible refine gate_callee (f := 89) rfl ?_); refine goesL_ (some 26) rfl rfl Try.func89 (by kernel_rfl) rfl #[.pointer (some ⟨g0_, 0, none⟩), .int .i64 a1] rfl zl ?_; (with_reducible refine (impl_Pool_parts.calls k _ (some ad405) c0_0 l0_0 a1 t408 _ ?side1 ?side2 ?side3 A12.out).mono ?_); (case side1 => exact zf BK0.out); (case side2 => exact Kd.C_below HR0_0.out (zb HB.out)); (case side3 => exact HC0_0.out); rintro e w17 ⟨v409, rfl, ho0, hb⟩; refine ⟨_, rfl, ?_⟩; have n0_ := Aside0.mk (Kd.R_lower ho0 (below_size (zb HB.out))); have n1_ := Aside0.mk (blk_below (g := g0_) (o := .cells #[.slice (some ad405) l0_0.length c0_0] 31 (0, 0)) (zf BK0.out) hb); have n2_ := Aside0.mk (blk_below (g := gb406) (o := .cells #[.int .i64 ((rd_T67 l0_0 a1).f0), .int .i64 ((rd_T67 l0_0 a1).f1), .int .i64 ((rd_T67 l0_0 a1).f2)] 67 (0, 0)) (by (with_reducible repeat (first | refine blk_drewN ?_ _ | refine blk_drew ?_ | refine blk_alloc ?_ _)); refine blk_put (cs := #[.int .i64 ((rd_T67 l0_0 a1).f0), .int .i64 ((rd_T67 l0_0 a1).f1), .int .i64 0]) ?_ 2 _ rfl; (with_reducible repeat (first | refine blk_drewN ?_ _ | refine blk_drew ?_ | refine blk_alloc ?_ _)); refine blk_put (cs := #[.int .i64 ((rd_T67 l0_0 a1).f0), .int .i64 0, .int .i64 0]) ?_ 1 _ rfl; (with_reducible repeat (first | refine blk_drewN ?_ _ | refine blk_drew ?_ | refine blk_alloc ?_ _)); refine blk_put (cs := #[.int .i64 0, .int .i64 0, .int .i64 0]) ?_ 0 _ rfl; (with_reducible repeat (first | refine blk_drewN ?_ _ | refine blk_drew ?_ | refine blk_alloc ?_ _)); exact BK406.out) hb); have n3_ := Aside0.mk (below_step (zb HB.out) hb); clear BK0; clear BK406; clear HB; have HO410 := n0_; have BK0 := n1_; have BK406 := n2_; have HB := n3_; clear n0_ n1_ n2_ n3_; (try clear hb); (try clear hb2); (try clear hk); (try clear hi); (try clear ho0); obtain ⟨Ao18, co18, eo18⟩ := Kd.R_slice HO410.out; subst eo18))
    go_loopg [8, 28] k (fun kq v8 v28 w' => ∃ (x8_1 : Bool) (x28_1 : Int), v8 = .bool x8_1 ∧ v28 = .int .i64 x28_1 ∧ Aside0 (impl_Pool_canMake.l0 kq l2 x8_1 t408 (t408.length : Int) x28_1 l0_0 ((rd_T67 l0_0 a1).f0) ((rd_T67 l0_0 a1).f1) ((rd_T67 l0_0 a1).f2) = some r) ∧ Aside0 (kq ≤ k) ∧ Aside0 (Kd.R (Kd.int .i64) 3 w' w.heap.size (fun _ => True) (.slice Ao18 t408.length co18) t408) ∧ Aside0 (w'.heap[g0_]? = some (.cells #[(.slice (some ad405) l0_0.length c0_0)] 31 (0, 0))) ∧ Aside0 (w'.heap[gb406]? = some (.cells #[.int .i64 ((rd_T67 l0_0 a1).f0), .int .i64 ((rd_T67 l0_0 a1).f1), .int .i64 ((rd_T67 l0_0 a1).f2)] 67 (0, 0))) ∧ Aside0 (Below w.heap.size w w'))
    case atStart => exact ⟨(true), (0), (by first | rfl | (simp; done) | (simp [*]; done)), (by first | rfl | (simp; done) | (simp [*]; done)), H', ⟨Nat.le_refl _⟩, ⟨zr HO410.out⟩, ⟨zh BK0.out⟩, ⟨zh BK406.out⟩, ⟨zb HB.out⟩⟩
    case round =>
     clear H'
     try clear c1
     try clear c2
     try clear p2
     try clear c4
     try clear c4b0
     try clear p4
     try clear q4
     try clear hx4
     try clear c5
     try clear c5b0
     try clear c6
     try clear c6b0
     try clear c6b1
     try clear c8
     try clear c10
     try clear c15
     try clear hcz11_0
     try clear hcz11_1
     try clear hcz11_2
     try clear hcz13_0
     try clear hcz16_0
     try clear hcz16_1
     try clear hcz16_2
     try clear hcz8_0
     try clear hfz11_0
     try clear hfz11_1
     try clear hfz11_2
     try clear hfz13_0
     try clear hfz16_0
     try clear hfz16_1
     try clear hfz16_2
     try clear hfz8_0
     try clear hx405_0
     try clear hx405_1
     try clear hx405_2
     try clear p405
     try clear q405
     obtain ⟨x8_1, x28_1, rfl, rfl, HA, HK1, HO_26, BK0, BK406, HB⟩ := hrel
     cases gk with
     | zero => exact absurd HA.out (by simp [impl_Pool_canMake.l0])
     | succ k1 =>
      have H := HA.out
      clear HA
      simp only [impl_Pool_canMake.l0] at H
      by_cases c19 : x28_1 < (t408.length : Int)
      ·rw [if_pos c19] at H
       have c19b0 : decide (x28_1 < (t408.length : Int)) = true := decide_eq_true c19
       clear c19
       by_cases c20 : 0 ≤ x28_1
       ·rw [if_pos c20] at H
        have c20b0 : decide (0 ≤ x28_1) = true := decide_eq_true c20
        clear c20
        by_cases c21 : x28_1 < (t408.length : Int)
        ·rw [if_pos c21] at H
         have c21b0 : decide (x28_1 < (t408.length : Int)) = true := decide_eq_true c21
         clear c21
         by_cases c22 : x8_1 = true
         ·subst c22
          have H1 : (if 0 ≤ (rd t408 x28_1) then (if (rd t408 x28_1) < (l2.length : Int) then (impl_Pool_canMake.l0 k1 l2 (rdOf false l2 (rd t408 x28_1)) t408 (t408.length : Int) (wrap64 (x28_1 + 1)) l0_0 ((rd_T67 l0_0 a1).f0) ((rd_T67 l0_0 a1).f1) ((rd_T67 l0_0 a1).f2)) else (none)) else (none)) = some r := by rw [if_pos rfl] at H; exact H
          clear H
          have H := H1
          clear H1
          by_cases c23 : 0 ≤ (rd t408 x28_1)
          ·rw [if_pos c23] at H
           have c23b0 : decide (0 ≤ (rd t408 x28_1)) = true := decide_eq_true c23
           clear c23
           by_cases c24 : (rd t408 x28_1) < (l2.length : Int)
           ·rw [if_pos c24] at H
            have c24b0 : decide ((rd t408 x28_1) < (l2.length : Int)) = true := decide_eq_true c24
            clear c24
            have H' := Aside0.mk H
            clear H
            have p411 : 0 ≤ (x28_1 : Int) := of_decide_eq_true (by first | (with_reducible assumption) | assumption)
            have q411 : x28_1 < (t408.length : Int) := of_decide_eq_true (by first | (with_reducible assumption) | assumption)
            obtain ⟨ad411, e411, hx411_0⟩ := Kd.at_int (Kd.R_reads' HO_26.out).2.2 x28_1 p411 q411
            cases e411
            replace p411 := eq_true p411
            replace q411 := eq_true q411
            have p412 : 0 ≤ ((rd t408 x28_1) : Int) := of_decide_eq_true (by first | (with_reducible assumption) | assumption)
            have q412 : (rd t408 x28_1) < (l2.length : Int) := of_decide_eq_true (by first | (with_reducible assumption) | assumption)
            obtain ⟨ad412, e412, hx412_0⟩ := Kd.at_bool HR2.out (rd t408 x28_1) p412 q412
            cases e412
            replace hx412_0 := (HB.out.cell (World.block_lt_of_cell? w _ hx412_0)).trans hx412_0
            replace p412 := eq_true p412
            replace q412 := eq_true q412
            go_wp2
            go_roundg k1
            case measure => have := HK1.out; omega
            case rel => exact ⟨(rdOf false l2 (rd t408 x28_1)), (wrap64 (x28_1 + 1)), (by first | rfl | (simp; done) | (simp [*]; done)), (by first | rfl | (simp; done) | (simp [*]; done)), H', ⟨by have := HK1.out; omega⟩, ⟨zr HO_26.out⟩, ⟨zh BK0.out⟩, ⟨zh BK406.out⟩, ⟨zb HB.out⟩⟩
           ·rw [if_neg c24] at H
            exact absurd H (by simp)
          ·rw [if_neg c23] at H
           exact absurd H (by simp)
         ·replace c22 := Bool.eq_false_iff.mpr c22
          subst c22
          have H1 : (impl_Pool_canMake.l0 k1 l2 false t408 (t408.length : Int) (wrap64 (x28_1 + 1)) l0_0 ((rd_T67 l0_0 a1).f0) ((rd_T67 l0_0 a1).f1) ((rd_T67 l0_0 a1).f2)) = some r := by rw [if_neg (show ¬ (false = true) by decide)] at H; exact H
          clear H
          have H := H1
          clear H1
          have H' := Aside0.mk H
          clear H
          have p411 : 0 ≤ (x28_1 : Int) := of_decide_eq_true (by first | (with_reducible assumption) | assumption)
          have q411 : x28_1 < (t408.length : Int) := of_decide_eq_true (by first | (with_reducible assumption) | assumption)
          obtain ⟨ad411, e411, hx411_0⟩ := Kd.at_int (Kd.R_reads' HO_26.out).2.2 x28_1 p411 q411
          cases e411
          replace p411 := eq_true p411
          replace q411 := eq_true q411
          go_wp2
          go_roundg k1
          case measure => have := HK1.out; omega
          case rel => exact ⟨(false), (wrap64 (x28_1 + 1)), (by first | rfl | (simp; done) | (simp [*]; done)), (by first | rfl | (simp; done) | (simp [*]; done)), H', ⟨by have := HK1.out; omega⟩, ⟨zr HO_26.out⟩, ⟨zh BK0.out⟩, ⟨zh BK406.out⟩, ⟨zb HB.out⟩⟩
        ·rw [if_neg c21] at H
         exact absurd H (by simp)
       ·rw [if_neg c20] at H
        exact absurd H (by simp)
      ·rw [if_neg c19] at H
       have c19b0 : decide (x28_1 < (t408.length : Int)) = false := decide_eq_false c19
       clear c19
       have HC25 := Aside0.mk H
       clear H
       go_upto_region 10 with (fail)
       go_cut [45] (fun v45 wc => ∃ (kq : Nat) (x45_24 : Bool), v45 = .bool x45_24 ∧ Aside0 (impl_Pool_canMake.j1 kq l2 x8_1 x45_24 l0_0 ((rd_T67 l0_0 a1).f0) ((rd_T67 l0_0 a1).f1) ((rd_T67 l0_0 a1).f2) = some r) ∧ Aside0 (kq ≤ k1) ∧ Aside0 (wc.heap[g0_]? = some (.cells #[(.slice (some ad405) l0_0.length c0_0)] 31 (0, 0))) ∧ Aside0 (wc.heap[gb406]? = some (.cells #[.int .i64 ((rd_T67 l0_0 a1).f0), .int .i64 ((rd_T67 l0_0 a1).f1), .int .i64 ((rd_T67 l0_0 a1).f2)] 67 (0, 0))) ∧ Aside0 (Below w.heap.size w wc))
       case first =>
        have H := HC25.out
        clear HC25
        by_cases c26 : x8_1 = true
        ·subst c26
         have H1 : (impl_Pool_canMake.j1 k1 l2 true true l0_0 ((rd_T67 l0_0 a1).f0) ((rd_T67 l0_0 a1).f1) ((rd_T67 l0_0 a1).f2)) = some r := by rw [if_pos rfl] at H; exact H
         clear H
         have H := H1
         clear H1
         have H' := Aside0.mk H
         clear H
         go_wp2
         go_meet
         case rel => exact ⟨_, (true), (by first | rfl | (simp; done) | (simp [*]; done)), H', ⟨by have := HK1.out; first | omega | exact Nat.le_refl _⟩, ⟨zh BK0.out⟩, ⟨zh BK406.out⟩, ⟨zb HB.out⟩⟩
        ·replace c26 := Bool.eq_false_iff.mpr c26
         subst c26
         have H1 : (impl_Pool_canMake.j1 k1 l2 false (((rd_T67 l0_0 a1).f0) != 8) l0_0 ((rd_T67 l0_0 a1).f0) ((rd_T67 l0_0 a1).f1) ((rd_T67 l0_0 a1).f2)) = some r := by rw [if_neg (show ¬ (false = true) by decide)] at H; exact H
         clear H
         have H := H1
         clear H1
         have H' := Aside0.mk H
         clear H
         have hnb27 := NB406_0.out
         have hnc27 := NB0_406.out
         have hcz28_0 : wr.cell? ⟨gb406, 0, none⟩ = some (.int .i64 ((rd_T67 l0_0 a1).f0)) := (blk_cell BK406.out 0).trans rfl
         have hcz28_1 : wr.cell? ⟨gb406, 1, none⟩ = some (.int .i64 ((rd_T67 l0_0 a1).f1)) := (blk_cell BK406.out 1).trans rfl
         have hcz28_2 : wr.cell? ⟨gb406, 2, none⟩ = some (.int .i64 ((rd_T67 l0_0 a1).f2)) := (blk_cell BK406.out 2).trans rfl
         have hfz28_0 := blk_frozen BK406.out 0
         have hfz28_1 := blk_frozen BK406.out 1
         have hfz28_2 := blk_frozen BK406.out 2
         go_wp2
         go_meet
         case rel => exact ⟨_, ((((rd_T67 l0_0 a1).f0) != 8)), (by first | rfl | (simp; done) | (simp [*]; done)), H', ⟨by have := HK1.out; first | omega | exact Nat.le_refl _⟩, ⟨zh BK0.out⟩, ⟨zh BK406.out⟩, ⟨zb HB.out⟩⟩
       case rest =>
        clear HC25
        try clear c1
        try clear c2
        try clear p2
        try clear c4
        try clear c4b0
        try clear p4
        try clear q4
        try clear hx4
        try clear c5
        try clear c5b0
        try clear c6
        try clear c6b0
        try clear c6b1
        try clear p6
        try clear c8
        try clear c10
        try clear c15
        try clear c19
        try clear c19b0
        try clear c20
        try clear c20b0
        try clear c21
        try clear c21b0
        try clear c22
        try clear c23
        try clear c23b0
        try clear c24
        try clear c24b0
        try clear c26
        try clear c27
        try clear hcz11_0
        try clear hcz11_1
        try clear hcz11_2
        try clear hcz13_0
        try clear hcz16_0
        try clear hcz16_1
        try clear hcz16_2
        try clear hcz28_0
        try clear hcz28_1
        try clear hcz28_2
        try clear hcz8_0
        try clear hfz11_0
        try clear hfz11_1
        try clear hfz11_2
        try clear hfz13_0
        try clear hfz16_0
        try clear hfz16_1
        try clear hfz16_2
        try clear hfz28_0
        try clear hfz28_1
        try clear hfz28_2
        try clear hfz8_0
        try clear hx405_0
        try clear hx405_1
        try clear hx405_2
        try clear hx411_0
        try clear hx412_0
        try clear p2
        try clear p4
        try clear p405
        try clear p411
        try clear p412
        try clear q4
        try clear q405
        try clear q411
        try clear q412
        obtain ⟨kq, x45_24, rfl, HA, HJ24, BK0, BK406, HB⟩ := hcut
        cases kq with
        | zero => exact absurd HA.out (by simp [impl_Pool_canMake.j1])
        | succ kj24 =>
         have H := HA.out
         clear HA
         simp only [impl_Pool_canMake.j1] at H
         by_cases c29 : x45_24 = true
         ·subst c29
          have H1 : (some x8_1) = some r := by rw [if_pos rfl] at H; exact H
          clear H
          have H := H1
          clear H1
          obtain rfl := Option.some.inj H
          go_wp2
          go_ret
          exact ⟨ze, zb HB.out⟩
         ·replace c29 := Bool.eq_false_iff.mpr c29
          subst c29
          have H1 : (if 0 ≤ ((rd_T67 l0_0 a1).f1) then (if ((rd_T67 l0_0 a1).f1) < (l2.length : Int) then (if rdOf false l2 ((rd_T67 l0_0 a1).f1) = true then ((impl_Pool_isMade.f kj24 l0_0 7 ((rd_T67 l0_0 a1).f2) 0 l2).bind fun t414 => (if t414 = true then (some true) else (if 0 ≤ ((rd_T67 l0_0 a1).f2) then (if ((rd_T67 l0_0 a1).f2) < (l2.length : Int) then (if rdOf false l2 ((rd_T67 l0_0 a1).f2) = true then ((impl_Pool_isMade.f kj24 l0_0 7 ((rd_T67 l0_0 a1).f1) 0 l2).bind fun t416 => (some t416)) else (some false)) else (none)) else (none)))) else (if 0 ≤ ((rd_T67 l0_0 a1).f2) then (if ((rd_T67 l0_0 a1).f2) < (l2.length : Int) then (if rdOf false l2 ((rd_T67 l0_0 a1).f2) = true then ((impl_Pool_isMade.f kj24 l0_0 7 ((rd_T67 l0_0 a1).f1) 0 l2).bind fun t418 => (some t418)) else (some false)) else (none)) else (none))) else (none)) else (none)) = some r := by rw [if_neg (show ¬ (false = true) by decide)] at H; exact H
          clear H
          have H := H1
          clear H1
          by_cases c30 : 0 ≤ ((rd_T67 l0_0 a1).f1)
          ·rw [if_pos c30] at H
           have c30b0 : decide (0 ≤ ((rd_T67 l0_0 a1).f1)) = true := decide_eq_true c30
           clear c30
           by_cases c31 : ((rd_T67 l0_0 a1).f1) < (l2.length : Int)
           ·rw [if_pos c31] at H
            have c31b0 : decide (((rd_T67 l0_0 a1).f1) < (l2.length : Int)) = true := decide_eq_true c31
            clear c31
            obtain ⟨bq32, hbq32⟩ : ∃ b_ : Bool, b_ = (rdOf false l2 ((rd_T67 l0_0 a1).f1)) := ⟨_, rfl⟩
            replace H : (if bq32 = true then ((impl_Pool_isMade.f kj24 l0_0 7 ((rd_T67 l0_0 a1).f2) 0 l2).bind fun t414 => (if t414 = true then (some true) else (if 0 ≤ ((rd_T67 l0_0 a1).f2) then (if ((rd_T67 l0_0 a1).f2) < (l2.length : Int) then (if rdOf false l2 ((rd_T67 l0_0 a1).f2) = true then ((impl_Pool_isMade.f kj24 l0_0 7 ((rd_T67 l0_0 a1).f1) 0 l2).bind fun t416 => (some t416)) else (some false)) else (none)) else (none)))) else (if 0 ≤ ((rd_T67 l0_0 a1).f2) then (if ((rd_T67 l0_0 a1).f2) < (l2.length : Int) then (if rdOf false l2 ((rd_T67 l0_0 a1).f2) = true then ((impl_Pool_isMade.f kj24 l0_0 7 ((rd_T67 l0_0 a1).f1) 0 l2).bind fun t418 => (some t418)) else (some false)) else (none)) else (none))) = some r := by rw [← hbq32] at H; exact H
            have Nbq32 := Aside0.mk hbq32
            clear hbq32
            by_cases c33 : bq32 = true
            ·subst c33
             have H1 : ((impl_Pool_isMade.f kj24 l0_0 7 ((rd_T67 l0_0 a1).f2) 0 l2).bind fun t414 => (if t414 = true then (some true) else (if 0 ≤ ((rd_T67 l0_0 a1).f2) then (if ((rd_T67 l0_0 a1).f2) < (l2.length : Int) then (if rdOf false l2 ((rd_T67 l0_0 a1).f2) = true then ((impl_Pool_isMade.f kj24 l0_0 7 ((rd_T67 l0_0 a1).f1) 0 l2).bind fun t416 => (some t416)) else (some false)) else (none)) else (none)))) = some r := by rw [if_pos rfl] at H; exact H
             clear H
             have H := H1
             clear H1
             replace H := Option.bind_eq_some_iff.mp H
             obtain ⟨t414, A340, H⟩ := H
             replace H : (if t414 = true then (some true) else (if 0 ≤ ((rd_T67 l0_0 a1).f2) then (if ((rd_T67 l0_0 a1).f2) < (l2.length : Int) then (if rdOf false l2 ((rd_T67 l0_0 a1).f2) = true then ((impl_Pool_isMade.f kj24 l0_0 7 ((rd_T67 l0_0 a1).f1) 0 l2).bind fun t416 => (some t416)) else (some false)) else (none)) else (none))) = some r := H
             have A34 := Aside0.mk A340
             clear A340
             by_cases c35 : t414 = true
             ·subst c35
              have H1 : (some true) = some r := by rw [if_pos rfl] at H; exact H
              clear H
              have H := H1
              clear H1
              obtain rfl := Option.some.inj H
              have hnb36 := NB406_0.out
              have hnc36 := NB0_406.out
              have hcz37_0 : wc.cell? ⟨gb406, 0, none⟩ = some (.int .i64 ((rd_T67 l0_0 a1).f0)) := (blk_cell BK406.out 0).trans rfl
              have hcz37_1 : wc.cell? ⟨gb406, 1, none⟩ = some (.int .i64 ((rd_T67 l0_0 a1).f1)) := (blk_cell BK406.out 1).trans rfl
              have hcz37_2 : wc.cell? ⟨gb406, 2, none⟩ = some (.int .i64 ((rd_T67 l0_0 a1).f2)) := (blk_cell BK406.out 2).trans rfl
              have hfz37_0 := blk_frozen BK406.out 0
              have hfz37_1 := blk_frozen BK406.out 1
              have hfz37_2 := blk_frozen BK406.out 2
              have p413 : 0 ≤ (((rd_T67 l0_0 a1).f1) : Int) := of_decide_eq_true (by first | (with_reducible assumption) | assumption)
              have q413 : ((rd_T67 l0_0 a1).f1) < (l2.length : Int) := of_decide_eq_true (by first | (with_reducible assumption) | assumption)
              obtain ⟨ad413, e413, hx413_0⟩ := Kd.at_bool HR2.out ((rd_T67 l0_0 a1).f1) p413 q413
              (try rw [← Nbq32.out] at hx413_0)
              cases e413
              replace hx413_0 := (HB.out.cell (World.block_lt_of_cell? w _ hx413_0)).trans hx413_0
              replace p413 := eq_true p413
              replace q413 := eq_true q413
              go_wp2_with (first | (go_at_call 90; (with_reducible refine (impl_Pool_isMade.calls kj24 _ (some ad405) c0_0 l0_0 7 ((rd_T67 l0_0 a1).f2) 0 _ _ l2 true _ ?side1 ?side2 ?side3 ?side4 ?side5 A34.out).mono ?_); (case side1 => exact zh BK0.out); (case side2 => exact zc (Kd.C_below HR0_0.out HB.out)); (case side3 => exact HC0_0.out); (case side4 => exact zc (Kd.C_below HR2.out HB.out)); (case side5 => exact HC2.out); rintro e w38 ⟨rfl, hb⟩; have n0_ := Aside0.mk (blk_below (zh BK0.out) hb); have n1_ := Aside0.mk (blk_below (zh BK406.out) hb); have n2_ := Aside0.mk (below_step (zb HB.out) hb); clear BK0; clear BK406; clear HB; have BK0 := n0_; have BK406 := n1_; have HB := n2_; clear n0_ n1_ n2_; (try clear hb); (try clear hb2); (try clear hk); (try clear hi)))
              go_ret
              exact ⟨ze, zb HB.out⟩
             ·replace c35 := Bool.eq_false_iff.mpr c35
              subst c35
              have H1 : (if 0 ≤ ((rd_T67 l0_0 a1).f2) then (if ((rd_T67 l0_0 a1).f2) < (l2.length : Int) then (if rdOf false l2 ((rd_T67 l0_0 a1).f2) = true then ((impl_Pool_isMade.f kj24 l0_0 7 ((rd_T67 l0_0 a1).f1) 0 l2).bind fun t416 => (some t416)) else (some false)) else (none)) else (none)) = some r := by rw [if_neg (show ¬ (false = true) by decide)] at H; exact H
              clear H
              have H := H1
              clear H1
              by_cases c39 : 0 ≤ ((rd_T67 l0_0 a1).f2)
              ·rw [if_pos c39] at H
               have c39b0 : decide (0 ≤ ((rd_T67 l0_0 a1).f2)) = true := decide_eq_true c39
               clear c39
               by_cases c40 : ((rd_T67 l0_0 a1).f2) < (l2.length : Int)
               ·rw [if_pos c40] at H
                have c40b0 : decide (((rd_T67 l0_0 a1).f2) < (l2.length : Int)) = true := decide_eq_true c40
                clear c40
                obtain ⟨bq41, hbq41⟩ : ∃ b_ : Bool, b_ = (rdOf false l2 ((rd_T67 l0_0 a1).f2)) := ⟨_, rfl⟩
                replace H : (if bq41 = true then ((impl_Pool_isMade.f kj24 l0_0 7 ((rd_T67 l0_0 a1).f1) 0 l2).bind fun t416 => (some t416)) else (some false)) = some r := by rw [← hbq41] at H; exact H
                have Nbq41 := Aside0.mk hbq41
                clear hbq41
                by_cases c42 : bq41 = true
                ·subst c42
                 have H1 : ((impl_Pool_isMade.f kj24 l0_0 7 ((rd_T67 l0_0 a1).f1) 0 l2).bind fun t416 => (some t416)) = some r := by rw [if_pos rfl] at H; exact H
                 clear H
                 have H := H1
                 clear H1
                 replace H := Option.bind_eq_some_iff.mp H
                 obtain ⟨t416, A430, H⟩ := H
                 replace H : (some t416) = some r := H
                 have A43 := Aside0.mk A430
                 clear A430
                 obtain rfl := Option.some.inj H
                 have hnb44 := NB406_0.out
                 have hnc44 := NB0_406.out
                 have hcz45_0 : wc.cell? ⟨gb406, 0, none⟩ = some (.int .i64 ((rd_T67 l0_0 a1).f0)) := (blk_cell BK406.out 0).trans rfl
                 have hcz45_1 : wc.cell? ⟨gb406, 1, none⟩ = some (.int .i64 ((rd_T67 l0_0 a1).f1)) := (blk_cell BK406.out 1).trans rfl
                 have hcz45_2 : wc.cell? ⟨gb406, 2, none⟩ = some (.int .i64 ((rd_T67 l0_0 a1).f2)) := (blk_cell BK406.out 2).trans rfl
                 have hfz45_0 := blk_frozen BK406.out 0
                 have hfz45_1 := blk_frozen BK406.out 1
                 have hfz45_2 := blk_frozen BK406.out 2
                 have p413 : 0 ≤ (((rd_T67 l0_0 a1).f1) : Int) := of_decide_eq_true (by first | (with_reducible assumption) | assumption)
                 have q413 : ((rd_T67 l0_0 a1).f1) < (l2.length : Int) := of_decide_eq_true (by first | (with_reducible assumption) | assumption)
                 obtain ⟨ad413, e413, hx413_0⟩ := Kd.at_bool HR2.out ((rd_T67 l0_0 a1).f1) p413 q413
                 (try rw [← Nbq32.out] at hx413_0)
                 (try rw [← Nbq41.out] at hx413_0)
                 cases e413
                 replace hx413_0 := (HB.out.cell (World.block_lt_of_cell? w _ hx413_0)).trans hx413_0
                 replace p413 := eq_true p413
                 replace q413 := eq_true q413
                 go_wp2_with (first | (go_at_call 90; (with_reducible refine (impl_Pool_isMade.calls kj24 _ (some ad405) c0_0 l0_0 7 ((rd_T67 l0_0 a1).f2) 0 _ _ l2 false _ ?side1 ?side2 ?side3 ?side4 ?side5 A34.out).mono ?_); (case side1 => exact zh BK0.out); (case side2 => exact zc (Kd.C_below HR0_0.out HB.out)); (case side3 => exact HC0_0.out); (case side4 => exact zc (Kd.C_below HR2.out HB.out)); (case side5 => exact HC2.out); rintro e w46 ⟨rfl, hb⟩; have n0_ := Aside0.mk (blk_below (zh BK0.out) hb); have n1_ := Aside0.mk (blk_below (zh BK406.out) hb); have n2_ := Aside0.mk (below_step (zb HB.out) hb); clear BK0; clear BK406; clear HB; have BK0 := n0_; have BK406 := n1_; have HB := n2_; clear n0_ n1_ n2_; (try clear hb); (try clear hb2); (try clear hk); (try clear hi); have hcz47_0 : w46.cell? ⟨gb406, 0, none⟩ = some (.int .i64 ((rd_T67 l0_0 a1).f0)) := (blk_cell BK406.out 0).trans rfl; have hcz47_1 : w46.cell? ⟨gb406, 1, none⟩ = some (.int .i64 ((rd_T67 l0_0 a1).f1)) := (blk_cell BK406.out 1).trans rfl; have hcz47_2 : w46.cell? ⟨gb406, 2, none⟩ = some (.int .i64 ((rd_T67 l0_0 a1).f2)) := (blk_cell BK406.out 2).trans rfl; have hfz47_0 := blk_frozen BK406.out 0; have hfz47_1 := blk_frozen BK406.out 1; have hfz47_2 := blk_frozen BK406.out 2; have p415 : 0 ≤ (((rd_T67 l0_0 a1).f2) : Int) := of_decide_eq_true (by first | (with_reducible assumption) | assumption); have q415 : ((rd_T67 l0_0 a1).f2) < (l2.length : Int) := of_decide_eq_true (by first | (with_reducible assumption) | assumption); obtain ⟨ad415, e415, hx415_0⟩ := Kd.at_bool HR2.out ((rd_T67 l0_0 a1).f2) p415 q415; (try rw [← Nbq32.out] at hx415_0); (try rw [← Nbq41.out] at hx415_0); obtain rfl : ad413 = ad415 := (by injection e415); replace hx415_0 := (HB.out.cell (World.block_lt_of_cell? w _ hx415_0)).trans hx415_0; replace p415 := eq_true p415; replace q415 := eq_true q415) | (go_at_call 90; (with_reducible refine (impl_Pool_isMade.calls kj24 _ (some ad405) c0_0 l0_0 7 ((rd_T67 l0_0 a1).f1) 0 _ _ l2 t416 _ ?side1 ?side2 ?side3 ?side4 ?side5 A43.out).mono ?_); (case side1 => exact zh BK0.out); (case side2 => exact zc (Kd.C_below HR0_0.out HB.out)); (case side3 => exact HC0_0.out); (case side4 => exact zc (Kd.C_below HR2.out HB.out)); (case side5 => exact HC2.out); rintro e w48 ⟨rfl, hb⟩; have n0_ := Aside0.mk (blk_below (zh BK0.out) hb); have n1_ := Aside0.mk (blk_below (zh BK406.out) hb); have n2_ := Aside0.mk (below_step (zb HB.out) hb); clear BK0; clear BK406; clear HB; have BK0 := n0_; have BK406 := n1_; have HB := n2_; clear n0_ n1_ n2_; (try clear hb); (try clear hb2); (try clear hk); (try clear hi)))
                 go_ret
                 exact ⟨ze, zb HB.out⟩
                ·replace c42 := Bool.eq_false_iff.mpr c42
                 subst c42
                 have H1 : (some false) = some r := by rw [if_neg (show ¬ (false = true) by decide)] at H; exact H
                 clear H
                 have H := H1
                 clear H1
                 obtain rfl := Option.some.inj H
                 have hnb49 := NB406_0.out
                 have hnc49 := NB0_406.out
                 have hcz50_0 : wc.cell? ⟨gb406, 0, none⟩ = some (.int .i64 ((rd_T67 l0_0 a1).f0)) := (blk_cell BK406.out 0).trans rfl
                 have hcz50_1 : wc.cell? ⟨gb406, 1, none⟩ = some (.int .i64 ((rd_T67 l0_0 a1).f1)) := (blk_cell BK406.out 1).trans rfl
                 have hcz50_2 : wc.cell? ⟨gb406, 2, none⟩ = some (.int .i64 ((rd_T67 l0_0 a1).f2)) := (blk_cell BK406.out 2).trans rfl
                 have hfz50_0 := blk_frozen BK406.out 0
                 have hfz50_1 := blk_frozen BK406.out 1
                 have hfz50_2 := blk_frozen BK406.out 2
                 have p413 : 0 ≤ (((rd_T67 l0_0 a1).f1) : Int) := of_decide_eq_true (by first | (with_reducible assumption) | assumption)
                 have q413 : ((rd_T67 l0_0 a1).f1) < (l2.length : Int) := of_decide_eq_true (by first | (with_reducible assumption) | assumption)
                 obtain ⟨ad413, e413, hx413_0⟩ := Kd.at_bool HR2.out ((rd_T67 l0_0 a1).f1) p413 q413
                 (try rw [← Nbq32.out] at hx413_0)
                 (try rw [← Nbq41.out] at hx413_0)
                 cases e413
                 replace hx413_0 := (HB.out.cell (World.block_lt_of_cell? w _ hx413_0)).trans hx413_0
                 replace p413 := eq_true p413
                 replace q413 := eq_true q413
                 go_wp2_with (first | (go_at_call 90; (with_reducible refine (impl_Pool_isMade.calls kj24 _ (some ad405) c0_0 l0_0 7 ((rd_T67 l0_0 a1).f2) 0 _ _ l2 false _ ?side1 ?side2 ?side3 ?side4 ?side5 A34.out).mono ?_); (case side1 => exact zh BK0.out); (case side2 => exact zc (Kd.C_below HR0_0.out HB.out)); (case side3 => exact HC0_0.out); (case side4 => exact zc (Kd.C_below HR2.out HB.out)); (case side5 => exact HC2.out); rintro e w51 ⟨rfl, hb⟩; have n0_ := Aside0.mk (blk_below (zh BK0.out) hb); have n1_ := Aside0.mk (blk_below (zh BK406.out) hb); have n2_ := Aside0.mk (below_step (zb HB.out) hb); clear BK0; clear BK406; clear HB; have BK0 := n0_; have BK406 := n1_; have HB := n2_; clear n0_ n1_ n2_; (try clear hb); (try clear hb2); (try clear hk); (try clear hi); have hcz52_0 : w51.cell? ⟨gb406, 0, none⟩ = some (.int .i64 ((rd_T67 l0_0 a1).f0)) := (blk_cell BK406.out 0).trans rfl; have hcz52_1 : w51.cell? ⟨gb406, 1, none⟩ = some (.int .i64 ((rd_T67 l0_0 a1).f1)) := (blk_cell BK406.out 1).trans rfl; have hcz52_2 : w51.cell? ⟨gb406, 2, none⟩ = some (.int .i64 ((rd_T67 l0_0 a1).f2)) := (blk_cell BK406.out 2).trans rfl; have hfz52_0 := blk_frozen BK406.out 0; have hfz52_1 := blk_frozen BK406.out 1; have hfz52_2 := blk_frozen BK406.out 2; have p415 : 0 ≤ (((rd_T67 l0_0 a1).f2) : Int) := of_decide_eq_true (by first | (with_reducible assumption) | assumption); have q415 : ((rd_T67 l0_0 a1).f2) < (l2.length : Int) := of_decide_eq_true (by first | (with_reducible assumption) | assumption); obtain ⟨ad415, e415, hx415_0⟩ := Kd.at_bool HR2.out ((rd_T67 l0_0 a1).f2) p415 q415; (try rw [← Nbq32.out] at hx415_0); (try rw [← Nbq41.out] at hx415_0); obtain rfl : ad413 = ad415 := (by injection e415); replace hx415_0 := (HB.out.cell (World.block_lt_of_cell? w _ hx415_0)).trans hx415_0; replace p415 := eq_true p415; replace q415 := eq_true q415))
                 go_ret
                 exact ⟨ze, zb HB.out⟩
               ·rw [if_neg c40] at H
                exact absurd H (by simp)
              ·rw [if_neg c39] at H
               exact absurd H (by simp)
            ·replace c33 := Bool.eq_false_iff.mpr c33
             subst c33
             have H1 : (if 0 ≤ ((rd_T67 l0_0 a1).f2) then (if ((rd_T67 l0_0 a1).f2) < (l2.length : Int) then (if rdOf false l2 ((rd_T67 l0_0 a1).f2) = true then ((impl_Pool_isMade.f kj24 l0_0 7 ((rd_T67 l0_0 a1).f1) 0 l2).bind fun t418 => (some t418)) else (some false)) else (none)) else (none)) = some r := by rw [if_neg (show ¬ (false = true) by decide)] at H; exact H
             clear H
             have H := H1
             clear H1
             by_cases c53 : 0 ≤ ((rd_T67 l0_0 a1).f2)
             ·rw [if_pos c53] at H
              have c53b0 : decide (0 ≤ ((rd_T67 l0_0 a1).f2)) = true := decide_eq_true c53
              clear c53
              by_cases c54 : ((rd_T67 l0_0 a1).f2) < (l2.length : Int)
              ·rw [if_pos c54] at H
               have c54b0 : decide (((rd_T67 l0_0 a1).f2) < (l2.length : Int)) = true := decide_eq_true c54
               clear c54
               obtain ⟨bq55, hbq55⟩ : ∃ b_ : Bool, b_ = (rdOf false l2 ((rd_T67 l0_0 a1).f2)) := ⟨_, rfl⟩
               replace H : (if bq55 = true then ((impl_Pool_isMade.f kj24 l0_0 7 ((rd_T67 l0_0 a1).f1) 0 l2).bind fun t418 => (some t418)) else (some false)) = some r := by rw [← hbq55] at H; exact H
               have Nbq55 := Aside0.mk hbq55
               clear hbq55
               by_cases c56 : bq55 = true
               ·subst c56
                have H1 : ((impl_Pool_isMade.f kj24 l0_0 7 ((rd_T67 l0_0 a1).f1) 0 l2).bind fun t418 => (some t418)) = some r := by rw [if_pos rfl] at H; exact H
                clear H
                have H := H1
                clear H1
                replace H := Option.bind_eq_some_iff.mp H
                obtain ⟨t418, A570, H⟩ := H
                replace H : (some t418) = some r := H
                have A57 := Aside0.mk A570
                clear A570
                obtain rfl := Option.some.inj H
                have hnb58 := NB406_0.out
                have hnc58 := NB0_406.out
                have hcz59_0 : wc.cell? ⟨gb406, 0, none⟩ = some (.int .i64 ((rd_T67 l0_0 a1).f0)) := (blk_cell BK406.out 0).trans rfl
                have hcz59_1 : wc.cell? ⟨gb406, 1, none⟩ = some (.int .i64 ((rd_T67 l0_0 a1).f1)) := (blk_cell BK406.out 1).trans rfl
                have hcz59_2 : wc.cell? ⟨gb406, 2, none⟩ = some (.int .i64 ((rd_T67 l0_0 a1).f2)) := (blk_cell BK406.out 2).trans rfl
                have hfz59_0 := blk_frozen BK406.out 0
                have hfz59_1 := blk_frozen BK406.out 1
                have hfz59_2 := blk_frozen BK406.out 2
                have p413 : 0 ≤ (((rd_T67 l0_0 a1).f1) : Int) := of_decide_eq_true (by first | (with_reducible assumption) | assumption)
                have q413 : ((rd_T67 l0_0 a1).f1) < (l2.length : Int) := of_decide_eq_true (by first | (with_reducible assumption) | assumption)
                obtain ⟨ad413, e413, hx413_0⟩ := Kd.at_bool HR2.out ((rd_T67 l0_0 a1).f1) p413 q413
                (try rw [← Nbq32.out] at hx413_0)
                (try rw [← Nbq55.out] at hx413_0)
                cases e413
                replace hx413_0 := (HB.out.cell (World.block_lt_of_cell? w _ hx413_0)).trans hx413_0
                replace p413 := eq_true p413
                replace q413 := eq_true q413
                have p417 : 0 ≤ (((rd_T67 l0_0 a1).f2) : Int) := of_decide_eq_true (by first | (with_reducible assumption) | assumption)
                have q417 : ((rd_T67 l0_0 a1).f2) < (l2.length : Int) := of_decide_eq_true (by first | (with_reducible assumption) | assumption)
                obtain ⟨ad417, e417, hx417_0⟩ := Kd.at_bool HR2.out ((rd_T67 l0_0 a1).f2) p417 q417
                (try rw [← Nbq32.out] at hx417_0)
                (try rw [← Nbq55.out] at hx417_0)
                obtain rfl : ad413 = ad417 := (by injection e417)
                replace hx417_0 := (HB.out.cell (World.block_lt_of_cell? w _ hx417_0)).trans hx417_0
                replace p417 := eq_true p417
                replace q417 := eq_true q417
                go_wp2_with (first | (go_at_call 90; (with_reducible refine (impl_Pool_isMade.calls kj24 _ (some ad405) c0_0 l0_0 7 ((rd_T67 l0_0 a1).f1) 0 _ _ l2 t418 _ ?side1 ?side2 ?side3 ?side4 ?side5 A57.out).mono ?_); (case side1 => exact zh BK0.out); (case side2 => exact zc (Kd.C_below HR0_0.out HB.out)); (case side3 => exact HC0_0.out); (case side4 => exact zc (Kd.C_below HR2.out HB.out)); (case side5 => exact HC2.out); rintro e w60 ⟨rfl, hb⟩; have n0_ := Aside0.mk (blk_below (zh BK0.out) hb); have n1_ := Aside0.mk (blk_below (zh BK406.out) hb); have n2_ := Aside0.mk (below_step (zb HB.out) hb); clear BK0; clear BK406; clear HB; have BK0 := n0_; have BK406 := n1_; have HB := n2_; clear n0_ n1_ n2_; (try clear hb); (try clear hb2); (try clear hk); (try clear hi)))
                go_ret
                exact ⟨ze, zb HB.out⟩
               ·replace c56 := Bool.eq_false_iff.mpr c56
                subst c56
                have H1 : (some false) = some r := by rw [if_neg (show ¬ (false = true) by decide)] at H; exact H
                clear H
                have H := H1
                clear H1
                obtain rfl := Option.some.inj H
                have hnb61 := NB406_0.out
                have hnc61 := NB0_406.out
                have hcz62_0 : wc.cell? ⟨gb406, 0, none⟩ = some (.int .i64 ((rd_T67 l0_0 a1).f0)) := (blk_cell BK406.out 0).trans rfl
                have hcz62_1 : wc.cell? ⟨gb406, 1, none⟩ = some (.int .i64 ((rd_T67 l0_0 a1).f1)) := (blk_cell BK406.out 1).trans rfl
                have hcz62_2 : wc.cell? ⟨gb406, 2, none⟩ = some (.int .i64 ((rd_T67 l0_0 a1).f2)) := (blk_cell BK406.out 2).trans rfl
                have hfz62_0 := blk_frozen BK406.out 0
                have hfz62_1 := blk_frozen BK406.out 1
                have hfz62_2 := blk_frozen BK406.out 2
                have p413 : 0 ≤ (((rd_T67 l0_0 a1).f1) : Int) := of_decide_eq_true (by first | (with_reducible assumption) | assumption)
                have q413 : ((rd_T67 l0_0 a1).f1) < (l2.length : Int) := of_decide_eq_true (by first | (with_reducible assumption) | assumption)
                obtain ⟨ad413, e413, hx413_0⟩ := Kd.at_bool HR2.out ((rd_T67 l0_0 a1).f1) p413 q413
                (try rw [← Nbq32.out] at hx413_0)
                (try rw [← Nbq55.out] at hx413_0)
                cases e413
                replace hx413_0 := (HB.out.cell (World.block_lt_of_cell? w _ hx413_0)).trans hx413_0
                replace p413 := eq_true p413
                replace q413 := eq_true q413
                have p417 : 0 ≤ (((rd_T67 l0_0 a1).f2) : Int) := of_decide_eq_true (by first | (with_reducible assumption) | assumption)
                have q417 : ((rd_T67 l0_0 a1).f2) < (l2.length : Int) := of_decide_eq_true (by first | (with_reducible assumption) | assumption)
                obtain ⟨ad417, e417, hx417_0⟩ := Kd.at_bool HR2.out ((rd_T67 l0_0 a1).f2) p417 q417
                (try rw [← Nbq32.out] at hx417_0)
                (try rw [← Nbq55.out] at hx417_0)
                obtain rfl : ad413 = ad417 := (by injection e417)
                replace hx417_0 := (HB.out.cell (World.block_lt_of_cell? w _ hx417_0)).trans hx417_0
                replace p417 := eq_true p417
                replace q417 := eq_true q417
                go_wp2
                go_ret
                exact ⟨ze, zb HB.out⟩
              ·rw [if_neg c54] at H
               exact absurd H (by simp)
             ·rw [if_neg c53] at H
              exact absurd H (by simp)
           ·rw [if_neg c31] at H
            exact absurd H (by simp)
          ·rw [if_neg c30] at H
           exact absurd H (by simp)
  ·rw [if_neg c5] at H
   exact absurd H (by simp)
 ·rw [if_neg c4] at H
  exact absurd H (by simp)

end Go.Proofs.Ytilnfdnigjblcaa.H
end

section
-- Written by this session's program (wip/tools/gprint.py over the kit's print) out of the translation; Lean checks it.
namespace Go.Proofs.Ytilnfdnigjblcaa.H
open Go.RowKit Go.Proofs.YtilnfdnigjblcaaW.PrintWords Go.Proofs.YtilnfdnigjblcaaW.PrintLast Go.Proofs.YtilnfdnigjblcaaW.PrintMore
attribute [local go_sem] max2_int min2_int max_two min_two max_three min_three max_four min_four   -- for this text's walks alone
set_option linter.unusedVariables false
set_option linter.unusedSimpArgs false
set_option maxRecDepth 100000

/-! ### impl_Pool_makes: function 49 -/
mutual
def impl_Pool_makes.l0 : Nat → List Bool → List Int → Int → Int → List (S67) → Option (List Bool)
 | 0, _, _, _, _, _ => none
 | k + 1, x5, x16, x17, x18, x1000 => if x18 < x17 then (if 0 ≤ x18 then (if x18 < (x16.length : Int) then (if 0 ≤ (rd x16 x18) then (if (rd x16 x18) < (x5.length : Int) then (impl_Pool_makes.l0 k (x5.set ((rd x16 x18) : Int).toNat true) x16 x17 (wrap64 (x18 + 1)) x1000) else (none)) else (none)) else (none)) else (none)) else (impl_Pool_makes.l1 k x5 true x1000)
def impl_Pool_makes.l1 : Nat → List Bool → Bool → List (S67) → Option (List Bool)
 | 0, _, _, _ => none
 | k + 1, x5, x8, x1000 => if x8 = true then (impl_Pool_makes.l2 k x5 false (x5.length : Int) 0 x1000) else (some x5)
def impl_Pool_makes.l2 : Nat → List Bool → Bool → Int → Int → List (S67) → Option (List Bool)
 | 0, _, _, _, _, _ => none
 | k + 1, x5, x8, x28, x29, x1000 => if x29 < x28 then (if 0 ≤ x29 then (if x29 < (x5.length : Int) then (if rdOf false x5 x29 = true then (impl_Pool_makes.l2 k x5 x8 x28 (wrap64 (x29 + 1)) x1000) else ((impl_Pool_canMake.f k x1000 x29 x5).bind fun t425 => (if t425 = true then (impl_Pool_makes.l2 k (x5.set (x29 : Int).toNat true) true x28 (wrap64 (x29 + 1)) x1000) else (impl_Pool_makes.l2 k x5 x8 x28 (wrap64 (x29 + 1)) x1000)))) else (none)) else (none)) else (impl_Pool_makes.l1 k x5 x8 x1000)
end
def impl_Pool_makes.f (k : Nat) (l0_0 : List (S67)) (l1 : List Int) : Option (List Bool) := if 0 ≤ (l0_0.length : Int) then (if ((l0_0.length : Int) : Int).toNat ≤ 281474976710656 then (impl_Pool_makes.l0 k (List.replicate ((l0_0.length : Int) : Int).toNat false) l1 (l1.length : Int) 0 l0_0) else (none)) else (none)
theorem impl_Pool_makes.mono_l : ∀ k, (∀ y0 y1 y2 y3 y4, LeO (impl_Pool_makes.l0 k y0 y1 y2 y3 y4) (impl_Pool_makes.l0 (k + 1) y0 y1 y2 y3 y4)) ∧ (∀ y0 y1 y2, LeO (impl_Pool_makes.l1 k y0 y1 y2) (impl_Pool_makes.l1 (k + 1) y0 y1 y2)) ∧ (∀ y0 y1 y2 y3 y4, LeO (impl_Pool_makes.l2 k y0 y1 y2 y3 y4) (impl_Pool_makes.l2 (k + 1) y0 y1 y2 y3 y4))
 | 0 => ⟨fun _ _ _ _ _ r h => by simp [impl_Pool_makes.l0] at h, fun _ _ _ r h => by simp [impl_Pool_makes.l1] at h, fun _ _ _ _ _ r h => by simp [impl_Pool_makes.l2] at h⟩
 | k + 1 => by
  obtain ⟨ih0, ih1, ih2⟩ := impl_Pool_makes.mono_l k
  refine ⟨?_, ?_, ?_⟩
  ·intro y0 y1 y2 y3 y4
   unfold impl_Pool_makes.l0
   repeat' first
   | (with_reducible exact ih0 _ _ _ _ _)
   | (with_reducible exact ih1 _ _ _)
   | (with_reducible exact ih2 _ _ _ _ _)
   | (with_reducible exact impl_Pool_canMake.mono _ _ _ _)
   | (with_reducible exact LeO.refl _)
   | (with_reducible exact LeO.none _)
   | (with_reducible refine LeO.ite ?_ ?_)
   | (with_reducible refine LeO.bind ?_ (fun _ => ?_))
   | exact ih0 _ _ _ _ _
   | exact ih1 _ _ _
   | exact ih2 _ _ _ _ _
   | exact impl_Pool_canMake.mono _ _ _ _
   | exact LeO.none _
   | refine LeO.ite ?_ ?_
   | refine LeO.bind ?_ (fun _ => ?_)
  ·intro y0 y1 y2
   unfold impl_Pool_makes.l1
   repeat' first
   | (with_reducible exact ih0 _ _ _ _ _)
   | (with_reducible exact ih1 _ _ _)
   | (with_reducible exact ih2 _ _ _ _ _)
   | (with_reducible exact impl_Pool_canMake.mono _ _ _ _)
   | (with_reducible exact LeO.refl _)
   | (with_reducible exact LeO.none _)
   | (with_reducible refine LeO.ite ?_ ?_)
   | (with_reducible refine LeO.bind ?_ (fun _ => ?_))
   | exact ih0 _ _ _ _ _
   | exact ih1 _ _ _
   | exact ih2 _ _ _ _ _
   | exact impl_Pool_canMake.mono _ _ _ _
   | exact LeO.none _
   | refine LeO.ite ?_ ?_
   | refine LeO.bind ?_ (fun _ => ?_)
  ·intro y0 y1 y2 y3 y4
   unfold impl_Pool_makes.l2
   repeat' first
   | (with_reducible exact ih0 _ _ _ _ _)
   | (with_reducible exact ih1 _ _ _)
   | (with_reducible exact ih2 _ _ _ _ _)
   | (with_reducible exact impl_Pool_canMake.mono _ _ _ _)
   | (with_reducible exact LeO.refl _)
   | (with_reducible exact LeO.none _)
   | (with_reducible refine LeO.ite ?_ ?_)
   | (with_reducible refine LeO.bind ?_ (fun _ => ?_))
   | exact ih0 _ _ _ _ _
   | exact ih1 _ _ _
   | exact ih2 _ _ _ _ _
   | exact impl_Pool_canMake.mono _ _ _ _
   | exact LeO.none _
   | refine LeO.ite ?_ ?_
   | refine LeO.bind ?_ (fun _ => ?_)
theorem impl_Pool_makes.mono : ∀ a0 a1 k, LeO (impl_Pool_makes.f k a0 a1) (impl_Pool_makes.f (k + 1) a0 a1) := by
 intro a0 a1 k
 obtain ⟨ih0, ih1, ih2⟩ := impl_Pool_makes.mono_l k
 unfold impl_Pool_makes.f
 repeat' first
   | (with_reducible exact ih0 _ _ _ _ _)
   | (with_reducible exact ih1 _ _ _)
   | (with_reducible exact ih2 _ _ _ _ _)
   | (with_reducible exact impl_Pool_canMake.mono _ _ _ _)
   | (with_reducible exact LeO.refl _)
   | (with_reducible exact LeO.none _)
   | (with_reducible refine LeO.ite ?_ ?_)
   | (with_reducible refine LeO.bind ?_ (fun _ => ?_))
   | exact ih0 _ _ _ _ _
   | exact ih1 _ _ _
   | exact ih2 _ _ _ _ _
   | exact impl_Pool_canMake.mono _ _ _ _
   | exact LeO.none _
   | refine LeO.ite ?_ ?_
   | refine LeO.bind ?_ (fun _ => ?_)
set_option maxHeartbeats 8000000 in
set_option maxRecDepth 100000 in
theorem impl_Pool_makes.calls (k : Nat) (g0_ : Nat) (A0_0 : Option Addr) (c0_0 : Nat) (l0_0 : List (S67)) (A1 : Option Addr) (c1 : Nat) (l1 : List Int) (r : List Bool) (w : World) (hk0_ : w.heap[g0_]? = some (.cells #[.slice A0_0 l0_0.length c0_0] 31 (0, 0))) (hr0_0 : Kd.C k67 w A0_0 l0_0.length l0_0) (hc0_0 : l0_0.length ≤ c0_0) (hr1 : Kd.C (Kd.int .i64) w A1 l1.length l1) (hc1 : l1.length ≤ c1) (h : impl_Pool_makes.f k l0_0 l1 = some r) :
  Calls Try.prog 49 #[.pointer (some ⟨g0_, 0, none⟩), .slice A1 l1.length c1] w fun e w' => ∃ v0_ : Value, e = .returned (v0_) ∧ Kd.R Kd.bool 4 w' w.heap.size (fun _ => True) v0_ r ∧ Below w.heap.size w w' := by
 have HR0_0 := Aside0.mk hr0_0
 have HC0_0 := Aside0.mk hc0_0
 clear hr0_0 hc0_0
 have HR1 := Aside0.mk hr1
 have HC1 := Aside0.mk hc1
 clear hr1 hc1
 have BK0 := Aside0.mk hk0_
 clear hk0_
 have HB := Aside0.mk (Below.refl w.heap.size w)
 have H : (if 0 ≤ (l0_0.length : Int) then (if ((l0_0.length : Int) : Int).toNat ≤ 281474976710656 then (impl_Pool_makes.l0 k (List.replicate ((l0_0.length : Int) : Int).toNat false) l1 (l1.length : Int) 0 l0_0) else (none)) else (none)) = some r := h
 clear h
 by_cases c3 : 0 ≤ (l0_0.length : Int)
 ·rw [if_pos c3] at H
  have c3b0 := eq_true c3
  have c3b1 : decide (0 ≤ (l0_0.length : Int)) = true := decide_eq_true c3
  clear c3
  by_cases c4 : ((l0_0.length : Int) : Int).toNat ≤ 281474976710656
  ·rw [if_pos c4] at H
   have c4b0 := eq_true c4
   have c4b1 : decide (((l0_0.length : Int) : Int).toNat ≤ 281474976710656) = true := decide_eq_true c4
   clear c4
   obtain ⟨y419, hy419⟩ : ∃ y_ : List Bool, y_ = (List.replicate ((l0_0.length : Int) : Int).toNat false) := ⟨_, rfl⟩
   replace H : (impl_Pool_makes.l0 k y419 l1 (l1.length : Int) 0 l0_0) = some r := by first | (rw [hy419]; with_reducible exact H) | (have H2_ := (Option.bind_some _ _).symm.trans H; rw [hy419]; with_reducible exact H2_) | (have H2_ := (Option.bind_some _ _).symm.trans H; with_reducible exact H2_) | with_reducible exact H | (rw [hy419]; exact H) | exact H
   have Ny419 := Aside0.mk hy419
   clear hy419
   have H' := Aside0.mk H
   clear H
   have hcz5_0 : w.cell? ⟨g0_, 0, none⟩ = some (.slice A0_0 l0_0.length c0_0) := (blk_cell BK0.out 0).trans rfl
   have hfz5_0 := blk_frozen BK0.out 0
   go_enter Try.func49, Try.ntmps49
   go_wp2_with (first | ((with_reducible refine gate_dst (N := 15) rfl ?_); refine Kd.R_make Kd.bool _ 4 rfl (N := 15) rfl 47 _ _ rfl (l0_0.length : Int) rfl rfl Try.underlying47 (.bool false) 1 info4 rfl (by decide) (by omega) false (ok := fun _ => True) (okp := fun _ => True) rfl (fun _ hk => hk) trivial (of_decide_eq_true (by first | (with_reducible assumption) | assumption)) (Nat.le_trans (Nat.mul_le_mul_right _ (of_decide_eq_true (by first | (with_reducible assumption) | assumption) : (l0_0.length : Int).toNat ≤ 281474976710656)) (by omega)) (Below.refl _ _) (Nat.le_refl _) ?_; intro v420 w6 ho7 hb hg_ hnew_; clear hg_ hnew_; (first | rw [← Ny419.out] at ho7 | (simp only [Int.reduceToNat] at ho7; rw [← Ny419.out] at ho7)); have n0_ := Aside0.mk (Kd.R_lower ho7 (below_size (zb HB.out))); have n1_ := Aside0.mk (blk_below (zh BK0.out) hb); have n2_ := Aside0.mk (below_step (zb HB.out) hb); clear BK0; clear HB; have HO421 := n0_; have BK0 := n1_; have HB := n2_; clear n0_ n1_ n2_; clear hb ho7))
   go_loopg [18] k (fun kq v18 w' => ∃ (x5_1 : List Bool) (x18_1 : Int), v18 = .int .i64 x18_1 ∧ Aside0 (impl_Pool_makes.l0 kq x5_1 l1 (l1.length : Int) x18_1 l0_0 = some r) ∧ Aside0 (kq ≤ k) ∧ Aside0 (Kd.R Kd.bool 4 w' w.heap.size (fun _ => True) v420 x5_1) ∧ Aside0 (w'.heap[g0_]? = some (.cells #[(.slice A0_0 l0_0.length c0_0)] 31 (0, 0))) ∧ Aside0 (Below w.heap.size w w'))
   case atStart => exact ⟨(y419), (0), (by first | rfl | (simp; done) | (simp [*]; done)), H', ⟨Nat.le_refl _⟩, ⟨zr HO421.out⟩, ⟨zh BK0.out⟩, ⟨zb HB.out⟩⟩
   case round =>
    clear H'
    try clear c1
    try clear p2
    try clear c3
    try clear c3b0
    try clear c3b1
    try clear c4
    try clear c4b0
    try clear c4b1
    try clear hcz5_0
    try clear hfz5_0
    obtain ⟨x5_1, x18_1, rfl, HA, HK1, HO_5, BK0, HB⟩ := hrel
    cases gk with
    | zero => exact absurd HA.out (by simp [impl_Pool_makes.l0])
    | succ k1 =>
     have H := HA.out
     clear HA
     simp only [impl_Pool_makes.l0] at H
     by_cases c8 : x18_1 < (l1.length : Int)
     ·rw [if_pos c8] at H
      have c8b0 : decide (x18_1 < (l1.length : Int)) = true := decide_eq_true c8
      clear c8
      by_cases c9 : 0 ≤ x18_1
      ·rw [if_pos c9] at H
       have c9b0 : decide (0 ≤ x18_1) = true := decide_eq_true c9
       clear c9
       by_cases c10 : x18_1 < (l1.length : Int)
       ·rw [if_pos c10] at H
        have c10b0 : decide (x18_1 < (l1.length : Int)) = true := decide_eq_true c10
        clear c10
        by_cases c11 : 0 ≤ (rd l1 x18_1)
        ·rw [if_pos c11] at H
         have c11b0 : decide (0 ≤ (rd l1 x18_1)) = true := decide_eq_true c11
         clear c11
         by_cases c12 : (rd l1 x18_1) < (x5_1.length : Int)
         ·rw [if_pos c12] at H
          have c12b0 : decide ((rd l1 x18_1) < (x5_1.length : Int)) = true := decide_eq_true c12
          clear c12
          obtain ⟨y423, hy423⟩ : ∃ y_ : List Bool, y_ = (x5_1.set ((rd l1 x18_1) : Int).toNat true) := ⟨_, rfl⟩
          replace H : (impl_Pool_makes.l0 k1 y423 l1 (l1.length : Int) (wrap64 (x18_1 + 1)) l0_0) = some r := by first | (rw [hy423]; with_reducible exact H) | (have H2_ := (Option.bind_some _ _).symm.trans H; rw [hy423]; with_reducible exact H2_) | (have H2_ := (Option.bind_some _ _).symm.trans H; with_reducible exact H2_) | with_reducible exact H | (rw [hy423]; exact H) | exact H
          have Ny423 := Aside0.mk hy423
          clear hy423
          have H' := Aside0.mk H
          clear H
          have p422 : 0 ≤ (x18_1 : Int) := of_decide_eq_true (by first | (with_reducible assumption) | assumption)
          have q422 : x18_1 < (l1.length : Int) := of_decide_eq_true (by first | (with_reducible assumption) | assumption)
          obtain ⟨ad422, e422, hx422_0⟩ := Kd.at_int HR1.out x18_1 p422 q422
          cases e422
          replace hx422_0 := (HB.out.cell (World.block_lt_of_cell? w _ hx422_0)).trans hx422_0
          replace p422 := eq_true p422
          replace q422 := eq_true q422
          have p13 : 0 ≤ ((rd l1 x18_1) : Int) := of_decide_eq_true (by first | (with_reducible assumption) | assumption)
          have q13 : ((rd l1 x18_1) : Int) < ((x5_1.length : Int) : Int) := of_decide_eq_true (by first | (with_reducible assumption) | assumption)
          obtain ⟨go13, co13, eo13, gb13, gl13, cl13, HG13⟩ := Kd.R_form HO_5.out (by omega)
          (first | cases eo13 | (injection eo13 with ea_ en_ ec_; (first | subst ea_ | (injection ea_ with ea_; subst ea_)); subst ec_; clear en_))
          have GB13 := Aside0.mk gb13
          have GG13 := Aside0.mk HG13
          clear gb13 gl13 HG13
          obtain ⟨hx13_0, hf13_0⟩ := Kd.R_celln false HO_5.out ((rd l1 x18_1) : Int) p13 q13
          replace p13 := eq_true p13
          replace q13 := eq_true q13
          have HP14 := Kd.R_putg HO_5.out ((rd l1 x18_1) : Int) true
          go_wp2_with (first | ((with_reducible refine gate_store (t := 4) (p := 24) rfl ?_); refine store_event (t := 4) (p := 24) (v := ?vo_w15) (w1 := (wr.setCell ⟨go13, ((rd l1 x18_1) : Int).toNat, none⟩ (.bool true))) ?hg ?ho ?hn ?hr ?_; (case ho => rfl); (case hg => rfl); (case hn => rfl); (case hr => first | (go_simp; done) | (go_simp; rfl)); intro w15 hw; have hg : wr.grownBy w15 (some go13) := (by rw [hw]; exact HP14.2); have hp_ : Kd.R Kd.bool 4 w15 w.heap.size (fun _ => True) (.slice (some ⟨go13, 0, none⟩) x5_1.length co13) y423 := (by rw [hw, Ny423.out]; exact HP14.1); clear HP14; have n0_ := Aside0.mk (hp_); have n1_ := Aside0.mk (blk_grown (zh BK0.out) hg (Kd.R_ne HO_5.out BK0.out (by decide))); have n2_ := Aside0.mk ((by rw [hw]; exact below_set (HB.out) GB13.out : Below w.heap.size w w15)); clear HO_5; clear BK0; clear HB; have HO_5 := n0_; have BK0 := n1_; have HB := n2_; clear n0_ n1_ n2_; clear hg hw hp_))
          go_roundg k1
          case measure => have := HK1.out; omega
          case rel => exact ⟨(y423), (wrap64 (x18_1 + 1)), (by first | rfl | (simp; done) | (simp [*]; done)), H', ⟨by have := HK1.out; omega⟩, ⟨zr HO_5.out⟩, ⟨zh BK0.out⟩, ⟨zb HB.out⟩⟩
         ·rw [if_neg c12] at H
          exact absurd H (by simp)
        ·rw [if_neg c11] at H
         exact absurd H (by simp)
       ·rw [if_neg c10] at H
        exact absurd H (by simp)
      ·rw [if_neg c9] at H
       exact absurd H (by simp)
     ·rw [if_neg c8] at H
      have c8b0 : decide (x18_1 < (l1.length : Int)) = false := decide_eq_false c8
      clear c8
      have H' := Aside0.mk H
      clear H
      go_wp2
      go_loopg [8] k1 (fun kq v8 w' => ∃ (x5_2 : List Bool) (x8_2 : Bool), v8 = .bool x8_2 ∧ Aside0 (impl_Pool_makes.l1 kq x5_2 x8_2 l0_0 = some r) ∧ Aside0 (kq ≤ k1) ∧ Aside0 (Kd.R Kd.bool 4 w' w.heap.size (fun _ => True) v420 x5_2) ∧ Aside0 (w'.heap[g0_]? = some (.cells #[(.slice A0_0 l0_0.length c0_0)] 31 (0, 0))) ∧ Aside0 (Below w.heap.size w w'))
      case atStart => exact ⟨(x5_1), (true), (by first | rfl | (simp; done) | (simp [*]; done)), H', ⟨Nat.le_refl _⟩, ⟨zr HO_5.out⟩, ⟨zh BK0.out⟩, ⟨zb HB.out⟩⟩
      case round =>
       clear H'
       try clear c1
       try clear p1
       try clear q1
       try clear hx1
       try clear p2
       try clear c3
       try clear c3b0
       try clear c3b1
       try clear c4
       try clear c4b0
       try clear c4b1
       try clear p4
       try clear q4
       try clear hx4
       try clear p6
       try clear c8
       try clear c8b0
       try clear c9
       try clear c9b0
       try clear c10
       try clear c10b0
       try clear c11
       try clear c11b0
       try clear c12
       try clear c12b0
       try clear p13
       try clear q13
       try clear hx13
       try clear hf13
       try clear hcz5_0
       try clear hfz5_0
       try clear hx13_0
       try clear hx422_0
       try clear p13
       try clear p2
       try clear p422
       try clear q13
       try clear q422
       obtain ⟨x5_2, x8_2, rfl, HA, HK2, HO_5, BK0, HB⟩ := hrel
       cases gk with
       | zero => exact absurd HA.out (by simp [impl_Pool_makes.l1])
       | succ k2 =>
        have H := HA.out
        clear HA
        simp only [impl_Pool_makes.l1] at H
        by_cases c16 : x8_2 = true
        ·subst c16
         have H1 : (impl_Pool_makes.l2 k2 x5_2 false (x5_2.length : Int) 0 l0_0) = some r := by rw [if_pos rfl] at H; exact H
         clear H
         have H := H1
         clear H1
         have H' := Aside0.mk H
         clear H
         obtain ⟨Ao17, co17, eo17⟩ := Kd.R_slice HO_5.out
         subst eo17
         go_wp2
         go_loopg [8, 29] k2 (fun kq v8 v29 w' => ∃ (x5_3 : List Bool) (x8_3 : Bool) (x29_3 : Int), v8 = .bool x8_3 ∧ v29 = .int .i64 x29_3 ∧ Aside0 (impl_Pool_makes.l2 kq x5_3 x8_3 (x5_2.length : Int) x29_3 l0_0 = some r) ∧ Aside0 (kq ≤ k2) ∧ Aside0 (Kd.R Kd.bool 4 w' w.heap.size (fun _ => True) (.slice Ao17 x5_2.length co17) x5_3) ∧ Aside0 (w'.heap[g0_]? = some (.cells #[(.slice A0_0 l0_0.length c0_0)] 31 (0, 0))) ∧ Aside0 (Below w.heap.size w w'))
         case atStart => exact ⟨(x5_2), (false), (0), (by first | rfl | (simp; done) | (simp [*]; done)), (by first | rfl | (simp; done) | (simp [*]; done)), H', ⟨Nat.le_refl _⟩, ⟨zr HO_5.out⟩, ⟨zh BK0.out⟩, ⟨zb HB.out⟩⟩
         case round =>
          clear H'
          try clear c1
          try clear p1
          try clear q1
          try clear hx1
          try clear p2
          try clear c3
          try clear c3b0
          try clear c3b1
          try clear c4
          try clear c4b0
          try clear c4b1
          try clear p4
          try clear q4
          try clear hx4
          try clear p6
          try clear c8
          try clear c8b0
          try clear c9
          try clear c9b0
          try clear c10
          try clear c10b0
          try clear c11
          try clear c11b0
          try clear c12
          try clear c12b0
          try clear p13
          try clear q13
          try clear hx13
          try clear hf13
          try clear c16
          try clear hcz5_0
          try clear hfz5_0
          try clear hx13_0
          try clear hx422_0
          try clear p1
          try clear p13
          try clear p2
          try clear p4
          try clear p422
          try clear p6
          try clear q1
          try clear q13
          try clear q4
          try clear q422
          obtain ⟨x5_3, x8_3, x29_3, rfl, rfl, HA, HK3, HO_5, BK0, HB⟩ := hrel
          have hl5_3 := (Kd.R_reads' HO_5.out).1
          rw [hl5_3] at HO_5
          (try simp only [hl5_3])
          (try simp only [hl5_3] at BK0)
          cases gk with
          | zero => exact absurd HA.out (by simp [impl_Pool_makes.l2])
          | succ k3 =>
           have H := HA.out
           clear HA
           simp only [impl_Pool_makes.l2] at H
           by_cases c18 : x29_3 < (x5_2.length : Int)
           ·rw [if_pos c18] at H
            have c18b0 : decide (x29_3 < (x5_2.length : Int)) = true := decide_eq_true c18
            (try (have c18b0h := c18b0; simp only [hl5_3] at c18b0h))
            clear c18
            by_cases c19 : 0 ≤ x29_3
            ·rw [if_pos c19] at H
             have c19b0 : decide (0 ≤ x29_3) = true := decide_eq_true c19
             clear c19
             by_cases c20 : x29_3 < (x5_3.length : Int)
             ·rw [if_pos c20] at H
              have c20b0 : decide (x29_3 < (x5_3.length : Int)) = true := decide_eq_true c20
              (try (have c20b0h := c20b0; simp only [hl5_3] at c20b0h))
              clear c20
              obtain ⟨bq21, hbq21⟩ : ∃ b_ : Bool, b_ = (rdOf false x5_3 x29_3) := ⟨_, rfl⟩
              replace H : (if bq21 = true then (impl_Pool_makes.l2 k3 x5_3 x8_3 (x5_2.length : Int) (wrap64 (x29_3 + 1)) l0_0) else ((impl_Pool_canMake.f k3 l0_0 x29_3 x5_3).bind fun t425 => (if t425 = true then (impl_Pool_makes.l2 k3 (x5_3.set (x29_3 : Int).toNat true) true (x5_2.length : Int) (wrap64 (x29_3 + 1)) l0_0) else (impl_Pool_makes.l2 k3 x5_3 x8_3 (x5_2.length : Int) (wrap64 (x29_3 + 1)) l0_0)))) = some r := by rw [← hbq21] at H; exact H
              have Nbq21 := Aside0.mk hbq21
              clear hbq21
              by_cases c22 : bq21 = true
              ·subst c22
               have H1 : (impl_Pool_makes.l2 k3 x5_3 x8_3 (x5_2.length : Int) (wrap64 (x29_3 + 1)) l0_0) = some r := by rw [if_pos rfl] at H; exact H
               clear H
               have H := H1
               clear H1
               have H' := Aside0.mk H
               clear H
               have p424 : 0 ≤ (x29_3 : Int) := of_decide_eq_true (by first | (with_reducible assumption) | assumption)
               have q424 : x29_3 < (x5_3.length : Int) := of_decide_eq_true (by first | (with_reducible assumption) | assumption)
               obtain ⟨ad424, e424, hx424_0⟩ := Kd.at_bool (Kd.R_reads' HO_5.out).2.2 x29_3 p424 q424
               (try rw [← Nbq21.out] at hx424_0)
               cases e424
               replace p424 := eq_true p424
               replace q424 := eq_true q424
               go_wp2
               (try simp only [← hl5_3])
               go_roundg k3
               case measure => have := HK1.out; have := HK2.out; have := HK3.out; omega
               case rel => exact ⟨(x5_3), (x8_3), (wrap64 (x29_3 + 1)), (by first | rfl | (simp; done) | (simp [*]; done)), (by first | rfl | (simp; done) | (simp [*]; done)), H', ⟨by have := HK1.out; have := HK2.out; have := HK3.out; omega⟩, ⟨by (try simp only [hl5_3]); (with_reducible repeat (first | apply Kd.R_alloc | apply Kd.R_drewN | apply Kd.R_drew)); exact HO_5.out⟩, ⟨by (try simp only [hl5_3]); (with_reducible repeat (first | refine blk_drewN ?_ _ | refine blk_drew ?_ | refine blk_alloc ?_ _)); exact BK0.out⟩, ⟨zb HB.out⟩⟩
              ·replace c22 := Bool.eq_false_iff.mpr c22
               subst c22
               have H1 : ((impl_Pool_canMake.f k3 l0_0 x29_3 x5_3).bind fun t425 => (if t425 = true then (impl_Pool_makes.l2 k3 (x5_3.set (x29_3 : Int).toNat true) true (x5_2.length : Int) (wrap64 (x29_3 + 1)) l0_0) else (impl_Pool_makes.l2 k3 x5_3 x8_3 (x5_2.length : Int) (wrap64 (x29_3 + 1)) l0_0))) = some r := by rw [if_neg (show ¬ (false = true) by decide)] at H; exact H
               clear H
               have H := H1
               clear H1
               replace H := Option.bind_eq_some_iff.mp H
               obtain ⟨t425, A230, H⟩ := H
               replace H : (if t425 = true then (impl_Pool_makes.l2 k3 (x5_3.set (x29_3 : Int).toNat true) true (x5_2.length : Int) (wrap64 (x29_3 + 1)) l0_0) else (impl_Pool_makes.l2 k3 x5_3 x8_3 (x5_2.length : Int) (wrap64 (x29_3 + 1)) l0_0)) = some r := H
               have A23 := Aside0.mk A230
               clear A230
               by_cases c24 : t425 = true
               ·subst c24
                have H1 : (impl_Pool_makes.l2 k3 (x5_3.set (x29_3 : Int).toNat true) true (x5_2.length : Int) (wrap64 (x29_3 + 1)) l0_0) = some r := by rw [if_pos rfl] at H; exact H
                clear H
                have H := H1
                clear H1
                obtain ⟨y426, hy426⟩ : ∃ y_ : List Bool, y_ = (x5_3.set (x29_3 : Int).toNat true) := ⟨_, rfl⟩
                replace H : (impl_Pool_makes.l2 k3 y426 true (x5_2.length : Int) (wrap64 (x29_3 + 1)) l0_0) = some r := by first | (rw [hy426]; with_reducible exact H) | (have H2_ := (Option.bind_some _ _).symm.trans H; rw [hy426]; with_reducible exact H2_) | (have H2_ := (Option.bind_some _ _).symm.trans H; with_reducible exact H2_) | with_reducible exact H | (rw [hy426]; exact H) | exact H
                have Ny426 := Aside0.mk hy426
                clear hy426
                have H' := Aside0.mk H
                clear H
                have p424 : 0 ≤ (x29_3 : Int) := of_decide_eq_true (by first | (with_reducible assumption) | assumption)
                have q424 : x29_3 < (x5_3.length : Int) := of_decide_eq_true (by first | (with_reducible assumption) | assumption)
                obtain ⟨ad424, e424, hx424_0⟩ := Kd.at_bool (Kd.R_reads' HO_5.out).2.2 x29_3 p424 q424
                (try rw [← Nbq21.out] at hx424_0)
                cases e424
                replace p424 := eq_true p424
                replace q424 := eq_true q424
                go_wp2_with (first | (go_at_call 68; (with_reducible refine (impl_Pool_canMake.calls k3 _ A0_0 c0_0 l0_0 x29_3 _ _ x5_3 true _ ?side1 ?side2 ?side3 ?side4 ?side5 A23.out).mono ?_); (case side1 => exact zh BK0.out); (case side2 => exact zc (Kd.C_below HR0_0.out HB.out)); (case side3 => exact HC0_0.out); (case side4 => exact zc (Kd.R_reads' HO_5.out).2.2); (case side5 => exact (Kd.R_reads' HO_5.out).2.1); rintro e w26 ⟨rfl, hb⟩; have n0_ := Aside0.mk (Kd.R_below (zr HO_5.out) hb); have n1_ := Aside0.mk (blk_below (zh BK0.out) hb); have n2_ := Aside0.mk (below_step (zb HB.out) hb); clear HO_5; clear BK0; clear HB; have HO_5 := n0_; have BK0 := n1_; have HB := n2_; clear n0_ n1_ n2_; (try clear hb); (try clear hb2); (try clear hk); (try clear hi); have p25 : 0 ≤ (x29_3 : Int) := of_decide_eq_true (by first | (with_reducible assumption) | assumption); have q25 : (x29_3 : Int) < ((x5_3.length : Int) : Int) := of_decide_eq_true (by first | (with_reducible assumption) | assumption); obtain ⟨go25, co25, eo25, gb25, gl25, cl25, HG25⟩ := Kd.R_form HO_5.out (by omega); (first | cases eo25 | (injection eo25 with ea_ en_ ec_; (first | subst ea_ | (injection ea_ with ea_; subst ea_)); subst ec_; clear en_)); have GB25 := Aside0.mk gb25; have GG25 := Aside0.mk HG25; clear gb25 gl25 HG25; (first | simp only [add_plain] at hx424_0 | skip); obtain ⟨hx25_0, hf25_0⟩ := Kd.R_celln false HO_5.out (x29_3 : Int) p25 q25; replace p25 := eq_true p25; replace q25 := eq_true q25; obtain ⟨hy27_, hz27_⟩ := Kd.R_celln false HO_5.out (x29_3 : Int) (of_decide_eq_true (by first | (with_reducible assumption) | assumption)) (of_decide_eq_true (by first | (with_reducible assumption) | assumption)); have HP27 := Kd.R_putg HO_5.out (x29_3 : Int) true) | ((with_reducible refine gate_store (t := 4) (p := 45) rfl ?_); refine store_event (t := 4) (p := 45) (v := ?vo_w28) (w1 := (w26.setCell ⟨go25, (x29_3 : Int).toNat, none⟩ (.bool true))) ?hg ?ho ?hn ?hr ?_; (case ho => rfl); (case hg => rfl); (case hn => rfl); (case hr => first | (go_simp; done) | (go_simp; rfl)); intro w28 hw; have hg : w26.grownBy w28 (some go25) := (by rw [hw]; exact HP27.2); have hp_ : Kd.R Kd.bool 4 w28 w.heap.size (fun _ => True) (.slice (some ⟨go25, 0, none⟩) x5_3.length co17) y426 := (by rw [hw, Ny426.out]; exact HP27.1); clear HP27; have n0_ := Aside0.mk (hp_); have n1_ := Aside0.mk (blk_grown (zh BK0.out) hg (Kd.R_ne HO_5.out BK0.out (by decide))); have n2_ := Aside0.mk ((by rw [hw]; exact below_set (HB.out) GB25.out : Below w.heap.size w w28)); clear HO_5; clear BK0; clear HB; have HO_5 := n0_; have BK0 := n1_; have HB := n2_; clear n0_ n1_ n2_; clear hg hw hp_))
                (try simp only [← hl5_3])
                go_roundg k3
                case measure => have := HK1.out; have := HK2.out; have := HK3.out; omega
                case rel => exact ⟨(y426), (true), (wrap64 (x29_3 + 1)), (by first | rfl | (simp; done) | (simp [*]; done)), (by first | rfl | (simp; done) | (simp [*]; done)), H', ⟨by have := HK1.out; have := HK2.out; have := HK3.out; omega⟩, ⟨by (try simp only [hl5_3]); (with_reducible repeat (first | apply Kd.R_alloc | apply Kd.R_drewN | apply Kd.R_drew)); exact HO_5.out⟩, ⟨by (try simp only [hl5_3]); (with_reducible repeat (first | refine blk_drewN ?_ _ | refine blk_drew ?_ | refine blk_alloc ?_ _)); exact BK0.out⟩, ⟨zb HB.out⟩⟩
               ·replace c24 := Bool.eq_false_iff.mpr c24
                subst c24
                have H1 : (impl_Pool_makes.l2 k3 x5_3 x8_3 (x5_2.length : Int) (wrap64 (x29_3 + 1)) l0_0) = some r := by rw [if_neg (show ¬ (false = true) by decide)] at H; exact H
                clear H
                have H := H1
                clear H1
                have H' := Aside0.mk H
                clear H
                have p424 : 0 ≤ (x29_3 : Int) := of_decide_eq_true (by first | (with_reducible assumption) | assumption)
                have q424 : x29_3 < (x5_3.length : Int) := of_decide_eq_true (by first | (with_reducible assumption) | assumption)
                obtain ⟨ad424, e424, hx424_0⟩ := Kd.at_bool (Kd.R_reads' HO_5.out).2.2 x29_3 p424 q424
                (try rw [← Nbq21.out] at hx424_0)
                cases e424
                replace p424 := eq_true p424
                replace q424 := eq_true q424
                go_wp2_with (first | (go_at_call 68; (with_reducible refine (impl_Pool_canMake.calls k3 _ A0_0 c0_0 l0_0 x29_3 _ _ x5_3 false _ ?side1 ?side2 ?side3 ?side4 ?side5 A23.out).mono ?_); (case side1 => exact zh BK0.out); (case side2 => exact zc (Kd.C_below HR0_0.out HB.out)); (case side3 => exact HC0_0.out); (case side4 => exact zc (Kd.R_reads' HO_5.out).2.2); (case side5 => exact (Kd.R_reads' HO_5.out).2.1); rintro e w29 ⟨rfl, hb⟩; have n0_ := Aside0.mk (Kd.R_below (zr HO_5.out) hb); have n1_ := Aside0.mk (blk_below (zh BK0.out) hb); have n2_ := Aside0.mk (below_step (zb HB.out) hb); clear HO_5; clear BK0; clear HB; have HO_5 := n0_; have BK0 := n1_; have HB := n2_; clear n0_ n1_ n2_; (try clear hb); (try clear hb2); (try clear hk); (try clear hi)))
                (try simp only [← hl5_3])
                go_roundg k3
                case measure => have := HK1.out; have := HK2.out; have := HK3.out; omega
                case rel => exact ⟨(x5_3), (x8_3), (wrap64 (x29_3 + 1)), (by first | rfl | (simp; done) | (simp [*]; done)), (by first | rfl | (simp; done) | (simp [*]; done)), H', ⟨by have := HK1.out; have := HK2.out; have := HK3.out; omega⟩, ⟨by (try simp only [hl5_3]); (with_reducible repeat (first | apply Kd.R_alloc | apply Kd.R_drewN | apply Kd.R_drew)); exact HO_5.out⟩, ⟨by (try simp only [hl5_3]); (with_reducible repeat (first | refine blk_drewN ?_ _ | refine blk_drew ?_ | refine blk_alloc ?_ _)); exact BK0.out⟩, ⟨zb HB.out⟩⟩
             ·rw [if_neg c20] at H
              exact absurd H (by simp)
            ·rw [if_neg c19] at H
             exact absurd H (by simp)
           ·rw [if_neg c18] at H
            have c18b0 : decide (x29_3 < (x5_2.length : Int)) = false := decide_eq_false c18
            (try (have c18b0h := c18b0; simp only [hl5_3] at c18b0h))
            clear c18
            have H' := Aside0.mk H
            clear H
            go_wp2
            (try simp only [← hl5_3])
            go_roundg k3
            case measure => have := HK1.out; have := HK2.out; have := HK3.out; omega
            case rel => exact ⟨(x5_3), (x8_3), (by first | rfl | (simp; done) | (simp [*]; done)), H', ⟨by have := HK1.out; have := HK2.out; have := HK3.out; omega⟩, ⟨by (try simp only [hl5_3]); (with_reducible repeat (first | apply Kd.R_alloc | apply Kd.R_drewN | apply Kd.R_drew)); exact HO_5.out⟩, ⟨by (try simp only [hl5_3]); (with_reducible repeat (first | refine blk_drewN ?_ _ | refine blk_drew ?_ | refine blk_alloc ?_ _)); exact BK0.out⟩, ⟨zb HB.out⟩⟩
        ·replace c16 := Bool.eq_false_iff.mpr c16
         subst c16
         have H1 : (some x5_2) = some r := by rw [if_neg (show ¬ (false = true) by decide)] at H; exact H
         clear H
         have H := H1
         clear H1
         obtain rfl := Option.some.inj H
         go_wp2
         go_ret
         exact ⟨_, ze, zr HO_5.out, zb HB.out⟩
  ·rw [if_neg c4] at H
   exact absurd H (by simp)
 ·rw [if_neg c3] at H
  exact absurd H (by simp)

/-! ### impl_MakesAll: function 24 -/
def impl_MakesAll.f (k : Nat) (l0_0 : List (S67)) (l1 : List Int) : Option (List Bool) := (impl_KnowOk.f k l0_0 l1).bind fun t428 => (if t428 = true then ((impl_Pool_makes.f k l0_0 l1).bind fun t429 => (some t429)) else (some ([] : List Bool)))
theorem impl_MakesAll.mono : ∀ a0 a1 k, LeO (impl_MakesAll.f k a0 a1) (impl_MakesAll.f (k + 1) a0 a1) := by
 intro a0 a1 k
 unfold impl_MakesAll.f
 repeat' first
   | (with_reducible exact impl_KnowOk.mono _ _ _)
   | (with_reducible exact impl_Pool_makes.mono _ _ _)
   | (with_reducible exact LeO.refl _)
   | (with_reducible exact LeO.none _)
   | (with_reducible refine LeO.ite ?_ ?_)
   | (with_reducible refine LeO.bind ?_ (fun _ => ?_))
   | exact impl_KnowOk.mono _ _ _
   | exact impl_Pool_makes.mono _ _ _
   | exact LeO.none _
   | refine LeO.ite ?_ ?_
   | refine LeO.bind ?_ (fun _ => ?_)
set_option maxHeartbeats 8000000 in
set_option maxRecDepth 100000 in
theorem impl_MakesAll.calls (k : Nat) (A0_0 : Option Addr) (c0_0 : Nat) (l0_0 : List (S67)) (A1 : Option Addr) (c1 : Nat) (l1 : List Int) (r : List Bool) (w : World) (hr0_0 : Kd.C k67 w A0_0 l0_0.length l0_0) (hc0_0 : l0_0.length ≤ c0_0) (hr1 : Kd.C (Kd.int .i64) w A1 l1.length l1) (hc1 : l1.length ≤ c1) (h : impl_MakesAll.f k l0_0 l1 = some r) :
  Calls Try.prog 24 #[.agg #[.slice A0_0 l0_0.length c0_0], .slice A1 l1.length c1] w fun e w' => ∃ v0_ : Value, e = .returned (v0_) ∧ Kd.R Kd.bool 4 w' w.heap.size (fun _ => True) v0_ r ∧ Below w.heap.size w w' := by
 have hu31 := Try.underlying31
 have HR0_0 := Aside0.mk hr0_0
 have HC0_0 := Aside0.mk hc0_0
 clear hr0_0 hc0_0
 have HR1 := Aside0.mk hr1
 have HC1 := Aside0.mk hc1
 clear hr1 hc1
 have HB := Aside0.mk (Below.refl w.heap.size w)
 have H : ((impl_KnowOk.f k l0_0 l1).bind fun t428 => (if t428 = true then ((impl_Pool_makes.f k l0_0 l1).bind fun t429 => (some t429)) else (some ([] : List Bool)))) = some r := h
 clear h
 replace H := Option.bind_eq_some_iff.mp H
 obtain ⟨t428, A30, H⟩ := H
 replace H : (if t428 = true then ((impl_Pool_makes.f k l0_0 l1).bind fun t429 => (some t429)) else (some ([] : List Bool))) = some r := H
 have A3 := Aside0.mk A30
 clear A30
 by_cases c4 : t428 = true
 ·subst c4
  have H1 : ((impl_Pool_makes.f k l0_0 l1).bind fun t429 => (some t429)) = some r := by rw [if_pos rfl] at H; exact H
  clear H
  have H := H1
  clear H1
  replace H := Option.bind_eq_some_iff.mp H
  obtain ⟨t429, A50, H⟩ := H
  replace H : (some t429) = some r := H
  have A5 := Aside0.mk A50
  clear A50
  obtain rfl := Option.some.inj H
  go_enter Try.func24, Try.ntmps24
  go_wp2_with (first | ((with_reducible refine gate_dst (N := 2) rfl ?_); refine box_event ?hg (N := 2) ?hd (cs := #[.slice A0_0 l0_0.length c0_0]) (t := 31) ?hr ?_; (case hd => rfl); (case hg => rfl); (case hr => first | (go_simp; done) | (go_simp; rfl)); intro gb427 hg w6 hbox hb; have n0_ := Aside0.mk (below_step (zb HB.out) hb); have n1_ := Aside0.mk (hbox); have n2_ := Aside0.mk ((by rw [hg]; exact (below_size (zb HB.out)) : w.heap.size ≤ gb427)); have n3_ := Aside0.mk ((by rw [hg]; exact (below_size (zb HB.out)) : w.heap.size ≤ gb427)); clear HB; have HB := n0_; have BK427 := n1_; have GW427 := n2_; have GE427 := n3_; clear n0_ n1_ n2_ n3_; clear hb hbox hg; have hcz7_0 : w6.cell? ⟨gb427, 0, none⟩ = some (.slice A0_0 l0_0.length c0_0) := (blk_cell BK427.out 0).trans rfl; have hfz7_0 := blk_frozen BK427.out 0) | ((with_reducible refine gate_callee (f := 22) rfl ?_); refine goesL_ (some 7) rfl rfl Try.func22 (by kernel_rfl) rfl #[.agg #[.slice A0_0 l0_0.length c0_0], .slice A1 l1.length c1] rfl zl ?_; (with_reducible refine (impl_KnowOk.calls k _ _ l0_0 _ _ l1 true _ ?side1 ?side2 ?side3 ?side4 A3.out).mono ?_); (case side1 => exact zc (Kd.C_below HR0_0.out HB.out)); (case side2 => exact HC0_0.out); (case side3 => exact zc (Kd.C_below HR1.out HB.out)); (case side4 => exact HC1.out); rintro e w8 ⟨rfl, hb⟩; refine ⟨_, rfl, ?_⟩; have n0_ := Aside0.mk (blk_below (zh BK427.out) hb); have n1_ := Aside0.mk (below_step (zb HB.out) hb); clear BK427; clear HB; have BK427 := n0_; have HB := n1_; clear n0_ n1_; (try clear hb); (try clear hb2); (try clear hk); (try clear hi)) | ((with_reducible refine gate_callee (f := 49) rfl ?_); refine goesL_ (some 10) rfl rfl Try.func49 (by kernel_rfl) rfl #[.pointer (some ⟨gb427, 0, none⟩), .slice A1 l1.length c1] rfl zl ?_; (with_reducible refine (impl_Pool_makes.calls k _ A0_0 c0_0 l0_0 _ _ l1 t429 _ ?side1 ?side2 ?side3 ?side4 ?side5 A5.out).mono ?_); (case side1 => exact zh BK427.out); (case side2 => exact zc (Kd.C_below HR0_0.out HB.out)); (case side3 => exact HC0_0.out); (case side4 => exact zc (Kd.C_below HR1.out HB.out)); (case side5 => exact HC1.out); rintro e w9 ⟨v430, rfl, ho0, hb⟩; refine ⟨_, rfl, ?_⟩; have n0_ := Aside0.mk (Kd.R_lower ho0 (below_size (zb HB.out))); have n1_ := Aside0.mk (blk_below (zh BK427.out) hb); have n2_ := Aside0.mk (below_step (zb HB.out) hb); clear BK427; clear HB; have HO431 := n0_; have BK427 := n1_; have HB := n2_; clear n0_ n1_ n2_; (try clear hb); (try clear hb2); (try clear hk); (try clear hi); (try clear ho0)))
  go_ret
  exact ⟨_, ze, zr HO431.out, zb HB.out⟩
 ·replace c4 := Bool.eq_false_iff.mpr c4
  subst c4
  have H1 : (some ([] : List Bool)) = some r := by rw [if_neg (show ¬ (false = true) by decide)] at H; exact H
  clear H
  have H := H1
  clear H1
  obtain rfl := Option.some.inj H
  go_enter Try.func24, Try.ntmps24
  go_wp2_with (first | ((with_reducible refine gate_dst (N := 2) rfl ?_); refine box_event ?hg (N := 2) ?hd (cs := #[.slice A0_0 l0_0.length c0_0]) (t := 31) ?hr ?_; (case hd => rfl); (case hg => rfl); (case hr => first | (go_simp; done) | (go_simp; rfl)); intro gb427 hg w10 hbox hb; have n0_ := Aside0.mk (below_step (zb HB.out) hb); have n1_ := Aside0.mk (hbox); have n2_ := Aside0.mk ((by rw [hg]; exact (below_size (zb HB.out)) : w.heap.size ≤ gb427)); have n3_ := Aside0.mk ((by rw [hg]; exact (below_size (zb HB.out)) : w.heap.size ≤ gb427)); clear HB; have HB := n0_; have BK427 := n1_; have GW427 := n2_; have GE427 := n3_; clear n0_ n1_ n2_ n3_; clear hb hbox hg; have hcz11_0 : w10.cell? ⟨gb427, 0, none⟩ = some (.slice A0_0 l0_0.length c0_0) := (blk_cell BK427.out 0).trans rfl; have hfz11_0 := blk_frozen BK427.out 0) | ((with_reducible refine gate_callee (f := 22) rfl ?_); refine goesL_ (some 7) rfl rfl Try.func22 (by kernel_rfl) rfl #[.agg #[.slice A0_0 l0_0.length c0_0], .slice A1 l1.length c1] rfl zl ?_; (with_reducible refine (impl_KnowOk.calls k _ _ l0_0 _ _ l1 false _ ?side1 ?side2 ?side3 ?side4 A3.out).mono ?_); (case side1 => exact zc (Kd.C_below HR0_0.out HB.out)); (case side2 => exact HC0_0.out); (case side3 => exact zc (Kd.C_below HR1.out HB.out)); (case side4 => exact HC1.out); rintro e w12 ⟨rfl, hb⟩; refine ⟨_, rfl, ?_⟩; have n0_ := Aside0.mk (blk_below (zh BK427.out) hb); have n1_ := Aside0.mk (below_step (zb HB.out) hb); clear BK427; clear HB; have BK427 := n0_; have HB := n1_; clear n0_ n1_; (try clear hb); (try clear hb2); (try clear hk); (try clear hi)))
  go_ret
  exact ⟨_, ze, by first | exact Kd.R_nil _ _ _ _ _ | exact Kd.N_nil _ _ _ _ _ | exact Kd.V_nil _ _ _ _ _ | exact Kd.Q_nil _ _ _ _ _ | exact Kd.S_nil _ _ _ _ _, zb HB.out⟩


/-! ### impl_Node_91: function 91 -/
-- IMPORT Derived.Lib.SliceRun
def impl_Node_91.f (l0 : List S67) : Option (List S67) := if l0.length < 5864062014805 then some l0 else none
set_option maxHeartbeats 8000000 in
set_option maxRecDepth 100000 in
theorem impl_Node_91.calls (A0 : Option Addr) (c0 : Nat) (l0 : List S67) (r : List S67) (w : World) (hr0 : Kd.C k67 w A0 l0.length l0) (hc0 : l0.length ≤ c0) (h : impl_Node_91.f l0 = some r) :
  Calls Try.prog 91 #[.slice A0 l0.length c0] w fun e w' => ∃ v0_ : Value, e = .returned v0_ ∧ Kd.R k67 67 w' w.heap.size (fun _ => True) v0_ r ∧ Below w.heap.size w w' := by
 have HB := Aside0.mk (Below.refl w.heap.size w)
 have hnil := fun (w : World) (a : Option Addr) (n c : Nat) => Go.Lib.run_eql_slice_nil (P := Try.prog) w 29 67 a n c 0 0 Try.underlying29
 unfold impl_Node_91.f at h
 by_cases hl : l0.length < 5864062014805
 case neg => rw [if_neg hl] at h; exact absurd h (by simp)
 rw [if_pos hl] at h
 obtain rfl := Option.some.inj h
 cases A0 with
 | none =>
  have hn : l0 = [] := by
   by_cases h0 : 0 < l0.length
   ·obtain ⟨ad, e, _⟩ := hr0.2.2 h0
    exact absurd e (by simp)
   ·exact List.eq_nil_of_length_eq_zero (by omega)
  subst hn
  go_enter Try.func91, Try.ntmps91
  go_wp2
  repeat (go_quiet (fail); try go_wp2)
  go_ret
  exact ⟨_, rfl, Kd.R_nil _ _ _ _ _, zb HB.out⟩
 | some a =>
  have HR0 := Aside0.mk hr0
  go_enter Try.func91, Try.ntmps91
  go_wp2_with (first | ((with_reducible refine gate_dst (N := 5) rfl ?_); refine Kd.R_lit k67 _ 67 ?hg (N := 5) ?hd (xs := ([] : List (S67))) (inner := []) (ok := fun _ => True) (okp := fun _ => True) ?hr ?hp (fun _ hk => hk) trivial (Below.refl _ _) (Nat.le_refl _) (by simp) ?_; (case hd => rfl); (case hg => rfl); (case hr => first | (go_simp; done) | (go_simp; rfl)); (case hp => exact (Reps.none _ _)); intro v120 w5 ho6 hb hg_ hnew_; clear hg_ hnew_; have n0_ := Aside0.mk (Kd.R_lower ho6 (below_size (zb HB.out))); have n3_ := Aside0.mk (below_step (zb HB.out) hb); clear HB; have HO121 := n0_; have HB := n3_; clear n0_ n3_; clear hb ho6) | ((with_reducible refine gate_builtin (b := .append) (xs := #[.tmp 5, .tmp 6]) rfl ?_); at_builtin; refine Kd.R_append_rows k67 (w0 := w) w.heap.size rfl (.tmp 5) (.tmp 6) 29 67 (.agg #[(.int .i64 0), (.int .i64 0), (.int .i64 0)]) 24 rfl Try.underlying29 info67 rfl (by decide) (by omega) v120 ([] : List (S67)) l0 _ _ _ (fun _ => True) (fun _ => False) rfl rfl ?aO ?aR (fun _ _ h => h) (fun _ h => h.elim) ?aF ?aB ?aS ?aL ?_; (case aR => exact zc (Kd.C_below HR0.out HB.out)); (case aB => exact (zb HB.out)); (case aF => exact (fun _ _ => trivial)); (case aO => exact (zr HO121.out)); (case aS => exact (below_size (zb HB.out))); (case aL => simp; omega); intro v123 w9 ho hb hg hat; rw [List.nil_append] at ho; have n2_ := Aside0.mk hb; have n3_ := Aside0.mk ho; clear HB; clear HO121; have HB := n2_; have HO124 := n3_; clear n2_ n3_; clear ho hb hg hat; obtain ⟨Ao10, co10, eo10⟩ := Kd.R_slice HO124.out; subst eo10))
  go_ret
  exact ⟨_, rfl, zr HO124.out, zb HB.out⟩


/-! ### impl_copyPool: function 69 -/
def impl_copyPool.f (l0_0 : List (S67)) : Option ((List (S67))) := (impl_Node_91.f l0_0).bind fun t434 => (some t434)
set_option maxHeartbeats 8000000 in
set_option maxRecDepth 100000 in
theorem impl_copyPool.calls (A0_0 : Option Addr) (c0_0 : Nat) (l0_0 : List (S67)) (r : List (S67)) (w : World) (hr0_0 : Kd.C k67 w A0_0 l0_0.length l0_0) (hc0_0 : l0_0.length ≤ c0_0) (h : impl_copyPool.f l0_0 = some r) :
  Calls Try.prog 69 #[.agg #[.slice A0_0 l0_0.length c0_0]] w fun e w' => ∃ v0_ : Value, e = .returned (.agg #[v0_]) ∧ Kd.R k67 67 w' w.heap.size (fun _ => True) v0_ r ∧ Below w.heap.size w w' := by
 have hu31 := Try.underlying31
 have HR0_0 := Aside0.mk hr0_0
 have HC0_0 := Aside0.mk hc0_0
 clear hr0_0 hc0_0
 have HB := Aside0.mk (Below.refl w.heap.size w)
 have H : ((impl_Node_91.f l0_0).bind fun t434 => (some t434)) = some r := h
 clear h
 replace H := Option.bind_eq_some_iff.mp H
 obtain ⟨t434, A20, H⟩ := H
 replace H : (some t434) = some r := H
 have A2 := Aside0.mk A20
 clear A20
 obtain rfl := Option.some.inj H
 go_enter Try.func69, Try.ntmps69
 go_wp2_with (first | ((with_reducible refine gate_dst (N := 1) rfl ?_); refine box_event ?hg (N := 1) ?hd (cs := #[.slice A0_0 l0_0.length c0_0]) (t := 31) ?hr ?_; (case hd => rfl); (case hg => rfl); (case hr => first | (go_simp; done) | (go_simp; rfl)); intro gb432 hg w3 hbox hb; have n0_ := Aside0.mk (below_step (zb HB.out) hb); have n1_ := Aside0.mk (hbox); have n2_ := Aside0.mk ((by rw [hg]; exact (below_size (zb HB.out)) : w.heap.size ≤ gb432)); have n3_ := Aside0.mk ((by rw [hg]; exact (below_size (zb HB.out)) : w.heap.size ≤ gb432)); clear HB; have HB := n0_; have BK432 := n1_; have GW432 := n2_; have GE432 := n3_; clear n0_ n1_ n2_ n3_; clear hb hbox hg) | ((with_reducible refine gate_dst (N := 2) rfl ?_); refine box_event ?hg (N := 2) ?hd (cs := #[.slice none 0 0]) (t := 31) ?hr ?_; (case hd => rfl); (case hg => rfl); (case hr => first | (go_simp; done) | (go_simp; rfl)); intro gb433 hg w4 hbox hb; have n0_ := Aside0.mk (blk_below (zh BK432.out) hb); have n1_ := Aside0.mk (below_step (zb HB.out) hb); have n2_ := Aside0.mk (hbox); have n3_ := Aside0.mk ((by rw [hg]; exact (below_size (zb HB.out)) : w.heap.size ≤ gb433)); have n4_ := Aside0.mk ((by rw [hg]; exact (below_size (zb HB.out)) : w.heap.size ≤ gb433)); have n5_ := Aside0.mk ((by rw [hg]; exact Nat.ne_of_lt (blk_lt (zh BK432.out)) : gb432 ≠ gb433)); have n6_ := Aside0.mk ((by rw [hg]; exact Nat.ne_of_gt (blk_lt (zh BK432.out)) : gb433 ≠ gb432)); clear BK432; clear HB; have BK432 := n0_; have HB := n1_; have BK433 := n2_; have GW433 := n3_; have GE433 := n4_; have NB432_433 := n5_; have NB433_432 := n6_; clear n0_ n1_ n2_ n3_ n4_ n5_ n6_; clear hb hbox hg; have hnb5 := NB432_433.out; have hnc5 := NB433_432.out; have hcz6_0 : w4.cell? ⟨gb432, 0, none⟩ = some (.slice A0_0 l0_0.length c0_0) := (blk_cell BK432.out 0).trans rfl; have hfz6_0 := blk_frozen BK432.out 0) | ((with_reducible refine gate_callee (f := 91) rfl ?_); refine goesL_ (some 5) rfl rfl Try.func91 (by kernel_rfl) rfl #[.slice A0_0 l0_0.length c0_0] rfl zl ?_; (with_reducible refine (impl_Node_91.calls _ _ l0_0 t434 _ ?side1 ?side2 A2.out).mono ?_); (case side1 => exact zc (Kd.C_below HR0_0.out HB.out)); (case side2 => exact HC0_0.out); rintro e w7 ⟨v435, rfl, ho0, hb⟩; refine ⟨_, rfl, ?_⟩; have n0_ := Aside0.mk (Kd.R_lower ho0 (below_size (zb HB.out))); have n1_ := Aside0.mk (blk_below (zh BK432.out) hb); have n2_ := Aside0.mk (blk_below (zh BK433.out) hb); have n3_ := Aside0.mk (below_step (zb HB.out) hb); clear BK432; clear BK433; clear HB; have HO436 := n0_; have BK432 := n1_; have BK433 := n2_; have HB := n3_; clear n0_ n1_ n2_ n3_; (try clear hb); (try clear hb2); (try clear hk); (try clear hi); (try clear ho0); obtain ⟨Ao8, co8, eo8⟩ := Kd.R_slice HO436.out; subst eo8; have hcz9_0 : w7.cell? ⟨gb433, 0, none⟩ = some (.slice none 0 0) := (blk_cell BK433.out 0).trans rfl; have hfz9_0 := blk_frozen BK433.out 0))
 refine bodyPost_ret (results_cell_row rfl _ _ gb433 31 #[.slice Ao8 t434.length co8] (0, 0) _ rfl (by (with_reducible repeat (first | refine blk_drewN ?_ _ | refine blk_drew ?_ | refine blk_alloc ?_ _)); refine blk_put (cs := #[.slice none 0 0]) ?_ 0 _ rfl; (with_reducible repeat (first | refine blk_drewN ?_ _ | refine blk_drew ?_ | refine blk_alloc ?_ _)); exact BK433.out) Try.underlying31 rfl (by kernel_rfl)) rfl ?_
 exact ⟨_, ze, zr (Kd.R_mono (Kd.R_far (p := ⟨gb433, 0, none⟩) (Kd.R_types HO436.out BK433.out (by decide)) (fun _ hk => hk.2) (.slice Ao8 t434.length co8)) (fun _ hk => trivial)), zb HB.out⟩

end Go.Proofs.Ytilnfdnigjblcaa.H
end
