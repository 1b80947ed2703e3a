-- Written by this session's program (wip/tools/gprint.py over the kit's print) out of the translation; Lean checks it.
import Derived.Test.YtafahnellnfclaaZC0
import Derived.Test.YtafahnellnfclaaZC9
import Derived.Test.YtafahnellnfclaaZC10
namespace Go.Proofs.Ytafahnellnfclaa.C
open Go.RowKit Go.Proofs.YtafahnellnfclaaW.PrintWords Go.Proofs.YtafahnellnfclaaW.PrintLast Go.Proofs.YtafahnellnfclaaW.PrintMore
attribute [local go_sem] max2_int min2_int max_two min_two max_three min_three max_four min_four   -- for this text's walks alone
set_option linter.unusedVariables false
set_option linter.unusedSimpArgs false
set_option maxRecDepth 100000

/-! ### spec_l1DrawPool: function 100 -/
def spec_l1DrawPool.l0 : Nat → Int → Int → List Int → Int → Int → List (S34) → Option ((List (S34)) × Int × Int)
 | 0, _, _, _, _, _, _ => none
 | k + 1, x6, x7, x1000, x1001, x1002, x290000 => if x7 < x6 then ((spec_l1DrawNode.f k x1000 x1001 x1002 (x290000.length : Int)).bind fun bt293 => ((spec_l1Add.f k x290000 bt293.1 bt293.2.1 bt293.2.2.1).bind fun bt298 => (spec_l1DrawPool.l0 k x6 (wrap64 (x7 + 1)) x1000 bt293.2.2.2.1 bt293.2.2.2.2 bt298.1))) else (some (x290000, x1001, x1002))
def spec_l1DrawPool.f (k : Nat) (s0_0 : List Int) (s0_1 : Int) (s0_2 : Int) (a1 : Int) : Option ((List (S34)) × Int × Int) := (spec_l1Below.f s0_0 s0_1 s0_2 (wrap64 (a1 + 1))).bind fun bt290 => (spec_l1DrawPool.l0 k bt290.1 0 s0_0 bt290.2.1 bt290.2.2 ([] : List (S34)))
theorem spec_l1DrawPool.mono_l : ∀ k, (∀ y0 y1 y2 y3 y4 y5, LeO (spec_l1DrawPool.l0 k y0 y1 y2 y3 y4 y5) (spec_l1DrawPool.l0 (k + 1) y0 y1 y2 y3 y4 y5))
 | 0 => fun _ _ _ _ _ _ r h => by simp [spec_l1DrawPool.l0] at h
 | k + 1 => by
  have ih0 := spec_l1DrawPool.mono_l k
  ·intro y0 y1 y2 y3 y4 y5
   unfold spec_l1DrawPool.l0
   repeat' first
   | (with_reducible exact ih0 _ _ _ _ _ _)
   | (with_reducible exact spec_l1Add.mono _ _ _ _ _)
   | (with_reducible exact spec_l1DrawNode.mono _ _ _ _ _)
   | (with_reducible exact LeO.refl _)
   | (with_reducible exact LeO.none _)
   | (with_reducible refine LeO.ite ?_ ?_)
   | (with_reducible refine LeO.bind ?_ (fun _ => ?_))
   | exact ih0 _ _ _ _ _ _
   | exact spec_l1Add.mono _ _ _ _ _
   | exact spec_l1DrawNode.mono _ _ _ _ _
   | exact LeO.none _
   | refine LeO.ite ?_ ?_
   | refine LeO.bind ?_ (fun _ => ?_)
theorem spec_l1DrawPool.mono : ∀ a0 a1 a2 a3 k, LeO (spec_l1DrawPool.f k a0 a1 a2 a3) (spec_l1DrawPool.f (k + 1) a0 a1 a2 a3) := by
 intro a0 a1 a2 a3 k
 have ih0 := spec_l1DrawPool.mono_l k
 unfold spec_l1DrawPool.f
 repeat' first
   | (with_reducible exact ih0 _ _ _ _ _ _)
   | (with_reducible exact spec_l1Add.mono _ _ _ _ _)
   | (with_reducible exact spec_l1DrawNode.mono _ _ _ _ _)
   | (with_reducible exact LeO.refl _)
   | (with_reducible exact LeO.none _)
   | (with_reducible refine LeO.ite ?_ ?_)
   | (with_reducible refine LeO.bind ?_ (fun _ => ?_))
   | exact ih0 _ _ _ _ _ _
   | exact spec_l1Add.mono _ _ _ _ _
   | exact spec_l1DrawNode.mono _ _ _ _ _
   | exact LeO.none _
   | refine LeO.ite ?_ ?_
   | refine LeO.bind ?_ (fun _ => ?_)
def spec_l1DrawPool.T6 : Bool × List (List Nat × List Nat) := (true, [([], []), ([], []), ([], []), ([2], [2]), ([3], [3]), ([1, 4], [1, 4]), ([0, 5, 5], [0, 5]), ([6], [6]), ([7], [7]), ([7], [7]), ([8, 6, 0, 1, 2, 3, 4, 5, 6, 7, 8], [8])])
def spec_l1DrawPool.B6 : List Nat := [0, 0, 0, 4, 12, 30, 63, 127, 255, 255, 511]
theorem spec_l1DrawPool.tab6 : rtab .any (opsOf Try.f100 6) = spec_l1DrawPool.T6 := by kernel_rfl
theorem spec_l1DrawPool.bits6 : waitsOk spec_l1DrawPool.T6.2 spec_l1DrawPool.B6 = true := by kernel_rfl
set_option maxHeartbeats 8000000 in
set_option maxRecDepth 100000 in
theorem spec_l1DrawPool.calls (k : Nat) (g : Nat) (s0_0 : List Int) (s0_1 : Int) (s0_2 : Int) (a1 : Int) (r1 : List (S34)) (r2 : Int) (r3 : Int) (w0 w : World) (hI : IsS89 w0 w g s0_0 s0_1 s0_2) (hB : Below w0.heap.size w0 w) (h : spec_l1DrawPool.f k s0_0 s0_1 s0_2 a1 = some (r1, r2, r3)) :
  Calls Try.prog 100 #[.pointer (some ⟨g, 0, none⟩), .int .i64 a1] w fun e w' => ∃ v0_ : Value, e = .returned (.agg #[v0_]) ∧ Kd.R k34 34 w' w.heap.size (fun _ => True) v0_ r1 ∧ IsS89 w0 w' g s0_0 r2 r3 ∧ Below w0.heap.size w0 w' ∧ KeepBut w w' g none := by
 have hu30 := Try.underlying30
 have HI0 := Aside0.mk hI
 have HK := Aside0.mk (KeepBut.refl w g none)
 have HL := Aside0.mk hB.size
 clear hI
 have HW0 := Aside0.mk hB.size
 have HB := Aside0.mk hB
 clear hB
 have H : ((spec_l1Below.f s0_0 s0_1 s0_2 (wrap64 (a1 + 1))).bind fun bt290 => (spec_l1DrawPool.l0 k bt290.1 0 s0_0 bt290.2.1 bt290.2.2 ([] : List (S34)))) = some (r1, r2, r3) := h
 clear h
 replace H := Option.bind_eq_some_iff.mp H
 obtain ⟨⟨t290, t291, t292⟩, A30, H⟩ := H
 replace H : (spec_l1DrawPool.l0 k t290 0 s0_0 t291 t292 ([] : List (S34))) = some (r1, r2, r3) := H
 have A3 := Aside0.mk A30
 clear A30
 have H' := Aside0.mk H
 clear H
 go_enter Try.func100, Try.ntmps100
 go_wp2_with (first | ((with_reducible refine gate_dst (N := 4) rfl ?_); refine box_event ?hg (N := 4) ?hd (cs := #[.slice none 0 0]) (t := 30) ?hr ?_; (case hd => rfl); (case hg => rfl); (case hr => first | (go_simp; done) | (go_simp; rfl)); intro gb288 hg w4 hbox hb; have n0_ := Aside0.mk (IsS89.below (by repeat (first | (with_reducible first | exact HI0.out | apply IsS89.alloc | apply IsS89.drewN | apply IsS89.drew | apply IsS89.set_1 | apply IsS89.set_2) | exact HI0.out)) hb); have n1_ := Aside0.mk (KeepBut.trans (by repeat (first | (with_reducible first | exact HK.out | apply KeepBut.set_ | apply keep_drewN | apply keep_drew | apply keep_alloc) | exact HK.out)) (KeepBut.of_below hb g none) (.inl rfl)); have n2_ := Aside0.mk (below_step (by repeat (first | (with_reducible first | exact HB.out | apply below_alloc | apply pw_below_drewN | apply below_drew1 | refine below_set ?_ (IsS89.ge HI0.out)) | exact HB.out)) hb); have n3_ := Aside0.mk (hbox); have n4_ := Aside0.mk ((by rw [hg]; exact (keep_size (w := w) (g := g) (row := none) (by repeat (first | (with_reducible first | exact HK.out | apply KeepBut.set_ | apply keep_drewN | apply keep_drew | apply keep_alloc) | exact HK.out))) : w.heap.size ≤ gb288)); have n5_ := Aside0.mk ((Nat.le_trans HW0.out (by rw [hg]; exact (keep_size (w := w) (g := g) (row := none) (by repeat (first | (with_reducible first | exact HK.out | apply KeepBut.set_ | apply keep_drewN | apply keep_drew | apply keep_alloc) | exact HK.out))) : w.heap.size ≤ gb288) : w0.heap.size ≤ gb288)); have n6_ := Aside0.mk ((by rw [hg]; exact Nat.ne_of_lt (IsS89.lt (show IsS89 w0 _ g s0_0 s0_1 s0_2 from by repeat (first | (with_reducible first | exact HI0.out | apply IsS89.alloc | apply IsS89.drewN | apply IsS89.drew | apply IsS89.set_1 | apply IsS89.set_2) | exact HI0.out))) : g ≠ gb288)); have n7_ := Aside0.mk ((by rw [hg]; exact Nat.ne_of_gt (IsS89.lt (show IsS89 w0 _ g s0_0 s0_1 s0_2 from by repeat (first | (with_reducible first | exact HI0.out | apply IsS89.alloc | apply IsS89.drewN | apply IsS89.drew | apply IsS89.set_1 | apply IsS89.set_2) | exact HI0.out))) : gb288 ≠ g)); clear HI0; clear HK; clear HB; have HI0 := n0_; have HK := n1_; have HB := n2_; have BK288 := n3_; have GW288 := n4_; have GE288 := n5_; have NB0_288 := n6_; have NB288_0 := n7_; clear n0_ n1_ n2_ n3_ n4_ n5_ n6_ n7_; clear hb hbox hg) | ((with_reducible refine gate_dst (N := 5) rfl ?_); refine box_event ?hg (N := 5) ?hd (cs := #[.slice none 0 0]) (t := 30) ?hr ?_; (case hd => rfl); (case hg => rfl); (case hr => first | (go_simp; done) | (go_simp; rfl)); intro gb289 hg w5 hbox hb; have n0_ := Aside0.mk (IsS89.below (by repeat (first | (with_reducible first | exact HI0.out | apply IsS89.alloc | apply IsS89.drewN | apply IsS89.drew | apply IsS89.set_1 | apply IsS89.set_2 | refine IsS89.far ?_ NB0_288.out _) | exact HI0.out)) hb); have n1_ := Aside0.mk (blk_below (zh BK288.out) hb); have n2_ := Aside0.mk (KeepBut.trans (by repeat (first | (with_reducible first | exact HK.out | apply KeepBut.set_ | apply keep_drewN | apply keep_drew | apply keep_alloc | refine keep_far ?_ GW288.out _) | exact HK.out)) (KeepBut.of_below hb g none) (.inl rfl)); have n3_ := Aside0.mk (below_step (by repeat (first | (with_reducible first | exact HB.out | apply below_alloc | apply pw_below_drewN | apply below_drew1 | refine below_set ?_ (IsS89.ge HI0.out) | refine below_set ?_ GE288.out) | exact HB.out)) hb); have n4_ := Aside0.mk (hbox); have n5_ := Aside0.mk ((by rw [hg]; exact (keep_size (w := w) (g := g) (row := none) (by repeat (first | (with_reducible first | exact HK.out | apply KeepBut.set_ | apply keep_drewN | apply keep_drew | apply keep_alloc | refine keep_far ?_ GW288.out _) | exact HK.out))) : w.heap.size ≤ gb289)); have n6_ := Aside0.mk ((Nat.le_trans HW0.out (by rw [hg]; exact (keep_size (w := w) (g := g) (row := none) (by repeat (first | (with_reducible first | exact HK.out | apply KeepBut.set_ | apply keep_drewN | apply keep_drew | apply keep_alloc | refine keep_far ?_ GW288.out _) | exact HK.out))) : w.heap.size ≤ gb289) : w0.heap.size ≤ gb289)); have n7_ := Aside0.mk ((by rw [hg]; exact Nat.ne_of_lt (blk_lt (zh BK288.out)) : gb288 ≠ gb289)); have n8_ := Aside0.mk ((by rw [hg]; exact Nat.ne_of_gt (blk_lt (zh BK288.out)) : gb289 ≠ gb288)); have n9_ := Aside0.mk ((by rw [hg]; exact Nat.ne_of_lt (IsS89.lt (show IsS89 w0 _ g s0_0 s0_1 s0_2 from by repeat (first | (with_reducible first | exact HI0.out | apply IsS89.alloc | apply IsS89.drewN | apply IsS89.drew | apply IsS89.set_1 | apply IsS89.set_2 | refine IsS89.far ?_ NB0_288.out _) | exact HI0.out))) : g ≠ gb289)); have n10_ := Aside0.mk ((by rw [hg]; exact Nat.ne_of_gt (IsS89.lt (show IsS89 w0 _ g s0_0 s0_1 s0_2 from by repeat (first | (with_reducible first | exact HI0.out | apply IsS89.alloc | apply IsS89.drewN | apply IsS89.drew | apply IsS89.set_1 | apply IsS89.set_2 | refine IsS89.far ?_ NB0_288.out _) | exact HI0.out))) : gb289 ≠ g)); clear HI0; clear BK288; clear HK; clear HB; have HI0 := n0_; have BK288 := n1_; have HK := n2_; have HB := n3_; have BK289 := n4_; have GW289 := n5_; have GE289 := n6_; have NB288_289 := n7_; have NB289_288 := n8_; have NB0_289 := n9_; have NB289_0 := n10_; clear n0_ n1_ n2_ n3_ n4_ n5_ n6_ n7_ n8_ n9_ n10_; clear hb hbox hg; have hnb6 := NB289_288.out; have hnc6 := NB288_289.out; have hnb7 := NB289_0.out; have hnc7 := NB0_289.out; have hcz8_0 : w5.cell? ⟨gb289, 0, none⟩ = some (.slice none 0 0) := (blk_cell BK289.out 0).trans rfl; have hfz8_0 := blk_frozen BK289.out 0) | ((with_reducible refine gate_callee (f := 79) rfl ?_); refine goesL_ (some 12) rfl rfl Try.func79 (by kernel_rfl) rfl #[.pointer (some ⟨g, 0, none⟩), .int .i64 (wrap64 (a1 + 1))] rfl zl ?_; (with_reducible refine (spec_l1Below.calls g s0_0 s0_1 s0_2 (wrap64 (a1 + 1)) t290 t291 t292 w0 _ ?side1 ?side2 A3.out).mono ?_); (case side1 => repeat (first | (with_reducible first | exact HI0.out | apply IsS89.alloc | apply IsS89.drewN | apply IsS89.drew | apply IsS89.set_1 | apply IsS89.set_2 | refine IsS89.far ?_ NB0_288.out _ | refine IsS89.far ?_ NB0_289.out _) | exact HI0.out)); (case side2 => repeat (first | (with_reducible first | exact HB.out | apply below_alloc | apply pw_below_drewN | apply below_drew1 | refine below_set ?_ (IsS89.ge HI0.out) | refine below_set ?_ GE288.out | refine below_set ?_ GE289.out) | exact HB.out)); rintro e w9 ⟨rfl, hi, hb, hk⟩; refine ⟨_, rfl, ?_⟩; have n0_ := Aside0.mk (KeepBut.blk hk (g' := gb288) (o := .cells #[.slice none 0 0] 30 (0, 0)) (zf BK288.out) NB288_0.out (by simp)); have n1_ := Aside0.mk (KeepBut.blk hk (g' := gb289) (o := .cells #[.slice none 0 0] 30 (0, 0)) (by (with_reducible repeat (first | refine blk_drewN ?_ _ | refine blk_drew ?_ | refine blk_alloc ?_ _)); refine blk_put (cs := #[.slice none 0 0]) ?_ 0 _ rfl; (with_reducible repeat (first | refine blk_drewN ?_ _ | refine blk_drew ?_ | refine blk_alloc ?_ _)); exact BK289.out) NB289_0.out (by simp)); have n2_ := Aside0.mk (KeepBut.trans (by repeat (first | (with_reducible first | exact HK.out | apply KeepBut.set_ | apply keep_drewN | apply keep_drew | apply keep_alloc | refine keep_far ?_ GW288.out _ | refine keep_far ?_ GW289.out _) | exact HK.out)) hk (.inl rfl)); have n3_ := Aside0.mk (hb); have n4_ := Aside0.mk (hi); clear BK288; clear BK289; clear HK; clear HB; clear HI0; have BK288 := n0_; have BK289 := n1_; have HK := n2_; have HB := n3_; have HI0 := n4_; clear n0_ n1_ n2_ n3_ n4_; (try clear hb); (try clear hb2); (try clear hk); (try clear hi)))
 go_loopg [7] k (fun kq v7 w' => ∃ (x7_1 : Int) (x1001_1 : Int) (x1002_1 : Int) (x290000_1 : List (S34)) (u290000 : Value), v7 = .int .i64 x7_1 ∧ Aside0 (spec_l1DrawPool.l0 kq t290 x7_1 s0_0 x1001_1 x1002_1 x290000_1 = some (r1, r2, r3)) ∧ Aside0 (kq ≤ k) ∧ Aside0 (Kd.R k34 34 w' w.heap.size (fun _ => True) u290000 x290000_1) ∧ Aside0 (w'.heap[gb288]? = some (.cells #[(.slice none 0 0)] 30 (0, 0))) ∧ Aside0 (w'.heap[gb289]? = some (.cells #[u290000] 30 (0, 0))) ∧ Aside0 (IsS89 w0 w' g s0_0 x1001_1 x1002_1) ∧ Aside0 (KeepBut w w' g none) ∧ Aside0 (Below w0.heap.size w0 w'))
 case atStart => exact ⟨(0), (t291), (t292), (([] : List (S34))), (.slice none 0 0), (by first | rfl | (simp; done) | (simp [*]; done)), H', ⟨Nat.le_refl _⟩, ⟨by first | exact Kd.R_nil _ _ _ _ _ | exact Kd.N_nil _ _ _ _ _ | exact Kd.V_nil _ _ _ _ _ | exact Kd.Q_nil _ _ _ _ _ | exact Kd.S_nil _ _ _ _ _⟩, ⟨zh BK288.out⟩, ⟨zh BK289.out⟩, ⟨by repeat (first | (with_reducible first | exact HI0.out | apply IsS89.alloc | apply IsS89.drewN | apply IsS89.drew | apply IsS89.set_1 | apply IsS89.set_2 | refine IsS89.far ?_ NB0_288.out _ | refine IsS89.far ?_ NB0_289.out _) | exact HI0.out)⟩, ⟨by repeat (first | (with_reducible first | exact HK.out | apply KeepBut.set_ | apply keep_drewN | apply keep_drew | apply keep_alloc | refine keep_far ?_ GW288.out _ | refine keep_far ?_ GW289.out _) | exact HK.out)⟩, ⟨by repeat (first | (with_reducible first | exact HB.out | apply below_alloc | apply pw_below_drewN | apply below_drew1 | refine below_set ?_ (IsS89.ge HI0.out) | refine below_set ?_ GE288.out | refine below_set ?_ GE289.out) | exact HB.out)⟩⟩
 case round =>
  clear H'
  try clear c1
  try clear p2
  try clear c6
  try clear p6
  try clear c7
  try clear hcz8_0
  try clear hfz8_0
  obtain ⟨x7_1, x1001_1, x1002_1, x290000_1, u290000, rfl, HA, HK1, HO_290000, BK288, BK289, HI0, HK, HB⟩ := hrel
  cases gk with
  | zero => exact absurd HA.out (by simp [spec_l1DrawPool.l0])
  | succ k1 =>
   have H := HA.out
   clear HA
   simp only [spec_l1DrawPool.l0] at H
   by_cases c10 : x7_1 < t290
   ·rw [if_pos c10] at H
    have c10b0 : decide (x7_1 < t290) = true := decide_eq_true c10
    clear c10
    replace H := Option.bind_eq_some_iff.mp H
    obtain ⟨⟨t293, t294, t295, t296, t297⟩, A110, H⟩ := H
    replace H : ((spec_l1Add.f k1 x290000_1 t293 t294 t295).bind fun bt298 => (spec_l1DrawPool.l0 k1 t290 (wrap64 (x7_1 + 1)) s0_0 t296 t297 bt298.1)) = some (r1, r2, r3) := H
    have A11 := Aside0.mk A110
    clear A110
    replace H := Option.bind_eq_some_iff.mp H
    obtain ⟨⟨t298, t301⟩, A120, H⟩ := H
    replace H : (spec_l1DrawPool.l0 k1 t290 (wrap64 (x7_1 + 1)) s0_0 t296 t297 t298) = some (r1, r2, r3) := H
    have A12 := Aside0.mk A120
    clear A120
    have H' := Aside0.mk H
    clear H
    try go_wp2
    have n0_ := Aside0.mk (Kd.R_drew HO_290000.out)
    have n1_ := Aside0.mk (blk_drew BK288.out)
    have n2_ := Aside0.mk (blk_drew BK289.out)
    have n3_ := Aside0.mk (IsS89.drew HI0.out)
    have n4_ := Aside0.mk (keep_drew HK.out)
    have n5_ := Aside0.mk (below_drew1 HB.out)
    clear HO_290000
    clear BK288
    clear BK289
    clear HI0
    clear HK
    clear HB
    have HO_290000 := n0_
    have BK288 := n1_
    have BK289 := n2_
    have HI0 := n3_
    have HK := n4_
    have HB := n5_
    clear n0_ n1_ n2_ n3_ n4_ n5_
    obtain ⟨Ao14, co14, eo14⟩ := Kd.R_slice HO_290000.out
    (first | subst eo14 | (injection eo14 with f1_ f2_ f3_; have f4_ := f1_.symm; have f5_ := f3_.symm; clear f1_ f2_ f3_; subst f4_; subst f5_))
    refine start_ (n := 11) (S := fun w' => w'.cell? ⟨gb289, 0, none⟩ = some (.slice Ao14 x290000_1.length co14)) (ds := [10]) #[false, false, false, false, false, false, false, false, false, false, false] (by kernel_rfl) rfl rfl ((blk_cell BK289.out 0).trans rfl) (fun hHeld => ?_); refine with_tabW spec_l1DrawPool.tab6 spec_l1DrawPool.bits6 (fun HT_ HW_ => ?_)
    generalize wr.drew = w13 at HO_290000 BK288 BK289 HI0 HK HB hHeld ⊢
    refine pure_ (i := 1) (N := some 20) (v := ?_) (a' := ?_) #[false, true, false, false, false, false, false, false, false, false, false] rfl rfl (any_of HT_.out (by kernel_rfl)) (fun _ _ _ h => h) (Or.inl ⟨by rfl, ?_⟩) ?_ ?_
    rotate_left
    ·intro w'
     go_simp
     with_reducible rfl
    rotate_left
    ·simp only [Act.put, List.setIfInBounds_toArray, List.set_cons_zero, List.set_cons_succ, i64_w, i32_w]
     rfl
    refine pure_ (i := 2) (N := some 21) (v := ?_) (a' := ?_) #[false, true, true, false, false, false, false, false, false, false, false] rfl rfl (any_of HT_.out (by kernel_rfl)) (fun _ _ _ h => h) (Or.inl ⟨by rfl, ?_⟩) ?_ ?_
    rotate_left
    ·intro w'
     go_simp
     with_reducible rfl
    rotate_left
    ·simp only [Act.put, List.setIfInBounds_toArray, List.set_cons_zero, List.set_cons_succ, i64_w, i32_w]
     rfl
    refine take_ (i := 0) (N := some 19) (v := ?_) (a' := ?_) #[true, true, true, false, false, false, false, false, false, false, false] rfl rfl (take_ofW HT_.out HW_.out (by kernel_rfl)) (fun _ _ _ h => h) (Or.inl ⟨by rfl, ?_⟩) hHeld ?_ ?_
    rotate_left
    ·intro w' s0
     go_simp
     with_reducible rfl
    rotate_left
    ·simp only [Act.put, List.setIfInBounds_toArray, List.set_cons_zero, List.set_cons_succ, i64_w, i32_w]
     rfl
    refine take_ (i := 3) (N := some 22) (v := ?_) (a' := ?_) #[true, true, true, true, false, false, false, false, false, false, false] rfl rfl (take_ofW HT_.out HW_.out (by kernel_rfl)) (fun _ _ _ h => h) (Or.inl ⟨by rfl, ?_⟩) hHeld ?_ ?_
    rotate_left
    ·intro w' s0
     go_simp
     with_reducible rfl
    rotate_left
    ·simp only [Act.put, List.setIfInBounds_toArray, List.set_cons_zero, List.set_cons_succ, i64_w, i32_w]
     rfl
    refine pure_ (i := 4) (N := some 23) (v := ?_) (a' := ?_) #[true, true, true, true, true, false, false, false, false, false, false] rfl rfl (any_of HT_.out (by kernel_rfl)) (fun _ _ _ h => h) (Or.inl ⟨by rfl, ?_⟩) ?_ ?_
    rotate_left
    ·intro w'
     go_simp
     with_reducible rfl
    rotate_left
    ·simp only [Act.put, List.setIfInBounds_toArray, List.set_cons_zero, List.set_cons_succ, i64_w, i32_w]
     rfl
    refine one_ (i := 5) (N := some 24) #[true, true, true, true, true, true, false, false, false, false, false] rfl rfl (one_of HT_.out (by kernel_rfl)) (by decide) (fun K hK => ?_)
    refine goes_ Try.func78 (by kernel_rfl) rfl #[.pointer (some ⟨g, 0, none⟩), .int .i64 (x290000_1.length : Int)] (by rfl) rfl rfl zl ?_
    with_reducible refine (spec_l1DrawNode.calls k1 g s0_0 x1001_1 x1002_1 (x290000_1.length : Int) t293 t294 t295 t296 t297 w0 _ ?side1 ?side2 A11.out).mono ?_
    (case side1 => repeat (first | (with_reducible first | exact HI0.out | apply IsS89.alloc | apply IsS89.drewN | apply IsS89.drew | apply IsS89.set_1 | apply IsS89.set_2 | refine IsS89.far ?_ NB0_288.out _ | refine IsS89.far ?_ NB0_289.out _) | exact HI0.out))
    (case side2 => repeat (first | (with_reducible first | exact HB.out | apply below_alloc | apply pw_below_drewN | apply below_drew1 | refine below_set ?_ (IsS89.ge HI0.out) | refine below_set ?_ GE288.out | refine below_set ?_ GE289.out) | exact HB.out))
    rintro e w15 ⟨rfl, hi, hb, hk⟩
    refine ⟨_, rfl, ?_⟩
    have n0_ := Aside0.mk (Kd.R_mono (Kd.R_keep (IsS89.apart (show IsS89 w0 _ g s0_0 x1001_1 x1002_1 from by repeat (first | (with_reducible first | exact HI0.out | apply IsS89.alloc | apply IsS89.drewN | apply IsS89.drew | apply IsS89.set_1 | apply IsS89.set_2 | refine IsS89.far ?_ NB0_288.out _ | refine IsS89.far ?_ NB0_289.out _) | exact HI0.out)) (zr HO_290000.out) (by decide)) hk (fun _ h => h.2)) (fun _ h => h.1))
    have n1_ := Aside0.mk (KeepBut.blk hk (g' := gb288) (o := .cells #[.slice none 0 0] 30 (0, 0)) (zh BK288.out) NB288_0.out (by simp))
    have n2_ := Aside0.mk (KeepBut.blk hk (g' := gb289) (o := .cells #[.slice Ao14 x290000_1.length co14] 30 (0, 0)) (zh BK289.out) NB289_0.out (by simp))
    have n3_ := Aside0.mk (KeepBut.trans (by repeat (first | (with_reducible first | exact HK.out | apply KeepBut.set_ | apply keep_drewN | apply keep_drew | apply keep_alloc | refine keep_far ?_ GW288.out _ | refine keep_far ?_ GW289.out _) | exact HK.out)) hk (.inl rfl))
    have n4_ := Aside0.mk (hb)
    have n5_ := Aside0.mk (hi)
    clear HO_290000
    clear BK288
    clear BK289
    clear HK
    clear HB
    clear HI0
    have HO_290000 := n0_
    have BK288 := n1_
    have BK289 := n2_
    have HK := n3_
    have HB := n4_
    have HI0 := n5_
    clear n0_ n1_ n2_ n3_ n4_ n5_
    (try clear hb)
    (try clear hb2)
    (try clear hk)
    (try clear hi)
    refine hK.out _ _ ((blk_cell BK289.out 0).trans rfl) (fun hHeld => ?_)
    clear hK K
    refine norm_ (a' := ?_) ?_ ?_
    rotate_left
    ·show Act.put _ (some 24) _ = _
     simp only [Act.put, List.setIfInBounds_toArray, List.set_cons_zero, List.set_cons_succ, i64_w, i32_w]
     rfl
    refine one_ (i := 6) (N := some 25) #[true, true, true, true, true, true, true, false, false, false, false] rfl rfl (one_of HT_.out (by kernel_rfl)) (by decide) (fun K hK => ?_)
    refine goes_ Try.func58 (by kernel_rfl) rfl #[.agg #[.slice Ao14 x290000_1.length co14], .agg #[.int .i64 t293, .int .i64 t294, .int .i64 t295]] (by rfl) rfl rfl zl ?_
    with_reducible refine (spec_l1Add.calls k1 (fun k_ => some k_ = (.slice Ao14 x290000_1.length co14 : Value).ownBlock) (.slice Ao14 x290000_1.length co14) x290000_1 t293 t294 t295 t298 t301 w0 _ ?side1 ?side2 A12.out).mono ?_
    (case side1 => repeat (first | (with_reducible first | exact HB.out | apply below_alloc | apply pw_below_drewN | apply below_drew1 | refine below_set ?_ (IsS89.ge HI0.out) | refine below_set ?_ GE288.out | refine below_set ?_ GE289.out) | exact HB.out))
    (case side2 => exact Kd.R_lower (Kd.R_tight rfl HO_290000.out) HL.out)
    rintro e w16 ⟨v299, rfl, ho0, hb, hkp⟩
    refine ⟨_, rfl, ?_⟩
    have n0_ := Aside0.mk (blk_kept (zh BK288.out) hkp (fun hs_ => (fun e_ => (Kd.R_ne HO_290000.out BK288.out (by decide)) e_) hs_))
    have n1_ := Aside0.mk (blk_kept (zh BK289.out) hkp (fun hs_ => (fun e_ => (Kd.R_ne HO_290000.out BK289.out (by decide)) e_) hs_))
    have n2_ := Aside0.mk (IsS89.kept (by repeat (first | (with_reducible first | exact HI0.out | apply IsS89.alloc | apply IsS89.drewN | apply IsS89.drew | apply IsS89.set_1 | apply IsS89.set_2 | refine IsS89.far ?_ NB0_288.out _ | refine IsS89.far ?_ NB0_289.out _) | exact HI0.out)) hkp (fun hs_ => (fun e_ => (IsS89.own_ne HI0.out HO_290000.out (by decide)) e_) hs_))
    have n3_ := Aside0.mk (Kd.R_mono (ok' := fun k_ => True) (Kd.R_raise (d := k34) (b := w0.heap.size) (b' := w.heap.size) (fun _ _ _ _ h_ => h_) ho0 (fun k_ e_ => Or.elim (ho0.1 k_ e_) (fun hs_ => (fun e_ => Kd.R_base HO_290000.out k_ e_.symm) hs_) (fun hn_ => Nat.le_trans (keep_size (w := w) (g := g) (row := none) (by repeat (first | (with_reducible first | exact HK.out | apply KeepBut.set_ | apply keep_drewN | apply keep_drew | apply keep_alloc | refine keep_far ?_ GW288.out _ | refine keep_far ?_ GW289.out _) | exact HK.out))) hn_))) (fun k_ hk_ => trivial))
    have n4_ := Aside0.mk (Kept.keepG (by repeat (first | (with_reducible first | exact HK.out | apply KeepBut.set_ | apply keep_drewN | apply keep_drew | apply keep_alloc | refine keep_far ?_ GW288.out _ | refine keep_far ?_ GW289.out _) | exact HK.out)) hkp (fun k_ hs_ => (fun e_ => .inr (Kd.R_base HO_290000.out k_ e_.symm)) hs_))
    have n5_ := Aside0.mk (hb)
    clear BK288
    clear BK289
    clear HI0
    clear HK
    clear HB
    clear HO_290000
    have BK288 := n0_
    have BK289 := n1_
    have HI0 := n2_
    have HO300 := n3_
    have HK := n4_
    have HB := n5_
    clear n0_ n1_ n2_ n3_ n4_ n5_
    (try clear hb)
    (try clear hkp)
    (try clear ho0)
    obtain ⟨Ao17, co17, eo17⟩ := Kd.R_slice HO300.out
    (first | subst eo17 | (injection eo17 with f1_ f2_ f3_; have f4_ := f1_.symm; have f5_ := f3_.symm; clear f1_ f2_ f3_; subst f4_; subst f5_))
    refine hK.out _ _ ((blk_cell BK289.out 0).trans rfl) (fun hHeld => ?_)
    clear hK K
    refine norm_ (a' := ?_) ?_ ?_
    rotate_left
    ·show Act.put _ (some 25) _ = _
     simp only [Act.put, List.setIfInBounds_toArray, List.set_cons_zero, List.set_cons_succ, i64_w, i32_w]
     rfl
    refine pure_ (i := 7) (N := some 18) (v := ?_) (a' := ?_) #[true, true, true, true, true, true, true, true, false, false, false] rfl rfl (any_of HT_.out (by kernel_rfl)) (fun _ _ _ h => h) (Or.inl ⟨by rfl, ?_⟩) ?_ ?_
    rotate_left
    ·intro w'
     go_simp
     with_reducible rfl
    rotate_left
    ·simp only [Act.put, List.setIfInBounds_toArray, List.set_cons_zero, List.set_cons_succ, i64_w, i32_w]
     rfl
    refine pure_ (i := 8) (N := some 26) (v := ?_) (a' := ?_) #[true, true, true, true, true, true, true, true, true, false, false] rfl rfl (any_of HT_.out (by kernel_rfl)) (fun _ _ _ h => h) (Or.inl ⟨by rfl, ?_⟩) ?_ ?_
    rotate_left
    ·intro w'
     go_simp
     with_reducible rfl
    rotate_left
    ·simp only [Act.put, List.setIfInBounds_toArray, List.set_cons_zero, List.set_cons_succ, i64_w, i32_w]
     rfl
    refine pure_ (i := 9) (N := some 27) (v := ?_) (a' := ?_) #[true, true, true, true, true, true, true, true, true, true, false] rfl rfl (any_of HT_.out (by kernel_rfl)) (fun _ _ _ h => h) (Or.inl ⟨by rfl, ?_⟩) ?_ ?_
    rotate_left
    ·intro w'
     go_simp
     with_reducible rfl
    rotate_left
    ·simp only [Act.put, List.setIfInBounds_toArray, List.set_cons_zero, List.set_cons_succ, i64_w, i32_w]
     rfl
    refine last_ (i := 10) (N := none) #[true, true, true, true, true, true, true, true, true, true, true] rfl rfl (one_of HT_.out (by kernel_rfl)) (by decide) (fun K hK => ?_)
    have hs18 : w16.cell? ⟨gb289, 0, none⟩ = some (.slice Ao14 x290000_1.length co14) := (blk_cell BK289.out 0).trans rfl
    have hfs18 := blk_frozen BK289.out 0
    have hns18_0 := NB288_289.out
    have hms18_0 := NB289_288.out
    refine skip_ (w1 := ?_) (by rfl) rfl ?_ ?_
    rotate_left
    ·go_simp
     rfl
    refine hK.out _ _ ?_
    clear hK K
    refine done_ (done_of HT_.out (by kernel_rfl)) ?_
    try go_wp2
    go_roundg k1
    case measure => have := HK1.out; omega
    case rel => exact ⟨(wrap64 (x7_1 + 1)), (t296), (t297), (t298), (.slice Ao17 t298.length co17), (by first | rfl | (simp; done) | (simp [*]; done)), H', ⟨by have := HK1.out; omega⟩, ⟨zr (Kd.R_mono (Kd.R_far (p := ⟨gb289, 0, none⟩) (Kd.R_types HO300.out BK289.out (by decide)) (fun _ hk => hk.2) (.slice Ao17 t298.length co17)) (fun _ hk => trivial))⟩, ⟨zf BK288.out⟩, ⟨by (with_reducible repeat (first | refine blk_drewN ?_ _ | refine blk_drew ?_ | refine blk_alloc ?_ _)); refine blk_put (cs := #[.slice Ao14 x290000_1.length co14]) ?_ 0 _ rfl; (with_reducible repeat (first | refine blk_drewN ?_ _ | refine blk_drew ?_ | refine blk_alloc ?_ _)); exact BK289.out⟩, ⟨by repeat (first | (with_reducible first | exact HI0.out | apply IsS89.alloc | apply IsS89.drewN | apply IsS89.drew | apply IsS89.set_1 | apply IsS89.set_2 | refine IsS89.far ?_ NB0_288.out _ | refine IsS89.far ?_ NB0_289.out _) | exact HI0.out)⟩, ⟨by repeat (first | (with_reducible first | exact HK.out | apply KeepBut.set_ | apply keep_drewN | apply keep_drew | apply keep_alloc | refine keep_far ?_ GW288.out _ | refine keep_far ?_ GW289.out _) | exact HK.out)⟩, ⟨by repeat (first | (with_reducible first | exact HB.out | apply below_alloc | apply pw_below_drewN | apply below_drew1 | refine below_set ?_ (IsS89.ge HI0.out) | refine below_set ?_ GE288.out | refine below_set ?_ GE289.out) | exact HB.out)⟩⟩
   ·rw [if_neg c10] at H
    have c10b0 : decide (x7_1 < t290) = false := decide_eq_false c10
    clear c10
    simp only [Option.some.injEq, Prod.mk.injEq] at H
    obtain ⟨rfl, rfl, rfl⟩ := H
    have hnb19 := NB289_288.out
    have hnc19 := NB288_289.out
    have hnb20 := NB289_0.out
    have hnc20 := NB0_289.out
    have hcz21_0 : wr.cell? ⟨gb289, 0, none⟩ = some (u290000) := (blk_cell BK289.out 0).trans rfl
    have hfz21_0 := blk_frozen BK289.out 0
    obtain ⟨Ao22, co22, eo22⟩ := Kd.R_slice HO_290000.out
    subst eo22
    have hnb23 := NB288_0.out
    have hnc23 := NB0_288.out
    have hcz24_0 : wr.cell? ⟨gb288, 0, none⟩ = some (.slice none 0 0) := (blk_cell BK288.out 0).trans rfl
    have hfz24_0 := blk_frozen BK288.out 0
    go_wp2
    refine bodyPost_ret (results_cell_row rfl _ _ gb288 30 #[.slice Ao22 x290000_1.length co22] (0, 0) _ rfl (by (with_reducible repeat (first | refine blk_drewN ?_ _ | refine blk_drew ?_ | refine blk_alloc ?_ _)); refine blk_put (cs := #[.slice none 0 0]) ?_ 0 _ rfl; (with_reducible repeat (first | refine blk_drewN ?_ _ | refine blk_drew ?_ | refine blk_alloc ?_ _)); exact BK288.out) Try.underlying30 rfl (by kernel_rfl)) rfl ?_
    exact ⟨_, ze, by (with_reducible repeat (first | apply Kd.R_alloc | apply Kd.R_drewN | apply Kd.R_drew)); exact Kd.R_mono (Kd.R_far (p := ⟨gb288, 0, none⟩) (Kd.R_types HO_290000.out BK288.out (by decide)) (fun _ hk => hk.2) (.slice Ao22 x290000_1.length co22)) (fun _ hk => trivial), by repeat (first | (with_reducible first | exact HI0.out | apply IsS89.alloc | apply IsS89.drewN | apply IsS89.drew | apply IsS89.set_1 | apply IsS89.set_2 | refine IsS89.far ?_ NB0_288.out _ | refine IsS89.far ?_ NB0_289.out _) | exact HI0.out), by repeat (first | (with_reducible first | exact HB.out | apply below_alloc | apply pw_below_drewN | apply below_drew1 | refine below_set ?_ (IsS89.ge HI0.out) | refine below_set ?_ GE288.out | refine below_set ?_ GE289.out) | exact HB.out), by repeat (first | (with_reducible first | exact HK.out | apply KeepBut.set_ | apply keep_drewN | apply keep_drew | apply keep_alloc | refine keep_far ?_ GW288.out _ | refine keep_far ?_ GW289.out _) | exact HK.out)⟩

/-! ### spec_l1DrawAny: function 77 -/
mutual
def spec_l1DrawAny.j0 : Nat → List Int → Int → Int → List (S34) → Option ((List (S34)) × Int × Int)
 | 0, _, _, _, _ => none
 | k + 1, x1000, x1001, x1002, x309000 => (spec_l1Once.f x1000 x1001 x1002 80).bind fun bt338 => (if bt338.1 = true then (spec_l1DrawAny.l0 k x1000 bt338.2.1 bt338.2.2 ([] : List (S34))) else (some (x309000, bt338.2.1, bt338.2.2)))
def spec_l1DrawAny.l0 : Nat → List Int → Int → Int → List (S34) → Option ((List (S34)) × Int × Int)
 | 0, _, _, _, _ => none
 | k + 1, x1000, x1001, x1002, x309000 => if (x309000.length : Int) < 500 then ((spec_l1Add.f k x309000 1 ((x309000.length : Int) % 200) 0).bind fun bt341 => ((spec_l1Add.f k bt341.1 5 (wrap64 ((bt341.1.length : Int) - 1)) 0).bind fun bt345 => (spec_l1DrawAny.l0 k x1000 x1001 x1002 bt345.1))) else (some (x309000, x1001, x1002))
end
def spec_l1DrawAny.f (k : Nat) (s0_0 : List Int) (s0_1 : Int) (s0_2 : Int) : Option ((List (S34)) × Int × Int) := (spec_l1DrawPool.f k s0_0 s0_1 s0_2 24).bind fun bt303 => ((spec_l1Below.f s0_0 bt303.2.1 bt303.2.2 25).bind fun bt309 => (if bt309.1 = 0 then ((spec_l1Copy.f bt303.1).bind fun t312 => ((spec_l1DrawNode.f k s0_0 bt309.2.1 bt309.2.2 3).bind fun bt315 => (if t312.length < 5864062014805 then (spec_l1DrawAny.j0 k s0_0 bt315.2.2.2.1 bt315.2.2.2.2 (t312 ++ [(⟨bt315.1, bt315.2.1, bt315.2.2.1⟩ : S34)])) else (none)))) else (if bt309.1 = 1 then ((spec_l1Copy.f bt303.1).bind fun t323 => ((spec_l1Below.f s0_0 bt309.2.1 bt309.2.2 10).bind fun bt326 => ((spec_l1Below.f s0_0 bt326.2.1 bt326.2.2 30).bind fun bt329 => ((spec_l1Below.f s0_0 bt329.2.1 bt329.2.2 30).bind fun bt332 => (if t323.length < 5864062014805 then (spec_l1DrawAny.j0 k s0_0 bt332.2.1 bt332.2.2 (t323 ++ [(⟨bt326.1, wrap64 (bt329.1 - 1), wrap64 (bt332.1 - 1)⟩ : S34)])) else (none)))))) else (spec_l1DrawAny.j0 k s0_0 bt309.2.1 bt309.2.2 bt303.1))))
theorem spec_l1DrawAny.mono_l : ∀ k, (∀ y0 y1 y2 y3, LeO (spec_l1DrawAny.j0 k y0 y1 y2 y3) (spec_l1DrawAny.j0 (k + 1) y0 y1 y2 y3)) ∧ (∀ y0 y1 y2 y3, LeO (spec_l1DrawAny.l0 k y0 y1 y2 y3) (spec_l1DrawAny.l0 (k + 1) y0 y1 y2 y3))
 | 0 => ⟨fun _ _ _ _ r h => by simp [spec_l1DrawAny.j0] at h, fun _ _ _ _ r h => by simp [spec_l1DrawAny.l0] at h⟩
 | k + 1 => by
  obtain ⟨ih0, ih1⟩ := spec_l1DrawAny.mono_l k
  refine ⟨?_, ?_⟩
  ·intro y0 y1 y2 y3
   unfold spec_l1DrawAny.j0
   repeat' first
   | (with_reducible exact ih0 _ _ _ _)
   | (with_reducible exact ih1 _ _ _ _)
   | (with_reducible exact spec_l1Add.mono _ _ _ _ _)
   | (with_reducible exact spec_l1DrawNode.mono _ _ _ _ _)
   | (with_reducible exact spec_l1DrawPool.mono _ _ _ _ _)
   | (with_reducible exact LeO.refl _)
   | (with_reducible exact LeO.none _)
   | (with_reducible refine LeO.ite ?_ ?_)
   | (with_reducible refine LeO.bind ?_ (fun _ => ?_))
   | exact ih0 _ _ _ _
   | exact ih1 _ _ _ _
   | exact spec_l1Add.mono _ _ _ _ _
   | exact spec_l1DrawNode.mono _ _ _ _ _
   | exact spec_l1DrawPool.mono _ _ _ _ _
   | exact LeO.none _
   | refine LeO.ite ?_ ?_
   | refine LeO.bind ?_ (fun _ => ?_)
  ·intro y0 y1 y2 y3
   unfold spec_l1DrawAny.l0
   repeat' first
   | (with_reducible exact ih0 _ _ _ _)
   | (with_reducible exact ih1 _ _ _ _)
   | (with_reducible exact spec_l1Add.mono _ _ _ _ _)
   | (with_reducible exact spec_l1DrawNode.mono _ _ _ _ _)
   | (with_reducible exact spec_l1DrawPool.mono _ _ _ _ _)
   | (with_reducible exact LeO.refl _)
   | (with_reducible exact LeO.none _)
   | (with_reducible refine LeO.ite ?_ ?_)
   | (with_reducible refine LeO.bind ?_ (fun _ => ?_))
   | exact ih0 _ _ _ _
   | exact ih1 _ _ _ _
   | exact spec_l1Add.mono _ _ _ _ _
   | exact spec_l1DrawNode.mono _ _ _ _ _
   | exact spec_l1DrawPool.mono _ _ _ _ _
   | exact LeO.none _
   | refine LeO.ite ?_ ?_
   | refine LeO.bind ?_ (fun _ => ?_)
theorem spec_l1DrawAny.mono : ∀ a0 a1 a2 k, LeO (spec_l1DrawAny.f k a0 a1 a2) (spec_l1DrawAny.f (k + 1) a0 a1 a2) := by
 intro a0 a1 a2 k
 obtain ⟨ih0, ih1⟩ := spec_l1DrawAny.mono_l k
 unfold spec_l1DrawAny.f
 repeat' first
   | (with_reducible exact ih0 _ _ _ _)
   | (with_reducible exact ih1 _ _ _ _)
   | (with_reducible exact spec_l1Add.mono _ _ _ _ _)
   | (with_reducible exact spec_l1DrawNode.mono _ _ _ _ _)
   | (with_reducible exact spec_l1DrawPool.mono _ _ _ _ _)
   | (with_reducible exact LeO.refl _)
   | (with_reducible exact LeO.none _)
   | (with_reducible refine LeO.ite ?_ ?_)
   | (with_reducible refine LeO.bind ?_ (fun _ => ?_))
   | exact ih0 _ _ _ _
   | exact ih1 _ _ _ _
   | exact spec_l1Add.mono _ _ _ _ _
   | exact spec_l1DrawNode.mono _ _ _ _ _
   | exact spec_l1DrawPool.mono _ _ _ _ _
   | exact LeO.none _
   | refine LeO.ite ?_ ?_
   | refine LeO.bind ?_ (fun _ => ?_)
theorem fldP_ (w : World) (v : Value) : (Instr.field 30 (.agg #[v]) 0).run Try.prog w = .ok v w := by
 have hu := Try.underlying30
 simp [Instr.field, run_underlying hu, go_sem, asAgg, part, Result.andThen]
set_option maxHeartbeats 8000000 in
set_option maxRecDepth 100000 in
theorem spec_l1DrawAny.calls (k : Nat) (g : Nat) (s0_0 : List Int) (s0_1 : Int) (s0_2 : Int) (r1 : List (S34)) (r2 : Int) (r3 : Int) (w0 w : World) (hI : IsS89 w0 w g s0_0 s0_1 s0_2) (hB : Below w0.heap.size w0 w) (h : spec_l1DrawAny.f k s0_0 s0_1 s0_2 = some (r1, r2, r3)) :
  Calls Try.prog 77 #[.pointer (some ⟨g, 0, none⟩)] w fun e w' => ∃ v0_ : Value, e = .returned (.agg #[v0_]) ∧ Kd.R k34 34 w' w.heap.size (fun _ => True) v0_ r1 ∧ IsS89 w0 w' g s0_0 r2 r3 ∧ Below w0.heap.size w0 w' ∧ KeepBut w w' g none := by
 have hu30 := Try.underlying30
 have hu34 := Try.underlying34
 have HI0 := Aside0.mk hI
 have HK := Aside0.mk (KeepBut.refl w g none)
 have HL := Aside0.mk hB.size
 clear hI
 have HW0 := Aside0.mk hB.size
 have HB := Aside0.mk hB
 clear hB
 have H : ((spec_l1DrawPool.f k s0_0 s0_1 s0_2 24).bind fun bt303 => ((spec_l1Below.f s0_0 bt303.2.1 bt303.2.2 25).bind fun bt309 => (if bt309.1 = 0 then ((spec_l1Copy.f bt303.1).bind fun t312 => ((spec_l1DrawNode.f k s0_0 bt309.2.1 bt309.2.2 3).bind fun bt315 => (if t312.length < 5864062014805 then (spec_l1DrawAny.j0 k s0_0 bt315.2.2.2.1 bt315.2.2.2.2 (t312 ++ [(⟨bt315.1, bt315.2.1, bt315.2.2.1⟩ : S34)])) else (none)))) else (if bt309.1 = 1 then ((spec_l1Copy.f bt303.1).bind fun t323 => ((spec_l1Below.f s0_0 bt309.2.1 bt309.2.2 10).bind fun bt326 => ((spec_l1Below.f s0_0 bt326.2.1 bt326.2.2 30).bind fun bt329 => ((spec_l1Below.f s0_0 bt329.2.1 bt329.2.2 30).bind fun bt332 => (if t323.length < 5864062014805 then (spec_l1DrawAny.j0 k s0_0 bt332.2.1 bt332.2.2 (t323 ++ [(⟨bt326.1, wrap64 (bt329.1 - 1), wrap64 (bt332.1 - 1)⟩ : S34)])) else (none)))))) else (spec_l1DrawAny.j0 k s0_0 bt309.2.1 bt309.2.2 bt303.1))))) = some (r1, r2, r3) := h
 clear h
 replace H := Option.bind_eq_some_iff.mp H
 obtain ⟨⟨t303, t306, t307⟩, A20, H⟩ := H
 replace H : ((spec_l1Below.f s0_0 t306 t307 25).bind fun bt309 => (if bt309.1 = 0 then ((spec_l1Copy.f t303).bind fun t312 => ((spec_l1DrawNode.f k s0_0 bt309.2.1 bt309.2.2 3).bind fun bt315 => (if t312.length < 5864062014805 then (spec_l1DrawAny.j0 k s0_0 bt315.2.2.2.1 bt315.2.2.2.2 (t312 ++ [(⟨bt315.1, bt315.2.1, bt315.2.2.1⟩ : S34)])) else (none)))) else (if bt309.1 = 1 then ((spec_l1Copy.f t303).bind fun t323 => ((spec_l1Below.f s0_0 bt309.2.1 bt309.2.2 10).bind fun bt326 => ((spec_l1Below.f s0_0 bt326.2.1 bt326.2.2 30).bind fun bt329 => ((spec_l1Below.f s0_0 bt329.2.1 bt329.2.2 30).bind fun bt332 => (if t323.length < 5864062014805 then (spec_l1DrawAny.j0 k s0_0 bt332.2.1 bt332.2.2 (t323 ++ [(⟨bt326.1, wrap64 (bt329.1 - 1), wrap64 (bt332.1 - 1)⟩ : S34)])) else (none)))))) else (spec_l1DrawAny.j0 k s0_0 bt309.2.1 bt309.2.2 t303)))) = some (r1, r2, r3) := H
 have A2 := Aside0.mk A20
 clear A20
 replace H := Option.bind_eq_some_iff.mp H
 obtain ⟨⟨t309, t310, t311⟩, A30, H⟩ := H
 replace H : (if t309 = 0 then ((spec_l1Copy.f t303).bind fun t312 => ((spec_l1DrawNode.f k s0_0 t310 t311 3).bind fun bt315 => (if t312.length < 5864062014805 then (spec_l1DrawAny.j0 k s0_0 bt315.2.2.2.1 bt315.2.2.2.2 (t312 ++ [(⟨bt315.1, bt315.2.1, bt315.2.2.1⟩ : S34)])) else (none)))) else (if t309 = 1 then ((spec_l1Copy.f t303).bind fun t323 => ((spec_l1Below.f s0_0 t310 t311 10).bind fun bt326 => ((spec_l1Below.f s0_0 bt326.2.1 bt326.2.2 30).bind fun bt329 => ((spec_l1Below.f s0_0 bt329.2.1 bt329.2.2 30).bind fun bt332 => (if t323.length < 5864062014805 then (spec_l1DrawAny.j0 k s0_0 bt332.2.1 bt332.2.2 (t323 ++ [(⟨bt326.1, wrap64 (bt329.1 - 1), wrap64 (bt332.1 - 1)⟩ : S34)])) else (none)))))) else (spec_l1DrawAny.j0 k s0_0 t310 t311 t303))) = some (r1, r2, r3) := H
 have A3 := Aside0.mk A30
 clear A30
 have HC4 := Aside0.mk H
 clear H
 have hfldP := fldP_
 go_enter Try.func77, Try.ntmps77
 go_upto_block 0 with (first | ((with_reducible refine gate_dst (N := 2) rfl ?_); refine box_event ?hg (N := 2) ?hd (cs := #[.slice none 0 0]) (t := 30) ?hr ?_; (case hd => rfl); (case hg => rfl); (case hr => first | (go_simp; done) | (go_simp; rfl)); intro gb302 hg w5 hbox hb; have n0_ := Aside0.mk (IsS89.below (by repeat (first | (with_reducible first | exact HI0.out | apply IsS89.alloc | apply IsS89.drewN | apply IsS89.drew | apply IsS89.set_1 | apply IsS89.set_2) | exact HI0.out)) hb); have n1_ := Aside0.mk (KeepBut.trans (by repeat (first | (with_reducible first | exact HK.out | apply KeepBut.set_ | apply keep_drewN | apply keep_drew | apply keep_alloc) | exact HK.out)) (KeepBut.of_below hb g none) (.inl rfl)); have n2_ := Aside0.mk (below_step (by repeat (first | (with_reducible first | exact HB.out | apply below_alloc | apply pw_below_drewN | apply below_drew1 | refine below_set ?_ (IsS89.ge HI0.out)) | exact HB.out)) hb); have n3_ := Aside0.mk (hbox); have n4_ := Aside0.mk ((by rw [hg]; exact (keep_size (w := w) (g := g) (row := none) (by repeat (first | (with_reducible first | exact HK.out | apply KeepBut.set_ | apply keep_drewN | apply keep_drew | apply keep_alloc) | exact HK.out))) : w.heap.size ≤ gb302)); have n5_ := Aside0.mk ((Nat.le_trans HW0.out (by rw [hg]; exact (keep_size (w := w) (g := g) (row := none) (by repeat (first | (with_reducible first | exact HK.out | apply KeepBut.set_ | apply keep_drewN | apply keep_drew | apply keep_alloc) | exact HK.out))) : w.heap.size ≤ gb302) : w0.heap.size ≤ gb302)); have n6_ := Aside0.mk ((by rw [hg]; exact Nat.ne_of_lt (IsS89.lt (show IsS89 w0 _ g s0_0 s0_1 s0_2 from by repeat (first | (with_reducible first | exact HI0.out | apply IsS89.alloc | apply IsS89.drewN | apply IsS89.drew | apply IsS89.set_1 | apply IsS89.set_2) | exact HI0.out))) : g ≠ gb302)); have n7_ := Aside0.mk ((by rw [hg]; exact Nat.ne_of_gt (IsS89.lt (show IsS89 w0 _ g s0_0 s0_1 s0_2 from by repeat (first | (with_reducible first | exact HI0.out | apply IsS89.alloc | apply IsS89.drewN | apply IsS89.drew | apply IsS89.set_1 | apply IsS89.set_2) | exact HI0.out))) : gb302 ≠ g)); clear HI0; clear HK; clear HB; have HI0 := n0_; have HK := n1_; have HB := n2_; have BK302 := n3_; have GW302 := n4_; have GE302 := n5_; have NB0_302 := n6_; have NB302_0 := n7_; clear n0_ n1_ n2_ n3_ n4_ n5_ n6_ n7_; clear hb hbox hg) | ((with_reducible refine gate_callee (f := 100) rfl ?_); refine goesL_ (some 5) rfl rfl Try.func100 (by kernel_rfl) rfl #[.pointer (some ⟨g, 0, none⟩), .int .i64 24] rfl zl ?_; (with_reducible refine (spec_l1DrawPool.calls k g s0_0 s0_1 s0_2 24 t303 t306 t307 w0 _ ?side1 ?side2 A2.out).mono ?_); (case side1 => repeat (first | (with_reducible first | exact HI0.out | apply IsS89.alloc | apply IsS89.drewN | apply IsS89.drew | apply IsS89.set_1 | apply IsS89.set_2 | refine IsS89.far ?_ NB0_302.out _) | exact HI0.out)); (case side2 => repeat (first | (with_reducible first | exact HB.out | apply below_alloc | apply pw_below_drewN | apply below_drew1 | refine below_set ?_ (IsS89.ge HI0.out) | refine below_set ?_ GE302.out) | exact HB.out)); rintro e w6 ⟨v304, rfl, ho0, hi, hb, hk⟩; refine ⟨_, rfl, ?_⟩; have n0_ := Aside0.mk (KeepBut.blk hk (g' := gb302) (o := .cells #[.slice none 0 0] 30 (0, 0)) (zh BK302.out) NB302_0.out (by simp)); have n1_ := Aside0.mk (Kd.R_lower ho0 (keep_size (w := w) (g := g) (row := none) (by repeat (first | (with_reducible first | exact HK.out | apply KeepBut.set_ | apply keep_drewN | apply keep_drew | apply keep_alloc | refine keep_far ?_ GW302.out _) | exact HK.out)))); have n2_ := Aside0.mk (KeepBut.trans (by repeat (first | (with_reducible first | exact HK.out | apply KeepBut.set_ | apply keep_drewN | apply keep_drew | apply keep_alloc | refine keep_far ?_ GW302.out _) | exact HK.out)) hk (.inl rfl)); have n3_ := Aside0.mk (hb); have n4_ := Aside0.mk (hi); clear BK302; clear HK; clear HB; clear HI0; have BK302 := n0_; have HO305 := n1_; have HK := n2_; have HB := n3_; have HI0 := n4_; clear n0_ n1_ n2_ n3_ n4_; (try clear hb); (try clear hb2); (try clear hk); (try clear hi); (try clear ho0)) | ((with_reducible refine gate_dst (N := 3) rfl ?_); refine box_event ?hg (N := 3) ?hd (cs := #[.slice none 0 0]) (t := 30) ?hr ?_; (case hd => rfl); (case hg => rfl); (case hr => first | (go_simp; done) | (go_simp; rfl)); intro gb308 hg w7 hbox hb; have n0_ := Aside0.mk (Kd.R_below (zr HO305.out) hb); have n1_ := Aside0.mk (IsS89.below (by repeat (first | (with_reducible first | exact HI0.out | apply IsS89.alloc | apply IsS89.drewN | apply IsS89.drew | apply IsS89.set_1 | apply IsS89.set_2 | refine IsS89.far ?_ NB0_302.out _) | exact HI0.out)) hb); have n2_ := Aside0.mk (blk_below (zh BK302.out) hb); have n3_ := Aside0.mk (KeepBut.trans (by repeat (first | (with_reducible first | exact HK.out | apply KeepBut.set_ | apply keep_drewN | apply keep_drew | apply keep_alloc | refine keep_far ?_ GW302.out _) | exact HK.out)) (KeepBut.of_below hb g none) (.inl rfl)); have n4_ := Aside0.mk (below_step (by repeat (first | (with_reducible first | exact HB.out | apply below_alloc | apply pw_below_drewN | apply below_drew1 | refine below_set ?_ (IsS89.ge HI0.out) | refine below_set ?_ GE302.out) | exact HB.out)) hb); have n5_ := Aside0.mk (hbox); have n6_ := Aside0.mk ((by rw [hg]; exact (keep_size (w := w) (g := g) (row := none) (by repeat (first | (with_reducible first | exact HK.out | apply KeepBut.set_ | apply keep_drewN | apply keep_drew | apply keep_alloc | refine keep_far ?_ GW302.out _) | exact HK.out))) : w.heap.size ≤ gb308)); have n7_ := Aside0.mk ((Nat.le_trans HW0.out (by rw [hg]; exact (keep_size (w := w) (g := g) (row := none) (by repeat (first | (with_reducible first | exact HK.out | apply KeepBut.set_ | apply keep_drewN | apply keep_drew | apply keep_alloc | refine keep_far ?_ GW302.out _) | exact HK.out))) : w.heap.size ≤ gb308) : w0.heap.size ≤ gb308)); have n8_ := Aside0.mk ((by rw [hg]; exact Nat.ne_of_lt (blk_lt (zh BK302.out)) : gb302 ≠ gb308)); have n9_ := Aside0.mk ((by rw [hg]; exact Nat.ne_of_gt (blk_lt (zh BK302.out)) : gb308 ≠ gb302)); have n10_ := Aside0.mk ((by rw [hg]; exact Nat.ne_of_lt (IsS89.lt (show IsS89 w0 _ g s0_0 t306 t307 from by repeat (first | (with_reducible first | exact HI0.out | apply IsS89.alloc | apply IsS89.drewN | apply IsS89.drew | apply IsS89.set_1 | apply IsS89.set_2 | refine IsS89.far ?_ NB0_302.out _) | exact HI0.out))) : g ≠ gb308)); have n11_ := Aside0.mk ((by rw [hg]; exact Nat.ne_of_gt (IsS89.lt (show IsS89 w0 _ g s0_0 t306 t307 from by repeat (first | (with_reducible first | exact HI0.out | apply IsS89.alloc | apply IsS89.drewN | apply IsS89.drew | apply IsS89.set_1 | apply IsS89.set_2 | refine IsS89.far ?_ NB0_302.out _) | exact HI0.out))) : gb308 ≠ g)); clear HO305; clear HI0; clear BK302; clear HK; clear HB; have HO305 := n0_; have HI0 := n1_; have BK302 := n2_; have HK := n3_; have HB := n4_; have BK308 := n5_; have GW308 := n6_; have GE308 := n7_; have NB302_308 := n8_; have NB308_302 := n9_; have NB0_308 := n10_; have NB308_0 := n11_; clear n0_ n1_ n2_ n3_ n4_ n5_ n6_ n7_ n8_ n9_ n10_ n11_; clear hb hbox hg; obtain ⟨Ao8, co8, eo8⟩ := Kd.R_slice HO305.out; subst eo8; have hnb9 := NB308_302.out; have hnc9 := NB302_308.out; have hnb10 := NB308_0.out; have hnc10 := NB0_308.out; have hcz11_0 : w7.cell? ⟨gb308, 0, none⟩ = some (.slice none 0 0) := (blk_cell BK308.out 0).trans rfl; have hfz11_0 := blk_frozen BK308.out 0) | ((with_reducible refine gate_callee (f := 79) rfl ?_); refine goesL_ (some 7) rfl rfl Try.func79 (by kernel_rfl) rfl #[.pointer (some ⟨g, 0, none⟩), .int .i64 25] rfl zl ?_; (with_reducible refine (spec_l1Below.calls g s0_0 t306 t307 25 t309 t310 t311 w0 _ ?side1 ?side2 A3.out).mono ?_); (case side1 => repeat (first | (with_reducible first | exact HI0.out | apply IsS89.alloc | apply IsS89.drewN | apply IsS89.drew | apply IsS89.set_1 | apply IsS89.set_2 | refine IsS89.far ?_ NB0_302.out _ | refine IsS89.far ?_ NB0_308.out _) | exact HI0.out)); (case side2 => repeat (first | (with_reducible first | exact HB.out | apply below_alloc | apply pw_below_drewN | apply below_drew1 | refine below_set ?_ (IsS89.ge HI0.out) | refine below_set ?_ GE302.out | refine below_set ?_ GE308.out) | exact HB.out)); rintro e w12 ⟨rfl, hi, hb, hk⟩; refine ⟨_, rfl, ?_⟩; have n0_ := Aside0.mk (KeepBut.blk hk (g' := gb302) (o := .cells #[.slice none 0 0] 30 (0, 0)) (zf BK302.out) NB302_0.out (by simp)); have n1_ := Aside0.mk (Kd.R_mono (Kd.R_keep (IsS89.apart (show IsS89 w0 _ g s0_0 t306 t307 from by repeat (first | (with_reducible first | exact HI0.out | apply IsS89.alloc | apply IsS89.drewN | apply IsS89.drew | apply IsS89.set_1 | apply IsS89.set_2 | refine IsS89.far ?_ NB0_302.out _ | refine IsS89.far ?_ NB0_308.out _) | exact HI0.out)) (by (with_reducible repeat (first | apply Kd.R_alloc | apply Kd.R_drewN | apply Kd.R_drew)); exact (Kd.R_mono (Kd.R_far (p := ⟨gb308, 0, none⟩) (Kd.R_types HO305.out BK308.out (by decide)) (fun _ hk => hk.2) (.slice Ao8 t303.length co8)) (fun _ h_ => h_.1))) (by decide)) hk (fun _ h => h.2)) (fun _ h => h.1)); have n2_ := Aside0.mk (KeepBut.blk hk (g' := gb308) (o := .cells #[.slice Ao8 t303.length co8] 30 (0, 0)) (by (with_reducible repeat (first | refine blk_drewN ?_ _ | refine blk_drew ?_ | refine blk_alloc ?_ _)); refine blk_put (cs := #[.slice none 0 0]) ?_ 0 _ rfl; (with_reducible repeat (first | refine blk_drewN ?_ _ | refine blk_drew ?_ | refine blk_alloc ?_ _)); exact BK308.out) NB308_0.out (by simp)); have n3_ := Aside0.mk (KeepBut.trans (by repeat (first | (with_reducible first | exact HK.out | apply KeepBut.set_ | apply keep_drewN | apply keep_drew | apply keep_alloc | refine keep_far ?_ GW302.out _ | refine keep_far ?_ GW308.out _) | exact HK.out)) hk (.inl rfl)); have n4_ := Aside0.mk (hb); have n5_ := Aside0.mk (hi); clear BK302; clear HO305; clear BK308; clear HK; clear HB; clear HI0; have BK302 := n0_; have HO305 := n1_; have BK308 := n2_; have HK := n3_; have HB := n4_; have HI0 := n5_; clear n0_ n1_ n2_ n3_ n4_ n5_; (try clear hb); (try clear hb2); (try clear hk); (try clear hi)))
 (try simp only [Act.put, List.setIfInBounds_toArray, List.set_cons_zero, List.set_cons_succ])
 go_cut [] (fun wc => ∃ (kq : Nat) (x1001_3 : Int) (x1002_3 : Int) (x309000_3 : List (S34)) (u309000 : Value), Aside0 (spec_l1DrawAny.j0 kq s0_0 x1001_3 x1002_3 x309000_3 = some (r1, r2, r3)) ∧ Aside0 (kq ≤ k) ∧ Aside0 (Kd.R k34 34 wc w.heap.size (fun _ => True) u309000 x309000_3) ∧ Aside0 (wc.heap[gb302]? = some (.cells #[(.slice none 0 0)] 30 (0, 0))) ∧ Aside0 (wc.heap[gb308]? = some (.cells #[u309000] 30 (0, 0))) ∧ Aside0 (IsS89 w0 wc g s0_0 x1001_3 x1002_3) ∧ Aside0 (KeepBut w wc g none) ∧ Aside0 (Below w0.heap.size w0 wc))
 case first =>
  have H := HC4.out
  clear HC4
  by_cases c13 : t309 = 0
  ·rw [if_pos c13] at H
   have c13b0 : (t309 == 0) = true := beq_iff_eq.mpr c13
   have c13b1 : (t309 != 0) = false := bne_eq_false_iff_eq.mpr c13
   clear c13
   (first | rw [c13b0] | (simp only [i64_w, i32_w]; rw [c13b0]) | skip)
   replace H := Option.bind_eq_some_iff.mp H
   obtain ⟨t312, A140, H⟩ := H
   replace H : ((spec_l1DrawNode.f k s0_0 t310 t311 3).bind fun bt315 => (if t312.length < 5864062014805 then (spec_l1DrawAny.j0 k s0_0 bt315.2.2.2.1 bt315.2.2.2.2 (t312 ++ [(⟨bt315.1, bt315.2.1, bt315.2.2.1⟩ : S34)])) else (none))) = some (r1, r2, r3) := H
   have A14 := Aside0.mk A140
   clear A140
   replace H := Option.bind_eq_some_iff.mp H
   obtain ⟨⟨t315, t316, t317, t318, t319⟩, A150, H⟩ := H
   replace H : (if t312.length < 5864062014805 then (spec_l1DrawAny.j0 k s0_0 t318 t319 (t312 ++ [(⟨t315, t316, t317⟩ : S34)])) else (none)) = some (r1, r2, r3) := H
   have A15 := Aside0.mk A150
   clear A150
   by_cases c16 : t312.length < 5864062014805
   ·rw [if_pos c16] at H
    have LMc16 := Aside0.mk c16
    clear c16
    obtain ⟨y320, hy320⟩ : ∃ y_ : List (S34), y_ = (t312 ++ [(⟨t315, t316, t317⟩ : S34)]) := ⟨_, rfl⟩
    replace H : (spec_l1DrawAny.j0 k s0_0 t318 t319 y320) = some (r1, r2, r3) := by first | (rw [hy320]; with_reducible exact H) | (have H2_ := (Option.bind_some _ _).symm.trans H; rw [hy320]; with_reducible exact H2_) | (have H2_ := (Option.bind_some _ _).symm.trans H; with_reducible exact H2_) | with_reducible exact H | (rw [hy320]; exact H) | exact H
    have Ny320 := Aside0.mk hy320
    clear hy320
    have H' := Aside0.mk H
    clear H
    have hnb17 := NB308_302.out
    have hnc17 := NB302_308.out
    have hnb18 := NB308_0.out
    have hnc18 := NB0_308.out
    have hcz19_0 : w12.cell? ⟨gb308, 0, none⟩ = some (.slice Ao8 t303.length co8) := (blk_cell BK308.out 0).trans rfl
    have hfz19_0 := blk_frozen BK308.out 0
    go_wp2_with (first | ((with_reducible refine gate_callee (f := 59) rfl ?_); refine goesL_ (some 11) rfl rfl Try.func59 (by kernel_rfl) rfl #[.agg #[.slice Ao8 t303.length co8]] rfl zl ?_; (with_reducible refine (spec_l1Copy.calls _ _ t303 t312 _ ?side1 ?side2 A14.out).mono ?_); (case side1 => exact zc (Kd.R_reads' HO305.out).2.2); (case side2 => exact (Kd.R_reads' HO305.out).2.1); rintro e w20 ⟨v313, rfl, ho0, hb⟩; refine ⟨_, rfl, ?_⟩; have n0_ := Aside0.mk (Kd.R_elder' (zr HO305.out) (Kd.R_base ho0) hb); have n1_ := Aside0.mk (Kd.R_lower (Kd.R_new' ho0 (Kd.R_lt (zr HO305.out))) (keep_size (w := w) (g := g) (row := none) (by repeat (first | (with_reducible first | exact HK.out | apply KeepBut.set_ | apply keep_drewN | apply keep_drew | apply keep_alloc | refine keep_far ?_ GW302.out _ | refine keep_far ?_ GW308.out _) | exact HK.out)))); have n2_ := Aside0.mk (IsS89.below (by repeat (first | (with_reducible first | exact HI0.out | apply IsS89.alloc | apply IsS89.drewN | apply IsS89.drew | apply IsS89.set_1 | apply IsS89.set_2 | refine IsS89.far ?_ NB0_302.out _ | refine IsS89.far ?_ NB0_308.out _) | exact HI0.out)) hb); have n3_ := Aside0.mk (blk_below (zh BK302.out) hb); have n4_ := Aside0.mk (blk_below (zh BK308.out) hb); have n5_ := Aside0.mk (KeepBut.trans (by repeat (first | (with_reducible first | exact HK.out | apply KeepBut.set_ | apply keep_drewN | apply keep_drew | apply keep_alloc | refine keep_far ?_ GW302.out _ | refine keep_far ?_ GW308.out _) | exact HK.out)) (KeepBut.of_below hb g none) (.inl rfl)); have n6_ := Aside0.mk (below_step (by repeat (first | (with_reducible first | exact HB.out | apply below_alloc | apply pw_below_drewN | apply below_drew1 | refine below_set ?_ (IsS89.ge HI0.out) | refine below_set ?_ GE302.out | refine below_set ?_ GE308.out) | exact HB.out)) hb); clear HO305; clear HI0; clear BK302; clear BK308; clear HK; clear HB; have HO305 := n0_; have HO314 := n1_; have HI0 := n2_; have BK302 := n3_; have BK308 := n4_; have HK := n5_; have HB := n6_; clear n0_ n1_ n2_ n3_ n4_ n5_ n6_; (try clear hb); (try clear hb2); (try clear hk); (try clear hi); (try clear ho0)) | ((with_reducible refine gate_callee (f := 78) rfl ?_); refine goesL_ (some 14) rfl rfl Try.func78 (by kernel_rfl) rfl #[.pointer (some ⟨g, 0, none⟩), .int .i64 3] rfl zl ?_; (with_reducible refine (spec_l1DrawNode.calls k g s0_0 t310 t311 3 t315 t316 t317 t318 t319 w0 _ ?side1 ?side2 A15.out).mono ?_); (case side1 => repeat (first | (with_reducible first | exact HI0.out | apply IsS89.alloc | apply IsS89.drewN | apply IsS89.drew | apply IsS89.set_1 | apply IsS89.set_2 | refine IsS89.far ?_ NB0_302.out _ | refine IsS89.far ?_ NB0_308.out _) | exact HI0.out)); (case side2 => repeat (first | (with_reducible first | exact HB.out | apply below_alloc | apply pw_below_drewN | apply below_drew1 | refine below_set ?_ (IsS89.ge HI0.out) | refine below_set ?_ GE302.out | refine below_set ?_ GE308.out) | exact HB.out)); rintro e w21 ⟨rfl, hi, hb, hk⟩; refine ⟨_, rfl, ?_⟩; have n0_ := Aside0.mk (KeepBut.blk hk (g' := gb302) (o := .cells #[.slice none 0 0] 30 (0, 0)) (zh BK302.out) NB302_0.out (by simp)); have n1_ := Aside0.mk (Kd.R_mono (Kd.R_keep (IsS89.apart (show IsS89 w0 _ g s0_0 t310 t311 from by repeat (first | (with_reducible first | exact HI0.out | apply IsS89.alloc | apply IsS89.drewN | apply IsS89.drew | apply IsS89.set_1 | apply IsS89.set_2 | refine IsS89.far ?_ NB0_302.out _ | refine IsS89.far ?_ NB0_308.out _) | exact HI0.out)) (zr HO305.out) (by decide)) hk (fun _ h => h.2)) (fun _ h => h.1)); have n2_ := Aside0.mk (KeepBut.blk hk (g' := gb308) (o := .cells #[.slice Ao8 t303.length co8] 30 (0, 0)) (zh BK308.out) NB308_0.out (by simp)); have n3_ := Aside0.mk (Kd.R_mono (Kd.R_keep (IsS89.apart (show IsS89 w0 _ g s0_0 t310 t311 from by repeat (first | (with_reducible first | exact HI0.out | apply IsS89.alloc | apply IsS89.drewN | apply IsS89.drew | apply IsS89.set_1 | apply IsS89.set_2 | refine IsS89.far ?_ NB0_302.out _ | refine IsS89.far ?_ NB0_308.out _) | exact HI0.out)) (zr HO314.out) (by decide)) hk (fun _ h => h.2)) (fun _ h => h.1)); have n4_ := Aside0.mk (KeepBut.trans (by repeat (first | (with_reducible first | exact HK.out | apply KeepBut.set_ | apply keep_drewN | apply keep_drew | apply keep_alloc | refine keep_far ?_ GW302.out _ | refine keep_far ?_ GW308.out _) | exact HK.out)) hk (.inl rfl)); have n5_ := Aside0.mk (hb); have n6_ := Aside0.mk (hi); clear BK302; clear HO305; clear BK308; clear HO314; clear HK; clear HB; clear HI0; have BK302 := n0_; have HO305 := n1_; have BK308 := n2_; have HO314 := n3_; have HK := n4_; have HB := n5_; have HI0 := n6_; clear n0_ n1_ n2_ n3_ n4_ n5_ n6_; (try clear hb); (try clear hb2); (try clear hk); (try clear hi)) | ((with_reducible refine gate_builtin (b := .append) (xs := #[.tmp 12, .tmp 15]) rfl ?_); at_builtin; refine Kd.R_append k34 w.heap.size rfl (.tmp 12) (.tmp 15) 28 34 (.agg #[(.int .i64 0), (.int .i64 0), (.int .i64 0)]) 24 rfl Try.underlying28 info34 rfl (by decide) (by omega) v313 t312 (⟨t315, t316, t317⟩ : S34) [.int .i64 t315, .int .i64 t316, .int .i64 t317] (fun k_ => some k_ ≠ (.slice Ao8 t303.length co8 : Value).ownBlock) (fun _ => False) rfl rfl ?aP (fun _ hk => hk.elim) ?aF ?aO (Below.refl _ _) ?aS ?aL ?_; (case aP => exact k34_mkM _ _ _ (⟨t315, t316, t317⟩ : S34)); (case aF => exact (fun k_ hk => Kd.fresh' (Kd.R_lt (zr HO305.out)) k_ hk)); (case aO => exact (by (with_reducible repeat (first | apply Kd.R_alloc | apply Kd.R_drewN | apply Kd.R_drew)); exact Kd.R_mono HO314.out (fun _ hk => hk.2))); (case aS => exact (keep_size (w := w) (g := g) (row := none) (by repeat (first | (with_reducible first | exact HK.out | apply KeepBut.set_ | apply keep_drewN | apply keep_drew | apply keep_alloc | refine keep_far ?_ GW302.out _ | refine keep_far ?_ GW308.out _) | exact HK.out)))); (case aL => have := LMc16.out; omega); intro v321 w22 ho hb hg hat; rw [← Ny320.out] at ho; have n0_ := Aside0.mk (IsS89.grown (by repeat (first | (with_reducible first | exact HI0.out | apply IsS89.alloc | apply IsS89.drewN | apply IsS89.drew | apply IsS89.set_1 | apply IsS89.set_2 | refine IsS89.far ?_ NB0_302.out _ | refine IsS89.far ?_ NB0_308.out _) | exact HI0.out)) hg (IsS89.own_ne HI0.out HO314.out (by decide))); have n1_ := Aside0.mk (blk_grown (zh BK302.out) hg (Kd.R_ne HO314.out BK302.out (by decide))); have n2_ := Aside0.mk (Kd.R_after (ok := (fun _ => True)) (zr HO305.out) hg hat); have n3_ := Aside0.mk (blk_grown (zh BK308.out) hg (Kd.R_ne HO314.out BK308.out (by decide))); have n4_ := Aside0.mk (below_weaken (by repeat (first | (with_reducible first | exact HB.out | apply below_alloc | apply pw_below_drewN | apply below_drew1 | refine below_set ?_ (IsS89.ge HI0.out) | refine below_set ?_ GE302.out | refine below_set ?_ GE308.out) | exact HB.out)) HL.out hb); have n5_ := Aside0.mk (KeepBut.trans (by repeat (first | (with_reducible first | exact HK.out | apply KeepBut.set_ | apply keep_drewN | apply keep_drew | apply keep_alloc | refine keep_far ?_ GW302.out _ | refine keep_far ?_ GW308.out _) | exact HK.out)) (KeepBut.of_grown hg g) (Kd.R_base2 HO314.out)); have n6_ := Aside0.mk (ho); clear HI0; clear BK302; clear HO305; clear BK308; clear HB; clear HK; clear HO314; have HI0 := n0_; have BK302 := n1_; have HO305 := n2_; have BK308 := n3_; have HB := n4_; have HK := n5_; have HO322 := n6_; clear n0_ n1_ n2_ n3_ n4_ n5_ n6_; clear ho hb hg hat; obtain ⟨Ao23, co23, eo23⟩ := Kd.R_slice HO322.out; subst eo23; have hcz24_0 : w22.cell? ⟨gb308, 0, none⟩ = some (.slice Ao8 t303.length co8) := (blk_cell BK308.out 0).trans rfl; have hfz24_0 := blk_frozen BK308.out 0))
    go_meet
    case rel => exact ⟨_, (t318), (t319), (y320), (.slice Ao23 y320.length co23), H', ⟨by first | omega | exact Nat.le_refl _⟩, ⟨zr (Kd.R_mono (Kd.R_far (p := ⟨gb308, 0, none⟩) (Kd.R_types HO322.out BK308.out (by decide)) (fun _ hk => hk.2) (.slice Ao23 y320.length co23)) (fun _ hk => trivial))⟩, ⟨zf BK302.out⟩, ⟨by (with_reducible repeat (first | refine blk_drewN ?_ _ | refine blk_drew ?_ | refine blk_alloc ?_ _)); refine blk_put (cs := #[.slice Ao8 t303.length co8]) ?_ 0 _ rfl; (with_reducible repeat (first | refine blk_drewN ?_ _ | refine blk_drew ?_ | refine blk_alloc ?_ _)); exact BK308.out⟩, ⟨by repeat (first | (with_reducible first | exact HI0.out | apply IsS89.alloc | apply IsS89.drewN | apply IsS89.drew | apply IsS89.set_1 | apply IsS89.set_2 | refine IsS89.far ?_ NB0_302.out _ | refine IsS89.far ?_ NB0_308.out _) | exact HI0.out)⟩, ⟨by repeat (first | (with_reducible first | exact HK.out | apply KeepBut.set_ | apply keep_drewN | apply keep_drew | apply keep_alloc | refine keep_far ?_ GW302.out _ | refine keep_far ?_ GW308.out _) | exact HK.out)⟩, ⟨by repeat (first | (with_reducible first | exact HB.out | apply below_alloc | apply pw_below_drewN | apply below_drew1 | refine below_set ?_ (IsS89.ge HI0.out) | refine below_set ?_ GE302.out | refine below_set ?_ GE308.out) | exact HB.out)⟩⟩
   ·rw [if_neg c16] at H
    exact absurd H (by simp)
  ·rw [if_neg c13] at H
   have c13b0 : (t309 == 0) = false := beq_eq_false_iff_ne.mpr c13
   have c13b1 : (t309 != 0) = true := bne_iff_ne.mpr c13
   (first | rw [c13b0] | (simp only [i64_w, i32_w]; rw [c13b0]) | skip)
   by_cases c25 : t309 = 1
   ·rw [if_pos c25] at H
    have c25b0 : (t309 == 1) = true := beq_iff_eq.mpr c25
    have c25b1 : (t309 != 1) = false := bne_eq_false_iff_eq.mpr c25
    clear c25
    replace H := Option.bind_eq_some_iff.mp H
    obtain ⟨t323, A260, H⟩ := H
    replace H : ((spec_l1Below.f s0_0 t310 t311 10).bind fun bt326 => ((spec_l1Below.f s0_0 bt326.2.1 bt326.2.2 30).bind fun bt329 => ((spec_l1Below.f s0_0 bt329.2.1 bt329.2.2 30).bind fun bt332 => (if t323.length < 5864062014805 then (spec_l1DrawAny.j0 k s0_0 bt332.2.1 bt332.2.2 (t323 ++ [(⟨bt326.1, wrap64 (bt329.1 - 1), wrap64 (bt332.1 - 1)⟩ : S34)])) else (none))))) = some (r1, r2, r3) := H
    have A26 := Aside0.mk A260
    clear A260
    replace H := Option.bind_eq_some_iff.mp H
    obtain ⟨⟨t326, t327, t328⟩, A270, H⟩ := H
    replace H : ((spec_l1Below.f s0_0 t327 t328 30).bind fun bt329 => ((spec_l1Below.f s0_0 bt329.2.1 bt329.2.2 30).bind fun bt332 => (if t323.length < 5864062014805 then (spec_l1DrawAny.j0 k s0_0 bt332.2.1 bt332.2.2 (t323 ++ [(⟨t326, wrap64 (bt329.1 - 1), wrap64 (bt332.1 - 1)⟩ : S34)])) else (none)))) = some (r1, r2, r3) := H
    have A27 := Aside0.mk A270
    clear A270
    replace H := Option.bind_eq_some_iff.mp H
    obtain ⟨⟨t329, t330, t331⟩, A280, H⟩ := H
    replace H : ((spec_l1Below.f s0_0 t330 t331 30).bind fun bt332 => (if t323.length < 5864062014805 then (spec_l1DrawAny.j0 k s0_0 bt332.2.1 bt332.2.2 (t323 ++ [(⟨t326, wrap64 (t329 - 1), wrap64 (bt332.1 - 1)⟩ : S34)])) else (none))) = some (r1, r2, r3) := H
    have A28 := Aside0.mk A280
    clear A280
    replace H := Option.bind_eq_some_iff.mp H
    obtain ⟨⟨t332, t333, t334⟩, A290, H⟩ := H
    replace H : (if t323.length < 5864062014805 then (spec_l1DrawAny.j0 k s0_0 t333 t334 (t323 ++ [(⟨t326, wrap64 (t329 - 1), wrap64 (t332 - 1)⟩ : S34)])) else (none)) = some (r1, r2, r3) := H
    have A29 := Aside0.mk A290
    clear A290
    by_cases c30 : t323.length < 5864062014805
    ·rw [if_pos c30] at H
     have LMc30 := Aside0.mk c30
     clear c30
     obtain ⟨y335, hy335⟩ : ∃ y_ : List (S34), y_ = (t323 ++ [(⟨t326, wrap64 (t329 - 1), wrap64 (t332 - 1)⟩ : S34)]) := ⟨_, rfl⟩
     replace H : (spec_l1DrawAny.j0 k s0_0 t333 t334 y335) = some (r1, r2, r3) := by first | (rw [hy335]; with_reducible exact H) | (have H2_ := (Option.bind_some _ _).symm.trans H; rw [hy335]; with_reducible exact H2_) | (have H2_ := (Option.bind_some _ _).symm.trans H; with_reducible exact H2_) | with_reducible exact H | (rw [hy335]; exact H) | exact H
     have Ny335 := Aside0.mk hy335
     clear hy335
     have H' := Aside0.mk H
     clear H
     have hnb31 := NB308_302.out
     have hnc31 := NB302_308.out
     have hnb32 := NB308_0.out
     have hnc32 := NB0_308.out
     have hcz33_0 : w12.cell? ⟨gb308, 0, none⟩ = some (.slice Ao8 t303.length co8) := (blk_cell BK308.out 0).trans rfl
     have hfz33_0 := blk_frozen BK308.out 0
     go_wp2_with (first | ((with_reducible refine gate_callee (f := 59) rfl ?_); refine goesL_ (some 21) rfl rfl Try.func59 (by kernel_rfl) rfl #[.agg #[.slice Ao8 t303.length co8]] rfl zl ?_; (with_reducible refine (spec_l1Copy.calls _ _ t303 t323 _ ?side1 ?side2 A26.out).mono ?_); (case side1 => exact zc (Kd.R_reads' HO305.out).2.2); (case side2 => exact (Kd.R_reads' HO305.out).2.1); rintro e w34 ⟨v324, rfl, ho0, hb⟩; refine ⟨_, rfl, ?_⟩; have n0_ := Aside0.mk (Kd.R_elder' (zr HO305.out) (Kd.R_base ho0) hb); have n1_ := Aside0.mk (Kd.R_lower (Kd.R_new' ho0 (Kd.R_lt (zr HO305.out))) (keep_size (w := w) (g := g) (row := none) (by repeat (first | (with_reducible first | exact HK.out | apply KeepBut.set_ | apply keep_drewN | apply keep_drew | apply keep_alloc | refine keep_far ?_ GW302.out _ | refine keep_far ?_ GW308.out _) | exact HK.out)))); have n2_ := Aside0.mk (IsS89.below (by repeat (first | (with_reducible first | exact HI0.out | apply IsS89.alloc | apply IsS89.drewN | apply IsS89.drew | apply IsS89.set_1 | apply IsS89.set_2 | refine IsS89.far ?_ NB0_302.out _ | refine IsS89.far ?_ NB0_308.out _) | exact HI0.out)) hb); have n3_ := Aside0.mk (blk_below (zh BK302.out) hb); have n4_ := Aside0.mk (blk_below (zh BK308.out) hb); have n5_ := Aside0.mk (KeepBut.trans (by repeat (first | (with_reducible first | exact HK.out | apply KeepBut.set_ | apply keep_drewN | apply keep_drew | apply keep_alloc | refine keep_far ?_ GW302.out _ | refine keep_far ?_ GW308.out _) | exact HK.out)) (KeepBut.of_below hb g none) (.inl rfl)); have n6_ := Aside0.mk (below_step (by repeat (first | (with_reducible first | exact HB.out | apply below_alloc | apply pw_below_drewN | apply below_drew1 | refine below_set ?_ (IsS89.ge HI0.out) | refine below_set ?_ GE302.out | refine below_set ?_ GE308.out) | exact HB.out)) hb); clear HO305; clear HI0; clear BK302; clear BK308; clear HK; clear HB; have HO305 := n0_; have HO325 := n1_; have HI0 := n2_; have BK302 := n3_; have BK308 := n4_; have HK := n5_; have HB := n6_; clear n0_ n1_ n2_ n3_ n4_ n5_ n6_; (try clear hb); (try clear hb2); (try clear hk); (try clear hi); (try clear ho0)) | ((with_reducible refine gate_callee (f := 79) rfl ?_); refine goesL_ (some 24) rfl rfl Try.func79 (by kernel_rfl) rfl #[.pointer (some ⟨g, 0, none⟩), .int .i64 10] rfl zl ?_; (with_reducible refine (spec_l1Below.calls g s0_0 t310 t311 10 t326 t327 t328 w0 _ ?side1 ?side2 A27.out).mono ?_); (case side1 => repeat (first | (with_reducible first | exact HI0.out | apply IsS89.alloc | apply IsS89.drewN | apply IsS89.drew | apply IsS89.set_1 | apply IsS89.set_2 | refine IsS89.far ?_ NB0_302.out _ | refine IsS89.far ?_ NB0_308.out _) | exact HI0.out)); (case side2 => repeat (first | (with_reducible first | exact HB.out | apply below_alloc | apply pw_below_drewN | apply below_drew1 | refine below_set ?_ (IsS89.ge HI0.out) | refine below_set ?_ GE302.out | refine below_set ?_ GE308.out) | exact HB.out)); rintro e w35 ⟨rfl, hi, hb, hk⟩; refine ⟨_, rfl, ?_⟩; have n0_ := Aside0.mk (KeepBut.blk hk (g' := gb302) (o := .cells #[.slice none 0 0] 30 (0, 0)) (zh BK302.out) NB302_0.out (by simp)); have n1_ := Aside0.mk (Kd.R_mono (Kd.R_keep (IsS89.apart (show IsS89 w0 _ g s0_0 t310 t311 from by repeat (first | (with_reducible first | exact HI0.out | apply IsS89.alloc | apply IsS89.drewN | apply IsS89.drew | apply IsS89.set_1 | apply IsS89.set_2 | refine IsS89.far ?_ NB0_302.out _ | refine IsS89.far ?_ NB0_308.out _) | exact HI0.out)) (zr HO305.out) (by decide)) hk (fun _ h => h.2)) (fun _ h => h.1)); have n2_ := Aside0.mk (KeepBut.blk hk (g' := gb308) (o := .cells #[.slice Ao8 t303.length co8] 30 (0, 0)) (zh BK308.out) NB308_0.out (by simp)); have n3_ := Aside0.mk (Kd.R_mono (Kd.R_keep (IsS89.apart (show IsS89 w0 _ g s0_0 t310 t311 from by repeat (first | (with_reducible first | exact HI0.out | apply IsS89.alloc | apply IsS89.drewN | apply IsS89.drew | apply IsS89.set_1 | apply IsS89.set_2 | refine IsS89.far ?_ NB0_302.out _ | refine IsS89.far ?_ NB0_308.out _) | exact HI0.out)) (zr HO325.out) (by decide)) hk (fun _ h => h.2)) (fun _ h => h.1)); have n4_ := Aside0.mk (KeepBut.trans (by repeat (first | (with_reducible first | exact HK.out | apply KeepBut.set_ | apply keep_drewN | apply keep_drew | apply keep_alloc | refine keep_far ?_ GW302.out _ | refine keep_far ?_ GW308.out _) | exact HK.out)) hk (.inl rfl)); have n5_ := Aside0.mk (hb); have n6_ := Aside0.mk (hi); clear BK302; clear HO305; clear BK308; clear HO325; clear HK; clear HB; clear HI0; have BK302 := n0_; have HO305 := n1_; have BK308 := n2_; have HO325 := n3_; have HK := n4_; have HB := n5_; have HI0 := n6_; clear n0_ n1_ n2_ n3_ n4_ n5_ n6_; (try clear hb); (try clear hb2); (try clear hk); (try clear hi)) | ((with_reducible refine gate_callee (f := 79) rfl ?_); refine goesL_ (some 26) rfl rfl Try.func79 (by kernel_rfl) rfl #[.pointer (some ⟨g, 0, none⟩), .int .i64 30] rfl zl ?_; (with_reducible refine (spec_l1Below.calls g s0_0 t327 t328 30 t329 t330 t331 w0 _ ?side1 ?side2 A28.out).mono ?_); (case side1 => repeat (first | (with_reducible first | exact HI0.out | apply IsS89.alloc | apply IsS89.drewN | apply IsS89.drew | apply IsS89.set_1 | apply IsS89.set_2 | refine IsS89.far ?_ NB0_302.out _ | refine IsS89.far ?_ NB0_308.out _) | exact HI0.out)); (case side2 => repeat (first | (with_reducible first | exact HB.out | apply below_alloc | apply pw_below_drewN | apply below_drew1 | refine below_set ?_ (IsS89.ge HI0.out) | refine below_set ?_ GE302.out | refine below_set ?_ GE308.out) | exact HB.out)); rintro e w36 ⟨rfl, hi, hb, hk⟩; refine ⟨_, rfl, ?_⟩; have n0_ := Aside0.mk (KeepBut.blk hk (g' := gb302) (o := .cells #[.slice none 0 0] 30 (0, 0)) (zh BK302.out) NB302_0.out (by simp)); have n1_ := Aside0.mk (Kd.R_mono (Kd.R_keep (IsS89.apart (show IsS89 w0 _ g s0_0 t327 t328 from by repeat (first | (with_reducible first | exact HI0.out | apply IsS89.alloc | apply IsS89.drewN | apply IsS89.drew | apply IsS89.set_1 | apply IsS89.set_2 | refine IsS89.far ?_ NB0_302.out _ | refine IsS89.far ?_ NB0_308.out _) | exact HI0.out)) (zr HO305.out) (by decide)) hk (fun _ h => h.2)) (fun _ h => h.1)); have n2_ := Aside0.mk (KeepBut.blk hk (g' := gb308) (o := .cells #[.slice Ao8 t303.length co8] 30 (0, 0)) (zh BK308.out) NB308_0.out (by simp)); have n3_ := Aside0.mk (Kd.R_mono (Kd.R_keep (IsS89.apart (show IsS89 w0 _ g s0_0 t327 t328 from by repeat (first | (with_reducible first | exact HI0.out | apply IsS89.alloc | apply IsS89.drewN | apply IsS89.drew | apply IsS89.set_1 | apply IsS89.set_2 | refine IsS89.far ?_ NB0_302.out _ | refine IsS89.far ?_ NB0_308.out _) | exact HI0.out)) (zr HO325.out) (by decide)) hk (fun _ h => h.2)) (fun _ h => h.1)); have n4_ := Aside0.mk (KeepBut.trans (by repeat (first | (with_reducible first | exact HK.out | apply KeepBut.set_ | apply keep_drewN | apply keep_drew | apply keep_alloc | refine keep_far ?_ GW302.out _ | refine keep_far ?_ GW308.out _) | exact HK.out)) hk (.inl rfl)); have n5_ := Aside0.mk (hb); have n6_ := Aside0.mk (hi); clear BK302; clear HO305; clear BK308; clear HO325; clear HK; clear HB; clear HI0; have BK302 := n0_; have HO305 := n1_; have BK308 := n2_; have HO325 := n3_; have HK := n4_; have HB := n5_; have HI0 := n6_; clear n0_ n1_ n2_ n3_ n4_ n5_ n6_; (try clear hb); (try clear hb2); (try clear hk); (try clear hi)) | ((with_reducible refine gate_callee (f := 79) rfl ?_); refine goesL_ (some 29) rfl rfl Try.func79 (by kernel_rfl) rfl #[.pointer (some ⟨g, 0, none⟩), .int .i64 30] rfl zl ?_; (with_reducible refine (spec_l1Below.calls g s0_0 t330 t331 30 t332 t333 t334 w0 _ ?side1 ?side2 A29.out).mono ?_); (case side1 => repeat (first | (with_reducible first | exact HI0.out | apply IsS89.alloc | apply IsS89.drewN | apply IsS89.drew | apply IsS89.set_1 | apply IsS89.set_2 | refine IsS89.far ?_ NB0_302.out _ | refine IsS89.far ?_ NB0_308.out _) | exact HI0.out)); (case side2 => repeat (first | (with_reducible first | exact HB.out | apply below_alloc | apply pw_below_drewN | apply below_drew1 | refine below_set ?_ (IsS89.ge HI0.out) | refine below_set ?_ GE302.out | refine below_set ?_ GE308.out) | exact HB.out)); rintro e w37 ⟨rfl, hi, hb, hk⟩; refine ⟨_, rfl, ?_⟩; have n0_ := Aside0.mk (KeepBut.blk hk (g' := gb302) (o := .cells #[.slice none 0 0] 30 (0, 0)) (zh BK302.out) NB302_0.out (by simp)); have n1_ := Aside0.mk (Kd.R_mono (Kd.R_keep (IsS89.apart (show IsS89 w0 _ g s0_0 t330 t331 from by repeat (first | (with_reducible first | exact HI0.out | apply IsS89.alloc | apply IsS89.drewN | apply IsS89.drew | apply IsS89.set_1 | apply IsS89.set_2 | refine IsS89.far ?_ NB0_302.out _ | refine IsS89.far ?_ NB0_308.out _) | exact HI0.out)) (zr HO305.out) (by decide)) hk (fun _ h => h.2)) (fun _ h => h.1)); have n2_ := Aside0.mk (KeepBut.blk hk (g' := gb308) (o := .cells #[.slice Ao8 t303.length co8] 30 (0, 0)) (zh BK308.out) NB308_0.out (by simp)); have n3_ := Aside0.mk (Kd.R_mono (Kd.R_keep (IsS89.apart (show IsS89 w0 _ g s0_0 t330 t331 from by repeat (first | (with_reducible first | exact HI0.out | apply IsS89.alloc | apply IsS89.drewN | apply IsS89.drew | apply IsS89.set_1 | apply IsS89.set_2 | refine IsS89.far ?_ NB0_302.out _ | refine IsS89.far ?_ NB0_308.out _) | exact HI0.out)) (zr HO325.out) (by decide)) hk (fun _ h => h.2)) (fun _ h => h.1)); have n4_ := Aside0.mk (KeepBut.trans (by repeat (first | (with_reducible first | exact HK.out | apply KeepBut.set_ | apply keep_drewN | apply keep_drew | apply keep_alloc | refine keep_far ?_ GW302.out _ | refine keep_far ?_ GW308.out _) | exact HK.out)) hk (.inl rfl)); have n5_ := Aside0.mk (hb); have n6_ := Aside0.mk (hi); clear BK302; clear HO305; clear BK308; clear HO325; clear HK; clear HB; clear HI0; have BK302 := n0_; have HO305 := n1_; have BK308 := n2_; have HO325 := n3_; have HK := n4_; have HB := n5_; have HI0 := n6_; clear n0_ n1_ n2_ n3_ n4_ n5_ n6_; (try clear hb); (try clear hb2); (try clear hk); (try clear hi)) | ((with_reducible refine gate_builtin (b := .append) (xs := #[.tmp 22, .tmp 32]) rfl ?_); at_builtin; refine Kd.R_append k34 w.heap.size rfl (.tmp 22) (.tmp 32) 28 34 (.agg #[(.int .i64 0), (.int .i64 0), (.int .i64 0)]) 24 rfl Try.underlying28 info34 rfl (by decide) (by omega) v324 t323 (⟨t326, wrap64 (t329 - 1), wrap64 (t332 - 1)⟩ : S34) [.int .i64 t326, .int .i64 (wrap64 (t329 - 1)), .int .i64 (wrap64 (t332 - 1))] (fun k_ => some k_ ≠ (.slice Ao8 t303.length co8 : Value).ownBlock) (fun _ => False) rfl rfl ?aP (fun _ hk => hk.elim) ?aF ?aO (Below.refl _ _) ?aS ?aL ?_; (case aP => exact k34_mkM _ _ _ (⟨t326, wrap64 (t329 - 1), wrap64 (t332 - 1)⟩ : S34)); (case aF => exact (fun k_ hk => Kd.fresh' (Kd.R_lt (zr HO305.out)) k_ hk)); (case aO => exact (by (with_reducible repeat (first | apply Kd.R_alloc | apply Kd.R_drewN | apply Kd.R_drew)); exact Kd.R_mono HO325.out (fun _ hk => hk.2))); (case aS => exact (keep_size (w := w) (g := g) (row := none) (by repeat (first | (with_reducible first | exact HK.out | apply KeepBut.set_ | apply keep_drewN | apply keep_drew | apply keep_alloc | refine keep_far ?_ GW302.out _ | refine keep_far ?_ GW308.out _) | exact HK.out)))); (case aL => have := LMc30.out; omega); intro v336 w38 ho hb hg hat; rw [← Ny335.out] at ho; have n0_ := Aside0.mk (IsS89.grown (by repeat (first | (with_reducible first | exact HI0.out | apply IsS89.alloc | apply IsS89.drewN | apply IsS89.drew | apply IsS89.set_1 | apply IsS89.set_2 | refine IsS89.far ?_ NB0_302.out _ | refine IsS89.far ?_ NB0_308.out _) | exact HI0.out)) hg (IsS89.own_ne HI0.out HO325.out (by decide))); have n1_ := Aside0.mk (blk_grown (zh BK302.out) hg (Kd.R_ne HO325.out BK302.out (by decide))); have n2_ := Aside0.mk (Kd.R_after (ok := (fun _ => True)) (zr HO305.out) hg hat); have n3_ := Aside0.mk (blk_grown (zh BK308.out) hg (Kd.R_ne HO325.out BK308.out (by decide))); have n4_ := Aside0.mk (below_weaken (by repeat (first | (with_reducible first | exact HB.out | apply below_alloc | apply pw_below_drewN | apply below_drew1 | refine below_set ?_ (IsS89.ge HI0.out) | refine below_set ?_ GE302.out | refine below_set ?_ GE308.out) | exact HB.out)) HL.out hb); have n5_ := Aside0.mk (KeepBut.trans (by repeat (first | (with_reducible first | exact HK.out | apply KeepBut.set_ | apply keep_drewN | apply keep_drew | apply keep_alloc | refine keep_far ?_ GW302.out _ | refine keep_far ?_ GW308.out _) | exact HK.out)) (KeepBut.of_grown hg g) (Kd.R_base2 HO325.out)); have n6_ := Aside0.mk (ho); clear HI0; clear BK302; clear HO305; clear BK308; clear HB; clear HK; clear HO325; have HI0 := n0_; have BK302 := n1_; have HO305 := n2_; have BK308 := n3_; have HB := n4_; have HK := n5_; have HO337 := n6_; clear n0_ n1_ n2_ n3_ n4_ n5_ n6_; clear ho hb hg hat; obtain ⟨Ao39, co39, eo39⟩ := Kd.R_slice HO337.out; subst eo39; have hcz40_0 : w38.cell? ⟨gb308, 0, none⟩ = some (.slice Ao8 t303.length co8) := (blk_cell BK308.out 0).trans rfl; have hfz40_0 := blk_frozen BK308.out 0))
     go_meet
     case rel => exact ⟨_, (t333), (t334), (y335), (.slice Ao39 y335.length co39), H', ⟨by first | omega | exact Nat.le_refl _⟩, ⟨zr (Kd.R_mono (Kd.R_far (p := ⟨gb308, 0, none⟩) (Kd.R_types HO337.out BK308.out (by decide)) (fun _ hk => hk.2) (.slice Ao39 y335.length co39)) (fun _ hk => trivial))⟩, ⟨zf BK302.out⟩, ⟨by (with_reducible repeat (first | refine blk_drewN ?_ _ | refine blk_drew ?_ | refine blk_alloc ?_ _)); refine blk_put (cs := #[.slice Ao8 t303.length co8]) ?_ 0 _ rfl; (with_reducible repeat (first | refine blk_drewN ?_ _ | refine blk_drew ?_ | refine blk_alloc ?_ _)); exact BK308.out⟩, ⟨by repeat (first | (with_reducible first | exact HI0.out | apply IsS89.alloc | apply IsS89.drewN | apply IsS89.drew | apply IsS89.set_1 | apply IsS89.set_2 | refine IsS89.far ?_ NB0_302.out _ | refine IsS89.far ?_ NB0_308.out _) | exact HI0.out)⟩, ⟨by repeat (first | (with_reducible first | exact HK.out | apply KeepBut.set_ | apply keep_drewN | apply keep_drew | apply keep_alloc | refine keep_far ?_ GW302.out _ | refine keep_far ?_ GW308.out _) | exact HK.out)⟩, ⟨by repeat (first | (with_reducible first | exact HB.out | apply below_alloc | apply pw_below_drewN | apply below_drew1 | refine below_set ?_ (IsS89.ge HI0.out) | refine below_set ?_ GE302.out | refine below_set ?_ GE308.out) | exact HB.out)⟩⟩
    ·rw [if_neg c30] at H
     exact absurd H (by simp)
   ·rw [if_neg c25] at H
    have c25b0 : (t309 == 1) = false := beq_eq_false_iff_ne.mpr c25
    have c25b1 : (t309 != 1) = true := bne_iff_ne.mpr c25
    have H' := Aside0.mk H
    clear H
    go_wp2
    go_meet
    case rel => exact ⟨_, (t310), (t311), (t303), (.slice Ao8 t303.length co8), H', ⟨by first | omega | exact Nat.le_refl _⟩, ⟨zr HO305.out⟩, ⟨zh BK302.out⟩, ⟨zh BK308.out⟩, ⟨by repeat (first | (with_reducible first | exact HI0.out | apply IsS89.alloc | apply IsS89.drewN | apply IsS89.drew | apply IsS89.set_1 | apply IsS89.set_2 | refine IsS89.far ?_ NB0_302.out _ | refine IsS89.far ?_ NB0_308.out _) | exact HI0.out)⟩, ⟨by repeat (first | (with_reducible first | exact HK.out | apply KeepBut.set_ | apply keep_drewN | apply keep_drew | apply keep_alloc | refine keep_far ?_ GW302.out _ | refine keep_far ?_ GW308.out _) | exact HK.out)⟩, ⟨by repeat (first | (with_reducible first | exact HB.out | apply below_alloc | apply pw_below_drewN | apply below_drew1 | refine below_set ?_ (IsS89.ge HI0.out) | refine below_set ?_ GE302.out | refine below_set ?_ GE308.out) | exact HB.out)⟩⟩
 case rest =>
  clear HC4
  try clear c1
  try clear c2
  try clear p2
  try clear c3
  try clear c5
  try clear p6
  try clear c7
  try clear c9
  try clear c10
  try clear c13
  try clear c13b0
  try clear c13b1
  try clear c16
  try clear c17
  try clear c18
  try clear c25
  try clear c25b0
  try clear c25b1
  try clear c30
  try clear c31
  try clear c32
  try clear hcz11_0
  try clear hcz19_0
  try clear hcz24_0
  try clear hcz33_0
  try clear hcz40_0
  try clear hfz11_0
  try clear hfz19_0
  try clear hfz24_0
  try clear hfz33_0
  try clear hfz40_0
  obtain ⟨kq, x1001_3, x1002_3, x309000_3, u309000, HA, HJ3, HO_309000, BK302, BK308, HI0, HK, HB⟩ := hcut
  cases kq with
  | zero => exact absurd HA.out (by simp [spec_l1DrawAny.j0])
  | succ kj3 =>
   have H := HA.out
   clear HA
   simp only [spec_l1DrawAny.j0] at H
   replace H := Option.bind_eq_some_iff.mp H
   obtain ⟨⟨t338, t339, t340⟩, A410, H⟩ := H
   replace H : (if t338 = true then (spec_l1DrawAny.l0 kj3 s0_0 t339 t340 ([] : List (S34))) else (some (x309000_3, t339, t340))) = some (r1, r2, r3) := H
   have A41 := Aside0.mk A410
   clear A410
   by_cases c42 : t338 = true
   ·subst c42
    have H1 : (spec_l1DrawAny.l0 kj3 s0_0 t339 t340 ([] : List (S34))) = some (r1, r2, r3) := by rw [if_pos rfl] at H; exact H
    clear H
    have H := H1
    clear H1
    have H' := Aside0.mk H
    clear H
    go_wp2_with (first | ((with_reducible refine gate_callee (f := 85) rfl ?_); refine goesL_ (some 36) rfl rfl Try.func85 (by kernel_rfl) rfl #[.pointer (some ⟨g, 0, none⟩), .int .i64 80] rfl zl ?_; (with_reducible refine (spec_l1Once.calls g s0_0 x1001_3 x1002_3 80 true t339 t340 w0 _ ?side1 ?side2 A41.out).mono ?_); (case side1 => repeat (first | (with_reducible first | exact HI0.out | apply IsS89.alloc | apply IsS89.drewN | apply IsS89.drew | apply IsS89.set_1 | apply IsS89.set_2 | refine IsS89.far ?_ NB0_302.out _ | refine IsS89.far ?_ NB0_308.out _) | exact HI0.out)); (case side2 => repeat (first | (with_reducible first | exact HB.out | apply below_alloc | apply pw_below_drewN | apply below_drew1 | refine below_set ?_ (IsS89.ge HI0.out) | refine below_set ?_ GE302.out | refine below_set ?_ GE308.out) | exact HB.out)); rintro e w43 ⟨rfl, hi, hb, hk⟩; refine ⟨_, rfl, ?_⟩; have n0_ := Aside0.mk (Kd.R_mono (Kd.R_keep (IsS89.apart (show IsS89 w0 _ g s0_0 x1001_3 x1002_3 from by repeat (first | (with_reducible first | exact HI0.out | apply IsS89.alloc | apply IsS89.drewN | apply IsS89.drew | apply IsS89.set_1 | apply IsS89.set_2 | refine IsS89.far ?_ NB0_302.out _ | refine IsS89.far ?_ NB0_308.out _) | exact HI0.out)) (zr HO_309000.out) (by decide)) hk (fun _ h => h.2)) (fun _ h => h.1)); have n1_ := Aside0.mk (KeepBut.blk hk (g' := gb302) (o := .cells #[.slice none 0 0] 30 (0, 0)) (zh BK302.out) NB302_0.out (by simp)); have n2_ := Aside0.mk (KeepBut.blk hk (g' := gb308) (o := .cells #[u309000] 30 (0, 0)) (zh BK308.out) NB308_0.out (by simp)); have n3_ := Aside0.mk (KeepBut.trans (by repeat (first | (with_reducible first | exact HK.out | apply KeepBut.set_ | apply keep_drewN | apply keep_drew | apply keep_alloc | refine keep_far ?_ GW302.out _ | refine keep_far ?_ GW308.out _) | exact HK.out)) hk (.inl rfl)); have n4_ := Aside0.mk (hb); have n5_ := Aside0.mk (hi); clear HO_309000; clear BK302; clear BK308; clear HK; clear HB; clear HI0; have HO_309000 := n0_; have BK302 := n1_; have BK308 := n2_; have HK := n3_; have HB := n4_; have HI0 := n5_; clear n0_ n1_ n2_ n3_ n4_ n5_; (try clear hb); (try clear hb2); (try clear hk); (try clear hi); have hnb44 := NB308_302.out; have hnc44 := NB302_308.out; have hnb45 := NB308_0.out; have hnc45 := NB0_308.out; have hcz46_0 : w43.cell? ⟨gb308, 0, none⟩ = some (u309000) := (blk_cell BK308.out 0).trans rfl; have hfz46_0 := blk_frozen BK308.out 0))
    go_loopg [] kj3 (fun kq w' => ∃ (x309000_2 : List (S34)) (u309000 : Value), Aside0 (spec_l1DrawAny.l0 kq s0_0 t339 t340 x309000_2 = some (r1, r2, r3)) ∧ Aside0 (kq ≤ kj3) ∧ Aside0 (Kd.R k34 34 w' w.heap.size (fun _ => True) u309000 x309000_2) ∧ Aside0 (w'.heap[gb302]? = some (.cells #[(.slice none 0 0)] 30 (0, 0))) ∧ Aside0 (w'.heap[gb308]? = some (.cells #[u309000] 30 (0, 0))) ∧ Aside0 (IsS89 w0 w' g s0_0 t339 t340) ∧ Aside0 (KeepBut w w' g none) ∧ Aside0 (Below w0.heap.size w0 w'))
    case atStart => exact ⟨(([] : List (S34))), (.slice none 0 0), H', ⟨Nat.le_refl _⟩, ⟨by first | exact Kd.R_nil _ _ _ _ _ | exact Kd.N_nil _ _ _ _ _ | exact Kd.V_nil _ _ _ _ _ | exact Kd.Q_nil _ _ _ _ _ | exact Kd.S_nil _ _ _ _ _⟩, ⟨zf BK302.out⟩, ⟨by (with_reducible repeat (first | refine blk_drewN ?_ _ | refine blk_drew ?_ | refine blk_alloc ?_ _)); refine blk_put (cs := #[u309000]) ?_ 0 _ rfl; (with_reducible repeat (first | refine blk_drewN ?_ _ | refine blk_drew ?_ | refine blk_alloc ?_ _)); exact BK308.out⟩, ⟨by repeat (first | (with_reducible first | exact HI0.out | apply IsS89.alloc | apply IsS89.drewN | apply IsS89.drew | apply IsS89.set_1 | apply IsS89.set_2 | refine IsS89.far ?_ NB0_302.out _ | refine IsS89.far ?_ NB0_308.out _) | exact HI0.out)⟩, ⟨by repeat (first | (with_reducible first | exact HK.out | apply KeepBut.set_ | apply keep_drewN | apply keep_drew | apply keep_alloc | refine keep_far ?_ GW302.out _ | refine keep_far ?_ GW308.out _) | exact HK.out)⟩, ⟨by repeat (first | (with_reducible first | exact HB.out | apply below_alloc | apply pw_below_drewN | apply below_drew1 | refine below_set ?_ (IsS89.ge HI0.out) | refine below_set ?_ GE302.out | refine below_set ?_ GE308.out) | exact HB.out)⟩⟩
    case round =>
     clear H'
     try clear c1
     try clear c2
     try clear p2
     try clear c3
     try clear c4
     try clear c5
     try clear p6
     try clear c7
     try clear c8
     try clear c9
     try clear c10
     try clear c13
     try clear c13b0
     try clear c13b1
     try clear c16
     try clear c17
     try clear c18
     try clear c25
     try clear c25b0
     try clear c25b1
     try clear c30
     try clear c31
     try clear c32
     try clear c42
     try clear c44
     try clear c45
     try clear hcz11_0
     try clear hcz19_0
     try clear hcz24_0
     try clear hcz33_0
     try clear hcz40_0
     try clear hcz46_0
     try clear hfz11_0
     try clear hfz19_0
     try clear hfz24_0
     try clear hfz33_0
     try clear hfz40_0
     try clear hfz46_0
     try clear p2
     try clear p6
     obtain ⟨x309000_2, u309000, HA, HK2, HO_309000, BK302, BK308, HI0, HK, HB⟩ := hrel
     cases gk with
     | zero => exact absurd HA.out (by simp [spec_l1DrawAny.l0])
     | succ k2 =>
      have H := HA.out
      clear HA
      simp only [spec_l1DrawAny.l0] at H
      by_cases c47 : (x309000_2.length : Int) < 500
      ·rw [if_pos c47] at H
       have c47b0 : decide ((x309000_2.length : Int) < 500) = true := decide_eq_true c47
       have c47b1 : decide (x309000_2.length < 500) = true := decide_eq_true (by omega)
       clear c47
       replace H := Option.bind_eq_some_iff.mp H
       obtain ⟨⟨t341, t344⟩, A480, H⟩ := H
       replace H : ((spec_l1Add.f k2 t341 5 (wrap64 ((t341.length : Int) - 1)) 0).bind fun bt345 => (spec_l1DrawAny.l0 k2 s0_0 t339 t340 bt345.1)) = some (r1, r2, r3) := H
       have A48 := Aside0.mk A480
       clear A480
       replace H := Option.bind_eq_some_iff.mp H
       obtain ⟨⟨t345, t348⟩, A490, H⟩ := H
       replace H : (spec_l1DrawAny.l0 k2 s0_0 t339 t340 t345) = some (r1, r2, r3) := H
       have A49 := Aside0.mk A490
       clear A490
       have H' := Aside0.mk H
       clear H
       have hnb50 := NB308_302.out
       have hnc50 := NB302_308.out
       have hnb51 := NB308_0.out
       have hnc51 := NB0_308.out
       have hcz52_0 : wr.cell? ⟨gb308, 0, none⟩ = some (u309000) := (blk_cell BK308.out 0).trans rfl
       have hfz52_0 := blk_frozen BK308.out 0
       obtain ⟨Ao53, co53, eo53⟩ := Kd.R_slice HO_309000.out
       subst eo53
       go_wp2_with (first | ((with_reducible refine gate_callee (f := 58) rfl ?_); refine goesL_ (some 49) rfl rfl Try.func58 (by kernel_rfl) rfl #[.agg #[.slice Ao53 x309000_2.length co53], .agg #[.int .i64 1, .int .i64 ((x309000_2.length : Int) % 200), .int .i64 0]] rfl zl ?_; (with_reducible refine (spec_l1Add.calls k2 (fun k_ => some k_ = (.slice Ao53 x309000_2.length co53 : Value).ownBlock) (.slice Ao53 x309000_2.length co53) x309000_2 1 ((x309000_2.length : Int) % 200) 0 t341 t344 w0 _ ?side1 ?side2 A48.out).mono ?_); (case side1 => repeat (first | (with_reducible first | exact HB.out | apply below_alloc | apply pw_below_drewN | apply below_drew1 | refine below_set ?_ (IsS89.ge HI0.out) | refine below_set ?_ GE302.out | refine below_set ?_ GE308.out) | exact HB.out)); (case side2 => exact Kd.R_lower (Kd.R_tight rfl HO_309000.out) HL.out); rintro e w54 ⟨v342, rfl, ho0, hb, hkp⟩; refine ⟨_, rfl, ?_⟩; have n0_ := Aside0.mk (blk_kept (zh BK302.out) hkp (fun hs_ => (fun e_ => (Kd.R_ne HO_309000.out BK302.out (by decide)) e_) hs_)); have n1_ := Aside0.mk (blk_kept (zh BK308.out) hkp (fun hs_ => (fun e_ => (Kd.R_ne HO_309000.out BK308.out (by decide)) e_) hs_)); have n2_ := Aside0.mk (IsS89.kept (by repeat (first | (with_reducible first | exact HI0.out | apply IsS89.alloc | apply IsS89.drewN | apply IsS89.drew | apply IsS89.set_1 | apply IsS89.set_2 | refine IsS89.far ?_ NB0_302.out _ | refine IsS89.far ?_ NB0_308.out _) | exact HI0.out)) hkp (fun hs_ => (fun e_ => (IsS89.own_ne HI0.out HO_309000.out (by decide)) e_) hs_)); have n3_ := Aside0.mk (Kd.R_mono (ok' := fun k_ => True) (Kd.R_raise (d := k34) (b := w0.heap.size) (b' := w.heap.size) (fun _ _ _ _ h_ => h_) ho0 (fun k_ e_ => Or.elim (ho0.1 k_ e_) (fun hs_ => (fun e_ => Kd.R_base HO_309000.out k_ e_.symm) hs_) (fun hn_ => Nat.le_trans (keep_size (w := w) (g := g) (row := none) (by repeat (first | (with_reducible first | exact HK.out | apply KeepBut.set_ | apply keep_drewN | apply keep_drew | apply keep_alloc | refine keep_far ?_ GW302.out _ | refine keep_far ?_ GW308.out _) | exact HK.out))) hn_))) (fun k_ hk_ => trivial)); have n4_ := Aside0.mk (Kept.keepG (by repeat (first | (with_reducible first | exact HK.out | apply KeepBut.set_ | apply keep_drewN | apply keep_drew | apply keep_alloc | refine keep_far ?_ GW302.out _ | refine keep_far ?_ GW308.out _) | exact HK.out)) hkp (fun k_ hs_ => (fun e_ => .inr (Kd.R_base HO_309000.out k_ e_.symm)) hs_)); have n5_ := Aside0.mk (hb); clear BK302; clear BK308; clear HI0; clear HK; clear HB; clear HO_309000; have BK302 := n0_; have BK308 := n1_; have HI0 := n2_; have HO343 := n3_; have HK := n4_; have HB := n5_; clear n0_ n1_ n2_ n3_ n4_ n5_; (try clear hb); (try clear hkp); (try clear ho0); obtain ⟨Ao55, co55, eo55⟩ := Kd.R_slice HO343.out; subst eo55; have hcz56_0 : w54.cell? ⟨gb308, 0, none⟩ = some (.slice Ao53 x309000_2.length co53) := (blk_cell BK308.out 0).trans rfl; have hfz56_0 := blk_frozen BK308.out 0) | ((with_reducible refine gate_store (t := 30) (p := 3) rfl ?_); refine store_event (t := 30) (p := 3) (v := ?vo_w57) (w1 := (w54.setCell ⟨gb308, 0, none⟩ (.slice Ao55 t341.length co55))) ?hg ?ho ?hn ?hr ?_; (case ho => rfl); (case hg => rfl); (case hn => rfl); (case hr => first | (go_simp; done) | (go_simp; rfl)); intro w57 hw; have n0_ : Aside0 (Kd.R k34 34 w57 w.heap.size (fun _ => True) (.slice Ao55 t341.length co55) t341) := ⟨(by rw [hw]; exact (by (with_reducible repeat (first | apply Kd.R_alloc | apply Kd.R_drewN | apply Kd.R_drew)); exact Kd.R_mono (Kd.R_far (p := ⟨gb308, 0, none⟩) (Kd.R_types HO343.out BK308.out (by decide)) (fun _ hk => hk.2) (.slice Ao55 t341.length co55)) (fun _ hk => trivial)))⟩; have n1_ : Aside0 (w57.heap[gb302]? = some (.cells #[.slice none 0 0] 30 (0, 0))) := ⟨(by rw [hw]; exact (zf BK302.out))⟩; have n2_ : Aside0 (w57.heap[gb308]? = some (.cells #[.slice Ao55 t341.length co55] 30 (0, 0))) := ⟨(by rw [hw]; exact (by (with_reducible repeat (first | refine blk_drewN ?_ _ | refine blk_drew ?_ | refine blk_alloc ?_ _)); refine blk_put (cs := #[.slice Ao53 x309000_2.length co53]) ?_ 0 _ rfl; (with_reducible repeat (first | refine blk_drewN ?_ _ | refine blk_drew ?_ | refine blk_alloc ?_ _)); exact BK308.out))⟩; have n3_ : Aside0 (IsS89 w0 w57 g s0_0 t339 t340) := ⟨(by rw [hw]; exact (by repeat (first | (with_reducible first | exact HI0.out | apply IsS89.alloc | apply IsS89.drewN | apply IsS89.drew | apply IsS89.set_1 | apply IsS89.set_2 | refine IsS89.far ?_ NB0_302.out _ | refine IsS89.far ?_ NB0_308.out _) | exact HI0.out)))⟩; have n4_ : Aside0 (KeepBut w w57 g none) := ⟨(by rw [hw]; exact (by repeat (first | (with_reducible first | exact HK.out | apply KeepBut.set_ | apply keep_drewN | apply keep_drew | apply keep_alloc | refine keep_far ?_ GW302.out _ | refine keep_far ?_ GW308.out _) | exact HK.out)))⟩; have n5_ : Aside0 (Below w0.heap.size w0 w57) := ⟨(by rw [hw]; exact (by repeat (first | (with_reducible first | exact HB.out | apply below_alloc | apply pw_below_drewN | apply below_drew1 | refine below_set ?_ (IsS89.ge HI0.out) | refine below_set ?_ GE302.out | refine below_set ?_ GE308.out) | exact HB.out)))⟩; clear hw; clear HO343; clear BK302; clear BK308; clear HI0; clear HK; clear HB; have HO343 := n0_; have BK302 := n1_; have BK308 := n2_; have HI0 := n3_; have HK := n4_; have HB := n5_; clear n0_ n1_ n2_ n3_ n4_ n5_; have hcz58_0 : w57.cell? ⟨gb308, 0, none⟩ = some (.slice Ao55 t341.length co55) := (blk_cell BK308.out 0).trans rfl; have hfz58_0 := blk_frozen BK308.out 0) | ((with_reducible refine gate_callee (f := 58) rfl ?_); refine goesL_ (some 59) rfl rfl Try.func58 (by kernel_rfl) rfl #[.agg #[.slice Ao55 t341.length co55], .agg #[.int .i64 5, .int .i64 (wrap64 ((t341.length : Int) - 1)), .int .i64 0]] rfl zl ?_; (with_reducible refine (spec_l1Add.calls k2 (fun k_ => some k_ = (.slice Ao55 t341.length co55 : Value).ownBlock) (.slice Ao55 t341.length co55) t341 5 (wrap64 ((t341.length : Int) - 1)) 0 t345 t348 w0 _ ?side1 ?side2 A49.out).mono ?_); (case side1 => repeat (first | (with_reducible first | exact HB.out | apply below_alloc | apply pw_below_drewN | apply below_drew1 | refine below_set ?_ (IsS89.ge HI0.out) | refine below_set ?_ GE302.out | refine below_set ?_ GE308.out) | exact HB.out)); (case side2 => exact Kd.R_lower (Kd.R_tight rfl HO343.out) HL.out); rintro e w59 ⟨v346, rfl, ho0, hb, hkp⟩; refine ⟨_, rfl, ?_⟩; have n0_ := Aside0.mk (blk_kept (zh BK302.out) hkp (fun hs_ => (fun e_ => (Kd.R_ne HO343.out BK302.out (by decide)) e_) hs_)); have n1_ := Aside0.mk (blk_kept (zh BK308.out) hkp (fun hs_ => (fun e_ => (Kd.R_ne HO343.out BK308.out (by decide)) e_) hs_)); have n2_ := Aside0.mk (IsS89.kept (by repeat (first | (with_reducible first | exact HI0.out | apply IsS89.alloc | apply IsS89.drewN | apply IsS89.drew | apply IsS89.set_1 | apply IsS89.set_2 | refine IsS89.far ?_ NB0_302.out _ | refine IsS89.far ?_ NB0_308.out _) | exact HI0.out)) hkp (fun hs_ => (fun e_ => (IsS89.own_ne HI0.out HO343.out (by decide)) e_) hs_)); have n3_ := Aside0.mk (Kd.R_mono (ok' := fun k_ => True) (Kd.R_raise (d := k34) (b := w0.heap.size) (b' := w.heap.size) (fun _ _ _ _ h_ => h_) ho0 (fun k_ e_ => Or.elim (ho0.1 k_ e_) (fun hs_ => (fun e_ => Kd.R_base HO343.out k_ e_.symm) hs_) (fun hn_ => Nat.le_trans (keep_size (w := w) (g := g) (row := none) (by repeat (first | (with_reducible first | exact HK.out | apply KeepBut.set_ | apply keep_drewN | apply keep_drew | apply keep_alloc | refine keep_far ?_ GW302.out _ | refine keep_far ?_ GW308.out _) | exact HK.out))) hn_))) (fun k_ hk_ => trivial)); have n4_ := Aside0.mk (Kept.keepG (by repeat (first | (with_reducible first | exact HK.out | apply KeepBut.set_ | apply keep_drewN | apply keep_drew | apply keep_alloc | refine keep_far ?_ GW302.out _ | refine keep_far ?_ GW308.out _) | exact HK.out)) hkp (fun k_ hs_ => (fun e_ => .inr (Kd.R_base HO343.out k_ e_.symm)) hs_)); have n5_ := Aside0.mk (hb); clear BK302; clear BK308; clear HI0; clear HK; clear HB; clear HO343; have BK302 := n0_; have BK308 := n1_; have HI0 := n2_; have HO347 := n3_; have HK := n4_; have HB := n5_; clear n0_ n1_ n2_ n3_ n4_ n5_; (try clear hb); (try clear hkp); (try clear ho0); obtain ⟨Ao60, co60, eo60⟩ := Kd.R_slice HO347.out; subst eo60; have hcz61_0 : w59.cell? ⟨gb308, 0, none⟩ = some (.slice Ao55 t341.length co55) := (blk_cell BK308.out 0).trans rfl; have hfz61_0 := blk_frozen BK308.out 0))
       go_roundg k2
       case measure => have := HJ3.out; have := HK2.out; omega
       case rel => exact ⟨(t345), (.slice Ao60 t345.length co60), H', ⟨by have := HJ3.out; have := HK2.out; omega⟩, ⟨zr (Kd.R_mono (Kd.R_far (p := ⟨gb308, 0, none⟩) (Kd.R_types HO347.out BK308.out (by decide)) (fun _ hk => hk.2) (.slice Ao60 t345.length co60)) (fun _ hk => trivial))⟩, ⟨zf BK302.out⟩, ⟨by (with_reducible repeat (first | refine blk_drewN ?_ _ | refine blk_drew ?_ | refine blk_alloc ?_ _)); refine blk_put (cs := #[.slice Ao55 t341.length co55]) ?_ 0 _ rfl; (with_reducible repeat (first | refine blk_drewN ?_ _ | refine blk_drew ?_ | refine blk_alloc ?_ _)); exact BK308.out⟩, ⟨by repeat (first | (with_reducible first | exact HI0.out | apply IsS89.alloc | apply IsS89.drewN | apply IsS89.drew | apply IsS89.set_1 | apply IsS89.set_2 | refine IsS89.far ?_ NB0_302.out _ | refine IsS89.far ?_ NB0_308.out _) | exact HI0.out)⟩, ⟨by repeat (first | (with_reducible first | exact HK.out | apply KeepBut.set_ | apply keep_drewN | apply keep_drew | apply keep_alloc | refine keep_far ?_ GW302.out _ | refine keep_far ?_ GW308.out _) | exact HK.out)⟩, ⟨by repeat (first | (with_reducible first | exact HB.out | apply below_alloc | apply pw_below_drewN | apply below_drew1 | refine below_set ?_ (IsS89.ge HI0.out) | refine below_set ?_ GE302.out | refine below_set ?_ GE308.out) | exact HB.out)⟩⟩
      ·rw [if_neg c47] at H
       have c47b0 : decide ((x309000_2.length : Int) < 500) = false := decide_eq_false c47
       have c47b1 : decide (x309000_2.length < 500) = false := decide_eq_false (by omega)
       clear c47
       simp only [Option.some.injEq, Prod.mk.injEq] at H
       obtain ⟨rfl, rfl, rfl⟩ := H
       have hnb62 := NB308_302.out
       have hnc62 := NB302_308.out
       have hnb63 := NB308_0.out
       have hnc63 := NB0_308.out
       have hcz64_0 : wr.cell? ⟨gb308, 0, none⟩ = some (u309000) := (blk_cell BK308.out 0).trans rfl
       have hfz64_0 := blk_frozen BK308.out 0
       obtain ⟨Ao65, co65, eo65⟩ := Kd.R_slice HO_309000.out
       subst eo65
       have hnb66 := NB302_0.out
       have hnc66 := NB0_302.out
       have hcz67_0 : wr.cell? ⟨gb302, 0, none⟩ = some (.slice none 0 0) := (blk_cell BK302.out 0).trans rfl
       have hfz67_0 := blk_frozen BK302.out 0
       go_wp2
       refine bodyPost_ret (results_cell_row rfl _ _ gb302 30 #[.slice Ao65 x309000_2.length co65] (0, 0) _ rfl (by (with_reducible repeat (first | refine blk_drewN ?_ _ | refine blk_drew ?_ | refine blk_alloc ?_ _)); refine blk_put (cs := #[.slice none 0 0]) ?_ 0 _ rfl; (with_reducible repeat (first | refine blk_drewN ?_ _ | refine blk_drew ?_ | refine blk_alloc ?_ _)); exact BK302.out) Try.underlying30 rfl (by kernel_rfl)) rfl ?_
       exact ⟨_, ze, by (with_reducible repeat (first | apply Kd.R_alloc | apply Kd.R_drewN | apply Kd.R_drew)); exact Kd.R_mono (Kd.R_far (p := ⟨gb302, 0, none⟩) (Kd.R_types HO_309000.out BK302.out (by decide)) (fun _ hk => hk.2) (.slice Ao65 x309000_2.length co65)) (fun _ hk => trivial), by repeat (first | (with_reducible first | exact HI0.out | apply IsS89.alloc | apply IsS89.drewN | apply IsS89.drew | apply IsS89.set_1 | apply IsS89.set_2 | refine IsS89.far ?_ NB0_302.out _ | refine IsS89.far ?_ NB0_308.out _) | exact HI0.out), by repeat (first | (with_reducible first | exact HB.out | apply below_alloc | apply pw_below_drewN | apply below_drew1 | refine below_set ?_ (IsS89.ge HI0.out) | refine below_set ?_ GE302.out | refine below_set ?_ GE308.out) | exact HB.out), by repeat (first | (with_reducible first | exact HK.out | apply KeepBut.set_ | apply keep_drewN | apply keep_drew | apply keep_alloc | refine keep_far ?_ GW302.out _ | refine keep_far ?_ GW308.out _) | exact HK.out)⟩
   ·replace c42 := Bool.eq_false_iff.mpr c42
    subst c42
    have H1 : (some (x309000_3, t339, t340)) = some (r1, r2, r3) := by rw [if_neg (show ¬ (false = true) by decide)] at H; exact H
    clear H
    have H := H1
    clear H1
    simp only [Option.some.injEq, Prod.mk.injEq] at H
    obtain ⟨rfl, rfl, rfl⟩ := H
    go_wp2_with (first | ((with_reducible refine gate_callee (f := 85) rfl ?_); refine goesL_ (some 36) rfl rfl Try.func85 (by kernel_rfl) rfl #[.pointer (some ⟨g, 0, none⟩), .int .i64 80] rfl zl ?_; (with_reducible refine (spec_l1Once.calls g s0_0 x1001_3 x1002_3 80 false t339 t340 w0 _ ?side1 ?side2 A41.out).mono ?_); (case side1 => repeat (first | (with_reducible first | exact HI0.out | apply IsS89.alloc | apply IsS89.drewN | apply IsS89.drew | apply IsS89.set_1 | apply IsS89.set_2 | refine IsS89.far ?_ NB0_302.out _ | refine IsS89.far ?_ NB0_308.out _) | exact HI0.out)); (case side2 => repeat (first | (with_reducible first | exact HB.out | apply below_alloc | apply pw_below_drewN | apply below_drew1 | refine below_set ?_ (IsS89.ge HI0.out) | refine below_set ?_ GE302.out | refine below_set ?_ GE308.out) | exact HB.out)); rintro e w68 ⟨rfl, hi, hb, hk⟩; refine ⟨_, rfl, ?_⟩; have n0_ := Aside0.mk (Kd.R_mono (Kd.R_keep (IsS89.apart (show IsS89 w0 _ g s0_0 x1001_3 x1002_3 from by repeat (first | (with_reducible first | exact HI0.out | apply IsS89.alloc | apply IsS89.drewN | apply IsS89.drew | apply IsS89.set_1 | apply IsS89.set_2 | refine IsS89.far ?_ NB0_302.out _ | refine IsS89.far ?_ NB0_308.out _) | exact HI0.out)) (zr HO_309000.out) (by decide)) hk (fun _ h => h.2)) (fun _ h => h.1)); have n1_ := Aside0.mk (KeepBut.blk hk (g' := gb302) (o := .cells #[.slice none 0 0] 30 (0, 0)) (zh BK302.out) NB302_0.out (by simp)); have n2_ := Aside0.mk (KeepBut.blk hk (g' := gb308) (o := .cells #[u309000] 30 (0, 0)) (zh BK308.out) NB308_0.out (by simp)); have n3_ := Aside0.mk (KeepBut.trans (by repeat (first | (with_reducible first | exact HK.out | apply KeepBut.set_ | apply keep_drewN | apply keep_drew | apply keep_alloc | refine keep_far ?_ GW302.out _ | refine keep_far ?_ GW308.out _) | exact HK.out)) hk (.inl rfl)); have n4_ := Aside0.mk (hb); have n5_ := Aside0.mk (hi); clear HO_309000; clear BK302; clear BK308; clear HK; clear HB; clear HI0; have HO_309000 := n0_; have BK302 := n1_; have BK308 := n2_; have HK := n3_; have HB := n4_; have HI0 := n5_; clear n0_ n1_ n2_ n3_ n4_ n5_; (try clear hb); (try clear hb2); (try clear hk); (try clear hi); have hnb69 := NB308_302.out; have hnc69 := NB302_308.out; have hnb70 := NB308_0.out; have hnc70 := NB0_308.out; have hcz71_0 : w68.cell? ⟨gb308, 0, none⟩ = some (u309000) := (blk_cell BK308.out 0).trans rfl; have hfz71_0 := blk_frozen BK308.out 0; obtain ⟨Ao72, co72, eo72⟩ := Kd.R_slice HO_309000.out; subst eo72; have hnb73 := NB302_0.out; have hnc73 := NB0_302.out; have hcz74_0 : w68.cell? ⟨gb302, 0, none⟩ = some (.slice none 0 0) := (blk_cell BK302.out 0).trans rfl; have hfz74_0 := blk_frozen BK302.out 0))
    refine bodyPost_ret (results_cell_row rfl _ _ gb302 30 #[.slice Ao72 x309000_3.length co72] (0, 0) _ rfl (by (with_reducible repeat (first | refine blk_drewN ?_ _ | refine blk_drew ?_ | refine blk_alloc ?_ _)); refine blk_put (cs := #[.slice none 0 0]) ?_ 0 _ rfl; (with_reducible repeat (first | refine blk_drewN ?_ _ | refine blk_drew ?_ | refine blk_alloc ?_ _)); exact BK302.out) Try.underlying30 rfl (by kernel_rfl)) rfl ?_
    exact ⟨_, ze, by (with_reducible repeat (first | apply Kd.R_alloc | apply Kd.R_drewN | apply Kd.R_drew)); exact Kd.R_mono (Kd.R_far (p := ⟨gb302, 0, none⟩) (Kd.R_types HO_309000.out BK302.out (by decide)) (fun _ hk => hk.2) (.slice Ao72 x309000_3.length co72)) (fun _ hk => trivial), by repeat (first | (with_reducible first | exact HI0.out | apply IsS89.alloc | apply IsS89.drewN | apply IsS89.drew | apply IsS89.set_1 | apply IsS89.set_2 | refine IsS89.far ?_ NB0_302.out _ | refine IsS89.far ?_ NB0_308.out _) | exact HI0.out), by repeat (first | (with_reducible first | exact HB.out | apply below_alloc | apply pw_below_drewN | apply below_drew1 | refine below_set ?_ (IsS89.ge HI0.out) | refine below_set ?_ GE302.out | refine below_set ?_ GE308.out) | exact HB.out), by repeat (first | (with_reducible first | exact HK.out | apply KeepBut.set_ | apply keep_drewN | apply keep_drew | apply keep_alloc | refine keep_far ?_ GW302.out _ | refine keep_far ?_ GW308.out _) | exact HK.out)⟩

/-! ### spec_l1Max: function 105 -/
def spec_l1Max.f (a0 : Int) (a1 : Int) : Option (Int) := if a0 > a1 then (some a0) else (some a1)
set_option maxHeartbeats 8000000 in
set_option maxRecDepth 100000 in
theorem spec_l1Max.calls (a0 : Int) (a1 : Int) (r : Int) (w : World) (h : spec_l1Max.f a0 a1 = some r) :
  Calls Try.prog 105 #[.int .i64 a0, .int .i64 a1] w fun e w' => e = .returned (.int .i64 r) ∧ Drawn0 w w' := by
 have H : (if a0 > a1 then (some a0) else (some a1)) = some r := h
 clear h
 by_cases c3 : a0 > a1
 ·rw [if_pos c3] at H
  have c3b0 : decide (a1 < a0) = true := decide_eq_true c3
  clear c3
  obtain rfl := Option.some.inj H
  go_enter Try.func105, Try.ntmps105
  go_wp2
  go_ret
  exact ⟨by first | rfl | (simp; done) | (simp [*]; done), by repeat (first | exact Drawn0.refl _ | apply Drawn0.step)⟩
 ·rw [if_neg c3] at H
  have c3b0 : decide (a1 < a0) = false := decide_eq_false c3
  clear c3
  obtain rfl := Option.some.inj H
  go_enter Try.func105, Try.ntmps105
  go_wp2
  go_ret
  exact ⟨by first | rfl | (simp; done) | (simp [*]; done), by repeat (first | exact Drawn0.refl _ | apply Drawn0.step)⟩

end Go.Proofs.Ytafahnellnfclaa.C
