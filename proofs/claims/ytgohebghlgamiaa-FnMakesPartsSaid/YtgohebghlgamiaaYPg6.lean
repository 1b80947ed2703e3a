import Derived.Test.YtgohebghlgamiaaYP0
import Derived.Test.YtgohebghlgamiaaYPg4
import Derived.Test.YtgohebghlgamiaaYPg5
section
-- Written by this session's program (wip/tools/gprint.py over the kit's print) out of the translation; Lean checks it.
namespace Go.Proofs.Ytgohebghlgamiaa.P
open Go.RowKit Go.Proofs.YtgohebghlgamiaaW.PrintWords Go.Proofs.YtgohebghlgamiaaW.PrintLast Go.Proofs.YtgohebghlgamiaaW.PrintMore
attribute [local go_sem] max2_int min2_int max_two min_two max_three min_three max_four min_four   -- for this text's walks alone
set_option linter.unusedVariables false
set_option linter.unusedSimpArgs false
set_option maxRecDepth 100000

/-! ### spec_l1DrawPool: function 92 -/
def spec_l1DrawPool.l0 : Nat → Int → Int → List Int → Int → Int → List (S51) → Option ((List (S51)) × Int × Int)
 | 0, _, _, _, _, _, _ => none
 | k + 1, x6, x7, x1000, x1001, x1002, x299000 => if x7 < x6 then ((spec_l1DrawNode.f k x1000 x1001 x1002 (x299000.length : Int)).bind fun bt302 => ((spec_l1Add.f k x299000 bt302.1 bt302.2.1 bt302.2.2.1).bind fun bt307 => (spec_l1DrawPool.l0 k x6 (wrap64 (x7 + 1)) x1000 bt302.2.2.2.1 bt302.2.2.2.2 bt307.1))) else (some (x299000, x1001, x1002))
def spec_l1DrawPool.f (k : Nat) (s0_0 : List Int) (s0_1 : Int) (s0_2 : Int) (a1 : Int) : Option ((List (S51)) × Int × Int) := (spec_l1Below.f s0_0 s0_1 s0_2 (wrap64 (a1 + 1))).bind fun bt299 => (spec_l1DrawPool.l0 k bt299.1 0 s0_0 bt299.2.1 bt299.2.2 ([] : List (S51)))
theorem spec_l1DrawPool.mono_l : ∀ k, (∀ y0 y1 y2 y3 y4 y5, LeO (spec_l1DrawPool.l0 k y0 y1 y2 y3 y4 y5) (spec_l1DrawPool.l0 (k + 1) y0 y1 y2 y3 y4 y5))
 | 0 => fun _ _ _ _ _ _ r h => by simp [spec_l1DrawPool.l0] at h
 | k + 1 => by
  have ih0 := spec_l1DrawPool.mono_l k
  ·intro y0 y1 y2 y3 y4 y5
   unfold spec_l1DrawPool.l0
   repeat' first
   | (with_reducible exact ih0 _ _ _ _ _ _)
   | (with_reducible exact spec_l1Add.mono _ _ _ _ _)
   | (with_reducible exact spec_l1DrawNode.mono _ _ _ _ _)
   | (with_reducible exact LeO.refl _)
   | (with_reducible exact LeO.none _)
   | (with_reducible refine LeO.ite ?_ ?_)
   | (with_reducible refine LeO.bind ?_ (fun _ => ?_))
   | exact ih0 _ _ _ _ _ _
   | exact spec_l1Add.mono _ _ _ _ _
   | exact spec_l1DrawNode.mono _ _ _ _ _
   | exact LeO.none _
   | refine LeO.ite ?_ ?_
   | refine LeO.bind ?_ (fun _ => ?_)
theorem spec_l1DrawPool.mono : ∀ a0 a1 a2 a3 k, LeO (spec_l1DrawPool.f k a0 a1 a2 a3) (spec_l1DrawPool.f (k + 1) a0 a1 a2 a3) := by
 intro a0 a1 a2 a3 k
 have ih0 := spec_l1DrawPool.mono_l k
 unfold spec_l1DrawPool.f
 repeat' first
   | (with_reducible exact ih0 _ _ _ _ _ _)
   | (with_reducible exact spec_l1Add.mono _ _ _ _ _)
   | (with_reducible exact spec_l1DrawNode.mono _ _ _ _ _)
   | (with_reducible exact LeO.refl _)
   | (with_reducible exact LeO.none _)
   | (with_reducible refine LeO.ite ?_ ?_)
   | (with_reducible refine LeO.bind ?_ (fun _ => ?_))
   | exact ih0 _ _ _ _ _ _
   | exact spec_l1Add.mono _ _ _ _ _
   | exact spec_l1DrawNode.mono _ _ _ _ _
   | exact LeO.none _
   | refine LeO.ite ?_ ?_
   | refine LeO.bind ?_ (fun _ => ?_)
def spec_l1DrawPool.T6 : Bool × List (List Nat × List Nat) := (true, [([], []), ([], []), ([], []), ([2], [2]), ([3], [3]), ([1, 4], [1, 4]), ([0, 5, 5], [0, 5]), ([6], [6]), ([7], [7]), ([7], [7]), ([8, 6, 0, 1, 2, 3, 4, 5, 6, 7, 8], [8])])
def spec_l1DrawPool.B6 : List Nat := [0, 0, 0, 4, 12, 30, 63, 127, 255, 255, 511]
theorem spec_l1DrawPool.tab6 : rtab .any (opsOf Try.f92 6) = spec_l1DrawPool.T6 := by kernel_rfl
theorem spec_l1DrawPool.bits6 : waitsOk spec_l1DrawPool.T6.2 spec_l1DrawPool.B6 = true := by kernel_rfl
set_option maxHeartbeats 8000000 in
set_option maxRecDepth 100000 in
theorem spec_l1DrawPool.calls (k : Nat) (g : Nat) (s0_0 : List Int) (s0_1 : Int) (s0_2 : Int) (a1 : Int) (r1 : List (S51)) (r2 : Int) (r3 : Int) (w0 w : World) (hI : IsS98 w0 w g s0_0 s0_1 s0_2) (hB : Below w0.heap.size w0 w) (h : spec_l1DrawPool.f k s0_0 s0_1 s0_2 a1 = some (r1, r2, r3)) :
  Calls Try.prog 92 #[.pointer (some ⟨g, 0, none⟩), .int .i64 a1] w fun e w' => ∃ v0_ : Value, e = .returned (.agg #[v0_]) ∧ Kd.R k51 51 w' w.heap.size (fun _ => True) v0_ r1 ∧ IsS98 w0 w' g s0_0 r2 r3 ∧ Below w0.heap.size w0 w' ∧ KeepBut w w' g none := by
 have hu30 := Try.underlying30
 have HI0 := Aside0.mk hI
 have HK := Aside0.mk (KeepBut.refl w g none)
 have HL := Aside0.mk hB.size
 clear hI
 have HW0 := Aside0.mk hB.size
 have HB := Aside0.mk hB
 clear hB
 have H : ((spec_l1Below.f s0_0 s0_1 s0_2 (wrap64 (a1 + 1))).bind fun bt299 => (spec_l1DrawPool.l0 k bt299.1 0 s0_0 bt299.2.1 bt299.2.2 ([] : List (S51)))) = some (r1, r2, r3) := h
 clear h
 replace H := Option.bind_eq_some_iff.mp H
 obtain ⟨⟨t299, t300, t301⟩, A30, H⟩ := H
 replace H : (spec_l1DrawPool.l0 k t299 0 s0_0 t300 t301 ([] : List (S51))) = some (r1, r2, r3) := H
 have A3 := Aside0.mk A30
 clear A30
 have H' := Aside0.mk H
 clear H
 go_enter Try.func92, Try.ntmps92
 go_wp2_with (first | ((with_reducible refine gate_dst (N := 4) rfl ?_); refine box_event ?hg (N := 4) ?hd (cs := #[.slice none 0 0]) (t := 30) ?hr ?_; (case hd => rfl); (case hg => rfl); (case hr => first | (go_simp; done) | (go_simp; rfl)); intro gb297 hg w4 hbox hb; have n0_ := Aside0.mk (IsS98.below (by repeat (first | (with_reducible first | exact HI0.out | apply IsS98.alloc | apply IsS98.drewN | apply IsS98.drew | apply IsS98.set_1 | apply IsS98.set_2) | exact HI0.out)) hb); have n1_ := Aside0.mk (KeepBut.trans (by repeat (first | (with_reducible first | exact HK.out | apply KeepBut.set_ | apply keep_drewN | apply keep_drew | apply keep_alloc) | exact HK.out)) (KeepBut.of_below hb g none) (.inl rfl)); have n2_ := Aside0.mk (below_step (by repeat (first | (with_reducible first | exact HB.out | apply below_alloc | apply pw_below_drewN | apply below_drew1 | refine below_set ?_ (IsS98.ge HI0.out)) | exact HB.out)) hb); have n3_ := Aside0.mk (hbox); have n4_ := Aside0.mk ((by rw [hg]; exact (keep_size (w := w) (g := g) (row := none) (by repeat (first | (with_reducible first | exact HK.out | apply KeepBut.set_ | apply keep_drewN | apply keep_drew | apply keep_alloc) | exact HK.out))) : w.heap.size ≤ gb297)); have n5_ := Aside0.mk ((Nat.le_trans HW0.out (by rw [hg]; exact (keep_size (w := w) (g := g) (row := none) (by repeat (first | (with_reducible first | exact HK.out | apply KeepBut.set_ | apply keep_drewN | apply keep_drew | apply keep_alloc) | exact HK.out))) : w.heap.size ≤ gb297) : w0.heap.size ≤ gb297)); have n6_ := Aside0.mk ((by rw [hg]; exact Nat.ne_of_lt (IsS98.lt (show IsS98 w0 _ g s0_0 s0_1 s0_2 from by repeat (first | (with_reducible first | exact HI0.out | apply IsS98.alloc | apply IsS98.drewN | apply IsS98.drew | apply IsS98.set_1 | apply IsS98.set_2) | exact HI0.out))) : g ≠ gb297)); have n7_ := Aside0.mk ((by rw [hg]; exact Nat.ne_of_gt (IsS98.lt (show IsS98 w0 _ g s0_0 s0_1 s0_2 from by repeat (first | (with_reducible first | exact HI0.out | apply IsS98.alloc | apply IsS98.drewN | apply IsS98.drew | apply IsS98.set_1 | apply IsS98.set_2) | exact HI0.out))) : gb297 ≠ g)); clear HI0; clear HK; clear HB; have HI0 := n0_; have HK := n1_; have HB := n2_; have BK297 := n3_; have GW297 := n4_; have GE297 := n5_; have NB0_297 := n6_; have NB297_0 := n7_; clear n0_ n1_ n2_ n3_ n4_ n5_ n6_ n7_; clear hb hbox hg) | ((with_reducible refine gate_dst (N := 5) rfl ?_); refine box_event ?hg (N := 5) ?hd (cs := #[.slice none 0 0]) (t := 30) ?hr ?_; (case hd => rfl); (case hg => rfl); (case hr => first | (go_simp; done) | (go_simp; rfl)); intro gb298 hg w5 hbox hb; have n0_ := Aside0.mk (IsS98.below (by repeat (first | (with_reducible first | exact HI0.out | apply IsS98.alloc | apply IsS98.drewN | apply IsS98.drew | apply IsS98.set_1 | apply IsS98.set_2 | refine IsS98.far ?_ NB0_297.out _) | exact HI0.out)) hb); have n1_ := Aside0.mk (blk_below (zh BK297.out) hb); have n2_ := Aside0.mk (KeepBut.trans (by repeat (first | (with_reducible first | exact HK.out | apply KeepBut.set_ | apply keep_drewN | apply keep_drew | apply keep_alloc | refine keep_far ?_ GW297.out _) | exact HK.out)) (KeepBut.of_below hb g none) (.inl rfl)); have n3_ := Aside0.mk (below_step (by repeat (first | (with_reducible first | exact HB.out | apply below_alloc | apply pw_below_drewN | apply below_drew1 | refine below_set ?_ (IsS98.ge HI0.out) | refine below_set ?_ GE297.out) | exact HB.out)) hb); have n4_ := Aside0.mk (hbox); have n5_ := Aside0.mk ((by rw [hg]; exact (keep_size (w := w) (g := g) (row := none) (by repeat (first | (with_reducible first | exact HK.out | apply KeepBut.set_ | apply keep_drewN | apply keep_drew | apply keep_alloc | refine keep_far ?_ GW297.out _) | exact HK.out))) : w.heap.size ≤ gb298)); have n6_ := Aside0.mk ((Nat.le_trans HW0.out (by rw [hg]; exact (keep_size (w := w) (g := g) (row := none) (by repeat (first | (with_reducible first | exact HK.out | apply KeepBut.set_ | apply keep_drewN | apply keep_drew | apply keep_alloc | refine keep_far ?_ GW297.out _) | exact HK.out))) : w.heap.size ≤ gb298) : w0.heap.size ≤ gb298)); have n7_ := Aside0.mk ((by rw [hg]; exact Nat.ne_of_lt (blk_lt (zh BK297.out)) : gb297 ≠ gb298)); have n8_ := Aside0.mk ((by rw [hg]; exact Nat.ne_of_gt (blk_lt (zh BK297.out)) : gb298 ≠ gb297)); have n9_ := Aside0.mk ((by rw [hg]; exact Nat.ne_of_lt (IsS98.lt (show IsS98 w0 _ g s0_0 s0_1 s0_2 from by repeat (first | (with_reducible first | exact HI0.out | apply IsS98.alloc | apply IsS98.drewN | apply IsS98.drew | apply IsS98.set_1 | apply IsS98.set_2 | refine IsS98.far ?_ NB0_297.out _) | exact HI0.out))) : g ≠ gb298)); have n10_ := Aside0.mk ((by rw [hg]; exact Nat.ne_of_gt (IsS98.lt (show IsS98 w0 _ g s0_0 s0_1 s0_2 from by repeat (first | (with_reducible first | exact HI0.out | apply IsS98.alloc | apply IsS98.drewN | apply IsS98.drew | apply IsS98.set_1 | apply IsS98.set_2 | refine IsS98.far ?_ NB0_297.out _) | exact HI0.out))) : gb298 ≠ g)); clear HI0; clear BK297; clear HK; clear HB; have HI0 := n0_; have BK297 := n1_; have HK := n2_; have HB := n3_; have BK298 := n4_; have GW298 := n5_; have GE298 := n6_; have NB297_298 := n7_; have NB298_297 := n8_; have NB0_298 := n9_; have NB298_0 := n10_; clear n0_ n1_ n2_ n3_ n4_ n5_ n6_ n7_ n8_ n9_ n10_; clear hb hbox hg; have hnb6 := NB298_297.out; have hnc6 := NB297_298.out; have hnb7 := NB298_0.out; have hnc7 := NB0_298.out; have hcz8_0 : w5.cell? ⟨gb298, 0, none⟩ = some (.slice none 0 0) := (blk_cell BK298.out 0).trans rfl; have hfz8_0 := blk_frozen BK298.out 0) | ((with_reducible refine gate_callee (f := 93) rfl ?_); refine goesL_ (some 12) rfl rfl Try.func93 (by kernel_rfl) rfl #[.pointer (some ⟨g, 0, none⟩), .int .i64 (wrap64 (a1 + 1))] rfl zl ?_; (with_reducible refine (spec_l1Below.calls g s0_0 s0_1 s0_2 (wrap64 (a1 + 1)) t299 t300 t301 w0 _ ?side1 ?side2 A3.out).mono ?_); (case side1 => repeat (first | (with_reducible first | exact HI0.out | apply IsS98.alloc | apply IsS98.drewN | apply IsS98.drew | apply IsS98.set_1 | apply IsS98.set_2 | refine IsS98.far ?_ NB0_297.out _ | refine IsS98.far ?_ NB0_298.out _) | exact HI0.out)); (case side2 => repeat (first | (with_reducible first | exact HB.out | apply below_alloc | apply pw_below_drewN | apply below_drew1 | refine below_set ?_ (IsS98.ge HI0.out) | refine below_set ?_ GE297.out | refine below_set ?_ GE298.out) | exact HB.out)); rintro e w9 ⟨rfl, hi, hb, hk⟩; refine ⟨_, rfl, ?_⟩; have n0_ := Aside0.mk (KeepBut.blk hk (g' := gb297) (o := .cells #[.slice none 0 0] 30 (0, 0)) (zf BK297.out) NB297_0.out (by simp)); have n1_ := Aside0.mk (KeepBut.blk hk (g' := gb298) (o := .cells #[.slice none 0 0] 30 (0, 0)) (by (with_reducible repeat (first | refine blk_drewN ?_ _ | refine blk_drew ?_ | refine blk_alloc ?_ _)); refine blk_put (cs := #[.slice none 0 0]) ?_ 0 _ rfl; (with_reducible repeat (first | refine blk_drewN ?_ _ | refine blk_drew ?_ | refine blk_alloc ?_ _)); exact BK298.out) NB298_0.out (by simp)); have n2_ := Aside0.mk (KeepBut.trans (by repeat (first | (with_reducible first | exact HK.out | apply KeepBut.set_ | apply keep_drewN | apply keep_drew | apply keep_alloc | refine keep_far ?_ GW297.out _ | refine keep_far ?_ GW298.out _) | exact HK.out)) hk (.inl rfl)); have n3_ := Aside0.mk (hb); have n4_ := Aside0.mk (hi); clear BK297; clear BK298; clear HK; clear HB; clear HI0; have BK297 := n0_; have BK298 := n1_; have HK := n2_; have HB := n3_; have HI0 := n4_; clear n0_ n1_ n2_ n3_ n4_; (try clear hb); (try clear hb2); (try clear hk); (try clear hi)))
 go_loopg [7] k (fun kq v7 w' => ∃ (x7_1 : Int) (x1001_1 : Int) (x1002_1 : Int) (x299000_1 : List (S51)) (u299000 : Value), v7 = .int .i64 x7_1 ∧ Aside0 (spec_l1DrawPool.l0 kq t299 x7_1 s0_0 x1001_1 x1002_1 x299000_1 = some (r1, r2, r3)) ∧ Aside0 (kq ≤ k) ∧ Aside0 (Kd.R k51 51 w' w.heap.size (fun _ => True) u299000 x299000_1) ∧ Aside0 (w'.heap[gb297]? = some (.cells #[(.slice none 0 0)] 30 (0, 0))) ∧ Aside0 (w'.heap[gb298]? = some (.cells #[u299000] 30 (0, 0))) ∧ Aside0 (IsS98 w0 w' g s0_0 x1001_1 x1002_1) ∧ Aside0 (KeepBut w w' g none) ∧ Aside0 (Below w0.heap.size w0 w'))
 case atStart => exact ⟨(0), (t300), (t301), (([] : List (S51))), (.slice none 0 0), (by first | rfl | (simp; done) | (simp [*]; done)), H', ⟨Nat.le_refl _⟩, ⟨by first | exact Kd.R_nil _ _ _ _ _ | exact Kd.N_nil _ _ _ _ _ | exact Kd.V_nil _ _ _ _ _ | exact Kd.Q_nil _ _ _ _ _ | exact Kd.S_nil _ _ _ _ _⟩, ⟨zh BK297.out⟩, ⟨zh BK298.out⟩, ⟨by repeat (first | (with_reducible first | exact HI0.out | apply IsS98.alloc | apply IsS98.drewN | apply IsS98.drew | apply IsS98.set_1 | apply IsS98.set_2 | refine IsS98.far ?_ NB0_297.out _ | refine IsS98.far ?_ NB0_298.out _) | exact HI0.out)⟩, ⟨by repeat (first | (with_reducible first | exact HK.out | apply KeepBut.set_ | apply keep_drewN | apply keep_drew | apply keep_alloc | refine keep_far ?_ GW297.out _ | refine keep_far ?_ GW298.out _) | exact HK.out)⟩, ⟨by repeat (first | (with_reducible first | exact HB.out | apply below_alloc | apply pw_below_drewN | apply below_drew1 | refine below_set ?_ (IsS98.ge HI0.out) | refine below_set ?_ GE297.out | refine below_set ?_ GE298.out) | exact HB.out)⟩⟩
 case round =>
  clear H'
  try clear p2
  try clear c6
  try clear p6
  try clear c7
  try clear c9
  try clear hcz8_0
  try clear hfz8_0
  obtain ⟨x7_1, x1001_1, x1002_1, x299000_1, u299000, rfl, HA, HK1, HO_299000, BK297, BK298, HI0, HK, HB⟩ := hrel
  cases gk with
  | zero => exact absurd HA.out (by simp [spec_l1DrawPool.l0])
  | succ k1 =>
   have H := HA.out
   clear HA
   simp only [spec_l1DrawPool.l0] at H
   by_cases c10 : x7_1 < t299
   ·rw [if_pos c10] at H
    have c10b0 : decide (x7_1 < t299) = true := decide_eq_true c10
    clear c10
    replace H := Option.bind_eq_some_iff.mp H
    obtain ⟨⟨t302, t303, t304, t305, t306⟩, A110, H⟩ := H
    replace H : ((spec_l1Add.f k1 x299000_1 t302 t303 t304).bind fun bt307 => (spec_l1DrawPool.l0 k1 t299 (wrap64 (x7_1 + 1)) s0_0 t305 t306 bt307.1)) = some (r1, r2, r3) := H
    have A11 := Aside0.mk A110
    clear A110
    replace H := Option.bind_eq_some_iff.mp H
    obtain ⟨⟨t307, t310⟩, A120, H⟩ := H
    replace H : (spec_l1DrawPool.l0 k1 t299 (wrap64 (x7_1 + 1)) s0_0 t305 t306 t307) = some (r1, r2, r3) := H
    have A12 := Aside0.mk A120
    clear A120
    have H' := Aside0.mk H
    clear H
    try go_wp2
    have n0_ := Aside0.mk (Kd.R_drew HO_299000.out)
    have n1_ := Aside0.mk (blk_drew BK297.out)
    have n2_ := Aside0.mk (blk_drew BK298.out)
    have n3_ := Aside0.mk (IsS98.drew HI0.out)
    have n4_ := Aside0.mk (keep_drew HK.out)
    have n5_ := Aside0.mk (below_drew1 HB.out)
    clear HO_299000
    clear BK297
    clear BK298
    clear HI0
    clear HK
    clear HB
    have HO_299000 := n0_
    have BK297 := n1_
    have BK298 := n2_
    have HI0 := n3_
    have HK := n4_
    have HB := n5_
    clear n0_ n1_ n2_ n3_ n4_ n5_
    obtain ⟨Ao14, co14, eo14⟩ := Kd.R_slice HO_299000.out
    (first | subst eo14 | (injection eo14 with f1_ f2_ f3_; have f4_ := f1_.symm; have f5_ := f3_.symm; clear f1_ f2_ f3_; subst f4_; subst f5_))
    refine start_ (n := 11) (S := fun w' => w'.cell? ⟨gb298, 0, none⟩ = some (.slice Ao14 x299000_1.length co14)) (ds := [10]) #[false, false, false, false, false, false, false, false, false, false, false] (by kernel_rfl) rfl rfl ((blk_cell BK298.out 0).trans rfl) (fun hHeld => ?_); refine with_tabW spec_l1DrawPool.tab6 spec_l1DrawPool.bits6 (fun HT_ HW_ => ?_)
    generalize wr.drew = w13 at HO_299000 BK297 BK298 HI0 HK HB hHeld ⊢
    refine pure_ (i := 1) (N := some 20) (v := ?_) (a' := ?_) #[false, true, false, false, false, false, false, false, false, false, false] rfl rfl (any_of HT_.out (by kernel_rfl)) (fun _ _ _ h => h) (Or.inl ⟨by rfl, ?_⟩) ?_ ?_
    rotate_left
    ·intro w'
     go_simp
     with_reducible rfl
    rotate_left
    ·simp only [Act.put, List.setIfInBounds_toArray, List.set_cons_zero, List.set_cons_succ, i64_w, i32_w]
     rfl
    refine pure_ (i := 2) (N := some 21) (v := ?_) (a' := ?_) #[false, true, true, false, false, false, false, false, false, false, false] rfl rfl (any_of HT_.out (by kernel_rfl)) (fun _ _ _ h => h) (Or.inl ⟨by rfl, ?_⟩) ?_ ?_
    rotate_left
    ·intro w'
     go_simp
     with_reducible rfl
    rotate_left
    ·simp only [Act.put, List.setIfInBounds_toArray, List.set_cons_zero, List.set_cons_succ, i64_w, i32_w]
     rfl
    refine take_ (i := 0) (N := some 19) (v := ?_) (a' := ?_) #[true, true, true, false, false, false, false, false, false, false, false] rfl rfl (take_ofW HT_.out HW_.out (by kernel_rfl)) (fun _ _ _ h => h) (Or.inl ⟨by rfl, ?_⟩) hHeld ?_ ?_
    rotate_left
    ·intro w' s0
     go_simp
     with_reducible rfl
    rotate_left
    ·simp only [Act.put, List.setIfInBounds_toArray, List.set_cons_zero, List.set_cons_succ, i64_w, i32_w]
     rfl
    refine take_ (i := 3) (N := some 22) (v := ?_) (a' := ?_) #[true, true, true, true, false, false, false, false, false, false, false] rfl rfl (take_ofW HT_.out HW_.out (by kernel_rfl)) (fun _ _ _ h => h) (Or.inl ⟨by rfl, ?_⟩) hHeld ?_ ?_
    rotate_left
    ·intro w' s0
     go_simp
     with_reducible rfl
    rotate_left
    ·simp only [Act.put, List.setIfInBounds_toArray, List.set_cons_zero, List.set_cons_succ, i64_w, i32_w]
     rfl
    refine pure_ (i := 4) (N := some 23) (v := ?_) (a' := ?_) #[true, true, true, true, true, false, false, false, false, false, false] rfl rfl (any_of HT_.out (by kernel_rfl)) (fun _ _ _ h => h) (Or.inl ⟨by rfl, ?_⟩) ?_ ?_
    rotate_left
    ·intro w'
     go_simp
     with_reducible rfl
    rotate_left
    ·simp only [Act.put, List.setIfInBounds_toArray, List.set_cons_zero, List.set_cons_succ, i64_w, i32_w]
     rfl
    refine one_ (i := 5) (N := some 24) #[true, true, true, true, true, true, false, false, false, false, false] rfl rfl (one_of HT_.out (by kernel_rfl)) (by decide) (fun K hK => ?_)
    refine goes_ Try.func94 (by kernel_rfl) rfl #[.pointer (some ⟨g, 0, none⟩), .int .i64 (x299000_1.length : Int)] (by rfl) rfl rfl zl ?_
    with_reducible refine (spec_l1DrawNode.calls k1 g s0_0 x1001_1 x1002_1 (x299000_1.length : Int) t302 t303 t304 t305 t306 w0 _ ?side1 ?side2 A11.out).mono ?_
    (case side1 => repeat (first | (with_reducible first | exact HI0.out | apply IsS98.alloc | apply IsS98.drewN | apply IsS98.drew | apply IsS98.set_1 | apply IsS98.set_2 | refine IsS98.far ?_ NB0_297.out _ | refine IsS98.far ?_ NB0_298.out _) | exact HI0.out))
    (case side2 => repeat (first | (with_reducible first | exact HB.out | apply below_alloc | apply pw_below_drewN | apply below_drew1 | refine below_set ?_ (IsS98.ge HI0.out) | refine below_set ?_ GE297.out | refine below_set ?_ GE298.out) | exact HB.out))
    rintro e w15 ⟨rfl, hi, hb, hk⟩
    refine ⟨_, rfl, ?_⟩
    have n0_ := Aside0.mk (Kd.R_mono (Kd.R_keep (IsS98.apart (show IsS98 w0 _ g s0_0 x1001_1 x1002_1 from by repeat (first | (with_reducible first | exact HI0.out | apply IsS98.alloc | apply IsS98.drewN | apply IsS98.drew | apply IsS98.set_1 | apply IsS98.set_2 | refine IsS98.far ?_ NB0_297.out _ | refine IsS98.far ?_ NB0_298.out _) | exact HI0.out)) (zr HO_299000.out) (by decide)) hk (fun _ h => h.2)) (fun _ h => h.1))
    have n1_ := Aside0.mk (KeepBut.blk hk (g' := gb297) (o := .cells #[.slice none 0 0] 30 (0, 0)) (zh BK297.out) NB297_0.out (by simp))
    have n2_ := Aside0.mk (KeepBut.blk hk (g' := gb298) (o := .cells #[.slice Ao14 x299000_1.length co14] 30 (0, 0)) (zh BK298.out) NB298_0.out (by simp))
    have n3_ := Aside0.mk (KeepBut.trans (by repeat (first | (with_reducible first | exact HK.out | apply KeepBut.set_ | apply keep_drewN | apply keep_drew | apply keep_alloc | refine keep_far ?_ GW297.out _ | refine keep_far ?_ GW298.out _) | exact HK.out)) hk (.inl rfl))
    have n4_ := Aside0.mk (hb)
    have n5_ := Aside0.mk (hi)
    clear HO_299000
    clear BK297
    clear BK298
    clear HK
    clear HB
    clear HI0
    have HO_299000 := n0_
    have BK297 := n1_
    have BK298 := n2_
    have HK := n3_
    have HB := n4_
    have HI0 := n5_
    clear n0_ n1_ n2_ n3_ n4_ n5_
    (try clear hb)
    (try clear hb2)
    (try clear hk)
    (try clear hi)
    refine hK.out _ _ ((blk_cell BK298.out 0).trans rfl) (fun hHeld => ?_)
    clear hK K
    refine norm_ (a' := ?_) ?_ ?_
    rotate_left
    ·show Act.put _ (some 24) _ = _
     simp only [Act.put, List.setIfInBounds_toArray, List.set_cons_zero, List.set_cons_succ, i64_w, i32_w]
     rfl
    refine one_ (i := 6) (N := some 25) #[true, true, true, true, true, true, true, false, false, false, false] rfl rfl (one_of HT_.out (by kernel_rfl)) (by decide) (fun K hK => ?_)
    refine goes_ Try.func86 (by kernel_rfl) rfl #[.agg #[.slice Ao14 x299000_1.length co14], .agg #[.int .i64 t302, .int .i64 t303, .int .i64 t304]] (by rfl) rfl rfl zl ?_
    with_reducible refine (spec_l1Add.calls k1 (fun k_ => some k_ = (.slice Ao14 x299000_1.length co14 : Value).ownBlock) (.slice Ao14 x299000_1.length co14) x299000_1 t302 t303 t304 t307 t310 w0 _ ?side1 ?side2 A12.out).mono ?_
    (case side1 => repeat (first | (with_reducible first | exact HB.out | apply below_alloc | apply pw_below_drewN | apply below_drew1 | refine below_set ?_ (IsS98.ge HI0.out) | refine below_set ?_ GE297.out | refine below_set ?_ GE298.out) | exact HB.out))
    (case side2 => exact Kd.R_lower (Kd.R_tight rfl HO_299000.out) HL.out)
    rintro e w16 ⟨v308, rfl, ho0, hb, hkp⟩
    refine ⟨_, rfl, ?_⟩
    have n0_ := Aside0.mk (blk_kept (zh BK297.out) hkp (fun hs_ => (fun e_ => (Kd.R_ne HO_299000.out BK297.out (by decide)) e_) hs_))
    have n1_ := Aside0.mk (blk_kept (zh BK298.out) hkp (fun hs_ => (fun e_ => (Kd.R_ne HO_299000.out BK298.out (by decide)) e_) hs_))
    have n2_ := Aside0.mk (IsS98.kept (by repeat (first | (with_reducible first | exact HI0.out | apply IsS98.alloc | apply IsS98.drewN | apply IsS98.drew | apply IsS98.set_1 | apply IsS98.set_2 | refine IsS98.far ?_ NB0_297.out _ | refine IsS98.far ?_ NB0_298.out _) | exact HI0.out)) hkp (fun hs_ => (fun e_ => (IsS98.own_ne HI0.out HO_299000.out (by decide)) e_) hs_))
    have n3_ := Aside0.mk (Kd.R_mono (ok' := fun k_ => True) (Kd.R_raise (d := k51) (b := w0.heap.size) (b' := w.heap.size) (fun _ _ _ _ h_ => h_) ho0 (fun k_ e_ => Or.elim (ho0.1 k_ e_) (fun hs_ => (fun e_ => Kd.R_base HO_299000.out k_ e_.symm) hs_) (fun hn_ => Nat.le_trans (keep_size (w := w) (g := g) (row := none) (by repeat (first | (with_reducible first | exact HK.out | apply KeepBut.set_ | apply keep_drewN | apply keep_drew | apply keep_alloc | refine keep_far ?_ GW297.out _ | refine keep_far ?_ GW298.out _) | exact HK.out))) hn_))) (fun k_ hk_ => trivial))
    have n4_ := Aside0.mk (Kept.keepG (by repeat (first | (with_reducible first | exact HK.out | apply KeepBut.set_ | apply keep_drewN | apply keep_drew | apply keep_alloc | refine keep_far ?_ GW297.out _ | refine keep_far ?_ GW298.out _) | exact HK.out)) hkp (fun k_ hs_ => (fun e_ => .inr (Kd.R_base HO_299000.out k_ e_.symm)) hs_))
    have n5_ := Aside0.mk (hb)
    clear BK297
    clear BK298
    clear HI0
    clear HK
    clear HB
    clear HO_299000
    have BK297 := n0_
    have BK298 := n1_
    have HI0 := n2_
    have HO309 := n3_
    have HK := n4_
    have HB := n5_
    clear n0_ n1_ n2_ n3_ n4_ n5_
    (try clear hb)
    (try clear hkp)
    (try clear ho0)
    obtain ⟨Ao17, co17, eo17⟩ := Kd.R_slice HO309.out
    (first | subst eo17 | (injection eo17 with f1_ f2_ f3_; have f4_ := f1_.symm; have f5_ := f3_.symm; clear f1_ f2_ f3_; subst f4_; subst f5_))
    refine hK.out _ _ ((blk_cell BK298.out 0).trans rfl) (fun hHeld => ?_)
    clear hK K
    refine norm_ (a' := ?_) ?_ ?_
    rotate_left
    ·show Act.put _ (some 25) _ = _
     simp only [Act.put, List.setIfInBounds_toArray, List.set_cons_zero, List.set_cons_succ, i64_w, i32_w]
     rfl
    refine pure_ (i := 7) (N := some 18) (v := ?_) (a' := ?_) #[true, true, true, true, true, true, true, true, false, false, false] rfl rfl (any_of HT_.out (by kernel_rfl)) (fun _ _ _ h => h) (Or.inl ⟨by rfl, ?_⟩) ?_ ?_
    rotate_left
    ·intro w'
     go_simp
     with_reducible rfl
    rotate_left
    ·simp only [Act.put, List.setIfInBounds_toArray, List.set_cons_zero, List.set_cons_succ, i64_w, i32_w]
     rfl
    refine pure_ (i := 8) (N := some 26) (v := ?_) (a' := ?_) #[true, true, true, true, true, true, true, true, true, false, false] rfl rfl (any_of HT_.out (by kernel_rfl)) (fun _ _ _ h => h) (Or.inl ⟨by rfl, ?_⟩) ?_ ?_
    rotate_left
    ·intro w'
     go_simp
     with_reducible rfl
    rotate_left
    ·simp only [Act.put, List.setIfInBounds_toArray, List.set_cons_zero, List.set_cons_succ, i64_w, i32_w]
     rfl
    refine pure_ (i := 9) (N := some 27) (v := ?_) (a' := ?_) #[true, true, true, true, true, true, true, true, true, true, false] rfl rfl (any_of HT_.out (by kernel_rfl)) (fun _ _ _ h => h) (Or.inl ⟨by rfl, ?_⟩) ?_ ?_
    rotate_left
    ·intro w'
     go_simp
     with_reducible rfl
    rotate_left
    ·simp only [Act.put, List.setIfInBounds_toArray, List.set_cons_zero, List.set_cons_succ, i64_w, i32_w]
     rfl
    refine last_ (i := 10) (N := none) #[true, true, true, true, true, true, true, true, true, true, true] rfl rfl (one_of HT_.out (by kernel_rfl)) (by decide) (fun K hK => ?_)
    have hs18 : w16.cell? ⟨gb298, 0, none⟩ = some (.slice Ao14 x299000_1.length co14) := (blk_cell BK298.out 0).trans rfl
    have hfs18 := blk_frozen BK298.out 0
    have hns18_0 := NB297_298.out
    have hms18_0 := NB298_297.out
    refine skip_ (w1 := ?_) (by rfl) rfl ?_ ?_
    rotate_left
    ·go_simp
     rfl
    refine hK.out _ _ ?_
    clear hK K
    refine done_ (done_of HT_.out (by kernel_rfl)) ?_
    try go_wp2
    go_roundg k1
    case measure => have := HK1.out; omega
    case rel => exact ⟨(wrap64 (x7_1 + 1)), (t305), (t306), (t307), (.slice Ao17 t307.length co17), (by first | rfl | (simp; done) | (simp [*]; done)), H', ⟨by have := HK1.out; omega⟩, ⟨zr (Kd.R_mono (Kd.R_far (p := ⟨gb298, 0, none⟩) (Kd.R_types HO309.out BK298.out (by decide)) (fun _ hk => hk.2) (.slice Ao17 t307.length co17)) (fun _ hk => trivial))⟩, ⟨zf BK297.out⟩, ⟨by (with_reducible repeat (first | refine blk_drewN ?_ _ | refine blk_drew ?_ | refine blk_alloc ?_ _)); refine blk_put (cs := #[.slice Ao14 x299000_1.length co14]) ?_ 0 _ rfl; (with_reducible repeat (first | refine blk_drewN ?_ _ | refine blk_drew ?_ | refine blk_alloc ?_ _)); exact BK298.out⟩, ⟨by repeat (first | (with_reducible first | exact HI0.out | apply IsS98.alloc | apply IsS98.drewN | apply IsS98.drew | apply IsS98.set_1 | apply IsS98.set_2 | refine IsS98.far ?_ NB0_297.out _ | refine IsS98.far ?_ NB0_298.out _) | exact HI0.out)⟩, ⟨by repeat (first | (with_reducible first | exact HK.out | apply KeepBut.set_ | apply keep_drewN | apply keep_drew | apply keep_alloc | refine keep_far ?_ GW297.out _ | refine keep_far ?_ GW298.out _) | exact HK.out)⟩, ⟨by repeat (first | (with_reducible first | exact HB.out | apply below_alloc | apply pw_below_drewN | apply below_drew1 | refine below_set ?_ (IsS98.ge HI0.out) | refine below_set ?_ GE297.out | refine below_set ?_ GE298.out) | exact HB.out)⟩⟩
   ·rw [if_neg c10] at H
    have c10b0 : decide (x7_1 < t299) = false := decide_eq_false c10
    clear c10
    simp only [Option.some.injEq, Prod.mk.injEq] at H
    obtain ⟨rfl, rfl, rfl⟩ := H
    have hnb19 := NB298_297.out
    have hnc19 := NB297_298.out
    have hnb20 := NB298_0.out
    have hnc20 := NB0_298.out
    have hcz21_0 : wr.cell? ⟨gb298, 0, none⟩ = some (u299000) := (blk_cell BK298.out 0).trans rfl
    have hfz21_0 := blk_frozen BK298.out 0
    obtain ⟨Ao22, co22, eo22⟩ := Kd.R_slice HO_299000.out
    subst eo22
    have hnb23 := NB297_0.out
    have hnc23 := NB0_297.out
    have hcz24_0 : wr.cell? ⟨gb297, 0, none⟩ = some (.slice none 0 0) := (blk_cell BK297.out 0).trans rfl
    have hfz24_0 := blk_frozen BK297.out 0
    go_wp2
    refine bodyPost_ret (results_cell_row rfl _ _ gb297 30 #[.slice Ao22 x299000_1.length co22] (0, 0) _ rfl (by (with_reducible repeat (first | refine blk_drewN ?_ _ | refine blk_drew ?_ | refine blk_alloc ?_ _)); refine blk_put (cs := #[.slice none 0 0]) ?_ 0 _ rfl; (with_reducible repeat (first | refine blk_drewN ?_ _ | refine blk_drew ?_ | refine blk_alloc ?_ _)); exact BK297.out) Try.underlying30 rfl (by kernel_rfl)) rfl ?_
    exact ⟨_, ze, zr (Kd.R_mono (Kd.R_far (p := ⟨gb297, 0, none⟩) (Kd.R_types HO_299000.out BK297.out (by decide)) (fun _ hk => hk.2) (.slice Ao22 x299000_1.length co22)) (fun _ hk => trivial)), by repeat (first | (with_reducible first | exact HI0.out | apply IsS98.alloc | apply IsS98.drewN | apply IsS98.drew | apply IsS98.set_1 | apply IsS98.set_2 | refine IsS98.far ?_ NB0_297.out _ | refine IsS98.far ?_ NB0_298.out _) | exact HI0.out), by repeat (first | (with_reducible first | exact HB.out | apply below_alloc | apply pw_below_drewN | apply below_drew1 | refine below_set ?_ (IsS98.ge HI0.out) | refine below_set ?_ GE297.out | refine below_set ?_ GE298.out) | exact HB.out), by repeat (first | (with_reducible first | exact HK.out | apply KeepBut.set_ | apply keep_drewN | apply keep_drew | apply keep_alloc | refine keep_far ?_ GW297.out _ | refine keep_far ?_ GW298.out _) | exact HK.out)⟩

/-! ### spec_l1DrawAny: function 74 -/
mutual
def spec_l1DrawAny.j0 : Nat → List Int → Int → Int → List (S51) → Option ((List (S51)) × Int × Int)
 | 0, _, _, _, _ => none
 | k + 1, x1000, x1001, x1002, x318000 => (spec_l1Once.f x1000 x1001 x1002 80).bind fun bt347 => (if bt347.1 = true then (spec_l1DrawAny.l0 k x1000 bt347.2.1 bt347.2.2 ([] : List (S51))) else (some (x318000, bt347.2.1, bt347.2.2)))
def spec_l1DrawAny.l0 : Nat → List Int → Int → Int → List (S51) → Option ((List (S51)) × Int × Int)
 | 0, _, _, _, _ => none
 | k + 1, x1000, x1001, x1002, x318000 => if (x318000.length : Int) < 500 then ((spec_l1Add.f k x318000 1 ((x318000.length : Int) % 200) 0).bind fun bt350 => ((spec_l1Add.f k bt350.1 5 (wrap64 ((bt350.1.length : Int) - 1)) 0).bind fun bt354 => (spec_l1DrawAny.l0 k x1000 x1001 x1002 bt354.1))) else (some (x318000, x1001, x1002))
end
def spec_l1DrawAny.f (k : Nat) (s0_0 : List Int) (s0_1 : Int) (s0_2 : Int) : Option ((List (S51)) × Int × Int) := (spec_l1DrawPool.f k s0_0 s0_1 s0_2 24).bind fun bt312 => ((spec_l1Below.f s0_0 bt312.2.1 bt312.2.2 25).bind fun bt318 => (if bt318.1 = 0 then ((spec_l1Copy.f bt312.1).bind fun t321 => ((spec_l1DrawNode.f k s0_0 bt318.2.1 bt318.2.2 3).bind fun bt324 => (if t321.length < 5864062014805 then (spec_l1DrawAny.j0 k s0_0 bt324.2.2.2.1 bt324.2.2.2.2 (t321 ++ [(⟨bt324.1, bt324.2.1, bt324.2.2.1⟩ : S51)])) else (none)))) else (if bt318.1 = 1 then ((spec_l1Copy.f bt312.1).bind fun t332 => ((spec_l1Below.f s0_0 bt318.2.1 bt318.2.2 10).bind fun bt335 => ((spec_l1Below.f s0_0 bt335.2.1 bt335.2.2 30).bind fun bt338 => ((spec_l1Below.f s0_0 bt338.2.1 bt338.2.2 30).bind fun bt341 => (if t332.length < 5864062014805 then (spec_l1DrawAny.j0 k s0_0 bt341.2.1 bt341.2.2 (t332 ++ [(⟨bt335.1, wrap64 (bt338.1 - 1), wrap64 (bt341.1 - 1)⟩ : S51)])) else (none)))))) else (spec_l1DrawAny.j0 k s0_0 bt318.2.1 bt318.2.2 bt312.1))))
theorem spec_l1DrawAny.mono_l : ∀ k, (∀ y0 y1 y2 y3, LeO (spec_l1DrawAny.j0 k y0 y1 y2 y3) (spec_l1DrawAny.j0 (k + 1) y0 y1 y2 y3)) ∧ (∀ y0 y1 y2 y3, LeO (spec_l1DrawAny.l0 k y0 y1 y2 y3) (spec_l1DrawAny.l0 (k + 1) y0 y1 y2 y3))
 | 0 => ⟨fun _ _ _ _ r h => by simp [spec_l1DrawAny.j0] at h, fun _ _ _ _ r h => by simp [spec_l1DrawAny.l0] at h⟩
 | k + 1 => by
  obtain ⟨ih0, ih1⟩ := spec_l1DrawAny.mono_l k
  refine ⟨?_, ?_⟩
  ·intro y0 y1 y2 y3
   unfold spec_l1DrawAny.j0
   repeat' first
   | (with_reducible exact ih0 _ _ _ _)
   | (with_reducible exact ih1 _ _ _ _)
   | (with_reducible exact spec_l1Add.mono _ _ _ _ _)
   | (with_reducible exact spec_l1DrawNode.mono _ _ _ _ _)
   | (with_reducible exact spec_l1DrawPool.mono _ _ _ _ _)
   | (with_reducible exact LeO.refl _)
   | (with_reducible exact LeO.none _)
   | (with_reducible refine LeO.ite ?_ ?_)
   | (with_reducible refine LeO.bind ?_ (fun _ => ?_))
   | exact ih0 _ _ _ _
   | exact ih1 _ _ _ _
   | exact spec_l1Add.mono _ _ _ _ _
   | exact spec_l1DrawNode.mono _ _ _ _ _
   | exact spec_l1DrawPool.mono _ _ _ _ _
   | exact LeO.none _
   | refine LeO.ite ?_ ?_
   | refine LeO.bind ?_ (fun _ => ?_)
  ·intro y0 y1 y2 y3
   unfold spec_l1DrawAny.l0
   repeat' first
   | (with_reducible exact ih0 _ _ _ _)
   | (with_reducible exact ih1 _ _ _ _)
   | (with_reducible exact spec_l1Add.mono _ _ _ _ _)
   | (with_reducible exact spec_l1DrawNode.mono _ _ _ _ _)
   | (with_reducible exact spec_l1DrawPool.mono _ _ _ _ _)
   | (with_reducible exact LeO.refl _)
   | (with_reducible exact LeO.none _)
   | (with_reducible refine LeO.ite ?_ ?_)
   | (with_reducible refine LeO.bind ?_ (fun _ => ?_))
   | exact ih0 _ _ _ _
   | exact ih1 _ _ _ _
   | exact spec_l1Add.mono _ _ _ _ _
   | exact spec_l1DrawNode.mono _ _ _ _ _
   | exact spec_l1DrawPool.mono _ _ _ _ _
   | exact LeO.none _
   | refine LeO.ite ?_ ?_
   | refine LeO.bind ?_ (fun _ => ?_)
theorem spec_l1DrawAny.mono : ∀ a0 a1 a2 k, LeO (spec_l1DrawAny.f k a0 a1 a2) (spec_l1DrawAny.f (k + 1) a0 a1 a2) := by
 intro a0 a1 a2 k
 obtain ⟨ih0, ih1⟩ := spec_l1DrawAny.mono_l k
 unfold spec_l1DrawAny.f
 repeat' first
   | (with_reducible exact ih0 _ _ _ _)
   | (with_reducible exact ih1 _ _ _ _)
   | (with_reducible exact spec_l1Add.mono _ _ _ _ _)
   | (with_reducible exact spec_l1DrawNode.mono _ _ _ _ _)
   | (with_reducible exact spec_l1DrawPool.mono _ _ _ _ _)
   | (with_reducible exact LeO.refl _)
   | (with_reducible exact LeO.none _)
   | (with_reducible refine LeO.ite ?_ ?_)
   | (with_reducible refine LeO.bind ?_ (fun _ => ?_))
   | exact ih0 _ _ _ _
   | exact ih1 _ _ _ _
   | exact spec_l1Add.mono _ _ _ _ _
   | exact spec_l1DrawNode.mono _ _ _ _ _
   | exact spec_l1DrawPool.mono _ _ _ _ _
   | exact LeO.none _
   | refine LeO.ite ?_ ?_
   | refine LeO.bind ?_ (fun _ => ?_)
theorem fldP_ (w : World) (v : Value) : (Instr.field 30 (.agg #[v]) 0).run Try.prog w = .ok v w := by
 have hu := Try.underlying30
 simp [Instr.field, run_underlying hu, go_sem, asAgg, part, Result.andThen]
set_option maxHeartbeats 8000000 in
set_option maxRecDepth 100000 in
theorem spec_l1DrawAny.calls (k : Nat) (g : Nat) (s0_0 : List Int) (s0_1 : Int) (s0_2 : Int) (r1 : List (S51)) (r2 : Int) (r3 : Int) (w0 w : World) (hI : IsS98 w0 w g s0_0 s0_1 s0_2) (hB : Below w0.heap.size w0 w) (h : spec_l1DrawAny.f k s0_0 s0_1 s0_2 = some (r1, r2, r3)) :
  Calls Try.prog 74 #[.pointer (some ⟨g, 0, none⟩)] w fun e w' => ∃ v0_ : Value, e = .returned (.agg #[v0_]) ∧ Kd.R k51 51 w' w.heap.size (fun _ => True) v0_ r1 ∧ IsS98 w0 w' g s0_0 r2 r3 ∧ Below w0.heap.size w0 w' ∧ KeepBut w w' g none := by
 have hu30 := Try.underlying30
 have hu51 := Try.underlying51
 have HI0 := Aside0.mk hI
 have HK := Aside0.mk (KeepBut.refl w g none)
 have HL := Aside0.mk hB.size
 clear hI
 have HW0 := Aside0.mk hB.size
 have HB := Aside0.mk hB
 clear hB
 have H : ((spec_l1DrawPool.f k s0_0 s0_1 s0_2 24).bind fun bt312 => ((spec_l1Below.f s0_0 bt312.2.1 bt312.2.2 25).bind fun bt318 => (if bt318.1 = 0 then ((spec_l1Copy.f bt312.1).bind fun t321 => ((spec_l1DrawNode.f k s0_0 bt318.2.1 bt318.2.2 3).bind fun bt324 => (if t321.length < 5864062014805 then (spec_l1DrawAny.j0 k s0_0 bt324.2.2.2.1 bt324.2.2.2.2 (t321 ++ [(⟨bt324.1, bt324.2.1, bt324.2.2.1⟩ : S51)])) else (none)))) else (if bt318.1 = 1 then ((spec_l1Copy.f bt312.1).bind fun t332 => ((spec_l1Below.f s0_0 bt318.2.1 bt318.2.2 10).bind fun bt335 => ((spec_l1Below.f s0_0 bt335.2.1 bt335.2.2 30).bind fun bt338 => ((spec_l1Below.f s0_0 bt338.2.1 bt338.2.2 30).bind fun bt341 => (if t332.length < 5864062014805 then (spec_l1DrawAny.j0 k s0_0 bt341.2.1 bt341.2.2 (t332 ++ [(⟨bt335.1, wrap64 (bt338.1 - 1), wrap64 (bt341.1 - 1)⟩ : S51)])) else (none)))))) else (spec_l1DrawAny.j0 k s0_0 bt318.2.1 bt318.2.2 bt312.1))))) = some (r1, r2, r3) := h
 clear h
 replace H := Option.bind_eq_some_iff.mp H
 obtain ⟨⟨t312, t315, t316⟩, A20, H⟩ := H
 replace H : ((spec_l1Below.f s0_0 t315 t316 25).bind fun bt318 => (if bt318.1 = 0 then ((spec_l1Copy.f t312).bind fun t321 => ((spec_l1DrawNode.f k s0_0 bt318.2.1 bt318.2.2 3).bind fun bt324 => (if t321.length < 5864062014805 then (spec_l1DrawAny.j0 k s0_0 bt324.2.2.2.1 bt324.2.2.2.2 (t321 ++ [(⟨bt324.1, bt324.2.1, bt324.2.2.1⟩ : S51)])) else (none)))) else (if bt318.1 = 1 then ((spec_l1Copy.f t312).bind fun t332 => ((spec_l1Below.f s0_0 bt318.2.1 bt318.2.2 10).bind fun bt335 => ((spec_l1Below.f s0_0 bt335.2.1 bt335.2.2 30).bind fun bt338 => ((spec_l1Below.f s0_0 bt338.2.1 bt338.2.2 30).bind fun bt341 => (if t332.length < 5864062014805 then (spec_l1DrawAny.j0 k s0_0 bt341.2.1 bt341.2.2 (t332 ++ [(⟨bt335.1, wrap64 (bt338.1 - 1), wrap64 (bt341.1 - 1)⟩ : S51)])) else (none)))))) else (spec_l1DrawAny.j0 k s0_0 bt318.2.1 bt318.2.2 t312)))) = some (r1, r2, r3) := H
 have A2 := Aside0.mk A20
 clear A20
 replace H := Option.bind_eq_some_iff.mp H
 obtain ⟨⟨t318, t319, t320⟩, A30, H⟩ := H
 replace H : (if t318 = 0 then ((spec_l1Copy.f t312).bind fun t321 => ((spec_l1DrawNode.f k s0_0 t319 t320 3).bind fun bt324 => (if t321.length < 5864062014805 then (spec_l1DrawAny.j0 k s0_0 bt324.2.2.2.1 bt324.2.2.2.2 (t321 ++ [(⟨bt324.1, bt324.2.1, bt324.2.2.1⟩ : S51)])) else (none)))) else (if t318 = 1 then ((spec_l1Copy.f t312).bind fun t332 => ((spec_l1Below.f s0_0 t319 t320 10).bind fun bt335 => ((spec_l1Below.f s0_0 bt335.2.1 bt335.2.2 30).bind fun bt338 => ((spec_l1Below.f s0_0 bt338.2.1 bt338.2.2 30).bind fun bt341 => (if t332.length < 5864062014805 then (spec_l1DrawAny.j0 k s0_0 bt341.2.1 bt341.2.2 (t332 ++ [(⟨bt335.1, wrap64 (bt338.1 - 1), wrap64 (bt341.1 - 1)⟩ : S51)])) else (none)))))) else (spec_l1DrawAny.j0 k s0_0 t319 t320 t312))) = some (r1, r2, r3) := H
 have A3 := Aside0.mk A30
 clear A30
 have HC4 := Aside0.mk H
 clear H
 have hfldP := fldP_
 go_enter Try.func74, Try.ntmps74
 go_upto_block 0 with (first | ((with_reducible refine gate_dst (N := 2) rfl ?_); refine box_event ?hg (N := 2) ?hd (cs := #[.slice none 0 0]) (t := 30) ?hr ?_; (case hd => rfl); (case hg => rfl); (case hr => first | (go_simp; done) | (go_simp; rfl)); intro gb311 hg w5 hbox hb; have n0_ := Aside0.mk (IsS98.below (by repeat (first | (with_reducible first | exact HI0.out | apply IsS98.alloc | apply IsS98.drewN | apply IsS98.drew | apply IsS98.set_1 | apply IsS98.set_2) | exact HI0.out)) hb); have n1_ := Aside0.mk (KeepBut.trans (by repeat (first | (with_reducible first | exact HK.out | apply KeepBut.set_ | apply keep_drewN | apply keep_drew | apply keep_alloc) | exact HK.out)) (KeepBut.of_below hb g none) (.inl rfl)); have n2_ := Aside0.mk (below_step (by repeat (first | (with_reducible first | exact HB.out | apply below_alloc | apply pw_below_drewN | apply below_drew1 | refine below_set ?_ (IsS98.ge HI0.out)) | exact HB.out)) hb); have n3_ := Aside0.mk (hbox); have n4_ := Aside0.mk ((by rw [hg]; exact (keep_size (w := w) (g := g) (row := none) (by repeat (first | (with_reducible first | exact HK.out | apply KeepBut.set_ | apply keep_drewN | apply keep_drew | apply keep_alloc) | exact HK.out))) : w.heap.size ≤ gb311)); have n5_ := Aside0.mk ((Nat.le_trans HW0.out (by rw [hg]; exact (keep_size (w := w) (g := g) (row := none) (by repeat (first | (with_reducible first | exact HK.out | apply KeepBut.set_ | apply keep_drewN | apply keep_drew | apply keep_alloc) | exact HK.out))) : w.heap.size ≤ gb311) : w0.heap.size ≤ gb311)); have n6_ := Aside0.mk ((by rw [hg]; exact Nat.ne_of_lt (IsS98.lt (show IsS98 w0 _ g s0_0 s0_1 s0_2 from by repeat (first | (with_reducible first | exact HI0.out | apply IsS98.alloc | apply IsS98.drewN | apply IsS98.drew | apply IsS98.set_1 | apply IsS98.set_2) | exact HI0.out))) : g ≠ gb311)); have n7_ := Aside0.mk ((by rw [hg]; exact Nat.ne_of_gt (IsS98.lt (show IsS98 w0 _ g s0_0 s0_1 s0_2 from by repeat (first | (with_reducible first | exact HI0.out | apply IsS98.alloc | apply IsS98.drewN | apply IsS98.drew | apply IsS98.set_1 | apply IsS98.set_2) | exact HI0.out))) : gb311 ≠ g)); clear HI0; clear HK; clear HB; have HI0 := n0_; have HK := n1_; have HB := n2_; have BK311 := n3_; have GW311 := n4_; have GE311 := n5_; have NB0_311 := n6_; have NB311_0 := n7_; clear n0_ n1_ n2_ n3_ n4_ n5_ n6_ n7_; clear hb hbox hg) | ((with_reducible refine gate_callee (f := 92) rfl ?_); refine goesL_ (some 5) rfl rfl Try.func92 (by kernel_rfl) rfl #[.pointer (some ⟨g, 0, none⟩), .int .i64 24] rfl zl ?_; (with_reducible refine (spec_l1DrawPool.calls k g s0_0 s0_1 s0_2 24 t312 t315 t316 w0 _ ?side1 ?side2 A2.out).mono ?_); (case side1 => repeat (first | (with_reducible first | exact HI0.out | apply IsS98.alloc | apply IsS98.drewN | apply IsS98.drew | apply IsS98.set_1 | apply IsS98.set_2 | refine IsS98.far ?_ NB0_311.out _) | exact HI0.out)); (case side2 => repeat (first | (with_reducible first | exact HB.out | apply below_alloc | apply pw_below_drewN | apply below_drew1 | refine below_set ?_ (IsS98.ge HI0.out) | refine below_set ?_ GE311.out) | exact HB.out)); rintro e w6 ⟨v313, rfl, ho0, hi, hb, hk⟩; refine ⟨_, rfl, ?_⟩; have n0_ := Aside0.mk (KeepBut.blk hk (g' := gb311) (o := .cells #[.slice none 0 0] 30 (0, 0)) (zh BK311.out) NB311_0.out (by simp)); have n1_ := Aside0.mk (Kd.R_lower ho0 (keep_size (w := w) (g := g) (row := none) (by repeat (first | (with_reducible first | exact HK.out | apply KeepBut.set_ | apply keep_drewN | apply keep_drew | apply keep_alloc | refine keep_far ?_ GW311.out _) | exact HK.out)))); have n2_ := Aside0.mk (KeepBut.trans (by repeat (first | (with_reducible first | exact HK.out | apply KeepBut.set_ | apply keep_drewN | apply keep_drew | apply keep_alloc | refine keep_far ?_ GW311.out _) | exact HK.out)) hk (.inl rfl)); have n3_ := Aside0.mk (hb); have n4_ := Aside0.mk (hi); clear BK311; clear HK; clear HB; clear HI0; have BK311 := n0_; have HO314 := n1_; have HK := n2_; have HB := n3_; have HI0 := n4_; clear n0_ n1_ n2_ n3_ n4_; (try clear hb); (try clear hb2); (try clear hk); (try clear hi); (try clear ho0)) | ((with_reducible refine gate_dst (N := 3) rfl ?_); refine box_event ?hg (N := 3) ?hd (cs := #[.slice none 0 0]) (t := 30) ?hr ?_; (case hd => rfl); (case hg => rfl); (case hr => first | (go_simp; done) | (go_simp; rfl)); intro gb317 hg w7 hbox hb; have n0_ := Aside0.mk (Kd.R_below (zr HO314.out) hb); have n1_ := Aside0.mk (IsS98.below (by repeat (first | (with_reducible first | exact HI0.out | apply IsS98.alloc | apply IsS98.drewN | apply IsS98.drew | apply IsS98.set_1 | apply IsS98.set_2 | refine IsS98.far ?_ NB0_311.out _) | exact HI0.out)) hb); have n2_ := Aside0.mk (blk_below (zh BK311.out) hb); have n3_ := Aside0.mk (KeepBut.trans (by repeat (first | (with_reducible first | exact HK.out | apply KeepBut.set_ | apply keep_drewN | apply keep_drew | apply keep_alloc | refine keep_far ?_ GW311.out _) | exact HK.out)) (KeepBut.of_below hb g none) (.inl rfl)); have n4_ := Aside0.mk (below_step (by repeat (first | (with_reducible first | exact HB.out | apply below_alloc | apply pw_below_drewN | apply below_drew1 | refine below_set ?_ (IsS98.ge HI0.out) | refine below_set ?_ GE311.out) | exact HB.out)) hb); have n5_ := Aside0.mk (hbox); have n6_ := Aside0.mk ((by rw [hg]; exact (keep_size (w := w) (g := g) (row := none) (by repeat (first | (with_reducible first | exact HK.out | apply KeepBut.set_ | apply keep_drewN | apply keep_drew | apply keep_alloc | refine keep_far ?_ GW311.out _) | exact HK.out))) : w.heap.size ≤ gb317)); have n7_ := Aside0.mk ((Nat.le_trans HW0.out (by rw [hg]; exact (keep_size (w := w) (g := g) (row := none) (by repeat (first | (with_reducible first | exact HK.out | apply KeepBut.set_ | apply keep_drewN | apply keep_drew | apply keep_alloc | refine keep_far ?_ GW311.out _) | exact HK.out))) : w.heap.size ≤ gb317) : w0.heap.size ≤ gb317)); have n8_ := Aside0.mk ((by rw [hg]; exact Nat.ne_of_lt (blk_lt (zh BK311.out)) : gb311 ≠ gb317)); have n9_ := Aside0.mk ((by rw [hg]; exact Nat.ne_of_gt (blk_lt (zh BK311.out)) : gb317 ≠ gb311)); have n10_ := Aside0.mk ((by rw [hg]; exact Nat.ne_of_lt (IsS98.lt (show IsS98 w0 _ g s0_0 t315 t316 from by repeat (first | (with_reducible first | exact HI0.out | apply IsS98.alloc | apply IsS98.drewN | apply IsS98.drew | apply IsS98.set_1 | apply IsS98.set_2 | refine IsS98.far ?_ NB0_311.out _) | exact HI0.out))) : g ≠ gb317)); have n11_ := Aside0.mk ((by rw [hg]; exact Nat.ne_of_gt (IsS98.lt (show IsS98 w0 _ g s0_0 t315 t316 from by repeat (first | (with_reducible first | exact HI0.out | apply IsS98.alloc | apply IsS98.drewN | apply IsS98.drew | apply IsS98.set_1 | apply IsS98.set_2 | refine IsS98.far ?_ NB0_311.out _) | exact HI0.out))) : gb317 ≠ g)); clear HO314; clear HI0; clear BK311; clear HK; clear HB; have HO314 := n0_; have HI0 := n1_; have BK311 := n2_; have HK := n3_; have HB := n4_; have BK317 := n5_; have GW317 := n6_; have GE317 := n7_; have NB311_317 := n8_; have NB317_311 := n9_; have NB0_317 := n10_; have NB317_0 := n11_; clear n0_ n1_ n2_ n3_ n4_ n5_ n6_ n7_ n8_ n9_ n10_ n11_; clear hb hbox hg; obtain ⟨Ao8, co8, eo8⟩ := Kd.R_slice HO314.out; subst eo8; have hnb9 := NB317_311.out; have hnc9 := NB311_317.out; have hnb10 := NB317_0.out; have hnc10 := NB0_317.out; have hcz11_0 : w7.cell? ⟨gb317, 0, none⟩ = some (.slice none 0 0) := (blk_cell BK317.out 0).trans rfl; have hfz11_0 := blk_frozen BK317.out 0) | ((with_reducible refine gate_callee (f := 93) rfl ?_); refine goesL_ (some 7) rfl rfl Try.func93 (by kernel_rfl) rfl #[.pointer (some ⟨g, 0, none⟩), .int .i64 25] rfl zl ?_; (with_reducible refine (spec_l1Below.calls g s0_0 t315 t316 25 t318 t319 t320 w0 _ ?side1 ?side2 A3.out).mono ?_); (case side1 => repeat (first | (with_reducible first | exact HI0.out | apply IsS98.alloc | apply IsS98.drewN | apply IsS98.drew | apply IsS98.set_1 | apply IsS98.set_2 | refine IsS98.far ?_ NB0_311.out _ | refine IsS98.far ?_ NB0_317.out _) | exact HI0.out)); (case side2 => repeat (first | (with_reducible first | exact HB.out | apply below_alloc | apply pw_below_drewN | apply below_drew1 | refine below_set ?_ (IsS98.ge HI0.out) | refine below_set ?_ GE311.out | refine below_set ?_ GE317.out) | exact HB.out)); rintro e w12 ⟨rfl, hi, hb, hk⟩; refine ⟨_, rfl, ?_⟩; have n0_ := Aside0.mk (KeepBut.blk hk (g' := gb311) (o := .cells #[.slice none 0 0] 30 (0, 0)) (zf BK311.out) NB311_0.out (by simp)); have n1_ := Aside0.mk (Kd.R_mono (Kd.R_keep (IsS98.apart (show IsS98 w0 _ g s0_0 t315 t316 from by repeat (first | (with_reducible first | exact HI0.out | apply IsS98.alloc | apply IsS98.drewN | apply IsS98.drew | apply IsS98.set_1 | apply IsS98.set_2 | refine IsS98.far ?_ NB0_311.out _ | refine IsS98.far ?_ NB0_317.out _) | exact HI0.out)) (by (with_reducible repeat (first | apply Kd.R_alloc | apply Kd.R_drewN | apply Kd.R_drew)); exact (Kd.R_mono (Kd.R_far (p := ⟨gb317, 0, none⟩) (Kd.R_types HO314.out BK317.out (by decide)) (fun _ hk => hk.2) (.slice Ao8 t312.length co8)) (fun _ h_ => h_.1))) (by decide)) hk (fun _ h => h.2)) (fun _ h => h.1)); have n2_ := Aside0.mk (KeepBut.blk hk (g' := gb317) (o := .cells #[.slice Ao8 t312.length co8] 30 (0, 0)) (by (with_reducible repeat (first | refine blk_drewN ?_ _ | refine blk_drew ?_ | refine blk_alloc ?_ _)); refine blk_put (cs := #[.slice none 0 0]) ?_ 0 _ rfl; (with_reducible repeat (first | refine blk_drewN ?_ _ | refine blk_drew ?_ | refine blk_alloc ?_ _)); exact BK317.out) NB317_0.out (by simp)); have n3_ := Aside0.mk (KeepBut.trans (by repeat (first | (with_reducible first | exact HK.out | apply KeepBut.set_ | apply keep_drewN | apply keep_drew | apply keep_alloc | refine keep_far ?_ GW311.out _ | refine keep_far ?_ GW317.out _) | exact HK.out)) hk (.inl rfl)); have n4_ := Aside0.mk (hb); have n5_ := Aside0.mk (hi); clear BK311; clear HO314; clear BK317; clear HK; clear HB; clear HI0; have BK311 := n0_; have HO314 := n1_; have BK317 := n2_; have HK := n3_; have HB := n4_; have HI0 := n5_; clear n0_ n1_ n2_ n3_ n4_ n5_; (try clear hb); (try clear hb2); (try clear hk); (try clear hi)))
 (try simp only [Act.put, List.setIfInBounds_toArray, List.set_cons_zero, List.set_cons_succ])
 go_cut [] (fun wc => ∃ (kq : Nat) (x1001_3 : Int) (x1002_3 : Int) (x318000_3 : List (S51)) (u318000 : Value), Aside0 (spec_l1DrawAny.j0 kq s0_0 x1001_3 x1002_3 x318000_3 = some (r1, r2, r3)) ∧ Aside0 (kq ≤ k) ∧ Aside0 (Kd.R k51 51 wc w.heap.size (fun _ => True) u318000 x318000_3) ∧ Aside0 (wc.heap[gb311]? = some (.cells #[(.slice none 0 0)] 30 (0, 0))) ∧ Aside0 (wc.heap[gb317]? = some (.cells #[u318000] 30 (0, 0))) ∧ Aside0 (IsS98 w0 wc g s0_0 x1001_3 x1002_3) ∧ Aside0 (KeepBut w wc g none) ∧ Aside0 (Below w0.heap.size w0 wc))
 case first =>
  have H := HC4.out
  clear HC4
  by_cases c13 : t318 = 0
  ·rw [if_pos c13] at H
   have c13b0 : (t318 == 0) = true := beq_iff_eq.mpr c13
   have c13b1 : (t318 != 0) = false := bne_eq_false_iff_eq.mpr c13
   clear c13
   (first | rw [c13b0] | (simp only [i64_w, i32_w]; rw [c13b0]) | skip)
   replace H := Option.bind_eq_some_iff.mp H
   obtain ⟨t321, A140, H⟩ := H
   replace H : ((spec_l1DrawNode.f k s0_0 t319 t320 3).bind fun bt324 => (if t321.length < 5864062014805 then (spec_l1DrawAny.j0 k s0_0 bt324.2.2.2.1 bt324.2.2.2.2 (t321 ++ [(⟨bt324.1, bt324.2.1, bt324.2.2.1⟩ : S51)])) else (none))) = some (r1, r2, r3) := H
   have A14 := Aside0.mk A140
   clear A140
   replace H := Option.bind_eq_some_iff.mp H
   obtain ⟨⟨t324, t325, t326, t327, t328⟩, A150, H⟩ := H
   replace H : (if t321.length < 5864062014805 then (spec_l1DrawAny.j0 k s0_0 t327 t328 (t321 ++ [(⟨t324, t325, t326⟩ : S51)])) else (none)) = some (r1, r2, r3) := H
   have A15 := Aside0.mk A150
   clear A150
   by_cases c16 : t321.length < 5864062014805
   ·rw [if_pos c16] at H
    have LMc16 := Aside0.mk c16
    clear c16
    obtain ⟨y329, hy329⟩ : ∃ y_ : List (S51), y_ = (t321 ++ [(⟨t324, t325, t326⟩ : S51)]) := ⟨_, rfl⟩
    replace H : (spec_l1DrawAny.j0 k s0_0 t327 t328 y329) = some (r1, r2, r3) := by first | (rw [hy329]; with_reducible exact H) | (have H2_ := (Option.bind_some _ _).symm.trans H; rw [hy329]; with_reducible exact H2_) | (have H2_ := (Option.bind_some _ _).symm.trans H; with_reducible exact H2_) | with_reducible exact H | (rw [hy329]; exact H) | exact H
    have Ny329 := Aside0.mk hy329
    clear hy329
    have H' := Aside0.mk H
    clear H
    have hnb17 := NB317_311.out
    have hnc17 := NB311_317.out
    have hnb18 := NB317_0.out
    have hnc18 := NB0_317.out
    have hcz19_0 : w12.cell? ⟨gb317, 0, none⟩ = some (.slice Ao8 t312.length co8) := (blk_cell BK317.out 0).trans rfl
    have hfz19_0 := blk_frozen BK317.out 0
    go_wp2_with (first | ((with_reducible refine gate_callee (f := 87) rfl ?_); refine goesL_ (some 11) rfl rfl Try.func87 (by kernel_rfl) rfl #[.agg #[.slice Ao8 t312.length co8]] rfl zl ?_; (with_reducible refine (spec_l1Copy.calls _ _ t312 t321 _ ?side1 ?side2 A14.out).mono ?_); (case side1 => exact zc (Kd.R_reads' HO314.out).2.2); (case side2 => exact (Kd.R_reads' HO314.out).2.1); rintro e w20 ⟨v322, rfl, ho0, hb⟩; refine ⟨_, rfl, ?_⟩; have n0_ := Aside0.mk (Kd.R_elder' (zr HO314.out) (Kd.R_base ho0) hb); have n1_ := Aside0.mk (Kd.R_lower (Kd.R_new' ho0 (Kd.R_lt (zr HO314.out))) (keep_size (w := w) (g := g) (row := none) (by repeat (first | (with_reducible first | exact HK.out | apply KeepBut.set_ | apply keep_drewN | apply keep_drew | apply keep_alloc | refine keep_far ?_ GW311.out _ | refine keep_far ?_ GW317.out _) | exact HK.out)))); have n2_ := Aside0.mk (IsS98.below (by repeat (first | (with_reducible first | exact HI0.out | apply IsS98.alloc | apply IsS98.drewN | apply IsS98.drew | apply IsS98.set_1 | apply IsS98.set_2 | refine IsS98.far ?_ NB0_311.out _ | refine IsS98.far ?_ NB0_317.out _) | exact HI0.out)) hb); have n3_ := Aside0.mk (blk_below (zh BK311.out) hb); have n4_ := Aside0.mk (blk_below (zh BK317.out) hb); have n5_ := Aside0.mk (KeepBut.trans (by repeat (first | (with_reducible first | exact HK.out | apply KeepBut.set_ | apply keep_drewN | apply keep_drew | apply keep_alloc | refine keep_far ?_ GW311.out _ | refine keep_far ?_ GW317.out _) | exact HK.out)) (KeepBut.of_below hb g none) (.inl rfl)); have n6_ := Aside0.mk (below_step (by repeat (first | (with_reducible first | exact HB.out | apply below_alloc | apply pw_below_drewN | apply below_drew1 | refine below_set ?_ (IsS98.ge HI0.out) | refine below_set ?_ GE311.out | refine below_set ?_ GE317.out) | exact HB.out)) hb); clear HO314; clear HI0; clear BK311; clear BK317; clear HK; clear HB; have HO314 := n0_; have HO323 := n1_; have HI0 := n2_; have BK311 := n3_; have BK317 := n4_; have HK := n5_; have HB := n6_; clear n0_ n1_ n2_ n3_ n4_ n5_ n6_; (try clear hb); (try clear hb2); (try clear hk); (try clear hi); (try clear ho0)) | ((with_reducible refine gate_callee (f := 94) rfl ?_); refine goesL_ (some 14) rfl rfl Try.func94 (by kernel_rfl) rfl #[.pointer (some ⟨g, 0, none⟩), .int .i64 3] rfl zl ?_; (with_reducible refine (spec_l1DrawNode.calls k g s0_0 t319 t320 3 t324 t325 t326 t327 t328 w0 _ ?side1 ?side2 A15.out).mono ?_); (case side1 => repeat (first | (with_reducible first | exact HI0.out | apply IsS98.alloc | apply IsS98.drewN | apply IsS98.drew | apply IsS98.set_1 | apply IsS98.set_2 | refine IsS98.far ?_ NB0_311.out _ | refine IsS98.far ?_ NB0_317.out _) | exact HI0.out)); (case side2 => repeat (first | (with_reducible first | exact HB.out | apply below_alloc | apply pw_below_drewN | apply below_drew1 | refine below_set ?_ (IsS98.ge HI0.out) | refine below_set ?_ GE311.out | refine below_set ?_ GE317.out) | exact HB.out)); rintro e w21 ⟨rfl, hi, hb, hk⟩; refine ⟨_, rfl, ?_⟩; have n0_ := Aside0.mk (KeepBut.blk hk (g' := gb311) (o := .cells #[.slice none 0 0] 30 (0, 0)) (zh BK311.out) NB311_0.out (by simp)); have n1_ := Aside0.mk (Kd.R_mono (Kd.R_keep (IsS98.apart (show IsS98 w0 _ g s0_0 t319 t320 from by repeat (first | (with_reducible first | exact HI0.out | apply IsS98.alloc | apply IsS98.drewN | apply IsS98.drew | apply IsS98.set_1 | apply IsS98.set_2 | refine IsS98.far ?_ NB0_311.out _ | refine IsS98.far ?_ NB0_317.out _) | exact HI0.out)) (zr HO314.out) (by decide)) hk (fun _ h => h.2)) (fun _ h => h.1)); have n2_ := Aside0.mk (KeepBut.blk hk (g' := gb317) (o := .cells #[.slice Ao8 t312.length co8] 30 (0, 0)) (zh BK317.out) NB317_0.out (by simp)); have n3_ := Aside0.mk (Kd.R_mono (Kd.R_keep (IsS98.apart (show IsS98 w0 _ g s0_0 t319 t320 from by repeat (first | (with_reducible first | exact HI0.out | apply IsS98.alloc | apply IsS98.drewN | apply IsS98.drew | apply IsS98.set_1 | apply IsS98.set_2 | refine IsS98.far ?_ NB0_311.out _ | refine IsS98.far ?_ NB0_317.out _) | exact HI0.out)) (zr HO323.out) (by decide)) hk (fun _ h => h.2)) (fun _ h => h.1)); have n4_ := Aside0.mk (KeepBut.trans (by repeat (first | (with_reducible first | exact HK.out | apply KeepBut.set_ | apply keep_drewN | apply keep_drew | apply keep_alloc | refine keep_far ?_ GW311.out _ | refine keep_far ?_ GW317.out _) | exact HK.out)) hk (.inl rfl)); have n5_ := Aside0.mk (hb); have n6_ := Aside0.mk (hi); clear BK311; clear HO314; clear BK317; clear HO323; clear HK; clear HB; clear HI0; have BK311 := n0_; have HO314 := n1_; have BK317 := n2_; have HO323 := n3_; have HK := n4_; have HB := n5_; have HI0 := n6_; clear n0_ n1_ n2_ n3_ n4_ n5_ n6_; (try clear hb); (try clear hb2); (try clear hk); (try clear hi)) | ((with_reducible refine gate_builtin (b := .append) (xs := #[.tmp 12, .tmp 15]) rfl ?_); at_builtin; refine Kd.R_append k51 w.heap.size rfl (.tmp 12) (.tmp 15) 28 51 (.agg #[(.int .i64 0), (.int .i64 0), (.int .i64 0)]) 24 rfl Try.underlying28 info51 rfl (by decide) (by omega) v322 t321 (⟨t324, t325, t326⟩ : S51) [.int .i64 t324, .int .i64 t325, .int .i64 t326] (fun k_ => some k_ ≠ (.slice Ao8 t312.length co8 : Value).ownBlock) (fun _ => False) rfl rfl ?aP (fun _ hk => hk.elim) ?aF ?aO (Below.refl _ _) ?aS ?aL ?_; (case aP => exact k51_mkM _ _ _ (⟨t324, t325, t326⟩ : S51)); (case aF => exact (fun k_ hk => Kd.fresh' (Kd.R_lt (zr HO314.out)) k_ hk)); (case aO => exact (by (with_reducible repeat (first | apply Kd.R_alloc | apply Kd.R_drewN | apply Kd.R_drew)); exact Kd.R_mono HO323.out (fun _ hk => hk.2))); (case aS => exact (keep_size (w := w) (g := g) (row := none) (by repeat (first | (with_reducible first | exact HK.out | apply KeepBut.set_ | apply keep_drewN | apply keep_drew | apply keep_alloc | refine keep_far ?_ GW311.out _ | refine keep_far ?_ GW317.out _) | exact HK.out)))); (case aL => have := LMc16.out; omega); intro v330 w22 ho hb hg hat; rw [← Ny329.out] at ho; have n0_ := Aside0.mk (IsS98.grown (by repeat (first | (with_reducible first | exact HI0.out | apply IsS98.alloc | apply IsS98.drewN | apply IsS98.drew | apply IsS98.set_1 | apply IsS98.set_2 | refine IsS98.far ?_ NB0_311.out _ | refine IsS98.far ?_ NB0_317.out _) | exact HI0.out)) hg (IsS98.own_ne HI0.out HO323.out (by decide))); have n1_ := Aside0.mk (blk_grown (zh BK311.out) hg (Kd.R_ne HO323.out BK311.out (by decide))); have n2_ := Aside0.mk (Kd.R_after (ok := (fun _ => True)) (zr HO314.out) hg hat); have n3_ := Aside0.mk (blk_grown (zh BK317.out) hg (Kd.R_ne HO323.out BK317.out (by decide))); have n4_ := Aside0.mk (below_weaken (by repeat (first | (with_reducible first | exact HB.out | apply below_alloc | apply pw_below_drewN | apply below_drew1 | refine below_set ?_ (IsS98.ge HI0.out) | refine below_set ?_ GE311.out | refine below_set ?_ GE317.out) | exact HB.out)) HL.out hb); have n5_ := Aside0.mk (KeepBut.trans (by repeat (first | (with_reducible first | exact HK.out | apply KeepBut.set_ | apply keep_drewN | apply keep_drew | apply keep_alloc | refine keep_far ?_ GW311.out _ | refine keep_far ?_ GW317.out _) | exact HK.out)) (KeepBut.of_grown hg g) (Kd.R_base2 HO323.out)); have n6_ := Aside0.mk (ho); clear HI0; clear BK311; clear HO314; clear BK317; clear HB; clear HK; clear HO323; have HI0 := n0_; have BK311 := n1_; have HO314 := n2_; have BK317 := n3_; have HB := n4_; have HK := n5_; have HO331 := n6_; clear n0_ n1_ n2_ n3_ n4_ n5_ n6_; clear ho hb hg hat; obtain ⟨Ao23, co23, eo23⟩ := Kd.R_slice HO331.out; subst eo23; have hcz24_0 : w22.cell? ⟨gb317, 0, none⟩ = some (.slice Ao8 t312.length co8) := (blk_cell BK317.out 0).trans rfl; have hfz24_0 := blk_frozen BK317.out 0))
    go_meet
    case rel => exact ⟨_, (t327), (t328), (y329), (.slice Ao23 y329.length co23), H', ⟨by first | omega | exact Nat.le_refl _⟩, ⟨zr (Kd.R_mono (Kd.R_far (p := ⟨gb317, 0, none⟩) (Kd.R_types HO331.out BK317.out (by decide)) (fun _ hk => hk.2) (.slice Ao23 y329.length co23)) (fun _ hk => trivial))⟩, ⟨zf BK311.out⟩, ⟨by (with_reducible repeat (first | refine blk_drewN ?_ _ | refine blk_drew ?_ | refine blk_alloc ?_ _)); refine blk_put (cs := #[.slice Ao8 t312.length co8]) ?_ 0 _ rfl; (with_reducible repeat (first | refine blk_drewN ?_ _ | refine blk_drew ?_ | refine blk_alloc ?_ _)); exact BK317.out⟩, ⟨by repeat (first | (with_reducible first | exact HI0.out | apply IsS98.alloc | apply IsS98.drewN | apply IsS98.drew | apply IsS98.set_1 | apply IsS98.set_2 | refine IsS98.far ?_ NB0_311.out _ | refine IsS98.far ?_ NB0_317.out _) | exact HI0.out)⟩, ⟨by repeat (first | (with_reducible first | exact HK.out | apply KeepBut.set_ | apply keep_drewN | apply keep_drew | apply keep_alloc | refine keep_far ?_ GW311.out _ | refine keep_far ?_ GW317.out _) | exact HK.out)⟩, ⟨by repeat (first | (with_reducible first | exact HB.out | apply below_alloc | apply pw_below_drewN | apply below_drew1 | refine below_set ?_ (IsS98.ge HI0.out) | refine below_set ?_ GE311.out | refine below_set ?_ GE317.out) | exact HB.out)⟩⟩
   ·rw [if_neg c16] at H
    exact absurd H (by simp)
  ·rw [if_neg c13] at H
   have c13b0 : (t318 == 0) = false := beq_eq_false_iff_ne.mpr c13
   have c13b1 : (t318 != 0) = true := bne_iff_ne.mpr c13
   (first | rw [c13b0] | (simp only [i64_w, i32_w]; rw [c13b0]) | skip)
   by_cases c25 : t318 = 1
   ·rw [if_pos c25] at H
    have c25b0 : (t318 == 1) = true := beq_iff_eq.mpr c25
    have c25b1 : (t318 != 1) = false := bne_eq_false_iff_eq.mpr c25
    clear c25
    replace H := Option.bind_eq_some_iff.mp H
    obtain ⟨t332, A260, H⟩ := H
    replace H : ((spec_l1Below.f s0_0 t319 t320 10).bind fun bt335 => ((spec_l1Below.f s0_0 bt335.2.1 bt335.2.2 30).bind fun bt338 => ((spec_l1Below.f s0_0 bt338.2.1 bt338.2.2 30).bind fun bt341 => (if t332.length < 5864062014805 then (spec_l1DrawAny.j0 k s0_0 bt341.2.1 bt341.2.2 (t332 ++ [(⟨bt335.1, wrap64 (bt338.1 - 1), wrap64 (bt341.1 - 1)⟩ : S51)])) else (none))))) = some (r1, r2, r3) := H
    have A26 := Aside0.mk A260
    clear A260
    replace H := Option.bind_eq_some_iff.mp H
    obtain ⟨⟨t335, t336, t337⟩, A270, H⟩ := H
    replace H : ((spec_l1Below.f s0_0 t336 t337 30).bind fun bt338 => ((spec_l1Below.f s0_0 bt338.2.1 bt338.2.2 30).bind fun bt341 => (if t332.length < 5864062014805 then (spec_l1DrawAny.j0 k s0_0 bt341.2.1 bt341.2.2 (t332 ++ [(⟨t335, wrap64 (bt338.1 - 1), wrap64 (bt341.1 - 1)⟩ : S51)])) else (none)))) = some (r1, r2, r3) := H
    have A27 := Aside0.mk A270
    clear A270
    replace H := Option.bind_eq_some_iff.mp H
    obtain ⟨⟨t338, t339, t340⟩, A280, H⟩ := H
    replace H : ((spec_l1Below.f s0_0 t339 t340 30).bind fun bt341 => (if t332.length < 5864062014805 then (spec_l1DrawAny.j0 k s0_0 bt341.2.1 bt341.2.2 (t332 ++ [(⟨t335, wrap64 (t338 - 1), wrap64 (bt341.1 - 1)⟩ : S51)])) else (none))) = some (r1, r2, r3) := H
    have A28 := Aside0.mk A280
    clear A280
    replace H := Option.bind_eq_some_iff.mp H
    obtain ⟨⟨t341, t342, t343⟩, A290, H⟩ := H
    replace H : (if t332.length < 5864062014805 then (spec_l1DrawAny.j0 k s0_0 t342 t343 (t332 ++ [(⟨t335, wrap64 (t338 - 1), wrap64 (t341 - 1)⟩ : S51)])) else (none)) = some (r1, r2, r3) := H
    have A29 := Aside0.mk A290
    clear A290
    by_cases c30 : t332.length < 5864062014805
    ·rw [if_pos c30] at H
     have LMc30 := Aside0.mk c30
     clear c30
     obtain ⟨y344, hy344⟩ : ∃ y_ : List (S51), y_ = (t332 ++ [(⟨t335, wrap64 (t338 - 1), wrap64 (t341 - 1)⟩ : S51)]) := ⟨_, rfl⟩
     replace H : (spec_l1DrawAny.j0 k s0_0 t342 t343 y344) = some (r1, r2, r3) := by first | (rw [hy344]; with_reducible exact H) | (have H2_ := (Option.bind_some _ _).symm.trans H; rw [hy344]; with_reducible exact H2_) | (have H2_ := (Option.bind_some _ _).symm.trans H; with_reducible exact H2_) | with_reducible exact H | (rw [hy344]; exact H) | exact H
     have Ny344 := Aside0.mk hy344
     clear hy344
     have H' := Aside0.mk H
     clear H
     have hnb31 := NB317_311.out
     have hnc31 := NB311_317.out
     have hnb32 := NB317_0.out
     have hnc32 := NB0_317.out
     have hcz33_0 : w12.cell? ⟨gb317, 0, none⟩ = some (.slice Ao8 t312.length co8) := (blk_cell BK317.out 0).trans rfl
     have hfz33_0 := blk_frozen BK317.out 0
     go_wp2_with (first | ((with_reducible refine gate_callee (f := 87) rfl ?_); refine goesL_ (some 21) rfl rfl Try.func87 (by kernel_rfl) rfl #[.agg #[.slice Ao8 t312.length co8]] rfl zl ?_; (with_reducible refine (spec_l1Copy.calls _ _ t312 t332 _ ?side1 ?side2 A26.out).mono ?_); (case side1 => exact zc (Kd.R_reads' HO314.out).2.2); (case side2 => exact (Kd.R_reads' HO314.out).2.1); rintro e w34 ⟨v333, rfl, ho0, hb⟩; refine ⟨_, rfl, ?_⟩; have n0_ := Aside0.mk (Kd.R_elder' (zr HO314.out) (Kd.R_base ho0) hb); have n1_ := Aside0.mk (Kd.R_lower (Kd.R_new' ho0 (Kd.R_lt (zr HO314.out))) (keep_size (w := w) (g := g) (row := none) (by repeat (first | (with_reducible first | exact HK.out | apply KeepBut.set_ | apply keep_drewN | apply keep_drew | apply keep_alloc | refine keep_far ?_ GW311.out _ | refine keep_far ?_ GW317.out _) | exact HK.out)))); have n2_ := Aside0.mk (IsS98.below (by repeat (first | (with_reducible first | exact HI0.out | apply IsS98.alloc | apply IsS98.drewN | apply IsS98.drew | apply IsS98.set_1 | apply IsS98.set_2 | refine IsS98.far ?_ NB0_311.out _ | refine IsS98.far ?_ NB0_317.out _) | exact HI0.out)) hb); have n3_ := Aside0.mk (blk_below (zh BK311.out) hb); have n4_ := Aside0.mk (blk_below (zh BK317.out) hb); have n5_ := Aside0.mk (KeepBut.trans (by repeat (first | (with_reducible first | exact HK.out | apply KeepBut.set_ | apply keep_drewN | apply keep_drew | apply keep_alloc | refine keep_far ?_ GW311.out _ | refine keep_far ?_ GW317.out _) | exact HK.out)) (KeepBut.of_below hb g none) (.inl rfl)); have n6_ := Aside0.mk (below_step (by repeat (first | (with_reducible first | exact HB.out | apply below_alloc | apply pw_below_drewN | apply below_drew1 | refine below_set ?_ (IsS98.ge HI0.out) | refine below_set ?_ GE311.out | refine below_set ?_ GE317.out) | exact HB.out)) hb); clear HO314; clear HI0; clear BK311; clear BK317; clear HK; clear HB; have HO314 := n0_; have HO334 := n1_; have HI0 := n2_; have BK311 := n3_; have BK317 := n4_; have HK := n5_; have HB := n6_; clear n0_ n1_ n2_ n3_ n4_ n5_ n6_; (try clear hb); (try clear hb2); (try clear hk); (try clear hi); (try clear ho0)) | ((with_reducible refine gate_callee (f := 93) rfl ?_); refine goesL_ (some 24) rfl rfl Try.func93 (by kernel_rfl) rfl #[.pointer (some ⟨g, 0, none⟩), .int .i64 10] rfl zl ?_; (with_reducible refine (spec_l1Below.calls g s0_0 t319 t320 10 t335 t336 t337 w0 _ ?side1 ?side2 A27.out).mono ?_); (case side1 => repeat (first | (with_reducible first | exact HI0.out | apply IsS98.alloc | apply IsS98.drewN | apply IsS98.drew | apply IsS98.set_1 | apply IsS98.set_2 | refine IsS98.far ?_ NB0_311.out _ | refine IsS98.far ?_ NB0_317.out _) | exact HI0.out)); (case side2 => repeat (first | (with_reducible first | exact HB.out | apply below_alloc | apply pw_below_drewN | apply below_drew1 | refine below_set ?_ (IsS98.ge HI0.out) | refine below_set ?_ GE311.out | refine below_set ?_ GE317.out) | exact HB.out)); rintro e w35 ⟨rfl, hi, hb, hk⟩; refine ⟨_, rfl, ?_⟩; have n0_ := Aside0.mk (KeepBut.blk hk (g' := gb311) (o := .cells #[.slice none 0 0] 30 (0, 0)) (zh BK311.out) NB311_0.out (by simp)); have n1_ := Aside0.mk (Kd.R_mono (Kd.R_keep (IsS98.apart (show IsS98 w0 _ g s0_0 t319 t320 from by repeat (first | (with_reducible first | exact HI0.out | apply IsS98.alloc | apply IsS98.drewN | apply IsS98.drew | apply IsS98.set_1 | apply IsS98.set_2 | refine IsS98.far ?_ NB0_311.out _ | refine IsS98.far ?_ NB0_317.out _) | exact HI0.out)) (zr HO314.out) (by decide)) hk (fun _ h => h.2)) (fun _ h => h.1)); have n2_ := Aside0.mk (KeepBut.blk hk (g' := gb317) (o := .cells #[.slice Ao8 t312.length co8] 30 (0, 0)) (zh BK317.out) NB317_0.out (by simp)); have n3_ := Aside0.mk (Kd.R_mono (Kd.R_keep (IsS98.apart (show IsS98 w0 _ g s0_0 t319 t320 from by repeat (first | (with_reducible first | exact HI0.out | apply IsS98.alloc | apply IsS98.drewN | apply IsS98.drew | apply IsS98.set_1 | apply IsS98.set_2 | refine IsS98.far ?_ NB0_311.out _ | refine IsS98.far ?_ NB0_317.out _) | exact HI0.out)) (zr HO334.out) (by decide)) hk (fun _ h => h.2)) (fun _ h => h.1)); have n4_ := Aside0.mk (KeepBut.trans (by repeat (first | (with_reducible first | exact HK.out | apply KeepBut.set_ | apply keep_drewN | apply keep_drew | apply keep_alloc | refine keep_far ?_ GW311.out _ | refine keep_far ?_ GW317.out _) | exact HK.out)) hk (.inl rfl)); have n5_ := Aside0.mk (hb); have n6_ := Aside0.mk (hi); clear BK311; clear HO314; clear BK317; clear HO334; clear HK; clear HB; clear HI0; have BK311 := n0_; have HO314 := n1_; have BK317 := n2_; have HO334 := n3_; have HK := n4_; have HB := n5_; have HI0 := n6_; clear n0_ n1_ n2_ n3_ n4_ n5_ n6_; (try clear hb); (try clear hb2); (try clear hk); (try clear hi)) | ((with_reducible refine gate_callee (f := 93) rfl ?_); refine goesL_ (some 26) rfl rfl Try.func93 (by kernel_rfl) rfl #[.pointer (some ⟨g, 0, none⟩), .int .i64 30] rfl zl ?_; (with_reducible refine (spec_l1Below.calls g s0_0 t336 t337 30 t338 t339 t340 w0 _ ?side1 ?side2 A28.out).mono ?_); (case side1 => repeat (first | (with_reducible first | exact HI0.out | apply IsS98.alloc | apply IsS98.drewN | apply IsS98.drew | apply IsS98.set_1 | apply IsS98.set_2 | refine IsS98.far ?_ NB0_311.out _ | refine IsS98.far ?_ NB0_317.out _) | exact HI0.out)); (case side2 => repeat (first | (with_reducible first | exact HB.out | apply below_alloc | apply pw_below_drewN | apply below_drew1 | refine below_set ?_ (IsS98.ge HI0.out) | refine below_set ?_ GE311.out | refine below_set ?_ GE317.out) | exact HB.out)); rintro e w36 ⟨rfl, hi, hb, hk⟩; refine ⟨_, rfl, ?_⟩; have n0_ := Aside0.mk (KeepBut.blk hk (g' := gb311) (o := .cells #[.slice none 0 0] 30 (0, 0)) (zh BK311.out) NB311_0.out (by simp)); have n1_ := Aside0.mk (Kd.R_mono (Kd.R_keep (IsS98.apart (show IsS98 w0 _ g s0_0 t336 t337 from by repeat (first | (with_reducible first | exact HI0.out | apply IsS98.alloc | apply IsS98.drewN | apply IsS98.drew | apply IsS98.set_1 | apply IsS98.set_2 | refine IsS98.far ?_ NB0_311.out _ | refine IsS98.far ?_ NB0_317.out _) | exact HI0.out)) (zr HO314.out) (by decide)) hk (fun _ h => h.2)) (fun _ h => h.1)); have n2_ := Aside0.mk (KeepBut.blk hk (g' := gb317) (o := .cells #[.slice Ao8 t312.length co8] 30 (0, 0)) (zh BK317.out) NB317_0.out (by simp)); have n3_ := Aside0.mk (Kd.R_mono (Kd.R_keep (IsS98.apart (show IsS98 w0 _ g s0_0 t336 t337 from by repeat (first | (with_reducible first | exact HI0.out | apply IsS98.alloc | apply IsS98.drewN | apply IsS98.drew | apply IsS98.set_1 | apply IsS98.set_2 | refine IsS98.far ?_ NB0_311.out _ | refine IsS98.far ?_ NB0_317.out _) | exact HI0.out)) (zr HO334.out) (by decide)) hk (fun _ h => h.2)) (fun _ h => h.1)); have n4_ := Aside0.mk (KeepBut.trans (by repeat (first | (with_reducible first | exact HK.out | apply KeepBut.set_ | apply keep_drewN | apply keep_drew | apply keep_alloc | refine keep_far ?_ GW311.out _ | refine keep_far ?_ GW317.out _) | exact HK.out)) hk (.inl rfl)); have n5_ := Aside0.mk (hb); have n6_ := Aside0.mk (hi); clear BK311; clear HO314; clear BK317; clear HO334; clear HK; clear HB; clear HI0; have BK311 := n0_; have HO314 := n1_; have BK317 := n2_; have HO334 := n3_; have HK := n4_; have HB := n5_; have HI0 := n6_; clear n0_ n1_ n2_ n3_ n4_ n5_ n6_; (try clear hb); (try clear hb2); (try clear hk); (try clear hi)) | ((with_reducible refine gate_callee (f := 93) rfl ?_); refine goesL_ (some 29) rfl rfl Try.func93 (by kernel_rfl) rfl #[.pointer (some ⟨g, 0, none⟩), .int .i64 30] rfl zl ?_; (with_reducible refine (spec_l1Below.calls g s0_0 t339 t340 30 t341 t342 t343 w0 _ ?side1 ?side2 A29.out).mono ?_); (case side1 => repeat (first | (with_reducible first | exact HI0.out | apply IsS98.alloc | apply IsS98.drewN | apply IsS98.drew | apply IsS98.set_1 | apply IsS98.set_2 | refine IsS98.far ?_ NB0_311.out _ | refine IsS98.far ?_ NB0_317.out _) | exact HI0.out)); (case side2 => repeat (first | (with_reducible first | exact HB.out | apply below_alloc | apply pw_below_drewN | apply below_drew1 | refine below_set ?_ (IsS98.ge HI0.out) | refine below_set ?_ GE311.out | refine below_set ?_ GE317.out) | exact HB.out)); rintro e w37 ⟨rfl, hi, hb, hk⟩; refine ⟨_, rfl, ?_⟩; have n0_ := Aside0.mk (KeepBut.blk hk (g' := gb311) (o := .cells #[.slice none 0 0] 30 (0, 0)) (zh BK311.out) NB311_0.out (by simp)); have n1_ := Aside0.mk (Kd.R_mono (Kd.R_keep (IsS98.apart (show IsS98 w0 _ g s0_0 t339 t340 from by repeat (first | (with_reducible first | exact HI0.out | apply IsS98.alloc | apply IsS98.drewN | apply IsS98.drew | apply IsS98.set_1 | apply IsS98.set_2 | refine IsS98.far ?_ NB0_311.out _ | refine IsS98.far ?_ NB0_317.out _) | exact HI0.out)) (zr HO314.out) (by decide)) hk (fun _ h => h.2)) (fun _ h => h.1)); have n2_ := Aside0.mk (KeepBut.blk hk (g' := gb317) (o := .cells #[.slice Ao8 t312.length co8] 30 (0, 0)) (zh BK317.out) NB317_0.out (by simp)); have n3_ := Aside0.mk (Kd.R_mono (Kd.R_keep (IsS98.apart (show IsS98 w0 _ g s0_0 t339 t340 from by repeat (first | (with_reducible first | exact HI0.out | apply IsS98.alloc | apply IsS98.drewN | apply IsS98.drew | apply IsS98.set_1 | apply IsS98.set_2 | refine IsS98.far ?_ NB0_311.out _ | refine IsS98.far ?_ NB0_317.out _) | exact HI0.out)) (zr HO334.out) (by decide)) hk (fun _ h => h.2)) (fun _ h => h.1)); have n4_ := Aside0.mk (KeepBut.trans (by repeat (first | (with_reducible first | exact HK.out | apply KeepBut.set_ | apply keep_drewN | apply keep_drew | apply keep_alloc | refine keep_far ?_ GW311.out _ | refine keep_far ?_ GW317.out _) | exact HK.out)) hk (.inl rfl)); have n5_ := Aside0.mk (hb); have n6_ := Aside0.mk (hi); clear BK311; clear HO314; clear BK317; clear HO334; clear HK; clear HB; clear HI0; have BK311 := n0_; have HO314 := n1_; have BK317 := n2_; have HO334 := n3_; have HK := n4_; have HB := n5_; have HI0 := n6_; clear n0_ n1_ n2_ n3_ n4_ n5_ n6_; (try clear hb); (try clear hb2); (try clear hk); (try clear hi)) | ((with_reducible refine gate_builtin (b := .append) (xs := #[.tmp 22, .tmp 32]) rfl ?_); at_builtin; refine Kd.R_append k51 w.heap.size rfl (.tmp 22) (.tmp 32) 28 51 (.agg #[(.int .i64 0), (.int .i64 0), (.int .i64 0)]) 24 rfl Try.underlying28 info51 rfl (by decide) (by omega) v333 t332 (⟨t335, wrap64 (t338 - 1), wrap64 (t341 - 1)⟩ : S51) [.int .i64 t335, .int .i64 (wrap64 (t338 - 1)), .int .i64 (wrap64 (t341 - 1))] (fun k_ => some k_ ≠ (.slice Ao8 t312.length co8 : Value).ownBlock) (fun _ => False) rfl rfl ?aP (fun _ hk => hk.elim) ?aF ?aO (Below.refl _ _) ?aS ?aL ?_; (case aP => exact k51_mkM _ _ _ (⟨t335, wrap64 (t338 - 1), wrap64 (t341 - 1)⟩ : S51)); (case aF => exact (fun k_ hk => Kd.fresh' (Kd.R_lt (zr HO314.out)) k_ hk)); (case aO => exact (by (with_reducible repeat (first | apply Kd.R_alloc | apply Kd.R_drewN | apply Kd.R_drew)); exact Kd.R_mono HO334.out (fun _ hk => hk.2))); (case aS => exact (keep_size (w := w) (g := g) (row := none) (by repeat (first | (with_reducible first | exact HK.out | apply KeepBut.set_ | apply keep_drewN | apply keep_drew | apply keep_alloc | refine keep_far ?_ GW311.out _ | refine keep_far ?_ GW317.out _) | exact HK.out)))); (case aL => have := LMc30.out; omega); intro v345 w38 ho hb hg hat; rw [← Ny344.out] at ho; have n0_ := Aside0.mk (IsS98.grown (by repeat (first | (with_reducible first | exact HI0.out | apply IsS98.alloc | apply IsS98.drewN | apply IsS98.drew | apply IsS98.set_1 | apply IsS98.set_2 | refine IsS98.far ?_ NB0_311.out _ | refine IsS98.far ?_ NB0_317.out _) | exact HI0.out)) hg (IsS98.own_ne HI0.out HO334.out (by decide))); have n1_ := Aside0.mk (blk_grown (zh BK311.out) hg (Kd.R_ne HO334.out BK311.out (by decide))); have n2_ := Aside0.mk (Kd.R_after (ok := (fun _ => True)) (zr HO314.out) hg hat); have n3_ := Aside0.mk (blk_grown (zh BK317.out) hg (Kd.R_ne HO334.out BK317.out (by decide))); have n4_ := Aside0.mk (below_weaken (by repeat (first | (with_reducible first | exact HB.out | apply below_alloc | apply pw_below_drewN | apply below_drew1 | refine below_set ?_ (IsS98.ge HI0.out) | refine below_set ?_ GE311.out | refine below_set ?_ GE317.out) | exact HB.out)) HL.out hb); have n5_ := Aside0.mk (KeepBut.trans (by repeat (first | (with_reducible first | exact HK.out | apply KeepBut.set_ | apply keep_drewN | apply keep_drew | apply keep_alloc | refine keep_far ?_ GW311.out _ | refine keep_far ?_ GW317.out _) | exact HK.out)) (KeepBut.of_grown hg g) (Kd.R_base2 HO334.out)); have n6_ := Aside0.mk (ho); clear HI0; clear BK311; clear HO314; clear BK317; clear HB; clear HK; clear HO334; have HI0 := n0_; have BK311 := n1_; have HO314 := n2_; have BK317 := n3_; have HB := n4_; have HK := n5_; have HO346 := n6_; clear n0_ n1_ n2_ n3_ n4_ n5_ n6_; clear ho hb hg hat; obtain ⟨Ao39, co39, eo39⟩ := Kd.R_slice HO346.out; subst eo39; have hcz40_0 : w38.cell? ⟨gb317, 0, none⟩ = some (.slice Ao8 t312.length co8) := (blk_cell BK317.out 0).trans rfl; have hfz40_0 := blk_frozen BK317.out 0))
     go_meet
     case rel => exact ⟨_, (t342), (t343), (y344), (.slice Ao39 y344.length co39), H', ⟨by first | omega | exact Nat.le_refl _⟩, ⟨zr (Kd.R_mono (Kd.R_far (p := ⟨gb317, 0, none⟩) (Kd.R_types HO346.out BK317.out (by decide)) (fun _ hk => hk.2) (.slice Ao39 y344.length co39)) (fun _ hk => trivial))⟩, ⟨zf BK311.out⟩, ⟨by (with_reducible repeat (first | refine blk_drewN ?_ _ | refine blk_drew ?_ | refine blk_alloc ?_ _)); refine blk_put (cs := #[.slice Ao8 t312.length co8]) ?_ 0 _ rfl; (with_reducible repeat (first | refine blk_drewN ?_ _ | refine blk_drew ?_ | refine blk_alloc ?_ _)); exact BK317.out⟩, ⟨by repeat (first | (with_reducible first | exact HI0.out | apply IsS98.alloc | apply IsS98.drewN | apply IsS98.drew | apply IsS98.set_1 | apply IsS98.set_2 | refine IsS98.far ?_ NB0_311.out _ | refine IsS98.far ?_ NB0_317.out _) | exact HI0.out)⟩, ⟨by repeat (first | (with_reducible first | exact HK.out | apply KeepBut.set_ | apply keep_drewN | apply keep_drew | apply keep_alloc | refine keep_far ?_ GW311.out _ | refine keep_far ?_ GW317.out _) | exact HK.out)⟩, ⟨by repeat (first | (with_reducible first | exact HB.out | apply below_alloc | apply pw_below_drewN | apply below_drew1 | refine below_set ?_ (IsS98.ge HI0.out) | refine below_set ?_ GE311.out | refine below_set ?_ GE317.out) | exact HB.out)⟩⟩
    ·rw [if_neg c30] at H
     exact absurd H (by simp)
   ·rw [if_neg c25] at H
    have c25b0 : (t318 == 1) = false := beq_eq_false_iff_ne.mpr c25
    have c25b1 : (t318 != 1) = true := bne_iff_ne.mpr c25
    have H' := Aside0.mk H
    clear H
    go_wp2
    go_meet
    case rel => exact ⟨_, (t319), (t320), (t312), (.slice Ao8 t312.length co8), H', ⟨by first | omega | exact Nat.le_refl _⟩, ⟨zr HO314.out⟩, ⟨zh BK311.out⟩, ⟨zh BK317.out⟩, ⟨by repeat (first | (with_reducible first | exact HI0.out | apply IsS98.alloc | apply IsS98.drewN | apply IsS98.drew | apply IsS98.set_1 | apply IsS98.set_2 | refine IsS98.far ?_ NB0_311.out _ | refine IsS98.far ?_ NB0_317.out _) | exact HI0.out)⟩, ⟨by repeat (first | (with_reducible first | exact HK.out | apply KeepBut.set_ | apply keep_drewN | apply keep_drew | apply keep_alloc | refine keep_far ?_ GW311.out _ | refine keep_far ?_ GW317.out _) | exact HK.out)⟩, ⟨by repeat (first | (with_reducible first | exact HB.out | apply below_alloc | apply pw_below_drewN | apply below_drew1 | refine below_set ?_ (IsS98.ge HI0.out) | refine below_set ?_ GE311.out | refine below_set ?_ GE317.out) | exact HB.out)⟩⟩
 case rest =>
  clear HC4
  try clear c1
  try clear c2
  try clear p2
  try clear c3
  try clear p6
  try clear c7
  try clear c8
  try clear c9
  try clear c10
  try clear c13
  try clear c13b0
  try clear c13b1
  try clear c16
  try clear c17
  try clear c18
  try clear c25
  try clear c25b0
  try clear c25b1
  try clear c30
  try clear c31
  try clear c32
  try clear hcz11_0
  try clear hcz19_0
  try clear hcz24_0
  try clear hcz33_0
  try clear hcz40_0
  try clear hfz11_0
  try clear hfz19_0
  try clear hfz24_0
  try clear hfz33_0
  try clear hfz40_0
  obtain ⟨kq, x1001_3, x1002_3, x318000_3, u318000, HA, HJ3, HO_318000, BK311, BK317, HI0, HK, HB⟩ := hcut
  cases kq with
  | zero => exact absurd HA.out (by simp [spec_l1DrawAny.j0])
  | succ kj3 =>
   have H := HA.out
   clear HA
   simp only [spec_l1DrawAny.j0] at H
   replace H := Option.bind_eq_some_iff.mp H
   obtain ⟨⟨t347, t348, t349⟩, A410, H⟩ := H
   replace H : (if t347 = true then (spec_l1DrawAny.l0 kj3 s0_0 t348 t349 ([] : List (S51))) else (some (x318000_3, t348, t349))) = some (r1, r2, r3) := H
   have A41 := Aside0.mk A410
   clear A410
   by_cases c42 : t347 = true
   ·subst c42
    have H1 : (spec_l1DrawAny.l0 kj3 s0_0 t348 t349 ([] : List (S51))) = some (r1, r2, r3) := by rw [if_pos rfl] at H; exact H
    clear H
    have H := H1
    clear H1
    have H' := Aside0.mk H
    clear H
    go_wp2_with (first | ((with_reducible refine gate_callee (f := 95) rfl ?_); refine goesL_ (some 36) rfl rfl Try.func95 (by kernel_rfl) rfl #[.pointer (some ⟨g, 0, none⟩), .int .i64 80] rfl zl ?_; (with_reducible refine (spec_l1Once.calls g s0_0 x1001_3 x1002_3 80 true t348 t349 w0 _ ?side1 ?side2 A41.out).mono ?_); (case side1 => repeat (first | (with_reducible first | exact HI0.out | apply IsS98.alloc | apply IsS98.drewN | apply IsS98.drew | apply IsS98.set_1 | apply IsS98.set_2 | refine IsS98.far ?_ NB0_311.out _ | refine IsS98.far ?_ NB0_317.out _) | exact HI0.out)); (case side2 => repeat (first | (with_reducible first | exact HB.out | apply below_alloc | apply pw_below_drewN | apply below_drew1 | refine below_set ?_ (IsS98.ge HI0.out) | refine below_set ?_ GE311.out | refine below_set ?_ GE317.out) | exact HB.out)); rintro e w43 ⟨rfl, hi, hb, hk⟩; refine ⟨_, rfl, ?_⟩; have n0_ := Aside0.mk (Kd.R_mono (Kd.R_keep (IsS98.apart (show IsS98 w0 _ g s0_0 x1001_3 x1002_3 from by repeat (first | (with_reducible first | exact HI0.out | apply IsS98.alloc | apply IsS98.drewN | apply IsS98.drew | apply IsS98.set_1 | apply IsS98.set_2 | refine IsS98.far ?_ NB0_311.out _ | refine IsS98.far ?_ NB0_317.out _) | exact HI0.out)) (zr HO_318000.out) (by decide)) hk (fun _ h => h.2)) (fun _ h => h.1)); have n1_ := Aside0.mk (KeepBut.blk hk (g' := gb311) (o := .cells #[.slice none 0 0] 30 (0, 0)) (zh BK311.out) NB311_0.out (by simp)); have n2_ := Aside0.mk (KeepBut.blk hk (g' := gb317) (o := .cells #[u318000] 30 (0, 0)) (zh BK317.out) NB317_0.out (by simp)); have n3_ := Aside0.mk (KeepBut.trans (by repeat (first | (with_reducible first | exact HK.out | apply KeepBut.set_ | apply keep_drewN | apply keep_drew | apply keep_alloc | refine keep_far ?_ GW311.out _ | refine keep_far ?_ GW317.out _) | exact HK.out)) hk (.inl rfl)); have n4_ := Aside0.mk (hb); have n5_ := Aside0.mk (hi); clear HO_318000; clear BK311; clear BK317; clear HK; clear HB; clear HI0; have HO_318000 := n0_; have BK311 := n1_; have BK317 := n2_; have HK := n3_; have HB := n4_; have HI0 := n5_; clear n0_ n1_ n2_ n3_ n4_ n5_; (try clear hb); (try clear hb2); (try clear hk); (try clear hi); have hnb44 := NB317_311.out; have hnc44 := NB311_317.out; have hnb45 := NB317_0.out; have hnc45 := NB0_317.out; have hcz46_0 : w43.cell? ⟨gb317, 0, none⟩ = some (u318000) := (blk_cell BK317.out 0).trans rfl; have hfz46_0 := blk_frozen BK317.out 0))
    go_loopg [] kj3 (fun kq w' => ∃ (x318000_2 : List (S51)) (u318000 : Value), Aside0 (spec_l1DrawAny.l0 kq s0_0 t348 t349 x318000_2 = some (r1, r2, r3)) ∧ Aside0 (kq ≤ kj3) ∧ Aside0 (Kd.R k51 51 w' w.heap.size (fun _ => True) u318000 x318000_2) ∧ Aside0 (w'.heap[gb311]? = some (.cells #[(.slice none 0 0)] 30 (0, 0))) ∧ Aside0 (w'.heap[gb317]? = some (.cells #[u318000] 30 (0, 0))) ∧ Aside0 (IsS98 w0 w' g s0_0 t348 t349) ∧ Aside0 (KeepBut w w' g none) ∧ Aside0 (Below w0.heap.size w0 w'))
    case atStart => exact ⟨(([] : List (S51))), (.slice none 0 0), H', ⟨Nat.le_refl _⟩, ⟨by first | exact Kd.R_nil _ _ _ _ _ | exact Kd.N_nil _ _ _ _ _ | exact Kd.V_nil _ _ _ _ _ | exact Kd.Q_nil _ _ _ _ _ | exact Kd.S_nil _ _ _ _ _⟩, ⟨zf BK311.out⟩, ⟨by (with_reducible repeat (first | refine blk_drewN ?_ _ | refine blk_drew ?_ | refine blk_alloc ?_ _)); refine blk_put (cs := #[u318000]) ?_ 0 _ rfl; (with_reducible repeat (first | refine blk_drewN ?_ _ | refine blk_drew ?_ | refine blk_alloc ?_ _)); exact BK317.out⟩, ⟨by repeat (first | (with_reducible first | exact HI0.out | apply IsS98.alloc | apply IsS98.drewN | apply IsS98.drew | apply IsS98.set_1 | apply IsS98.set_2 | refine IsS98.far ?_ NB0_311.out _ | refine IsS98.far ?_ NB0_317.out _) | exact HI0.out)⟩, ⟨by repeat (first | (with_reducible first | exact HK.out | apply KeepBut.set_ | apply keep_drewN | apply keep_drew | apply keep_alloc | refine keep_far ?_ GW311.out _ | refine keep_far ?_ GW317.out _) | exact HK.out)⟩, ⟨by repeat (first | (with_reducible first | exact HB.out | apply below_alloc | apply pw_below_drewN | apply below_drew1 | refine below_set ?_ (IsS98.ge HI0.out) | refine below_set ?_ GE311.out | refine below_set ?_ GE317.out) | exact HB.out)⟩⟩
    case round =>
     clear H'
     try clear c1
     try clear c2
     try clear p2
     try clear c3
     try clear c4
     try clear p6
     try clear c7
     try clear c8
     try clear c9
     try clear c10
     try clear c13
     try clear c13b0
     try clear c13b1
     try clear c16
     try clear c17
     try clear c18
     try clear c25
     try clear c25b0
     try clear c25b1
     try clear c30
     try clear c31
     try clear c32
     try clear c42
     try clear c44
     try clear c45
     try clear hcz11_0
     try clear hcz19_0
     try clear hcz24_0
     try clear hcz33_0
     try clear hcz40_0
     try clear hcz46_0
     try clear hfz11_0
     try clear hfz19_0
     try clear hfz24_0
     try clear hfz33_0
     try clear hfz40_0
     try clear hfz46_0
     try clear p2
     try clear p6
     obtain ⟨x318000_2, u318000, HA, HK2, HO_318000, BK311, BK317, HI0, HK, HB⟩ := hrel
     cases gk with
     | zero => exact absurd HA.out (by simp [spec_l1DrawAny.l0])
     | succ k2 =>
      have H := HA.out
      clear HA
      simp only [spec_l1DrawAny.l0] at H
      by_cases c47 : (x318000_2.length : Int) < 500
      ·rw [if_pos c47] at H
       have c47b0 : decide ((x318000_2.length : Int) < 500) = true := decide_eq_true c47
       have c47b1 : decide (x318000_2.length < 500) = true := decide_eq_true (by omega)
       clear c47
       replace H := Option.bind_eq_some_iff.mp H
       obtain ⟨⟨t350, t353⟩, A480, H⟩ := H
       replace H : ((spec_l1Add.f k2 t350 5 (wrap64 ((t350.length : Int) - 1)) 0).bind fun bt354 => (spec_l1DrawAny.l0 k2 s0_0 t348 t349 bt354.1)) = some (r1, r2, r3) := H
       have A48 := Aside0.mk A480
       clear A480
       replace H := Option.bind_eq_some_iff.mp H
       obtain ⟨⟨t354, t357⟩, A490, H⟩ := H
       replace H : (spec_l1DrawAny.l0 k2 s0_0 t348 t349 t354) = some (r1, r2, r3) := H
       have A49 := Aside0.mk A490
       clear A490
       have H' := Aside0.mk H
       clear H
       have hnb50 := NB317_311.out
       have hnc50 := NB311_317.out
       have hnb51 := NB317_0.out
       have hnc51 := NB0_317.out
       have hcz52_0 : wr.cell? ⟨gb317, 0, none⟩ = some (u318000) := (blk_cell BK317.out 0).trans rfl
       have hfz52_0 := blk_frozen BK317.out 0
       obtain ⟨Ao53, co53, eo53⟩ := Kd.R_slice HO_318000.out
       subst eo53
       go_wp2_with (first | ((with_reducible refine gate_callee (f := 86) rfl ?_); refine goesL_ (some 49) rfl rfl Try.func86 (by kernel_rfl) rfl #[.agg #[.slice Ao53 x318000_2.length co53], .agg #[.int .i64 1, .int .i64 ((x318000_2.length : Int) % 200), .int .i64 0]] rfl zl ?_; (with_reducible refine (spec_l1Add.calls k2 (fun k_ => some k_ = (.slice Ao53 x318000_2.length co53 : Value).ownBlock) (.slice Ao53 x318000_2.length co53) x318000_2 1 ((x318000_2.length : Int) % 200) 0 t350 t353 w0 _ ?side1 ?side2 A48.out).mono ?_); (case side1 => repeat (first | (with_reducible first | exact HB.out | apply below_alloc | apply pw_below_drewN | apply below_drew1 | refine below_set ?_ (IsS98.ge HI0.out) | refine below_set ?_ GE311.out | refine below_set ?_ GE317.out) | exact HB.out)); (case side2 => exact Kd.R_lower (Kd.R_tight rfl HO_318000.out) HL.out); rintro e w54 ⟨v351, rfl, ho0, hb, hkp⟩; refine ⟨_, rfl, ?_⟩; have n0_ := Aside0.mk (blk_kept (zh BK311.out) hkp (fun hs_ => (fun e_ => (Kd.R_ne HO_318000.out BK311.out (by decide)) e_) hs_)); have n1_ := Aside0.mk (blk_kept (zh BK317.out) hkp (fun hs_ => (fun e_ => (Kd.R_ne HO_318000.out BK317.out (by decide)) e_) hs_)); have n2_ := Aside0.mk (IsS98.kept (by repeat (first | (with_reducible first | exact HI0.out | apply IsS98.alloc | apply IsS98.drewN | apply IsS98.drew | apply IsS98.set_1 | apply IsS98.set_2 | refine IsS98.far ?_ NB0_311.out _ | refine IsS98.far ?_ NB0_317.out _) | exact HI0.out)) hkp (fun hs_ => (fun e_ => (IsS98.own_ne HI0.out HO_318000.out (by decide)) e_) hs_)); have n3_ := Aside0.mk (Kd.R_mono (ok' := fun k_ => True) (Kd.R_raise (d := k51) (b := w0.heap.size) (b' := w.heap.size) (fun _ _ _ _ h_ => h_) ho0 (fun k_ e_ => Or.elim (ho0.1 k_ e_) (fun hs_ => (fun e_ => Kd.R_base HO_318000.out k_ e_.symm) hs_) (fun hn_ => Nat.le_trans (keep_size (w := w) (g := g) (row := none) (by repeat (first | (with_reducible first | exact HK.out | apply KeepBut.set_ | apply keep_drewN | apply keep_drew | apply keep_alloc | refine keep_far ?_ GW311.out _ | refine keep_far ?_ GW317.out _) | exact HK.out))) hn_))) (fun k_ hk_ => trivial)); have n4_ := Aside0.mk (Kept.keepG (by repeat (first | (with_reducible first | exact HK.out | apply KeepBut.set_ | apply keep_drewN | apply keep_drew | apply keep_alloc | refine keep_far ?_ GW311.out _ | refine keep_far ?_ GW317.out _) | exact HK.out)) hkp (fun k_ hs_ => (fun e_ => .inr (Kd.R_base HO_318000.out k_ e_.symm)) hs_)); have n5_ := Aside0.mk (hb); clear BK311; clear BK317; clear HI0; clear HK; clear HB; clear HO_318000; have BK311 := n0_; have BK317 := n1_; have HI0 := n2_; have HO352 := n3_; have HK := n4_; have HB := n5_; clear n0_ n1_ n2_ n3_ n4_ n5_; (try clear hb); (try clear hkp); (try clear ho0); obtain ⟨Ao55, co55, eo55⟩ := Kd.R_slice HO352.out; subst eo55; have hcz56_0 : w54.cell? ⟨gb317, 0, none⟩ = some (.slice Ao53 x318000_2.length co53) := (blk_cell BK317.out 0).trans rfl; have hfz56_0 := blk_frozen BK317.out 0) | ((with_reducible refine gate_store (t := 30) (p := 3) rfl ?_); refine store_event (t := 30) (p := 3) (v := ?vo_w57) (w1 := (w54.setCell ⟨gb317, 0, none⟩ (.slice Ao55 t350.length co55))) ?hg ?ho ?hn ?hr ?_; (case ho => rfl); (case hg => rfl); (case hn => rfl); (case hr => first | (go_simp; done) | (go_simp; rfl)); intro w57 hw; have n0_ : Aside0 (Kd.R k51 51 w57 w.heap.size (fun _ => True) (.slice Ao55 t350.length co55) t350) := ⟨(by rw [hw]; exact (by (with_reducible repeat (first | apply Kd.R_alloc | apply Kd.R_drewN | apply Kd.R_drew)); exact Kd.R_mono (Kd.R_far (p := ⟨gb317, 0, none⟩) (Kd.R_types HO352.out BK317.out (by decide)) (fun _ hk => hk.2) (.slice Ao55 t350.length co55)) (fun _ hk => trivial)))⟩; have n1_ : Aside0 (w57.heap[gb311]? = some (.cells #[.slice none 0 0] 30 (0, 0))) := ⟨(by rw [hw]; exact (zf BK311.out))⟩; have n2_ : Aside0 (w57.heap[gb317]? = some (.cells #[.slice Ao55 t350.length co55] 30 (0, 0))) := ⟨(by rw [hw]; exact (by (with_reducible repeat (first | refine blk_drewN ?_ _ | refine blk_drew ?_ | refine blk_alloc ?_ _)); refine blk_put (cs := #[.slice Ao53 x318000_2.length co53]) ?_ 0 _ rfl; (with_reducible repeat (first | refine blk_drewN ?_ _ | refine blk_drew ?_ | refine blk_alloc ?_ _)); exact BK317.out))⟩; have n3_ : Aside0 (IsS98 w0 w57 g s0_0 t348 t349) := ⟨(by rw [hw]; exact (by repeat (first | (with_reducible first | exact HI0.out | apply IsS98.alloc | apply IsS98.drewN | apply IsS98.drew | apply IsS98.set_1 | apply IsS98.set_2 | refine IsS98.far ?_ NB0_311.out _ | refine IsS98.far ?_ NB0_317.out _) | exact HI0.out)))⟩; have n4_ : Aside0 (KeepBut w w57 g none) := ⟨(by rw [hw]; exact (by repeat (first | (with_reducible first | exact HK.out | apply KeepBut.set_ | apply keep_drewN | apply keep_drew | apply keep_alloc | refine keep_far ?_ GW311.out _ | refine keep_far ?_ GW317.out _) | exact HK.out)))⟩; have n5_ : Aside0 (Below w0.heap.size w0 w57) := ⟨(by rw [hw]; exact (by repeat (first | (with_reducible first | exact HB.out | apply below_alloc | apply pw_below_drewN | apply below_drew1 | refine below_set ?_ (IsS98.ge HI0.out) | refine below_set ?_ GE311.out | refine below_set ?_ GE317.out) | exact HB.out)))⟩; clear hw; clear HO352; clear BK311; clear BK317; clear HI0; clear HK; clear HB; have HO352 := n0_; have BK311 := n1_; have BK317 := n2_; have HI0 := n3_; have HK := n4_; have HB := n5_; clear n0_ n1_ n2_ n3_ n4_ n5_; have hcz58_0 : w57.cell? ⟨gb317, 0, none⟩ = some (.slice Ao55 t350.length co55) := (blk_cell BK317.out 0).trans rfl; have hfz58_0 := blk_frozen BK317.out 0) | ((with_reducible refine gate_callee (f := 86) rfl ?_); refine goesL_ (some 59) rfl rfl Try.func86 (by kernel_rfl) rfl #[.agg #[.slice Ao55 t350.length co55], .agg #[.int .i64 5, .int .i64 (wrap64 ((t350.length : Int) - 1)), .int .i64 0]] rfl zl ?_; (with_reducible refine (spec_l1Add.calls k2 (fun k_ => some k_ = (.slice Ao55 t350.length co55 : Value).ownBlock) (.slice Ao55 t350.length co55) t350 5 (wrap64 ((t350.length : Int) - 1)) 0 t354 t357 w0 _ ?side1 ?side2 A49.out).mono ?_); (case side1 => repeat (first | (with_reducible first | exact HB.out | apply below_alloc | apply pw_below_drewN | apply below_drew1 | refine below_set ?_ (IsS98.ge HI0.out) | refine below_set ?_ GE311.out | refine below_set ?_ GE317.out) | exact HB.out)); (case side2 => exact Kd.R_lower (Kd.R_tight rfl HO352.out) HL.out); rintro e w59 ⟨v355, rfl, ho0, hb, hkp⟩; refine ⟨_, rfl, ?_⟩; have n0_ := Aside0.mk (blk_kept (zh BK311.out) hkp (fun hs_ => (fun e_ => (Kd.R_ne HO352.out BK311.out (by decide)) e_) hs_)); have n1_ := Aside0.mk (blk_kept (zh BK317.out) hkp (fun hs_ => (fun e_ => (Kd.R_ne HO352.out BK317.out (by decide)) e_) hs_)); have n2_ := Aside0.mk (IsS98.kept (by repeat (first | (with_reducible first | exact HI0.out | apply IsS98.alloc | apply IsS98.drewN | apply IsS98.drew | apply IsS98.set_1 | apply IsS98.set_2 | refine IsS98.far ?_ NB0_311.out _ | refine IsS98.far ?_ NB0_317.out _) | exact HI0.out)) hkp (fun hs_ => (fun e_ => (IsS98.own_ne HI0.out HO352.out (by decide)) e_) hs_)); have n3_ := Aside0.mk (Kd.R_mono (ok' := fun k_ => True) (Kd.R_raise (d := k51) (b := w0.heap.size) (b' := w.heap.size) (fun _ _ _ _ h_ => h_) ho0 (fun k_ e_ => Or.elim (ho0.1 k_ e_) (fun hs_ => (fun e_ => Kd.R_base HO352.out k_ e_.symm) hs_) (fun hn_ => Nat.le_trans (keep_size (w := w) (g := g) (row := none) (by repeat (first | (with_reducible first | exact HK.out | apply KeepBut.set_ | apply keep_drewN | apply keep_drew | apply keep_alloc | refine keep_far ?_ GW311.out _ | refine keep_far ?_ GW317.out _) | exact HK.out))) hn_))) (fun k_ hk_ => trivial)); have n4_ := Aside0.mk (Kept.keepG (by repeat (first | (with_reducible first | exact HK.out | apply KeepBut.set_ | apply keep_drewN | apply keep_drew | apply keep_alloc | refine keep_far ?_ GW311.out _ | refine keep_far ?_ GW317.out _) | exact HK.out)) hkp (fun k_ hs_ => (fun e_ => .inr (Kd.R_base HO352.out k_ e_.symm)) hs_)); have n5_ := Aside0.mk (hb); clear BK311; clear BK317; clear HI0; clear HK; clear HB; clear HO352; have BK311 := n0_; have BK317 := n1_; have HI0 := n2_; have HO356 := n3_; have HK := n4_; have HB := n5_; clear n0_ n1_ n2_ n3_ n4_ n5_; (try clear hb); (try clear hkp); (try clear ho0); obtain ⟨Ao60, co60, eo60⟩ := Kd.R_slice HO356.out; subst eo60; have hcz61_0 : w59.cell? ⟨gb317, 0, none⟩ = some (.slice Ao55 t350.length co55) := (blk_cell BK317.out 0).trans rfl; have hfz61_0 := blk_frozen BK317.out 0))
       go_roundg k2
       case measure => have := HJ3.out; have := HK2.out; omega
       case rel => exact ⟨(t354), (.slice Ao60 t354.length co60), H', ⟨by have := HJ3.out; have := HK2.out; omega⟩, ⟨zr (Kd.R_mono (Kd.R_far (p := ⟨gb317, 0, none⟩) (Kd.R_types HO356.out BK317.out (by decide)) (fun _ hk => hk.2) (.slice Ao60 t354.length co60)) (fun _ hk => trivial))⟩, ⟨zf BK311.out⟩, ⟨by (with_reducible repeat (first | refine blk_drewN ?_ _ | refine blk_drew ?_ | refine blk_alloc ?_ _)); refine blk_put (cs := #[.slice Ao55 t350.length co55]) ?_ 0 _ rfl; (with_reducible repeat (first | refine blk_drewN ?_ _ | refine blk_drew ?_ | refine blk_alloc ?_ _)); exact BK317.out⟩, ⟨by repeat (first | (with_reducible first | exact HI0.out | apply IsS98.alloc | apply IsS98.drewN | apply IsS98.drew | apply IsS98.set_1 | apply IsS98.set_2 | refine IsS98.far ?_ NB0_311.out _ | refine IsS98.far ?_ NB0_317.out _) | exact HI0.out)⟩, ⟨by repeat (first | (with_reducible first | exact HK.out | apply KeepBut.set_ | apply keep_drewN | apply keep_drew | apply keep_alloc | refine keep_far ?_ GW311.out _ | refine keep_far ?_ GW317.out _) | exact HK.out)⟩, ⟨by repeat (first | (with_reducible first | exact HB.out | apply below_alloc | apply pw_below_drewN | apply below_drew1 | refine below_set ?_ (IsS98.ge HI0.out) | refine below_set ?_ GE311.out | refine below_set ?_ GE317.out) | exact HB.out)⟩⟩
      ·rw [if_neg c47] at H
       have c47b0 : decide ((x318000_2.length : Int) < 500) = false := decide_eq_false c47
       have c47b1 : decide (x318000_2.length < 500) = false := decide_eq_false (by omega)
       clear c47
       simp only [Option.some.injEq, Prod.mk.injEq] at H
       obtain ⟨rfl, rfl, rfl⟩ := H
       have hnb62 := NB317_311.out
       have hnc62 := NB311_317.out
       have hnb63 := NB317_0.out
       have hnc63 := NB0_317.out
       have hcz64_0 : wr.cell? ⟨gb317, 0, none⟩ = some (u318000) := (blk_cell BK317.out 0).trans rfl
       have hfz64_0 := blk_frozen BK317.out 0
       obtain ⟨Ao65, co65, eo65⟩ := Kd.R_slice HO_318000.out
       subst eo65
       have hnb66 := NB311_0.out
       have hnc66 := NB0_311.out
       have hcz67_0 : wr.cell? ⟨gb311, 0, none⟩ = some (.slice none 0 0) := (blk_cell BK311.out 0).trans rfl
       have hfz67_0 := blk_frozen BK311.out 0
       go_wp2
       refine bodyPost_ret (results_cell_row rfl _ _ gb311 30 #[.slice Ao65 x318000_2.length co65] (0, 0) _ rfl (by (with_reducible repeat (first | refine blk_drewN ?_ _ | refine blk_drew ?_ | refine blk_alloc ?_ _)); refine blk_put (cs := #[.slice none 0 0]) ?_ 0 _ rfl; (with_reducible repeat (first | refine blk_drewN ?_ _ | refine blk_drew ?_ | refine blk_alloc ?_ _)); exact BK311.out) Try.underlying30 rfl (by kernel_rfl)) rfl ?_
       exact ⟨_, ze, zr (Kd.R_mono (Kd.R_far (p := ⟨gb311, 0, none⟩) (Kd.R_types HO_318000.out BK311.out (by decide)) (fun _ hk => hk.2) (.slice Ao65 x318000_2.length co65)) (fun _ hk => trivial)), by repeat (first | (with_reducible first | exact HI0.out | apply IsS98.alloc | apply IsS98.drewN | apply IsS98.drew | apply IsS98.set_1 | apply IsS98.set_2 | refine IsS98.far ?_ NB0_311.out _ | refine IsS98.far ?_ NB0_317.out _) | exact HI0.out), by repeat (first | (with_reducible first | exact HB.out | apply below_alloc | apply pw_below_drewN | apply below_drew1 | refine below_set ?_ (IsS98.ge HI0.out) | refine below_set ?_ GE311.out | refine below_set ?_ GE317.out) | exact HB.out), by repeat (first | (with_reducible first | exact HK.out | apply KeepBut.set_ | apply keep_drewN | apply keep_drew | apply keep_alloc | refine keep_far ?_ GW311.out _ | refine keep_far ?_ GW317.out _) | exact HK.out)⟩
   ·replace c42 := Bool.eq_false_iff.mpr c42
    subst c42
    have H1 : (some (x318000_3, t348, t349)) = some (r1, r2, r3) := by rw [if_neg (show ¬ (false = true) by decide)] at H; exact H
    clear H
    have H := H1
    clear H1
    simp only [Option.some.injEq, Prod.mk.injEq] at H
    obtain ⟨rfl, rfl, rfl⟩ := H
    go_wp2_with (first | ((with_reducible refine gate_callee (f := 95) rfl ?_); refine goesL_ (some 36) rfl rfl Try.func95 (by kernel_rfl) rfl #[.pointer (some ⟨g, 0, none⟩), .int .i64 80] rfl zl ?_; (with_reducible refine (spec_l1Once.calls g s0_0 x1001_3 x1002_3 80 false t348 t349 w0 _ ?side1 ?side2 A41.out).mono ?_); (case side1 => repeat (first | (with_reducible first | exact HI0.out | apply IsS98.alloc | apply IsS98.drewN | apply IsS98.drew | apply IsS98.set_1 | apply IsS98.set_2 | refine IsS98.far ?_ NB0_311.out _ | refine IsS98.far ?_ NB0_317.out _) | exact HI0.out)); (case side2 => repeat (first | (with_reducible first | exact HB.out | apply below_alloc | apply pw_below_drewN | apply below_drew1 | refine below_set ?_ (IsS98.ge HI0.out) | refine below_set ?_ GE311.out | refine below_set ?_ GE317.out) | exact HB.out)); rintro e w68 ⟨rfl, hi, hb, hk⟩; refine ⟨_, rfl, ?_⟩; have n0_ := Aside0.mk (Kd.R_mono (Kd.R_keep (IsS98.apart (show IsS98 w0 _ g s0_0 x1001_3 x1002_3 from by repeat (first | (with_reducible first | exact HI0.out | apply IsS98.alloc | apply IsS98.drewN | apply IsS98.drew | apply IsS98.set_1 | apply IsS98.set_2 | refine IsS98.far ?_ NB0_311.out _ | refine IsS98.far ?_ NB0_317.out _) | exact HI0.out)) (zr HO_318000.out) (by decide)) hk (fun _ h => h.2)) (fun _ h => h.1)); have n1_ := Aside0.mk (KeepBut.blk hk (g' := gb311) (o := .cells #[.slice none 0 0] 30 (0, 0)) (zh BK311.out) NB311_0.out (by simp)); have n2_ := Aside0.mk (KeepBut.blk hk (g' := gb317) (o := .cells #[u318000] 30 (0, 0)) (zh BK317.out) NB317_0.out (by simp)); have n3_ := Aside0.mk (KeepBut.trans (by repeat (first | (with_reducible first | exact HK.out | apply KeepBut.set_ | apply keep_drewN | apply keep_drew | apply keep_alloc | refine keep_far ?_ GW311.out _ | refine keep_far ?_ GW317.out _) | exact HK.out)) hk (.inl rfl)); have n4_ := Aside0.mk (hb); have n5_ := Aside0.mk (hi); clear HO_318000; clear BK311; clear BK317; clear HK; clear HB; clear HI0; have HO_318000 := n0_; have BK311 := n1_; have BK317 := n2_; have HK := n3_; have HB := n4_; have HI0 := n5_; clear n0_ n1_ n2_ n3_ n4_ n5_; (try clear hb); (try clear hb2); (try clear hk); (try clear hi); have hnb69 := NB317_311.out; have hnc69 := NB311_317.out; have hnb70 := NB317_0.out; have hnc70 := NB0_317.out; have hcz71_0 : w68.cell? ⟨gb317, 0, none⟩ = some (u318000) := (blk_cell BK317.out 0).trans rfl; have hfz71_0 := blk_frozen BK317.out 0; obtain ⟨Ao72, co72, eo72⟩ := Kd.R_slice HO_318000.out; subst eo72; have hnb73 := NB311_0.out; have hnc73 := NB0_311.out; have hcz74_0 : w68.cell? ⟨gb311, 0, none⟩ = some (.slice none 0 0) := (blk_cell BK311.out 0).trans rfl; have hfz74_0 := blk_frozen BK311.out 0))
    refine bodyPost_ret (results_cell_row rfl _ _ gb311 30 #[.slice Ao72 x318000_3.length co72] (0, 0) _ rfl (by (with_reducible repeat (first | refine blk_drewN ?_ _ | refine blk_drew ?_ | refine blk_alloc ?_ _)); refine blk_put (cs := #[.slice none 0 0]) ?_ 0 _ rfl; (with_reducible repeat (first | refine blk_drewN ?_ _ | refine blk_drew ?_ | refine blk_alloc ?_ _)); exact BK311.out) Try.underlying30 rfl (by kernel_rfl)) rfl ?_
    exact ⟨_, ze, zr (Kd.R_mono (Kd.R_far (p := ⟨gb311, 0, none⟩) (Kd.R_types HO_318000.out BK311.out (by decide)) (fun _ hk => hk.2) (.slice Ao72 x318000_3.length co72)) (fun _ hk => trivial)), by repeat (first | (with_reducible first | exact HI0.out | apply IsS98.alloc | apply IsS98.drewN | apply IsS98.drew | apply IsS98.set_1 | apply IsS98.set_2 | refine IsS98.far ?_ NB0_311.out _ | refine IsS98.far ?_ NB0_317.out _) | exact HI0.out), by repeat (first | (with_reducible first | exact HB.out | apply below_alloc | apply pw_below_drewN | apply below_drew1 | refine below_set ?_ (IsS98.ge HI0.out) | refine below_set ?_ GE311.out | refine below_set ?_ GE317.out) | exact HB.out), by repeat (first | (with_reducible first | exact HK.out | apply KeepBut.set_ | apply keep_drewN | apply keep_drew | apply keep_alloc | refine keep_far ?_ GW311.out _ | refine keep_far ?_ GW317.out _) | exact HK.out)⟩

end Go.Proofs.Ytgohebghlgamiaa.P
end
