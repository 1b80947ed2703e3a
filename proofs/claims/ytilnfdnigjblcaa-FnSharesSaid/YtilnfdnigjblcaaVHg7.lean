import Derived.Test.YtilnfdnigjblcaaVH0
import Derived.Test.YtilnfdnigjblcaaVHg0
import Derived.Test.YtilnfdnigjblcaaVHg5
import Derived.Test.YtilnfdnigjblcaaVHg1
import Derived.Test.YtilnfdnigjblcaaVHg2
import Derived.Test.YtilnfdnigjblcaaVHg3
import Derived.Test.YtilnfdnigjblcaaVHg6
section
-- Written by this session's program (wip/tools/gprint.py over the kit's print) out of the translation; Lean checks it.
namespace Go.Proofs.Ytilnfdnigjblcaa.H
open Go.RowKit Go.Proofs.YtilnfdnigjblcaaW.PrintWords Go.Proofs.YtilnfdnigjblcaaW.PrintLast Go.Proofs.YtilnfdnigjblcaaW.PrintMore
attribute [local go_sem] max2_int min2_int max_two min_two max_three min_three max_four min_four   -- for this text's walks alone
set_option linter.unusedVariables false
set_option linter.unusedSimpArgs false
set_option maxRecDepth 100000

/-! ### impl_Pool_add: function 70 -/
def impl_Pool_add.j0 : Nat → List (S67) → Int → Int → Int → Option (List (S67) × Int)
 | 0, _, _, _, _ => none
 | k + 1, x450000, x451000, x451001, x451002 => (impl_nodeOk.f k x451000 x451001 x451002 (x450000.length : Int)).bind fun t451 => (if t451 = true then ((impl_Pool_find.f k x450000 x451000 x451001 x451002).bind fun t452 => (if t452 ≥ 0 then (some (x450000, t452)) else (if (x450000.length : Int) ≥ 500 then (some (x450000, -1)) else (if x450000.length < 5864062014805 then (some (x450000 ++ [(⟨x451000, x451001, x451002⟩ : S67)], wrap64 (((x450000 ++ [(⟨x451000, x451001, x451002⟩ : S67)]).length : Int) - 1))) else (none))))) else (some (x450000, -1)))
def impl_Pool_add.f (k : Nat) (l0_0 : List (S67)) (a1 : Int) (a2 : Int) (a3 : Int) : Option (List (S67) × Int) := if a1 = 8 then (impl_Pool_add.j0 k l0_0 a1 (mn a2 a3) (mx a2 a3)) else (impl_Pool_add.j0 k l0_0 a1 a2 a3)
theorem impl_Pool_add.mono_l : ∀ k, (∀ y0 y1 y2 y3, LeO (impl_Pool_add.j0 k y0 y1 y2 y3) (impl_Pool_add.j0 (k + 1) y0 y1 y2 y3))
 | 0 => fun _ _ _ _ r h => by simp [impl_Pool_add.j0] at h
 | k + 1 => by
  have ih0 := impl_Pool_add.mono_l k
  ·intro y0 y1 y2 y3
   unfold impl_Pool_add.j0
   repeat' first
   | (with_reducible exact ih0 _ _ _ _)
   | (with_reducible exact impl_Pool_find.mono _ _ _ _ _)
   | (with_reducible exact impl_nodeOk.mono _ _ _ _ _)
   | (with_reducible exact LeO.refl _)
   | (with_reducible exact LeO.none _)
   | (with_reducible refine LeO.ite ?_ ?_)
   | (with_reducible refine LeO.bind ?_ (fun _ => ?_))
   | exact ih0 _ _ _ _
   | exact impl_Pool_find.mono _ _ _ _ _
   | exact impl_nodeOk.mono _ _ _ _ _
   | exact LeO.none _
   | refine LeO.ite ?_ ?_
   | refine LeO.bind ?_ (fun _ => ?_)
theorem impl_Pool_add.mono : ∀ a0 a1 a2 a3 k, LeO (impl_Pool_add.f k a0 a1 a2 a3) (impl_Pool_add.f (k + 1) a0 a1 a2 a3) := by
 intro a0 a1 a2 a3 k
 have ih0 := impl_Pool_add.mono_l k
 unfold impl_Pool_add.f
 repeat' first
   | (with_reducible exact ih0 _ _ _ _)
   | (with_reducible exact impl_Pool_find.mono _ _ _ _ _)
   | (with_reducible exact impl_nodeOk.mono _ _ _ _ _)
   | (with_reducible exact LeO.refl _)
   | (with_reducible exact LeO.none _)
   | (with_reducible refine LeO.ite ?_ ?_)
   | (with_reducible refine LeO.bind ?_ (fun _ => ?_))
   | exact ih0 _ _ _ _
   | exact impl_Pool_find.mono _ _ _ _ _
   | exact impl_nodeOk.mono _ _ _ _ _
   | exact LeO.none _
   | refine LeO.ite ?_ ?_
   | refine LeO.bind ?_ (fun _ => ?_)
def impl_Pool_add.T4 : Bool × List (List Nat × List Nat) := (true, [([], []), ([], []), ([1], [1]), ([2], [2]), ([3], [3]), ([4], [4]), ([0, 5], [0, 5]), ([6], [6])])
def impl_Pool_add.B4 : List Nat := [0, 0, 2, 6, 14, 30, 63, 127]
theorem impl_Pool_add.tab4 : rtab .any (opsOf Try.f70 4) = impl_Pool_add.T4 := by kernel_rfl
theorem impl_Pool_add.bits4 : waitsOk impl_Pool_add.T4.2 impl_Pool_add.B4 = true := by kernel_rfl
def impl_Pool_add.T11 : Bool × List (List Nat × List Nat) := (true, [([], []), ([], []), ([1], [1]), ([2], [2]), ([3], [3]), ([], []), ([5], [5]), ([4, 6], [4, 6]), ([0, 0, 1, 2, 3, 4, 5, 6, 7], [0]), ([8, 0, 1, 2, 3, 4, 5, 6, 7], [8]), ([9, 7, 7, 0, 1, 2, 3, 4, 5, 6, 7], [7, 9])])
def impl_Pool_add.B11 : List Nat := [0, 0, 2, 6, 14, 0, 32, 126, 255, 511, 1023]
theorem impl_Pool_add.tab11 : rtab .any (opsOf Try.f70 11) = impl_Pool_add.T11 := by kernel_rfl
theorem impl_Pool_add.bits11 : waitsOk impl_Pool_add.T11.2 impl_Pool_add.B11 = true := by kernel_rfl
set_option maxHeartbeats 8000000 in
set_option maxRecDepth 100000 in
theorem impl_Pool_add.calls (k : Nat) (gb449 : Nat) (P0_0_ : Nat → Prop) (u9000_ : Value) (l0_0 : List (S67)) (a1 : Int) (a2 : Int) (a3 : Int) (r : List (S67) × Int) (w0 w : World) (hB : Below w0.heap.size w0 w) (hge : w0.heap.size ≤ gb449) (hbx : w.heap[gb449]? = some (.cells #[u9000_] 31 (0, 0))) (ho0_0 : Kd.R k67 67 w w0.heap.size P0_0_ u9000_ l0_0) (h : impl_Pool_add.f k l0_0 a1 a2 a3 = some r) :
  Calls Try.prog 70 #[.pointer (some ⟨gb449, 0, none⟩), .int .i64 a1, .int .i64 a2, .int .i64 a3] w fun e w' => e = .returned (.int .i64 r.2) ∧ Below w0.heap.size w0 w' ∧ Kept w w' (fun k_ => P0_0_ k_ ∨ k_ = gb449) ∧ ∃ u_ : Value, w'.heap[gb449]? = some (.cells #[u_] 31 (0, 0)) ∧ Kd.R k67 67 w' w0.heap.size (fun k_ => P0_0_ k_ ∨ w.heap.size ≤ k_) u_ r.1 := by
 have hu31 := Try.underlying31
 have hu67 := Try.underlying67
 have HO0_0 := Aside0.mk (show Kd.R k67 67 w w0.heap.size (fun k_ => (P0_0_ k_ ∨ w.heap.size ≤ k_)) u9000_ l0_0 from Kd.R_mono ho0_0 (fun k_ hk => (.inl hk)))
 have HK := Aside0.mk (Kept.refl w (fun k_ => P0_0_ k_ ∨ k_ = gb449))
 have HW0 := Aside0.mk hB.size
 have HB := Aside0.mk hB
 clear hB
 have H : (if a1 = 8 then (impl_Pool_add.j0 k l0_0 a1 (mn a2 a3) (mx a2 a3)) else (impl_Pool_add.j0 k l0_0 a1 a2 a3)) = some r := h
 clear h
 have HC5 := Aside0.mk H
 clear H
 obtain ⟨Ao6, co6, eo6⟩ := Kd.R_slice HO0_0.out
 subst eo6
 have BK449 := Aside0.mk hbx
 have GE449 := Aside0.mk hge
 clear hbx hge
 go_enter Try.func70, Try.ntmps70
 go_upto_if 16 with (first | ((with_reducible refine gate_dst (N := 9) rfl ?_); refine box_event ?hg (N := 9) ?hd (cs := #[.int .i64 0, .int .i64 0, .int .i64 0]) (t := 67) ?hr ?_; (case hd => rfl); (case hg => rfl); (case hr => first | (go_simp; done) | (go_simp; rfl)); intro gb450 hg w8 hbox hb; have n0_ := Aside0.mk (Kd.R_below (Kd.R_elderB (zr HO0_0.out) gb450 (Nat.le_of_eq hg.symm)) hb); have n1_ := Aside0.mk (blk_below (zh BK449.out) hb); have n2_ := Aside0.mk (Kept.below (S := (fun k_ => P0_0_ k_ ∨ k_ = gb449)) (zk HK.out) hb); have n3_ := Aside0.mk (below_step (zb HB.out) hb); have n4_ := Aside0.mk (hbox); have n5_ := Aside0.mk ((by rw [hg]; exact (by first | exact HK.out.1 | exact (show Kept w _ (fun k_ => P0_0_ k_ ∨ k_ = gb449) from zk HK.out).1) : w.heap.size ≤ gb450)); have n6_ := Aside0.mk ((by rw [hg]; exact (below_size (zb HB.out)) : w0.heap.size ≤ gb450)); have n7_ := Aside0.mk ((by rw [hg]; exact Nat.ne_of_lt (blk_lt (zh BK449.out)) : gb449 ≠ gb450)); have n8_ := Aside0.mk ((by rw [hg]; exact Nat.ne_of_gt (blk_lt (zh BK449.out)) : gb450 ≠ gb449)); clear HO0_0; clear BK449; clear HK; clear HB; have HO0_0 := n0_; have BK449 := n1_; have HK := n2_; have HB := n3_; have BK450 := n4_; have GW450 := n5_; have GE450 := n6_; have NB449_450 := n7_; have NB450_449 := n8_; clear n0_ n1_ n2_ n3_ n4_ n5_ n6_ n7_ n8_; clear hb hbox hg; have hnb9 := NB450_449.out; have hnc9 := NB449_450.out; have hcz10_0 : w8.cell? ⟨gb450, 0, none⟩ = some (.int .i64 0) := (blk_cell BK450.out 0).trans rfl; have hcz10_1 : w8.cell? ⟨gb450, 1, none⟩ = some (.int .i64 0) := (blk_cell BK450.out 1).trans rfl; have hcz10_2 : w8.cell? ⟨gb450, 2, none⟩ = some (.int .i64 0) := (blk_cell BK450.out 2).trans rfl; have hfz10_0 := blk_frozen BK450.out 0; have hfz10_1 := blk_frozen BK450.out 1; have hfz10_2 := blk_frozen BK450.out 2))
 (try simp only [Act.put, List.setIfInBounds_toArray, List.set_cons_zero, List.set_cons_succ])
 go_cut [] (fun wc => ∃ (kq : Nat) (x451001_4 : Int) (x451002_4 : Int), Aside0 (impl_Pool_add.j0 kq l0_0 a1 x451001_4 x451002_4 = some r) ∧ Aside0 (kq ≤ k) ∧ Aside0 (Kd.R k67 67 wc w0.heap.size (fun k_ => (P0_0_ k_ ∨ w.heap.size ≤ k_) ∧ k_ ≠ gb450) (.slice Ao6 l0_0.length co6) l0_0) ∧ Aside0 (wc.heap[gb449]? = some (.cells #[(.slice Ao6 l0_0.length co6)] 31 (0, 0))) ∧ Aside0 (wc.heap[gb450]? = some (.cells #[.int .i64 a1, .int .i64 x451001_4, .int .i64 x451002_4] 67 (0, 0))) ∧ Aside0 (Kept w wc (fun k_ => P0_0_ k_ ∨ k_ = gb449)) ∧ Aside0 (Below w0.heap.size w0 wc))
 case first =>
  have H := HC5.out
  clear HC5
  by_cases c11 : a1 = 8
  ·rw [if_pos c11] at H
   have c11b0 : (a1 == 8) = true := beq_iff_eq.mpr c11
   have c11b1 : (a1 != 8) = false := bne_eq_false_iff_eq.mpr c11
   clear c11
   (first | rw [c11b0] | (simp only [i64_w, i32_w]; rw [c11b0]) | skip)
   obtain ⟨ji12, hji12⟩ : ∃ j_ : Int, (mn a2 a3) = j_ := ⟨_, rfl⟩
   replace H : (impl_Pool_add.j0 k l0_0 a1 ji12 (mx a2 a3)) = some r := by first | (rw [hji12] at H; exact H) | (simp only [hji12] at H ⊢; exact H)
   have hji12_ : (if a3 < a2 then a3 else a2) = ji12 := hji12
   obtain ⟨ji13, hji13⟩ : ∃ j_ : Int, (mx a2 a3) = j_ := ⟨_, rfl⟩
   replace H : (impl_Pool_add.j0 k l0_0 a1 ji12 ji13) = some r := by first | (rw [hji13] at H; exact H) | (simp only [hji13] at H ⊢; exact H)
   have hji13_ : (if a2 < a3 then a3 else a2) = ji13 := hji13
   have H' := Aside0.mk H
   clear H
   have hnb14 := NB450_449.out
   have hnc14 := NB449_450.out
   have hcz15_0 : w8.cell? ⟨gb450, 0, none⟩ = some (.int .i64 0) := (blk_cell BK450.out 0).trans rfl
   have hcz15_1 : w8.cell? ⟨gb450, 1, none⟩ = some (.int .i64 0) := (blk_cell BK450.out 1).trans rfl
   have hcz15_2 : w8.cell? ⟨gb450, 2, none⟩ = some (.int .i64 0) := (blk_cell BK450.out 2).trans rfl
   have hfz15_0 := blk_frozen BK450.out 0
   have hfz15_1 := blk_frozen BK450.out 1
   have hfz15_2 := blk_frozen BK450.out 2
   go_wp2
   go_meet
   case rel => exact ⟨_, (ji12), (ji13), H', ⟨by first | omega | exact Nat.le_refl _⟩, ⟨zr (Kd.R_mono (Kd.R_far (p := ⟨gb450, 2, none⟩) (Kd.R_far (p := ⟨gb450, 1, none⟩) (Kd.R_far (p := ⟨gb450, 2, none⟩) (Kd.R_far (p := ⟨gb450, 1, none⟩) (Kd.R_far (p := ⟨gb450, 0, none⟩) (Kd.R_mono HO0_0.out (fun k_ hk => (⟨hk, hk.2⟩ : _ ∧ k_ ≠ gb450))) (fun _ hk => hk.2) (.int .i64 a1)) (fun _ hk => hk.2) (.int .i64 a2)) (fun _ hk => hk.2) (.int .i64 a3)) (fun _ hk => hk.2) (.int .i64 ji12)) (fun _ hk => hk.2) (.int .i64 ji13)) (fun _ hk => ⟨hk.1.1, hk.1.2⟩))⟩, ⟨zf BK449.out⟩, ⟨by (with_reducible repeat (first | refine blk_drewN ?_ _ | refine blk_drew ?_ | refine blk_alloc ?_ _)); refine blk_put (cs := #[.int .i64 a1, .int .i64 ji12, .int .i64 a3]) ?_ 2 _ rfl; (with_reducible repeat (first | refine blk_drewN ?_ _ | refine blk_drew ?_ | refine blk_alloc ?_ _)); refine blk_put (cs := #[.int .i64 a1, .int .i64 a2, .int .i64 a3]) ?_ 1 _ rfl; (with_reducible repeat (first | refine blk_drewN ?_ _ | refine blk_drew ?_ | refine blk_alloc ?_ _)); refine blk_put (cs := #[.int .i64 a1, .int .i64 a2, .int .i64 0]) ?_ 2 _ rfl; (with_reducible repeat (first | refine blk_drewN ?_ _ | refine blk_drew ?_ | refine blk_alloc ?_ _)); refine blk_put (cs := #[.int .i64 a1, .int .i64 0, .int .i64 0]) ?_ 1 _ rfl; (with_reducible repeat (first | refine blk_drewN ?_ _ | refine blk_drew ?_ | refine blk_alloc ?_ _)); refine blk_put (cs := #[.int .i64 0, .int .i64 0, .int .i64 0]) ?_ 0 _ rfl; (with_reducible repeat (first | refine blk_drewN ?_ _ | refine blk_drew ?_ | refine blk_alloc ?_ _)); exact BK450.out⟩, ⟨zk HK.out⟩, ⟨zb HB.out⟩⟩
  ·rw [if_neg c11] at H
   have c11b0 : (a1 == 8) = false := beq_eq_false_iff_ne.mpr c11
   have c11b1 : (a1 != 8) = true := bne_iff_ne.mpr c11
   (first | rw [c11b0] | (simp only [i64_w, i32_w]; rw [c11b0]) | skip)
   have H' := Aside0.mk H
   clear H
   go_wp2
   go_meet
   case rel => exact ⟨_, (a2), (a3), H', ⟨by first | omega | exact Nat.le_refl _⟩, ⟨zr (Kd.R_mono (Kd.R_far (p := ⟨gb450, 2, none⟩) (Kd.R_far (p := ⟨gb450, 1, none⟩) (Kd.R_far (p := ⟨gb450, 0, none⟩) (Kd.R_mono HO0_0.out (fun k_ hk => (⟨hk, hk.2⟩ : _ ∧ k_ ≠ gb450))) (fun _ hk => hk.2) (.int .i64 a1)) (fun _ hk => hk.2) (.int .i64 a2)) (fun _ hk => hk.2) (.int .i64 a3)) (fun _ hk => ⟨hk.1.1, hk.1.2⟩))⟩, ⟨zf BK449.out⟩, ⟨by (with_reducible repeat (first | refine blk_drewN ?_ _ | refine blk_drew ?_ | refine blk_alloc ?_ _)); refine blk_put (cs := #[.int .i64 a1, .int .i64 a2, .int .i64 0]) ?_ 2 _ rfl; (with_reducible repeat (first | refine blk_drewN ?_ _ | refine blk_drew ?_ | refine blk_alloc ?_ _)); refine blk_put (cs := #[.int .i64 a1, .int .i64 0, .int .i64 0]) ?_ 1 _ rfl; (with_reducible repeat (first | refine blk_drewN ?_ _ | refine blk_drew ?_ | refine blk_alloc ?_ _)); refine blk_put (cs := #[.int .i64 0, .int .i64 0, .int .i64 0]) ?_ 0 _ rfl; (with_reducible repeat (first | refine blk_drewN ?_ _ | refine blk_drew ?_ | refine blk_alloc ?_ _)); exact BK450.out⟩, ⟨zk HK.out⟩, ⟨zb HB.out⟩⟩
 case rest =>
  clear HC5
  try clear c1
  try clear p2
  try clear c7
  try clear c9
  try clear c11
  try clear c11b0
  try clear c11b1
  try clear c14
  try clear hcz10_0
  try clear hcz10_1
  try clear hcz10_2
  try clear hcz15_0
  try clear hcz15_1
  try clear hcz15_2
  try clear hfz10_0
  try clear hfz10_1
  try clear hfz10_2
  try clear hfz15_0
  try clear hfz15_1
  try clear hfz15_2
  obtain ⟨kq, x451001_4, x451002_4, HA, HJ4, HO_450000, BK449, BK450, HK, HB⟩ := hcut
  cases kq with
  | zero => exact absurd HA.out (by simp [impl_Pool_add.j0])
  | succ kj4 =>
   have H := HA.out
   clear HA
   simp only [impl_Pool_add.j0] at H
   replace H := Option.bind_eq_some_iff.mp H
   obtain ⟨t451, A160, H⟩ := H
   replace H : (if t451 = true then ((impl_Pool_find.f kj4 l0_0 a1 x451001_4 x451002_4).bind fun t452 => (if t452 ≥ 0 then (some (l0_0, t452)) else (if (l0_0.length : Int) ≥ 500 then (some (l0_0, -1)) else (if l0_0.length < 5864062014805 then (some (l0_0 ++ [(⟨a1, x451001_4, x451002_4⟩ : S67)], wrap64 (((l0_0 ++ [(⟨a1, x451001_4, x451002_4⟩ : S67)]).length : Int) - 1))) else (none))))) else (some (l0_0, -1))) = some r := H
   have A16 := Aside0.mk A160
   clear A160
   by_cases c17 : t451 = true
   ·subst c17
    have H1 : ((impl_Pool_find.f kj4 l0_0 a1 x451001_4 x451002_4).bind fun t452 => (if t452 ≥ 0 then (some (l0_0, t452)) else (if (l0_0.length : Int) ≥ 500 then (some (l0_0, -1)) else (if l0_0.length < 5864062014805 then (some (l0_0 ++ [(⟨a1, x451001_4, x451002_4⟩ : S67)], wrap64 (((l0_0 ++ [(⟨a1, x451001_4, x451002_4⟩ : S67)]).length : Int) - 1))) else (none))))) = some r := by rw [if_pos rfl] at H; exact H
    clear H
    have H := H1
    clear H1
    replace H := Option.bind_eq_some_iff.mp H
    obtain ⟨t452, A180, H⟩ := H
    replace H : (if t452 ≥ 0 then (some (l0_0, t452)) else (if (l0_0.length : Int) ≥ 500 then (some (l0_0, -1)) else (if l0_0.length < 5864062014805 then (some (l0_0 ++ [(⟨a1, x451001_4, x451002_4⟩ : S67)], wrap64 (((l0_0 ++ [(⟨a1, x451001_4, x451002_4⟩ : S67)]).length : Int) - 1))) else (none)))) = some r := H
    have A18 := Aside0.mk A180
    clear A180
    by_cases c19 : t452 ≥ 0
    ·rw [if_pos c19] at H
     have c19b0 : decide (0 ≤ t452) = true := decide_eq_true c19
     clear c19
     obtain rfl := Option.some.inj H
     try go_wp2
     have n0_ := Aside0.mk (Kd.R_drew HO_450000.out)
     have n1_ := Aside0.mk (blk_drew BK449.out)
     have n2_ := Aside0.mk (blk_drew BK450.out)
     have n3_ := Aside0.mk (Kept.drew HK.out)
     have n4_ := Aside0.mk (below_drew1 HB.out)
     clear HO_450000
     clear BK449
     clear BK450
     clear HK
     clear HB
     have HO_450000 := n0_
     have BK449 := n1_
     have BK450 := n2_
     have HK := n3_
     have HB := n4_
     clear n0_ n1_ n2_ n3_ n4_
     refine start_ (n := 8) (S := fun w' => w'.cell? ⟨gb450, 0, none⟩ = some (.int .i64 a1) ∧ w'.cell? ⟨gb450, 1, none⟩ = some (.int .i64 x451001_4) ∧ w'.cell? ⟨gb450, 2, none⟩ = some (.int .i64 x451002_4) ∧ w'.cell? ⟨gb449, 0, none⟩ = some (.slice Ao6 l0_0.length co6)) (ds := []) #[false, false, false, false, false, false, false, false] (by kernel_rfl) rfl rfl ⟨(blk_cell BK450.out 0).trans rfl, (blk_cell BK450.out 1).trans rfl, (blk_cell BK450.out 2).trans rfl, (blk_cell BK449.out 0).trans rfl⟩ (fun hHeld => ?_); refine with_tabW impl_Pool_add.tab4 impl_Pool_add.bits4 (fun HT_ HW_ => ?_)
     generalize wc.drew = w20 at HO_450000 BK449 BK450 HK HB hHeld ⊢
     refine pure_ (i := 1) (N := some 26) (v := ?_) (a' := ?_) #[false, true, false, false, false, false, false, false] rfl rfl (any_of HT_.out (by kernel_rfl)) (fun _ _ _ h => h) (Or.inl ⟨by rfl, ?_⟩) ?_ ?_
     rotate_left
     ·intro w'
      go_simp
      with_reducible rfl
     rotate_left
     ·simp only [Act.put, List.setIfInBounds_toArray, List.set_cons_zero, List.set_cons_succ, i64_w, i32_w]
      rfl
     refine pure_ (i := 2) (N := some 27) (v := ?_) (a' := ?_) #[false, true, true, false, false, false, false, false] rfl rfl (any_of HT_.out (by kernel_rfl)) (fun _ _ _ h => h) (Or.inl ⟨by rfl, ?_⟩) ?_ ?_
     rotate_left
     ·intro w'
      go_simp
      with_reducible rfl
     rotate_left
     ·simp only [Act.put, List.setIfInBounds_toArray, List.set_cons_zero, List.set_cons_succ, i64_w, i32_w]
      rfl
     refine pure_ (i := 3) (N := some 28) (v := ?_) (a' := ?_) #[false, true, true, true, false, false, false, false] rfl rfl (any_of HT_.out (by kernel_rfl)) (fun _ _ _ h => h) (Or.inl ⟨by rfl, ?_⟩) ?_ ?_
     rotate_left
     ·intro w'
      go_simp
      with_reducible rfl
     rotate_left
     ·simp only [Act.put, List.setIfInBounds_toArray, List.set_cons_zero, List.set_cons_succ, i64_w, i32_w]
      rfl
     refine take_ (i := 0) (N := some 25) (v := ?_) (a' := ?_) #[true, true, true, true, false, false, false, false] rfl rfl (take_ofW HT_.out HW_.out (by kernel_rfl)) (fun _ _ _ h => h) (Or.inl ⟨by rfl, ?_⟩) hHeld ?_ ?_
     rotate_left
     ·rintro w' ⟨s0, s1, s2, s3⟩
      go_simp
      with_reducible rfl
     rotate_left
     ·simp only [Act.put, List.setIfInBounds_toArray, List.set_cons_zero, List.set_cons_succ, i64_w, i32_w]
      rfl
     refine take_ (i := 4) (N := some 29) (v := ?_) (a' := ?_) #[true, true, true, true, true, false, false, false] rfl rfl (take_ofW HT_.out HW_.out (by kernel_rfl)) (fun _ _ _ h => h) (Or.inl ⟨by rfl, ?_⟩) hHeld ?_ ?_
     rotate_left
     ·rintro w' ⟨s0, s1, s2, s3⟩
      go_simp
      with_reducible rfl
     rotate_left
     ·simp only [Act.put, List.setIfInBounds_toArray, List.set_cons_zero, List.set_cons_succ, i64_w, i32_w]
      rfl
     refine pure_ (i := 5) (N := some 30) (v := ?_) (a' := ?_) #[true, true, true, true, true, true, false, false] rfl rfl (any_of HT_.out (by kernel_rfl)) (fun _ _ _ h => h) (Or.inl ⟨by rfl, ?_⟩) ?_ ?_
     rotate_left
     ·intro w'
      go_simp
      with_reducible rfl
     rotate_left
     ·simp only [Act.put, List.setIfInBounds_toArray, List.set_cons_zero, List.set_cons_succ, i64_w, i32_w]
      rfl
     refine one_ (i := 6) (N := some 31) #[true, true, true, true, true, true, true, false] rfl rfl (one_of HT_.out (by kernel_rfl)) (by decide) (fun K hK => ?_)
     refine goes_ Try.func67 (by kernel_rfl) rfl #[.agg #[.int .i64 a1, .int .i64 x451001_4, .int .i64 x451002_4], .int .i64 (l0_0.length : Int)] (by rfl) rfl rfl zl ?_
     with_reducible refine (impl_nodeOk.calls kj4 a1 x451001_4 x451002_4 (l0_0.length : Int) true _ A16.out).mono ?_
     rintro e w21 ⟨rfl, hb⟩
     refine ⟨_, rfl, ?_⟩
     have n0_ := Aside0.mk (Kd.R_below (zr HO_450000.out) hb)
     have n1_ := Aside0.mk (blk_below (zh BK449.out) hb)
     have n2_ := Aside0.mk (blk_below (zh BK450.out) hb)
     have n3_ := Aside0.mk (Kept.below (S := (fun k_ => P0_0_ k_ ∨ k_ = gb449)) (zk HK.out) hb)
     have n4_ := Aside0.mk (below_step (zb HB.out) hb)
     clear HO_450000
     clear BK449
     clear BK450
     clear HK
     clear HB
     have HO_450000 := n0_
     have BK449 := n1_
     have BK450 := n2_
     have HK := n3_
     have HB := n4_
     clear n0_ n1_ n2_ n3_ n4_
     (try clear hb)
     (try clear hb2)
     (try clear hk)
     (try clear hi)
     refine hK.out _ _ ⟨(blk_cell BK450.out 0).trans rfl, (blk_cell BK450.out 1).trans rfl, (blk_cell BK450.out 2).trans rfl, (blk_cell BK449.out 0).trans rfl⟩ (fun hHeld => ?_)
     clear hK K
     refine norm_ (a' := ?_) ?_ ?_
     rotate_left
     ·show Act.put _ (some 31) _ = _
      simp only [Act.put, List.setIfInBounds_toArray, List.set_cons_zero, List.set_cons_succ, i64_w, i32_w]
      rfl
     refine pure_ (i := 7) (N := some 32) (v := ?_) (a' := ?_) #[true, true, true, true, true, true, true, true] rfl rfl (any_of HT_.out (by kernel_rfl)) (fun _ _ _ h => h) (Or.inl ⟨by rfl, ?_⟩) ?_ ?_
     rotate_left
     ·intro w'
      go_simp
      with_reducible rfl
     rotate_left
     ·simp only [Act.put, List.setIfInBounds_toArray, List.set_cons_zero, List.set_cons_succ, i64_w, i32_w]
      rfl
     refine done_ (done_of HT_.out (by kernel_rfl)) ?_
     have hnb22 := NB450_449.out
     have hnc22 := NB449_450.out
     have hcz23_0 : w21.cell? ⟨gb450, 0, none⟩ = some (.int .i64 a1) := (blk_cell BK450.out 0).trans rfl
     have hcz23_1 : w21.cell? ⟨gb450, 1, none⟩ = some (.int .i64 x451001_4) := (blk_cell BK450.out 1).trans rfl
     have hcz23_2 : w21.cell? ⟨gb450, 2, none⟩ = some (.int .i64 x451002_4) := (blk_cell BK450.out 2).trans rfl
     have hfz23_0 := blk_frozen BK450.out 0
     have hfz23_1 := blk_frozen BK450.out 1
     have hfz23_2 := blk_frozen BK450.out 2
     try go_wp2_with (first | ((with_reducible refine gate_callee (f := 92) rfl ?_); refine goesL_ (some 35) rfl rfl Try.func92 (by kernel_rfl) rfl #[.pointer (some ⟨gb449, 0, none⟩), .agg #[.int .i64 a1, .int .i64 x451001_4, .int .i64 x451002_4]] rfl zl ?_; (with_reducible refine (impl_Pool_find.calls kj4 _ Ao6 co6 l0_0 a1 x451001_4 x451002_4 t452 _ ?side1 ?side2 ?side3 A18.out).mono ?_); (case side1 => exact zh BK449.out); (case side2 => exact zc (Kd.R_reads' HO_450000.out).2.2); (case side3 => exact (Kd.R_reads' HO_450000.out).2.1); rintro e w24 ⟨rfl, hb⟩; refine ⟨_, rfl, ?_⟩; have n0_ := Aside0.mk (Kd.R_below (zr HO_450000.out) hb); have n1_ := Aside0.mk (blk_below (zh BK449.out) hb); have n2_ := Aside0.mk (blk_below (zh BK450.out) hb); have n3_ := Aside0.mk (Kept.below (S := (fun k_ => P0_0_ k_ ∨ k_ = gb449)) (zk HK.out) hb); have n4_ := Aside0.mk (below_step (zb HB.out) hb); clear HO_450000; clear BK449; clear BK450; clear HK; clear HB; have HO_450000 := n0_; have BK449 := n1_; have BK450 := n2_; have HK := n3_; have HB := n4_; clear n0_ n1_ n2_ n3_ n4_; (try clear hb); (try clear hb2); (try clear hk); (try clear hi)))
     go_ret
     exact ⟨ze, zb HB.out, zk HK.out, _, zh BK449.out, zr (Kd.R_mono HO_450000.out (fun _ hk => hk.1))⟩
    ·rw [if_neg c19] at H
     have c19b0 : decide (0 ≤ t452) = false := decide_eq_false c19
     clear c19
     by_cases c25 : (l0_0.length : Int) ≥ 500
     ·rw [if_pos c25] at H
      have c25b0 : decide (500 ≤ (l0_0.length : Int)) = true := decide_eq_true c25
      have c25b1 : decide (500 ≤ l0_0.length) = true := decide_eq_true (by omega)
      clear c25
      obtain rfl := Option.some.inj H
      try go_wp2
      have n0_ := Aside0.mk (Kd.R_drew HO_450000.out)
      have n1_ := Aside0.mk (blk_drew BK449.out)
      have n2_ := Aside0.mk (blk_drew BK450.out)
      have n3_ := Aside0.mk (Kept.drew HK.out)
      have n4_ := Aside0.mk (below_drew1 HB.out)
      clear HO_450000
      clear BK449
      clear BK450
      clear HK
      clear HB
      have HO_450000 := n0_
      have BK449 := n1_
      have BK450 := n2_
      have HK := n3_
      have HB := n4_
      clear n0_ n1_ n2_ n3_ n4_
      refine start_ (n := 8) (S := fun w' => w'.cell? ⟨gb450, 0, none⟩ = some (.int .i64 a1) ∧ w'.cell? ⟨gb450, 1, none⟩ = some (.int .i64 x451001_4) ∧ w'.cell? ⟨gb450, 2, none⟩ = some (.int .i64 x451002_4) ∧ w'.cell? ⟨gb449, 0, none⟩ = some (.slice Ao6 l0_0.length co6)) (ds := []) #[false, false, false, false, false, false, false, false] (by kernel_rfl) rfl rfl ⟨(blk_cell BK450.out 0).trans rfl, (blk_cell BK450.out 1).trans rfl, (blk_cell BK450.out 2).trans rfl, (blk_cell BK449.out 0).trans rfl⟩ (fun hHeld => ?_); refine with_tabW impl_Pool_add.tab4 impl_Pool_add.bits4 (fun HT_ HW_ => ?_)
      generalize wc.drew = w26 at HO_450000 BK449 BK450 HK HB hHeld ⊢
      refine pure_ (i := 1) (N := some 26) (v := ?_) (a' := ?_) #[false, true, false, false, false, false, false, false] rfl rfl (any_of HT_.out (by kernel_rfl)) (fun _ _ _ h => h) (Or.inl ⟨by rfl, ?_⟩) ?_ ?_
      rotate_left
      ·intro w'
       go_simp
       with_reducible rfl
      rotate_left
      ·simp only [Act.put, List.setIfInBounds_toArray, List.set_cons_zero, List.set_cons_succ, i64_w, i32_w]
       rfl
      refine pure_ (i := 2) (N := some 27) (v := ?_) (a' := ?_) #[false, true, true, false, false, false, false, false] rfl rfl (any_of HT_.out (by kernel_rfl)) (fun _ _ _ h => h) (Or.inl ⟨by rfl, ?_⟩) ?_ ?_
      rotate_left
      ·intro w'
       go_simp
       with_reducible rfl
      rotate_left
      ·simp only [Act.put, List.setIfInBounds_toArray, List.set_cons_zero, List.set_cons_succ, i64_w, i32_w]
       rfl
      refine pure_ (i := 3) (N := some 28) (v := ?_) (a' := ?_) #[false, true, true, true, false, false, false, false] rfl rfl (any_of HT_.out (by kernel_rfl)) (fun _ _ _ h => h) (Or.inl ⟨by rfl, ?_⟩) ?_ ?_
      rotate_left
      ·intro w'
       go_simp
       with_reducible rfl
      rotate_left
      ·simp only [Act.put, List.setIfInBounds_toArray, List.set_cons_zero, List.set_cons_succ, i64_w, i32_w]
       rfl
      refine take_ (i := 0) (N := some 25) (v := ?_) (a' := ?_) #[true, true, true, true, false, false, false, false] rfl rfl (take_ofW HT_.out HW_.out (by kernel_rfl)) (fun _ _ _ h => h) (Or.inl ⟨by rfl, ?_⟩) hHeld ?_ ?_
      rotate_left
      ·rintro w' ⟨s0, s1, s2, s3⟩
       go_simp
       with_reducible rfl
      rotate_left
      ·simp only [Act.put, List.setIfInBounds_toArray, List.set_cons_zero, List.set_cons_succ, i64_w, i32_w]
       rfl
      refine take_ (i := 4) (N := some 29) (v := ?_) (a' := ?_) #[true, true, true, true, true, false, false, false] rfl rfl (take_ofW HT_.out HW_.out (by kernel_rfl)) (fun _ _ _ h => h) (Or.inl ⟨by rfl, ?_⟩) hHeld ?_ ?_
      rotate_left
      ·rintro w' ⟨s0, s1, s2, s3⟩
       go_simp
       with_reducible rfl
      rotate_left
      ·simp only [Act.put, List.setIfInBounds_toArray, List.set_cons_zero, List.set_cons_succ, i64_w, i32_w]
       rfl
      refine pure_ (i := 5) (N := some 30) (v := ?_) (a' := ?_) #[true, true, true, true, true, true, false, false] rfl rfl (any_of HT_.out (by kernel_rfl)) (fun _ _ _ h => h) (Or.inl ⟨by rfl, ?_⟩) ?_ ?_
      rotate_left
      ·intro w'
       go_simp
       with_reducible rfl
      rotate_left
      ·simp only [Act.put, List.setIfInBounds_toArray, List.set_cons_zero, List.set_cons_succ, i64_w, i32_w]
       rfl
      refine one_ (i := 6) (N := some 31) #[true, true, true, true, true, true, true, false] rfl rfl (one_of HT_.out (by kernel_rfl)) (by decide) (fun K hK => ?_)
      refine goes_ Try.func67 (by kernel_rfl) rfl #[.agg #[.int .i64 a1, .int .i64 x451001_4, .int .i64 x451002_4], .int .i64 (l0_0.length : Int)] (by rfl) rfl rfl zl ?_
      with_reducible refine (impl_nodeOk.calls kj4 a1 x451001_4 x451002_4 (l0_0.length : Int) true _ A16.out).mono ?_
      rintro e w27 ⟨rfl, hb⟩
      refine ⟨_, rfl, ?_⟩
      have n0_ := Aside0.mk (Kd.R_below (zr HO_450000.out) hb)
      have n1_ := Aside0.mk (blk_below (zh BK449.out) hb)
      have n2_ := Aside0.mk (blk_below (zh BK450.out) hb)
      have n3_ := Aside0.mk (Kept.below (S := (fun k_ => P0_0_ k_ ∨ k_ = gb449)) (zk HK.out) hb)
      have n4_ := Aside0.mk (below_step (zb HB.out) hb)
      clear HO_450000
      clear BK449
      clear BK450
      clear HK
      clear HB
      have HO_450000 := n0_
      have BK449 := n1_
      have BK450 := n2_
      have HK := n3_
      have HB := n4_
      clear n0_ n1_ n2_ n3_ n4_
      (try clear hb)
      (try clear hb2)
      (try clear hk)
      (try clear hi)
      refine hK.out _ _ ⟨(blk_cell BK450.out 0).trans rfl, (blk_cell BK450.out 1).trans rfl, (blk_cell BK450.out 2).trans rfl, (blk_cell BK449.out 0).trans rfl⟩ (fun hHeld => ?_)
      clear hK K
      refine norm_ (a' := ?_) ?_ ?_
      rotate_left
      ·show Act.put _ (some 31) _ = _
       simp only [Act.put, List.setIfInBounds_toArray, List.set_cons_zero, List.set_cons_succ, i64_w, i32_w]
       rfl
      refine pure_ (i := 7) (N := some 32) (v := ?_) (a' := ?_) #[true, true, true, true, true, true, true, true] rfl rfl (any_of HT_.out (by kernel_rfl)) (fun _ _ _ h => h) (Or.inl ⟨by rfl, ?_⟩) ?_ ?_
      rotate_left
      ·intro w'
       go_simp
       with_reducible rfl
      rotate_left
      ·simp only [Act.put, List.setIfInBounds_toArray, List.set_cons_zero, List.set_cons_succ, i64_w, i32_w]
       rfl
      refine done_ (done_of HT_.out (by kernel_rfl)) ?_
      have hnb28 := NB450_449.out
      have hnc28 := NB449_450.out
      have hcz29_0 : w27.cell? ⟨gb450, 0, none⟩ = some (.int .i64 a1) := (blk_cell BK450.out 0).trans rfl
      have hcz29_1 : w27.cell? ⟨gb450, 1, none⟩ = some (.int .i64 x451001_4) := (blk_cell BK450.out 1).trans rfl
      have hcz29_2 : w27.cell? ⟨gb450, 2, none⟩ = some (.int .i64 x451002_4) := (blk_cell BK450.out 2).trans rfl
      have hfz29_0 := blk_frozen BK450.out 0
      have hfz29_1 := blk_frozen BK450.out 1
      have hfz29_2 := blk_frozen BK450.out 2
      try go_wp2_with (first | ((with_reducible refine gate_callee (f := 92) rfl ?_); refine goesL_ (some 35) rfl rfl Try.func92 (by kernel_rfl) rfl #[.pointer (some ⟨gb449, 0, none⟩), .agg #[.int .i64 a1, .int .i64 x451001_4, .int .i64 x451002_4]] rfl zl ?_; (with_reducible refine (impl_Pool_find.calls kj4 _ Ao6 co6 l0_0 a1 x451001_4 x451002_4 t452 _ ?side1 ?side2 ?side3 A18.out).mono ?_); (case side1 => exact zh BK449.out); (case side2 => exact zc (Kd.R_reads' HO_450000.out).2.2); (case side3 => exact (Kd.R_reads' HO_450000.out).2.1); rintro e w30 ⟨rfl, hb⟩; refine ⟨_, rfl, ?_⟩; have n0_ := Aside0.mk (Kd.R_below (zr HO_450000.out) hb); have n1_ := Aside0.mk (blk_below (zh BK449.out) hb); have n2_ := Aside0.mk (blk_below (zh BK450.out) hb); have n3_ := Aside0.mk (Kept.below (S := (fun k_ => P0_0_ k_ ∨ k_ = gb449)) (zk HK.out) hb); have n4_ := Aside0.mk (below_step (zb HB.out) hb); clear HO_450000; clear BK449; clear BK450; clear HK; clear HB; have HO_450000 := n0_; have BK449 := n1_; have BK450 := n2_; have HK := n3_; have HB := n4_; clear n0_ n1_ n2_ n3_ n4_; (try clear hb); (try clear hb2); (try clear hk); (try clear hi); have hcz31_0 : w30.cell? ⟨gb449, 0, none⟩ = some (.slice Ao6 l0_0.length co6) := (blk_cell BK449.out 0).trans rfl; have hfz31_0 := blk_frozen BK449.out 0))
      go_ret
      exact ⟨ze, zb HB.out, zk HK.out, _, zh BK449.out, zr (Kd.R_mono HO_450000.out (fun _ hk => hk.1))⟩
     ·rw [if_neg c25] at H
      have c25b0 : decide (500 ≤ (l0_0.length : Int)) = false := decide_eq_false c25
      have c25b1 : decide (500 ≤ l0_0.length) = false := decide_eq_false (by omega)
      clear c25
      by_cases c32 : l0_0.length < 5864062014805
      ·rw [if_pos c32] at H
       have LMc32 := Aside0.mk c32
       clear c32
       obtain ⟨y453, hy453⟩ : ∃ y_ : List (S67), y_ = (l0_0 ++ [(⟨a1, x451001_4, x451002_4⟩ : S67)]) := ⟨_, rfl⟩
       replace H : (some (y453, wrap64 ((y453.length : Int) - 1))) = some r := by first | (rw [hy453]; with_reducible exact H) | (have H2_ := (Option.bind_some _ _).symm.trans H; rw [hy453]; with_reducible exact H2_) | (have H2_ := (Option.bind_some _ _).symm.trans H; with_reducible exact H2_) | with_reducible exact H | (rw [hy453]; exact H) | exact H
       have Ny453 := Aside0.mk hy453
       clear hy453
       obtain rfl := Option.some.inj H
       try go_wp2
       have n0_ := Aside0.mk (Kd.R_drew HO_450000.out)
       have n1_ := Aside0.mk (blk_drew BK449.out)
       have n2_ := Aside0.mk (blk_drew BK450.out)
       have n3_ := Aside0.mk (Kept.drew HK.out)
       have n4_ := Aside0.mk (below_drew1 HB.out)
       clear HO_450000
       clear BK449
       clear BK450
       clear HK
       clear HB
       have HO_450000 := n0_
       have BK449 := n1_
       have BK450 := n2_
       have HK := n3_
       have HB := n4_
       clear n0_ n1_ n2_ n3_ n4_
       refine start_ (n := 8) (S := fun w' => w'.cell? ⟨gb450, 0, none⟩ = some (.int .i64 a1) ∧ w'.cell? ⟨gb450, 1, none⟩ = some (.int .i64 x451001_4) ∧ w'.cell? ⟨gb450, 2, none⟩ = some (.int .i64 x451002_4) ∧ w'.cell? ⟨gb449, 0, none⟩ = some (.slice Ao6 l0_0.length co6)) (ds := []) #[false, false, false, false, false, false, false, false] (by kernel_rfl) rfl rfl ⟨(blk_cell BK450.out 0).trans rfl, (blk_cell BK450.out 1).trans rfl, (blk_cell BK450.out 2).trans rfl, (blk_cell BK449.out 0).trans rfl⟩ (fun hHeld => ?_); refine with_tabW impl_Pool_add.tab4 impl_Pool_add.bits4 (fun HT_ HW_ => ?_)
       generalize wc.drew = w33 at HO_450000 BK449 BK450 HK HB hHeld ⊢
       refine pure_ (i := 1) (N := some 26) (v := ?_) (a' := ?_) #[false, true, false, false, false, false, false, false] rfl rfl (any_of HT_.out (by kernel_rfl)) (fun _ _ _ h => h) (Or.inl ⟨by rfl, ?_⟩) ?_ ?_
       rotate_left
       ·intro w'
        go_simp
        with_reducible rfl
       rotate_left
       ·simp only [Act.put, List.setIfInBounds_toArray, List.set_cons_zero, List.set_cons_succ, i64_w, i32_w]
        rfl
       refine pure_ (i := 2) (N := some 27) (v := ?_) (a' := ?_) #[false, true, true, false, false, false, false, false] rfl rfl (any_of HT_.out (by kernel_rfl)) (fun _ _ _ h => h) (Or.inl ⟨by rfl, ?_⟩) ?_ ?_
       rotate_left
       ·intro w'
        go_simp
        with_reducible rfl
       rotate_left
       ·simp only [Act.put, List.setIfInBounds_toArray, List.set_cons_zero, List.set_cons_succ, i64_w, i32_w]
        rfl
       refine pure_ (i := 3) (N := some 28) (v := ?_) (a' := ?_) #[false, true, true, true, false, false, false, false] rfl rfl (any_of HT_.out (by kernel_rfl)) (fun _ _ _ h => h) (Or.inl ⟨by rfl, ?_⟩) ?_ ?_
       rotate_left
       ·intro w'
        go_simp
        with_reducible rfl
       rotate_left
       ·simp only [Act.put, List.setIfInBounds_toArray, List.set_cons_zero, List.set_cons_succ, i64_w, i32_w]
        rfl
       refine take_ (i := 0) (N := some 25) (v := ?_) (a' := ?_) #[true, true, true, true, false, false, false, false] rfl rfl (take_ofW HT_.out HW_.out (by kernel_rfl)) (fun _ _ _ h => h) (Or.inl ⟨by rfl, ?_⟩) hHeld ?_ ?_
       rotate_left
       ·rintro w' ⟨s0, s1, s2, s3⟩
        go_simp
        with_reducible rfl
       rotate_left
       ·simp only [Act.put, List.setIfInBounds_toArray, List.set_cons_zero, List.set_cons_succ, i64_w, i32_w]
        rfl
       refine take_ (i := 4) (N := some 29) (v := ?_) (a' := ?_) #[true, true, true, true, true, false, false, false] rfl rfl (take_ofW HT_.out HW_.out (by kernel_rfl)) (fun _ _ _ h => h) (Or.inl ⟨by rfl, ?_⟩) hHeld ?_ ?_
       rotate_left
       ·rintro w' ⟨s0, s1, s2, s3⟩
        go_simp
        with_reducible rfl
       rotate_left
       ·simp only [Act.put, List.setIfInBounds_toArray, List.set_cons_zero, List.set_cons_succ, i64_w, i32_w]
        rfl
       refine pure_ (i := 5) (N := some 30) (v := ?_) (a' := ?_) #[true, true, true, true, true, true, false, false] rfl rfl (any_of HT_.out (by kernel_rfl)) (fun _ _ _ h => h) (Or.inl ⟨by rfl, ?_⟩) ?_ ?_
       rotate_left
       ·intro w'
        go_simp
        with_reducible rfl
       rotate_left
       ·simp only [Act.put, List.setIfInBounds_toArray, List.set_cons_zero, List.set_cons_succ, i64_w, i32_w]
        rfl
       refine one_ (i := 6) (N := some 31) #[true, true, true, true, true, true, true, false] rfl rfl (one_of HT_.out (by kernel_rfl)) (by decide) (fun K hK => ?_)
       refine goes_ Try.func67 (by kernel_rfl) rfl #[.agg #[.int .i64 a1, .int .i64 x451001_4, .int .i64 x451002_4], .int .i64 (l0_0.length : Int)] (by rfl) rfl rfl zl ?_
       with_reducible refine (impl_nodeOk.calls kj4 a1 x451001_4 x451002_4 (l0_0.length : Int) true _ A16.out).mono ?_
       rintro e w34 ⟨rfl, hb⟩
       refine ⟨_, rfl, ?_⟩
       have n0_ := Aside0.mk (Kd.R_below (zr HO_450000.out) hb)
       have n1_ := Aside0.mk (blk_below (zh BK449.out) hb)
       have n2_ := Aside0.mk (blk_below (zh BK450.out) hb)
       have n3_ := Aside0.mk (Kept.below (S := (fun k_ => P0_0_ k_ ∨ k_ = gb449)) (zk HK.out) hb)
       have n4_ := Aside0.mk (below_step (zb HB.out) hb)
       clear HO_450000
       clear BK449
       clear BK450
       clear HK
       clear HB
       have HO_450000 := n0_
       have BK449 := n1_
       have BK450 := n2_
       have HK := n3_
       have HB := n4_
       clear n0_ n1_ n2_ n3_ n4_
       (try clear hb)
       (try clear hb2)
       (try clear hk)
       (try clear hi)
       refine hK.out _ _ ⟨(blk_cell BK450.out 0).trans rfl, (blk_cell BK450.out 1).trans rfl, (blk_cell BK450.out 2).trans rfl, (blk_cell BK449.out 0).trans rfl⟩ (fun hHeld => ?_)
       clear hK K
       refine norm_ (a' := ?_) ?_ ?_
       rotate_left
       ·show Act.put _ (some 31) _ = _
        simp only [Act.put, List.setIfInBounds_toArray, List.set_cons_zero, List.set_cons_succ, i64_w, i32_w]
        rfl
       refine pure_ (i := 7) (N := some 32) (v := ?_) (a' := ?_) #[true, true, true, true, true, true, true, true] rfl rfl (any_of HT_.out (by kernel_rfl)) (fun _ _ _ h => h) (Or.inl ⟨by rfl, ?_⟩) ?_ ?_
       rotate_left
       ·intro w'
        go_simp
        with_reducible rfl
       rotate_left
       ·simp only [Act.put, List.setIfInBounds_toArray, List.set_cons_zero, List.set_cons_succ, i64_w, i32_w]
        rfl
       refine done_ (done_of HT_.out (by kernel_rfl)) ?_
       have hnb35 := NB450_449.out
       have hnc35 := NB449_450.out
       have hcz36_0 : w34.cell? ⟨gb450, 0, none⟩ = some (.int .i64 a1) := (blk_cell BK450.out 0).trans rfl
       have hcz36_1 : w34.cell? ⟨gb450, 1, none⟩ = some (.int .i64 x451001_4) := (blk_cell BK450.out 1).trans rfl
       have hcz36_2 : w34.cell? ⟨gb450, 2, none⟩ = some (.int .i64 x451002_4) := (blk_cell BK450.out 2).trans rfl
       have hfz36_0 := blk_frozen BK450.out 0
       have hfz36_1 := blk_frozen BK450.out 1
       have hfz36_2 := blk_frozen BK450.out 2
       try go_wp2_with (first | ((with_reducible refine gate_callee (f := 92) rfl ?_); refine goesL_ (some 35) rfl rfl Try.func92 (by kernel_rfl) rfl #[.pointer (some ⟨gb449, 0, none⟩), .agg #[.int .i64 a1, .int .i64 x451001_4, .int .i64 x451002_4]] rfl zl ?_; (with_reducible refine (impl_Pool_find.calls kj4 _ Ao6 co6 l0_0 a1 x451001_4 x451002_4 t452 _ ?side1 ?side2 ?side3 A18.out).mono ?_); (case side1 => exact zh BK449.out); (case side2 => exact zc (Kd.R_reads' HO_450000.out).2.2); (case side3 => exact (Kd.R_reads' HO_450000.out).2.1); rintro e w37 ⟨rfl, hb⟩; refine ⟨_, rfl, ?_⟩; have n0_ := Aside0.mk (Kd.R_below (zr HO_450000.out) hb); have n1_ := Aside0.mk (blk_below (zh BK449.out) hb); have n2_ := Aside0.mk (blk_below (zh BK450.out) hb); have n3_ := Aside0.mk (Kept.below (S := (fun k_ => P0_0_ k_ ∨ k_ = gb449)) (zk HK.out) hb); have n4_ := Aside0.mk (below_step (zb HB.out) hb); clear HO_450000; clear BK449; clear BK450; clear HK; clear HB; have HO_450000 := n0_; have BK449 := n1_; have BK450 := n2_; have HK := n3_; have HB := n4_; clear n0_ n1_ n2_ n3_ n4_; (try clear hb); (try clear hb2); (try clear hk); (try clear hi); have hcz38_0 : w37.cell? ⟨gb449, 0, none⟩ = some (.slice Ao6 l0_0.length co6) := (blk_cell BK449.out 0).trans rfl; have hfz38_0 := blk_frozen BK449.out 0))
       have n0_ := Aside0.mk (Kd.R_drew HO_450000.out)
       have n1_ := Aside0.mk (blk_drew BK449.out)
       have n2_ := Aside0.mk (blk_drew BK450.out)
       have n3_ := Aside0.mk (Kept.drew HK.out)
       have n4_ := Aside0.mk (below_drew1 HB.out)
       clear HO_450000
       clear BK449
       clear BK450
       clear HK
       clear HB
       have HO_450000 := n0_
       have BK449 := n1_
       have BK450 := n2_
       have HK := n3_
       have HB := n4_
       clear n0_ n1_ n2_ n3_ n4_
       refine start_ (n := 11) (S := fun w' => w'.cell? ⟨gb449, 0, none⟩ = some (.slice Ao6 l0_0.length co6) ∧ w'.cell? ⟨gb450, 0, none⟩ = some (.int .i64 a1) ∧ w'.cell? ⟨gb450, 1, none⟩ = some (.int .i64 x451001_4) ∧ w'.cell? ⟨gb450, 2, none⟩ = some (.int .i64 x451002_4)) (ds := [10]) #[false, false, false, false, false, false, false, false, false, false, false] (by kernel_rfl) rfl rfl ⟨(blk_cell BK449.out 0).trans rfl, (blk_cell BK450.out 0).trans rfl, (blk_cell BK450.out 1).trans rfl, (blk_cell BK450.out 2).trans rfl⟩ (fun hHeld => ?_); refine with_tabW impl_Pool_add.tab11 impl_Pool_add.bits11 (fun HT_ HW_ => ?_)
       generalize w37.drew = w39 at HO_450000 BK449 BK450 HK HB hHeld ⊢
       refine pure_ (i := 0) (N := some 45) (v := ?_) (a' := ?_) #[true, false, false, false, false, false, false, false, false, false, false] rfl rfl (any_of HT_.out (by kernel_rfl)) (fun _ _ _ h => h) (Or.inl ⟨by rfl, ?_⟩) ?_ ?_
       rotate_left
       ·intro w'
        go_simp
        with_reducible rfl
       rotate_left
       ·simp only [Act.put, List.setIfInBounds_toArray, List.set_cons_zero, List.set_cons_succ, i64_w, i32_w]
        rfl
       refine pure_ (i := 1) (N := some 46) (v := ?_) (a' := ?_) #[true, true, false, false, false, false, false, false, false, false, false] rfl rfl (any_of HT_.out (by kernel_rfl)) (fun _ _ _ h => h) (Or.inl ⟨by rfl, ?_⟩) ?_ ?_
       rotate_left
       ·intro w'
        go_simp
        with_reducible rfl
       rotate_left
       ·simp only [Act.put, List.setIfInBounds_toArray, List.set_cons_zero, List.set_cons_succ, i64_w, i32_w]
        rfl
       refine pure_ (i := 2) (N := some 47) (v := ?_) (a' := ?_) #[true, true, true, false, false, false, false, false, false, false, false] rfl rfl (any_of HT_.out (by kernel_rfl)) (fun _ _ _ h => h) (Or.inl ⟨by rfl, ?_⟩) ?_ ?_
       rotate_left
       ·intro w'
        go_simp
        with_reducible rfl
       rotate_left
       ·simp only [Act.put, List.setIfInBounds_toArray, List.set_cons_zero, List.set_cons_succ, i64_w, i32_w]
        rfl
       refine pure_ (i := 3) (N := some 48) (v := ?_) (a' := ?_) #[true, true, true, true, false, false, false, false, false, false, false] rfl rfl (any_of HT_.out (by kernel_rfl)) (fun _ _ _ h => h) (Or.inl ⟨by rfl, ?_⟩) ?_ ?_
       rotate_left
       ·intro w'
        go_simp
        with_reducible rfl
       rotate_left
       ·simp only [Act.put, List.setIfInBounds_toArray, List.set_cons_zero, List.set_cons_succ, i64_w, i32_w]
        rfl
       refine take_ (i := 4) (N := some 49) (v := ?_) (a' := ?_) #[true, true, true, true, true, false, false, false, false, false, false] rfl rfl (take_ofW HT_.out HW_.out (by kernel_rfl)) (fun _ _ _ h => h) (Or.inl ⟨by rfl, ?_⟩) hHeld ?_ ?_
       rotate_left
       ·rintro w' ⟨s0, s1, s2, s3⟩
        go_simp
        with_reducible rfl
       rotate_left
       ·simp only [Act.put, List.setIfInBounds_toArray, List.set_cons_zero, List.set_cons_succ, i64_w, i32_w]
        rfl
       refine take_ (i := 5) (N := some 50) (v := ?_) (a' := ?_) #[true, true, true, true, true, true, false, false, false, false, false] rfl rfl (take_ofW HT_.out HW_.out (by kernel_rfl)) (fun _ _ _ h => h) (Or.inl ⟨by rfl, ?_⟩) hHeld ?_ ?_
       rotate_left
       ·rintro w' ⟨s0, s1, s2, s3⟩
        go_simp
        with_reducible rfl
       rotate_left
       ·simp only [Act.put, List.setIfInBounds_toArray, List.set_cons_zero, List.set_cons_succ, i64_w, i32_w]
        rfl
       refine one_ (i := 6) (N := some 51) #[true, true, true, true, true, true, true, false, false, false, false] rfl rfl (one_of HT_.out (by kernel_rfl)) (by decide) (fun K hK => ?_)
       refine value_ (w1 := ?_) (v := ?_) (by rfl) rfl ?_ ?_
       rotate_left 2
       ·go_simp
        constructor
        ·rfl
        ·rfl
       refine hK.out _ _ ⟨(blk_cell (blk_alloc BK449.out _) 0).trans rfl, (blk_cell (blk_alloc BK450.out _) 0).trans rfl, (blk_cell (blk_alloc BK450.out _) 1).trans rfl, (blk_cell (blk_alloc BK450.out _) 2).trans rfl⟩ (fun hHeld => ?_)
       clear hK K
       refine norm_ (a' := ?_) ?_ ?_
       rotate_left
       ·show Act.put _ (some 51) _ = _
        simp only [Act.put, List.setIfInBounds_toArray, List.set_cons_zero, List.set_cons_succ, i64_w, i32_w]
        rfl
       refine one_ (i := 7) (N := some 52) #[true, true, true, true, true, true, true, true, false, false, false] rfl rfl (one_of HT_.out (by kernel_rfl)) (by decide) (fun K hK => ?_)
       refine Kd.R_append_step k67 (w0 := w0) w0.heap.size (by rfl) (.tmp 49) (.tmp 51) 29 67 (.agg #[(.int .i64 0), (.int .i64 0), (.int .i64 0)]) 24 rfl Try.underlying29 info67 rfl (by decide) (by omega) (.slice Ao6 l0_0.length co6) l0_0 (⟨a1, x451001_4, x451002_4⟩ : S67) [.int .i64 a1, .int .i64 x451001_4, .int .i64 x451002_4] (fun k_ => (P0_0_ k_ ∨ w.heap.size ≤ k_) ∧ k_ ≠ gb450) (fun _ => False) rfl rfl ?aP (fun _ hk => hk.elim) ?aF ?aO ?aB ?aS ?aL ?_
       (case aP => exact k67_mkM _ _ _ (⟨a1, x451001_4, x451002_4⟩ : S67))
       (case aB => exact (zb HB.out))
       (case aF => exact (fun k_ hk => ⟨(.inr (Nat.le_trans (by first | exact HK.out.1 | exact (show Kept w _ (fun k_ => P0_0_ k_ ∨ k_ = gb449) from zk HK.out).1) hk)), Kd.freshB (zh BK450.out) k_ hk⟩))
       (case aO => exact (zr HO_450000.out))
       (case aS => exact (below_size (zb HB.out)))
       (case aL => have := LMc32.out; omega)
       intro v454 w40 ho hb hg hat
       rw [← Ny453.out] at ho
       have n0_ := Aside0.mk (blk_grown (zh BK449.out) hg (Kd.R_ne HO_450000.out BK449.out (by decide)))
       have n1_ := Aside0.mk (blk_grown (zh BK450.out) hg (Kd.R_away HO_450000.out (fun _ hk => hk.2)))
       have n2_ := Aside0.mk (hb)
       have n3_ := Aside0.mk (Kept.of_grown (S := (fun k_ => P0_0_ k_ ∨ k_ = gb449)) hg (zk HK.out) (fun k_ e_ => ((HO_450000.out.1 k_ e_).1).imp Or.inl id))
       have n4_ := Aside0.mk (ho)
       clear BK449
       clear BK450
       clear HB
       clear HK
       clear HO_450000
       have BK449 := n0_
       have BK450 := n1_
       have HB := n2_
       have HK := n3_
       have HO455 := n4_
       clear n0_ n1_ n2_ n3_ n4_
       clear ho hb hg hat
       obtain ⟨Ao41, co41, eo41⟩ := Kd.R_slice HO455.out
       (first | subst eo41 | (injection eo41 with f1_ f2_ f3_; have f4_ := f1_.symm; have f5_ := f3_.symm; clear f1_ f2_ f3_; subst f4_; subst f5_))
       refine hK.out _ _ ⟨(blk_cell BK449.out 0).trans rfl, (blk_cell BK450.out 0).trans rfl, (blk_cell BK450.out 1).trans rfl, (blk_cell BK450.out 2).trans rfl⟩ (fun hHeld => ?_)
       clear hK K
       refine norm_ (a' := ?_) ?_ ?_
       rotate_left
       ·show Act.put _ (some 52) _ = _
        simp only [Act.put, List.setIfInBounds_toArray, List.set_cons_zero, List.set_cons_succ, i64_w, i32_w]
        rfl
       refine pure_ (i := 8) (N := some 53) (v := ?_) (a' := ?_) #[true, true, true, true, true, true, true, true, true, false, false] rfl rfl (any_of HT_.out (by kernel_rfl)) (fun _ _ _ h => h) (Or.inl ⟨by rfl, ?_⟩) ?_ ?_
       rotate_left
       ·intro w'
        go_simp
        with_reducible rfl
       rotate_left
       ·simp only [Act.put, List.setIfInBounds_toArray, List.set_cons_zero, List.set_cons_succ, i64_w, i32_w]
        rfl
       refine pure_ (i := 9) (N := some 54) (v := ?_) (a' := ?_) #[true, true, true, true, true, true, true, true, true, true, false] rfl rfl (any_of HT_.out (by kernel_rfl)) (fun _ _ _ h => h) (Or.inl ⟨by rfl, ?_⟩) ?_ ?_
       rotate_left
       ·intro w'
        go_simp
        with_reducible rfl
       rotate_left
       ·simp only [Act.put, List.setIfInBounds_toArray, List.set_cons_zero, List.set_cons_succ, i64_w, i32_w]
        rfl
       refine last_ (i := 10) (N := none) #[true, true, true, true, true, true, true, true, true, true, true] rfl rfl (one_of HT_.out (by kernel_rfl)) (by decide) (fun K hK => ?_)
       have hs42 : w40.cell? ⟨gb449, 0, none⟩ = some (.slice Ao6 l0_0.length co6) := (blk_cell BK449.out 0).trans rfl
       have hfs42 := blk_frozen BK449.out 0
       have hns42_1 := NB450_449.out
       have hms42_1 := NB449_450.out
       refine skip_ (w1 := ?_) (by rfl) rfl ?_ ?_
       rotate_left
       ·go_simp
        rfl
       refine hK.out _ _ ?_
       clear hK K
       refine done_ (done_of HT_.out (by kernel_rfl)) ?_
       have hcz43_0 : w40.cell? ⟨gb449, 0, none⟩ = some (.slice Ao6 l0_0.length co6) := (blk_cell BK449.out 0).trans rfl
       have hfz43_0 := blk_frozen BK449.out 0
       try go_wp2
       go_ret
       exact ⟨ze, zb HB.out, zk HK.out, _, by (with_reducible repeat (first | refine blk_drewN ?_ _ | refine blk_drew ?_ | refine blk_alloc ?_ _)); refine blk_put (cs := #[.slice Ao6 l0_0.length co6]) ?_ 0 _ rfl; (with_reducible repeat (first | refine blk_drewN ?_ _ | refine blk_drew ?_ | refine blk_alloc ?_ _)); exact BK449.out, zr (Kd.R_mono (Kd.R_far (p := ⟨gb449, 0, none⟩) (Kd.R_far1 HO455.out rfl (Kd.R_ne HO455.out BK449.out (by decide))) (fun _ hk => hk.2) _) (fun _ hk => hk.1.1))⟩
      ·rw [if_neg c32] at H
       exact absurd H (by simp)
   ·replace c17 := Bool.eq_false_iff.mpr c17
    subst c17
    have H1 : (some (l0_0, -1)) = some r := by rw [if_neg (show ¬ (false = true) by decide)] at H; exact H
    clear H
    have H := H1
    clear H1
    obtain rfl := Option.some.inj H
    try go_wp2
    have n0_ := Aside0.mk (Kd.R_drew HO_450000.out)
    have n1_ := Aside0.mk (blk_drew BK449.out)
    have n2_ := Aside0.mk (blk_drew BK450.out)
    have n3_ := Aside0.mk (Kept.drew HK.out)
    have n4_ := Aside0.mk (below_drew1 HB.out)
    clear HO_450000
    clear BK449
    clear BK450
    clear HK
    clear HB
    have HO_450000 := n0_
    have BK449 := n1_
    have BK450 := n2_
    have HK := n3_
    have HB := n4_
    clear n0_ n1_ n2_ n3_ n4_
    refine start_ (n := 8) (S := fun w' => w'.cell? ⟨gb450, 0, none⟩ = some (.int .i64 a1) ∧ w'.cell? ⟨gb450, 1, none⟩ = some (.int .i64 x451001_4) ∧ w'.cell? ⟨gb450, 2, none⟩ = some (.int .i64 x451002_4) ∧ w'.cell? ⟨gb449, 0, none⟩ = some (.slice Ao6 l0_0.length co6)) (ds := []) #[false, false, false, false, false, false, false, false] (by kernel_rfl) rfl rfl ⟨(blk_cell BK450.out 0).trans rfl, (blk_cell BK450.out 1).trans rfl, (blk_cell BK450.out 2).trans rfl, (blk_cell BK449.out 0).trans rfl⟩ (fun hHeld => ?_); refine with_tabW impl_Pool_add.tab4 impl_Pool_add.bits4 (fun HT_ HW_ => ?_)
    generalize wc.drew = w44 at HO_450000 BK449 BK450 HK HB hHeld ⊢
    refine pure_ (i := 1) (N := some 26) (v := ?_) (a' := ?_) #[false, true, false, false, false, false, false, false] rfl rfl (any_of HT_.out (by kernel_rfl)) (fun _ _ _ h => h) (Or.inl ⟨by rfl, ?_⟩) ?_ ?_
    rotate_left
    ·intro w'
     go_simp
     with_reducible rfl
    rotate_left
    ·simp only [Act.put, List.setIfInBounds_toArray, List.set_cons_zero, List.set_cons_succ, i64_w, i32_w]
     rfl
    refine pure_ (i := 2) (N := some 27) (v := ?_) (a' := ?_) #[false, true, true, false, false, false, false, false] rfl rfl (any_of HT_.out (by kernel_rfl)) (fun _ _ _ h => h) (Or.inl ⟨by rfl, ?_⟩) ?_ ?_
    rotate_left
    ·intro w'
     go_simp
     with_reducible rfl
    rotate_left
    ·simp only [Act.put, List.setIfInBounds_toArray, List.set_cons_zero, List.set_cons_succ, i64_w, i32_w]
     rfl
    refine pure_ (i := 3) (N := some 28) (v := ?_) (a' := ?_) #[false, true, true, true, false, false, false, false] rfl rfl (any_of HT_.out (by kernel_rfl)) (fun _ _ _ h => h) (Or.inl ⟨by rfl, ?_⟩) ?_ ?_
    rotate_left
    ·intro w'
     go_simp
     with_reducible rfl
    rotate_left
    ·simp only [Act.put, List.setIfInBounds_toArray, List.set_cons_zero, List.set_cons_succ, i64_w, i32_w]
     rfl
    refine take_ (i := 0) (N := some 25) (v := ?_) (a' := ?_) #[true, true, true, true, false, false, false, false] rfl rfl (take_ofW HT_.out HW_.out (by kernel_rfl)) (fun _ _ _ h => h) (Or.inl ⟨by rfl, ?_⟩) hHeld ?_ ?_
    rotate_left
    ·rintro w' ⟨s0, s1, s2, s3⟩
     go_simp
     with_reducible rfl
    rotate_left
    ·simp only [Act.put, List.setIfInBounds_toArray, List.set_cons_zero, List.set_cons_succ, i64_w, i32_w]
     rfl
    refine take_ (i := 4) (N := some 29) (v := ?_) (a' := ?_) #[true, true, true, true, true, false, false, false] rfl rfl (take_ofW HT_.out HW_.out (by kernel_rfl)) (fun _ _ _ h => h) (Or.inl ⟨by rfl, ?_⟩) hHeld ?_ ?_
    rotate_left
    ·rintro w' ⟨s0, s1, s2, s3⟩
     go_simp
     with_reducible rfl
    rotate_left
    ·simp only [Act.put, List.setIfInBounds_toArray, List.set_cons_zero, List.set_cons_succ, i64_w, i32_w]
     rfl
    refine pure_ (i := 5) (N := some 30) (v := ?_) (a' := ?_) #[true, true, true, true, true, true, false, false] rfl rfl (any_of HT_.out (by kernel_rfl)) (fun _ _ _ h => h) (Or.inl ⟨by rfl, ?_⟩) ?_ ?_
    rotate_left
    ·intro w'
     go_simp
     with_reducible rfl
    rotate_left
    ·simp only [Act.put, List.setIfInBounds_toArray, List.set_cons_zero, List.set_cons_succ, i64_w, i32_w]
     rfl
    refine one_ (i := 6) (N := some 31) #[true, true, true, true, true, true, true, false] rfl rfl (one_of HT_.out (by kernel_rfl)) (by decide) (fun K hK => ?_)
    refine goes_ Try.func67 (by kernel_rfl) rfl #[.agg #[.int .i64 a1, .int .i64 x451001_4, .int .i64 x451002_4], .int .i64 (l0_0.length : Int)] (by rfl) rfl rfl zl ?_
    with_reducible refine (impl_nodeOk.calls kj4 a1 x451001_4 x451002_4 (l0_0.length : Int) false _ A16.out).mono ?_
    rintro e w45 ⟨rfl, hb⟩
    refine ⟨_, rfl, ?_⟩
    have n0_ := Aside0.mk (Kd.R_below (zr HO_450000.out) hb)
    have n1_ := Aside0.mk (blk_below (zh BK449.out) hb)
    have n2_ := Aside0.mk (blk_below (zh BK450.out) hb)
    have n3_ := Aside0.mk (Kept.below (S := (fun k_ => P0_0_ k_ ∨ k_ = gb449)) (zk HK.out) hb)
    have n4_ := Aside0.mk (below_step (zb HB.out) hb)
    clear HO_450000
    clear BK449
    clear BK450
    clear HK
    clear HB
    have HO_450000 := n0_
    have BK449 := n1_
    have BK450 := n2_
    have HK := n3_
    have HB := n4_
    clear n0_ n1_ n2_ n3_ n4_
    (try clear hb)
    (try clear hb2)
    (try clear hk)
    (try clear hi)
    refine hK.out _ _ ⟨(blk_cell BK450.out 0).trans rfl, (blk_cell BK450.out 1).trans rfl, (blk_cell BK450.out 2).trans rfl, (blk_cell BK449.out 0).trans rfl⟩ (fun hHeld => ?_)
    clear hK K
    refine norm_ (a' := ?_) ?_ ?_
    rotate_left
    ·show Act.put _ (some 31) _ = _
     simp only [Act.put, List.setIfInBounds_toArray, List.set_cons_zero, List.set_cons_succ, i64_w, i32_w]
     rfl
    refine pure_ (i := 7) (N := some 32) (v := ?_) (a' := ?_) #[true, true, true, true, true, true, true, true] rfl rfl (any_of HT_.out (by kernel_rfl)) (fun _ _ _ h => h) (Or.inl ⟨by rfl, ?_⟩) ?_ ?_
    rotate_left
    ·intro w'
     go_simp
     with_reducible rfl
    rotate_left
    ·simp only [Act.put, List.setIfInBounds_toArray, List.set_cons_zero, List.set_cons_succ, i64_w, i32_w]
     rfl
    refine done_ (done_of HT_.out (by kernel_rfl)) ?_
    try go_wp2
    go_ret
    exact ⟨ze, zb HB.out, zk HK.out, _, zh BK449.out, zr (Kd.R_mono HO_450000.out (fun _ hk => hk.1))⟩



end Go.Proofs.Ytilnfdnigjblcaa.H
end

section
-- Written by this session's program (wip/tools/gprint.py over the kit's print) out of the translation; Lean checks it.
namespace Go.Proofs.Ytilnfdnigjblcaa.H
open Go.RowKit Go.Proofs.YtilnfdnigjblcaaW.PrintWords Go.Proofs.YtilnfdnigjblcaaW.PrintLast Go.Proofs.YtilnfdnigjblcaaW.PrintMore
attribute [local go_sem] max2_int min2_int max_two min_two max_three min_three max_four min_four   -- for this text's walks alone
set_option linter.unusedVariables false
set_option linter.unusedSimpArgs false
set_option maxRecDepth 100000


/-! ### impl_PoolAdd: function 50 -/
def impl_PoolAdd.f (k : Nat) (l0_0 : List (S67)) (a1_0 : Int) (a1_1 : Int) (a1_2 : Int) : Option ((List (S67)) × Int) := (impl_PoolOk.f l0_0).bind fun t454 => (if t454 = true then ((impl_copyPool.f l0_0).bind fun t455 => (impl_Pool_add.f k t455 a1_0 a1_1 a1_2)) else (some (([] : List (S67)), (-1))))
theorem impl_PoolAdd.mono : ∀ a0 x0 x1 x2 k, LeO (impl_PoolAdd.f k a0 x0 x1 x2) (impl_PoolAdd.f (k + 1) a0 x0 x1 x2) := by
 intro a0 x0 x1 x2 k
 unfold impl_PoolAdd.f
 repeat' first
   | (with_reducible exact impl_Pool_add.mono _ _ _ _ _)
   | (with_reducible exact LeO.refl _)
   | (with_reducible refine LeO.ite ?_ ?_)
   | (with_reducible refine LeO.bind ?_ (fun _ => ?_))
set_option maxHeartbeats 8000000 in
set_option maxRecDepth 100000 in
theorem impl_PoolAdd.calls (k : Nat) (A0_0 : Option Addr) (c0_0 : Nat) (l0_0 : List (S67)) (a1_0 : Int) (a1_1 : Int) (a1_2 : Int) (r1 : List (S67)) (r2 : Int) (w : World) (hr0_0 : Kd.C k67 w A0_0 l0_0.length l0_0) (hc0_0 : l0_0.length ≤ c0_0) (h : impl_PoolAdd.f k l0_0 a1_0 a1_1 a1_2 = some (r1, r2)) :
  Calls Try.prog 50 #[.agg #[.slice A0_0 l0_0.length c0_0], .agg #[.int .i64 a1_0, .int .i64 a1_1, .int .i64 a1_2]] w fun e w' => ∃ v0_ : Value, e = .returned (.tuple #[.agg #[v0_], .int .i64 r2]) ∧ Kd.R k67 67 w' w.heap.size (fun _ => True) v0_ r1 ∧ Below w.heap.size w w' := by
 have hu31 := Try.underlying31
 have hu67 := Try.underlying67
 have HR0_0 := Aside0.mk hr0_0
 have HC0_0 := Aside0.mk hc0_0
 clear hr0_0 hc0_0
 have HB := Aside0.mk (Below.refl w.heap.size w)
 have H : ((impl_PoolOk.f l0_0).bind fun t454 => (if t454 = true then ((impl_copyPool.f l0_0).bind fun t455 => (impl_Pool_add.f k t455 a1_0 a1_1 a1_2)) else (some (([] : List (S67)), (-1))))) = some (r1, r2) := h
 clear h
 replace H := Option.bind_eq_some_iff.mp H
 obtain ⟨t454, A30, H⟩ := H
 replace H : (if t454 = true then ((impl_copyPool.f l0_0).bind fun t455 => (impl_Pool_add.f k t455 a1_0 a1_1 a1_2)) else (some (([] : List (S67)), (-1)))) = some (r1, r2) := H
 have A3 := Aside0.mk A30
 clear A30
 by_cases c4 : t454 = true
 ·subst c4
  have H1 : ((impl_copyPool.f l0_0).bind fun t455 => (impl_Pool_add.f k t455 a1_0 a1_1 a1_2)) = some (r1, r2) := by rw [if_pos rfl] at H; exact H
  clear H
  have H := H1
  clear H1
  replace H := Option.bind_eq_some_iff.mp H
  obtain ⟨t455, A50, H⟩ := H
  replace H : (impl_Pool_add.f k t455 a1_0 a1_1 a1_2) = some (r1, r2) := H
  have A5 := Aside0.mk A50
  clear A50
  have A7 := Aside0.mk H
  clear H
  go_enter Try.func50, Try.ntmps50
  go_wp2_with (first | ((with_reducible refine gate_dst (N := 2) rfl ?_); refine box_event ?hg (N := 2) ?hd (cs := #[.slice A0_0 l0_0.length c0_0]) (t := 31) ?hr ?_; (case hd => rfl); (case hg => rfl); (case hr => first | (go_simp; done) | (go_simp; rfl)); intro gb451 hg w6 hbox hb; have n0_ := Aside0.mk (below_step (zb HB.out) hb); have n1_ := Aside0.mk (hbox); have n2_ := Aside0.mk ((by rw [hg]; exact (below_size (zb HB.out)) : w.heap.size ≤ gb451)); have n3_ := Aside0.mk ((by rw [hg]; exact (below_size (zb HB.out)) : w.heap.size ≤ gb451)); clear HB; have HB := n0_; have BK451 := n1_; have GW451 := n2_; have GE451 := n3_; clear n0_ n1_ n2_ n3_; clear hb hbox hg) | ((with_reducible refine gate_dst (N := 3) rfl ?_); refine box_event ?hg (N := 3) ?hd (cs := #[.int .i64 a1_0, .int .i64 a1_1, .int .i64 a1_2]) (t := 67) ?hr ?_; (case hd => rfl); (case hg => rfl); (case hr => first | (go_simp; done) | (go_simp; rfl)); intro gb452 hg w7 hbox hb; have n0_ := Aside0.mk (blk_below (zh BK451.out) hb); have n1_ := Aside0.mk (below_step (zb HB.out) hb); have n2_ := Aside0.mk (hbox); have n3_ := Aside0.mk ((by rw [hg]; exact (below_size (zb HB.out)) : w.heap.size ≤ gb452)); have n4_ := Aside0.mk ((by rw [hg]; exact (below_size (zb HB.out)) : w.heap.size ≤ gb452)); have n5_ := Aside0.mk ((by rw [hg]; exact Nat.ne_of_lt (blk_lt (zh BK451.out)) : gb451 ≠ gb452)); have n6_ := Aside0.mk ((by rw [hg]; exact Nat.ne_of_gt (blk_lt (zh BK451.out)) : gb452 ≠ gb451)); clear BK451; clear HB; have BK451 := n0_; have HB := n1_; have BK452 := n2_; have GW452 := n3_; have GE452 := n4_; have NB451_452 := n5_; have NB452_451 := n6_; clear n0_ n1_ n2_ n3_ n4_ n5_ n6_; clear hb hbox hg) | ((with_reducible refine gate_dst (N := 4) rfl ?_); refine box_event ?hg (N := 4) ?hd (cs := #[.slice none 0 0]) (t := 31) ?hr ?_; (case hd => rfl); (case hg => rfl); (case hr => first | (go_simp; done) | (go_simp; rfl)); intro gb453 hg w8 hbox hb; have n0_ := Aside0.mk (blk_below (zh BK451.out) hb); have n1_ := Aside0.mk (blk_below (zh BK452.out) hb); have n2_ := Aside0.mk (below_step (zb HB.out) hb); have n3_ := Aside0.mk (hbox); have n4_ := Aside0.mk ((by rw [hg]; exact (below_size (zb HB.out)) : w.heap.size ≤ gb453)); have n5_ := Aside0.mk ((by rw [hg]; exact (below_size (zb HB.out)) : w.heap.size ≤ gb453)); have n6_ := Aside0.mk ((by rw [hg]; exact Nat.ne_of_lt (blk_lt (zh BK451.out)) : gb451 ≠ gb453)); have n7_ := Aside0.mk ((by rw [hg]; exact Nat.ne_of_gt (blk_lt (zh BK451.out)) : gb453 ≠ gb451)); have n8_ := Aside0.mk ((by rw [hg]; exact Nat.ne_of_lt (blk_lt (zh BK452.out)) : gb452 ≠ gb453)); have n9_ := Aside0.mk ((by rw [hg]; exact Nat.ne_of_gt (blk_lt (zh BK452.out)) : gb453 ≠ gb452)); clear BK451; clear BK452; clear HB; have BK451 := n0_; have BK452 := n1_; have HB := n2_; have BK453 := n3_; have GW453 := n4_; have GE453 := n5_; have NB451_453 := n6_; have NB453_451 := n7_; have NB452_453 := n8_; have NB453_452 := n9_; clear n0_ n1_ n2_ n3_ n4_ n5_ n6_ n7_ n8_ n9_; clear hb hbox hg; have hnb9 := NB451_452.out; have hnc9 := NB452_451.out; have hnb10 := NB451_453.out; have hnc10 := NB453_451.out; have hcz11_0 : w8.cell? ⟨gb451, 0, none⟩ = some (.slice A0_0 l0_0.length c0_0) := (blk_cell BK451.out 0).trans rfl; have hfz11_0 := blk_frozen BK451.out 0) | ((with_reducible refine gate_callee (f := 48) rfl ?_); refine goesL_ (some 9) rfl rfl Try.func48 (by kernel_rfl) rfl #[.agg #[.slice A0_0 l0_0.length c0_0]] rfl zl ?_; (with_reducible refine (impl_PoolOk.calls _ _ l0_0 true _ ?side1 ?side2 A3.out).mono ?_); (case side1 => exact zc (Kd.C_below HR0_0.out HB.out)); (case side2 => exact HC0_0.out); rintro e w12 ⟨rfl, hb⟩; refine ⟨_, rfl, ?_⟩; have n0_ := Aside0.mk (blk_below (zh BK451.out) hb); have n1_ := Aside0.mk (blk_below (zh BK452.out) hb); have n2_ := Aside0.mk (blk_below (zh BK453.out) hb); have n3_ := Aside0.mk (below_step (zb HB.out) hb); clear BK451; clear BK452; clear BK453; clear HB; have BK451 := n0_; have BK452 := n1_; have BK453 := n2_; have HB := n3_; clear n0_ n1_ n2_ n3_; (try clear hb); (try clear hb2); (try clear hk); (try clear hi); have hcz13_0 : w12.cell? ⟨gb451, 0, none⟩ = some (.slice A0_0 l0_0.length c0_0) := (blk_cell BK451.out 0).trans rfl; have hfz13_0 := blk_frozen BK451.out 0) | ((with_reducible refine gate_callee (f := 69) rfl ?_); refine goesL_ (some 13) rfl rfl Try.func69 (by kernel_rfl) rfl #[.agg #[.slice A0_0 l0_0.length c0_0]] rfl zl ?_; (with_reducible refine (impl_copyPool.calls _ _ l0_0 t455 _ ?side1 ?side2 A5.out).mono ?_); (case side1 => exact zc (Kd.C_below HR0_0.out HB.out)); (case side2 => exact HC0_0.out); rintro e w14 ⟨v456, rfl, ho0, hb⟩; refine ⟨_, rfl, ?_⟩; have n0_ := Aside0.mk (Kd.R_lower (Kd.R_newB ho0 (zh BK452.out)) (below_size (zb HB.out))); have n1_ := Aside0.mk (blk_below (zh BK451.out) hb); have n2_ := Aside0.mk (blk_below (zh BK452.out) hb); have n3_ := Aside0.mk (blk_below (zh BK453.out) hb); have n4_ := Aside0.mk (below_step (zb HB.out) hb); clear BK451; clear BK452; clear BK453; clear HB; have HO457 := n0_; have BK451 := n1_; have BK452 := n2_; have BK453 := n3_; have HB := n4_; clear n0_ n1_ n2_ n3_ n4_; (try clear hb); (try clear hb2); (try clear hk); (try clear hi); (try clear ho0)) | ((with_reducible refine gate_dst (N := 6) rfl ?_); refine box_event ?hg (N := 6) ?hd (cs := #[.slice none 0 0]) (t := 31) ?hr ?_; (case hd => rfl); (case hg => rfl); (case hr => first | (go_simp; done) | (go_simp; rfl)); intro gb458 hg w15 hbox hb; have n0_ := Aside0.mk (Kd.R_below (zr HO457.out) hb); have n1_ := Aside0.mk (blk_below (zh BK451.out) hb); have n2_ := Aside0.mk (blk_below (zh BK452.out) hb); have n3_ := Aside0.mk (blk_below (zh BK453.out) hb); have n4_ := Aside0.mk (below_step (zb HB.out) hb); have n5_ := Aside0.mk (hbox); have n6_ := Aside0.mk ((by rw [hg]; exact (below_size (zb HB.out)) : w.heap.size ≤ gb458)); have n7_ := Aside0.mk ((by rw [hg]; exact (below_size (zb HB.out)) : w.heap.size ≤ gb458)); have n8_ := Aside0.mk ((by rw [hg]; exact Nat.ne_of_lt (blk_lt (zh BK451.out)) : gb451 ≠ gb458)); have n9_ := Aside0.mk ((by rw [hg]; exact Nat.ne_of_gt (blk_lt (zh BK451.out)) : gb458 ≠ gb451)); have n10_ := Aside0.mk ((by rw [hg]; exact Nat.ne_of_lt (blk_lt (zh BK452.out)) : gb452 ≠ gb458)); have n11_ := Aside0.mk ((by rw [hg]; exact Nat.ne_of_gt (blk_lt (zh BK452.out)) : gb458 ≠ gb452)); have n12_ := Aside0.mk ((by rw [hg]; exact Nat.ne_of_lt (blk_lt (zh BK453.out)) : gb453 ≠ gb458)); have n13_ := Aside0.mk ((by rw [hg]; exact Nat.ne_of_gt (blk_lt (zh BK453.out)) : gb458 ≠ gb453)); clear HO457; clear BK451; clear BK452; clear BK453; clear HB; have HO457 := n0_; have BK451 := n1_; have BK452 := n2_; have BK453 := n3_; have HB := n4_; have BK458 := n5_; have GW458 := n6_; have GE458 := n7_; have NB451_458 := n8_; have NB458_451 := n9_; have NB452_458 := n10_; have NB458_452 := n11_; have NB453_458 := n12_; have NB458_453 := n13_; clear n0_ n1_ n2_ n3_ n4_ n5_ n6_ n7_ n8_ n9_ n10_ n11_ n12_ n13_; clear hb hbox hg; obtain ⟨Ao16, co16, eo16⟩ := Kd.R_slice HO457.out; subst eo16; have hnb17 := NB458_451.out; have hnc17 := NB451_458.out; have hnb18 := NB458_452.out; have hnc18 := NB452_458.out; have hnb19 := NB458_453.out; have hnc19 := NB453_458.out; have hcz20_0 : w15.cell? ⟨gb458, 0, none⟩ = some (.slice none 0 0) := (blk_cell BK458.out 0).trans rfl; have hfz20_0 := blk_frozen BK458.out 0; have hnb21 := NB452_453.out; have hnc21 := NB453_452.out; have hcz22_0 : w15.cell? ⟨gb452, 0, none⟩ = some (.int .i64 a1_0) := (blk_cell BK452.out 0).trans rfl; have hcz22_1 : w15.cell? ⟨gb452, 1, none⟩ = some (.int .i64 a1_1) := (blk_cell BK452.out 1).trans rfl; have hcz22_2 : w15.cell? ⟨gb452, 2, none⟩ = some (.int .i64 a1_2) := (blk_cell BK452.out 2).trans rfl; have hfz22_0 := blk_frozen BK452.out 0; have hfz22_1 := blk_frozen BK452.out 1; have hfz22_2 := blk_frozen BK452.out 2; have hcz23_0 : w15.cell? ⟨gb453, 0, none⟩ = some (.slice none 0 0) := (blk_cell BK453.out 0).trans rfl; have hfz23_0 := blk_frozen BK453.out 0) | ((with_reducible refine gate_callee (f := 70) rfl ?_); refine goesL_ (some 20) rfl rfl Try.func70 (by kernel_rfl) rfl #[.pointer (some ⟨gb458, 0, none⟩), .int .i64 a1_0, .int .i64 a1_1, .int .i64 a1_2] rfl zl ?_; (with_reducible refine (impl_Pool_add.calls k gb458 (fun k_ => k_ ≠ gb453) (.slice Ao16 t455.length co16) t455 a1_0 a1_1 a1_2 (r1, r2) w _ ?hB ?hge ?hbx ?ho A7.out).mono ?_); (case hB => exact (zb HB.out)); (case hge => exact GE458.out); (case hbx => (with_reducible repeat (first | refine blk_drewN ?_ _ | refine blk_drew ?_ | refine blk_alloc ?_ _)); refine blk_put (cs := #[.slice none 0 0]) ?_ 0 _ rfl; (with_reducible repeat (first | refine blk_drewN ?_ _ | refine blk_drew ?_ | refine blk_alloc ?_ _)); exact BK458.out); (case ho => (with_reducible repeat (first | apply Kd.R_alloc | apply Kd.R_drewN | apply Kd.R_drew)); exact Kd.R_mono (Kd.R_far (p := ⟨gb458, 0, none⟩) (Kd.R_types (Kd.R_types HO457.out BK458.out (by decide)) BK453.out (by decide)) (fun _ hk => hk.1.2) (.slice Ao16 t455.length co16)) (fun _ hk => hk.2)); rintro e w916 ⟨rfl, hb, hkp, u_, hbx, ho⟩; refine ⟨_, rfl, ?_⟩; have n0_ := Aside0.mk ho; have n1_ := Aside0.mk hbx; have n2_ := Aside0.mk (blk_kept (g := gb453) (o := .cells #[.slice none 0 0] 31 (0, 0)) (zf BK453.out) hkp (fun h_ => h_.elim (fun a_ => a_ rfl) NB453_458.out)); have n3_ := Aside0.mk hb; clear HO457 BK458 BK453 HB; have HO457 := n0_; have BK458 := n1_; have BK453 := n2_; have HB := n3_; clear n0_ n1_ n2_ n3_; clear hb hkp hbx ho; obtain ⟨Ao917, co917, eo917⟩ := Kd.R_slice HO457.out; subst eo917; have hcz920_0 : w916.cell? ⟨gb458, 0, none⟩ = some (.slice Ao917 r1.length co917) := (blk_cell BK458.out 0).trans rfl; have hfz920_0 := blk_frozen BK458.out 0; have hcz923_0 : w916.cell? ⟨gb453, 0, none⟩ = some (.slice none 0 0) := (blk_cell BK453.out 0).trans rfl; have hfz923_0 := blk_frozen BK453.out 0))
  refine bodyPost_ret (results_ct rfl _ _ gb453 31 #[.slice Ao917 r1.length co917] (0, 0) _ rfl (by (with_reducible repeat (first | refine blk_drewN ?_ _ | refine blk_drew ?_ | refine blk_alloc ?_ _)); refine blk_put (cs := #[.slice none 0 0]) ?_ 0 _ rfl; (with_reducible repeat (first | refine blk_drewN ?_ _ | refine blk_drew ?_ | refine blk_alloc ?_ _)); exact BK453.out) Try.underlying31 rfl (by kernel_rfl)) rfl ?_
  exact ⟨_, ze, zr (Kd.R_mono (Kd.R_far (p := ⟨gb453, 0, none⟩) (Kd.R_types HO457.out BK453.out (by decide)) (fun _ hk => hk.2) (.slice Ao917 r1.length co917)) (fun _ hk => trivial)), zb HB.out⟩
 ·replace c4 := Bool.eq_false_iff.mpr c4
  subst c4
  have H1 : (some (([] : List (S67)), (-1))) = some (r1, r2) := by rw [if_neg (show ¬ (false = true) by decide)] at H; exact H
  clear H
  have H := H1
  clear H1
  simp only [Option.some.injEq, Prod.mk.injEq] at H
  obtain ⟨rfl, rfl⟩ := H
  go_enter Try.func50, Try.ntmps50
  go_wp2_with (first | ((with_reducible refine gate_dst (N := 2) rfl ?_); refine box_event ?hg (N := 2) ?hd (cs := #[.slice A0_0 l0_0.length c0_0]) (t := 31) ?hr ?_; (case hd => rfl); (case hg => rfl); (case hr => first | (go_simp; done) | (go_simp; rfl)); intro gb451 hg w24 hbox hb; have n0_ := Aside0.mk (below_step (zb HB.out) hb); have n1_ := Aside0.mk (hbox); have n2_ := Aside0.mk ((by rw [hg]; exact (below_size (zb HB.out)) : w.heap.size ≤ gb451)); have n3_ := Aside0.mk ((by rw [hg]; exact (below_size (zb HB.out)) : w.heap.size ≤ gb451)); clear HB; have HB := n0_; have BK451 := n1_; have GW451 := n2_; have GE451 := n3_; clear n0_ n1_ n2_ n3_; clear hb hbox hg) | ((with_reducible refine gate_dst (N := 3) rfl ?_); refine box_event ?hg (N := 3) ?hd (cs := #[.int .i64 a1_0, .int .i64 a1_1, .int .i64 a1_2]) (t := 67) ?hr ?_; (case hd => rfl); (case hg => rfl); (case hr => first | (go_simp; done) | (go_simp; rfl)); intro gb452 hg w25 hbox hb; have n0_ := Aside0.mk (blk_below (zh BK451.out) hb); have n1_ := Aside0.mk (below_step (zb HB.out) hb); have n2_ := Aside0.mk (hbox); have n3_ := Aside0.mk ((by rw [hg]; exact (below_size (zb HB.out)) : w.heap.size ≤ gb452)); have n4_ := Aside0.mk ((by rw [hg]; exact (below_size (zb HB.out)) : w.heap.size ≤ gb452)); have n5_ := Aside0.mk ((by rw [hg]; exact Nat.ne_of_lt (blk_lt (zh BK451.out)) : gb451 ≠ gb452)); have n6_ := Aside0.mk ((by rw [hg]; exact Nat.ne_of_gt (blk_lt (zh BK451.out)) : gb452 ≠ gb451)); clear BK451; clear HB; have BK451 := n0_; have HB := n1_; have BK452 := n2_; have GW452 := n3_; have GE452 := n4_; have NB451_452 := n5_; have NB452_451 := n6_; clear n0_ n1_ n2_ n3_ n4_ n5_ n6_; clear hb hbox hg) | ((with_reducible refine gate_dst (N := 4) rfl ?_); refine box_event ?hg (N := 4) ?hd (cs := #[.slice none 0 0]) (t := 31) ?hr ?_; (case hd => rfl); (case hg => rfl); (case hr => first | (go_simp; done) | (go_simp; rfl)); intro gb453 hg w26 hbox hb; have n0_ := Aside0.mk (blk_below (zh BK451.out) hb); have n1_ := Aside0.mk (blk_below (zh BK452.out) hb); have n2_ := Aside0.mk (below_step (zb HB.out) hb); have n3_ := Aside0.mk (hbox); have n4_ := Aside0.mk ((by rw [hg]; exact (below_size (zb HB.out)) : w.heap.size ≤ gb453)); have n5_ := Aside0.mk ((by rw [hg]; exact (below_size (zb HB.out)) : w.heap.size ≤ gb453)); have n6_ := Aside0.mk ((by rw [hg]; exact Nat.ne_of_lt (blk_lt (zh BK451.out)) : gb451 ≠ gb453)); have n7_ := Aside0.mk ((by rw [hg]; exact Nat.ne_of_gt (blk_lt (zh BK451.out)) : gb453 ≠ gb451)); have n8_ := Aside0.mk ((by rw [hg]; exact Nat.ne_of_lt (blk_lt (zh BK452.out)) : gb452 ≠ gb453)); have n9_ := Aside0.mk ((by rw [hg]; exact Nat.ne_of_gt (blk_lt (zh BK452.out)) : gb453 ≠ gb452)); clear BK451; clear BK452; clear HB; have BK451 := n0_; have BK452 := n1_; have HB := n2_; have BK453 := n3_; have GW453 := n4_; have GE453 := n5_; have NB451_453 := n6_; have NB453_451 := n7_; have NB452_453 := n8_; have NB453_452 := n9_; clear n0_ n1_ n2_ n3_ n4_ n5_ n6_ n7_ n8_ n9_; clear hb hbox hg; have hnb27 := NB451_452.out; have hnc27 := NB452_451.out; have hnb28 := NB451_453.out; have hnc28 := NB453_451.out; have hcz29_0 : w26.cell? ⟨gb451, 0, none⟩ = some (.slice A0_0 l0_0.length c0_0) := (blk_cell BK451.out 0).trans rfl; have hfz29_0 := blk_frozen BK451.out 0) | ((with_reducible refine gate_callee (f := 48) rfl ?_); refine goesL_ (some 9) rfl rfl Try.func48 (by kernel_rfl) rfl #[.agg #[.slice A0_0 l0_0.length c0_0]] rfl zl ?_; (with_reducible refine (impl_PoolOk.calls _ _ l0_0 false _ ?side1 ?side2 A3.out).mono ?_); (case side1 => exact zc (Kd.C_below HR0_0.out HB.out)); (case side2 => exact HC0_0.out); rintro e w30 ⟨rfl, hb⟩; refine ⟨_, rfl, ?_⟩; have n0_ := Aside0.mk (blk_below (zh BK451.out) hb); have n1_ := Aside0.mk (blk_below (zh BK452.out) hb); have n2_ := Aside0.mk (blk_below (zh BK453.out) hb); have n3_ := Aside0.mk (below_step (zb HB.out) hb); clear BK451; clear BK452; clear BK453; clear HB; have BK451 := n0_; have BK452 := n1_; have BK453 := n2_; have HB := n3_; clear n0_ n1_ n2_ n3_; (try clear hb); (try clear hb2); (try clear hk); (try clear hi); have hnb31 := NB453_452.out; have hnc31 := NB452_453.out; have hcz32_0 : w30.cell? ⟨gb453, 0, none⟩ = some (.slice none 0 0) := (blk_cell BK453.out 0).trans rfl; have hfz32_0 := blk_frozen BK453.out 0))
  refine bodyPost_ret (results_ct rfl _ _ gb453 31 #[.slice none 0 0] (0, 0) _ rfl (by (with_reducible repeat (first | refine blk_drewN ?_ _ | refine blk_drew ?_ | refine blk_alloc ?_ _)); refine blk_put (cs := #[.slice none 0 0]) ?_ 0 _ rfl; (with_reducible repeat (first | refine blk_drewN ?_ _ | refine blk_drew ?_ | refine blk_alloc ?_ _)); exact BK453.out) Try.underlying31 rfl (by kernel_rfl)) rfl ?_
  exact ⟨_, ze, by first | exact Kd.R_nil _ _ _ _ _ | exact Kd.N_nil _ _ _ _ _ | exact Kd.V_nil _ _ _ _ _ | exact Kd.Q_nil _ _ _ _ _ | exact Kd.S_nil _ _ _ _ _, zb HB.out⟩



/-! ### impl_NameOf: function 25 -/
def impl_NameOf.f (k : Nat) (l0_0 : List (S67)) (a1 : Int) : Option ((List (S67)) × Int) := (impl_PoolAdd.f k l0_0 1 a1 0).bind fun bt439 => (some (bt439.1, bt439.2))
theorem impl_NameOf.mono : ∀ a0 a1 k, LeO (impl_NameOf.f k a0 a1) (impl_NameOf.f (k + 1) a0 a1) := by
 intro a0 a1 k
 unfold impl_NameOf.f
 repeat' first
   | (with_reducible exact impl_PoolAdd.mono _ _ _ _ _)
   | (with_reducible exact LeO.refl _)
   | (with_reducible exact LeO.none _)
   | (with_reducible refine LeO.ite ?_ ?_)
   | (with_reducible refine LeO.bind ?_ (fun _ => ?_))
   | exact impl_PoolAdd.mono _ _ _ _ _
   | exact LeO.none _
   | refine LeO.ite ?_ ?_
   | refine LeO.bind ?_ (fun _ => ?_)
set_option maxHeartbeats 8000000 in
set_option maxRecDepth 100000 in
theorem impl_NameOf.calls (k : Nat) (A0_0 : Option Addr) (c0_0 : Nat) (l0_0 : List (S67)) (a1 : Int) (r1 : List (S67)) (r2 : Int) (w : World) (hr0_0 : Kd.C k67 w A0_0 l0_0.length l0_0) (hc0_0 : l0_0.length ≤ c0_0) (h : impl_NameOf.f k l0_0 a1 = some (r1, r2)) :
  Calls Try.prog 25 #[.agg #[.slice A0_0 l0_0.length c0_0], .int .i64 a1] w fun e w' => ∃ v0_ : Value, e = .returned (.tuple #[.agg #[v0_], .int .i64 r2]) ∧ Kd.R k67 67 w' w.heap.size (fun _ => True) v0_ r1 ∧ Below w.heap.size w w' := by
 have hu31 := Try.underlying31
 have hu67 := Try.underlying67
 have HR0_0 := Aside0.mk hr0_0
 have HC0_0 := Aside0.mk hc0_0
 clear hr0_0 hc0_0
 have HB := Aside0.mk (Below.refl w.heap.size w)
 have H : ((impl_PoolAdd.f k l0_0 1 a1 0).bind fun bt439 => (some (bt439.1, bt439.2))) = some (r1, r2) := h
 clear h
 replace H := Option.bind_eq_some_iff.mp H
 obtain ⟨⟨t439, t442⟩, A30, H⟩ := H
 replace H : (some (t439, t442)) = some (r1, r2) := H
 have A3 := Aside0.mk A30
 clear A30
 simp only [Option.some.injEq, Prod.mk.injEq] at H
 obtain ⟨rfl, rfl⟩ := H
 go_enter Try.func25, Try.ntmps25
 go_wp2_with (first | ((with_reducible refine gate_dst (N := 2) rfl ?_); refine box_event ?hg (N := 2) ?hd (cs := #[.slice A0_0 l0_0.length c0_0]) (t := 31) ?hr ?_; (case hd => rfl); (case hg => rfl); (case hr => first | (go_simp; done) | (go_simp; rfl)); intro gb437 hg w4 hbox hb; have n0_ := Aside0.mk (below_step (zb HB.out) hb); have n1_ := Aside0.mk (hbox); have n2_ := Aside0.mk ((by rw [hg]; exact (below_size (zb HB.out)) : w.heap.size ≤ gb437)); have n3_ := Aside0.mk ((by rw [hg]; exact (below_size (zb HB.out)) : w.heap.size ≤ gb437)); clear HB; have HB := n0_; have BK437 := n1_; have GW437 := n2_; have GE437 := n3_; clear n0_ n1_ n2_ n3_; clear hb hbox hg) | ((with_reducible refine gate_dst (N := 4) rfl ?_); refine box_event ?hg (N := 4) ?hd (cs := #[.slice none 0 0]) (t := 31) ?hr ?_; (case hd => rfl); (case hg => rfl); (case hr => first | (go_simp; done) | (go_simp; rfl)); intro gb438 hg w5 hbox hb; have n0_ := Aside0.mk (blk_below (zh BK437.out) hb); have n1_ := Aside0.mk (below_step (zb HB.out) hb); have n2_ := Aside0.mk (hbox); have n3_ := Aside0.mk ((by rw [hg]; exact (below_size (zb HB.out)) : w.heap.size ≤ gb438)); have n4_ := Aside0.mk ((by rw [hg]; exact (below_size (zb HB.out)) : w.heap.size ≤ gb438)); have n5_ := Aside0.mk ((by rw [hg]; exact Nat.ne_of_lt (blk_lt (zh BK437.out)) : gb437 ≠ gb438)); have n6_ := Aside0.mk ((by rw [hg]; exact Nat.ne_of_gt (blk_lt (zh BK437.out)) : gb438 ≠ gb437)); clear BK437; clear HB; have BK437 := n0_; have HB := n1_; have BK438 := n2_; have GW438 := n3_; have GE438 := n4_; have NB437_438 := n5_; have NB438_437 := n6_; clear n0_ n1_ n2_ n3_ n4_ n5_ n6_; clear hb hbox hg; have hnb6 := NB437_438.out; have hnc6 := NB438_437.out; have hcz7_0 : w5.cell? ⟨gb437, 0, none⟩ = some (.slice A0_0 l0_0.length c0_0) := (blk_cell BK437.out 0).trans rfl; have hfz7_0 := blk_frozen BK437.out 0) | ((with_reducible refine gate_callee (f := 50) rfl ?_); refine goesL_ (some 9) rfl rfl Try.func50 (by kernel_rfl) rfl #[.agg #[.slice A0_0 l0_0.length c0_0], .agg #[.int .i64 1, .int .i64 a1, .int .i64 0]] rfl zl ?_; (with_reducible refine (impl_PoolAdd.calls k _ _ l0_0 1 a1 0 t439 t442 _ ?side1 ?side2 A3.out).mono ?_); (case side1 => exact zc (Kd.C_below HR0_0.out HB.out)); (case side2 => exact HC0_0.out); rintro e w8 ⟨v440, rfl, ho0, hb⟩; refine ⟨_, rfl, ?_⟩; have n0_ := Aside0.mk (Kd.R_lower ho0 (below_size (zb HB.out))); have n1_ := Aside0.mk (blk_below (zh BK437.out) hb); have n2_ := Aside0.mk (blk_below (zh BK438.out) hb); have n3_ := Aside0.mk (below_step (zb HB.out) hb); clear BK437; clear BK438; clear HB; have HO441 := n0_; have BK437 := n1_; have BK438 := n2_; have HB := n3_; clear n0_ n1_ n2_ n3_; (try clear hb); (try clear hb2); (try clear hk); (try clear hi); (try clear ho0); obtain ⟨Ao9, co9, eo9⟩ := Kd.R_slice HO441.out; subst eo9; have hcz10_0 : w8.cell? ⟨gb438, 0, none⟩ = some (.slice none 0 0) := (blk_cell BK438.out 0).trans rfl; have hfz10_0 := blk_frozen BK438.out 0))
 refine bodyPost_ret (results_ct rfl _ _ gb438 31 #[.slice Ao9 t439.length co9] (0, 0) _ rfl (by (with_reducible repeat (first | refine blk_drewN ?_ _ | refine blk_drew ?_ | refine blk_alloc ?_ _)); refine blk_put (cs := #[.slice none 0 0]) ?_ 0 _ rfl; (with_reducible repeat (first | refine blk_drewN ?_ _ | refine blk_drew ?_ | refine blk_alloc ?_ _)); exact BK438.out) Try.underlying31 rfl (by kernel_rfl)) rfl ?_
 exact ⟨_, ze, zr (Kd.R_mono (Kd.R_far (p := ⟨gb438, 0, none⟩) (Kd.R_types HO441.out BK438.out (by decide)) (fun _ hk => hk.2) (.slice Ao9 t439.length co9)) (fun _ hk => trivial)), zb HB.out⟩


/-! ### spec_PoolAdd: function 51 -/
def spec_PoolAdd.f0 (k : Nat) (l0_0 : List (S67)) (a1_0 : Int) (a1_1 : Int) (a1_2 : Int) : Option ((List (S67)) × Int) := (spec_PoolOk.f k l0_0).bind fun t458 => (if t458 = true then ((spec_l1Add.f k l0_0 a1_0 a1_1 a1_2).bind fun bt459 => ((spec_l1Copy.f bt459.1).bind fun t464 => (some (t464, bt459.2)))) else (some (([] : List (S67)), (-1))))
def spec_PoolAdd.f (k : Nat) (l0_0 : List (S67)) (a1_0 : Int) (a1_1 : Int) (a1_2 : Int) : Option ((List (S67)) × Int × (List (S67))) := (spec_PoolAdd.f0 k l0_0 a1_0 a1_1 a1_2).bind fun r_ => some (r_.1, r_.2, l0_0)
theorem spec_PoolAdd.mono0 : ∀ a0 a1 a2 a3 k, LeO (spec_PoolAdd.f0 k a0 a1 a2 a3) (spec_PoolAdd.f0 (k + 1) a0 a1 a2 a3) := by
 intro a0 a1 a2 a3 k
 unfold spec_PoolAdd.f0
 repeat' first
   | (with_reducible exact spec_PoolOk.mono _ _)
   | (with_reducible exact spec_l1Add.mono _ _ _ _ _)
   | (with_reducible exact LeO.refl _)
   | (with_reducible exact LeO.none _)
   | (with_reducible refine LeO.ite ?_ ?_)
   | (with_reducible refine LeO.bind ?_ (fun _ => ?_))
   | exact spec_PoolOk.mono _ _
   | exact spec_l1Add.mono _ _ _ _ _
   | exact LeO.none _
   | refine LeO.ite ?_ ?_
   | refine LeO.bind ?_ (fun _ => ?_)
theorem spec_PoolAdd.mono : ∀ a0 a1 a2 a3 k, LeO (spec_PoolAdd.f k a0 a1 a2 a3) (spec_PoolAdd.f (k + 1) a0 a1 a2 a3) := by
 intro a0 a1 a2 a3 k
 unfold spec_PoolAdd.f
 exact LeO.bind (spec_PoolAdd.mono0 a0 a1 a2 a3 k) (fun _ => LeO.refl _)
theorem spec_PoolAdd.apart {W : World} {b : Nat} {ok : Nat → Prop} {v u : Value} {xs : List (S67)} (h : Kd.R k67 67 W b ok v xs) (ha : ∀ k, v.ownBlock = some k → some k ≠ u.ownBlock) :
  Kd.R k67 67 W b (fun k => ok k ∧ some k ≠ u.ownBlock) v xs := Kd.R_mono (Kd.R_tight rfl h) (fun k hk => ⟨h.1 k hk.symm, ha k hk.symm⟩)
set_option maxHeartbeats 8000000 in
set_option maxRecDepth 100000 in
theorem spec_PoolAdd.calls (k : Nat) (P0_0_ : Nat → Prop) (u9000_ : Value) (l0_0 : List (S67)) (a1_0 : Int) (a1_1 : Int) (a1_2 : Int) (r1 : List (S67)) (r2 : Int) (r3 : List (S67)) (w0 w : World) (hB : Below w0.heap.size w0 w) (ho0_0 : Kd.R k67 67 w w0.heap.size P0_0_ u9000_ l0_0) (h : spec_PoolAdd.f k l0_0 a1_0 a1_1 a1_2 = some (r1, r2, r3)) :
  Calls Try.prog 51 #[.agg #[u9000_], .agg #[.int .i64 a1_0, .int .i64 a1_1, .int .i64 a1_2]] w fun e w' => ∃ v0_ : Value, e = .returned (.tuple #[.agg #[v0_], .int .i64 r2]) ∧ Kd.R k67 67 w' w0.heap.size (fun k_ => (P0_0_ k_ ∨ w.heap.size ≤ k_) ∧ some k_ ≠ u9000_.ownBlock) v0_ r1 ∧ Kd.R k67 67 w' w0.heap.size (fun k_ => (P0_0_ k_ ∨ w.heap.size ≤ k_)) u9000_ r3 ∧ Below w0.heap.size w0 w' ∧ Kept w w' (fun k_ => P0_0_ k_) := by
 have h' : spec_PoolAdd.f0 k l0_0 a1_0 a1_1 a1_2 = some (r1, r2) ∧ l0_0 = r3 := by
  unfold spec_PoolAdd.f at h
  obtain ⟨r_, e1, e2⟩ := Option.bind_eq_some_iff.mp h
  simp only [Option.some.injEq, Prod.mk.injEq] at e2
  obtain ⟨rfl, rfl, rfl⟩ := e2
  exact ⟨e1, rfl⟩
 clear h
 obtain ⟨h, rfl⟩ := h'
 have hu31 := Try.underlying31
 have hu67 := Try.underlying67
 have HO0_0 := Aside0.mk (show Kd.R k67 67 w w0.heap.size (fun k_ => (P0_0_ k_ ∨ w.heap.size ≤ k_)) u9000_ l0_0 from Kd.R_mono ho0_0 (fun k_ hk => (.inl hk)))
 have HK := Aside0.mk (Kept.refl w (fun k_ => P0_0_ k_))
 have HW0 := Aside0.mk hB.size
 have HB := Aside0.mk hB
 clear hB
 have H : ((spec_PoolOk.f k l0_0).bind fun t458 => (if t458 = true then ((spec_l1Add.f k l0_0 a1_0 a1_1 a1_2).bind fun bt459 => ((spec_l1Copy.f bt459.1).bind fun t464 => (some (t464, bt459.2)))) else (some (([] : List (S67)), (-1))))) = some (r1, r2) := h
 clear h
 replace H := Option.bind_eq_some_iff.mp H
 obtain ⟨t458, A30, H⟩ := H
 replace H : (if t458 = true then ((spec_l1Add.f k l0_0 a1_0 a1_1 a1_2).bind fun bt459 => ((spec_l1Copy.f bt459.1).bind fun t464 => (some (t464, bt459.2)))) else (some (([] : List (S67)), (-1)))) = some (r1, r2) := H
 have A3 := Aside0.mk A30
 clear A30
 by_cases c4 : t458 = true
 ·subst c4
  have H1 : ((spec_l1Add.f k l0_0 a1_0 a1_1 a1_2).bind fun bt459 => ((spec_l1Copy.f bt459.1).bind fun t464 => (some (t464, bt459.2)))) = some (r1, r2) := by rw [if_pos rfl] at H; exact H
  clear H
  have H := H1
  clear H1
  replace H := Option.bind_eq_some_iff.mp H
  obtain ⟨⟨t459, t462⟩, A50, H⟩ := H
  replace H : ((spec_l1Copy.f t459).bind fun t464 => (some (t464, t462))) = some (r1, r2) := H
  have A5 := Aside0.mk A50
  clear A50
  replace H := Option.bind_eq_some_iff.mp H
  obtain ⟨t464, A60, H⟩ := H
  replace H : (some (t464, t462)) = some (r1, r2) := H
  have A6 := Aside0.mk A60
  clear A60
  simp only [Option.some.injEq, Prod.mk.injEq] at H
  obtain ⟨rfl, rfl⟩ := H
  obtain ⟨Ao7, co7, eo7⟩ := Kd.R_slice HO0_0.out
  subst eo7
  go_enter Try.func51, Try.ntmps51
  go_wp2_with (first | ((with_reducible refine gate_dst (N := 2) rfl ?_); refine box_event ?hg (N := 2) ?hd (cs := #[.slice Ao7 l0_0.length co7]) (t := 31) ?hr ?_; (case hd => rfl); (case hg => rfl); (case hr => first | (go_simp; done) | (go_simp; rfl)); intro gb455 hg w8 hbox hb; have n0_ := Aside0.mk (Kd.R_below (zr HO0_0.out) hb); have n1_ := Aside0.mk (Kept.below (S := (fun k_ => P0_0_ k_)) (zk HK.out) hb); have n2_ := Aside0.mk (below_step (zb HB.out) hb); have n3_ := Aside0.mk (hbox); have n4_ := Aside0.mk ((by rw [hg]; exact (by first | exact HK.out.1 | exact (show Kept w _ (fun k_ => P0_0_ k_) from zk HK.out).1) : w.heap.size ≤ gb455)); have n5_ := Aside0.mk ((by rw [hg]; exact (below_size (zb HB.out)) : w0.heap.size ≤ gb455)); clear HO0_0; clear HK; clear HB; have HO0_0 := n0_; have HK := n1_; have HB := n2_; have BK455 := n3_; have GW455 := n4_; have GE455 := n5_; clear n0_ n1_ n2_ n3_ n4_ n5_; clear hb hbox hg) | ((with_reducible refine gate_dst (N := 3) rfl ?_); refine box_event ?hg (N := 3) ?hd (cs := #[.int .i64 a1_0, .int .i64 a1_1, .int .i64 a1_2]) (t := 67) ?hr ?_; (case hd => rfl); (case hg => rfl); (case hr => first | (go_simp; done) | (go_simp; rfl)); intro gb456 hg w9 hbox hb; have n0_ := Aside0.mk (Kd.R_below (Kd.R_elderB (zr HO0_0.out) gb456 (Nat.le_of_eq hg.symm)) hb); have n1_ := Aside0.mk (blk_below (zh BK455.out) hb); have n2_ := Aside0.mk (Kept.below (S := (fun k_ => P0_0_ k_)) (zk HK.out) hb); have n3_ := Aside0.mk (below_step (zb HB.out) hb); have n4_ := Aside0.mk (hbox); have n5_ := Aside0.mk ((by rw [hg]; exact (by first | exact HK.out.1 | exact (show Kept w _ (fun k_ => P0_0_ k_) from zk HK.out).1) : w.heap.size ≤ gb456)); have n6_ := Aside0.mk ((by rw [hg]; exact (below_size (zb HB.out)) : w0.heap.size ≤ gb456)); have n7_ := Aside0.mk ((by rw [hg]; exact Nat.ne_of_lt (blk_lt (zh BK455.out)) : gb455 ≠ gb456)); have n8_ := Aside0.mk ((by rw [hg]; exact Nat.ne_of_gt (blk_lt (zh BK455.out)) : gb456 ≠ gb455)); clear HO0_0; clear BK455; clear HK; clear HB; have HO0_0 := n0_; have BK455 := n1_; have HK := n2_; have HB := n3_; have BK456 := n4_; have GW456 := n5_; have GE456 := n6_; have NB455_456 := n7_; have NB456_455 := n8_; clear n0_ n1_ n2_ n3_ n4_ n5_ n6_ n7_ n8_; clear hb hbox hg) | ((with_reducible refine gate_dst (N := 4) rfl ?_); refine box_event ?hg (N := 4) ?hd (cs := #[.slice none 0 0]) (t := 31) ?hr ?_; (case hd => rfl); (case hg => rfl); (case hr => first | (go_simp; done) | (go_simp; rfl)); intro gb457 hg w10 hbox hb; have n0_ := Aside0.mk (Kd.R_below (zr HO0_0.out) hb); have n1_ := Aside0.mk (blk_below (zh BK455.out) hb); have n2_ := Aside0.mk (blk_below (zh BK456.out) hb); have n3_ := Aside0.mk (Kept.below (S := (fun k_ => P0_0_ k_)) (zk HK.out) hb); have n4_ := Aside0.mk (below_step (zb HB.out) hb); have n5_ := Aside0.mk (hbox); have n6_ := Aside0.mk ((by rw [hg]; exact (by first | exact HK.out.1 | exact (show Kept w _ (fun k_ => P0_0_ k_) from zk HK.out).1) : w.heap.size ≤ gb457)); have n7_ := Aside0.mk ((by rw [hg]; exact (below_size (zb HB.out)) : w0.heap.size ≤ gb457)); have n8_ := Aside0.mk ((by rw [hg]; exact Nat.ne_of_lt (blk_lt (zh BK455.out)) : gb455 ≠ gb457)); have n9_ := Aside0.mk ((by rw [hg]; exact Nat.ne_of_gt (blk_lt (zh BK455.out)) : gb457 ≠ gb455)); have n10_ := Aside0.mk ((by rw [hg]; exact Nat.ne_of_lt (blk_lt (zh BK456.out)) : gb456 ≠ gb457)); have n11_ := Aside0.mk ((by rw [hg]; exact Nat.ne_of_gt (blk_lt (zh BK456.out)) : gb457 ≠ gb456)); clear HO0_0; clear BK455; clear BK456; clear HK; clear HB; have HO0_0 := n0_; have BK455 := n1_; have BK456 := n2_; have HK := n3_; have HB := n4_; have BK457 := n5_; have GW457 := n6_; have GE457 := n7_; have NB455_457 := n8_; have NB457_455 := n9_; have NB456_457 := n10_; have NB457_456 := n11_; clear n0_ n1_ n2_ n3_ n4_ n5_ n6_ n7_ n8_ n9_ n10_ n11_; clear hb hbox hg; have hnb11 := NB455_456.out; have hnc11 := NB456_455.out; have hnb12 := NB455_457.out; have hnc12 := NB457_455.out; have hcz13_0 : w10.cell? ⟨gb455, 0, none⟩ = some (.slice Ao7 l0_0.length co7) := (blk_cell BK455.out 0).trans rfl; have hfz13_0 := blk_frozen BK455.out 0) | ((with_reducible refine gate_callee (f := 45) rfl ?_); refine goesL_ (some 9) rfl rfl Try.func45 (by kernel_rfl) rfl #[.agg #[.slice Ao7 l0_0.length co7]] rfl zl ?_; (with_reducible refine (spec_PoolOk.calls k _ _ l0_0 true _ ?side1 ?side2 A3.out).mono ?_); (case side1 => exact zc (Kd.R_reads' HO0_0.out).2.2); (case side2 => exact (Kd.R_reads' HO0_0.out).2.1); rintro e w14 ⟨rfl, hb⟩; refine ⟨_, rfl, ?_⟩; have n0_ := Aside0.mk (Kd.R_below (zr HO0_0.out) hb); have n1_ := Aside0.mk (blk_below (zh BK455.out) hb); have n2_ := Aside0.mk (blk_below (zh BK456.out) hb); have n3_ := Aside0.mk (blk_below (zh BK457.out) hb); have n4_ := Aside0.mk (Kept.below (S := (fun k_ => P0_0_ k_)) (zk HK.out) hb); have n5_ := Aside0.mk (below_step (zb HB.out) hb); clear HO0_0; clear BK455; clear BK456; clear BK457; clear HK; clear HB; have HO0_0 := n0_; have BK455 := n1_; have BK456 := n2_; have BK457 := n3_; have HK := n4_; have HB := n5_; clear n0_ n1_ n2_ n3_ n4_ n5_; (try clear hb); (try clear hb2); (try clear hk); (try clear hi); have hcz15_0 : w14.cell? ⟨gb455, 0, none⟩ = some (.slice Ao7 l0_0.length co7) := (blk_cell BK455.out 0).trans rfl; have hfz15_0 := blk_frozen BK455.out 0; have hnb16 := NB456_457.out; have hnc16 := NB457_456.out; have hcz17_0 : w14.cell? ⟨gb456, 0, none⟩ = some (.int .i64 a1_0) := (blk_cell BK456.out 0).trans rfl; have hcz17_1 : w14.cell? ⟨gb456, 1, none⟩ = some (.int .i64 a1_1) := (blk_cell BK456.out 1).trans rfl; have hcz17_2 : w14.cell? ⟨gb456, 2, none⟩ = some (.int .i64 a1_2) := (blk_cell BK456.out 2).trans rfl; have hfz17_0 := blk_frozen BK456.out 0; have hfz17_1 := blk_frozen BK456.out 1; have hfz17_2 := blk_frozen BK456.out 2) | ((with_reducible refine gate_callee (f := 71) rfl ?_); refine goesL_ (some 15) rfl rfl Try.func71 (by kernel_rfl) rfl #[.agg #[.slice Ao7 l0_0.length co7], .agg #[.int .i64 a1_0, .int .i64 a1_1, .int .i64 a1_2]] rfl zl ?_; (with_reducible refine (spec_l1Add.calls2 k (fun k_ => some k_ = (.slice Ao7 l0_0.length co7 : Value).ownBlock) (.slice Ao7 l0_0.length co7) l0_0 a1_0 a1_1 a1_2 t459 t462 w0 _ ?side1 ?side2 A5.out).mono ?_); (case side1 => exact zb HB.out); (case side2 => exact Kd.R_tight rfl HO0_0.out); rintro e w18 ⟨v460, rfl, ho0, hb, hkp, hyy⟩; refine ⟨_, rfl, ?_⟩; have HY := Aside0.mk (Kd.R_reok rfl hyy (fun k_ e_ => HO0_0.out.1 k_ e_)); clear hyy; have n0_ := Aside0.mk (blk_kept (zh BK455.out) hkp (fun hs_ => (fun e_ => (Kd.R_ne HO0_0.out BK455.out (by decide)) e_) hs_)); have n1_ := Aside0.mk (blk_kept (zh BK456.out) hkp (fun hs_ => (fun e_ => (Kd.R_away HO0_0.out (fun _ hk => hk.2)) e_) hs_)); have n2_ := Aside0.mk (blk_kept (zh BK457.out) hkp (fun hs_ => (fun e_ => (Kd.R_ne HO0_0.out BK457.out (by decide)) e_) hs_)); have n3_ := Aside0.mk (Kd.R_mono (ok' := fun k_ => (P0_0_ k_ ∨ w.heap.size ≤ k_) ∧ k_ ≠ gb456) ho0 (fun k_ hk_ => by first | exact ⟨Or.elim hk_ (fun hs_ => (HO0_0.out.1 k_ (hs_).symm).1) (fun hn_ => (.inr (Nat.le_trans (by first | exact HK.out.1 | exact (show Kept w _ (fun k_ => P0_0_ k_) from zk HK.out).1) hn_))), Or.elim hk_ (fun hs_ => fun e_ => (Kd.R_away HO0_0.out (fun _ hk => hk.2)) (by rw [← e_]; exact hs_)) (fun hn_ => (Kd.freshB (zh BK456.out) k_ hn_))⟩ | (revert hk_; simp only [and_imp]; intros; and_intros <;> assumption))); have n4_ := Aside0.mk (Kept.then_ (S := (fun k_ => P0_0_ k_)) (zk HK.out) hkp (fun k_ hs_ => (fun e_ => (HO0_0.out.1 k_ e_.symm).1) hs_)); have n5_ := Aside0.mk (hb); clear BK455; clear BK456; clear BK457; clear HK; clear HB; clear HO0_0; have BK455 := n0_; have BK456 := n1_; have BK457 := n2_; have HO461 := n3_; have HK := n4_; have HB := n5_; clear n0_ n1_ n2_ n3_ n4_ n5_; (try clear hb); (try clear hkp); (try clear ho0)) | ((with_reducible refine gate_dst (N := 6) rfl ?_); refine box_event ?hg (N := 6) ?hd (cs := #[.slice none 0 0]) (t := 31) ?hr ?_; (case hd => rfl); (case hg => rfl); (case hr => first | (go_simp; done) | (go_simp; rfl)); intro gb463 hg w19 hbox hb; have HYn := Aside0.mk (Kd.R_below HY.out hb); clear HY; have HY := HYn; clear HYn; have n0_ := Aside0.mk (Kd.R_below (zr HO461.out) hb); have n1_ := Aside0.mk (blk_below (zh BK455.out) hb); have n2_ := Aside0.mk (blk_below (zh BK456.out) hb); have n3_ := Aside0.mk (blk_below (zh BK457.out) hb); have n4_ := Aside0.mk (Kept.below (S := (fun k_ => P0_0_ k_)) (zk HK.out) hb); have n5_ := Aside0.mk (below_step (zb HB.out) hb); have n6_ := Aside0.mk (hbox); have n7_ := Aside0.mk ((by rw [hg]; exact (by first | exact HK.out.1 | exact (show Kept w _ (fun k_ => P0_0_ k_) from zk HK.out).1) : w.heap.size ≤ gb463)); have n8_ := Aside0.mk ((by rw [hg]; exact (below_size (zb HB.out)) : w0.heap.size ≤ gb463)); have n9_ := Aside0.mk ((by rw [hg]; exact Nat.ne_of_lt (blk_lt (zh BK455.out)) : gb455 ≠ gb463)); have n10_ := Aside0.mk ((by rw [hg]; exact Nat.ne_of_gt (blk_lt (zh BK455.out)) : gb463 ≠ gb455)); have n11_ := Aside0.mk ((by rw [hg]; exact Nat.ne_of_lt (blk_lt (zh BK456.out)) : gb456 ≠ gb463)); have n12_ := Aside0.mk ((by rw [hg]; exact Nat.ne_of_gt (blk_lt (zh BK456.out)) : gb463 ≠ gb456)); have n13_ := Aside0.mk ((by rw [hg]; exact Nat.ne_of_lt (blk_lt (zh BK457.out)) : gb457 ≠ gb463)); have n14_ := Aside0.mk ((by rw [hg]; exact Nat.ne_of_gt (blk_lt (zh BK457.out)) : gb463 ≠ gb457)); clear HO461; clear BK455; clear BK456; clear BK457; clear HK; clear HB; have HO461 := n0_; have BK455 := n1_; have BK456 := n2_; have BK457 := n3_; have HK := n4_; have HB := n5_; have BK463 := n6_; have GW463 := n7_; have GE463 := n8_; have NB455_463 := n9_; have NB463_455 := n10_; have NB456_463 := n11_; have NB463_456 := n12_; have NB457_463 := n13_; have NB463_457 := n14_; clear n0_ n1_ n2_ n3_ n4_ n5_ n6_ n7_ n8_ n9_ n10_ n11_ n12_ n13_ n14_; clear hb hbox hg; obtain ⟨Ao20, co20, eo20⟩ := Kd.R_slice HO461.out; subst eo20; have hnb21 := NB463_455.out; have hnc21 := NB455_463.out; have hnb22 := NB463_456.out; have hnc22 := NB456_463.out; have hnb23 := NB463_457.out; have hnc23 := NB457_463.out; have hcz24_0 : w19.cell? ⟨gb463, 0, none⟩ = some (.slice none 0 0) := (blk_cell BK463.out 0).trans rfl; have hfz24_0 := blk_frozen BK463.out 0) | ((with_reducible refine gate_callee (f := 72) rfl ?_); refine goesL_ (some 19) rfl rfl Try.func72 (by kernel_rfl) rfl #[.agg #[.slice Ao20 t459.length co20]] rfl zl ?_; (with_reducible refine (spec_l1Copy.calls _ _ t459 t464 _ ?side1 ?side2 A6.out).mono ?_); (case side1 => refine (Kd.R_reads' (e := 67) (base := w0.heap.size) (ok := fun k_ => ((P0_0_ k_ ∨ w.heap.size ≤ k_) ∧ k_ ≠ gb456)) (n := t459.length) (c := co20) ?_).2.2; exact (by (with_reducible repeat (first | apply Kd.R_alloc | apply Kd.R_drewN | apply Kd.R_drew)); exact (Kd.R_mono (Kd.R_far (p := ⟨gb463, 0, none⟩) (Kd.R_types HO461.out BK463.out (by decide)) (fun _ hk => hk.2) (.slice Ao20 t459.length co20)) (fun _ h_ => h_.1)))); (case side2 => exact (Kd.R_reads' HO461.out).2.1); rintro e w25 ⟨v465, rfl, ho0, hb⟩; refine ⟨_, rfl, ?_⟩; have HAP := Aside0.mk (fun k_ e_ => ((Kd.R_new' ho0 (Kd.R_lt (Kd.R_far (p := ⟨gb463, 0, none⟩) (Kd.R_types HY.out BK463.out (by decide)) (fun _ hk => hk.2) _))).1 k_ e_).2); have HYn := Aside0.mk (Kd.R_mono (Kd.R_below (Kd.R_far (p := ⟨gb463, 0, none⟩) (Kd.R_types HY.out BK463.out (by decide)) (fun _ hk => hk.2) _) hb) (fun _ hk => hk.1)); clear HY; have HY := HYn; clear HYn; have n0_ := Aside0.mk (Kd.R_elder' (by (with_reducible repeat (first | apply Kd.R_alloc | apply Kd.R_drewN | apply Kd.R_drew)); exact (Kd.R_mono (Kd.R_far (p := ⟨gb463, 0, none⟩) (Kd.R_types HO461.out BK463.out (by decide)) (fun _ hk => hk.2) (.slice Ao20 t459.length co20)) (fun _ h_ => h_.1))) (Kd.R_base ho0) hb); have n1_ := Aside0.mk (Kd.R_lower (Kd.R_newB (Kd.R_new' (Kd.R_newM (M := fun k_ => (P0_0_ k_ ∨ w.heap.size ≤ k_)) ho0 (show Kept w _ (fun k_ => P0_0_ k_) from zk HK.out).1 (fun k_ h_ => .inr h_)) (Kd.R_lt (by (with_reducible repeat (first | apply Kd.R_alloc | apply Kd.R_drewN | apply Kd.R_drew)); exact (Kd.R_mono (Kd.R_far (p := ⟨gb463, 0, none⟩) (Kd.R_types HO461.out BK463.out (by decide)) (fun _ hk => hk.2) (.slice Ao20 t459.length co20)) (fun _ h_ => h_.1))))) (g := gb456) (o := .cells #[.int .i64 a1_0, .int .i64 a1_1, .int .i64 a1_2] 67 (0, 0)) (zf BK456.out)) (below_size (zb HB.out))); have n2_ := Aside0.mk (blk_below (g := gb455) (o := .cells #[.slice Ao7 l0_0.length co7] 31 (0, 0)) (zf BK455.out) hb); have n3_ := Aside0.mk (blk_below (g := gb456) (o := .cells #[.int .i64 a1_0, .int .i64 a1_1, .int .i64 a1_2] 67 (0, 0)) (zf BK456.out) hb); have n4_ := Aside0.mk (blk_below (g := gb457) (o := .cells #[.slice none 0 0] 31 (0, 0)) (zf BK457.out) hb); have n5_ := Aside0.mk (blk_below (g := gb463) (o := .cells #[.slice Ao20 t459.length co20] 31 (0, 0)) (by (with_reducible repeat (first | refine blk_drewN ?_ _ | refine blk_drew ?_ | refine blk_alloc ?_ _)); refine blk_put (cs := #[.slice none 0 0]) ?_ 0 _ rfl; (with_reducible repeat (first | refine blk_drewN ?_ _ | refine blk_drew ?_ | refine blk_alloc ?_ _)); exact BK463.out) hb); have n6_ := Aside0.mk (Kept.below (S := (fun k_ => P0_0_ k_)) (zk HK.out) hb); have n7_ := Aside0.mk (below_step (zb HB.out) hb); clear HO461; clear BK455; clear BK456; clear BK457; clear BK463; clear HK; clear HB; have HO461 := n0_; have HO466 := n1_; have BK455 := n2_; have BK456 := n3_; have BK457 := n4_; have BK463 := n5_; have HK := n6_; have HB := n7_; clear n0_ n1_ n2_ n3_ n4_ n5_ n6_ n7_; (try clear hb); (try clear hb2); (try clear hk); (try clear hi); (try clear ho0); obtain ⟨Ao26, co26, eo26⟩ := Kd.R_slice HO466.out; subst eo26; have hcz27_0 : w25.cell? ⟨gb457, 0, none⟩ = some (.slice none 0 0) := (blk_cell BK457.out 0).trans rfl; have hfz27_0 := blk_frozen BK457.out 0))
  refine bodyPost_ret (results_ct rfl _ _ gb457 31 #[.slice Ao26 t464.length co26] (0, 0) _ rfl (by (with_reducible repeat (first | refine blk_drewN ?_ _ | refine blk_drew ?_ | refine blk_alloc ?_ _)); refine blk_put (cs := #[.slice none 0 0]) ?_ 0 _ rfl; (with_reducible repeat (first | refine blk_drewN ?_ _ | refine blk_drew ?_ | refine blk_alloc ?_ _)); exact BK457.out) Try.underlying31 rfl (by kernel_rfl)) rfl ?_
  exact ⟨_, ze, spec_PoolAdd.apart (by (with_reducible repeat (first | apply Kd.R_alloc | apply Kd.R_drewN | apply Kd.R_drew)); exact Kd.R_mono (Kd.R_far (p := ⟨gb457, 0, none⟩) (Kd.R_types HO466.out BK457.out (by decide)) (fun _ hk => hk.2) (.slice Ao26 t464.length co26)) (fun _ hk => hk.1.1.1.1)) HAP.out, zr (Kd.R_mono (Kd.R_far (p := ⟨gb457, 0, none⟩) (Kd.R_types HY.out BK457.out (by decide)) (fun _ hk => hk.2) (.slice Ao26 t464.length co26)) (fun _ hk => by first | exact hk | exact hk.1 | exact hk.1.1 | exact hk.1.1.1 | exact hk.1.1.1.1 | exact hk.1.1.1.1.1)), zb HB.out, zk HK.out⟩
 ·replace c4 := Bool.eq_false_iff.mpr c4
  subst c4
  have H1 : (some (([] : List (S67)), (-1))) = some (r1, r2) := by rw [if_neg (show ¬ (false = true) by decide)] at H; exact H
  clear H
  have H := H1
  clear H1
  simp only [Option.some.injEq, Prod.mk.injEq] at H
  obtain ⟨rfl, rfl⟩ := H
  obtain ⟨Ao28, co28, eo28⟩ := Kd.R_slice HO0_0.out
  subst eo28
  go_enter Try.func51, Try.ntmps51
  go_wp2_with (first | ((with_reducible refine gate_dst (N := 2) rfl ?_); refine box_event ?hg (N := 2) ?hd (cs := #[.slice Ao28 l0_0.length co28]) (t := 31) ?hr ?_; (case hd => rfl); (case hg => rfl); (case hr => first | (go_simp; done) | (go_simp; rfl)); intro gb455 hg w29 hbox hb; have n0_ := Aside0.mk (Kd.R_below (zr HO0_0.out) hb); have n1_ := Aside0.mk (Kept.below (S := (fun k_ => P0_0_ k_)) (zk HK.out) hb); have n2_ := Aside0.mk (below_step (zb HB.out) hb); have n3_ := Aside0.mk (hbox); have n4_ := Aside0.mk ((by rw [hg]; exact (by first | exact HK.out.1 | exact (show Kept w _ (fun k_ => P0_0_ k_) from zk HK.out).1) : w.heap.size ≤ gb455)); have n5_ := Aside0.mk ((by rw [hg]; exact (below_size (zb HB.out)) : w0.heap.size ≤ gb455)); clear HO0_0; clear HK; clear HB; have HO0_0 := n0_; have HK := n1_; have HB := n2_; have BK455 := n3_; have GW455 := n4_; have GE455 := n5_; clear n0_ n1_ n2_ n3_ n4_ n5_; clear hb hbox hg) | ((with_reducible refine gate_dst (N := 3) rfl ?_); refine box_event ?hg (N := 3) ?hd (cs := #[.int .i64 a1_0, .int .i64 a1_1, .int .i64 a1_2]) (t := 67) ?hr ?_; (case hd => rfl); (case hg => rfl); (case hr => first | (go_simp; done) | (go_simp; rfl)); intro gb456 hg w30 hbox hb; have n0_ := Aside0.mk (Kd.R_below (Kd.R_elderB (zr HO0_0.out) gb456 (Nat.le_of_eq hg.symm)) hb); have n1_ := Aside0.mk (blk_below (zh BK455.out) hb); have n2_ := Aside0.mk (Kept.below (S := (fun k_ => P0_0_ k_)) (zk HK.out) hb); have n3_ := Aside0.mk (below_step (zb HB.out) hb); have n4_ := Aside0.mk (hbox); have n5_ := Aside0.mk ((by rw [hg]; exact (by first | exact HK.out.1 | exact (show Kept w _ (fun k_ => P0_0_ k_) from zk HK.out).1) : w.heap.size ≤ gb456)); have n6_ := Aside0.mk ((by rw [hg]; exact (below_size (zb HB.out)) : w0.heap.size ≤ gb456)); have n7_ := Aside0.mk ((by rw [hg]; exact Nat.ne_of_lt (blk_lt (zh BK455.out)) : gb455 ≠ gb456)); have n8_ := Aside0.mk ((by rw [hg]; exact Nat.ne_of_gt (blk_lt (zh BK455.out)) : gb456 ≠ gb455)); clear HO0_0; clear BK455; clear HK; clear HB; have HO0_0 := n0_; have BK455 := n1_; have HK := n2_; have HB := n3_; have BK456 := n4_; have GW456 := n5_; have GE456 := n6_; have NB455_456 := n7_; have NB456_455 := n8_; clear n0_ n1_ n2_ n3_ n4_ n5_ n6_ n7_ n8_; clear hb hbox hg) | ((with_reducible refine gate_dst (N := 4) rfl ?_); refine box_event ?hg (N := 4) ?hd (cs := #[.slice none 0 0]) (t := 31) ?hr ?_; (case hd => rfl); (case hg => rfl); (case hr => first | (go_simp; done) | (go_simp; rfl)); intro gb457 hg w31 hbox hb; have n0_ := Aside0.mk (Kd.R_below (zr HO0_0.out) hb); have n1_ := Aside0.mk (blk_below (zh BK455.out) hb); have n2_ := Aside0.mk (blk_below (zh BK456.out) hb); have n3_ := Aside0.mk (Kept.below (S := (fun k_ => P0_0_ k_)) (zk HK.out) hb); have n4_ := Aside0.mk (below_step (zb HB.out) hb); have n5_ := Aside0.mk (hbox); have n6_ := Aside0.mk ((by rw [hg]; exact (by first | exact HK.out.1 | exact (show Kept w _ (fun k_ => P0_0_ k_) from zk HK.out).1) : w.heap.size ≤ gb457)); have n7_ := Aside0.mk ((by rw [hg]; exact (below_size (zb HB.out)) : w0.heap.size ≤ gb457)); have n8_ := Aside0.mk ((by rw [hg]; exact Nat.ne_of_lt (blk_lt (zh BK455.out)) : gb455 ≠ gb457)); have n9_ := Aside0.mk ((by rw [hg]; exact Nat.ne_of_gt (blk_lt (zh BK455.out)) : gb457 ≠ gb455)); have n10_ := Aside0.mk ((by rw [hg]; exact Nat.ne_of_lt (blk_lt (zh BK456.out)) : gb456 ≠ gb457)); have n11_ := Aside0.mk ((by rw [hg]; exact Nat.ne_of_gt (blk_lt (zh BK456.out)) : gb457 ≠ gb456)); clear HO0_0; clear BK455; clear BK456; clear HK; clear HB; have HO0_0 := n0_; have BK455 := n1_; have BK456 := n2_; have HK := n3_; have HB := n4_; have BK457 := n5_; have GW457 := n6_; have GE457 := n7_; have NB455_457 := n8_; have NB457_455 := n9_; have NB456_457 := n10_; have NB457_456 := n11_; clear n0_ n1_ n2_ n3_ n4_ n5_ n6_ n7_ n8_ n9_ n10_ n11_; clear hb hbox hg; have hnb32 := NB455_456.out; have hnc32 := NB456_455.out; have hnb33 := NB455_457.out; have hnc33 := NB457_455.out; have hcz34_0 : w31.cell? ⟨gb455, 0, none⟩ = some (.slice Ao28 l0_0.length co28) := (blk_cell BK455.out 0).trans rfl; have hfz34_0 := blk_frozen BK455.out 0) | ((with_reducible refine gate_callee (f := 45) rfl ?_); refine goesL_ (some 9) rfl rfl Try.func45 (by kernel_rfl) rfl #[.agg #[.slice Ao28 l0_0.length co28]] rfl zl ?_; (with_reducible refine (spec_PoolOk.calls k _ _ l0_0 false _ ?side1 ?side2 A3.out).mono ?_); (case side1 => exact zc (Kd.R_reads' HO0_0.out).2.2); (case side2 => exact (Kd.R_reads' HO0_0.out).2.1); rintro e w35 ⟨rfl, hb⟩; refine ⟨_, rfl, ?_⟩; have n0_ := Aside0.mk (Kd.R_below (zr HO0_0.out) hb); have n1_ := Aside0.mk (blk_below (zh BK455.out) hb); have n2_ := Aside0.mk (blk_below (zh BK456.out) hb); have n3_ := Aside0.mk (blk_below (zh BK457.out) hb); have n4_ := Aside0.mk (Kept.below (S := (fun k_ => P0_0_ k_)) (zk HK.out) hb); have n5_ := Aside0.mk (below_step (zb HB.out) hb); clear HO0_0; clear BK455; clear BK456; clear BK457; clear HK; clear HB; have HO0_0 := n0_; have BK455 := n1_; have BK456 := n2_; have BK457 := n3_; have HK := n4_; have HB := n5_; clear n0_ n1_ n2_ n3_ n4_ n5_; (try clear hb); (try clear hb2); (try clear hk); (try clear hi); have hnb36 := NB457_456.out; have hnc36 := NB456_457.out; have hcz37_0 : w35.cell? ⟨gb457, 0, none⟩ = some (.slice none 0 0) := (blk_cell BK457.out 0).trans rfl; have hfz37_0 := blk_frozen BK457.out 0))
  refine bodyPost_ret (results_ct rfl _ _ gb457 31 #[.slice none 0 0] (0, 0) _ rfl (by (with_reducible repeat (first | refine blk_drewN ?_ _ | refine blk_drew ?_ | refine blk_alloc ?_ _)); refine blk_put (cs := #[.slice none 0 0]) ?_ 0 _ rfl; (with_reducible repeat (first | refine blk_drewN ?_ _ | refine blk_drew ?_ | refine blk_alloc ?_ _)); exact BK457.out) Try.underlying31 rfl (by kernel_rfl)) rfl ?_
  exact ⟨_, ze, by first | exact Kd.R_nil _ _ _ _ _ | exact Kd.N_nil _ _ _ _ _ | exact Kd.V_nil _ _ _ _ _ | exact Kd.Q_nil _ _ _ _ _ | exact Kd.S_nil _ _ _ _ _, zr (Kd.R_mono (Kd.R_far (p := ⟨gb457, 0, none⟩) (Kd.R_types HO0_0.out BK457.out (by decide)) (fun _ hk => hk.2) (.slice none 0 0)) (fun _ hk => by first | exact hk | exact hk.1 | exact hk.1.1 | exact hk.1.1.1 | exact hk.1.1.1.1 | exact hk.1.1.1.1.1)), zb HB.out, zk HK.out⟩



/-! ### spec_NameOf: function 26 -/
def spec_NameOf.f (k : Nat) (l0_0 : List (S67)) (a1 : Int) : Option ((List (S67)) × Int × (List (S67))) := (spec_PoolAdd.f k l0_0 1 a1 0).bind fun bt445 => (some (bt445.1, bt445.2.1, bt445.2.2))
theorem spec_NameOf.mono : ∀ a0 a1 k, LeO (spec_NameOf.f k a0 a1) (spec_NameOf.f (k + 1) a0 a1) := by
 intro a0 a1 k
 unfold spec_NameOf.f
 repeat' first
   | (with_reducible exact spec_PoolAdd.mono _ _ _ _ _)
   | (with_reducible exact LeO.refl _)
   | (with_reducible exact LeO.none _)
   | (with_reducible refine LeO.ite ?_ ?_)
   | (with_reducible refine LeO.bind ?_ (fun _ => ?_))
   | exact spec_PoolAdd.mono _ _ _ _ _
   | exact LeO.none _
   | refine LeO.ite ?_ ?_
   | refine LeO.bind ?_ (fun _ => ?_)
set_option maxHeartbeats 8000000 in
set_option maxRecDepth 100000 in
theorem spec_NameOf.calls (k : Nat) (P0_0_ : Nat → Prop) (u9000_ : Value) (l0_0 : List (S67)) (a1 : Int) (r1 : List (S67)) (r2 : Int) (r3 : List (S67)) (w0 w : World) (hB : Below w0.heap.size w0 w) (ho0_0 : Kd.R k67 67 w w0.heap.size P0_0_ u9000_ l0_0) (h : spec_NameOf.f k l0_0 a1 = some (r1, r2, r3)) :
  Calls Try.prog 26 #[.agg #[u9000_], .int .i64 a1] w fun e w' => ∃ v0_ : Value, e = .returned (.tuple #[.agg #[v0_], .int .i64 r2]) ∧ Kd.R k67 67 w' w0.heap.size (fun k_ => (P0_0_ k_ ∨ w.heap.size ≤ k_) ∧ some k_ ≠ (u9000_ : Value).ownBlock) v0_ r1 ∧ Kd.R k67 67 w' w0.heap.size (fun k_ => (P0_0_ k_ ∨ w.heap.size ≤ k_)) u9000_ r3 ∧ Below w0.heap.size w0 w' ∧ Kept w w' (fun k_ => P0_0_ k_) := by
 have hu31 := Try.underlying31
 have hu67 := Try.underlying67
 have HO0_0 := Aside0.mk (show Kd.R k67 67 w w0.heap.size (fun k_ => (P0_0_ k_ ∨ w.heap.size ≤ k_)) u9000_ l0_0 from Kd.R_mono ho0_0 (fun k_ hk => (.inl hk)))
 have HK := Aside0.mk (Kept.refl w (fun k_ => P0_0_ k_))
 have HW0 := Aside0.mk hB.size
 have HB := Aside0.mk hB
 clear hB
 have H : ((spec_PoolAdd.f k l0_0 1 a1 0).bind fun bt445 => (some (bt445.1, bt445.2.1, bt445.2.2))) = some (r1, r2, r3) := h
 clear h
 replace H := Option.bind_eq_some_iff.mp H
 obtain ⟨⟨t445, t448, t449⟩, A30, H⟩ := H
 replace H : (some (t445, t448, t449)) = some (r1, r2, r3) := H
 have A3 := Aside0.mk A30
 clear A30
 simp only [Option.some.injEq, Prod.mk.injEq] at H
 obtain ⟨rfl, rfl, rfl⟩ := H
 obtain ⟨Ao4, co4, eo4⟩ := Kd.R_slice HO0_0.out
 subst eo4
 go_enter Try.func26, Try.ntmps26
 go_wp2_with (first | ((with_reducible refine gate_dst (N := 2) rfl ?_); refine box_event ?hg (N := 2) ?hd (cs := #[.slice Ao4 l0_0.length co4]) (t := 31) ?hr ?_; (case hd => rfl); (case hg => rfl); (case hr => first | (go_simp; done) | (go_simp; rfl)); intro gb443 hg w5 hbox hb; have n0_ := Aside0.mk (Kd.R_below (zr HO0_0.out) hb); have n1_ := Aside0.mk (Kept.below (S := (fun k_ => P0_0_ k_)) (zk HK.out) hb); have n2_ := Aside0.mk (below_step (zb HB.out) hb); have n3_ := Aside0.mk (hbox); have n4_ := Aside0.mk ((by rw [hg]; exact (by first | exact HK.out.1 | exact (show Kept w _ (fun k_ => P0_0_ k_) from zk HK.out).1) : w.heap.size ≤ gb443)); have n5_ := Aside0.mk ((by rw [hg]; exact (below_size (zb HB.out)) : w0.heap.size ≤ gb443)); clear HO0_0; clear HK; clear HB; have HO0_0 := n0_; have HK := n1_; have HB := n2_; have BK443 := n3_; have GW443 := n4_; have GE443 := n5_; clear n0_ n1_ n2_ n3_ n4_ n5_; clear hb hbox hg) | ((with_reducible refine gate_dst (N := 4) rfl ?_); refine box_event ?hg (N := 4) ?hd (cs := #[.slice none 0 0]) (t := 31) ?hr ?_; (case hd => rfl); (case hg => rfl); (case hr => first | (go_simp; done) | (go_simp; rfl)); intro gb444 hg w6 hbox hb; have n0_ := Aside0.mk (Kd.R_below (zr HO0_0.out) hb); have n1_ := Aside0.mk (blk_below (zh BK443.out) hb); have n2_ := Aside0.mk (Kept.below (S := (fun k_ => P0_0_ k_)) (zk HK.out) hb); have n3_ := Aside0.mk (below_step (zb HB.out) hb); have n4_ := Aside0.mk (hbox); have n5_ := Aside0.mk ((by rw [hg]; exact (by first | exact HK.out.1 | exact (show Kept w _ (fun k_ => P0_0_ k_) from zk HK.out).1) : w.heap.size ≤ gb444)); have n6_ := Aside0.mk ((by rw [hg]; exact (below_size (zb HB.out)) : w0.heap.size ≤ gb444)); have n7_ := Aside0.mk ((by rw [hg]; exact Nat.ne_of_lt (blk_lt (zh BK443.out)) : gb443 ≠ gb444)); have n8_ := Aside0.mk ((by rw [hg]; exact Nat.ne_of_gt (blk_lt (zh BK443.out)) : gb444 ≠ gb443)); clear HO0_0; clear BK443; clear HK; clear HB; have HO0_0 := n0_; have BK443 := n1_; have HK := n2_; have HB := n3_; have BK444 := n4_; have GW444 := n5_; have GE444 := n6_; have NB443_444 := n7_; have NB444_443 := n8_; clear n0_ n1_ n2_ n3_ n4_ n5_ n6_ n7_ n8_; clear hb hbox hg; have hnb7 := NB443_444.out; have hnc7 := NB444_443.out; have hcz8_0 : w6.cell? ⟨gb443, 0, none⟩ = some (.slice Ao4 l0_0.length co4) := (blk_cell BK443.out 0).trans rfl; have hfz8_0 := blk_frozen BK443.out 0) | ((with_reducible refine gate_callee (f := 51) rfl ?_); refine goesL_ (some 9) rfl rfl Try.func51 (by kernel_rfl) rfl #[.agg #[.slice Ao4 l0_0.length co4], .agg #[.int .i64 1, .int .i64 a1, .int .i64 0]] rfl zl ?_; (with_reducible refine (spec_PoolAdd.calls k (fun k_ => some k_ = (.slice Ao4 l0_0.length co4 : Value).ownBlock) (.slice Ao4 l0_0.length co4) l0_0 1 a1 0 t445 t448 t449 w0 _ ?side1 ?side2 A3.out).mono ?_); (case side1 => exact zb HB.out); (case side2 => exact Kd.R_tight rfl HO0_0.out); rintro e w9 ⟨v446, rfl, ho0, hy0, hb, hkp⟩; refine ⟨_, rfl, ?_⟩; have n0_ := Aside0.mk (spec_PoolAdd.apart (u := v446) (Kd.R_reok rfl hy0 (fun k_ e_ => HO0_0.out.1 k_ e_)) (fun k_ e_ e2_ => (ho0.1 k_ e2_.symm).2 e_.symm)); have n1_ := Aside0.mk (blk_kept (zh BK443.out) hkp (fun hs_ => (fun e_ => (Kd.R_ne HO0_0.out BK443.out (by decide)) e_) hs_)); have n2_ := Aside0.mk (blk_kept (zh BK444.out) hkp (fun hs_ => (fun e_ => (Kd.R_ne HO0_0.out BK444.out (by decide)) e_) hs_)); have n3_ := Aside0.mk (Kd.R_mono (ok' := fun k_ => (P0_0_ k_ ∨ w.heap.size ≤ k_) ∧ some k_ ≠ (.slice Ao4 l0_0.length co4 : Value).ownBlock) ho0 (fun k_ hk_ => by first | exact ⟨Or.elim hk_.1 (fun hs_ => (HO0_0.out.1 k_ (hs_).symm)) (fun hn_ => (.inr (Nat.le_trans (by first | exact HK.out.1 | exact (show Kept w _ (fun k_ => P0_0_ k_) from zk HK.out).1) hn_))), hk_.2⟩ | (revert hk_; simp only [and_imp]; intros; and_intros <;> assumption))); have n4_ := Aside0.mk (Kept.then_ (S := (fun k_ => P0_0_ k_)) (zk HK.out) hkp (fun k_ hs_ => (fun e_ => (HO0_0.out.1 k_ e_.symm)) hs_)); have n5_ := Aside0.mk (hb); clear HO0_0; clear BK443; clear BK444; clear HK; clear HB; have HO0_0 := n0_; have BK443 := n1_; have BK444 := n2_; have HO447 := n3_; have HK := n4_; have HB := n5_; clear n0_ n1_ n2_ n3_ n4_ n5_; (try clear hb); (try clear hkp); (try clear ho0); (try clear hy0); obtain ⟨Ao10, co10, eo10⟩ := Kd.R_slice HO447.out; subst eo10; have hcz11_0 : w9.cell? ⟨gb444, 0, none⟩ = some (.slice none 0 0) := (blk_cell BK444.out 0).trans rfl; have hfz11_0 := blk_frozen BK444.out 0))
 refine bodyPost_ret (results_ct rfl _ _ gb444 31 #[.slice Ao10 t445.length co10] (0, 0) _ rfl (by (with_reducible repeat (first | refine blk_drewN ?_ _ | refine blk_drew ?_ | refine blk_alloc ?_ _)); refine blk_put (cs := #[.slice none 0 0]) ?_ 0 _ rfl; (with_reducible repeat (first | refine blk_drewN ?_ _ | refine blk_drew ?_ | refine blk_alloc ?_ _)); exact BK444.out) Try.underlying31 rfl (by kernel_rfl)) rfl ?_
 exact ⟨_, ze, zr (Kd.R_mono (Kd.R_far (p := ⟨gb444, 0, none⟩) (Kd.R_types HO447.out BK444.out (by decide)) (fun _ hk => hk.2) (.slice Ao10 t445.length co10)) (fun _ hk => ⟨hk.1.1, hk.1.2⟩)), zr (Kd.R_mono (Kd.R_far (p := ⟨gb444, 0, none⟩) (Kd.R_types HO0_0.out BK444.out (by decide)) (fun _ hk => hk.2) (.slice Ao10 t445.length co10)) (fun _ hk => hk.1.1)), zb HB.out, zk HK.out⟩

/-! ### impl_MakePower: function 27 -/
def impl_MakePower.f (k : Nat) (l0_0 : List (S67)) (a1 : Int) : Option ((List (S67)) × Int) := (impl_PoolAdd.f k l0_0 7 a1 0).bind fun bt452 => (some (bt452.1, bt452.2))
theorem impl_MakePower.mono : ∀ a0 a1 k, LeO (impl_MakePower.f k a0 a1) (impl_MakePower.f (k + 1) a0 a1) := by
 intro a0 a1 k
 unfold impl_MakePower.f
 repeat' first
   | (with_reducible exact impl_PoolAdd.mono _ _ _ _ _)
   | (with_reducible exact LeO.refl _)
   | (with_reducible exact LeO.none _)
   | (with_reducible refine LeO.ite ?_ ?_)
   | (with_reducible refine LeO.bind ?_ (fun _ => ?_))
   | exact impl_PoolAdd.mono _ _ _ _ _
   | exact LeO.none _
   | refine LeO.ite ?_ ?_
   | refine LeO.bind ?_ (fun _ => ?_)
set_option maxHeartbeats 8000000 in
set_option maxRecDepth 100000 in
theorem impl_MakePower.calls (k : Nat) (A0_0 : Option Addr) (c0_0 : Nat) (l0_0 : List (S67)) (a1 : Int) (r1 : List (S67)) (r2 : Int) (w : World) (hr0_0 : Kd.C k67 w A0_0 l0_0.length l0_0) (hc0_0 : l0_0.length ≤ c0_0) (h : impl_MakePower.f k l0_0 a1 = some (r1, r2)) :
  Calls Try.prog 27 #[.agg #[.slice A0_0 l0_0.length c0_0], .int .i64 a1] w fun e w' => ∃ v0_ : Value, e = .returned (.tuple #[.agg #[v0_], .int .i64 r2]) ∧ Kd.R k67 67 w' w.heap.size (fun _ => True) v0_ r1 ∧ Below w.heap.size w w' := by
 have hu31 := Try.underlying31
 have hu67 := Try.underlying67
 have HR0_0 := Aside0.mk hr0_0
 have HC0_0 := Aside0.mk hc0_0
 clear hr0_0 hc0_0
 have HB := Aside0.mk (Below.refl w.heap.size w)
 have H : ((impl_PoolAdd.f k l0_0 7 a1 0).bind fun bt452 => (some (bt452.1, bt452.2))) = some (r1, r2) := h
 clear h
 replace H := Option.bind_eq_some_iff.mp H
 obtain ⟨⟨t452, t455⟩, A30, H⟩ := H
 replace H : (some (t452, t455)) = some (r1, r2) := H
 have A3 := Aside0.mk A30
 clear A30
 simp only [Option.some.injEq, Prod.mk.injEq] at H
 obtain ⟨rfl, rfl⟩ := H
 go_enter Try.func27, Try.ntmps27
 go_wp2_with (first | ((with_reducible refine gate_dst (N := 2) rfl ?_); refine box_event ?hg (N := 2) ?hd (cs := #[.slice A0_0 l0_0.length c0_0]) (t := 31) ?hr ?_; (case hd => rfl); (case hg => rfl); (case hr => first | (go_simp; done) | (go_simp; rfl)); intro gb450 hg w4 hbox hb; have n0_ := Aside0.mk (below_step (zb HB.out) hb); have n1_ := Aside0.mk (hbox); have n2_ := Aside0.mk ((by rw [hg]; exact (below_size (zb HB.out)) : w.heap.size ≤ gb450)); have n3_ := Aside0.mk ((by rw [hg]; exact (below_size (zb HB.out)) : w.heap.size ≤ gb450)); clear HB; have HB := n0_; have BK450 := n1_; have GW450 := n2_; have GE450 := n3_; clear n0_ n1_ n2_ n3_; clear hb hbox hg) | ((with_reducible refine gate_dst (N := 4) rfl ?_); refine box_event ?hg (N := 4) ?hd (cs := #[.slice none 0 0]) (t := 31) ?hr ?_; (case hd => rfl); (case hg => rfl); (case hr => first | (go_simp; done) | (go_simp; rfl)); intro gb451 hg w5 hbox hb; have n0_ := Aside0.mk (blk_below (zh BK450.out) hb); have n1_ := Aside0.mk (below_step (zb HB.out) hb); have n2_ := Aside0.mk (hbox); have n3_ := Aside0.mk ((by rw [hg]; exact (below_size (zb HB.out)) : w.heap.size ≤ gb451)); have n4_ := Aside0.mk ((by rw [hg]; exact (below_size (zb HB.out)) : w.heap.size ≤ gb451)); have n5_ := Aside0.mk ((by rw [hg]; exact Nat.ne_of_lt (blk_lt (zh BK450.out)) : gb450 ≠ gb451)); have n6_ := Aside0.mk ((by rw [hg]; exact Nat.ne_of_gt (blk_lt (zh BK450.out)) : gb451 ≠ gb450)); clear BK450; clear HB; have BK450 := n0_; have HB := n1_; have BK451 := n2_; have GW451 := n3_; have GE451 := n4_; have NB450_451 := n5_; have NB451_450 := n6_; clear n0_ n1_ n2_ n3_ n4_ n5_ n6_; clear hb hbox hg; have hnb6 := NB450_451.out; have hnc6 := NB451_450.out; have hcz7_0 : w5.cell? ⟨gb450, 0, none⟩ = some (.slice A0_0 l0_0.length c0_0) := (blk_cell BK450.out 0).trans rfl; have hfz7_0 := blk_frozen BK450.out 0) | ((with_reducible refine gate_callee (f := 50) rfl ?_); refine goesL_ (some 9) rfl rfl Try.func50 (by kernel_rfl) rfl #[.agg #[.slice A0_0 l0_0.length c0_0], .agg #[.int .i64 7, .int .i64 a1, .int .i64 0]] rfl zl ?_; (with_reducible refine (impl_PoolAdd.calls k _ _ l0_0 7 a1 0 t452 t455 _ ?side1 ?side2 A3.out).mono ?_); (case side1 => exact zc (Kd.C_below HR0_0.out HB.out)); (case side2 => exact HC0_0.out); rintro e w8 ⟨v453, rfl, ho0, hb⟩; refine ⟨_, rfl, ?_⟩; have n0_ := Aside0.mk (Kd.R_lower ho0 (below_size (zb HB.out))); have n1_ := Aside0.mk (blk_below (zh BK450.out) hb); have n2_ := Aside0.mk (blk_below (zh BK451.out) hb); have n3_ := Aside0.mk (below_step (zb HB.out) hb); clear BK450; clear BK451; clear HB; have HO454 := n0_; have BK450 := n1_; have BK451 := n2_; have HB := n3_; clear n0_ n1_ n2_ n3_; (try clear hb); (try clear hb2); (try clear hk); (try clear hi); (try clear ho0); obtain ⟨Ao9, co9, eo9⟩ := Kd.R_slice HO454.out; subst eo9; have hcz10_0 : w8.cell? ⟨gb451, 0, none⟩ = some (.slice none 0 0) := (blk_cell BK451.out 0).trans rfl; have hfz10_0 := blk_frozen BK451.out 0))
 refine bodyPost_ret (results_ct rfl _ _ gb451 31 #[.slice Ao9 t452.length co9] (0, 0) _ rfl (by (with_reducible repeat (first | refine blk_drewN ?_ _ | refine blk_drew ?_ | refine blk_alloc ?_ _)); refine blk_put (cs := #[.slice none 0 0]) ?_ 0 _ rfl; (with_reducible repeat (first | refine blk_drewN ?_ _ | refine blk_drew ?_ | refine blk_alloc ?_ _)); exact BK451.out) Try.underlying31 rfl (by kernel_rfl)) rfl ?_
 exact ⟨_, ze, zr (Kd.R_mono (Kd.R_far (p := ⟨gb451, 0, none⟩) (Kd.R_types HO454.out BK451.out (by decide)) (fun _ hk => hk.2) (.slice Ao9 t452.length co9)) (fun _ hk => trivial)), zb HB.out⟩

/-! ### impl_MakeShared: function 28 -/
def impl_MakeShared.f (k : Nat) (l0_0 : List (S67)) (a1 : Int) (a2 : Int) : Option ((List (S67)) × Int) := (impl_PoolAdd.f k l0_0 8 a1 a2).bind fun bt458 => (some (bt458.1, bt458.2))
theorem impl_MakeShared.mono : ∀ a0 a1 a2 k, LeO (impl_MakeShared.f k a0 a1 a2) (impl_MakeShared.f (k + 1) a0 a1 a2) := by
 intro a0 a1 a2 k
 unfold impl_MakeShared.f
 repeat' first
   | (with_reducible exact impl_PoolAdd.mono _ _ _ _ _)
   | (with_reducible exact LeO.refl _)
   | (with_reducible exact LeO.none _)
   | (with_reducible refine LeO.ite ?_ ?_)
   | (with_reducible refine LeO.bind ?_ (fun _ => ?_))
   | exact impl_PoolAdd.mono _ _ _ _ _
   | exact LeO.none _
   | refine LeO.ite ?_ ?_
   | refine LeO.bind ?_ (fun _ => ?_)
set_option maxHeartbeats 8000000 in
set_option maxRecDepth 100000 in
theorem impl_MakeShared.calls (k : Nat) (A0_0 : Option Addr) (c0_0 : Nat) (l0_0 : List (S67)) (a1 : Int) (a2 : Int) (r1 : List (S67)) (r2 : Int) (w : World) (hr0_0 : Kd.C k67 w A0_0 l0_0.length l0_0) (hc0_0 : l0_0.length ≤ c0_0) (h : impl_MakeShared.f k l0_0 a1 a2 = some (r1, r2)) :
  Calls Try.prog 28 #[.agg #[.slice A0_0 l0_0.length c0_0], .int .i64 a1, .int .i64 a2] w fun e w' => ∃ v0_ : Value, e = .returned (.tuple #[.agg #[v0_], .int .i64 r2]) ∧ Kd.R k67 67 w' w.heap.size (fun _ => True) v0_ r1 ∧ Below w.heap.size w w' := by
 have hu31 := Try.underlying31
 have hu67 := Try.underlying67
 have HR0_0 := Aside0.mk hr0_0
 have HC0_0 := Aside0.mk hc0_0
 clear hr0_0 hc0_0
 have HB := Aside0.mk (Below.refl w.heap.size w)
 have H : ((impl_PoolAdd.f k l0_0 8 a1 a2).bind fun bt458 => (some (bt458.1, bt458.2))) = some (r1, r2) := h
 clear h
 replace H := Option.bind_eq_some_iff.mp H
 obtain ⟨⟨t458, t461⟩, A40, H⟩ := H
 replace H : (some (t458, t461)) = some (r1, r2) := H
 have A4 := Aside0.mk A40
 clear A40
 simp only [Option.some.injEq, Prod.mk.injEq] at H
 obtain ⟨rfl, rfl⟩ := H
 go_enter Try.func28, Try.ntmps28
 go_wp2_with (first | ((with_reducible refine gate_dst (N := 3) rfl ?_); refine box_event ?hg (N := 3) ?hd (cs := #[.slice A0_0 l0_0.length c0_0]) (t := 31) ?hr ?_; (case hd => rfl); (case hg => rfl); (case hr => first | (go_simp; done) | (go_simp; rfl)); intro gb456 hg w5 hbox hb; have n0_ := Aside0.mk (below_step (zb HB.out) hb); have n1_ := Aside0.mk (hbox); have n2_ := Aside0.mk ((by rw [hg]; exact (below_size (zb HB.out)) : w.heap.size ≤ gb456)); have n3_ := Aside0.mk ((by rw [hg]; exact (below_size (zb HB.out)) : w.heap.size ≤ gb456)); clear HB; have HB := n0_; have BK456 := n1_; have GW456 := n2_; have GE456 := n3_; clear n0_ n1_ n2_ n3_; clear hb hbox hg) | ((with_reducible refine gate_dst (N := 6) rfl ?_); refine box_event ?hg (N := 6) ?hd (cs := #[.slice none 0 0]) (t := 31) ?hr ?_; (case hd => rfl); (case hg => rfl); (case hr => first | (go_simp; done) | (go_simp; rfl)); intro gb457 hg w6 hbox hb; have n0_ := Aside0.mk (blk_below (zh BK456.out) hb); have n1_ := Aside0.mk (below_step (zb HB.out) hb); have n2_ := Aside0.mk (hbox); have n3_ := Aside0.mk ((by rw [hg]; exact (below_size (zb HB.out)) : w.heap.size ≤ gb457)); have n4_ := Aside0.mk ((by rw [hg]; exact (below_size (zb HB.out)) : w.heap.size ≤ gb457)); have n5_ := Aside0.mk ((by rw [hg]; exact Nat.ne_of_lt (blk_lt (zh BK456.out)) : gb456 ≠ gb457)); have n6_ := Aside0.mk ((by rw [hg]; exact Nat.ne_of_gt (blk_lt (zh BK456.out)) : gb457 ≠ gb456)); clear BK456; clear HB; have BK456 := n0_; have HB := n1_; have BK457 := n2_; have GW457 := n3_; have GE457 := n4_; have NB456_457 := n5_; have NB457_456 := n6_; clear n0_ n1_ n2_ n3_ n4_ n5_ n6_; clear hb hbox hg; have hnb7 := NB456_457.out; have hnc7 := NB457_456.out; have hcz8_0 : w6.cell? ⟨gb456, 0, none⟩ = some (.slice A0_0 l0_0.length c0_0) := (blk_cell BK456.out 0).trans rfl; have hfz8_0 := blk_frozen BK456.out 0) | ((with_reducible refine gate_callee (f := 50) rfl ?_); refine goesL_ (some 12) rfl rfl Try.func50 (by kernel_rfl) rfl #[.agg #[.slice A0_0 l0_0.length c0_0], .agg #[.int .i64 8, .int .i64 a1, .int .i64 a2]] rfl zl ?_; (with_reducible refine (impl_PoolAdd.calls k _ _ l0_0 8 a1 a2 t458 t461 _ ?side1 ?side2 A4.out).mono ?_); (case side1 => exact zc (Kd.C_below HR0_0.out HB.out)); (case side2 => exact HC0_0.out); rintro e w9 ⟨v459, rfl, ho0, hb⟩; refine ⟨_, rfl, ?_⟩; have n0_ := Aside0.mk (Kd.R_lower ho0 (below_size (zb HB.out))); have n1_ := Aside0.mk (blk_below (zh BK456.out) hb); have n2_ := Aside0.mk (blk_below (zh BK457.out) hb); have n3_ := Aside0.mk (below_step (zb HB.out) hb); clear BK456; clear BK457; clear HB; have HO460 := n0_; have BK456 := n1_; have BK457 := n2_; have HB := n3_; clear n0_ n1_ n2_ n3_; (try clear hb); (try clear hb2); (try clear hk); (try clear hi); (try clear ho0); obtain ⟨Ao10, co10, eo10⟩ := Kd.R_slice HO460.out; subst eo10; have hcz11_0 : w9.cell? ⟨gb457, 0, none⟩ = some (.slice none 0 0) := (blk_cell BK457.out 0).trans rfl; have hfz11_0 := blk_frozen BK457.out 0))
 refine bodyPost_ret (results_ct rfl _ _ gb457 31 #[.slice Ao10 t458.length co10] (0, 0) _ rfl (by (with_reducible repeat (first | refine blk_drewN ?_ _ | refine blk_drew ?_ | refine blk_alloc ?_ _)); refine blk_put (cs := #[.slice none 0 0]) ?_ 0 _ rfl; (with_reducible repeat (first | refine blk_drewN ?_ _ | refine blk_drew ?_ | refine blk_alloc ?_ _)); exact BK457.out) Try.underlying31 rfl (by kernel_rfl)) rfl ?_
 exact ⟨_, ze, zr (Kd.R_mono (Kd.R_far (p := ⟨gb457, 0, none⟩) (Kd.R_types HO460.out BK457.out (by decide)) (fun _ hk => hk.2) (.slice Ao10 t458.length co10)) (fun _ hk => trivial)), zb HB.out⟩

/-! ### impl_Makes: function 29 -/
def impl_Makes.f (k : Nat) (l0_0 : List (S67)) (l1 : List Int) (a2 : Int) : Option (Bool) := (impl_Pool_isTerm.f l0_0 a2).bind fun t463 => (if t463 = true then ((impl_KnowOk.f k l0_0 l1).bind fun t464 => (if t464 = true then ((impl_Pool_makes.f k l0_0 l1).bind fun t465 => (if 0 ≤ a2 then (if a2 < (t465.length : Int) then (some (rdOf false t465 a2)) else (none)) else (none))) else (some false))) else (some false))
theorem impl_Makes.mono : ∀ a0 a1 a2 k, LeO (impl_Makes.f k a0 a1 a2) (impl_Makes.f (k + 1) a0 a1 a2) := by
 intro a0 a1 a2 k
 unfold impl_Makes.f
 repeat' first
   | (with_reducible exact impl_KnowOk.mono _ _ _)
   | (with_reducible exact impl_Pool_makes.mono _ _ _)
   | (with_reducible exact LeO.refl _)
   | (with_reducible exact LeO.none _)
   | (with_reducible refine LeO.ite ?_ ?_)
   | (with_reducible refine LeO.bind ?_ (fun _ => ?_))
   | exact impl_KnowOk.mono _ _ _
   | exact impl_Pool_makes.mono _ _ _
   | exact LeO.none _
   | refine LeO.ite ?_ ?_
   | refine LeO.bind ?_ (fun _ => ?_)
set_option maxHeartbeats 8000000 in
set_option maxRecDepth 100000 in
theorem impl_Makes.calls (k : Nat) (A0_0 : Option Addr) (c0_0 : Nat) (l0_0 : List (S67)) (A1 : Option Addr) (c1 : Nat) (l1 : List Int) (a2 : Int) (r : Bool) (w : World) (hr0_0 : Kd.C k67 w A0_0 l0_0.length l0_0) (hc0_0 : l0_0.length ≤ c0_0) (hr1 : Kd.C (Kd.int .i64) w A1 l1.length l1) (hc1 : l1.length ≤ c1) (h : impl_Makes.f k l0_0 l1 a2 = some r) :
  Calls Try.prog 29 #[.agg #[.slice A0_0 l0_0.length c0_0], .slice A1 l1.length c1, .int .i64 a2] w fun e w' => e = .returned (.bool r) ∧ Below w.heap.size w w' := by
 have hu31 := Try.underlying31
 have HR0_0 := Aside0.mk hr0_0
 have HC0_0 := Aside0.mk hc0_0
 clear hr0_0 hc0_0
 have HR1 := Aside0.mk hr1
 have HC1 := Aside0.mk hc1
 clear hr1 hc1
 have HB := Aside0.mk (Below.refl w.heap.size w)
 have H : ((impl_Pool_isTerm.f l0_0 a2).bind fun t463 => (if t463 = true then ((impl_KnowOk.f k l0_0 l1).bind fun t464 => (if t464 = true then ((impl_Pool_makes.f k l0_0 l1).bind fun t465 => (if 0 ≤ a2 then (if a2 < (t465.length : Int) then (some (rdOf false t465 a2)) else (none)) else (none))) else (some false))) else (some false))) = some r := h
 clear h
 replace H := Option.bind_eq_some_iff.mp H
 obtain ⟨t463, A40, H⟩ := H
 replace H : (if t463 = true then ((impl_KnowOk.f k l0_0 l1).bind fun t464 => (if t464 = true then ((impl_Pool_makes.f k l0_0 l1).bind fun t465 => (if 0 ≤ a2 then (if a2 < (t465.length : Int) then (some (rdOf false t465 a2)) else (none)) else (none))) else (some false))) else (some false)) = some r := H
 have A4 := Aside0.mk A40
 clear A40
 by_cases c5 : t463 = true
 ·subst c5
  have H1 : ((impl_KnowOk.f k l0_0 l1).bind fun t464 => (if t464 = true then ((impl_Pool_makes.f k l0_0 l1).bind fun t465 => (if 0 ≤ a2 then (if a2 < (t465.length : Int) then (some (rdOf false t465 a2)) else (none)) else (none))) else (some false))) = some r := by rw [if_pos rfl] at H; exact H
  clear H
  have H := H1
  clear H1
  replace H := Option.bind_eq_some_iff.mp H
  obtain ⟨t464, A60, H⟩ := H
  replace H : (if t464 = true then ((impl_Pool_makes.f k l0_0 l1).bind fun t465 => (if 0 ≤ a2 then (if a2 < (t465.length : Int) then (some (rdOf false t465 a2)) else (none)) else (none))) else (some false)) = some r := H
  have A6 := Aside0.mk A60
  clear A60
  by_cases c7 : t464 = true
  ·subst c7
   have H1 : ((impl_Pool_makes.f k l0_0 l1).bind fun t465 => (if 0 ≤ a2 then (if a2 < (t465.length : Int) then (some (rdOf false t465 a2)) else (none)) else (none))) = some r := by rw [if_pos rfl] at H; exact H
   clear H
   have H := H1
   clear H1
   replace H := Option.bind_eq_some_iff.mp H
   obtain ⟨t465, A80, H⟩ := H
   replace H : (if 0 ≤ a2 then (if a2 < (t465.length : Int) then (some (rdOf false t465 a2)) else (none)) else (none)) = some r := H
   have A8 := Aside0.mk A80
   clear A80
   by_cases c9 : 0 ≤ a2
   ·rw [if_pos c9] at H
    have c9b0 : decide (0 ≤ a2) = true := decide_eq_true c9
    clear c9
    by_cases c10 : a2 < (t465.length : Int)
    ·rw [if_pos c10] at H
     have c10b0 : decide (a2 < (t465.length : Int)) = true := decide_eq_true c10
     clear c10
     obtain rfl := Option.some.inj H
     go_enter Try.func29, Try.ntmps29
     go_wp2_with (first | ((with_reducible refine gate_dst (N := 3) rfl ?_); refine box_event ?hg (N := 3) ?hd (cs := #[.slice A0_0 l0_0.length c0_0]) (t := 31) ?hr ?_; (case hd => rfl); (case hg => rfl); (case hr => first | (go_simp; done) | (go_simp; rfl)); intro gb462 hg w11 hbox hb; have n0_ := Aside0.mk (below_step (zb HB.out) hb); have n1_ := Aside0.mk (hbox); have n2_ := Aside0.mk ((by rw [hg]; exact (below_size (zb HB.out)) : w.heap.size ≤ gb462)); have n3_ := Aside0.mk ((by rw [hg]; exact (below_size (zb HB.out)) : w.heap.size ≤ gb462)); clear HB; have HB := n0_; have BK462 := n1_; have GW462 := n2_; have GE462 := n3_; clear n0_ n1_ n2_ n3_; clear hb hbox hg) | ((with_reducible refine gate_callee (f := 40) rfl ?_); refine goesL_ (some 8) rfl rfl Try.func40 (by kernel_rfl) rfl #[.pointer (some ⟨gb462, 0, none⟩), .int .i64 a2] rfl zl ?_; (with_reducible refine (impl_Pool_isTerm.calls _ A0_0 c0_0 l0_0 a2 true _ ?side1 ?side2 ?side3 A4.out).mono ?_); (case side1 => exact zh BK462.out); (case side2 => exact zc (Kd.C_below HR0_0.out HB.out)); (case side3 => exact HC0_0.out); rintro e w12 ⟨rfl, hb⟩; refine ⟨_, rfl, ?_⟩; have n0_ := Aside0.mk (blk_below (zh BK462.out) hb); have n1_ := Aside0.mk (below_step (zb HB.out) hb); clear BK462; clear HB; have BK462 := n0_; have HB := n1_; clear n0_ n1_; (try clear hb); (try clear hb2); (try clear hk); (try clear hi); have hcz13_0 : w12.cell? ⟨gb462, 0, none⟩ = some (.slice A0_0 l0_0.length c0_0) := (blk_cell BK462.out 0).trans rfl; have hfz13_0 := blk_frozen BK462.out 0) | (go_at_call 22; (with_reducible refine (impl_KnowOk.calls k _ _ l0_0 _ _ l1 true _ ?side1 ?side2 ?side3 ?side4 A6.out).mono ?_); (case side1 => exact zc (Kd.C_below HR0_0.out HB.out)); (case side2 => exact HC0_0.out); (case side3 => exact zc (Kd.C_below HR1.out HB.out)); (case side4 => exact HC1.out); rintro e w14 ⟨rfl, hb⟩; have n0_ := Aside0.mk (blk_below (zh BK462.out) hb); have n1_ := Aside0.mk (below_step (zb HB.out) hb); clear BK462; clear HB; have BK462 := n0_; have HB := n1_; clear n0_ n1_; (try clear hb); (try clear hb2); (try clear hk); (try clear hi)) | (go_at_call 49; (with_reducible refine (impl_Pool_makes.calls k _ A0_0 c0_0 l0_0 _ _ l1 t465 _ ?side1 ?side2 ?side3 ?side4 ?side5 A8.out).mono ?_); (case side1 => exact zh BK462.out); (case side2 => exact zc (Kd.C_below HR0_0.out HB.out)); (case side3 => exact HC0_0.out); (case side4 => exact zc (Kd.C_below HR1.out HB.out)); (case side5 => exact HC1.out); rintro e w15 ⟨v466, rfl, ho0, hb⟩; have n0_ := Aside0.mk (Kd.R_lower ho0 (below_size (zb HB.out))); have n1_ := Aside0.mk (blk_below (zh BK462.out) hb); have n2_ := Aside0.mk (below_step (zb HB.out) hb); clear BK462; clear HB; have HO467 := n0_; have BK462 := n1_; have HB := n2_; clear n0_ n1_ n2_; (try clear hb); (try clear hb2); (try clear hk); (try clear hi); (try clear ho0); obtain ⟨Ao16, co16, eo16⟩ := Kd.R_slice HO467.out; subst eo16; have p468 : 0 ≤ (a2 : Int) := of_decide_eq_true (by first | (with_reducible assumption) | assumption); have q468 : a2 < (t465.length : Int) := of_decide_eq_true (by first | (with_reducible assumption) | assumption); obtain ⟨ad468, e468, hx468_0⟩ := Kd.at_bool (Kd.R_reads' HO467.out).2.2 a2 p468 q468; cases e468; replace p468 := eq_true p468; replace q468 := eq_true q468))
     go_ret
     exact ⟨ze, zb HB.out⟩
    ·rw [if_neg c10] at H
     exact absurd H (by simp)
   ·rw [if_neg c9] at H
    exact absurd H (by simp)
  ·replace c7 := Bool.eq_false_iff.mpr c7
   subst c7
   have H1 : (some false) = some r := by rw [if_neg (show ¬ (false = true) by decide)] at H; exact H
   clear H
   have H := H1
   clear H1
   obtain rfl := Option.some.inj H
   go_enter Try.func29, Try.ntmps29
   go_wp2_with (first | ((with_reducible refine gate_dst (N := 3) rfl ?_); refine box_event ?hg (N := 3) ?hd (cs := #[.slice A0_0 l0_0.length c0_0]) (t := 31) ?hr ?_; (case hd => rfl); (case hg => rfl); (case hr => first | (go_simp; done) | (go_simp; rfl)); intro gb462 hg w17 hbox hb; have n0_ := Aside0.mk (below_step (zb HB.out) hb); have n1_ := Aside0.mk (hbox); have n2_ := Aside0.mk ((by rw [hg]; exact (below_size (zb HB.out)) : w.heap.size ≤ gb462)); have n3_ := Aside0.mk ((by rw [hg]; exact (below_size (zb HB.out)) : w.heap.size ≤ gb462)); clear HB; have HB := n0_; have BK462 := n1_; have GW462 := n2_; have GE462 := n3_; clear n0_ n1_ n2_ n3_; clear hb hbox hg) | ((with_reducible refine gate_callee (f := 40) rfl ?_); refine goesL_ (some 8) rfl rfl Try.func40 (by kernel_rfl) rfl #[.pointer (some ⟨gb462, 0, none⟩), .int .i64 a2] rfl zl ?_; (with_reducible refine (impl_Pool_isTerm.calls _ A0_0 c0_0 l0_0 a2 true _ ?side1 ?side2 ?side3 A4.out).mono ?_); (case side1 => exact zh BK462.out); (case side2 => exact zc (Kd.C_below HR0_0.out HB.out)); (case side3 => exact HC0_0.out); rintro e w18 ⟨rfl, hb⟩; refine ⟨_, rfl, ?_⟩; have n0_ := Aside0.mk (blk_below (zh BK462.out) hb); have n1_ := Aside0.mk (below_step (zb HB.out) hb); clear BK462; clear HB; have BK462 := n0_; have HB := n1_; clear n0_ n1_; (try clear hb); (try clear hb2); (try clear hk); (try clear hi); have hcz19_0 : w18.cell? ⟨gb462, 0, none⟩ = some (.slice A0_0 l0_0.length c0_0) := (blk_cell BK462.out 0).trans rfl; have hfz19_0 := blk_frozen BK462.out 0) | (go_at_call 22; (with_reducible refine (impl_KnowOk.calls k _ _ l0_0 _ _ l1 false _ ?side1 ?side2 ?side3 ?side4 A6.out).mono ?_); (case side1 => exact zc (Kd.C_below HR0_0.out HB.out)); (case side2 => exact HC0_0.out); (case side3 => exact zc (Kd.C_below HR1.out HB.out)); (case side4 => exact HC1.out); rintro e w20 ⟨rfl, hb⟩; have n0_ := Aside0.mk (blk_below (zh BK462.out) hb); have n1_ := Aside0.mk (below_step (zb HB.out) hb); clear BK462; clear HB; have BK462 := n0_; have HB := n1_; clear n0_ n1_; (try clear hb); (try clear hb2); (try clear hk); (try clear hi)))
   go_ret
   exact ⟨ze, zb HB.out⟩
 ·replace c5 := Bool.eq_false_iff.mpr c5
  subst c5
  have H1 : (some false) = some r := by rw [if_neg (show ¬ (false = true) by decide)] at H; exact H
  clear H
  have H := H1
  clear H1
  obtain rfl := Option.some.inj H
  go_enter Try.func29, Try.ntmps29
  go_wp2_with (first | ((with_reducible refine gate_dst (N := 3) rfl ?_); refine box_event ?hg (N := 3) ?hd (cs := #[.slice A0_0 l0_0.length c0_0]) (t := 31) ?hr ?_; (case hd => rfl); (case hg => rfl); (case hr => first | (go_simp; done) | (go_simp; rfl)); intro gb462 hg w21 hbox hb; have n0_ := Aside0.mk (below_step (zb HB.out) hb); have n1_ := Aside0.mk (hbox); have n2_ := Aside0.mk ((by rw [hg]; exact (below_size (zb HB.out)) : w.heap.size ≤ gb462)); have n3_ := Aside0.mk ((by rw [hg]; exact (below_size (zb HB.out)) : w.heap.size ≤ gb462)); clear HB; have HB := n0_; have BK462 := n1_; have GW462 := n2_; have GE462 := n3_; clear n0_ n1_ n2_ n3_; clear hb hbox hg) | ((with_reducible refine gate_callee (f := 40) rfl ?_); refine goesL_ (some 8) rfl rfl Try.func40 (by kernel_rfl) rfl #[.pointer (some ⟨gb462, 0, none⟩), .int .i64 a2] rfl zl ?_; (with_reducible refine (impl_Pool_isTerm.calls _ A0_0 c0_0 l0_0 a2 false _ ?side1 ?side2 ?side3 A4.out).mono ?_); (case side1 => exact zh BK462.out); (case side2 => exact zc (Kd.C_below HR0_0.out HB.out)); (case side3 => exact HC0_0.out); rintro e w22 ⟨rfl, hb⟩; refine ⟨_, rfl, ?_⟩; have n0_ := Aside0.mk (blk_below (zh BK462.out) hb); have n1_ := Aside0.mk (below_step (zb HB.out) hb); clear BK462; clear HB; have BK462 := n0_; have HB := n1_; clear n0_ n1_; (try clear hb); (try clear hb2); (try clear hk); (try clear hi)))
  go_ret
  exact ⟨ze, zb HB.out⟩

end Go.Proofs.Ytilnfdnigjblcaa.H
end
