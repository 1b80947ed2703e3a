-- Written by this session's program (wip/tools/gprint.py over the kit's print) out of the translation; Lean checks it.
import Derived.Test.YtafahnellnfclaaZC0
import Derived.Test.YtafahnellnfclaaZC2
import Derived.Test.YtafahnellnfclaaZC18
namespace Go.Proofs.Ytafahnellnfclaa.C
open Go.RowKit Go.Proofs.YtafahnellnfclaaW.PrintWords Go.Proofs.YtafahnellnfclaaW.PrintLast Go.Proofs.YtafahnellnfclaaW.PrintMore
attribute [local go_sem] max2_int min2_int max_two min_two max_three min_three max_four min_four   -- for this text's walks alone
set_option linter.unusedVariables false
set_option linter.unusedSimpArgs false
set_option maxRecDepth 100000

/-! ### impl_Pool_add: function 62 -/
def impl_Pool_add.j0 : Nat → List (S34) → Int → Int → Int → Option (List (S34) × Int)
 | 0, _, _, _, _ => none
 | k + 1, x182000, x183000, x183001, x183002 => (impl_nodeOk.f k x183000 x183001 x183002 (x182000.length : Int)).bind fun t183 => (if t183 = true then ((impl_Pool_find.f k x182000 x183000 x183001 x183002).bind fun t184 => (if t184 ≥ 0 then (some (x182000, t184)) else (if (x182000.length : Int) ≥ 500 then (some (x182000, -1)) else (if x182000.length < 5864062014805 then (some (x182000 ++ [(⟨x183000, x183001, x183002⟩ : S34)], wrap64 (((x182000 ++ [(⟨x183000, x183001, x183002⟩ : S34)]).length : Int) - 1))) else (none))))) else (some (x182000, -1)))
def impl_Pool_add.f (k : Nat) (l0_0 : List (S34)) (a1 : Int) (a2 : Int) (a3 : Int) : Option (List (S34) × Int) := if a1 = 8 then (impl_Pool_add.j0 k l0_0 a1 (mn a2 a3) (mx a2 a3)) else (impl_Pool_add.j0 k l0_0 a1 a2 a3)
theorem impl_Pool_add.mono_l : ∀ k, (∀ y0 y1 y2 y3, LeO (impl_Pool_add.j0 k y0 y1 y2 y3) (impl_Pool_add.j0 (k + 1) y0 y1 y2 y3))
 | 0 => fun _ _ _ _ r h => by simp [impl_Pool_add.j0] at h
 | k + 1 => by
  have ih0 := impl_Pool_add.mono_l k
  ·intro y0 y1 y2 y3
   unfold impl_Pool_add.j0
   repeat' first
   | (with_reducible exact ih0 _ _ _ _)
   | (with_reducible exact impl_Pool_find.mono _ _ _ _ _)
   | (with_reducible exact impl_nodeOk.mono _ _ _ _ _)
   | (with_reducible exact LeO.refl _)
   | (with_reducible exact LeO.none _)
   | (with_reducible refine LeO.ite ?_ ?_)
   | (with_reducible refine LeO.bind ?_ (fun _ => ?_))
   | exact ih0 _ _ _ _
   | exact impl_Pool_find.mono _ _ _ _ _
   | exact impl_nodeOk.mono _ _ _ _ _
   | exact LeO.none _
   | refine LeO.ite ?_ ?_
   | refine LeO.bind ?_ (fun _ => ?_)
theorem impl_Pool_add.mono : ∀ a0 a1 a2 a3 k, LeO (impl_Pool_add.f k a0 a1 a2 a3) (impl_Pool_add.f (k + 1) a0 a1 a2 a3) := by
 intro a0 a1 a2 a3 k
 have ih0 := impl_Pool_add.mono_l k
 unfold impl_Pool_add.f
 repeat' first
   | (with_reducible exact ih0 _ _ _ _)
   | (with_reducible exact impl_Pool_find.mono _ _ _ _ _)
   | (with_reducible exact impl_nodeOk.mono _ _ _ _ _)
   | (with_reducible exact LeO.refl _)
   | (with_reducible exact LeO.none _)
   | (with_reducible refine LeO.ite ?_ ?_)
   | (with_reducible refine LeO.bind ?_ (fun _ => ?_))
   | exact ih0 _ _ _ _
   | exact impl_Pool_find.mono _ _ _ _ _
   | exact impl_nodeOk.mono _ _ _ _ _
   | exact LeO.none _
   | refine LeO.ite ?_ ?_
   | refine LeO.bind ?_ (fun _ => ?_)
def impl_Pool_add.T4 : Bool × List (List Nat × List Nat) := (true, [([], []), ([], []), ([1], [1]), ([2], [2]), ([3], [3]), ([4], [4]), ([0, 5], [0, 5]), ([6], [6])])
def impl_Pool_add.B4 : List Nat := [0, 0, 2, 6, 14, 30, 63, 127]
theorem impl_Pool_add.tab4 : rtab .any (opsOf Try.f62 4) = impl_Pool_add.T4 := by kernel_rfl
theorem impl_Pool_add.bits4 : waitsOk impl_Pool_add.T4.2 impl_Pool_add.B4 = true := by kernel_rfl
def impl_Pool_add.T11 : Bool × List (List Nat × List Nat) := (true, [([], []), ([], []), ([1], [1]), ([2], [2]), ([3], [3]), ([], []), ([5], [5]), ([4, 6], [4, 6]), ([0, 0, 1, 2, 3, 4, 5, 6, 7], [0]), ([8, 0, 1, 2, 3, 4, 5, 6, 7], [8]), ([9, 7, 7, 0, 1, 2, 3, 4, 5, 6, 7], [7, 9])])
def impl_Pool_add.B11 : List Nat := [0, 0, 2, 6, 14, 0, 32, 126, 255, 511, 1023]
theorem impl_Pool_add.tab11 : rtab .any (opsOf Try.f62 11) = impl_Pool_add.T11 := by kernel_rfl
theorem impl_Pool_add.bits11 : waitsOk impl_Pool_add.T11.2 impl_Pool_add.B11 = true := by kernel_rfl
set_option maxHeartbeats 8000000 in
set_option maxRecDepth 100000 in
theorem impl_Pool_add.calls (k : Nat) (gb181 : Nat) (P0_0_ : Nat → Prop) (u9000_ : Value) (l0_0 : List (S34)) (a1 : Int) (a2 : Int) (a3 : Int) (r : List (S34) × Int) (w0 w : World) (hB : Below w0.heap.size w0 w) (hge : w0.heap.size ≤ gb181) (hbx : w.heap[gb181]? = some (.cells #[u9000_] 30 (0, 0))) (ho0_0 : Kd.R k34 34 w w0.heap.size P0_0_ u9000_ l0_0) (h : impl_Pool_add.f k l0_0 a1 a2 a3 = some r) :
  Calls Try.prog 62 #[.pointer (some ⟨gb181, 0, none⟩), .int .i64 a1, .int .i64 a2, .int .i64 a3] w fun e w' => e = .returned (.int .i64 r.2) ∧ Below w0.heap.size w0 w' ∧ Kept w w' (fun k_ => P0_0_ k_ ∨ k_ = gb181) ∧ ∃ u_ : Value, w'.heap[gb181]? = some (.cells #[u_] 30 (0, 0)) ∧ Kd.R k34 34 w' w0.heap.size (fun k_ => P0_0_ k_ ∨ w.heap.size ≤ k_) u_ r.1 := by
 have hu30 := Try.underlying30
 have hu34 := Try.underlying34
 have HO0_0 := Aside0.mk (show Kd.R k34 34 w w0.heap.size (fun k_ => (P0_0_ k_ ∨ w.heap.size ≤ k_)) u9000_ l0_0 from Kd.R_mono ho0_0 (fun k_ hk => (.inl hk)))
 have HK := Aside0.mk (Kept.refl w (fun k_ => P0_0_ k_ ∨ k_ = gb181))
 have HW0 := Aside0.mk hB.size
 have HB := Aside0.mk hB
 clear hB
 have H : (if a1 = 8 then (impl_Pool_add.j0 k l0_0 a1 (mn a2 a3) (mx a2 a3)) else (impl_Pool_add.j0 k l0_0 a1 a2 a3)) = some r := h
 clear h
 have HC5 := Aside0.mk H
 clear H
 obtain ⟨Ao6, co6, eo6⟩ := Kd.R_slice HO0_0.out
 subst eo6
 have BK181 := Aside0.mk hbx
 have GE181 := Aside0.mk hge
 clear hbx hge
 go_enter Try.func62, Try.ntmps62
 go_upto_if 16 with (first | ((with_reducible refine gate_dst (N := 9) rfl ?_); refine box_event ?hg (N := 9) ?hd (cs := #[.int .i64 0, .int .i64 0, .int .i64 0]) (t := 34) ?hr ?_; (case hd => rfl); (case hg => rfl); (case hr => first | (go_simp; done) | (go_simp; rfl)); intro gb182 hg w8 hbox hb; have n0_ := Aside0.mk (Kd.R_below (Kd.R_elderB (zr HO0_0.out) gb182 (Nat.le_of_eq hg.symm)) hb); have n1_ := Aside0.mk (blk_below (zh BK181.out) hb); have n2_ := Aside0.mk (Kept.below (S := (fun k_ => P0_0_ k_ ∨ k_ = gb181)) (zk HK.out) hb); have n3_ := Aside0.mk (below_step (zb HB.out) hb); have n4_ := Aside0.mk (hbox); have n5_ := Aside0.mk ((by rw [hg]; exact (by first | exact HK.out.1 | exact (show Kept w _ (fun k_ => P0_0_ k_ ∨ k_ = gb181) from zk HK.out).1) : w.heap.size ≤ gb182)); have n6_ := Aside0.mk ((by rw [hg]; exact (below_size (zb HB.out)) : w0.heap.size ≤ gb182)); have n7_ := Aside0.mk ((by rw [hg]; exact Nat.ne_of_lt (blk_lt (zh BK181.out)) : gb181 ≠ gb182)); have n8_ := Aside0.mk ((by rw [hg]; exact Nat.ne_of_gt (blk_lt (zh BK181.out)) : gb182 ≠ gb181)); clear HO0_0; clear BK181; clear HK; clear HB; have HO0_0 := n0_; have BK181 := n1_; have HK := n2_; have HB := n3_; have BK182 := n4_; have GW182 := n5_; have GE182 := n6_; have NB181_182 := n7_; have NB182_181 := n8_; clear n0_ n1_ n2_ n3_ n4_ n5_ n6_ n7_ n8_; clear hb hbox hg; have hnb9 := NB182_181.out; have hnc9 := NB181_182.out; have hcz10_0 : w8.cell? ⟨gb182, 0, none⟩ = some (.int .i64 0) := (blk_cell BK182.out 0).trans rfl; have hcz10_1 : w8.cell? ⟨gb182, 1, none⟩ = some (.int .i64 0) := (blk_cell BK182.out 1).trans rfl; have hcz10_2 : w8.cell? ⟨gb182, 2, none⟩ = some (.int .i64 0) := (blk_cell BK182.out 2).trans rfl; have hfz10_0 := blk_frozen BK182.out 0; have hfz10_1 := blk_frozen BK182.out 1; have hfz10_2 := blk_frozen BK182.out 2))
 (try simp only [Act.put, List.setIfInBounds_toArray, List.set_cons_zero, List.set_cons_succ])
 go_cut [] (fun wc => ∃ (kq : Nat) (x183001_4 : Int) (x183002_4 : Int), Aside0 (impl_Pool_add.j0 kq l0_0 a1 x183001_4 x183002_4 = some r) ∧ Aside0 (kq ≤ k) ∧ Aside0 (Kd.R k34 34 wc w0.heap.size (fun k_ => (P0_0_ k_ ∨ w.heap.size ≤ k_) ∧ k_ ≠ gb182) (.slice Ao6 l0_0.length co6) l0_0) ∧ Aside0 (wc.heap[gb181]? = some (.cells #[(.slice Ao6 l0_0.length co6)] 30 (0, 0))) ∧ Aside0 (wc.heap[gb182]? = some (.cells #[.int .i64 a1, .int .i64 x183001_4, .int .i64 x183002_4] 34 (0, 0))) ∧ Aside0 (Kept w wc (fun k_ => P0_0_ k_ ∨ k_ = gb181)) ∧ Aside0 (Below w0.heap.size w0 wc))
 case first =>
  have H := HC5.out
  clear HC5
  by_cases c11 : a1 = 8
  ·rw [if_pos c11] at H
   have c11b0 : (a1 == 8) = true := beq_iff_eq.mpr c11
   have c11b1 : (a1 != 8) = false := bne_eq_false_iff_eq.mpr c11
   clear c11
   (first | rw [c11b0] | (simp only [i64_w, i32_w]; rw [c11b0]) | skip)
   obtain ⟨ji12, hji12⟩ : ∃ j_ : Int, (mn a2 a3) = j_ := ⟨_, rfl⟩
   replace H : (impl_Pool_add.j0 k l0_0 a1 ji12 (mx a2 a3)) = some r := by first | (rw [hji12] at H; exact H) | (simp only [hji12] at H ⊢; exact H)
   have hji12_ : (if a3 < a2 then a3 else a2) = ji12 := hji12
   obtain ⟨ji13, hji13⟩ : ∃ j_ : Int, (mx a2 a3) = j_ := ⟨_, rfl⟩
   replace H : (impl_Pool_add.j0 k l0_0 a1 ji12 ji13) = some r := by first | (rw [hji13] at H; exact H) | (simp only [hji13] at H ⊢; exact H)
   have hji13_ : (if a2 < a3 then a3 else a2) = ji13 := hji13
   have H' := Aside0.mk H
   clear H
   have hnb14 := NB182_181.out
   have hnc14 := NB181_182.out
   have hcz15_0 : w8.cell? ⟨gb182, 0, none⟩ = some (.int .i64 0) := (blk_cell BK182.out 0).trans rfl
   have hcz15_1 : w8.cell? ⟨gb182, 1, none⟩ = some (.int .i64 0) := (blk_cell BK182.out 1).trans rfl
   have hcz15_2 : w8.cell? ⟨gb182, 2, none⟩ = some (.int .i64 0) := (blk_cell BK182.out 2).trans rfl
   have hfz15_0 := blk_frozen BK182.out 0
   have hfz15_1 := blk_frozen BK182.out 1
   have hfz15_2 := blk_frozen BK182.out 2
   go_wp2
   go_meet
   case rel => exact ⟨_, (ji12), (ji13), H', ⟨by first | omega | exact Nat.le_refl _⟩, ⟨zr (Kd.R_mono (Kd.R_far (p := ⟨gb182, 2, none⟩) (Kd.R_far (p := ⟨gb182, 1, none⟩) (Kd.R_far (p := ⟨gb182, 2, none⟩) (Kd.R_far (p := ⟨gb182, 1, none⟩) (Kd.R_far (p := ⟨gb182, 0, none⟩) (Kd.R_mono HO0_0.out (fun k_ hk => (⟨hk, hk.2⟩ : _ ∧ k_ ≠ gb182))) (fun _ hk => hk.2) (.int .i64 a1)) (fun _ hk => hk.2) (.int .i64 a2)) (fun _ hk => hk.2) (.int .i64 a3)) (fun _ hk => hk.2) (.int .i64 ji12)) (fun _ hk => hk.2) (.int .i64 ji13)) (fun _ hk => ⟨hk.1.1, hk.1.2⟩))⟩, ⟨zf BK181.out⟩, ⟨by (with_reducible repeat (first | refine blk_drewN ?_ _ | refine blk_drew ?_ | refine blk_alloc ?_ _)); refine blk_put (cs := #[.int .i64 a1, .int .i64 ji12, .int .i64 a3]) ?_ 2 _ rfl; (with_reducible repeat (first | refine blk_drewN ?_ _ | refine blk_drew ?_ | refine blk_alloc ?_ _)); refine blk_put (cs := #[.int .i64 a1, .int .i64 a2, .int .i64 a3]) ?_ 1 _ rfl; (with_reducible repeat (first | refine blk_drewN ?_ _ | refine blk_drew ?_ | refine blk_alloc ?_ _)); refine blk_put (cs := #[.int .i64 a1, .int .i64 a2, .int .i64 0]) ?_ 2 _ rfl; (with_reducible repeat (first | refine blk_drewN ?_ _ | refine blk_drew ?_ | refine blk_alloc ?_ _)); refine blk_put (cs := #[.int .i64 a1, .int .i64 0, .int .i64 0]) ?_ 1 _ rfl; (with_reducible repeat (first | refine blk_drewN ?_ _ | refine blk_drew ?_ | refine blk_alloc ?_ _)); refine blk_put (cs := #[.int .i64 0, .int .i64 0, .int .i64 0]) ?_ 0 _ rfl; (with_reducible repeat (first | refine blk_drewN ?_ _ | refine blk_drew ?_ | refine blk_alloc ?_ _)); exact BK182.out⟩, ⟨zk HK.out⟩, ⟨zb HB.out⟩⟩
  ·rw [if_neg c11] at H
   have c11b0 : (a1 == 8) = false := beq_eq_false_iff_ne.mpr c11
   have c11b1 : (a1 != 8) = true := bne_iff_ne.mpr c11
   (first | rw [c11b0] | (simp only [i64_w, i32_w]; rw [c11b0]) | skip)
   have H' := Aside0.mk H
   clear H
   go_wp2
   go_meet
   case rel => exact ⟨_, (a2), (a3), H', ⟨by first | omega | exact Nat.le_refl _⟩, ⟨zr (Kd.R_mono (Kd.R_far (p := ⟨gb182, 2, none⟩) (Kd.R_far (p := ⟨gb182, 1, none⟩) (Kd.R_far (p := ⟨gb182, 0, none⟩) (Kd.R_mono HO0_0.out (fun k_ hk => (⟨hk, hk.2⟩ : _ ∧ k_ ≠ gb182))) (fun _ hk => hk.2) (.int .i64 a1)) (fun _ hk => hk.2) (.int .i64 a2)) (fun _ hk => hk.2) (.int .i64 a3)) (fun _ hk => ⟨hk.1.1, hk.1.2⟩))⟩, ⟨zf BK181.out⟩, ⟨by (with_reducible repeat (first | refine blk_drewN ?_ _ | refine blk_drew ?_ | refine blk_alloc ?_ _)); refine blk_put (cs := #[.int .i64 a1, .int .i64 a2, .int .i64 0]) ?_ 2 _ rfl; (with_reducible repeat (first | refine blk_drewN ?_ _ | refine blk_drew ?_ | refine blk_alloc ?_ _)); refine blk_put (cs := #[.int .i64 a1, .int .i64 0, .int .i64 0]) ?_ 1 _ rfl; (with_reducible repeat (first | refine blk_drewN ?_ _ | refine blk_drew ?_ | refine blk_alloc ?_ _)); refine blk_put (cs := #[.int .i64 0, .int .i64 0, .int .i64 0]) ?_ 0 _ rfl; (with_reducible repeat (first | refine blk_drewN ?_ _ | refine blk_drew ?_ | refine blk_alloc ?_ _)); exact BK182.out⟩, ⟨zk HK.out⟩, ⟨zb HB.out⟩⟩
 case rest =>
  clear HC5
  try clear c1
  try clear p2
  try clear c6
  try clear c9
  try clear c11
  try clear c11b0
  try clear c11b1
  try clear c14
  try clear hcz10_0
  try clear hcz10_1
  try clear hcz10_2
  try clear hcz15_0
  try clear hcz15_1
  try clear hcz15_2
  try clear hfz10_0
  try clear hfz10_1
  try clear hfz10_2
  try clear hfz15_0
  try clear hfz15_1
  try clear hfz15_2
  obtain ⟨kq, x183001_4, x183002_4, HA, HJ4, HO_182000, BK181, BK182, HK, HB⟩ := hcut
  cases kq with
  | zero => exact absurd HA.out (by simp [impl_Pool_add.j0])
  | succ kj4 =>
   have H := HA.out
   clear HA
   simp only [impl_Pool_add.j0] at H
   replace H := Option.bind_eq_some_iff.mp H
   obtain ⟨t183, A160, H⟩ := H
   replace H : (if t183 = true then ((impl_Pool_find.f kj4 l0_0 a1 x183001_4 x183002_4).bind fun t184 => (if t184 ≥ 0 then (some (l0_0, t184)) else (if (l0_0.length : Int) ≥ 500 then (some (l0_0, -1)) else (if l0_0.length < 5864062014805 then (some (l0_0 ++ [(⟨a1, x183001_4, x183002_4⟩ : S34)], wrap64 (((l0_0 ++ [(⟨a1, x183001_4, x183002_4⟩ : S34)]).length : Int) - 1))) else (none))))) else (some (l0_0, -1))) = some r := H
   have A16 := Aside0.mk A160
   clear A160
   by_cases c17 : t183 = true
   ·subst c17
    have H1 : ((impl_Pool_find.f kj4 l0_0 a1 x183001_4 x183002_4).bind fun t184 => (if t184 ≥ 0 then (some (l0_0, t184)) else (if (l0_0.length : Int) ≥ 500 then (some (l0_0, -1)) else (if l0_0.length < 5864062014805 then (some (l0_0 ++ [(⟨a1, x183001_4, x183002_4⟩ : S34)], wrap64 (((l0_0 ++ [(⟨a1, x183001_4, x183002_4⟩ : S34)]).length : Int) - 1))) else (none))))) = some r := by rw [if_pos rfl] at H; exact H
    clear H
    have H := H1
    clear H1
    replace H := Option.bind_eq_some_iff.mp H
    obtain ⟨t184, A180, H⟩ := H
    replace H : (if t184 ≥ 0 then (some (l0_0, t184)) else (if (l0_0.length : Int) ≥ 500 then (some (l0_0, -1)) else (if l0_0.length < 5864062014805 then (some (l0_0 ++ [(⟨a1, x183001_4, x183002_4⟩ : S34)], wrap64 (((l0_0 ++ [(⟨a1, x183001_4, x183002_4⟩ : S34)]).length : Int) - 1))) else (none)))) = some r := H
    have A18 := Aside0.mk A180
    clear A180
    by_cases c19 : t184 ≥ 0
    ·rw [if_pos c19] at H
     have c19b0 : decide (0 ≤ t184) = true := decide_eq_true c19
     clear c19
     obtain rfl := Option.some.inj H
     try go_wp2
     have n0_ := Aside0.mk (Kd.R_drew HO_182000.out)
     have n1_ := Aside0.mk (blk_drew BK181.out)
     have n2_ := Aside0.mk (blk_drew BK182.out)
     have n3_ := Aside0.mk (Kept.drew HK.out)
     have n4_ := Aside0.mk (below_drew1 HB.out)
     clear HO_182000
     clear BK181
     clear BK182
     clear HK
     clear HB
     have HO_182000 := n0_
     have BK181 := n1_
     have BK182 := n2_
     have HK := n3_
     have HB := n4_
     clear n0_ n1_ n2_ n3_ n4_
     refine start_ (n := 8) (S := fun w' => w'.cell? ⟨gb182, 0, none⟩ = some (.int .i64 a1) ∧ w'.cell? ⟨gb182, 1, none⟩ = some (.int .i64 x183001_4) ∧ w'.cell? ⟨gb182, 2, none⟩ = some (.int .i64 x183002_4) ∧ w'.cell? ⟨gb181, 0, none⟩ = some (.slice Ao6 l0_0.length co6)) (ds := []) #[false, false, false, false, false, false, false, false] (by kernel_rfl) rfl rfl ⟨(blk_cell BK182.out 0).trans rfl, (blk_cell BK182.out 1).trans rfl, (blk_cell BK182.out 2).trans rfl, (blk_cell BK181.out 0).trans rfl⟩ (fun hHeld => ?_); refine with_tabW impl_Pool_add.tab4 impl_Pool_add.bits4 (fun HT_ HW_ => ?_)
     generalize wc.drew = w20 at HO_182000 BK181 BK182 HK HB hHeld ⊢
     refine pure_ (i := 1) (N := some 26) (v := ?_) (a' := ?_) #[false, true, false, false, false, false, false, false] rfl rfl (any_of HT_.out (by kernel_rfl)) (fun _ _ _ h => h) (Or.inl ⟨by rfl, ?_⟩) ?_ ?_
     rotate_left
     ·intro w'
      go_simp
      with_reducible rfl
     rotate_left
     ·simp only [Act.put, List.setIfInBounds_toArray, List.set_cons_zero, List.set_cons_succ, i64_w, i32_w]
      rfl
     refine pure_ (i := 2) (N := some 27) (v := ?_) (a' := ?_) #[false, true, true, false, false, false, false, false] rfl rfl (any_of HT_.out (by kernel_rfl)) (fun _ _ _ h => h) (Or.inl ⟨by rfl, ?_⟩) ?_ ?_
     rotate_left
     ·intro w'
      go_simp
      with_reducible rfl
     rotate_left
     ·simp only [Act.put, List.setIfInBounds_toArray, List.set_cons_zero, List.set_cons_succ, i64_w, i32_w]
      rfl
     refine pure_ (i := 3) (N := some 28) (v := ?_) (a' := ?_) #[false, true, true, true, false, false, false, false] rfl rfl (any_of HT_.out (by kernel_rfl)) (fun _ _ _ h => h) (Or.inl ⟨by rfl, ?_⟩) ?_ ?_
     rotate_left
     ·intro w'
      go_simp
      with_reducible rfl
     rotate_left
     ·simp only [Act.put, List.setIfInBounds_toArray, List.set_cons_zero, List.set_cons_succ, i64_w, i32_w]
      rfl
     refine take_ (i := 0) (N := some 25) (v := ?_) (a' := ?_) #[true, true, true, true, false, false, false, false] rfl rfl (take_ofW HT_.out HW_.out (by kernel_rfl)) (fun _ _ _ h => h) (Or.inl ⟨by rfl, ?_⟩) hHeld ?_ ?_
     rotate_left
     ·rintro w' ⟨s0, s1, s2, s3⟩
      go_simp
      with_reducible rfl
     rotate_left
     ·simp only [Act.put, List.setIfInBounds_toArray, List.set_cons_zero, List.set_cons_succ, i64_w, i32_w]
      rfl
     refine take_ (i := 4) (N := some 29) (v := ?_) (a' := ?_) #[true, true, true, true, true, false, false, false] rfl rfl (take_ofW HT_.out HW_.out (by kernel_rfl)) (fun _ _ _ h => h) (Or.inl ⟨by rfl, ?_⟩) hHeld ?_ ?_
     rotate_left
     ·rintro w' ⟨s0, s1, s2, s3⟩
      go_simp
      with_reducible rfl
     rotate_left
     ·simp only [Act.put, List.setIfInBounds_toArray, List.set_cons_zero, List.set_cons_succ, i64_w, i32_w]
      rfl
     refine pure_ (i := 5) (N := some 30) (v := ?_) (a' := ?_) #[true, true, true, true, true, true, false, false] rfl rfl (any_of HT_.out (by kernel_rfl)) (fun _ _ _ h => h) (Or.inl ⟨by rfl, ?_⟩) ?_ ?_
     rotate_left
     ·intro w'
      go_simp
      with_reducible rfl
     rotate_left
     ·simp only [Act.put, List.setIfInBounds_toArray, List.set_cons_zero, List.set_cons_succ, i64_w, i32_w]
      rfl
     refine one_ (i := 6) (N := some 31) #[true, true, true, true, true, true, true, false] rfl rfl (one_of HT_.out (by kernel_rfl)) (by decide) (fun K hK => ?_)
     refine goes_ Try.func83 (by kernel_rfl) rfl #[.agg #[.int .i64 a1, .int .i64 x183001_4, .int .i64 x183002_4], .int .i64 (l0_0.length : Int)] (by rfl) rfl rfl zl ?_
     with_reducible refine (impl_nodeOk.calls kj4 a1 x183001_4 x183002_4 (l0_0.length : Int) true _ A16.out).mono ?_
     rintro e w21 ⟨rfl, hb⟩
     refine ⟨_, rfl, ?_⟩
     have n0_ := Aside0.mk (Kd.R_below (zr HO_182000.out) hb)
     have n1_ := Aside0.mk (blk_below (zh BK181.out) hb)
     have n2_ := Aside0.mk (blk_below (zh BK182.out) hb)
     have n3_ := Aside0.mk (Kept.below (S := (fun k_ => P0_0_ k_ ∨ k_ = gb181)) (zk HK.out) hb)
     have n4_ := Aside0.mk (below_step (zb HB.out) hb)
     clear HO_182000
     clear BK181
     clear BK182
     clear HK
     clear HB
     have HO_182000 := n0_
     have BK181 := n1_
     have BK182 := n2_
     have HK := n3_
     have HB := n4_
     clear n0_ n1_ n2_ n3_ n4_
     (try clear hb)
     (try clear hb2)
     (try clear hk)
     (try clear hi)
     refine hK.out _ _ ⟨(blk_cell BK182.out 0).trans rfl, (blk_cell BK182.out 1).trans rfl, (blk_cell BK182.out 2).trans rfl, (blk_cell BK181.out 0).trans rfl⟩ (fun hHeld => ?_)
     clear hK K
     refine norm_ (a' := ?_) ?_ ?_
     rotate_left
     ·show Act.put _ (some 31) _ = _
      simp only [Act.put, List.setIfInBounds_toArray, List.set_cons_zero, List.set_cons_succ, i64_w, i32_w]
      rfl
     refine pure_ (i := 7) (N := some 32) (v := ?_) (a' := ?_) #[true, true, true, true, true, true, true, true] rfl rfl (any_of HT_.out (by kernel_rfl)) (fun _ _ _ h => h) (Or.inl ⟨by rfl, ?_⟩) ?_ ?_
     rotate_left
     ·intro w'
      go_simp
      with_reducible rfl
     rotate_left
     ·simp only [Act.put, List.setIfInBounds_toArray, List.set_cons_zero, List.set_cons_succ, i64_w, i32_w]
      rfl
     refine done_ (done_of HT_.out (by kernel_rfl)) ?_
     have hnb22 := NB182_181.out
     have hnc22 := NB181_182.out
     have hcz23_0 : w21.cell? ⟨gb182, 0, none⟩ = some (.int .i64 a1) := (blk_cell BK182.out 0).trans rfl
     have hcz23_1 : w21.cell? ⟨gb182, 1, none⟩ = some (.int .i64 x183001_4) := (blk_cell BK182.out 1).trans rfl
     have hcz23_2 : w21.cell? ⟨gb182, 2, none⟩ = some (.int .i64 x183002_4) := (blk_cell BK182.out 2).trans rfl
     have hfz23_0 := blk_frozen BK182.out 0
     have hfz23_1 := blk_frozen BK182.out 1
     have hfz23_2 := blk_frozen BK182.out 2
     try go_wp2_with (first | ((with_reducible refine gate_callee (f := 91) rfl ?_); refine goesL_ (some 35) rfl rfl Try.func91 (by kernel_rfl) rfl #[.pointer (some ⟨gb181, 0, none⟩), .agg #[.int .i64 a1, .int .i64 x183001_4, .int .i64 x183002_4]] rfl zl ?_; (with_reducible refine (impl_Pool_find.calls kj4 _ Ao6 co6 l0_0 a1 x183001_4 x183002_4 t184 _ ?side1 ?side2 ?side3 A18.out).mono ?_); (case side1 => exact zh BK181.out); (case side2 => exact zc (Kd.R_reads' HO_182000.out).2.2); (case side3 => exact (Kd.R_reads' HO_182000.out).2.1); rintro e w24 ⟨rfl, hb⟩; refine ⟨_, rfl, ?_⟩; have n0_ := Aside0.mk (Kd.R_below (zr HO_182000.out) hb); have n1_ := Aside0.mk (blk_below (zh BK181.out) hb); have n2_ := Aside0.mk (blk_below (zh BK182.out) hb); have n3_ := Aside0.mk (Kept.below (S := (fun k_ => P0_0_ k_ ∨ k_ = gb181)) (zk HK.out) hb); have n4_ := Aside0.mk (below_step (zb HB.out) hb); clear HO_182000; clear BK181; clear BK182; clear HK; clear HB; have HO_182000 := n0_; have BK181 := n1_; have BK182 := n2_; have HK := n3_; have HB := n4_; clear n0_ n1_ n2_ n3_ n4_; (try clear hb); (try clear hb2); (try clear hk); (try clear hi)))
     go_ret
     exact ⟨ze, zb HB.out, zk HK.out, _, zh BK181.out, by (with_reducible repeat (first | apply Kd.R_alloc | apply Kd.R_drewN | apply Kd.R_drew)); exact Kd.R_mono HO_182000.out (fun _ hk => hk.1)⟩
    ·rw [if_neg c19] at H
     have c19b0 : decide (0 ≤ t184) = false := decide_eq_false c19
     clear c19
     by_cases c25 : (l0_0.length : Int) ≥ 500
     ·rw [if_pos c25] at H
      have c25b0 : decide (500 ≤ (l0_0.length : Int)) = true := decide_eq_true c25
      have c25b1 : decide (500 ≤ l0_0.length) = true := decide_eq_true (by omega)
      clear c25
      obtain rfl := Option.some.inj H
      try go_wp2
      have n0_ := Aside0.mk (Kd.R_drew HO_182000.out)
      have n1_ := Aside0.mk (blk_drew BK181.out)
      have n2_ := Aside0.mk (blk_drew BK182.out)
      have n3_ := Aside0.mk (Kept.drew HK.out)
      have n4_ := Aside0.mk (below_drew1 HB.out)
      clear HO_182000
      clear BK181
      clear BK182
      clear HK
      clear HB
      have HO_182000 := n0_
      have BK181 := n1_
      have BK182 := n2_
      have HK := n3_
      have HB := n4_
      clear n0_ n1_ n2_ n3_ n4_
      refine start_ (n := 8) (S := fun w' => w'.cell? ⟨gb182, 0, none⟩ = some (.int .i64 a1) ∧ w'.cell? ⟨gb182, 1, none⟩ = some (.int .i64 x183001_4) ∧ w'.cell? ⟨gb182, 2, none⟩ = some (.int .i64 x183002_4) ∧ w'.cell? ⟨gb181, 0, none⟩ = some (.slice Ao6 l0_0.length co6)) (ds := []) #[false, false, false, false, false, false, false, false] (by kernel_rfl) rfl rfl ⟨(blk_cell BK182.out 0).trans rfl, (blk_cell BK182.out 1).trans rfl, (blk_cell BK182.out 2).trans rfl, (blk_cell BK181.out 0).trans rfl⟩ (fun hHeld => ?_); refine with_tabW impl_Pool_add.tab4 impl_Pool_add.bits4 (fun HT_ HW_ => ?_)
      generalize wc.drew = w26 at HO_182000 BK181 BK182 HK HB hHeld ⊢
      refine pure_ (i := 1) (N := some 26) (v := ?_) (a' := ?_) #[false, true, false, false, false, false, false, false] rfl rfl (any_of HT_.out (by kernel_rfl)) (fun _ _ _ h => h) (Or.inl ⟨by rfl, ?_⟩) ?_ ?_
      rotate_left
      ·intro w'
       go_simp
       with_reducible rfl
      rotate_left
      ·simp only [Act.put, List.setIfInBounds_toArray, List.set_cons_zero, List.set_cons_succ, i64_w, i32_w]
       rfl
      refine pure_ (i := 2) (N := some 27) (v := ?_) (a' := ?_) #[false, true, true, false, false, false, false, false] rfl rfl (any_of HT_.out (by kernel_rfl)) (fun _ _ _ h => h) (Or.inl ⟨by rfl, ?_⟩) ?_ ?_
      rotate_left
      ·intro w'
       go_simp
       with_reducible rfl
      rotate_left
      ·simp only [Act.put, List.setIfInBounds_toArray, List.set_cons_zero, List.set_cons_succ, i64_w, i32_w]
       rfl
      refine pure_ (i := 3) (N := some 28) (v := ?_) (a' := ?_) #[false, true, true, true, false, false, false, false] rfl rfl (any_of HT_.out (by kernel_rfl)) (fun _ _ _ h => h) (Or.inl ⟨by rfl, ?_⟩) ?_ ?_
      rotate_left
      ·intro w'
       go_simp
       with_reducible rfl
      rotate_left
      ·simp only [Act.put, List.setIfInBounds_toArray, List.set_cons_zero, List.set_cons_succ, i64_w, i32_w]
       rfl
      refine take_ (i := 0) (N := some 25) (v := ?_) (a' := ?_) #[true, true, true, true, false, false, false, false] rfl rfl (take_ofW HT_.out HW_.out (by kernel_rfl)) (fun _ _ _ h => h) (Or.inl ⟨by rfl, ?_⟩) hHeld ?_ ?_
      rotate_left
      ·rintro w' ⟨s0, s1, s2, s3⟩
       go_simp
       with_reducible rfl
      rotate_left
      ·simp only [Act.put, List.setIfInBounds_toArray, List.set_cons_zero, List.set_cons_succ, i64_w, i32_w]
       rfl
      refine take_ (i := 4) (N := some 29) (v := ?_) (a' := ?_) #[true, true, true, true, true, false, false, false] rfl rfl (take_ofW HT_.out HW_.out (by kernel_rfl)) (fun _ _ _ h => h) (Or.inl ⟨by rfl, ?_⟩) hHeld ?_ ?_
      rotate_left
      ·rintro w' ⟨s0, s1, s2, s3⟩
       go_simp
       with_reducible rfl
      rotate_left
      ·simp only [Act.put, List.setIfInBounds_toArray, List.set_cons_zero, List.set_cons_succ, i64_w, i32_w]
       rfl
      refine pure_ (i := 5) (N := some 30) (v := ?_) (a' := ?_) #[true, true, true, true, true, true, false, false] rfl rfl (any_of HT_.out (by kernel_rfl)) (fun _ _ _ h => h) (Or.inl ⟨by rfl, ?_⟩) ?_ ?_
      rotate_left
      ·intro w'
       go_simp
       with_reducible rfl
      rotate_left
      ·simp only [Act.put, List.setIfInBounds_toArray, List.set_cons_zero, List.set_cons_succ, i64_w, i32_w]
       rfl
      refine one_ (i := 6) (N := some 31) #[true, true, true, true, true, true, true, false] rfl rfl (one_of HT_.out (by kernel_rfl)) (by decide) (fun K hK => ?_)
      refine goes_ Try.func83 (by kernel_rfl) rfl #[.agg #[.int .i64 a1, .int .i64 x183001_4, .int .i64 x183002_4], .int .i64 (l0_0.length : Int)] (by rfl) rfl rfl zl ?_
      with_reducible refine (impl_nodeOk.calls kj4 a1 x183001_4 x183002_4 (l0_0.length : Int) true _ A16.out).mono ?_
      rintro e w27 ⟨rfl, hb⟩
      refine ⟨_, rfl, ?_⟩
      have n0_ := Aside0.mk (Kd.R_below (zr HO_182000.out) hb)
      have n1_ := Aside0.mk (blk_below (zh BK181.out) hb)
      have n2_ := Aside0.mk (blk_below (zh BK182.out) hb)
      have n3_ := Aside0.mk (Kept.below (S := (fun k_ => P0_0_ k_ ∨ k_ = gb181)) (zk HK.out) hb)
      have n4_ := Aside0.mk (below_step (zb HB.out) hb)
      clear HO_182000
      clear BK181
      clear BK182
      clear HK
      clear HB
      have HO_182000 := n0_
      have BK181 := n1_
      have BK182 := n2_
      have HK := n3_
      have HB := n4_
      clear n0_ n1_ n2_ n3_ n4_
      (try clear hb)
      (try clear hb2)
      (try clear hk)
      (try clear hi)
      refine hK.out _ _ ⟨(blk_cell BK182.out 0).trans rfl, (blk_cell BK182.out 1).trans rfl, (blk_cell BK182.out 2).trans rfl, (blk_cell BK181.out 0).trans rfl⟩ (fun hHeld => ?_)
      clear hK K
      refine norm_ (a' := ?_) ?_ ?_
      rotate_left
      ·show Act.put _ (some 31) _ = _
       simp only [Act.put, List.setIfInBounds_toArray, List.set_cons_zero, List.set_cons_succ, i64_w, i32_w]
       rfl
      refine pure_ (i := 7) (N := some 32) (v := ?_) (a' := ?_) #[true, true, true, true, true, true, true, true] rfl rfl (any_of HT_.out (by kernel_rfl)) (fun _ _ _ h => h) (Or.inl ⟨by rfl, ?_⟩) ?_ ?_
      rotate_left
      ·intro w'
       go_simp
       with_reducible rfl
      rotate_left
      ·simp only [Act.put, List.setIfInBounds_toArray, List.set_cons_zero, List.set_cons_succ, i64_w, i32_w]
       rfl
      refine done_ (done_of HT_.out (by kernel_rfl)) ?_
      have hnb28 := NB182_181.out
      have hnc28 := NB181_182.out
      have hcz29_0 : w27.cell? ⟨gb182, 0, none⟩ = some (.int .i64 a1) := (blk_cell BK182.out 0).trans rfl
      have hcz29_1 : w27.cell? ⟨gb182, 1, none⟩ = some (.int .i64 x183001_4) := (blk_cell BK182.out 1).trans rfl
      have hcz29_2 : w27.cell? ⟨gb182, 2, none⟩ = some (.int .i64 x183002_4) := (blk_cell BK182.out 2).trans rfl
      have hfz29_0 := blk_frozen BK182.out 0
      have hfz29_1 := blk_frozen BK182.out 1
      have hfz29_2 := blk_frozen BK182.out 2
      try go_wp2_with (first | ((with_reducible refine gate_callee (f := 91) rfl ?_); refine goesL_ (some 35) rfl rfl Try.func91 (by kernel_rfl) rfl #[.pointer (some ⟨gb181, 0, none⟩), .agg #[.int .i64 a1, .int .i64 x183001_4, .int .i64 x183002_4]] rfl zl ?_; (with_reducible refine (impl_Pool_find.calls kj4 _ Ao6 co6 l0_0 a1 x183001_4 x183002_4 t184 _ ?side1 ?side2 ?side3 A18.out).mono ?_); (case side1 => exact zh BK181.out); (case side2 => exact zc (Kd.R_reads' HO_182000.out).2.2); (case side3 => exact (Kd.R_reads' HO_182000.out).2.1); rintro e w30 ⟨rfl, hb⟩; refine ⟨_, rfl, ?_⟩; have n0_ := Aside0.mk (Kd.R_below (zr HO_182000.out) hb); have n1_ := Aside0.mk (blk_below (zh BK181.out) hb); have n2_ := Aside0.mk (blk_below (zh BK182.out) hb); have n3_ := Aside0.mk (Kept.below (S := (fun k_ => P0_0_ k_ ∨ k_ = gb181)) (zk HK.out) hb); have n4_ := Aside0.mk (below_step (zb HB.out) hb); clear HO_182000; clear BK181; clear BK182; clear HK; clear HB; have HO_182000 := n0_; have BK181 := n1_; have BK182 := n2_; have HK := n3_; have HB := n4_; clear n0_ n1_ n2_ n3_ n4_; (try clear hb); (try clear hb2); (try clear hk); (try clear hi); have hcz31_0 : w30.cell? ⟨gb181, 0, none⟩ = some (.slice Ao6 l0_0.length co6) := (blk_cell BK181.out 0).trans rfl; have hfz31_0 := blk_frozen BK181.out 0))
      go_ret
      exact ⟨ze, zb HB.out, zk HK.out, _, zh BK181.out, by (with_reducible repeat (first | apply Kd.R_alloc | apply Kd.R_drewN | apply Kd.R_drew)); exact Kd.R_mono HO_182000.out (fun _ hk => hk.1)⟩
     ·rw [if_neg c25] at H
      have c25b0 : decide (500 ≤ (l0_0.length : Int)) = false := decide_eq_false c25
      have c25b1 : decide (500 ≤ l0_0.length) = false := decide_eq_false (by omega)
      clear c25
      by_cases c32 : l0_0.length < 5864062014805
      ·rw [if_pos c32] at H
       have LMc32 := Aside0.mk c32
       clear c32
       obtain ⟨y185, hy185⟩ : ∃ y_ : List (S34), y_ = (l0_0 ++ [(⟨a1, x183001_4, x183002_4⟩ : S34)]) := ⟨_, rfl⟩
       replace H : (some (y185, wrap64 ((y185.length : Int) - 1))) = some r := by first | (rw [hy185]; with_reducible exact H) | (have H2_ := (Option.bind_some _ _).symm.trans H; rw [hy185]; with_reducible exact H2_) | (have H2_ := (Option.bind_some _ _).symm.trans H; with_reducible exact H2_) | with_reducible exact H | (rw [hy185]; exact H) | exact H
       have Ny185 := Aside0.mk hy185
       clear hy185
       obtain rfl := Option.some.inj H
       try go_wp2
       have n0_ := Aside0.mk (Kd.R_drew HO_182000.out)
       have n1_ := Aside0.mk (blk_drew BK181.out)
       have n2_ := Aside0.mk (blk_drew BK182.out)
       have n3_ := Aside0.mk (Kept.drew HK.out)
       have n4_ := Aside0.mk (below_drew1 HB.out)
       clear HO_182000
       clear BK181
       clear BK182
       clear HK
       clear HB
       have HO_182000 := n0_
       have BK181 := n1_
       have BK182 := n2_
       have HK := n3_
       have HB := n4_
       clear n0_ n1_ n2_ n3_ n4_
       refine start_ (n := 8) (S := fun w' => w'.cell? ⟨gb182, 0, none⟩ = some (.int .i64 a1) ∧ w'.cell? ⟨gb182, 1, none⟩ = some (.int .i64 x183001_4) ∧ w'.cell? ⟨gb182, 2, none⟩ = some (.int .i64 x183002_4) ∧ w'.cell? ⟨gb181, 0, none⟩ = some (.slice Ao6 l0_0.length co6)) (ds := []) #[false, false, false, false, false, false, false, false] (by kernel_rfl) rfl rfl ⟨(blk_cell BK182.out 0).trans rfl, (blk_cell BK182.out 1).trans rfl, (blk_cell BK182.out 2).trans rfl, (blk_cell BK181.out 0).trans rfl⟩ (fun hHeld => ?_); refine with_tabW impl_Pool_add.tab4 impl_Pool_add.bits4 (fun HT_ HW_ => ?_)
       generalize wc.drew = w33 at HO_182000 BK181 BK182 HK HB hHeld ⊢
       refine pure_ (i := 1) (N := some 26) (v := ?_) (a' := ?_) #[false, true, false, false, false, false, false, false] rfl rfl (any_of HT_.out (by kernel_rfl)) (fun _ _ _ h => h) (Or.inl ⟨by rfl, ?_⟩) ?_ ?_
       rotate_left
       ·intro w'
        go_simp
        with_reducible rfl
       rotate_left
       ·simp only [Act.put, List.setIfInBounds_toArray, List.set_cons_zero, List.set_cons_succ, i64_w, i32_w]
        rfl
       refine pure_ (i := 2) (N := some 27) (v := ?_) (a' := ?_) #[false, true, true, false, false, false, false, false] rfl rfl (any_of HT_.out (by kernel_rfl)) (fun _ _ _ h => h) (Or.inl ⟨by rfl, ?_⟩) ?_ ?_
       rotate_left
       ·intro w'
        go_simp
        with_reducible rfl
       rotate_left
       ·simp only [Act.put, List.setIfInBounds_toArray, List.set_cons_zero, List.set_cons_succ, i64_w, i32_w]
        rfl
       refine pure_ (i := 3) (N := some 28) (v := ?_) (a' := ?_) #[false, true, true, true, false, false, false, false] rfl rfl (any_of HT_.out (by kernel_rfl)) (fun _ _ _ h => h) (Or.inl ⟨by rfl, ?_⟩) ?_ ?_
       rotate_left
       ·intro w'
        go_simp
        with_reducible rfl
       rotate_left
       ·simp only [Act.put, List.setIfInBounds_toArray, List.set_cons_zero, List.set_cons_succ, i64_w, i32_w]
        rfl
       refine take_ (i := 0) (N := some 25) (v := ?_) (a' := ?_) #[true, true, true, true, false, false, false, false] rfl rfl (take_ofW HT_.out HW_.out (by kernel_rfl)) (fun _ _ _ h => h) (Or.inl ⟨by rfl, ?_⟩) hHeld ?_ ?_
       rotate_left
       ·rintro w' ⟨s0, s1, s2, s3⟩
        go_simp
        with_reducible rfl
       rotate_left
       ·simp only [Act.put, List.setIfInBounds_toArray, List.set_cons_zero, List.set_cons_succ, i64_w, i32_w]
        rfl
       refine take_ (i := 4) (N := some 29) (v := ?_) (a' := ?_) #[true, true, true, true, true, false, false, false] rfl rfl (take_ofW HT_.out HW_.out (by kernel_rfl)) (fun _ _ _ h => h) (Or.inl ⟨by rfl, ?_⟩) hHeld ?_ ?_
       rotate_left
       ·rintro w' ⟨s0, s1, s2, s3⟩
        go_simp
        with_reducible rfl
       rotate_left
       ·simp only [Act.put, List.setIfInBounds_toArray, List.set_cons_zero, List.set_cons_succ, i64_w, i32_w]
        rfl
       refine pure_ (i := 5) (N := some 30) (v := ?_) (a' := ?_) #[true, true, true, true, true, true, false, false] rfl rfl (any_of HT_.out (by kernel_rfl)) (fun _ _ _ h => h) (Or.inl ⟨by rfl, ?_⟩) ?_ ?_
       rotate_left
       ·intro w'
        go_simp
        with_reducible rfl
       rotate_left
       ·simp only [Act.put, List.setIfInBounds_toArray, List.set_cons_zero, List.set_cons_succ, i64_w, i32_w]
        rfl
       refine one_ (i := 6) (N := some 31) #[true, true, true, true, true, true, true, false] rfl rfl (one_of HT_.out (by kernel_rfl)) (by decide) (fun K hK => ?_)
       refine goes_ Try.func83 (by kernel_rfl) rfl #[.agg #[.int .i64 a1, .int .i64 x183001_4, .int .i64 x183002_4], .int .i64 (l0_0.length : Int)] (by rfl) rfl rfl zl ?_
       with_reducible refine (impl_nodeOk.calls kj4 a1 x183001_4 x183002_4 (l0_0.length : Int) true _ A16.out).mono ?_
       rintro e w34 ⟨rfl, hb⟩
       refine ⟨_, rfl, ?_⟩
       have n0_ := Aside0.mk (Kd.R_below (zr HO_182000.out) hb)
       have n1_ := Aside0.mk (blk_below (zh BK181.out) hb)
       have n2_ := Aside0.mk (blk_below (zh BK182.out) hb)
       have n3_ := Aside0.mk (Kept.below (S := (fun k_ => P0_0_ k_ ∨ k_ = gb181)) (zk HK.out) hb)
       have n4_ := Aside0.mk (below_step (zb HB.out) hb)
       clear HO_182000
       clear BK181
       clear BK182
       clear HK
       clear HB
       have HO_182000 := n0_
       have BK181 := n1_
       have BK182 := n2_
       have HK := n3_
       have HB := n4_
       clear n0_ n1_ n2_ n3_ n4_
       (try clear hb)
       (try clear hb2)
       (try clear hk)
       (try clear hi)
       refine hK.out _ _ ⟨(blk_cell BK182.out 0).trans rfl, (blk_cell BK182.out 1).trans rfl, (blk_cell BK182.out 2).trans rfl, (blk_cell BK181.out 0).trans rfl⟩ (fun hHeld => ?_)
       clear hK K
       refine norm_ (a' := ?_) ?_ ?_
       rotate_left
       ·show Act.put _ (some 31) _ = _
        simp only [Act.put, List.setIfInBounds_toArray, List.set_cons_zero, List.set_cons_succ, i64_w, i32_w]
        rfl
       refine pure_ (i := 7) (N := some 32) (v := ?_) (a' := ?_) #[true, true, true, true, true, true, true, true] rfl rfl (any_of HT_.out (by kernel_rfl)) (fun _ _ _ h => h) (Or.inl ⟨by rfl, ?_⟩) ?_ ?_
       rotate_left
       ·intro w'
        go_simp
        with_reducible rfl
       rotate_left
       ·simp only [Act.put, List.setIfInBounds_toArray, List.set_cons_zero, List.set_cons_succ, i64_w, i32_w]
        rfl
       refine done_ (done_of HT_.out (by kernel_rfl)) ?_
       have hnb35 := NB182_181.out
       have hnc35 := NB181_182.out
       have hcz36_0 : w34.cell? ⟨gb182, 0, none⟩ = some (.int .i64 a1) := (blk_cell BK182.out 0).trans rfl
       have hcz36_1 : w34.cell? ⟨gb182, 1, none⟩ = some (.int .i64 x183001_4) := (blk_cell BK182.out 1).trans rfl
       have hcz36_2 : w34.cell? ⟨gb182, 2, none⟩ = some (.int .i64 x183002_4) := (blk_cell BK182.out 2).trans rfl
       have hfz36_0 := blk_frozen BK182.out 0
       have hfz36_1 := blk_frozen BK182.out 1
       have hfz36_2 := blk_frozen BK182.out 2
       try go_wp2_with (first | ((with_reducible refine gate_callee (f := 91) rfl ?_); refine goesL_ (some 35) rfl rfl Try.func91 (by kernel_rfl) rfl #[.pointer (some ⟨gb181, 0, none⟩), .agg #[.int .i64 a1, .int .i64 x183001_4, .int .i64 x183002_4]] rfl zl ?_; (with_reducible refine (impl_Pool_find.calls kj4 _ Ao6 co6 l0_0 a1 x183001_4 x183002_4 t184 _ ?side1 ?side2 ?side3 A18.out).mono ?_); (case side1 => exact zh BK181.out); (case side2 => exact zc (Kd.R_reads' HO_182000.out).2.2); (case side3 => exact (Kd.R_reads' HO_182000.out).2.1); rintro e w37 ⟨rfl, hb⟩; refine ⟨_, rfl, ?_⟩; have n0_ := Aside0.mk (Kd.R_below (zr HO_182000.out) hb); have n1_ := Aside0.mk (blk_below (zh BK181.out) hb); have n2_ := Aside0.mk (blk_below (zh BK182.out) hb); have n3_ := Aside0.mk (Kept.below (S := (fun k_ => P0_0_ k_ ∨ k_ = gb181)) (zk HK.out) hb); have n4_ := Aside0.mk (below_step (zb HB.out) hb); clear HO_182000; clear BK181; clear BK182; clear HK; clear HB; have HO_182000 := n0_; have BK181 := n1_; have BK182 := n2_; have HK := n3_; have HB := n4_; clear n0_ n1_ n2_ n3_ n4_; (try clear hb); (try clear hb2); (try clear hk); (try clear hi); have hcz38_0 : w37.cell? ⟨gb181, 0, none⟩ = some (.slice Ao6 l0_0.length co6) := (blk_cell BK181.out 0).trans rfl; have hfz38_0 := blk_frozen BK181.out 0))
       have n0_ := Aside0.mk (Kd.R_drew HO_182000.out)
       have n1_ := Aside0.mk (blk_drew BK181.out)
       have n2_ := Aside0.mk (blk_drew BK182.out)
       have n3_ := Aside0.mk (Kept.drew HK.out)
       have n4_ := Aside0.mk (below_drew1 HB.out)
       clear HO_182000
       clear BK181
       clear BK182
       clear HK
       clear HB
       have HO_182000 := n0_
       have BK181 := n1_
       have BK182 := n2_
       have HK := n3_
       have HB := n4_
       clear n0_ n1_ n2_ n3_ n4_
       refine start_ (n := 11) (S := fun w' => w'.cell? ⟨gb181, 0, none⟩ = some (.slice Ao6 l0_0.length co6) ∧ w'.cell? ⟨gb182, 0, none⟩ = some (.int .i64 a1) ∧ w'.cell? ⟨gb182, 1, none⟩ = some (.int .i64 x183001_4) ∧ w'.cell? ⟨gb182, 2, none⟩ = some (.int .i64 x183002_4)) (ds := [10]) #[false, false, false, false, false, false, false, false, false, false, false] (by kernel_rfl) rfl rfl ⟨(blk_cell BK181.out 0).trans rfl, (blk_cell BK182.out 0).trans rfl, (blk_cell BK182.out 1).trans rfl, (blk_cell BK182.out 2).trans rfl⟩ (fun hHeld => ?_); refine with_tabW impl_Pool_add.tab11 impl_Pool_add.bits11 (fun HT_ HW_ => ?_)
       generalize w37.drew = w39 at HO_182000 BK181 BK182 HK HB hHeld ⊢
       refine pure_ (i := 0) (N := some 45) (v := ?_) (a' := ?_) #[true, false, false, false, false, false, false, false, false, false, false] rfl rfl (any_of HT_.out (by kernel_rfl)) (fun _ _ _ h => h) (Or.inl ⟨by rfl, ?_⟩) ?_ ?_
       rotate_left
       ·intro w'
        go_simp
        with_reducible rfl
       rotate_left
       ·simp only [Act.put, List.setIfInBounds_toArray, List.set_cons_zero, List.set_cons_succ, i64_w, i32_w]
        rfl
       refine pure_ (i := 1) (N := some 46) (v := ?_) (a' := ?_) #[true, true, false, false, false, false, false, false, false, false, false] rfl rfl (any_of HT_.out (by kernel_rfl)) (fun _ _ _ h => h) (Or.inl ⟨by rfl, ?_⟩) ?_ ?_
       rotate_left
       ·intro w'
        go_simp
        with_reducible rfl
       rotate_left
       ·simp only [Act.put, List.setIfInBounds_toArray, List.set_cons_zero, List.set_cons_succ, i64_w, i32_w]
        rfl
       refine pure_ (i := 2) (N := some 47) (v := ?_) (a' := ?_) #[true, true, true, false, false, false, false, false, false, false, false] rfl rfl (any_of HT_.out (by kernel_rfl)) (fun _ _ _ h => h) (Or.inl ⟨by rfl, ?_⟩) ?_ ?_
       rotate_left
       ·intro w'
        go_simp
        with_reducible rfl
       rotate_left
       ·simp only [Act.put, List.setIfInBounds_toArray, List.set_cons_zero, List.set_cons_succ, i64_w, i32_w]
        rfl
       refine pure_ (i := 3) (N := some 48) (v := ?_) (a' := ?_) #[true, true, true, true, false, false, false, false, false, false, false] rfl rfl (any_of HT_.out (by kernel_rfl)) (fun _ _ _ h => h) (Or.inl ⟨by rfl, ?_⟩) ?_ ?_
       rotate_left
       ·intro w'
        go_simp
        with_reducible rfl
       rotate_left
       ·simp only [Act.put, List.setIfInBounds_toArray, List.set_cons_zero, List.set_cons_succ, i64_w, i32_w]
        rfl
       refine take_ (i := 4) (N := some 49) (v := ?_) (a' := ?_) #[true, true, true, true, true, false, false, false, false, false, false] rfl rfl (take_ofW HT_.out HW_.out (by kernel_rfl)) (fun _ _ _ h => h) (Or.inl ⟨by rfl, ?_⟩) hHeld ?_ ?_
       rotate_left
       ·rintro w' ⟨s0, s1, s2, s3⟩
        go_simp
        with_reducible rfl
       rotate_left
       ·simp only [Act.put, List.setIfInBounds_toArray, List.set_cons_zero, List.set_cons_succ, i64_w, i32_w]
        rfl
       refine take_ (i := 5) (N := some 50) (v := ?_) (a' := ?_) #[true, true, true, true, true, true, false, false, false, false, false] rfl rfl (take_ofW HT_.out HW_.out (by kernel_rfl)) (fun _ _ _ h => h) (Or.inl ⟨by rfl, ?_⟩) hHeld ?_ ?_
       rotate_left
       ·rintro w' ⟨s0, s1, s2, s3⟩
        go_simp
        with_reducible rfl
       rotate_left
       ·simp only [Act.put, List.setIfInBounds_toArray, List.set_cons_zero, List.set_cons_succ, i64_w, i32_w]
        rfl
       refine one_ (i := 6) (N := some 51) #[true, true, true, true, true, true, true, false, false, false, false] rfl rfl (one_of HT_.out (by kernel_rfl)) (by decide) (fun K hK => ?_)
       refine value_ (w1 := ?_) (v := ?_) (by rfl) rfl ?_ ?_
       rotate_left 2
       ·go_simp
        constructor
        ·rfl
        ·rfl
       refine hK.out _ _ ⟨(blk_cell (blk_alloc BK181.out _) 0).trans rfl, (blk_cell (blk_alloc BK182.out _) 0).trans rfl, (blk_cell (blk_alloc BK182.out _) 1).trans rfl, (blk_cell (blk_alloc BK182.out _) 2).trans rfl⟩ (fun hHeld => ?_)
       clear hK K
       refine norm_ (a' := ?_) ?_ ?_
       rotate_left
       ·show Act.put _ (some 51) _ = _
        simp only [Act.put, List.setIfInBounds_toArray, List.set_cons_zero, List.set_cons_succ, i64_w, i32_w]
        rfl
       refine one_ (i := 7) (N := some 52) #[true, true, true, true, true, true, true, true, false, false, false] rfl rfl (one_of HT_.out (by kernel_rfl)) (by decide) (fun K hK => ?_)
       refine Kd.R_append_step k34 (w0 := w0) w0.heap.size (by rfl) (.tmp 49) (.tmp 51) 28 34 (.agg #[(.int .i64 0), (.int .i64 0), (.int .i64 0)]) 24 rfl Try.underlying28 info34 rfl (by decide) (by omega) (.slice Ao6 l0_0.length co6) l0_0 (⟨a1, x183001_4, x183002_4⟩ : S34) [.int .i64 a1, .int .i64 x183001_4, .int .i64 x183002_4] (fun k_ => (P0_0_ k_ ∨ w.heap.size ≤ k_) ∧ k_ ≠ gb182) (fun _ => False) rfl rfl ?aP (fun _ hk => hk.elim) ?aF ?aO ?aB ?aS ?aL ?_
       (case aP => exact k34_mkM _ _ _ (⟨a1, x183001_4, x183002_4⟩ : S34))
       (case aB => exact (zb HB.out))
       (case aF => exact (fun k_ hk => ⟨(.inr (Nat.le_trans (by first | exact HK.out.1 | exact (show Kept w _ (fun k_ => P0_0_ k_ ∨ k_ = gb181) from zk HK.out).1) hk)), Kd.freshB (zh BK182.out) k_ hk⟩))
       (case aO => exact (zr HO_182000.out))
       (case aS => exact (below_size (zb HB.out)))
       (case aL => have := LMc32.out; omega)
       intro v186 w40 ho hb hg hat
       rw [← Ny185.out] at ho
       have n0_ := Aside0.mk (blk_grown (zh BK181.out) hg (Kd.R_ne HO_182000.out BK181.out (by decide)))
       have n1_ := Aside0.mk (blk_grown (zh BK182.out) hg (Kd.R_away HO_182000.out (fun _ hk => hk.2)))
       have n2_ := Aside0.mk (hb)
       have n3_ := Aside0.mk (Kept.of_grown (S := (fun k_ => P0_0_ k_ ∨ k_ = gb181)) hg (zk HK.out) (fun k_ e_ => ((HO_182000.out.1 k_ e_).1).imp Or.inl id))
       have n4_ := Aside0.mk (ho)
       clear BK181
       clear BK182
       clear HB
       clear HK
       clear HO_182000
       have BK181 := n0_
       have BK182 := n1_
       have HB := n2_
       have HK := n3_
       have HO187 := n4_
       clear n0_ n1_ n2_ n3_ n4_
       clear ho hb hg hat
       obtain ⟨Ao41, co41, eo41⟩ := Kd.R_slice HO187.out
       (first | subst eo41 | (injection eo41 with f1_ f2_ f3_; have f4_ := f1_.symm; have f5_ := f3_.symm; clear f1_ f2_ f3_; subst f4_; subst f5_))
       refine hK.out _ _ ⟨(blk_cell BK181.out 0).trans rfl, (blk_cell BK182.out 0).trans rfl, (blk_cell BK182.out 1).trans rfl, (blk_cell BK182.out 2).trans rfl⟩ (fun hHeld => ?_)
       clear hK K
       refine norm_ (a' := ?_) ?_ ?_
       rotate_left
       ·show Act.put _ (some 52) _ = _
        simp only [Act.put, List.setIfInBounds_toArray, List.set_cons_zero, List.set_cons_succ, i64_w, i32_w]
        rfl
       refine pure_ (i := 8) (N := some 53) (v := ?_) (a' := ?_) #[true, true, true, true, true, true, true, true, true, false, false] rfl rfl (any_of HT_.out (by kernel_rfl)) (fun _ _ _ h => h) (Or.inl ⟨by rfl, ?_⟩) ?_ ?_
       rotate_left
       ·intro w'
        go_simp
        with_reducible rfl
       rotate_left
       ·simp only [Act.put, List.setIfInBounds_toArray, List.set_cons_zero, List.set_cons_succ, i64_w, i32_w]
        rfl
       refine pure_ (i := 9) (N := some 54) (v := ?_) (a' := ?_) #[true, true, true, true, true, true, true, true, true, true, false] rfl rfl (any_of HT_.out (by kernel_rfl)) (fun _ _ _ h => h) (Or.inl ⟨by rfl, ?_⟩) ?_ ?_
       rotate_left
       ·intro w'
        go_simp
        with_reducible rfl
       rotate_left
       ·simp only [Act.put, List.setIfInBounds_toArray, List.set_cons_zero, List.set_cons_succ, i64_w, i32_w]
        rfl
       refine last_ (i := 10) (N := none) #[true, true, true, true, true, true, true, true, true, true, true] rfl rfl (one_of HT_.out (by kernel_rfl)) (by decide) (fun K hK => ?_)
       have hs42 : w40.cell? ⟨gb181, 0, none⟩ = some (.slice Ao6 l0_0.length co6) := (blk_cell BK181.out 0).trans rfl
       have hfs42 := blk_frozen BK181.out 0
       have hns42_1 := NB182_181.out
       have hms42_1 := NB181_182.out
       refine skip_ (w1 := ?_) (by rfl) rfl ?_ ?_
       rotate_left
       ·go_simp
        rfl
       refine hK.out _ _ ?_
       clear hK K
       refine done_ (done_of HT_.out (by kernel_rfl)) ?_
       have hcz43_0 : w40.cell? ⟨gb181, 0, none⟩ = some (.slice Ao6 l0_0.length co6) := (blk_cell BK181.out 0).trans rfl
       have hfz43_0 := blk_frozen BK181.out 0
       try go_wp2
       go_ret
       exact ⟨ze, zb HB.out, zk HK.out, _, by (with_reducible repeat (first | refine blk_drewN ?_ _ | refine blk_drew ?_ | refine blk_alloc ?_ _)); refine blk_put (cs := #[.slice Ao6 l0_0.length co6]) ?_ 0 _ rfl; (with_reducible repeat (first | refine blk_drewN ?_ _ | refine blk_drew ?_ | refine blk_alloc ?_ _)); exact BK181.out, by (with_reducible repeat (first | apply Kd.R_alloc | apply Kd.R_drewN | apply Kd.R_drew)); exact Kd.R_mono (Kd.R_far (p := ⟨gb181, 0, none⟩) (Kd.R_far1 HO187.out rfl (Kd.R_ne HO187.out BK181.out (by decide))) (fun _ hk => hk.2) _) (fun _ hk => hk.1.1)⟩
      ·rw [if_neg c32] at H
       exact absurd H (by simp)
   ·replace c17 := Bool.eq_false_iff.mpr c17
    subst c17
    have H1 : (some (l0_0, -1)) = some r := by rw [if_neg (show ¬ (false = true) by decide)] at H; exact H
    clear H
    have H := H1
    clear H1
    obtain rfl := Option.some.inj H
    try go_wp2
    have n0_ := Aside0.mk (Kd.R_drew HO_182000.out)
    have n1_ := Aside0.mk (blk_drew BK181.out)
    have n2_ := Aside0.mk (blk_drew BK182.out)
    have n3_ := Aside0.mk (Kept.drew HK.out)
    have n4_ := Aside0.mk (below_drew1 HB.out)
    clear HO_182000
    clear BK181
    clear BK182
    clear HK
    clear HB
    have HO_182000 := n0_
    have BK181 := n1_
    have BK182 := n2_
    have HK := n3_
    have HB := n4_
    clear n0_ n1_ n2_ n3_ n4_
    refine start_ (n := 8) (S := fun w' => w'.cell? ⟨gb182, 0, none⟩ = some (.int .i64 a1) ∧ w'.cell? ⟨gb182, 1, none⟩ = some (.int .i64 x183001_4) ∧ w'.cell? ⟨gb182, 2, none⟩ = some (.int .i64 x183002_4) ∧ w'.cell? ⟨gb181, 0, none⟩ = some (.slice Ao6 l0_0.length co6)) (ds := []) #[false, false, false, false, false, false, false, false] (by kernel_rfl) rfl rfl ⟨(blk_cell BK182.out 0).trans rfl, (blk_cell BK182.out 1).trans rfl, (blk_cell BK182.out 2).trans rfl, (blk_cell BK181.out 0).trans rfl⟩ (fun hHeld => ?_); refine with_tabW impl_Pool_add.tab4 impl_Pool_add.bits4 (fun HT_ HW_ => ?_)
    generalize wc.drew = w44 at HO_182000 BK181 BK182 HK HB hHeld ⊢
    refine pure_ (i := 1) (N := some 26) (v := ?_) (a' := ?_) #[false, true, false, false, false, false, false, false] rfl rfl (any_of HT_.out (by kernel_rfl)) (fun _ _ _ h => h) (Or.inl ⟨by rfl, ?_⟩) ?_ ?_
    rotate_left
    ·intro w'
     go_simp
     with_reducible rfl
    rotate_left
    ·simp only [Act.put, List.setIfInBounds_toArray, List.set_cons_zero, List.set_cons_succ, i64_w, i32_w]
     rfl
    refine pure_ (i := 2) (N := some 27) (v := ?_) (a' := ?_) #[false, true, true, false, false, false, false, false] rfl rfl (any_of HT_.out (by kernel_rfl)) (fun _ _ _ h => h) (Or.inl ⟨by rfl, ?_⟩) ?_ ?_
    rotate_left
    ·intro w'
     go_simp
     with_reducible rfl
    rotate_left
    ·simp only [Act.put, List.setIfInBounds_toArray, List.set_cons_zero, List.set_cons_succ, i64_w, i32_w]
     rfl
    refine pure_ (i := 3) (N := some 28) (v := ?_) (a' := ?_) #[false, true, true, true, false, false, false, false] rfl rfl (any_of HT_.out (by kernel_rfl)) (fun _ _ _ h => h) (Or.inl ⟨by rfl, ?_⟩) ?_ ?_
    rotate_left
    ·intro w'
     go_simp
     with_reducible rfl
    rotate_left
    ·simp only [Act.put, List.setIfInBounds_toArray, List.set_cons_zero, List.set_cons_succ, i64_w, i32_w]
     rfl
    refine take_ (i := 0) (N := some 25) (v := ?_) (a' := ?_) #[true, true, true, true, false, false, false, false] rfl rfl (take_ofW HT_.out HW_.out (by kernel_rfl)) (fun _ _ _ h => h) (Or.inl ⟨by rfl, ?_⟩) hHeld ?_ ?_
    rotate_left
    ·rintro w' ⟨s0, s1, s2, s3⟩
     go_simp
     with_reducible rfl
    rotate_left
    ·simp only [Act.put, List.setIfInBounds_toArray, List.set_cons_zero, List.set_cons_succ, i64_w, i32_w]
     rfl
    refine take_ (i := 4) (N := some 29) (v := ?_) (a' := ?_) #[true, true, true, true, true, false, false, false] rfl rfl (take_ofW HT_.out HW_.out (by kernel_rfl)) (fun _ _ _ h => h) (Or.inl ⟨by rfl, ?_⟩) hHeld ?_ ?_
    rotate_left
    ·rintro w' ⟨s0, s1, s2, s3⟩
     go_simp
     with_reducible rfl
    rotate_left
    ·simp only [Act.put, List.setIfInBounds_toArray, List.set_cons_zero, List.set_cons_succ, i64_w, i32_w]
     rfl
    refine pure_ (i := 5) (N := some 30) (v := ?_) (a' := ?_) #[true, true, true, true, true, true, false, false] rfl rfl (any_of HT_.out (by kernel_rfl)) (fun _ _ _ h => h) (Or.inl ⟨by rfl, ?_⟩) ?_ ?_
    rotate_left
    ·intro w'
     go_simp
     with_reducible rfl
    rotate_left
    ·simp only [Act.put, List.setIfInBounds_toArray, List.set_cons_zero, List.set_cons_succ, i64_w, i32_w]
     rfl
    refine one_ (i := 6) (N := some 31) #[true, true, true, true, true, true, true, false] rfl rfl (one_of HT_.out (by kernel_rfl)) (by decide) (fun K hK => ?_)
    refine goes_ Try.func83 (by kernel_rfl) rfl #[.agg #[.int .i64 a1, .int .i64 x183001_4, .int .i64 x183002_4], .int .i64 (l0_0.length : Int)] (by rfl) rfl rfl zl ?_
    with_reducible refine (impl_nodeOk.calls kj4 a1 x183001_4 x183002_4 (l0_0.length : Int) false _ A16.out).mono ?_
    rintro e w45 ⟨rfl, hb⟩
    refine ⟨_, rfl, ?_⟩
    have n0_ := Aside0.mk (Kd.R_below (zr HO_182000.out) hb)
    have n1_ := Aside0.mk (blk_below (zh BK181.out) hb)
    have n2_ := Aside0.mk (blk_below (zh BK182.out) hb)
    have n3_ := Aside0.mk (Kept.below (S := (fun k_ => P0_0_ k_ ∨ k_ = gb181)) (zk HK.out) hb)
    have n4_ := Aside0.mk (below_step (zb HB.out) hb)
    clear HO_182000
    clear BK181
    clear BK182
    clear HK
    clear HB
    have HO_182000 := n0_
    have BK181 := n1_
    have BK182 := n2_
    have HK := n3_
    have HB := n4_
    clear n0_ n1_ n2_ n3_ n4_
    (try clear hb)
    (try clear hb2)
    (try clear hk)
    (try clear hi)
    refine hK.out _ _ ⟨(blk_cell BK182.out 0).trans rfl, (blk_cell BK182.out 1).trans rfl, (blk_cell BK182.out 2).trans rfl, (blk_cell BK181.out 0).trans rfl⟩ (fun hHeld => ?_)
    clear hK K
    refine norm_ (a' := ?_) ?_ ?_
    rotate_left
    ·show Act.put _ (some 31) _ = _
     simp only [Act.put, List.setIfInBounds_toArray, List.set_cons_zero, List.set_cons_succ, i64_w, i32_w]
     rfl
    refine pure_ (i := 7) (N := some 32) (v := ?_) (a' := ?_) #[true, true, true, true, true, true, true, true] rfl rfl (any_of HT_.out (by kernel_rfl)) (fun _ _ _ h => h) (Or.inl ⟨by rfl, ?_⟩) ?_ ?_
    rotate_left
    ·intro w'
     go_simp
     with_reducible rfl
    rotate_left
    ·simp only [Act.put, List.setIfInBounds_toArray, List.set_cons_zero, List.set_cons_succ, i64_w, i32_w]
     rfl
    refine done_ (done_of HT_.out (by kernel_rfl)) ?_
    try go_wp2
    go_ret
    exact ⟨ze, zb HB.out, zk HK.out, _, zh BK181.out, by (with_reducible repeat (first | apply Kd.R_alloc | apply Kd.R_drewN | apply Kd.R_drew)); exact Kd.R_mono HO_182000.out (fun _ hk => hk.1)⟩



end Go.Proofs.Ytafahnellnfclaa.C
