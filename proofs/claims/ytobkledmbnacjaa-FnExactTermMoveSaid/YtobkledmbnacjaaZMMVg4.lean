import Derived.Test.YtobkledmbnacjaaZMMV0
import Derived.Test.YtobkledmbnacjaaZMMVg2
import Derived.Test.YtobkledmbnacjaaZMMVg3
section
-- Written by this session's program (wip/tools/gprint.py over the kit's print) out of the translation; Lean checks it.
namespace Go.Proofs.Ytobkledmbnacjaa.MV
open Go.RowKit Go.Proofs.YtobkledmbnacjaaW.PrintWords Go.Proofs.YtobkledmbnacjaaW.PrintLast Go.Proofs.YtobkledmbnacjaaW.PrintMore
attribute [local go_sem] max2_int min2_int max_two min_two max_three min_three max_four min_four   -- for this text's walks alone
set_option linter.unusedVariables false
set_option linter.unusedSimpArgs false
set_option maxRecDepth 100000


/-! ### impl_Pool_rebuilt: function 36 -/
def impl_Pool_rebuilt.f (k : Nat) (l0_0 : List (S55)) (a1_0 : Int) (a1_1 : Int) (a1_2 : Int) (l2 : List Int) : Option (List (S55) × Int) := (impl_count.f k a1_0).bind fun t265 => (if t265 = 0 then (impl_Pool_add.f k l0_0 a1_0 a1_1 0) else (if t265 = 1 then (if 0 ≤ a1_1 then (if a1_1 < (l2.length : Int) then (impl_Pool_add.f k l0_0 a1_0 (rd l2 a1_1) 0) else (none)) else (none)) else (if 0 ≤ a1_1 then (if a1_1 < (l2.length : Int) then (if 0 ≤ a1_2 then (if a1_2 < (l2.length : Int) then (impl_Pool_add.f k l0_0 a1_0 (rd l2 a1_1) (rd l2 a1_2)) else (none)) else (none)) else (none)) else (none))))
theorem impl_Pool_rebuilt.mono : ∀ a0 a1 a2 a3 a4 k, LeO (impl_Pool_rebuilt.f k a0 a1 a2 a3 a4) (impl_Pool_rebuilt.f (k + 1) a0 a1 a2 a3 a4) := by
 intro a0 a1 a2 a3 a4 k
 unfold impl_Pool_rebuilt.f
 repeat' first
   | (with_reducible exact impl_Pool_add.mono _ _ _ _ _)
   | (with_reducible exact impl_count.mono _ _)
   | (with_reducible exact LeO.refl _)
   | (with_reducible exact LeO.none _)
   | (with_reducible refine LeO.ite ?_ ?_)
   | (with_reducible refine LeO.bind ?_ (fun _ => ?_))
   | exact impl_count.mono _ _
   | exact LeO.none _
   | refine LeO.ite ?_ ?_
   | refine LeO.bind ?_ (fun _ => ?_)
def impl_Pool_rebuilt.T5 : Bool × List (List Nat × List Nat) := (true, [([], []), ([], []), ([1], [1]), ([], []), ([], []), ([4], [4]), ([3, 5], [3, 5]), ([6], [6]), ([0, 2, 7], [0, 2, 7]), ([8, 8, 0, 1, 2, 3, 4, 5, 6, 7, 8], [8])])
def impl_Pool_rebuilt.B5 : List Nat := [0, 0, 2, 0, 0, 16, 56, 120, 255, 511]
theorem impl_Pool_rebuilt.tab5 : rtab .any (opsOf Try.f36 5) = impl_Pool_rebuilt.T5 := by kernel_rfl
theorem impl_Pool_rebuilt.bits5 : waitsOk impl_Pool_rebuilt.T5.2 impl_Pool_rebuilt.B5 = true := by kernel_rfl
def impl_Pool_rebuilt.T6 : Bool × List (List Nat × List Nat) := (true, [([], []), ([], []), ([1], [1]), ([], []), ([], []), ([4], [4]), ([3, 5], [3, 5]), ([6], [6]), ([], []), ([], []), ([9], [9]), ([8, 10], [8, 10]), ([11], [11]), ([0, 2, 7, 12], [0, 2, 7, 12]), ([13, 13, 0, 1, 2, 3, 4, 5, 6, 7, 8, 9, 10, 11, 12, 13], [13])])
def impl_Pool_rebuilt.B6 : List Nat := [0, 0, 2, 0, 0, 16, 56, 120, 0, 0, 512, 1792, 3840, 8191, 16383]
theorem impl_Pool_rebuilt.tab6 : rtab .any (opsOf Try.f36 6) = impl_Pool_rebuilt.T6 := by kernel_rfl
theorem impl_Pool_rebuilt.bits6 : waitsOk impl_Pool_rebuilt.T6.2 impl_Pool_rebuilt.B6 = true := by kernel_rfl
set_option maxHeartbeats 8000000 in
set_option maxRecDepth 100000 in
theorem impl_Pool_rebuilt.calls (k : Nat) (g0_ : Nat) (P0_0_ : Nat → Prop) (u9000_ : Value) (l0_0 : List (S55)) (a1_0 : Int) (a1_1 : Int) (a1_2 : Int) (A2 : Option Addr) (c2 : Nat) (l2 : List Int) (r : List (S55) × Int) (w0 w : World) (hB : Below w0.heap.size w0 w) (hge : w0.heap.size ≤ g0_) (hbx : w.heap[g0_]? = some (.cells #[u9000_] 28 (0, 0))) (ho0_0 : Kd.R k55 55 w w0.heap.size P0_0_ u9000_ l0_0) (hr2 : Kd.C (Kd.int .i64) w A2 l2.length l2) (hc2 : l2.length ≤ c2) (h : impl_Pool_rebuilt.f k l0_0 a1_0 a1_1 a1_2 l2 = some r) :
  Calls Try.prog 36 #[.pointer (some ⟨g0_, 0, none⟩), .agg #[.int .i64 a1_0, .int .i64 a1_1, .int .i64 a1_2], .slice A2 l2.length c2] w fun e w' => e = .returned (.int .i64 r.2) ∧ Below w0.heap.size w0 w' ∧ Kept w w' (fun k_ => P0_0_ k_ ∨ k_ = g0_) ∧ ∃ u_ : Value, w'.heap[g0_]? = some (.cells #[u_] 28 (0, 0)) ∧ Kd.R k55 55 w' w0.heap.size (fun k_ => P0_0_ k_ ∨ w.heap.size ≤ k_) u_ r.1 := by
 have HWB_ := Aside0.mk hB
 have HGE_ := Aside0.mk hge
 have HO_ := Aside0.mk ho0_0
 obtain ⟨A0_0, c0_0, eo_⟩ := Kd.R_slice ho0_0
 subst eo_
 have hk0_ := hbx
 have hr0_0 := (Kd.R_reads' ho0_0).2.2
 have hc0_0 := (Kd.R_reads' ho0_0).2.1
 clear hB hge hbx ho0_0
 have hu55 := Try.underlying55
 have HR0_0 := Aside0.mk hr0_0
 have HC0_0 := Aside0.mk hc0_0
 clear hr0_0 hc0_0
 have HR2 := Aside0.mk hr2
 have HC2 := Aside0.mk hc2
 clear hr2 hc2
 have BK0 := Aside0.mk hk0_
 clear hk0_
 have HB := Aside0.mk (Below.refl w.heap.size w)
 have H : ((impl_count.f k a1_0).bind fun t259 => (if t259 = 0 then (impl_Pool_add.f k l0_0 a1_0 a1_1 0) else (if t259 = 1 then (if 0 ≤ a1_1 then (if a1_1 < (l2.length : Int) then (impl_Pool_add.f k l0_0 a1_0 (rd l2 a1_1) 0) else (none)) else (none)) else (if 0 ≤ a1_1 then (if a1_1 < (l2.length : Int) then (if 0 ≤ a1_2 then (if a1_2 < (l2.length : Int) then (impl_Pool_add.f k l0_0 a1_0 (rd l2 a1_1) (rd l2 a1_2)) else (none)) else (none)) else (none)) else (none))))) = some r := h
 clear h
 replace H := Option.bind_eq_some_iff.mp H
 obtain ⟨t259, A40, H⟩ := H
 replace H : (if t259 = 0 then (impl_Pool_add.f k l0_0 a1_0 a1_1 0) else (if t259 = 1 then (if 0 ≤ a1_1 then (if a1_1 < (l2.length : Int) then (impl_Pool_add.f k l0_0 a1_0 (rd l2 a1_1) 0) else (none)) else (none)) else (if 0 ≤ a1_1 then (if a1_1 < (l2.length : Int) then (if 0 ≤ a1_2 then (if a1_2 < (l2.length : Int) then (impl_Pool_add.f k l0_0 a1_0 (rd l2 a1_1) (rd l2 a1_2)) else (none)) else (none)) else (none)) else (none)))) = some r := H
 have A4 := Aside0.mk A40
 clear A40
 by_cases c5 : t259 = 0
 ·rw [if_pos c5] at H
  have c5b0 : (t259 == 0) = true := beq_iff_eq.mpr c5
  have c5b1 : (t259 != 0) = false := bne_eq_false_iff_eq.mpr c5
  clear c5
  have A6 := Aside0.mk H
  clear H
  go_enter Try.func36, Try.ntmps36
  go_wp2_with (first | ((with_reducible refine gate_dst (N := 4) rfl ?_); refine box_event ?hg (N := 4) ?hd (cs := #[.int .i64 a1_0, .int .i64 a1_1, .int .i64 a1_2]) (t := 55) ?hr ?_; (case hd => rfl); (case hg => rfl); (case hr => first | (go_simp; done) | (go_simp; rfl)); intro gb264 hg w6 hbox hb; have n0_ := Aside0.mk (blk_below (zh BK0.out) hb); have n1_ := Aside0.mk (below_step (zb HB.out) hb); have n2_ := Aside0.mk (hbox); have n3_ := Aside0.mk ((by rw [hg]; exact (below_size (zb HB.out)) : w.heap.size ≤ gb264)); have n4_ := Aside0.mk ((by rw [hg]; exact (below_size (zb HB.out)) : w.heap.size ≤ gb264)); have n5_ := Aside0.mk ((by rw [hg]; exact Nat.ne_of_lt (blk_lt (zh BK0.out)) : g0_ ≠ gb264)); have n6_ := Aside0.mk ((by rw [hg]; exact Nat.ne_of_gt (blk_lt (zh BK0.out)) : gb264 ≠ g0_)); clear BK0; clear HB; have BK0 := n0_; have HB := n1_; have BK264 := n2_; have GW264 := n3_; have GE264 := n4_; have NB0_264 := n5_; have NB264_0 := n6_; clear n0_ n1_ n2_ n3_ n4_ n5_ n6_; clear hb hbox hg; have hnb7 := NB264_0.out; have hnc7 := NB0_264.out; have hcz8_0 : w6.cell? ⟨gb264, 0, none⟩ = some (.int .i64 a1_0) := (blk_cell BK264.out 0).trans rfl; have hcz8_1 : w6.cell? ⟨gb264, 1, none⟩ = some (.int .i64 a1_1) := (blk_cell BK264.out 1).trans rfl; have hcz8_2 : w6.cell? ⟨gb264, 2, none⟩ = some (.int .i64 a1_2) := (blk_cell BK264.out 2).trans rfl; have hfz8_0 := blk_frozen BK264.out 0; have hfz8_1 := blk_frozen BK264.out 1; have hfz8_2 := blk_frozen BK264.out 2) | (go_at_call 63; (with_reducible refine (impl_count.calls k a1_0 t259 _ A4.out).mono ?_); rintro e w' ⟨rfl, ⟨nd, rfl⟩⟩; (try first | exact ⟨rfl, _, World.drewN_drewN _ _ _⟩ | exact ⟨rfl, _, Eq.trans (World.drewN_drewN _ _ _) (congrArg (World.drewN _) (Nat.add_assoc _ _ _))⟩)) | ((with_reducible refine gate_callee (f := 64) rfl ?_); refine goesL_ (some 17) rfl rfl Try.func64 (by kernel_rfl) rfl #[.pointer (some ⟨g0_, 0, none⟩), .int .i64 a1_0, .int .i64 a1_1, .int .i64 0] rfl zl ?_; (with_reducible refine (impl_Pool_add.calls k g0_ P0_0_ _ l0_0 a1_0 a1_1 0 r w0 _ (below_step HWB_.out (zb HB.out)) HGE_.out (zh BK0.out) (Kd.R_below HO_.out (zb HB.out)) A6.out).mono ?_); rintro e w916 ⟨rfl, hb, hkp, u_, hbx2, ho2⟩; refine ⟨_, rfl, ?_⟩; have K1_ := Aside0.mk (Kept.then_ (Kept.of_below (W := _) (show Below w.heap.size w _ from (zb HB.out)) (fun k_ => P0_0_ k_ ∨ k_ = g0_)) hkp (fun _ h_ => .inl h_)); have O1_ := Aside0.mk (Kd.R_mono (ok' := fun k_ => P0_0_ k_ ∨ w.heap.size ≤ k_) ho2 (fun _ h_ => h_.imp id (fun q_ => Nat.le_trans (below_size (show Below w.heap.size w _ from (zb HB.out))) q_))); have B1_ := Aside0.mk hb; have X1_ := Aside0.mk hbx2; clear hb hkp hbx2 ho2))
  repeat (go_quiet (first | ((with_reducible refine gate_dst (N := 4) rfl ?_); refine box_event ?hg (N := 4) ?hd (cs := #[.int .i64 a1_0, .int .i64 a1_1, .int .i64 a1_2]) (t := 55) ?hr ?_; (case hd => rfl); (case hg => rfl); (case hr => first | (go_simp; done) | (go_simp; rfl)); intro gb264 hg w6 hbox hb; have n0_ := Aside0.mk (blk_below (zh BK0.out) hb); have n1_ := Aside0.mk (below_step (zb HB.out) hb); have n2_ := Aside0.mk (hbox); have n3_ := Aside0.mk ((by rw [hg]; exact (below_size (zb HB.out)) : w.heap.size ≤ gb264)); have n4_ := Aside0.mk ((by rw [hg]; exact (below_size (zb HB.out)) : w.heap.size ≤ gb264)); have n5_ := Aside0.mk ((by rw [hg]; exact Nat.ne_of_lt (blk_lt (zh BK0.out)) : g0_ ≠ gb264)); have n6_ := Aside0.mk ((by rw [hg]; exact Nat.ne_of_gt (blk_lt (zh BK0.out)) : gb264 ≠ g0_)); clear BK0; clear HB; have BK0 := n0_; have HB := n1_; have BK264 := n2_; have GW264 := n3_; have GE264 := n4_; have NB0_264 := n5_; have NB264_0 := n6_; clear n0_ n1_ n2_ n3_ n4_ n5_ n6_; clear hb hbox hg; have hnb7 := NB264_0.out; have hnc7 := NB0_264.out; have hcz8_0 : w6.cell? ⟨gb264, 0, none⟩ = some (.int .i64 a1_0) := (blk_cell BK264.out 0).trans rfl; have hcz8_1 : w6.cell? ⟨gb264, 1, none⟩ = some (.int .i64 a1_1) := (blk_cell BK264.out 1).trans rfl; have hcz8_2 : w6.cell? ⟨gb264, 2, none⟩ = some (.int .i64 a1_2) := (blk_cell BK264.out 2).trans rfl; have hfz8_0 := blk_frozen BK264.out 0; have hfz8_1 := blk_frozen BK264.out 1; have hfz8_2 := blk_frozen BK264.out 2) | (go_at_call 63; (with_reducible refine (impl_count.calls k a1_0 t259 _ A4.out).mono ?_); rintro e w' ⟨rfl, ⟨nd, rfl⟩⟩; (try first | exact ⟨rfl, _, World.drewN_drewN _ _ _⟩ | exact ⟨rfl, _, Eq.trans (World.drewN_drewN _ _ _) (congrArg (World.drewN _) (Nat.add_assoc _ _ _))⟩))); try go_wp2_with (first | ((with_reducible refine gate_dst (N := 4) rfl ?_); refine box_event ?hg (N := 4) ?hd (cs := #[.int .i64 a1_0, .int .i64 a1_1, .int .i64 a1_2]) (t := 55) ?hr ?_; (case hd => rfl); (case hg => rfl); (case hr => first | (go_simp; done) | (go_simp; rfl)); intro gb264 hg w6 hbox hb; have n0_ := Aside0.mk (blk_below (zh BK0.out) hb); have n1_ := Aside0.mk (below_step (zb HB.out) hb); have n2_ := Aside0.mk (hbox); have n3_ := Aside0.mk ((by rw [hg]; exact (below_size (zb HB.out)) : w.heap.size ≤ gb264)); have n4_ := Aside0.mk ((by rw [hg]; exact (below_size (zb HB.out)) : w.heap.size ≤ gb264)); have n5_ := Aside0.mk ((by rw [hg]; exact Nat.ne_of_lt (blk_lt (zh BK0.out)) : g0_ ≠ gb264)); have n6_ := Aside0.mk ((by rw [hg]; exact Nat.ne_of_gt (blk_lt (zh BK0.out)) : gb264 ≠ g0_)); clear BK0; clear HB; have BK0 := n0_; have HB := n1_; have BK264 := n2_; have GW264 := n3_; have GE264 := n4_; have NB0_264 := n5_; have NB264_0 := n6_; clear n0_ n1_ n2_ n3_ n4_ n5_ n6_; clear hb hbox hg; have hnb7 := NB264_0.out; have hnc7 := NB0_264.out; have hcz8_0 : w6.cell? ⟨gb264, 0, none⟩ = some (.int .i64 a1_0) := (blk_cell BK264.out 0).trans rfl; have hcz8_1 : w6.cell? ⟨gb264, 1, none⟩ = some (.int .i64 a1_1) := (blk_cell BK264.out 1).trans rfl; have hcz8_2 : w6.cell? ⟨gb264, 2, none⟩ = some (.int .i64 a1_2) := (blk_cell BK264.out 2).trans rfl; have hfz8_0 := blk_frozen BK264.out 0; have hfz8_1 := blk_frozen BK264.out 1; have hfz8_2 := blk_frozen BK264.out 2) | (go_at_call 63; (with_reducible refine (impl_count.calls k a1_0 t259 _ A4.out).mono ?_); rintro e w' ⟨rfl, ⟨nd, rfl⟩⟩; (try first | exact ⟨rfl, _, World.drewN_drewN _ _ _⟩ | exact ⟨rfl, _, Eq.trans (World.drewN_drewN _ _ _) (congrArg (World.drewN _) (Nat.add_assoc _ _ _))⟩)) | ((with_reducible refine gate_callee (f := 64) rfl ?_); refine goesL_ (some 17) rfl rfl Try.func64 (by kernel_rfl) rfl #[.pointer (some ⟨g0_, 0, none⟩), .int .i64 a1_0, .int .i64 a1_1, .int .i64 0] rfl zl ?_; (with_reducible refine (impl_Pool_add.calls k g0_ P0_0_ _ l0_0 a1_0 a1_1 0 r w0 _ (below_step HWB_.out (zb HB.out)) HGE_.out (zh BK0.out) (Kd.R_below HO_.out (zb HB.out)) A6.out).mono ?_); rintro e w916 ⟨rfl, hb, hkp, u_, hbx2, ho2⟩; refine ⟨_, rfl, ?_⟩; have K1_ := Aside0.mk (Kept.then_ (Kept.of_below (W := _) (show Below w.heap.size w _ from (zb HB.out)) (fun k_ => P0_0_ k_ ∨ k_ = g0_)) hkp (fun _ h_ => .inl h_)); have O1_ := Aside0.mk (Kd.R_mono (ok' := fun k_ => P0_0_ k_ ∨ w.heap.size ≤ k_) ho2 (fun _ h_ => h_.imp id (fun q_ => Nat.le_trans (below_size (show Below w.heap.size w _ from (zb HB.out))) q_))); have B1_ := Aside0.mk hb; have X1_ := Aside0.mk hbx2; clear hb hkp hbx2 ho2)))
  go_ret
  exact ⟨ze, B1_.out, K1_.out, _, zh X1_.out, O1_.out⟩
 ·rw [if_neg c5] at H
  have c5b0 : (t259 == 0) = false := beq_eq_false_iff_ne.mpr c5
  have c5b1 : (t259 != 0) = true := bne_iff_ne.mpr c5
  by_cases c11 : t259 = 1
  ·rw [if_pos c11] at H
   have c11b0 : (t259 == 1) = true := beq_iff_eq.mpr c11
   have c11b1 : (t259 != 1) = false := bne_eq_false_iff_eq.mpr c11
   clear c11
   by_cases c12 : 0 ≤ a1_1
   ·rw [if_pos c12] at H
    have c12b0 : decide (0 ≤ a1_1) = true := decide_eq_true c12
    clear c12
    by_cases c13 : a1_1 < (l2.length : Int)
    ·rw [if_pos c13] at H
     have c13b0 : decide (a1_1 < (l2.length : Int)) = true := decide_eq_true c13
     clear c13
     have A14 := Aside0.mk H
     clear H
     go_enter Try.func36, Try.ntmps36
     try go_wp2_with (first | ((with_reducible refine gate_dst (N := 4) rfl ?_); refine box_event ?hg (N := 4) ?hd (cs := #[.int .i64 a1_0, .int .i64 a1_1, .int .i64 a1_2]) (t := 55) ?hr ?_; (case hd => rfl); (case hg => rfl); (case hr => first | (go_simp; done) | (go_simp; rfl)); intro gb258 hg w15 hbox hb; have n0_ := Aside0.mk (blk_below (zh BK0.out) hb); have n1_ := Aside0.mk (below_step (zb HB.out) hb); have n2_ := Aside0.mk (hbox); have n3_ := Aside0.mk ((by rw [hg]; exact (below_size (zb HB.out)) : w.heap.size ≤ gb258)); have n4_ := Aside0.mk ((by rw [hg]; exact (below_size (zb HB.out)) : w.heap.size ≤ gb258)); have n5_ := Aside0.mk ((by rw [hg]; exact Nat.ne_of_lt (blk_lt (zh BK0.out)) : g0_ ≠ gb258)); have n6_ := Aside0.mk ((by rw [hg]; exact Nat.ne_of_gt (blk_lt (zh BK0.out)) : gb258 ≠ g0_)); clear BK0; clear HB; have BK0 := n0_; have HB := n1_; have BK258 := n2_; have GW258 := n3_; have GE258 := n4_; have NB0_258 := n5_; have NB258_0 := n6_; clear n0_ n1_ n2_ n3_ n4_ n5_ n6_; clear hb hbox hg; have hnb16 := NB258_0.out; have hnc16 := NB0_258.out; have hcz17_0 : w15.cell? ⟨gb258, 0, none⟩ = some (.int .i64 a1_0) := (blk_cell BK258.out 0).trans rfl; have hcz17_1 : w15.cell? ⟨gb258, 1, none⟩ = some (.int .i64 a1_1) := (blk_cell BK258.out 1).trans rfl; have hcz17_2 : w15.cell? ⟨gb258, 2, none⟩ = some (.int .i64 a1_2) := (blk_cell BK258.out 2).trans rfl; have hfz17_0 := blk_frozen BK258.out 0; have hfz17_1 := blk_frozen BK258.out 1; have hfz17_2 := blk_frozen BK258.out 2) | ((with_reducible refine gate_callee (f := 63) rfl ?_); refine goesL_ (some 9) rfl rfl Try.func63 (by kernel_rfl) rfl #[.int .i64 a1_0] rfl zl ?_; (with_reducible refine (impl_count.calls k a1_0 t259 _ A4.out).mono ?_); rintro e w' ⟨rfl, ⟨nd, rfl⟩⟩; refine ⟨_, rfl, ?_⟩))
     (try (rw [drewN_self w15]; generalize hq_ : World.drewN w15 _ = w15; have n0_ : Aside0 (w15.heap[g0_]? = some (.cells #[.slice A0_0 l0_0.length c0_0] 28 (0, 0))) := ⟨by rw [← hq_]; exact (zh BK0.out)⟩; have n1_ : Aside0 (w15.heap[gb258]? = some (.cells #[.int .i64 a1_0, .int .i64 a1_1, .int .i64 a1_2] 55 (0, 0))) := ⟨by rw [← hq_]; exact (zh BK258.out)⟩; have n2_ : Aside0 (Below w.heap.size w w15) := ⟨by rw [← hq_]; exact (zb HB.out)⟩; clear BK0 BK258 HB hq_; have BK0 := n0_; have BK258 := n1_; have HB := n2_; clear n0_ n1_ n2_))
     have n0_ := Aside0.mk (blk_drew BK0.out)
     have n1_ := Aside0.mk (blk_drew BK258.out)
     have n2_ := Aside0.mk (below_drew1 HB.out)
     clear BK0
     clear BK258
     clear HB
     have BK0 := n0_
     have BK258 := n1_
     have HB := n2_
     clear n0_ n1_ n2_
     have p261 : 0 ≤ (a1_1 : Int) := of_decide_eq_true (by first | (with_reducible assumption) | assumption)
     have q261 : a1_1 < (l2.length : Int) := of_decide_eq_true (by first | (with_reducible assumption) | assumption)
     obtain ⟨ad261, e261, hx261_0⟩ := Kd.at_int HR2.out a1_1 p261 q261
     have hw261_0 := hx261_0
     cases e261
     replace hx261_0 := (HB.out.cell (World.block_lt_of_cell? w _ hx261_0)).trans hx261_0
     replace p261 := eq_true p261
     replace q261 := eq_true q261
     refine start_ (n := 10) (S := fun w' => w'.cell? ⟨gb258, 0, none⟩ = some (.int .i64 a1_0) ∧ w'.cell? ⟨gb258, 1, none⟩ = some (.int .i64 a1_1) ∧ w'.cell? ⟨gb258, 2, none⟩ = some (.int .i64 a1_2) ∧ w'.cell? (ad261.add (a1_1).toNat) = some (.int .i64 (rd l2 a1_1))) (ds := [8]) #[false, false, false, false, false, false, false, false, false, false] (by kernel_rfl) rfl rfl ⟨(blk_cell BK258.out 0).trans rfl, (blk_cell BK258.out 1).trans rfl, (blk_cell BK258.out 2).trans rfl, ((HB.out.cell (World.block_lt_of_cell? w _ hw261_0)).trans hw261_0)⟩ (fun hHeld => ?_); refine with_tabW impl_Pool_rebuilt.tab5 impl_Pool_rebuilt.bits5 (fun HT_ HW_ => ?_)
     generalize w15.drew = w18 at BK0 BK258 HB hx261_0 hHeld ⊢
     refine pure_ (i := 0) (N := some 20) (v := ?_) (a' := ?_) #[true, false, false, false, false, false, false, false, false, false] rfl rfl (any_of HT_.out (by kernel_rfl)) (fun _ _ _ h => h) (Or.inl ⟨by rfl, ?_⟩) ?_ ?_
     rotate_left
     ·intro w'
      go_simp
      with_reducible rfl
     rotate_left
     ·simp only [Act.put, List.setIfInBounds_toArray, List.set_cons_zero, List.set_cons_succ, i64_w, i32_w]
      rfl
     refine pure_ (i := 1) (N := some 21) (v := ?_) (a' := ?_) #[true, true, false, false, false, false, false, false, false, false] rfl rfl (any_of HT_.out (by kernel_rfl)) (fun _ _ _ h => h) (Or.inl ⟨by rfl, ?_⟩) ?_ ?_
     rotate_left
     ·intro w'
      go_simp
      with_reducible rfl
     rotate_left
     ·simp only [Act.put, List.setIfInBounds_toArray, List.set_cons_zero, List.set_cons_succ, i64_w, i32_w]
      rfl
     refine pure_ (i := 3) (N := some 23) (v := ?_) (a' := ?_) #[true, true, false, true, false, false, false, false, false, false] rfl rfl (any_of HT_.out (by kernel_rfl)) (fun _ _ _ h => h) (Or.inl ⟨by rfl, ?_⟩) ?_ ?_
     rotate_left
     ·intro w'
      go_simp
      with_reducible rfl
     rotate_left
     ·simp only [Act.put, List.setIfInBounds_toArray, List.set_cons_zero, List.set_cons_succ, i64_w, i32_w]
      rfl
     refine pure_ (i := 4) (N := some 24) (v := ?_) (a' := ?_) #[true, true, false, true, true, false, false, false, false, false] rfl rfl (any_of HT_.out (by kernel_rfl)) (fun _ _ _ h => h) (Or.inl ⟨by rfl, ?_⟩) ?_ ?_
     rotate_left
     ·intro w'
      go_simp
      with_reducible rfl
     rotate_left
     ·simp only [Act.put, List.setIfInBounds_toArray, List.set_cons_zero, List.set_cons_succ, i64_w, i32_w]
      rfl
     refine take_ (i := 2) (N := some 22) (v := ?_) (a' := ?_) #[true, true, true, true, true, false, false, false, false, false] rfl rfl (take_ofW HT_.out HW_.out (by kernel_rfl)) (fun _ _ _ h => h) (Or.inl ⟨by rfl, ?_⟩) hHeld ?_ ?_
     rotate_left
     ·rintro w' ⟨s0, s1, s2, s3⟩
      go_simp
      with_reducible rfl
     rotate_left
     ·simp only [Act.put, List.setIfInBounds_toArray, List.set_cons_zero, List.set_cons_succ, i64_w, i32_w]
      rfl
     refine take_ (i := 5) (N := some 25) (v := ?_) (a' := ?_) #[true, true, true, true, true, true, false, false, false, false] rfl rfl (take_ofW HT_.out HW_.out (by kernel_rfl)) (fun _ _ _ h => h) (Or.inl ⟨by rfl, ?_⟩) hHeld ?_ ?_
     rotate_left
     ·rintro w' ⟨s0, s1, s2, s3⟩
      go_simp
      with_reducible rfl
     rotate_left
     ·simp only [Act.put, List.setIfInBounds_toArray, List.set_cons_zero, List.set_cons_succ, i64_w, i32_w]
      rfl
     refine pure_ (i := 6) (N := some 26) (v := ?_) (a' := ?_) #[true, true, true, true, true, true, true, false, false, false] rfl rfl (any_of HT_.out (by kernel_rfl)) (fun _ _ _ h => h) (Or.inl ⟨by rfl, ?_⟩) ?_ ?_
     rotate_left
     ·intro w'
      go_simp
      with_reducible rfl
     rotate_left
     ·simp only [Act.put, List.setIfInBounds_toArray, List.set_cons_zero, List.set_cons_succ, i64_w, i32_w]
      rfl
     refine take_ (i := 7) (N := some 27) (v := ?_) (a' := ?_) #[true, true, true, true, true, true, true, true, false, false] rfl rfl (take_ofW HT_.out HW_.out (by kernel_rfl)) (fun _ _ _ h => h) (Or.inl ⟨by rfl, ?_⟩) hHeld ?_ ?_
     rotate_left
     ·rintro w' ⟨s0, s1, s2, s3⟩
      go_simp
      with_reducible rfl
     rotate_left
     ·simp only [Act.put, List.setIfInBounds_toArray, List.set_cons_zero, List.set_cons_succ, i64_w, i32_w]
      rfl
     refine last_ (i := 8) (N := some 28) #[true, true, true, true, true, true, true, true, true, false] rfl rfl (one_of HT_.out (by kernel_rfl)) (by decide) (fun K hK => ?_)
     refine goes_ Try.func64 (by kernel_rfl) rfl #[.pointer (some ⟨g0_, 0, none⟩), .int .i64 a1_0, .int .i64 (rd l2 a1_1), .int .i64 0] (by rfl) rfl rfl zl ?_
     with_reducible refine (impl_Pool_add.calls k g0_ P0_0_ _ l0_0 a1_0 (rd l2 a1_1) 0 r w0 _ (below_step HWB_.out (zb HB.out)) HGE_.out (zh BK0.out) (Kd.R_below HO_.out (zb HB.out)) A14.out).mono ?_
     rintro e w916 ⟨rfl, hb, hkp, u_, hbx2, ho2⟩
     refine ⟨_, rfl, ?_⟩
     have K1_ := Aside0.mk (Kept.then_ (Kept.of_below (W := _) (show Below w.heap.size w _ from (zb HB.out)) (fun k_ => P0_0_ k_ ∨ k_ = g0_)) hkp (fun _ h_ => .inl h_))
     have O1_ := Aside0.mk (Kd.R_mono (ok' := fun k_ => P0_0_ k_ ∨ w.heap.size ≤ k_) ho2 (fun _ h_ => h_.imp id (fun q_ => Nat.le_trans (below_size (show Below w.heap.size w _ from (zb HB.out))) q_)))
     have B1_ := Aside0.mk hb
     have X1_ := Aside0.mk hbx2
     clear hb hkp hbx2 ho2
     refine hK.out _ _ ?_
     clear hK K
     refine norm_ (a' := ?_) ?_ ?_
     rotate_left
     ·show Act.put _ (some 28) _ = _
      simp only [Act.put, List.setIfInBounds_toArray, List.set_cons_zero, List.set_cons_succ, i64_w, i32_w]
      rfl
     refine pure_ (i := 9) (N := some 6) (v := ?_) (a' := ?_) #[true, true, true, true, true, true, true, true, true, true] rfl rfl (any_of HT_.out (by kernel_rfl)) (fun _ _ _ h => h) (Or.inl ⟨by rfl, ?_⟩) ?_ ?_
     rotate_left
     ·intro w'
      go_simp
      with_reducible rfl
     rotate_left
     ·simp only [Act.put, List.setIfInBounds_toArray, List.set_cons_zero, List.set_cons_succ, i64_w, i32_w]
      rfl
     refine done_ (done_of HT_.out (by kernel_rfl)) ?_
     try go_wp2
     go_ret
     exact ⟨ze, B1_.out, K1_.out, _, zh X1_.out, O1_.out⟩
    ·rw [if_neg c13] at H
     exact absurd H (by simp)
   ·rw [if_neg c12] at H
    exact absurd H (by simp)
  ·rw [if_neg c11] at H
   have c11b0 : (t259 == 1) = false := beq_eq_false_iff_ne.mpr c11
   have c11b1 : (t259 != 1) = true := bne_iff_ne.mpr c11
   by_cases c20 : 0 ≤ a1_1
   ·rw [if_pos c20] at H
    have c20b0 : decide (0 ≤ a1_1) = true := decide_eq_true c20
    clear c20
    by_cases c21 : a1_1 < (l2.length : Int)
    ·rw [if_pos c21] at H
     have c21b0 : decide (a1_1 < (l2.length : Int)) = true := decide_eq_true c21
     clear c21
     by_cases c22 : 0 ≤ a1_2
     ·rw [if_pos c22] at H
      have c22b0 : decide (0 ≤ a1_2) = true := decide_eq_true c22
      clear c22
      by_cases c23 : a1_2 < (l2.length : Int)
      ·rw [if_pos c23] at H
       have c23b0 : decide (a1_2 < (l2.length : Int)) = true := decide_eq_true c23
       clear c23
       have A24 := Aside0.mk H
       clear H
       go_enter Try.func36, Try.ntmps36
       try go_wp2_with (first | ((with_reducible refine gate_dst (N := 4) rfl ?_); refine box_event ?hg (N := 4) ?hd (cs := #[.int .i64 a1_0, .int .i64 a1_1, .int .i64 a1_2]) (t := 55) ?hr ?_; (case hd => rfl); (case hg => rfl); (case hr => first | (go_simp; done) | (go_simp; rfl)); intro gb258 hg w25 hbox hb; have n0_ := Aside0.mk (blk_below (zh BK0.out) hb); have n1_ := Aside0.mk (below_step (zb HB.out) hb); have n2_ := Aside0.mk (hbox); have n3_ := Aside0.mk ((by rw [hg]; exact (below_size (zb HB.out)) : w.heap.size ≤ gb258)); have n4_ := Aside0.mk ((by rw [hg]; exact (below_size (zb HB.out)) : w.heap.size ≤ gb258)); have n5_ := Aside0.mk ((by rw [hg]; exact Nat.ne_of_lt (blk_lt (zh BK0.out)) : g0_ ≠ gb258)); have n6_ := Aside0.mk ((by rw [hg]; exact Nat.ne_of_gt (blk_lt (zh BK0.out)) : gb258 ≠ g0_)); clear BK0; clear HB; have BK0 := n0_; have HB := n1_; have BK258 := n2_; have GW258 := n3_; have GE258 := n4_; have NB0_258 := n5_; have NB258_0 := n6_; clear n0_ n1_ n2_ n3_ n4_ n5_ n6_; clear hb hbox hg; have hnb26 := NB258_0.out; have hnc26 := NB0_258.out; have hcz27_0 : w25.cell? ⟨gb258, 0, none⟩ = some (.int .i64 a1_0) := (blk_cell BK258.out 0).trans rfl; have hcz27_1 : w25.cell? ⟨gb258, 1, none⟩ = some (.int .i64 a1_1) := (blk_cell BK258.out 1).trans rfl; have hcz27_2 : w25.cell? ⟨gb258, 2, none⟩ = some (.int .i64 a1_2) := (blk_cell BK258.out 2).trans rfl; have hfz27_0 := blk_frozen BK258.out 0; have hfz27_1 := blk_frozen BK258.out 1; have hfz27_2 := blk_frozen BK258.out 2) | ((with_reducible refine gate_callee (f := 63) rfl ?_); refine goesL_ (some 9) rfl rfl Try.func63 (by kernel_rfl) rfl #[.int .i64 a1_0] rfl zl ?_; (with_reducible refine (impl_count.calls k a1_0 t259 _ A4.out).mono ?_); rintro e w' ⟨rfl, ⟨nd, rfl⟩⟩; refine ⟨_, rfl, ?_⟩))
       (try (rw [drewN_self w25]; generalize hq_ : World.drewN w25 _ = w25; have n0_ : Aside0 (w25.heap[g0_]? = some (.cells #[.slice A0_0 l0_0.length c0_0] 28 (0, 0))) := ⟨by rw [← hq_]; exact (zh BK0.out)⟩; have n1_ : Aside0 (w25.heap[gb258]? = some (.cells #[.int .i64 a1_0, .int .i64 a1_1, .int .i64 a1_2] 55 (0, 0))) := ⟨by rw [← hq_]; exact (zh BK258.out)⟩; have n2_ : Aside0 (Below w.heap.size w w25) := ⟨by rw [← hq_]; exact (zb HB.out)⟩; clear BK0 BK258 HB hq_; have BK0 := n0_; have BK258 := n1_; have HB := n2_; clear n0_ n1_ n2_))
       have n0_ := Aside0.mk (blk_drew BK0.out)
       have n1_ := Aside0.mk (blk_drew BK258.out)
       have n2_ := Aside0.mk (below_drew1 HB.out)
       clear BK0
       clear BK258
       clear HB
       have BK0 := n0_
       have BK258 := n1_
       have HB := n2_
       clear n0_ n1_ n2_
       have p263 : 0 ≤ (a1_1 : Int) := of_decide_eq_true (by first | (with_reducible assumption) | assumption)
       have q263 : a1_1 < (l2.length : Int) := of_decide_eq_true (by first | (with_reducible assumption) | assumption)
       obtain ⟨ad263, e263, hx263_0⟩ := Kd.at_int HR2.out a1_1 p263 q263
       have hw263_0 := hx263_0
       cases e263
       replace hx263_0 := (HB.out.cell (World.block_lt_of_cell? w _ hx263_0)).trans hx263_0
       replace p263 := eq_true p263
       replace q263 := eq_true q263
       have p264 : 0 ≤ (a1_2 : Int) := of_decide_eq_true (by first | (with_reducible assumption) | assumption)
       have q264 : a1_2 < (l2.length : Int) := of_decide_eq_true (by first | (with_reducible assumption) | assumption)
       obtain ⟨ad264, e264, hx264_0⟩ := Kd.at_int HR2.out a1_2 p264 q264
       have hw264_0 := hx264_0
       obtain rfl : ad263 = ad264 := (by injection e264)
       replace hx264_0 := (HB.out.cell (World.block_lt_of_cell? w _ hx264_0)).trans hx264_0
       replace p264 := eq_true p264
       replace q264 := eq_true q264
       refine start_ (n := 15) (S := fun w' => w'.cell? ⟨gb258, 0, none⟩ = some (.int .i64 a1_0) ∧ w'.cell? ⟨gb258, 1, none⟩ = some (.int .i64 a1_1) ∧ w'.cell? ⟨gb258, 2, none⟩ = some (.int .i64 a1_2) ∧ w'.cell? (ad263.add (a1_1).toNat) = some (.int .i64 (rd l2 a1_1)) ∧ w'.cell? (ad263.add (a1_2).toNat) = some (.int .i64 (rd l2 a1_2))) (ds := [13]) #[false, false, false, false, false, false, false, false, false, false, false, false, false, false, false] (by kernel_rfl) rfl rfl ⟨(blk_cell BK258.out 0).trans rfl, (blk_cell BK258.out 1).trans rfl, (blk_cell BK258.out 2).trans rfl, ((HB.out.cell (World.block_lt_of_cell? w _ hw263_0)).trans hw263_0), ((HB.out.cell (World.block_lt_of_cell? w _ hw264_0)).trans hw264_0)⟩ (fun hHeld => ?_); refine with_tabW impl_Pool_rebuilt.tab6 impl_Pool_rebuilt.bits6 (fun HT_ HW_ => ?_)
       generalize w25.drew = w28 at BK0 BK258 HB hx263_0 hx264_0 hHeld ⊢
       refine pure_ (i := 0) (N := some 29) (v := ?_) (a' := ?_) #[true, false, false, false, false, false, false, false, false, false, false, false, false, false, false] rfl rfl (any_of HT_.out (by kernel_rfl)) (fun _ _ _ h => h) (Or.inl ⟨by rfl, ?_⟩) ?_ ?_
       rotate_left
       ·intro w'
        go_simp
        with_reducible rfl
       rotate_left
       ·simp only [Act.put, List.setIfInBounds_toArray, List.set_cons_zero, List.set_cons_succ, i64_w, i32_w]
        rfl
       refine pure_ (i := 1) (N := some 30) (v := ?_) (a' := ?_) #[true, true, false, false, false, false, false, false, false, false, false, false, false, false, false] rfl rfl (any_of HT_.out (by kernel_rfl)) (fun _ _ _ h => h) (Or.inl ⟨by rfl, ?_⟩) ?_ ?_
       rotate_left
       ·intro w'
        go_simp
        with_reducible rfl
       rotate_left
       ·simp only [Act.put, List.setIfInBounds_toArray, List.set_cons_zero, List.set_cons_succ, i64_w, i32_w]
        rfl
       refine pure_ (i := 3) (N := some 32) (v := ?_) (a' := ?_) #[true, true, false, true, false, false, false, false, false, false, false, false, false, false, false] rfl rfl (any_of HT_.out (by kernel_rfl)) (fun _ _ _ h => h) (Or.inl ⟨by rfl, ?_⟩) ?_ ?_
       rotate_left
       ·intro w'
        go_simp
        with_reducible rfl
       rotate_left
       ·simp only [Act.put, List.setIfInBounds_toArray, List.set_cons_zero, List.set_cons_succ, i64_w, i32_w]
        rfl
       refine pure_ (i := 4) (N := some 33) (v := ?_) (a' := ?_) #[true, true, false, true, true, false, false, false, false, false, false, false, false, false, false] rfl rfl (any_of HT_.out (by kernel_rfl)) (fun _ _ _ h => h) (Or.inl ⟨by rfl, ?_⟩) ?_ ?_
       rotate_left
       ·intro w'
        go_simp
        with_reducible rfl
       rotate_left
       ·simp only [Act.put, List.setIfInBounds_toArray, List.set_cons_zero, List.set_cons_succ, i64_w, i32_w]
        rfl
       refine pure_ (i := 8) (N := some 37) (v := ?_) (a' := ?_) #[true, true, false, true, true, false, false, false, true, false, false, false, false, false, false] rfl rfl (any_of HT_.out (by kernel_rfl)) (fun _ _ _ h => h) (Or.inl ⟨by rfl, ?_⟩) ?_ ?_
       rotate_left
       ·intro w'
        go_simp
        with_reducible rfl
       rotate_left
       ·simp only [Act.put, List.setIfInBounds_toArray, List.set_cons_zero, List.set_cons_succ, i64_w, i32_w]
        rfl
       refine pure_ (i := 9) (N := some 38) (v := ?_) (a' := ?_) #[true, true, false, true, true, false, false, false, true, true, false, false, false, false, false] rfl rfl (any_of HT_.out (by kernel_rfl)) (fun _ _ _ h => h) (Or.inl ⟨by rfl, ?_⟩) ?_ ?_
       rotate_left
       ·intro w'
        go_simp
        with_reducible rfl
       rotate_left
       ·simp only [Act.put, List.setIfInBounds_toArray, List.set_cons_zero, List.set_cons_succ, i64_w, i32_w]
        rfl
       refine take_ (i := 2) (N := some 31) (v := ?_) (a' := ?_) #[true, true, true, true, true, false, false, false, true, true, false, false, false, false, false] rfl rfl (take_ofW HT_.out HW_.out (by kernel_rfl)) (fun _ _ _ h => h) (Or.inl ⟨by rfl, ?_⟩) hHeld ?_ ?_
       rotate_left
       ·rintro w' ⟨s0, s1, s2, s3, s4⟩
        go_simp
        with_reducible rfl
       rotate_left
       ·simp only [Act.put, List.setIfInBounds_toArray, List.set_cons_zero, List.set_cons_succ, i64_w, i32_w]
        rfl
       refine take_ (i := 5) (N := some 34) (v := ?_) (a' := ?_) #[true, true, true, true, true, true, false, false, true, true, false, false, false, false, false] rfl rfl (take_ofW HT_.out HW_.out (by kernel_rfl)) (fun _ _ _ h => h) (Or.inl ⟨by rfl, ?_⟩) hHeld ?_ ?_
       rotate_left
       ·rintro w' ⟨s0, s1, s2, s3, s4⟩
        go_simp
        with_reducible rfl
       rotate_left
       ·simp only [Act.put, List.setIfInBounds_toArray, List.set_cons_zero, List.set_cons_succ, i64_w, i32_w]
        rfl
       refine pure_ (i := 6) (N := some 35) (v := ?_) (a' := ?_) #[true, true, true, true, true, true, true, false, true, true, false, false, false, false, false] rfl rfl (any_of HT_.out (by kernel_rfl)) (fun _ _ _ h => h) (Or.inl ⟨by rfl, ?_⟩) ?_ ?_
       rotate_left
       ·intro w'
        go_simp
        with_reducible rfl
       rotate_left
       ·simp only [Act.put, List.setIfInBounds_toArray, List.set_cons_zero, List.set_cons_succ, i64_w, i32_w]
        rfl
       refine take_ (i := 7) (N := some 36) (v := ?_) (a' := ?_) #[true, true, true, true, true, true, true, true, true, true, false, false, false, false, false] rfl rfl (take_ofW HT_.out HW_.out (by kernel_rfl)) (fun _ _ _ h => h) (Or.inl ⟨by rfl, ?_⟩) hHeld ?_ ?_
       rotate_left
       ·rintro w' ⟨s0, s1, s2, s3, s4⟩
        go_simp
        with_reducible rfl
       rotate_left
       ·simp only [Act.put, List.setIfInBounds_toArray, List.set_cons_zero, List.set_cons_succ, i64_w, i32_w]
        rfl
       refine take_ (i := 10) (N := some 39) (v := ?_) (a' := ?_) #[true, true, true, true, true, true, true, true, true, true, true, false, false, false, false] rfl rfl (take_ofW HT_.out HW_.out (by kernel_rfl)) (fun _ _ _ h => h) (Or.inl ⟨by rfl, ?_⟩) hHeld ?_ ?_
       rotate_left
       ·rintro w' ⟨s0, s1, s2, s3, s4⟩
        go_simp
        with_reducible rfl
       rotate_left
       ·simp only [Act.put, List.setIfInBounds_toArray, List.set_cons_zero, List.set_cons_succ, i64_w, i32_w]
        rfl
       refine pure_ (i := 11) (N := some 40) (v := ?_) (a' := ?_) #[true, true, true, true, true, true, true, true, true, true, true, true, false, false, false] rfl rfl (any_of HT_.out (by kernel_rfl)) (fun _ _ _ h => h) (Or.inl ⟨by rfl, ?_⟩) ?_ ?_
       rotate_left
       ·intro w'
        go_simp
        with_reducible rfl
       rotate_left
       ·simp only [Act.put, List.setIfInBounds_toArray, List.set_cons_zero, List.set_cons_succ, i64_w, i32_w]
        rfl
       refine take_ (i := 12) (N := some 41) (v := ?_) (a' := ?_) #[true, true, true, true, true, true, true, true, true, true, true, true, true, false, false] rfl rfl (take_ofW HT_.out HW_.out (by kernel_rfl)) (fun _ _ _ h => h) (Or.inl ⟨by rfl, ?_⟩) hHeld ?_ ?_
       rotate_left
       ·rintro w' ⟨s0, s1, s2, s3, s4⟩
        go_simp
        with_reducible rfl
       rotate_left
       ·simp only [Act.put, List.setIfInBounds_toArray, List.set_cons_zero, List.set_cons_succ, i64_w, i32_w]
        rfl
       refine last_ (i := 13) (N := some 42) #[true, true, true, true, true, true, true, true, true, true, true, true, true, true, false] rfl rfl (one_of HT_.out (by kernel_rfl)) (by decide) (fun K hK => ?_)
       refine goes_ Try.func64 (by kernel_rfl) rfl #[.pointer (some ⟨g0_, 0, none⟩), .int .i64 a1_0, .int .i64 (rd l2 a1_1), .int .i64 (rd l2 a1_2)] (by rfl) rfl rfl zl ?_
       with_reducible refine (impl_Pool_add.calls k g0_ P0_0_ _ l0_0 a1_0 (rd l2 a1_1) (rd l2 a1_2) r w0 _ (below_step HWB_.out (zb HB.out)) HGE_.out (zh BK0.out) (Kd.R_below HO_.out (zb HB.out)) A24.out).mono ?_
       rintro e w916 ⟨rfl, hb, hkp, u_, hbx2, ho2⟩
       refine ⟨_, rfl, ?_⟩
       have K1_ := Aside0.mk (Kept.then_ (Kept.of_below (W := _) (show Below w.heap.size w _ from (zb HB.out)) (fun k_ => P0_0_ k_ ∨ k_ = g0_)) hkp (fun _ h_ => .inl h_))
       have O1_ := Aside0.mk (Kd.R_mono (ok' := fun k_ => P0_0_ k_ ∨ w.heap.size ≤ k_) ho2 (fun _ h_ => h_.imp id (fun q_ => Nat.le_trans (below_size (show Below w.heap.size w _ from (zb HB.out))) q_)))
       have B1_ := Aside0.mk hb
       have X1_ := Aside0.mk hbx2
       clear hb hkp hbx2 ho2
       refine hK.out _ _ ?_
       clear hK K
       refine norm_ (a' := ?_) ?_ ?_
       rotate_left
       ·show Act.put _ (some 42) _ = _
        simp only [Act.put, List.setIfInBounds_toArray, List.set_cons_zero, List.set_cons_succ, i64_w, i32_w]
        rfl
       refine pure_ (i := 14) (N := some 6) (v := ?_) (a' := ?_) #[true, true, true, true, true, true, true, true, true, true, true, true, true, true, true] rfl rfl (any_of HT_.out (by kernel_rfl)) (fun _ _ _ h => h) (Or.inl ⟨by rfl, ?_⟩) ?_ ?_
       rotate_left
       ·intro w'
        go_simp
        with_reducible rfl
       rotate_left
       ·simp only [Act.put, List.setIfInBounds_toArray, List.set_cons_zero, List.set_cons_succ, i64_w, i32_w]
        rfl
       refine done_ (done_of HT_.out (by kernel_rfl)) ?_
       try go_wp2
       go_ret
       exact ⟨ze, B1_.out, K1_.out, _, zh X1_.out, O1_.out⟩
      ·rw [if_neg c23] at H
       exact absurd H (by simp)
     ·rw [if_neg c22] at H
      exact absurd H (by simp)
    ·rw [if_neg c21] at H
     exact absurd H (by simp)
   ·rw [if_neg c20] at H
    exact absurd H (by simp)



end Go.Proofs.Ytobkledmbnacjaa.MV
end

section
-- Written by this session's program (wip/tools/gprint.py over the kit's print) out of the translation; Lean checks it.
namespace Go.Proofs.Ytobkledmbnacjaa.MV
open Go.RowKit Go.Proofs.YtobkledmbnacjaaW.PrintWords Go.Proofs.YtobkledmbnacjaaW.PrintLast Go.Proofs.YtobkledmbnacjaaW.PrintMore
attribute [local go_sem] max2_int min2_int max_two min_two max_three min_three max_four min_four   -- for this text's walks alone
set_option linter.unusedVariables false
set_option linter.unusedSimpArgs false
set_option maxRecDepth 100000


/-! ### impl_TermMove: function 15 -/
-- INFO 3
mutual
def impl_TermMove.j0 : Nat → Int → Bool → List (S55) → List (S55) → Option ((List (S55)) × Int)
 | 0, _, _, _, _ => none
 | k + 1, x1, x23, x406000, x407000 => if x23 = true then ((impl_copyPool.f x407000).bind fun t411 => (some (t411, (-1)))) else ((impl_copyPool.f x407000).bind fun t414 => (if 0 ≤ (wrap64 (x1 + 1)) then (if (wrap64 (x1 + 1) : Int).toNat ≤ 35184372088832 then ((impl_Pool_below.f k x406000 x1).bind fun t421 => (impl_TermMove.l0 k x1 (List.replicate (wrap64 (x1 + 1) : Int).toNat 0) t421 (t421.length : Int) 0 x406000 x407000 t414)) else (none)) else (none)))
def impl_TermMove.l0 : Nat → Int → List Int → List Int → Int → Int → List (S55) → List (S55) → List (S55) → Option ((List (S55)) × Int)
 | 0, _, _, _, _, _, _, _, _ => none
 | k + 1, x1, x9, x32, x33, x34, x406000, x407000, x418000 => if x34 < x33 then (if 0 ≤ x34 then (if x34 < (x32.length : Int) then (if 0 ≤ (rd x32 x34) then (if (rd x32 x34) < (x406000.length : Int) then ((impl_Pool_rebuilt.f k x418000 ((rd_T55 x406000 (rd x32 x34)).f0) ((rd_T55 x406000 (rd x32 x34)).f1) ((rd_T55 x406000 (rd x32 x34)).f2) x9).bind fun bt427 => (if (rd x32 x34) < (x9.length : Int) then ((some (x9.set ((rd x32 x34) : Int).toNat bt427.2 : List Int)).bind fun y431 => (if (rd y431 (rd x32 x34)) < 0 then ((impl_copyPool.f x407000).bind fun t433 => (some (t433, (-1)))) else (impl_TermMove.l0 k x1 y431 x32 x33 (wrap64 (x34 + 1)) x406000 x407000 bt427.1))) else (none))) else (none)) else (none)) else (none)) else (none)) else (if 0 ≤ x1 then (if x1 < (x9.length : Int) then (some (x418000, rd x9 x1)) else (none)) else (none))
end
def impl_TermMove.f (k : Nat) (l0_0 : List (S55)) (a1 : Int) (l2_0 : List (S55)) : Option ((List (S55)) × Int) := (impl_PoolOk.f l2_0).bind fun t408 => (if t408 = true then ((impl_Pool_isTerm.f l0_0 a1).bind fun t409 => (if t409 = true then ((impl_PoolOk.f l0_0).bind fun t410 => (impl_TermMove.j0 k a1 (!t410) l0_0 l2_0)) else (impl_TermMove.j0 k a1 true l0_0 l2_0))) else (some (([] : List (S55)), (-1))))
theorem impl_TermMove.mono_l : ∀ k, (∀ y0 y1 y2 y3, LeO (impl_TermMove.j0 k y0 y1 y2 y3) (impl_TermMove.j0 (k + 1) y0 y1 y2 y3)) ∧ (∀ y0 y1 y2 y3 y4 y5 y6 y7, LeO (impl_TermMove.l0 k y0 y1 y2 y3 y4 y5 y6 y7) (impl_TermMove.l0 (k + 1) y0 y1 y2 y3 y4 y5 y6 y7))
 | 0 => ⟨fun _ _ _ _ r h => by simp [impl_TermMove.j0] at h, fun _ _ _ _ _ _ _ _ r h => by simp [impl_TermMove.l0] at h⟩
 | k + 1 => by
  obtain ⟨ih0, ih1⟩ := impl_TermMove.mono_l k
  refine ⟨?_, ?_⟩
  ·intro y0 y1 y2 y3
   unfold impl_TermMove.j0
   repeat' first
   | (with_reducible exact ih0 _ _ _ _)
   | (with_reducible exact ih1 _ _ _ _ _ _ _ _)
   | (with_reducible exact impl_Pool_below.mono _ _ _)
   | (with_reducible exact impl_Pool_rebuilt.mono _ _ _ _ _ _)
   | (with_reducible exact LeO.refl _)
   | (with_reducible exact LeO.none _)
   | (with_reducible refine LeO.ite ?_ ?_)
   | (with_reducible refine LeO.bind ?_ (fun _ => ?_))
   | exact ih0 _ _ _ _
   | exact ih1 _ _ _ _ _ _ _ _
   | exact impl_Pool_below.mono _ _ _
   | exact impl_Pool_rebuilt.mono _ _ _ _ _ _
   | exact LeO.none _
   | refine LeO.ite ?_ ?_
   | refine LeO.bind ?_ (fun _ => ?_)
  ·intro y0 y1 y2 y3 y4 y5 y6 y7
   unfold impl_TermMove.l0
   repeat' first
   | (with_reducible exact ih0 _ _ _ _)
   | (with_reducible exact ih1 _ _ _ _ _ _ _ _)
   | (with_reducible exact impl_Pool_below.mono _ _ _)
   | (with_reducible exact impl_Pool_rebuilt.mono _ _ _ _ _ _)
   | (with_reducible exact LeO.refl _)
   | (with_reducible exact LeO.none _)
   | (with_reducible refine LeO.ite ?_ ?_)
   | (with_reducible refine LeO.bind ?_ (fun _ => ?_))
   | exact ih0 _ _ _ _
   | exact ih1 _ _ _ _ _ _ _ _
   | exact impl_Pool_below.mono _ _ _
   | exact impl_Pool_rebuilt.mono _ _ _ _ _ _
   | exact LeO.none _
   | refine LeO.ite ?_ ?_
   | refine LeO.bind ?_ (fun _ => ?_)
theorem impl_TermMove.mono : ∀ a0 a1 a2 k, LeO (impl_TermMove.f k a0 a1 a2) (impl_TermMove.f (k + 1) a0 a1 a2) := by
 intro a0 a1 a2 k
 obtain ⟨ih0, ih1⟩ := impl_TermMove.mono_l k
 unfold impl_TermMove.f
 repeat' first
   | (with_reducible exact ih0 _ _ _ _)
   | (with_reducible exact ih1 _ _ _ _ _ _ _ _)
   | (with_reducible exact impl_Pool_below.mono _ _ _)
   | (with_reducible exact impl_Pool_rebuilt.mono _ _ _ _ _ _)
   | (with_reducible exact LeO.refl _)
   | (with_reducible exact LeO.none _)
   | (with_reducible refine LeO.ite ?_ ?_)
   | (with_reducible refine LeO.bind ?_ (fun _ => ?_))
   | exact ih0 _ _ _ _
   | exact ih1 _ _ _ _ _ _ _ _
   | exact impl_Pool_below.mono _ _ _
   | exact impl_Pool_rebuilt.mono _ _ _ _ _ _
   | exact LeO.none _
   | refine LeO.ite ?_ ?_
   | refine LeO.bind ?_ (fun _ => ?_)
set_option maxHeartbeats 8000000 in
set_option maxRecDepth 100000 in
theorem impl_TermMove.calls (k : Nat) (A0_0 : Option Addr) (c0_0 : Nat) (l0_0 : List (S55)) (a1 : Int) (A2_0 : Option Addr) (c2_0 : Nat) (l2_0 : List (S55)) (r1 : List (S55)) (r2 : Int) (w : World) (hr0_0 : Kd.C k55 w A0_0 l0_0.length l0_0) (hc0_0 : l0_0.length ≤ c0_0) (hr2_0 : Kd.C k55 w A2_0 l2_0.length l2_0) (hc2_0 : l2_0.length ≤ c2_0) (h : impl_TermMove.f k l0_0 a1 l2_0 = some (r1, r2)) :
  Calls Try.prog 15 #[.agg #[.slice A0_0 l0_0.length c0_0], .int .i64 a1, .agg #[.slice A2_0 l2_0.length c2_0]] w fun e w' => ∃ v0_ : Value, e = .returned (.tuple #[.agg #[v0_], .int .i64 r2]) ∧ Kd.R k55 55 w' w.heap.size (fun _ => True) v0_ r1 ∧ Below w.heap.size w w' := by
 have hu28 := Try.underlying28
 have hu55 := Try.underlying55
 have HR0_0 := Aside0.mk hr0_0
 have HC0_0 := Aside0.mk hc0_0
 clear hr0_0 hc0_0
 have HR2_0 := Aside0.mk hr2_0
 have HC2_0 := Aside0.mk hc2_0
 clear hr2_0 hc2_0
 have HB := Aside0.mk (Below.refl w.heap.size w)
 have H : ((impl_PoolOk.f l2_0).bind fun t408 => (if t408 = true then ((impl_Pool_isTerm.f l0_0 a1).bind fun t409 => (if t409 = true then ((impl_PoolOk.f l0_0).bind fun t410 => (impl_TermMove.j0 k a1 (!t410) l0_0 l2_0)) else (impl_TermMove.j0 k a1 true l0_0 l2_0))) else (some (([] : List (S55)), (-1))))) = some (r1, r2) := h
 clear h
 replace H := Option.bind_eq_some_iff.mp H
 obtain ⟨t408, A40, H⟩ := H
 replace H : (if t408 = true then ((impl_Pool_isTerm.f l0_0 a1).bind fun t409 => (if t409 = true then ((impl_PoolOk.f l0_0).bind fun t410 => (impl_TermMove.j0 k a1 (!t410) l0_0 l2_0)) else (impl_TermMove.j0 k a1 true l0_0 l2_0))) else (some (([] : List (S55)), (-1)))) = some (r1, r2) := H
 have A4 := Aside0.mk A40
 clear A40
 by_cases c5 : t408 = true
 ·subst c5
  have H1 : ((impl_Pool_isTerm.f l0_0 a1).bind fun t409 => (if t409 = true then ((impl_PoolOk.f l0_0).bind fun t410 => (impl_TermMove.j0 k a1 (!t410) l0_0 l2_0)) else (impl_TermMove.j0 k a1 true l0_0 l2_0))) = some (r1, r2) := by rw [if_pos rfl] at H; exact H
  clear H
  have H := H1
  clear H1
  have HC6 := Aside0.mk H
  clear H
  go_enter Try.func15, Try.ntmps15
  go_upto_region 3 with (first | ((with_reducible refine gate_dst (N := 3) rfl ?_); refine box_event ?hg (N := 3) ?hd (cs := #[.slice A0_0 l0_0.length c0_0]) (t := 28) ?hr ?_; (case hd => rfl); (case hg => rfl); (case hr => first | (go_simp; done) | (go_simp; rfl)); intro gb405 hg w7 hbox hb; have n0_ := Aside0.mk (below_step (zb HB.out) hb); have n1_ := Aside0.mk (hbox); have n2_ := Aside0.mk ((by rw [hg]; exact (below_size (zb HB.out)) : w.heap.size ≤ gb405)); have n3_ := Aside0.mk ((by rw [hg]; exact (below_size (zb HB.out)) : w.heap.size ≤ gb405)); clear HB; have HB := n0_; have BK405 := n1_; have GW405 := n2_; have GE405 := n3_; clear n0_ n1_ n2_ n3_; clear hb hbox hg) | ((with_reducible refine gate_dst (N := 5) rfl ?_); refine box_event ?hg (N := 5) ?hd (cs := #[.slice A2_0 l2_0.length c2_0]) (t := 28) ?hr ?_; (case hd => rfl); (case hg => rfl); (case hr => first | (go_simp; done) | (go_simp; rfl)); intro gb406 hg w8 hbox hb; have n0_ := Aside0.mk (blk_below (zh BK405.out) hb); have n1_ := Aside0.mk (below_step (zb HB.out) hb); have n2_ := Aside0.mk (hbox); have n3_ := Aside0.mk ((by rw [hg]; exact (below_size (zb HB.out)) : w.heap.size ≤ gb406)); have n4_ := Aside0.mk ((by rw [hg]; exact (below_size (zb HB.out)) : w.heap.size ≤ gb406)); have n5_ := Aside0.mk ((by rw [hg]; exact Nat.ne_of_lt (blk_lt (zh BK405.out)) : gb405 ≠ gb406)); have n6_ := Aside0.mk ((by rw [hg]; exact Nat.ne_of_gt (blk_lt (zh BK405.out)) : gb406 ≠ gb405)); clear BK405; clear HB; have BK405 := n0_; have HB := n1_; have BK406 := n2_; have GW406 := n3_; have GE406 := n4_; have NB405_406 := n5_; have NB406_405 := n6_; clear n0_ n1_ n2_ n3_ n4_ n5_ n6_; clear hb hbox hg) | ((with_reducible refine gate_dst (N := 6) rfl ?_); refine box_event ?hg (N := 6) ?hd (cs := #[.slice none 0 0]) (t := 28) ?hr ?_; (case hd => rfl); (case hg => rfl); (case hr => first | (go_simp; done) | (go_simp; rfl)); intro gb407 hg w9 hbox hb; have n0_ := Aside0.mk (blk_below (zh BK405.out) hb); have n1_ := Aside0.mk (blk_below (zh BK406.out) hb); have n2_ := Aside0.mk (below_step (zb HB.out) hb); have n3_ := Aside0.mk (hbox); have n4_ := Aside0.mk ((by rw [hg]; exact (below_size (zb HB.out)) : w.heap.size ≤ gb407)); have n5_ := Aside0.mk ((by rw [hg]; exact (below_size (zb HB.out)) : w.heap.size ≤ gb407)); have n6_ := Aside0.mk ((by rw [hg]; exact Nat.ne_of_lt (blk_lt (zh BK405.out)) : gb405 ≠ gb407)); have n7_ := Aside0.mk ((by rw [hg]; exact Nat.ne_of_gt (blk_lt (zh BK405.out)) : gb407 ≠ gb405)); have n8_ := Aside0.mk ((by rw [hg]; exact Nat.ne_of_lt (blk_lt (zh BK406.out)) : gb406 ≠ gb407)); have n9_ := Aside0.mk ((by rw [hg]; exact Nat.ne_of_gt (blk_lt (zh BK406.out)) : gb407 ≠ gb406)); clear BK405; clear BK406; clear HB; have BK405 := n0_; have BK406 := n1_; have HB := n2_; have BK407 := n3_; have GW407 := n4_; have GE407 := n5_; have NB405_407 := n6_; have NB407_405 := n7_; have NB406_407 := n8_; have NB407_406 := n9_; clear n0_ n1_ n2_ n3_ n4_ n5_ n6_ n7_ n8_ n9_; clear hb hbox hg; have hnb10 := NB406_405.out; have hnc10 := NB405_406.out; have hnb11 := NB406_407.out; have hnc11 := NB407_406.out; have hcz12_0 : w9.cell? ⟨gb406, 0, none⟩ = some (.slice A2_0 l2_0.length c2_0) := (blk_cell BK406.out 0).trans rfl; have hfz12_0 := blk_frozen BK406.out 0) | ((with_reducible refine gate_callee (f := 32) rfl ?_); refine goesL_ (some 13) rfl rfl Try.func32 (by kernel_rfl) rfl #[.agg #[.slice A2_0 l2_0.length c2_0]] rfl zl ?_; (with_reducible refine (impl_PoolOk.calls _ _ l2_0 true _ ?side1 ?side2 A4.out).mono ?_); (case side1 => exact zc (Kd.C_below HR2_0.out HB.out)); (case side2 => exact HC2_0.out); rintro e w13 ⟨rfl, hb⟩; refine ⟨_, rfl, ?_⟩; have n0_ := Aside0.mk (blk_below (zh BK405.out) hb); have n1_ := Aside0.mk (blk_below (zh BK406.out) hb); have n2_ := Aside0.mk (blk_below (zh BK407.out) hb); have n3_ := Aside0.mk (below_step (zb HB.out) hb); clear BK405; clear BK406; clear BK407; clear HB; have BK405 := n0_; have BK406 := n1_; have BK407 := n2_; have HB := n3_; clear n0_ n1_ n2_ n3_; (try clear hb); (try clear hb2); (try clear hk); (try clear hi)))
  (try simp only [Act.put, List.setIfInBounds_toArray, List.set_cons_zero, List.set_cons_succ])
  go_cut [23] (fun v23 wc => ∃ (kq : Nat) (x23_5 : Bool), v23 = .bool x23_5 ∧ Aside0 (impl_TermMove.j0 kq a1 x23_5 l0_0 l2_0 = some (r1, r2)) ∧ Aside0 (kq ≤ k) ∧ Aside0 (wc.heap[gb405]? = some (.cells #[(.slice A0_0 l0_0.length c0_0)] 28 (0, 0))) ∧ Aside0 (wc.heap[gb406]? = some (.cells #[(.slice A2_0 l2_0.length c2_0)] 28 (0, 0))) ∧ Aside0 (wc.heap[gb407]? = some (.cells #[(.slice none 0 0)] 28 (0, 0))) ∧ Aside0 (Below w.heap.size w wc))
  case first =>
   have H := HC6.out
   clear HC6
   replace H := Option.bind_eq_some_iff.mp H
   obtain ⟨t409, A140, H⟩ := H
   replace H : (if t409 = true then ((impl_PoolOk.f l0_0).bind fun t410 => (impl_TermMove.j0 k a1 (!t410) l0_0 l2_0)) else (impl_TermMove.j0 k a1 true l0_0 l2_0)) = some (r1, r2) := H
   have A14 := Aside0.mk A140
   clear A140
   by_cases c15 : t409 = true
   ·subst c15
    have H1 : ((impl_PoolOk.f l0_0).bind fun t410 => (impl_TermMove.j0 k a1 (!t410) l0_0 l2_0)) = some (r1, r2) := by rw [if_pos rfl] at H; exact H
    clear H
    have H := H1
    clear H1
    replace H := Option.bind_eq_some_iff.mp H
    obtain ⟨t410, A160, H⟩ := H
    replace H : (impl_TermMove.j0 k a1 (!t410) l0_0 l2_0) = some (r1, r2) := H
    have A16 := Aside0.mk A160
    clear A160
    have H' := Aside0.mk H
    clear H
    go_wp2_with (first | ((with_reducible refine gate_callee (f := 33) rfl ?_); refine goesL_ (some 17) rfl rfl Try.func33 (by kernel_rfl) rfl #[.pointer (some ⟨gb405, 0, none⟩), .int .i64 a1] rfl zl ?_; (with_reducible refine (impl_Pool_isTerm.calls _ A0_0 c0_0 l0_0 a1 true _ ?side1 ?side2 ?side3 A14.out).mono ?_); (case side1 => exact zh BK405.out); (case side2 => exact zc (Kd.C_below HR0_0.out HB.out)); (case side3 => exact HC0_0.out); rintro e w17 ⟨rfl, hb⟩; refine ⟨_, rfl, ?_⟩; have n0_ := Aside0.mk (blk_below (zh BK405.out) hb); have n1_ := Aside0.mk (blk_below (zh BK406.out) hb); have n2_ := Aside0.mk (blk_below (zh BK407.out) hb); have n3_ := Aside0.mk (below_step (zb HB.out) hb); clear BK405; clear BK406; clear BK407; clear HB; have BK405 := n0_; have BK406 := n1_; have BK407 := n2_; have HB := n3_; clear n0_ n1_ n2_ n3_; (try clear hb); (try clear hb2); (try clear hk); (try clear hi); have hnb18 := NB405_406.out; have hnc18 := NB406_405.out; have hnb19 := NB405_407.out; have hnc19 := NB407_405.out; have hcz20_0 : w17.cell? ⟨gb405, 0, none⟩ = some (.slice A0_0 l0_0.length c0_0) := (blk_cell BK405.out 0).trans rfl; have hfz20_0 := blk_frozen BK405.out 0) | (go_at_call 32; (with_reducible refine (impl_PoolOk.calls _ _ l0_0 t410 _ ?side1 ?side2 A16.out).mono ?_); (case side1 => exact zc (Kd.C_below HR0_0.out HB.out)); (case side2 => exact HC0_0.out); rintro e w21 ⟨rfl, hb⟩; have n0_ := Aside0.mk (blk_below (zh BK405.out) hb); have n1_ := Aside0.mk (blk_below (zh BK406.out) hb); have n2_ := Aside0.mk (blk_below (zh BK407.out) hb); have n3_ := Aside0.mk (below_step (zb HB.out) hb); clear BK405; clear BK406; clear BK407; clear HB; have BK405 := n0_; have BK406 := n1_; have BK407 := n2_; have HB := n3_; clear n0_ n1_ n2_ n3_; (try clear hb); (try clear hb2); (try clear hk); (try clear hi)))
    go_meet
    case rel => exact ⟨_, (!t410), (by first | rfl | (simp; done) | (simp [*]; done)), H', ⟨by first | omega | exact Nat.le_refl _⟩, ⟨zh BK405.out⟩, ⟨zh BK406.out⟩, ⟨zh BK407.out⟩, ⟨zb HB.out⟩⟩
   ·replace c15 := Bool.eq_false_iff.mpr c15
    subst c15
    have H1 : (impl_TermMove.j0 k a1 true l0_0 l2_0) = some (r1, r2) := by rw [if_neg (show ¬ (false = true) by decide)] at H; exact H
    clear H
    have H := H1
    clear H1
    have H' := Aside0.mk H
    clear H
    go_wp2_with (first | ((with_reducible refine gate_callee (f := 33) rfl ?_); refine goesL_ (some 17) rfl rfl Try.func33 (by kernel_rfl) rfl #[.pointer (some ⟨gb405, 0, none⟩), .int .i64 a1] rfl zl ?_; (with_reducible refine (impl_Pool_isTerm.calls _ A0_0 c0_0 l0_0 a1 false _ ?side1 ?side2 ?side3 A14.out).mono ?_); (case side1 => exact zh BK405.out); (case side2 => exact zc (Kd.C_below HR0_0.out HB.out)); (case side3 => exact HC0_0.out); rintro e w22 ⟨rfl, hb⟩; refine ⟨_, rfl, ?_⟩; have n0_ := Aside0.mk (blk_below (zh BK405.out) hb); have n1_ := Aside0.mk (blk_below (zh BK406.out) hb); have n2_ := Aside0.mk (blk_below (zh BK407.out) hb); have n3_ := Aside0.mk (below_step (zb HB.out) hb); clear BK405; clear BK406; clear BK407; clear HB; have BK405 := n0_; have BK406 := n1_; have BK407 := n2_; have HB := n3_; clear n0_ n1_ n2_ n3_; (try clear hb); (try clear hb2); (try clear hk); (try clear hi)))
    go_meet
    case rel => exact ⟨_, (true), (by first | rfl | (simp; done) | (simp [*]; done)), H', ⟨by first | omega | exact Nat.le_refl _⟩, ⟨zh BK405.out⟩, ⟨zh BK406.out⟩, ⟨zh BK407.out⟩, ⟨zb HB.out⟩⟩
  case rest =>
   clear HC6
   try clear c1
   try clear c2
   try clear p2
   try clear c3
   try clear c5
   try clear c10
   try clear c11
   try clear c15
   try clear c18
   try clear c19
   try clear hcz12_0
   try clear hcz20_0
   try clear hfz12_0
   try clear hfz20_0
   try clear BK405
   try clear BK406
   try clear BK407
   try clear HB
   obtain ⟨kq, x23_5, rfl, HA, HJ5, BK405, BK406, BK407, HB⟩ := hcut
   cases kq with
   | zero => exact absurd HA.out (by simp [impl_TermMove.j0])
   | succ kj5 =>
    have H := HA.out
    clear HA
    simp only [impl_TermMove.j0] at H
    by_cases c23 : x23_5 = true
    ·subst c23
     have H1 : ((impl_copyPool.f l2_0).bind fun t411 => (some (t411, (-1)))) = some (r1, r2) := by rw [if_pos rfl] at H; exact H
     clear H
     have H := H1
     clear H1
     replace H := Option.bind_eq_some_iff.mp H
     obtain ⟨t411, A240, H⟩ := H
     replace H : (some (t411, (-1))) = some (r1, r2) := H
     have A24 := Aside0.mk A240
     clear A240
     simp only [Option.some.injEq, Prod.mk.injEq] at H
     obtain ⟨rfl, rfl⟩ := H
     have hnb25 := NB406_405.out
     have hnc25 := NB405_406.out
     have hnb26 := NB406_407.out
     have hnc26 := NB407_406.out
     have hcz27_0 : wc.cell? ⟨gb406, 0, none⟩ = some (.slice A2_0 l2_0.length c2_0) := (blk_cell BK406.out 0).trans rfl
     have hfz27_0 := blk_frozen BK406.out 0
     go_wp2_with (first | ((with_reducible refine gate_callee (f := 34) rfl ?_); refine goesL_ (some 25) rfl rfl Try.func34 (by kernel_rfl) rfl #[.agg #[.slice A2_0 l2_0.length c2_0]] rfl zl ?_; (with_reducible refine (impl_copyPool.calls _ _ l2_0 t411 _ ?side1 ?side2 A24.out).mono ?_); (case side1 => exact zc (Kd.C_below HR2_0.out HB.out)); (case side2 => exact HC2_0.out); rintro e w28 ⟨v412, rfl, ho0, hb⟩; refine ⟨_, rfl, ?_⟩; have n0_ := Aside0.mk (Kd.R_lower ho0 (below_size (zb HB.out))); have n1_ := Aside0.mk (blk_below (zh BK405.out) hb); have n2_ := Aside0.mk (blk_below (zh BK406.out) hb); have n3_ := Aside0.mk (blk_below (zh BK407.out) hb); have n4_ := Aside0.mk (below_step (zb HB.out) hb); clear BK405; clear BK406; clear BK407; clear HB; have HO413 := n0_; have BK405 := n1_; have BK406 := n2_; have BK407 := n3_; have HB := n4_; clear n0_ n1_ n2_ n3_ n4_; (try clear hb); (try clear hb2); (try clear hk); (try clear hi); (try clear ho0); obtain ⟨Ao29, co29, eo29⟩ := Kd.R_slice HO413.out; subst eo29; have hnb30 := NB407_405.out; have hnc30 := NB405_407.out; have hcz31_0 : w28.cell? ⟨gb407, 0, none⟩ = some (.slice none 0 0) := (blk_cell BK407.out 0).trans rfl; have hfz31_0 := blk_frozen BK407.out 0))
     refine bodyPost_ret (results_ct rfl _ _ gb407 28 #[.slice Ao29 t411.length co29] (0, 0) _ rfl (by (with_reducible repeat (first | refine blk_drewN ?_ _ | refine blk_drew ?_ | refine blk_alloc ?_ _)); refine blk_put (cs := #[.slice none 0 0]) ?_ 0 _ rfl; (with_reducible repeat (first | refine blk_drewN ?_ _ | refine blk_drew ?_ | refine blk_alloc ?_ _)); exact BK407.out) Try.underlying28 rfl (by kernel_rfl)) rfl ?_
     exact ⟨_, ze, zr (Kd.R_mono (Kd.R_far (p := ⟨gb407, 0, none⟩) (Kd.R_types HO413.out BK407.out (by decide)) (fun _ hk => hk.2) (.slice Ao29 t411.length co29)) (fun _ hk => trivial)), zb HB.out⟩
    ·replace c23 := Bool.eq_false_iff.mpr c23
     subst c23
     have H1 : ((impl_copyPool.f l2_0).bind fun t414 => (if 0 ≤ (wrap64 (a1 + 1)) then (if (wrap64 (a1 + 1) : Int).toNat ≤ 35184372088832 then ((impl_Pool_below.f kj5 l0_0 a1).bind fun t421 => (impl_TermMove.l0 kj5 a1 (List.replicate (wrap64 (a1 + 1) : Int).toNat 0) t421 (t421.length : Int) 0 l0_0 l2_0 t414)) else (none)) else (none))) = some (r1, r2) := by rw [if_neg (show ¬ (false = true) by decide)] at H; exact H
     clear H
     have H := H1
     clear H1
     replace H := Option.bind_eq_some_iff.mp H
     obtain ⟨t414, A320, H⟩ := H
     replace H : (if 0 ≤ (wrap64 (a1 + 1)) then (if (wrap64 (a1 + 1) : Int).toNat ≤ 35184372088832 then ((impl_Pool_below.f kj5 l0_0 a1).bind fun t421 => (impl_TermMove.l0 kj5 a1 (List.replicate (wrap64 (a1 + 1) : Int).toNat 0) t421 (t421.length : Int) 0 l0_0 l2_0 t414)) else (none)) else (none)) = some (r1, r2) := H
     have A32 := Aside0.mk A320
     clear A320
     obtain ⟨ji33, hji33⟩ : ∃ j_ : Int, (wrap64 (a1 + 1)) = j_ := ⟨_, rfl⟩
     replace H : (if 0 ≤ (ji33) then (if (ji33 : Int).toNat ≤ 35184372088832 then ((impl_Pool_below.f kj5 l0_0 a1).bind fun t421 => (impl_TermMove.l0 kj5 a1 (List.replicate (ji33 : Int).toNat 0) t421 (t421.length : Int) 0 l0_0 l2_0 t414)) else (none)) else (none)) = some (r1, r2) := by first | (rw [hji33] at H; exact H) | (simp only [hji33] at H ⊢; exact H)
     (try rw [hji33] at A32)
     have hji33w : (IntKind.i64.wrap (a1 + 1)) = ji33 := (i64_w _).trans hji33
     by_cases c34 : 0 ≤ (ji33)
     ·rw [if_pos c34] at H
      have c34b0 := eq_true c34
      have c34b1 : decide (0 ≤ (ji33)) = true := decide_eq_true c34
      clear c34
      by_cases c35 : (ji33 : Int).toNat ≤ 35184372088832
      ·rw [if_pos c35] at H
       have c35b0 := eq_true c35
       have c35b1 : decide ((ji33 : Int).toNat ≤ 35184372088832) = true := decide_eq_true c35
       clear c35
       obtain ⟨y418, hy418⟩ : ∃ y_ : List Int, y_ = (List.replicate (ji33 : Int).toNat 0) := ⟨_, rfl⟩
       replace H : ((impl_Pool_below.f kj5 l0_0 a1).bind fun t421 => (impl_TermMove.l0 kj5 a1 y418 t421 (t421.length : Int) 0 l0_0 l2_0 t414)) = some (r1, r2) := by first | (rw [hy418]; with_reducible exact H) | (have H2_ := (Option.bind_some _ _).symm.trans H; rw [hy418]; with_reducible exact H2_) | (have H2_ := (Option.bind_some _ _).symm.trans H; with_reducible exact H2_) | with_reducible exact H | (rw [hy418]; exact H) | exact H
       have Ny418 := Aside0.mk hy418
       clear hy418
       replace H := Option.bind_eq_some_iff.mp H
       obtain ⟨t421, A360, H⟩ := H
       replace H : (impl_TermMove.l0 kj5 a1 y418 t421 (t421.length : Int) 0 l0_0 l2_0 t414) = some (r1, r2) := H
       have A36 := Aside0.mk A360
       clear A360
       have H' := Aside0.mk H
       clear H
       have hnb37 := NB406_405.out
       have hnc37 := NB405_406.out
       have hnb38 := NB406_407.out
       have hnc38 := NB407_406.out
       have hcz39_0 : wc.cell? ⟨gb406, 0, none⟩ = some (.slice A2_0 l2_0.length c2_0) := (blk_cell BK406.out 0).trans rfl
       have hfz39_0 := blk_frozen BK406.out 0
       go_wp2_with (first | ((with_reducible refine gate_callee (f := 34) rfl ?_); refine goesL_ (some 27) rfl rfl Try.func34 (by kernel_rfl) rfl #[.agg #[.slice A2_0 l2_0.length c2_0]] rfl zl ?_; (with_reducible refine (impl_copyPool.calls _ _ l2_0 t414 _ ?side1 ?side2 A32.out).mono ?_); (case side1 => exact zc (Kd.C_below HR2_0.out HB.out)); (case side2 => exact HC2_0.out); rintro e w40 ⟨v415, rfl, ho0, hb⟩; refine ⟨_, rfl, ?_⟩; have n0_ := Aside0.mk (Kd.R_lower ho0 (below_size (zb HB.out))); have n1_ := Aside0.mk (blk_below (zh BK405.out) hb); have n2_ := Aside0.mk (blk_below (zh BK406.out) hb); have n3_ := Aside0.mk (blk_below (zh BK407.out) hb); have n4_ := Aside0.mk (below_step (zb HB.out) hb); clear BK405; clear BK406; clear BK407; clear HB; have HO416 := n0_; have BK405 := n1_; have BK406 := n2_; have BK407 := n3_; have HB := n4_; clear n0_ n1_ n2_ n3_ n4_; (try clear hb); (try clear hb2); (try clear hk); (try clear hi); (try clear ho0)) | ((with_reducible refine gate_dst (N := 8) rfl ?_); refine box_event ?hg (N := 8) ?hd (cs := #[.slice none 0 0]) (t := 28) ?hr ?_; (case hd => rfl); (case hg => rfl); (case hr => first | (go_simp; done) | (go_simp; rfl)); intro gb417 hg w41 hbox hb; have n0_ := Aside0.mk (Kd.R_below (zr HO416.out) hb); have n1_ := Aside0.mk (blk_below (zh BK405.out) hb); have n2_ := Aside0.mk (blk_below (zh BK406.out) hb); have n3_ := Aside0.mk (blk_below (zh BK407.out) hb); have n4_ := Aside0.mk (below_step (zb HB.out) hb); have n5_ := Aside0.mk (hbox); have n6_ := Aside0.mk ((by rw [hg]; exact (below_size (zb HB.out)) : w.heap.size ≤ gb417)); have n7_ := Aside0.mk ((by rw [hg]; exact (below_size (zb HB.out)) : w.heap.size ≤ gb417)); have n8_ := Aside0.mk ((by rw [hg]; exact Nat.ne_of_lt (blk_lt (zh BK405.out)) : gb405 ≠ gb417)); have n9_ := Aside0.mk ((by rw [hg]; exact Nat.ne_of_gt (blk_lt (zh BK405.out)) : gb417 ≠ gb405)); have n10_ := Aside0.mk ((by rw [hg]; exact Nat.ne_of_lt (blk_lt (zh BK406.out)) : gb406 ≠ gb417)); have n11_ := Aside0.mk ((by rw [hg]; exact Nat.ne_of_gt (blk_lt (zh BK406.out)) : gb417 ≠ gb406)); have n12_ := Aside0.mk ((by rw [hg]; exact Nat.ne_of_lt (blk_lt (zh BK407.out)) : gb407 ≠ gb417)); have n13_ := Aside0.mk ((by rw [hg]; exact Nat.ne_of_gt (blk_lt (zh BK407.out)) : gb417 ≠ gb407)); clear HO416; clear BK405; clear BK406; clear BK407; clear HB; have HO416 := n0_; have BK405 := n1_; have BK406 := n2_; have BK407 := n3_; have HB := n4_; have BK417 := n5_; have GW417 := n6_; have GE417 := n7_; have NB405_417 := n8_; have NB417_405 := n9_; have NB406_417 := n10_; have NB417_406 := n11_; have NB407_417 := n12_; have NB417_407 := n13_; clear n0_ n1_ n2_ n3_ n4_ n5_ n6_ n7_ n8_ n9_ n10_ n11_ n12_ n13_; clear hb hbox hg; obtain ⟨Ao42, co42, eo42⟩ := Kd.R_slice HO416.out; subst eo42; have hnb43 := NB417_405.out; have hnc43 := NB405_417.out; have hnb44 := NB417_406.out; have hnc44 := NB406_417.out; have hnb45 := NB417_407.out; have hnc45 := NB407_417.out; have hcz46_0 : w41.cell? ⟨gb417, 0, none⟩ = some (.slice none 0 0) := (blk_cell BK417.out 0).trans rfl; have hfz46_0 := blk_frozen BK417.out 0) | ((with_reducible refine gate_dst (N := 30) rfl ?_); refine Kd.R_make (Kd.int .i64) _ 3 rfl (N := 30) rfl 45 _ _ rfl ji33 rfl rfl Try.underlying45 (.int .i64 0) 8 info3 rfl (by decide) (by omega) 0 (ok := fun _ => True) (okp := fun _ => True) rfl (fun _ hk => hk) trivial (of_decide_eq_true (by first | (with_reducible assumption) | assumption)) (Nat.le_trans (Nat.mul_le_mul_right _ (of_decide_eq_true (by first | (with_reducible assumption) | assumption) : ji33.toNat ≤ 35184372088832)) (by omega)) (Below.refl _ _) (Nat.le_refl _) ?_; intro v419 w47 ho48 hb hg_ hnew_; clear hg_ hnew_; (first | rw [← Ny418.out] at ho48 | (simp only [Int.reduceToNat] at ho48; rw [← Ny418.out] at ho48)); have n0_ := Aside0.mk (Kd.R_below (by (with_reducible repeat (first | apply Kd.R_alloc | apply Kd.R_drewN | apply Kd.R_drew)); exact (Kd.R_mono (Kd.R_far (p := ⟨gb417, 0, none⟩) (Kd.R_types HO416.out BK417.out (by decide)) (fun _ hk => hk.2) (.slice Ao42 t414.length co42)) (fun _ h_ => h_.1))) hb); have n1_ := Aside0.mk (Kd.R_lower ho48 (below_size (zb HB.out))); have n2_ := Aside0.mk (blk_below (g := gb405) (o := .cells #[.slice A0_0 l0_0.length c0_0] 28 (0, 0)) (zf BK405.out) hb); have n3_ := Aside0.mk (blk_below (g := gb406) (o := .cells #[.slice A2_0 l2_0.length c2_0] 28 (0, 0)) (zf BK406.out) hb); have n4_ := Aside0.mk (blk_below (g := gb407) (o := .cells #[.slice none 0 0] 28 (0, 0)) (zf BK407.out) hb); have n5_ := Aside0.mk (blk_below (g := gb417) (o := .cells #[.slice Ao42 t414.length co42] 28 (0, 0)) (by (with_reducible repeat (first | refine blk_drewN ?_ _ | refine blk_drew ?_ | refine blk_alloc ?_ _)); refine blk_put (cs := #[.slice none 0 0]) ?_ 0 _ rfl; (with_reducible repeat (first | refine blk_drewN ?_ _ | refine blk_drew ?_ | refine blk_alloc ?_ _)); exact BK417.out) hb); have n6_ := Aside0.mk (below_step (zb HB.out) hb); clear HO416; clear BK405; clear BK406; clear BK407; clear BK417; clear HB; have HO416 := n0_; have HO420 := n1_; have BK405 := n2_; have BK406 := n3_; have BK407 := n4_; have BK417 := n5_; have HB := n6_; clear n0_ n1_ n2_ n3_ n4_ n5_ n6_; clear hb ho48) | ((with_reducible refine gate_callee (f := 35) rfl ?_); refine goesL_ (some 32) rfl rfl Try.func35 (by kernel_rfl) rfl #[.pointer (some ⟨gb405, 0, none⟩), .int .i64 a1] rfl zl ?_; (with_reducible refine (impl_Pool_below.calls kj5 _ A0_0 c0_0 l0_0 a1 t421 _ ?side1 ?side2 ?side3 A36.out).mono ?_); (case side1 => exact zh BK405.out); (case side2 => exact zc (Kd.C_below HR0_0.out HB.out)); (case side3 => exact HC0_0.out); rintro e w49 ⟨v422, rfl, ho0, hb⟩; refine ⟨_, rfl, ?_⟩; have n0_ := Aside0.mk (Kd.R_below (zr HO416.out) hb); have n1_ := Aside0.mk (Kd.R_elder' (zr HO420.out) (Kd.R_base ho0) hb); have n2_ := Aside0.mk (Kd.R_lower (Kd.R_new' ho0 (Kd.R_lt (zr HO420.out))) (below_size (zb HB.out))); have n3_ := Aside0.mk (blk_below (zh BK405.out) hb); have n4_ := Aside0.mk (blk_below (zh BK406.out) hb); have n5_ := Aside0.mk (blk_below (zh BK407.out) hb); have n6_ := Aside0.mk (blk_below (zh BK417.out) hb); have n7_ := Aside0.mk (below_step (zb HB.out) hb); clear HO416; clear HO420; clear BK405; clear BK406; clear BK407; clear BK417; clear HB; have HO416 := n0_; have HO420 := n1_; have HO423 := n2_; have BK405 := n3_; have BK406 := n4_; have BK407 := n5_; have BK417 := n6_; have HB := n7_; clear n0_ n1_ n2_ n3_ n4_ n5_ n6_ n7_; (try clear hb); (try clear hb2); (try clear hk); (try clear hi); (try clear ho0); obtain ⟨Ao50, co50, eo50⟩ := Kd.R_slice HO423.out; subst eo50))
       go_loopg [34] kj5 (fun kq v34 w' => ∃ (x9_2 : List Int) (x34_2 : Int) (x418000_2 : List (S55)) (u418000 : Value), v34 = .int .i64 x34_2 ∧ Aside0 (impl_TermMove.l0 kq a1 x9_2 t421 (t421.length : Int) x34_2 l0_0 l2_0 x418000_2 = some (r1, r2)) ∧ Aside0 (kq ≤ kj5) ∧ Aside0 (Kd.R (Kd.int .i64) 3 w' w.heap.size (fun k_ => some k_ ≠ ((.slice Ao50 t421.length co50) : Value).ownBlock) v419 x9_2) ∧ Aside0 (Kd.R (Kd.int .i64) 3 w' w.heap.size (fun k_ => some k_ ≠ (v419 : Value).ownBlock) (.slice Ao50 t421.length co50) t421) ∧ Aside0 (Kd.R k55 55 w' w.heap.size (fun _ => True) u418000 x418000_2) ∧ Aside0 (w'.heap[gb405]? = some (.cells #[(.slice A0_0 l0_0.length c0_0)] 28 (0, 0))) ∧ Aside0 (w'.heap[gb406]? = some (.cells #[(.slice A2_0 l2_0.length c2_0)] 28 (0, 0))) ∧ Aside0 (w'.heap[gb407]? = some (.cells #[(.slice none 0 0)] 28 (0, 0))) ∧ Aside0 (w'.heap[gb417]? = some (.cells #[u418000] 28 (0, 0))) ∧ Aside0 (Below w.heap.size w w'))
       case atStart => exact ⟨(y418), (0), (t414), (.slice Ao42 t414.length co42), (by first | rfl | (simp; done) | (simp [*]; done)), H', ⟨Nat.le_refl _⟩, ⟨zr (Kd.R_mono HO420.out (fun _ hk => hk.2))⟩, ⟨zr (Kd.R_mono HO423.out (fun _ hk => hk.2))⟩, ⟨zr HO416.out⟩, ⟨zh BK405.out⟩, ⟨zh BK406.out⟩, ⟨zh BK407.out⟩, ⟨zh BK417.out⟩, ⟨zb HB.out⟩⟩
       case round =>
        clear H'
        try clear c1
        try clear c2
        try clear p2
        try clear c3
        try clear c4
        try clear c5
        try clear p6
        try clear c10
        try clear c11
        try clear c15
        try clear c18
        try clear c19
        try clear c23
        try clear c25
        try clear c26
        try clear c30
        try clear c32
        try clear c33
        try clear c34
        try clear c34b0
        try clear c34b1
        try clear c35
        try clear c35b0
        try clear c35b1
        try clear c37
        try clear c38
        try clear c43
        try clear c44
        try clear c45
        try clear hcz12_0
        try clear hcz20_0
        try clear hcz27_0
        try clear hcz31_0
        try clear hcz39_0
        try clear hcz46_0
        try clear hfz12_0
        try clear hfz20_0
        try clear hfz27_0
        try clear hfz31_0
        try clear hfz39_0
        try clear hfz46_0
        try clear p2
        try clear HO_9
        try clear HO_32
        try clear HO_418000
        try clear BK405
        try clear BK406
        try clear BK407
        try clear BK417
        try clear HB
        obtain ⟨x9_2, x34_2, x418000_2, u418000, rfl, HA, HK2, HO_9, HO_32, HO_418000, BK405, BK406, BK407, BK417, HB⟩ := hrel
        cases gk with
        | zero => exact absurd HA.out (by simp [impl_TermMove.l0])
        | succ k2 =>
         have H := HA.out
         clear HA
         simp only [impl_TermMove.l0] at H
         by_cases c51 : x34_2 < (t421.length : Int)
         ·rw [if_pos c51] at H
          have c51b0 : decide (x34_2 < (t421.length : Int)) = true := decide_eq_true c51
          clear c51
          by_cases c52 : 0 ≤ x34_2
          ·rw [if_pos c52] at H
           have c52b0 : decide (0 ≤ x34_2) = true := decide_eq_true c52
           clear c52
           by_cases c53 : x34_2 < (t421.length : Int)
           ·rw [if_pos c53] at H
            have c53b0 : decide (x34_2 < (t421.length : Int)) = true := decide_eq_true c53
            clear c53
            by_cases c54 : 0 ≤ (rd t421 x34_2)
            ·rw [if_pos c54] at H
             have c54b0 : decide (0 ≤ (rd t421 x34_2)) = true := decide_eq_true c54
             clear c54
             by_cases c55 : (rd t421 x34_2) < (l0_0.length : Int)
             ·rw [if_pos c55] at H
              have c55b0 : decide ((rd t421 x34_2) < (l0_0.length : Int)) = true := decide_eq_true c55
              clear c55
              replace H := Option.bind_eq_some_iff.mp H
              obtain ⟨⟨t427, t430⟩, A560, H⟩ := H
              replace H : (if (rd t421 x34_2) < (x9_2.length : Int) then ((some (x9_2.set ((rd t421 x34_2) : Int).toNat t430 : List Int)).bind fun y431 => (if (rd y431 (rd t421 x34_2)) < 0 then ((impl_copyPool.f l2_0).bind fun t433 => (some (t433, (-1)))) else (impl_TermMove.l0 k2 a1 y431 t421 (t421.length : Int) (wrap64 (x34_2 + 1)) l0_0 l2_0 t427))) else (none)) = some (r1, r2) := H
              have A56 := Aside0.mk A560
              clear A560
              by_cases c57 : (rd t421 x34_2) < (x9_2.length : Int)
              ·rw [if_pos c57] at H
               have c57b0 : decide ((rd t421 x34_2) < (x9_2.length : Int)) = true := decide_eq_true c57
               clear c57
               obtain ⟨y431, hy431⟩ : ∃ y_ : List Int, y_ = (x9_2.set ((rd t421 x34_2) : Int).toNat t430) := ⟨_, rfl⟩
               replace H : (if (rd y431 (rd t421 x34_2)) < 0 then ((impl_copyPool.f l2_0).bind fun t433 => (some (t433, (-1)))) else (impl_TermMove.l0 k2 a1 y431 t421 (t421.length : Int) (wrap64 (x34_2 + 1)) l0_0 l2_0 t427)) = some (r1, r2) := by first | (rw [hy431]; with_reducible exact H) | (have H2_ := (Option.bind_some _ _).symm.trans H; rw [hy431]; with_reducible exact H2_) | (have H2_ := (Option.bind_some _ _).symm.trans H; with_reducible exact H2_) | with_reducible exact H | (rw [hy431]; exact H) | exact H
               have Ny431 := Aside0.mk hy431
               clear hy431
               by_cases c59 : (rd y431 (rd t421 x34_2)) < 0
               ·rw [if_pos c59] at H
                have c59b0 : decide ((rd y431 (rd t421 x34_2)) < 0) = true := decide_eq_true c59
                clear c59
                replace H := Option.bind_eq_some_iff.mp H
                obtain ⟨t433, A600, H⟩ := H
                replace H : (some (t433, (-1))) = some (r1, r2) := H
                have A60 := Aside0.mk A600
                clear A600
                simp only [Option.some.injEq, Prod.mk.injEq] at H
                obtain ⟨rfl, rfl⟩ := H
                have p425 : 0 ≤ (x34_2 : Int) := of_decide_eq_true (by first | (with_reducible assumption) | assumption)
                have q425 : x34_2 < (t421.length : Int) := of_decide_eq_true (by first | (with_reducible assumption) | assumption)
                obtain ⟨ad425, e425, hx425_0⟩ := Kd.at_int (Kd.R_reads' HO_32.out).2.2 x34_2 p425 q425
                cases e425
                replace p425 := eq_true p425
                replace q425 := eq_true q425
                have hnb61 := NB405_406.out
                have hnc61 := NB406_405.out
                have hnb62 := NB405_407.out
                have hnc62 := NB407_405.out
                have hnb63 := NB405_417.out
                have hnc63 := NB417_405.out
                have hcz64_0 : wr.cell? ⟨gb405, 0, none⟩ = some (.slice A0_0 l0_0.length c0_0) := (blk_cell BK405.out 0).trans rfl
                have hfz64_0 := blk_frozen BK405.out 0
                have p426 : 0 ≤ ((rd t421 x34_2) : Int) := of_decide_eq_true (by first | (with_reducible assumption) | assumption)
                have q426 : (rd t421 x34_2) < (l0_0.length : Int) := of_decide_eq_true (by first | (with_reducible assumption) | assumption)
                obtain ⟨ad426, e426, hx426_0, hx426_1, hx426_2⟩ := at_T55 HR0_0.out (rd t421 x34_2) p426 q426
                cases e426
                replace hx426_0 := (HB.out.cell (World.block_lt_of_cell? w _ hx426_0)).trans hx426_0
                replace hx426_1 := (HB.out.cell (World.block_lt_of_cell? w _ hx426_1)).trans hx426_1
                replace hx426_2 := (HB.out.cell (World.block_lt_of_cell? w _ hx426_2)).trans hx426_2
                replace p426 := eq_true p426
                replace q426 := eq_true q426
                have hnb65 := NB417_406.out
                have hnc65 := NB406_417.out
                have hnb66 := NB417_407.out
                have hnc66 := NB407_417.out
                have hcz67_0 : wr.cell? ⟨gb417, 0, none⟩ = some (u418000) := (blk_cell BK417.out 0).trans rfl
                have hfz67_0 := blk_frozen BK417.out 0
                obtain ⟨Ao68, co68, eo68⟩ := Kd.R_slice HO_418000.out
                subst eo68
                obtain ⟨Ao69, co69, eo69⟩ := Kd.R_slice HO_9.out
                subst eo69
                go_wp2_with (first | ((with_reducible refine gate_callee (f := 36) rfl ?_); refine goesL_ (some 46) rfl rfl Try.func36 (by kernel_rfl) rfl #[.pointer (some ⟨gb417, 0, none⟩), .agg #[.int .i64 ((rd_T55 l0_0 (rd t421 x34_2)).f0), .int .i64 ((rd_T55 l0_0 (rd t421 x34_2)).f1), .int .i64 ((rd_T55 l0_0 (rd t421 x34_2)).f2)], .slice Ao69 x9_2.length co69] rfl zl ?_; (with_reducible refine (impl_Pool_rebuilt.calls k2 gb417 (fun k_ => some k_ = (.slice Ao68 x418000_2.length co68 : Value).ownBlock) (.slice Ao68 x418000_2.length co68) x418000_2 ((rd_T55 l0_0 (rd t421 x34_2)).f0) ((rd_T55 l0_0 (rd t421 x34_2)).f1) ((rd_T55 l0_0 (rd t421 x34_2)).f2) _ _ x9_2 (t427, t430) w _ ?hB ?hge ?hbx ?ho ?hr ?hc A56.out).mono ?_); (case hB => exact zb HB.out); (case hge => exact GE417.out); (case hbx => (with_reducible repeat (first | refine blk_drewN ?_ _ | refine blk_drew ?_ | refine blk_alloc ?_ _)); exact BK417.out); (case ho => exact Kd.R_tight rfl HO_418000.out); (case hr => exact zc (Kd.R_reads' HO_9.out).2.2); (case hc => exact (Kd.R_reads' HO_9.out).2.1); rintro e w73 ⟨rfl, hb, hkp, u_, hbx, ho⟩; refine ⟨_, rfl, ?_⟩; have z0_ := Aside0.mk (Kd.R_mono (ok' := fun k_ => some k_ ≠ (.slice (some ad425) t421.length co50 : Value).ownBlock) (Kd.R_keptB (Kd.R_types (Kd.R_apart' HO_9.out (Kd.R_typed HO_418000.out) (by decide)) BK417.out (by decide)) hkp (fun k_ hk_ hs_ => by first | exact hs_.elim (fun a_ => hk_.1.2 a_) (fun b_ => hk_.2 b_) | (revert hk_; simp only [and_imp]; intros; exact absurd hs_ (by assumption)))) (fun k_ hk_ => by first | exact hk_.1.1.1 | (revert hk_; simp only [and_imp]; intros; and_intros <;> assumption))); have z1_ := Aside0.mk (Kd.R_mono (ok' := fun k_ => some k_ ≠ (.slice Ao69 x9_2.length co69 : Value).ownBlock) (Kd.R_keptB (Kd.R_types (Kd.R_apart' HO_32.out (Kd.R_typed HO_418000.out) (by decide)) BK417.out (by decide)) hkp (fun k_ hk_ hs_ => by first | exact hs_.elim (fun a_ => hk_.1.2 a_) (fun b_ => hk_.2 b_) | (revert hk_; simp only [and_imp]; intros; exact absurd hs_ (by assumption)))) (fun k_ hk_ => by first | exact hk_.1.1.1 | (revert hk_; simp only [and_imp]; intros; and_intros <;> assumption))); have z2_ := Aside0.mk (blk_kept (zh BK405.out) hkp (fun hs_ => hs_.elim (fun e_ => (Kd.R_ne HO_418000.out BK405.out (by decide)) e_) NB405_417.out)); have z3_ := Aside0.mk (blk_kept (zh BK406.out) hkp (fun hs_ => hs_.elim (fun e_ => (Kd.R_ne HO_418000.out BK406.out (by decide)) e_) NB406_417.out)); have z4_ := Aside0.mk (blk_kept (zh BK407.out) hkp (fun hs_ => hs_.elim (fun e_ => (Kd.R_ne HO_418000.out BK407.out (by decide)) e_) NB407_417.out)); have z5_ := Aside0.mk hbx; have z6_ := Aside0.mk (Kd.R_mono (ok' := fun k_ => True) ho (fun k_ hk_ => trivial)); have z7_ := Aside0.mk (hb); clear HO_9 HO_32 BK405 BK406 BK407 BK417 HB HO_418000; have HO_9 := z0_; have HO_32 := z1_; have BK405 := z2_; have BK406 := z3_; have BK407 := z4_; have BK417 := z5_; have HO429 := z6_; have HB := z7_; clear z0_ z1_ z2_ z3_ z4_ z5_ z6_ z7_; clear hb hkp hbx ho; obtain ⟨Ao71, co71, eo71⟩ := Kd.R_slice HO429.out; subst eo71; have p58 : 0 ≤ ((rd t421 x34_2) : Int) := of_decide_eq_true (by first | (with_reducible assumption) | assumption); have q58 : ((rd t421 x34_2) : Int) < ((x9_2.length : Int) : Int) := of_decide_eq_true (by first | (with_reducible assumption) | assumption); obtain ⟨go58, co58, eo58, gb58, gl58, cl58, HG58⟩ := Kd.R_form HO_9.out (by omega); (first | cases eo58 | (injection eo58 with ea_ en_ ec_; (first | subst ea_ | (injection ea_ with ea_; subst ea_)); subst ec_; clear en_)); have GB58 := Aside0.mk gb58; have GG58 := Aside0.mk HG58; clear gb58 gl58 HG58; obtain ⟨hx58_0, hf58_0⟩ := Kd.R_celln 0 HO_9.out ((rd t421 x34_2) : Int) p58 q58; replace p58 := eq_true p58; replace q58 := eq_true q58; obtain ⟨hy74_, hz74_⟩ := Kd.R_celln 0 HO_9.out ((rd t421 x34_2) : Int) (of_decide_eq_true (by first | (with_reducible assumption) | assumption)) (of_decide_eq_true (by first | (with_reducible assumption) | assumption)); have HP74 := Kd.R_putg HO_9.out ((rd t421 x34_2) : Int) t430) | ((with_reducible refine gate_store (t := 3) (p := 47) rfl ?_); refine store_event (t := 3) (p := 47) (v := ?vo_w75) (w1 := (w73.setCell ⟨go58, ((rd t421 x34_2) : Int).toNat, none⟩ (.int .i64 t430))) ?hg ?ho ?hn ?hr ?_; (case ho => rfl); (case hg => rfl); (case hn => rfl); (case hr => first | (go_simp; done) | (go_simp; rfl)); intro w75 hw; have hg : w73.grownBy w75 (some go58) := (by rw [hw]; exact HP74.2); have hp_ : Kd.R (Kd.int .i64) 3 w75 w.heap.size (fun k_ => some k_ ≠ (.slice (some ad425) t421.length co50 : Value).ownBlock) (.slice (some ⟨go58, 0, none⟩) x9_2.length co69) y431 := (by rw [hw, Ny431.out]; exact HP74.1); clear HP74; have n0_ := Aside0.mk (hp_); have n1_ := Aside0.mk (Kd.R_after (v := (.slice (some ⟨go58, 0, none⟩) x9_2.length co69)) (v1 := (.slice (some ⟨go58, 0, none⟩) x9_2.length co69)) (ok := (fun _ => True)) (by (with_reducible repeat (first | apply Kd.R_alloc | apply Kd.R_drewN | apply Kd.R_drew)); exact Kd.R_mono HO_32.out (fun _ hk => ⟨trivial, hk⟩)) hg (.inl rfl)); have n2_ := Aside0.mk (blk_grown (zh BK405.out) hg (Kd.R_ne HO_9.out BK405.out (by decide))); have n3_ := Aside0.mk (blk_grown (zh BK406.out) hg (Kd.R_ne HO_9.out BK406.out (by decide))); have n4_ := Aside0.mk (blk_grown (zh BK407.out) hg (Kd.R_ne HO_9.out BK407.out (by decide))); have n5_ := Aside0.mk (blk_grown (zh BK417.out) hg (Kd.R_ne HO_9.out BK417.out (by decide))); have n6_ := Aside0.mk (Kd.R_over' (v := (.slice (some ⟨go58, 0, none⟩) x9_2.length co69)) (zr HO429.out) (Kd.R_typed HO_9.out) (by decide) hg); have n7_ := Aside0.mk ((by rw [hw]; exact below_set (HB.out) GB58.out : Below w.heap.size w w75)); clear HO_9; clear HO_32; clear BK405; clear BK406; clear BK407; clear BK417; clear HO429; clear HB; have HO_9 := n0_; have HO_32 := n1_; have BK405 := n2_; have BK406 := n3_; have BK407 := n4_; have BK417 := n5_; have HO429 := n6_; have HB := n7_; clear n0_ n1_ n2_ n3_ n4_ n5_ n6_ n7_; clear hg hw hp_; have p432 : 0 ≤ ((rd t421 x34_2) : Int) := of_decide_eq_true (by first | (with_reducible assumption) | assumption); have q432 : (rd t421 x34_2) < (y431.length : Int) := (by have h_ : ((rd t421 x34_2) : Int) < ((x9_2.length : Int) : Int) := of_decide_eq_true (by first | (with_reducible assumption) | assumption); first | (have e_ := (Kd.R_reads' HO_9.out).1; omega) | simpa only [Ny431.out, List.length_set] using h_); have ql432 : (((rd t421 x34_2) : Int) < ((x9_2.length : Int) : Int)) = True := eq_true (of_decide_eq_true (by first | (with_reducible assumption) | assumption)); obtain ⟨ad432, e432, hx432_0⟩ := Kd.at_int (Kd.R_reads' HO_9.out).2.2 (rd t421 x34_2) p432 q432; obtain rfl : (⟨go58, 0, none⟩ : Addr) = ad432 := (by injection e432); (first | simp only [add_plain] at hx432_0 | simp only [add_at] at hx432_0 | simp only [Addr.add, Nat.zero_add] at hx432_0 | skip); replace p432 := eq_true p432; replace q432 := eq_true q432; have hnb76 := NB406_407.out; have hnc76 := NB407_406.out; have hcz77_0 : w75.cell? ⟨gb406, 0, none⟩ = some (.slice A2_0 l2_0.length c2_0) := (blk_cell BK406.out 0).trans rfl; have hfz77_0 := blk_frozen BK406.out 0) | ((with_reducible refine gate_callee (f := 34) rfl ?_); refine goesL_ (some 54) rfl rfl Try.func34 (by kernel_rfl) rfl #[.agg #[.slice A2_0 l2_0.length c2_0]] rfl zl ?_; (with_reducible refine (impl_copyPool.calls _ _ l2_0 t433 _ ?side1 ?side2 A60.out).mono ?_); (case side1 => exact zc (Kd.C_below HR2_0.out HB.out)); (case side2 => exact HC2_0.out); rintro e w78 ⟨v434, rfl, ho0, hb⟩; refine ⟨_, rfl, ?_⟩; have n0_ := Aside0.mk (Kd.R_below (zr HO_9.out) hb); have n1_ := Aside0.mk (Kd.R_below (zr HO_32.out) hb); have n2_ := Aside0.mk (Kd.R_elder' (zr HO429.out) (Kd.R_base ho0) hb); have n3_ := Aside0.mk (Kd.R_lower (Kd.R_new' ho0 (Kd.R_lt (zr HO429.out))) (below_size (zb HB.out))); have n4_ := Aside0.mk (blk_below (zh BK405.out) hb); have n5_ := Aside0.mk (blk_below (zh BK406.out) hb); have n6_ := Aside0.mk (blk_below (zh BK407.out) hb); have n7_ := Aside0.mk (blk_below (zh BK417.out) hb); have n8_ := Aside0.mk (below_step (zb HB.out) hb); clear HO_9; clear HO_32; clear HO429; clear BK405; clear BK406; clear BK407; clear BK417; clear HB; have HO_9 := n0_; have HO_32 := n1_; have HO429 := n2_; have HO435 := n3_; have BK405 := n4_; have BK406 := n5_; have BK407 := n6_; have BK417 := n7_; have HB := n8_; clear n0_ n1_ n2_ n3_ n4_ n5_ n6_ n7_ n8_; (try clear hb); (try clear hb2); (try clear hk); (try clear hi); (try clear ho0); obtain ⟨Ao79, co79, eo79⟩ := Kd.R_slice HO435.out; subst eo79; have hcz80_0 : w78.cell? ⟨gb407, 0, none⟩ = some (.slice none 0 0) := (blk_cell BK407.out 0).trans rfl; have hfz80_0 := blk_frozen BK407.out 0))
                refine bodyPost_ret (results_ct rfl _ _ gb407 28 #[.slice Ao79 t433.length co79] (0, 0) _ rfl (by (with_reducible repeat (first | refine blk_drewN ?_ _ | refine blk_drew ?_ | refine blk_alloc ?_ _)); refine blk_put (cs := #[.slice none 0 0]) ?_ 0 _ rfl; (with_reducible repeat (first | refine blk_drewN ?_ _ | refine blk_drew ?_ | refine blk_alloc ?_ _)); exact BK407.out) Try.underlying28 rfl (by kernel_rfl)) rfl ?_
                exact ⟨_, by first | rfl | (simp [errW_none, errW_some] <;> rfl) | (simp only [← hji33]; first | rfl | (simp [errW_none, errW_some] <;> rfl)) | (simp [*, errW_none, errW_some] <;> rfl), zr (Kd.R_mono (Kd.R_far (p := ⟨gb407, 0, none⟩) (Kd.R_types HO435.out BK407.out (by decide)) (fun _ hk => hk.2) (.slice Ao79 t433.length co79)) (fun _ hk => trivial)), zb HB.out⟩
               ·rw [if_neg c59] at H
                have c59b0 : decide ((rd y431 (rd t421 x34_2)) < 0) = false := decide_eq_false c59
                clear c59
                have H' := Aside0.mk H
                clear H
                have p425 : 0 ≤ (x34_2 : Int) := of_decide_eq_true (by first | (with_reducible assumption) | assumption)
                have q425 : x34_2 < (t421.length : Int) := of_decide_eq_true (by first | (with_reducible assumption) | assumption)
                obtain ⟨ad425, e425, hx425_0⟩ := Kd.at_int (Kd.R_reads' HO_32.out).2.2 x34_2 p425 q425
                cases e425
                replace p425 := eq_true p425
                replace q425 := eq_true q425
                have hnb81 := NB405_406.out
                have hnc81 := NB406_405.out
                have hnb82 := NB405_407.out
                have hnc82 := NB407_405.out
                have hnb83 := NB405_417.out
                have hnc83 := NB417_405.out
                have hcz84_0 : wr.cell? ⟨gb405, 0, none⟩ = some (.slice A0_0 l0_0.length c0_0) := (blk_cell BK405.out 0).trans rfl
                have hfz84_0 := blk_frozen BK405.out 0
                have p426 : 0 ≤ ((rd t421 x34_2) : Int) := of_decide_eq_true (by first | (with_reducible assumption) | assumption)
                have q426 : (rd t421 x34_2) < (l0_0.length : Int) := of_decide_eq_true (by first | (with_reducible assumption) | assumption)
                obtain ⟨ad426, e426, hx426_0, hx426_1, hx426_2⟩ := at_T55 HR0_0.out (rd t421 x34_2) p426 q426
                cases e426
                replace hx426_0 := (HB.out.cell (World.block_lt_of_cell? w _ hx426_0)).trans hx426_0
                replace hx426_1 := (HB.out.cell (World.block_lt_of_cell? w _ hx426_1)).trans hx426_1
                replace hx426_2 := (HB.out.cell (World.block_lt_of_cell? w _ hx426_2)).trans hx426_2
                replace p426 := eq_true p426
                replace q426 := eq_true q426
                have hnb85 := NB417_406.out
                have hnc85 := NB406_417.out
                have hnb86 := NB417_407.out
                have hnc86 := NB407_417.out
                have hcz87_0 : wr.cell? ⟨gb417, 0, none⟩ = some (u418000) := (blk_cell BK417.out 0).trans rfl
                have hfz87_0 := blk_frozen BK417.out 0
                obtain ⟨Ao88, co88, eo88⟩ := Kd.R_slice HO_418000.out
                subst eo88
                obtain ⟨Ao89, co89, eo89⟩ := Kd.R_slice HO_9.out
                subst eo89
                go_wp2_with (first | ((with_reducible refine gate_callee (f := 36) rfl ?_); refine goesL_ (some 46) rfl rfl Try.func36 (by kernel_rfl) rfl #[.pointer (some ⟨gb417, 0, none⟩), .agg #[.int .i64 ((rd_T55 l0_0 (rd t421 x34_2)).f0), .int .i64 ((rd_T55 l0_0 (rd t421 x34_2)).f1), .int .i64 ((rd_T55 l0_0 (rd t421 x34_2)).f2)], .slice Ao89 x9_2.length co89] rfl zl ?_; (with_reducible refine (impl_Pool_rebuilt.calls k2 gb417 (fun k_ => some k_ = (.slice Ao88 x418000_2.length co88 : Value).ownBlock) (.slice Ao88 x418000_2.length co88) x418000_2 ((rd_T55 l0_0 (rd t421 x34_2)).f0) ((rd_T55 l0_0 (rd t421 x34_2)).f1) ((rd_T55 l0_0 (rd t421 x34_2)).f2) _ _ x9_2 (t427, t430) w _ ?hB ?hge ?hbx ?ho ?hr ?hc A56.out).mono ?_); (case hB => exact zb HB.out); (case hge => exact GE417.out); (case hbx => (with_reducible repeat (first | refine blk_drewN ?_ _ | refine blk_drew ?_ | refine blk_alloc ?_ _)); exact BK417.out); (case ho => exact Kd.R_tight rfl HO_418000.out); (case hr => exact zc (Kd.R_reads' HO_9.out).2.2); (case hc => exact (Kd.R_reads' HO_9.out).2.1); rintro e w93 ⟨rfl, hb, hkp, u_, hbx, ho⟩; refine ⟨_, rfl, ?_⟩; have z0_ := Aside0.mk (Kd.R_mono (ok' := fun k_ => some k_ ≠ (.slice (some ad425) t421.length co50 : Value).ownBlock) (Kd.R_keptB (Kd.R_types (Kd.R_apart' HO_9.out (Kd.R_typed HO_418000.out) (by decide)) BK417.out (by decide)) hkp (fun k_ hk_ hs_ => by first | exact hs_.elim (fun a_ => hk_.1.2 a_) (fun b_ => hk_.2 b_) | (revert hk_; simp only [and_imp]; intros; exact absurd hs_ (by assumption)))) (fun k_ hk_ => by first | exact hk_.1.1.1 | (revert hk_; simp only [and_imp]; intros; and_intros <;> assumption))); have z1_ := Aside0.mk (Kd.R_mono (ok' := fun k_ => some k_ ≠ (.slice Ao89 x9_2.length co89 : Value).ownBlock) (Kd.R_keptB (Kd.R_types (Kd.R_apart' HO_32.out (Kd.R_typed HO_418000.out) (by decide)) BK417.out (by decide)) hkp (fun k_ hk_ hs_ => by first | exact hs_.elim (fun a_ => hk_.1.2 a_) (fun b_ => hk_.2 b_) | (revert hk_; simp only [and_imp]; intros; exact absurd hs_ (by assumption)))) (fun k_ hk_ => by first | exact hk_.1.1.1 | (revert hk_; simp only [and_imp]; intros; and_intros <;> assumption))); have z2_ := Aside0.mk (blk_kept (zh BK405.out) hkp (fun hs_ => hs_.elim (fun e_ => (Kd.R_ne HO_418000.out BK405.out (by decide)) e_) NB405_417.out)); have z3_ := Aside0.mk (blk_kept (zh BK406.out) hkp (fun hs_ => hs_.elim (fun e_ => (Kd.R_ne HO_418000.out BK406.out (by decide)) e_) NB406_417.out)); have z4_ := Aside0.mk (blk_kept (zh BK407.out) hkp (fun hs_ => hs_.elim (fun e_ => (Kd.R_ne HO_418000.out BK407.out (by decide)) e_) NB407_417.out)); have z5_ := Aside0.mk hbx; have z6_ := Aside0.mk (Kd.R_mono (ok' := fun k_ => True) ho (fun k_ hk_ => trivial)); have z7_ := Aside0.mk (hb); clear HO_9 HO_32 BK405 BK406 BK407 BK417 HB HO_418000; have HO_9 := z0_; have HO_32 := z1_; have BK405 := z2_; have BK406 := z3_; have BK407 := z4_; have BK417 := z5_; have HO429 := z6_; have HB := z7_; clear z0_ z1_ z2_ z3_ z4_ z5_ z6_ z7_; clear hb hkp hbx ho; obtain ⟨Ao91, co91, eo91⟩ := Kd.R_slice HO429.out; subst eo91; have p58 : 0 ≤ ((rd t421 x34_2) : Int) := of_decide_eq_true (by first | (with_reducible assumption) | assumption); have q58 : ((rd t421 x34_2) : Int) < ((x9_2.length : Int) : Int) := of_decide_eq_true (by first | (with_reducible assumption) | assumption); obtain ⟨go58, co58, eo58, gb58, gl58, cl58, HG58⟩ := Kd.R_form HO_9.out (by omega); (first | cases eo58 | (injection eo58 with ea_ en_ ec_; (first | subst ea_ | (injection ea_ with ea_; subst ea_)); subst ec_; clear en_)); have GB58 := Aside0.mk gb58; have GG58 := Aside0.mk HG58; clear gb58 gl58 HG58; obtain ⟨hx58_0, hf58_0⟩ := Kd.R_celln 0 HO_9.out ((rd t421 x34_2) : Int) p58 q58; replace p58 := eq_true p58; replace q58 := eq_true q58; obtain ⟨hy94_, hz94_⟩ := Kd.R_celln 0 HO_9.out ((rd t421 x34_2) : Int) (of_decide_eq_true (by first | (with_reducible assumption) | assumption)) (of_decide_eq_true (by first | (with_reducible assumption) | assumption)); have HP94 := Kd.R_putg HO_9.out ((rd t421 x34_2) : Int) t430) | ((with_reducible refine gate_store (t := 3) (p := 47) rfl ?_); refine store_event (t := 3) (p := 47) (v := ?vo_w95) (w1 := (w93.setCell ⟨go58, ((rd t421 x34_2) : Int).toNat, none⟩ (.int .i64 t430))) ?hg ?ho ?hn ?hr ?_; (case ho => rfl); (case hg => rfl); (case hn => rfl); (case hr => first | (go_simp; done) | (go_simp; rfl)); intro w95 hw; have hg : w93.grownBy w95 (some go58) := (by rw [hw]; exact HP94.2); have hp_ : Kd.R (Kd.int .i64) 3 w95 w.heap.size (fun k_ => some k_ ≠ (.slice (some ad425) t421.length co50 : Value).ownBlock) (.slice (some ⟨go58, 0, none⟩) x9_2.length co89) y431 := (by rw [hw, Ny431.out]; exact HP94.1); clear HP94; have n0_ := Aside0.mk (hp_); have n1_ := Aside0.mk (Kd.R_after (v := (.slice (some ⟨go58, 0, none⟩) x9_2.length co89)) (v1 := (.slice (some ⟨go58, 0, none⟩) x9_2.length co89)) (ok := (fun _ => True)) (by (with_reducible repeat (first | apply Kd.R_alloc | apply Kd.R_drewN | apply Kd.R_drew)); exact Kd.R_mono HO_32.out (fun _ hk => ⟨trivial, hk⟩)) hg (.inl rfl)); have n2_ := Aside0.mk (blk_grown (zh BK405.out) hg (Kd.R_ne HO_9.out BK405.out (by decide))); have n3_ := Aside0.mk (blk_grown (zh BK406.out) hg (Kd.R_ne HO_9.out BK406.out (by decide))); have n4_ := Aside0.mk (blk_grown (zh BK407.out) hg (Kd.R_ne HO_9.out BK407.out (by decide))); have n5_ := Aside0.mk (blk_grown (zh BK417.out) hg (Kd.R_ne HO_9.out BK417.out (by decide))); have n6_ := Aside0.mk (Kd.R_over' (v := (.slice (some ⟨go58, 0, none⟩) x9_2.length co89)) (zr HO429.out) (Kd.R_typed HO_9.out) (by decide) hg); have n7_ := Aside0.mk ((by rw [hw]; exact below_set (HB.out) GB58.out : Below w.heap.size w w95)); clear HO_9; clear HO_32; clear BK405; clear BK406; clear BK407; clear BK417; clear HO429; clear HB; have HO_9 := n0_; have HO_32 := n1_; have BK405 := n2_; have BK406 := n3_; have BK407 := n4_; have BK417 := n5_; have HO429 := n6_; have HB := n7_; clear n0_ n1_ n2_ n3_ n4_ n5_ n6_ n7_; clear hg hw hp_; have p432 : 0 ≤ ((rd t421 x34_2) : Int) := of_decide_eq_true (by first | (with_reducible assumption) | assumption); have q432 : (rd t421 x34_2) < (y431.length : Int) := (by have h_ : ((rd t421 x34_2) : Int) < ((x9_2.length : Int) : Int) := of_decide_eq_true (by first | (with_reducible assumption) | assumption); first | (have e_ := (Kd.R_reads' HO_9.out).1; omega) | simpa only [Ny431.out, List.length_set] using h_); have ql432 : (((rd t421 x34_2) : Int) < ((x9_2.length : Int) : Int)) = True := eq_true (of_decide_eq_true (by first | (with_reducible assumption) | assumption)); obtain ⟨ad432, e432, hx432_0⟩ := Kd.at_int (Kd.R_reads' HO_9.out).2.2 (rd t421 x34_2) p432 q432; obtain rfl : (⟨go58, 0, none⟩ : Addr) = ad432 := (by injection e432); (first | simp only [add_plain] at hx432_0 | simp only [add_at] at hx432_0 | simp only [Addr.add, Nat.zero_add] at hx432_0 | skip); replace p432 := eq_true p432; replace q432 := eq_true q432))
                go_roundg k2
                case measure => have := HJ5.out; have := HK2.out; omega
                case rel => exact ⟨(y431), (wrap64 (x34_2 + 1)), (t427), (.slice Ao91 t427.length co91), (by first | rfl | (simp; done) | (simp [*]; done)), H', ⟨by have := HJ5.out; have := HK2.out; omega⟩, ⟨zr HO_9.out⟩, ⟨zr (Kd.R_mono HO_32.out (fun _ hk => hk.2))⟩, ⟨zr HO429.out⟩, ⟨zh BK405.out⟩, ⟨zh BK406.out⟩, ⟨zh BK407.out⟩, ⟨zh BK417.out⟩, ⟨zb HB.out⟩⟩
              ·rw [if_neg c57] at H
               exact absurd H (by simp)
             ·rw [if_neg c55] at H
              exact absurd H (by simp)
            ·rw [if_neg c54] at H
             exact absurd H (by simp)
           ·rw [if_neg c53] at H
            exact absurd H (by simp)
          ·rw [if_neg c52] at H
           exact absurd H (by simp)
         ·rw [if_neg c51] at H
          have c51b0 : decide (x34_2 < (t421.length : Int)) = false := decide_eq_false c51
          clear c51
          by_cases c96 : 0 ≤ a1
          ·rw [if_pos c96] at H
           have c96b0 : decide (0 ≤ a1) = true := decide_eq_true c96
           clear c96
           by_cases c97 : a1 < (x9_2.length : Int)
           ·rw [if_pos c97] at H
            have c97b0 : decide (a1 < (x9_2.length : Int)) = true := decide_eq_true c97
            clear c97
            simp only [Option.some.injEq, Prod.mk.injEq] at H
            obtain ⟨rfl, rfl⟩ := H
            try go_wp2
            have n0_ := Aside0.mk (Kd.R_drew HO_9.out)
            have n1_ := Aside0.mk (Kd.R_drew HO_32.out)
            have n2_ := Aside0.mk (Kd.R_drew HO_418000.out)
            have n3_ := Aside0.mk (blk_drew BK405.out)
            have n4_ := Aside0.mk (blk_drew BK406.out)
            have n5_ := Aside0.mk (blk_drew BK407.out)
            have n6_ := Aside0.mk (blk_drew BK417.out)
            have n7_ := Aside0.mk (below_drew1 HB.out)
            clear HO_9
            clear HO_32
            clear HO_418000
            clear BK405
            clear BK406
            clear BK407
            clear BK417
            clear HB
            have HO_9 := n0_
            have HO_32 := n1_
            have HO_418000 := n2_
            have BK405 := n3_
            have BK406 := n4_
            have BK407 := n5_
            have BK417 := n6_
            have HB := n7_
            clear n0_ n1_ n2_ n3_ n4_ n5_ n6_ n7_
            obtain ⟨Ao99, co99, eo99⟩ := Kd.R_slice HO_9.out
            (first | subst eo99 | (injection eo99 with f1_ f2_ f3_; have f4_ := f1_.symm; have f5_ := f3_.symm; clear f1_ f2_ f3_; subst f4_; subst f5_))
            have p424 : 0 ≤ (a1 : Int) := of_decide_eq_true (by first | (with_reducible assumption) | assumption)
            have q424 : a1 < (x9_2.length : Int) := of_decide_eq_true (by first | (with_reducible assumption) | assumption)
            obtain ⟨ad424, e424, hx424_0⟩ := Kd.at_int (Kd.R_reads' HO_9.out).2.2 a1 p424 q424
            cases e424
            replace p424 := eq_true p424
            replace q424 := eq_true q424
            obtain ⟨Ao100, co100, eo100⟩ := Kd.R_slice HO_418000.out
            (first | subst eo100 | (injection eo100 with f1_ f2_ f3_; have f4_ := f1_.symm; have f5_ := f3_.symm; clear f1_ f2_ f3_; subst f4_; subst f5_))
            refine start_ (n := 7) (S := fun w' => w'.cell? ⟨gb417, 0, none⟩ = some (.slice Ao100 x418000_2.length co100) ∧ w'.cell? (ad424.add (a1).toNat) = some (.int .i64 (rd x9_2 a1))) (ds := []) #[false, false, false, false, false, false, false] (by kernel_rfl) rfl rfl ⟨(blk_cell BK417.out 0).trans rfl, hx424_0⟩ (fun hHeld => ?_)
            generalize wr.drew = w98 at HO_9 HO_32 HO_418000 BK405 BK406 BK407 BK417 HB hx424_0 hHeld ⊢
            refine pure_ (i := 1) (N := some 57) (v := ?_) (a' := ?_) #[false, true, false, false, false, false, false] rfl rfl (by kernel_rfl) (fun _ _ _ h => h) (Or.inl ⟨by rfl, ?_⟩) ?_ ?_
            rotate_left
            ·intro w'
             go_simp
             with_reducible rfl
            rotate_left
            ·simp only [Act.put, List.setIfInBounds_toArray, List.set_cons_zero, List.set_cons_succ, i64_w, i32_w]
             rfl
            refine pure_ (i := 2) (N := some 58) (v := ?_) (a' := ?_) #[false, true, true, false, false, false, false] rfl rfl (by kernel_rfl) (fun _ _ _ h => h) (Or.inl ⟨by rfl, ?_⟩) ?_ ?_
            rotate_left
            ·intro w'
             go_simp
             with_reducible rfl
            rotate_left
            ·simp only [Act.put, List.setIfInBounds_toArray, List.set_cons_zero, List.set_cons_succ, i64_w, i32_w]
             rfl
            refine pure_ (i := 3) (N := some 59) (v := ?_) (a' := ?_) #[false, true, true, true, false, false, false] rfl rfl (by kernel_rfl) (fun _ _ _ h => h) (Or.inl ⟨by rfl, ?_⟩) ?_ ?_
            rotate_left
            ·intro w'
             go_simp
             with_reducible rfl
            rotate_left
            ·simp only [Act.put, List.setIfInBounds_toArray, List.set_cons_zero, List.set_cons_succ, i64_w, i32_w]
             rfl
            refine take_ (i := 0) (N := some 56) (v := ?_) (a' := ?_) #[true, true, true, true, false, false, false] rfl rfl (by kernel_rfl) (fun _ _ _ h => h) (Or.inl ⟨by rfl, ?_⟩) hHeld ?_ ?_
            rotate_left
            ·rintro w' ⟨s0, s1⟩
             go_simp
             with_reducible rfl
            rotate_left
            ·simp only [Act.put, List.setIfInBounds_toArray, List.set_cons_zero, List.set_cons_succ, i64_w, i32_w]
             rfl
            refine take_ (i := 4) (N := some 60) (v := ?_) (a' := ?_) #[true, true, true, true, true, false, false] rfl rfl (by kernel_rfl) (fun _ _ _ h => h) (Or.inl ⟨by rfl, ?_⟩) hHeld ?_ ?_
            rotate_left
            ·rintro w' ⟨s0, s1⟩
             go_simp
             with_reducible rfl
            rotate_left
            ·simp only [Act.put, List.setIfInBounds_toArray, List.set_cons_zero, List.set_cons_succ, i64_w, i32_w]
             rfl
            refine one_ (i := 5) (N := none) #[true, true, true, true, true, true, false] rfl rfl (by kernel_rfl) (by decide) (fun K hK => ?_)
            have hs101 : w98.cell? ⟨gb407, 0, none⟩ = some (.slice none 0 0) := (blk_cell BK407.out 0).trans rfl
            have hfs101 := blk_frozen BK407.out 0
            have hns101_0 := NB405_407.out
            have hns101_1 := NB406_407.out
            have hns101_3 := NB417_407.out
            have hms101_0 := NB407_405.out
            have hms101_1 := NB407_406.out
            have hms101_3 := NB407_417.out
            refine skip_ (w1 := ?_) (by rfl) rfl ?_ ?_
            rotate_left
            ·go_simp
             rfl
            refine hK.out _ _ ⟨((cell_far (p := ⟨gb407, _, none⟩) NB417_407.out _).trans (hHeld.1)), ((cell_far (p := ⟨gb407, _, none⟩) (by first | exact Kd.own_blk (Kd.R_ne HO_9.out BK407.out (by decide)) | (rw [add_block]; exact Kd.own_blk (Kd.R_ne HO_9.out BK407.out (by decide))) | (show (Addr.add _ _).block ≠ _; rw [add_block]; exact Kd.own_blk (Kd.R_ne HO_9.out BK407.out (by decide))) | (dsimp only; exact Kd.own_blk (Kd.R_ne HO_9.out BK407.out (by decide)))) _).trans (hHeld.2))⟩ (fun hHeld => ?_)
            clear hK K
            refine pure_ (i := 6) (N := some 7) (v := ?_) (a' := ?_) #[true, true, true, true, true, true, true] rfl rfl (by kernel_rfl) (fun _ _ _ h => h) (Or.inl ⟨by rfl, ?_⟩) ?_ ?_
            rotate_left
            ·intro w'
             go_simp
             with_reducible rfl
            rotate_left
            ·simp only [Act.put, List.setIfInBounds_toArray, List.set_cons_zero, List.set_cons_succ, i64_w, i32_w]
             rfl
            refine done_ (by kernel_rfl) ?_
            try go_wp2
            refine bodyPost_ret (results_ct rfl _ _ gb407 28 #[.slice Ao100 x418000_2.length co100] (0, 0) _ rfl (by (with_reducible repeat (first | refine blk_drewN ?_ _ | refine blk_drew ?_ | refine blk_alloc ?_ _)); refine blk_put (cs := #[.slice none 0 0]) ?_ 0 _ rfl; (with_reducible repeat (first | refine blk_drewN ?_ _ | refine blk_drew ?_ | refine blk_alloc ?_ _)); exact BK407.out) Try.underlying28 rfl (by kernel_rfl)) rfl ?_
            exact ⟨_, by first | rfl | (simp [errW_none, errW_some] <;> rfl) | (simp only [← hji33]; first | rfl | (simp [errW_none, errW_some] <;> rfl)) | (simp [*, errW_none, errW_some] <;> rfl), zr (Kd.R_mono (Kd.R_far (p := ⟨gb407, 0, none⟩) (Kd.R_types HO_418000.out BK407.out (by decide)) (fun _ hk => hk.2) (.slice Ao100 x418000_2.length co100)) (fun _ hk => trivial)), zb HB.out⟩
           ·rw [if_neg c97] at H
            exact absurd H (by simp)
          ·rw [if_neg c96] at H
           exact absurd H (by simp)
      ·rw [if_neg c35] at H
       exact absurd H (by simp)
     ·rw [if_neg c34] at H
      exact absurd H (by simp)
 ·replace c5 := Bool.eq_false_iff.mpr c5
  subst c5
  have H1 : (some (([] : List (S55)), (-1))) = some (r1, r2) := by rw [if_neg (show ¬ (false = true) by decide)] at H; exact H
  clear H
  have H := H1
  clear H1
  simp only [Option.some.injEq, Prod.mk.injEq] at H
  obtain ⟨rfl, rfl⟩ := H
  go_enter Try.func15, Try.ntmps15
  go_wp2_with (first | ((with_reducible refine gate_dst (N := 3) rfl ?_); refine box_event ?hg (N := 3) ?hd (cs := #[.slice A0_0 l0_0.length c0_0]) (t := 28) ?hr ?_; (case hd => rfl); (case hg => rfl); (case hr => first | (go_simp; done) | (go_simp; rfl)); intro gb405 hg w102 hbox hb; have n0_ := Aside0.mk (below_step (zb HB.out) hb); have n1_ := Aside0.mk (hbox); have n2_ := Aside0.mk ((by rw [hg]; exact (below_size (zb HB.out)) : w.heap.size ≤ gb405)); have n3_ := Aside0.mk ((by rw [hg]; exact (below_size (zb HB.out)) : w.heap.size ≤ gb405)); clear HB; have HB := n0_; have BK405 := n1_; have GW405 := n2_; have GE405 := n3_; clear n0_ n1_ n2_ n3_; clear hb hbox hg) | ((with_reducible refine gate_dst (N := 5) rfl ?_); refine box_event ?hg (N := 5) ?hd (cs := #[.slice A2_0 l2_0.length c2_0]) (t := 28) ?hr ?_; (case hd => rfl); (case hg => rfl); (case hr => first | (go_simp; done) | (go_simp; rfl)); intro gb406 hg w103 hbox hb; have n0_ := Aside0.mk (blk_below (zh BK405.out) hb); have n1_ := Aside0.mk (below_step (zb HB.out) hb); have n2_ := Aside0.mk (hbox); have n3_ := Aside0.mk ((by rw [hg]; exact (below_size (zb HB.out)) : w.heap.size ≤ gb406)); have n4_ := Aside0.mk ((by rw [hg]; exact (below_size (zb HB.out)) : w.heap.size ≤ gb406)); have n5_ := Aside0.mk ((by rw [hg]; exact Nat.ne_of_lt (blk_lt (zh BK405.out)) : gb405 ≠ gb406)); have n6_ := Aside0.mk ((by rw [hg]; exact Nat.ne_of_gt (blk_lt (zh BK405.out)) : gb406 ≠ gb405)); clear BK405; clear HB; have BK405 := n0_; have HB := n1_; have BK406 := n2_; have GW406 := n3_; have GE406 := n4_; have NB405_406 := n5_; have NB406_405 := n6_; clear n0_ n1_ n2_ n3_ n4_ n5_ n6_; clear hb hbox hg) | ((with_reducible refine gate_dst (N := 6) rfl ?_); refine box_event ?hg (N := 6) ?hd (cs := #[.slice none 0 0]) (t := 28) ?hr ?_; (case hd => rfl); (case hg => rfl); (case hr => first | (go_simp; done) | (go_simp; rfl)); intro gb407 hg w104 hbox hb; have n0_ := Aside0.mk (blk_below (zh BK405.out) hb); have n1_ := Aside0.mk (blk_below (zh BK406.out) hb); have n2_ := Aside0.mk (below_step (zb HB.out) hb); have n3_ := Aside0.mk (hbox); have n4_ := Aside0.mk ((by rw [hg]; exact (below_size (zb HB.out)) : w.heap.size ≤ gb407)); have n5_ := Aside0.mk ((by rw [hg]; exact (below_size (zb HB.out)) : w.heap.size ≤ gb407)); have n6_ := Aside0.mk ((by rw [hg]; exact Nat.ne_of_lt (blk_lt (zh BK405.out)) : gb405 ≠ gb407)); have n7_ := Aside0.mk ((by rw [hg]; exact Nat.ne_of_gt (blk_lt (zh BK405.out)) : gb407 ≠ gb405)); have n8_ := Aside0.mk ((by rw [hg]; exact Nat.ne_of_lt (blk_lt (zh BK406.out)) : gb406 ≠ gb407)); have n9_ := Aside0.mk ((by rw [hg]; exact Nat.ne_of_gt (blk_lt (zh BK406.out)) : gb407 ≠ gb406)); clear BK405; clear BK406; clear HB; have BK405 := n0_; have BK406 := n1_; have HB := n2_; have BK407 := n3_; have GW407 := n4_; have GE407 := n5_; have NB405_407 := n6_; have NB407_405 := n7_; have NB406_407 := n8_; have NB407_406 := n9_; clear n0_ n1_ n2_ n3_ n4_ n5_ n6_ n7_ n8_ n9_; clear hb hbox hg; have hnb105 := NB406_405.out; have hnc105 := NB405_406.out; have hnb106 := NB406_407.out; have hnc106 := NB407_406.out; have hcz107_0 : w104.cell? ⟨gb406, 0, none⟩ = some (.slice A2_0 l2_0.length c2_0) := (blk_cell BK406.out 0).trans rfl; have hfz107_0 := blk_frozen BK406.out 0) | ((with_reducible refine gate_callee (f := 32) rfl ?_); refine goesL_ (some 13) rfl rfl Try.func32 (by kernel_rfl) rfl #[.agg #[.slice A2_0 l2_0.length c2_0]] rfl zl ?_; (with_reducible refine (impl_PoolOk.calls _ _ l2_0 false _ ?side1 ?side2 A4.out).mono ?_); (case side1 => exact zc (Kd.C_below HR2_0.out HB.out)); (case side2 => exact HC2_0.out); rintro e w108 ⟨rfl, hb⟩; refine ⟨_, rfl, ?_⟩; have n0_ := Aside0.mk (blk_below (zh BK405.out) hb); have n1_ := Aside0.mk (blk_below (zh BK406.out) hb); have n2_ := Aside0.mk (blk_below (zh BK407.out) hb); have n3_ := Aside0.mk (below_step (zb HB.out) hb); clear BK405; clear BK406; clear BK407; clear HB; have BK405 := n0_; have BK406 := n1_; have BK407 := n2_; have HB := n3_; clear n0_ n1_ n2_ n3_; (try clear hb); (try clear hb2); (try clear hk); (try clear hi); have hnb109 := NB407_405.out; have hnc109 := NB405_407.out; have hcz110_0 : w108.cell? ⟨gb407, 0, none⟩ = some (.slice none 0 0) := (blk_cell BK407.out 0).trans rfl; have hfz110_0 := blk_frozen BK407.out 0))
  refine bodyPost_ret (results_ct rfl _ _ gb407 28 #[.slice none 0 0] (0, 0) _ rfl (by (with_reducible repeat (first | refine blk_drewN ?_ _ | refine blk_drew ?_ | refine blk_alloc ?_ _)); refine blk_put (cs := #[.slice none 0 0]) ?_ 0 _ rfl; (with_reducible repeat (first | refine blk_drewN ?_ _ | refine blk_drew ?_ | refine blk_alloc ?_ _)); exact BK407.out) Try.underlying28 rfl (by kernel_rfl)) rfl ?_
  exact ⟨_, ze, by first | exact Kd.R_nil _ _ _ _ _ | exact Kd.N_nil _ _ _ _ _ | exact Kd.V_nil _ _ _ _ _ | exact Kd.Q_nil _ _ _ _ _ | exact Kd.S_nil _ _ _ _ _, zb HB.out⟩



end Go.Proofs.Ytobkledmbnacjaa.MV
end
