import Derived.Test.YtdgahpigcaejbaaVE0
import Derived.Test.YtdgahpigcaejbaaVEg2
import Derived.Test.YtdgahpigcaejbaaVEg3
import Derived.Test.YtdgahpigcaejbaaVEg0
section
-- Written by this session's program (wip/tools/gprint.py over the kit's print) out of the translation; Lean checks it.
namespace Go.Proofs.Ytdgahpigcaejbaa.E
open Go.RowKit Go.Proofs.YtdgahpigcaejbaaW.PrintWords Go.Proofs.YtdgahpigcaejbaaW.PrintLast Go.Proofs.YtdgahpigcaejbaaW.PrintMore
attribute [local go_sem] max2_int min2_int max_two min_two max_three min_three max_four min_four   -- for this text's walks alone
set_option linter.unusedVariables false
set_option linter.unusedSimpArgs false
set_option maxRecDepth 100000

/-! ### impl_Pool_openOnce: function 114 -/
def impl_Pool_openOnce.l0 : Nat → List Int → List Bool → List Int → List Int → Int → Int → List (S44) → Option (List Int)
 | 0, _, _, _, _, _, _, _ => none
 | k + 1, x1, x5, x6, x15, x16, x17, x1000 => if x17 < x16 then (if 0 ≤ x17 then (if x17 < (x15.length : Int) then (if 0 ≤ (rd x15 x17) then (if (rd x15 x17) < (x1000.length : Int) then (if ((rd_T44 x1000 (rd x15 x17)).f0) = 2 then ((some (([(rd_T44 x1000 (rd x15 x17)).f1, (rd_T44 x1000 (rd x15 x17)).f2] : List Int) : List Int)).bind fun y325 => (if x6.length + y325.length < 17592186044416 then (impl_Pool_openOnce.l0 k x1 x5 (x6 ++ y325) x15 x16 (wrap64 (x17 + 1)) x1000) else (none))) else (if ((rd_T44 x1000 (rd x15 x17)).f0) = 4 then (if x6.length < 17592186044416 then (impl_Pool_openOnce.l0 k x1 x5 (x6 ++ [(rd_T44 x1000 (rd x15 x17)).f1]) x15 x16 (wrap64 (x17 + 1)) x1000) else (none)) else (if ((rd_T44 x1000 (rd x15 x17)).f0) = 3 then (if 0 ≤ ((rd_T44 x1000 (rd x15 x17)).f2) then (if ((rd_T44 x1000 (rd x15 x17)).f2) < (x5.length : Int) then (if rdOf false x5 ((rd_T44 x1000 (rd x15 x17)).f2) = true then (if x6.length < 17592186044416 then (impl_Pool_openOnce.l0 k x1 x5 (x6 ++ [(rd_T44 x1000 (rd x15 x17)).f1]) x15 x16 (wrap64 (x17 + 1)) x1000) else (none)) else (impl_Pool_openOnce.l0 k x1 x5 x6 x15 x16 (wrap64 (x17 + 1)) x1000)) else (none)) else (none)) else (impl_Pool_openOnce.l0 k x1 x5 x6 x15 x16 (wrap64 (x17 + 1)) x1000)))) else (none)) else (none)) else (none)) else (none)) else ((slices_Sort_int_int.f x6).bind fun t338 => ((slices_Compact_int_int.f t338).bind fun t339 => ((slices_Clip_int_int.f t339).bind fun t342 => (if (t342.length : Int) > 200 then ((slices_Clone_int_int.f x1).bind fun t345 => (some t345)) else (some t342)))))
def impl_Pool_openOnce.f (k : Nat) (l0_0 : List (S44)) (l1 : List Int) : Option (List Int) := (impl_Pool_makes.f k l0_0 l1).bind fun t316 => ((slices_Clone_int_int.f l1).bind fun t319 => (impl_Pool_openOnce.l0 k l1 t316 t319 l1 (l1.length : Int) 0 l0_0))
theorem impl_Pool_openOnce.mono_l : ∀ k, (∀ y0 y1 y2 y3 y4 y5 y6, LeO (impl_Pool_openOnce.l0 k y0 y1 y2 y3 y4 y5 y6) (impl_Pool_openOnce.l0 (k + 1) y0 y1 y2 y3 y4 y5 y6))
 | 0 => fun _ _ _ _ _ _ _ r h => by simp [impl_Pool_openOnce.l0] at h
 | k + 1 => by
  have ih0 := impl_Pool_openOnce.mono_l k
  ·intro y0 y1 y2 y3 y4 y5 y6
   unfold impl_Pool_openOnce.l0
   repeat' first
   | (with_reducible exact ih0 _ _ _ _ _ _ _)
   | (with_reducible exact impl_Pool_makes.mono _ _ _)
   | (with_reducible exact LeO.refl _)
   | (with_reducible exact LeO.none _)
   | (with_reducible refine LeO.ite ?_ ?_)
   | (with_reducible refine LeO.bind ?_ (fun _ => ?_))
   | exact ih0 _ _ _ _ _ _ _
   | exact impl_Pool_makes.mono _ _ _
   | exact LeO.none _
   | refine LeO.ite ?_ ?_
   | refine LeO.bind ?_ (fun _ => ?_)
theorem impl_Pool_openOnce.mono : ∀ a0 a1 k, LeO (impl_Pool_openOnce.f k a0 a1) (impl_Pool_openOnce.f (k + 1) a0 a1) := by
 intro a0 a1 k
 have ih0 := impl_Pool_openOnce.mono_l k
 unfold impl_Pool_openOnce.f
 repeat' first
   | (with_reducible exact ih0 _ _ _ _ _ _ _)
   | (with_reducible exact impl_Pool_makes.mono _ _ _)
   | (with_reducible exact LeO.refl _)
   | (with_reducible exact LeO.none _)
   | (with_reducible refine LeO.ite ?_ ?_)
   | (with_reducible refine LeO.bind ?_ (fun _ => ?_))
   | exact ih0 _ _ _ _ _ _ _
   | exact impl_Pool_makes.mono _ _ _
   | exact LeO.none _
   | refine LeO.ite ?_ ?_
   | refine LeO.bind ?_ (fun _ => ?_)
set_option maxHeartbeats 8000000 in
set_option maxRecDepth 100000 in
theorem impl_Pool_openOnce.calls (k : Nat) (g0_ : Nat) (A0_0 : Option Addr) (c0_0 : Nat) (l0_0 : List (S44)) (A1 : Option Addr) (c1 : Nat) (l1 : List Int) (r : List Int) (w : World) (hk0_ : w.heap[g0_]? = some (.cells #[.slice A0_0 l0_0.length c0_0] 30 (0, 0))) (hr0_0 : Kd.C k44 w A0_0 l0_0.length l0_0) (hc0_0 : l0_0.length ≤ c0_0) (hr1 : Kd.C (Kd.int .i64) w A1 l1.length l1) (hc1 : l1.length ≤ c1) (h : impl_Pool_openOnce.f k l0_0 l1 = some r) :
  Calls Try.prog 114 #[.pointer (some ⟨g0_, 0, none⟩), .slice A1 l1.length c1] w fun e w' => ∃ v0_ : Value, e = .returned (v0_) ∧ Kd.V (Kd.int .i64) 3 w' w.heap.size (fun k_ => (w.heap.size ≤ k_)) v0_ r ∧ Below w.heap.size w w' := by
 have hu44 := Try.underlying44
 have HR0_0 := Aside0.mk hr0_0
 have HC0_0 := Aside0.mk hc0_0
 clear hr0_0 hc0_0
 have HR1 := Aside0.mk hr1
 have HC1 := Aside0.mk hc1
 clear hr1 hc1
 have BK0 := Aside0.mk hk0_
 clear hk0_
 have HB := Aside0.mk (Below.refl w.heap.size w)
 have H : ((impl_Pool_makes.f k l0_0 l1).bind fun t316 => ((slices_Clone_int_int.f l1).bind fun t319 => (impl_Pool_openOnce.l0 k l1 t316 t319 l1 (l1.length : Int) 0 l0_0))) = some r := h
 clear h
 replace H := Option.bind_eq_some_iff.mp H
 obtain ⟨t316, A30, H⟩ := H
 replace H : ((slices_Clone_int_int.f l1).bind fun t319 => (impl_Pool_openOnce.l0 k l1 t316 t319 l1 (l1.length : Int) 0 l0_0)) = some r := H
 have A3 := Aside0.mk A30
 clear A30
 replace H := Option.bind_eq_some_iff.mp H
 obtain ⟨t319, A40, H⟩ := H
 replace H : (impl_Pool_openOnce.l0 k l1 t316 t319 l1 (l1.length : Int) 0 l0_0) = some r := H
 have A4 := Aside0.mk A40
 clear A40
 have H' := Aside0.mk H
 clear H
 go_enter Try.func114, Try.ntmps114
 go_wp2_with (first | ((with_reducible refine gate_callee (f := 95) rfl ?_); refine goesL_ (some 12) rfl rfl Try.func95 (by kernel_rfl) rfl #[.pointer (some ⟨g0_, 0, none⟩), .slice A1 l1.length c1] rfl zl ?_; (with_reducible refine (impl_Pool_makes.calls k _ A0_0 c0_0 l0_0 _ _ l1 t316 _ ?side1 ?side2 ?side3 ?side4 ?side5 A3.out).mono ?_); (case side1 => exact zh BK0.out); (case side2 => exact zc HR0_0.out); (case side3 => exact HC0_0.out); (case side4 => exact zc HR1.out); (case side5 => exact HC1.out); rintro e w5 ⟨v317, rfl, ho0, hb⟩; refine ⟨_, rfl, ?_⟩; have n0_ := Aside0.mk (Kd.R_lower (Kd.R_newM (M := fun k_ => (w.heap.size ≤ k_)) ho0 (below_size (zb HB.out)) (fun k_ h_ => h_)) (below_size (zb HB.out))); have n1_ := Aside0.mk (blk_below (zh BK0.out) hb); have n2_ := Aside0.mk (below_step (zb HB.out) hb); clear BK0; clear HB; have HO318 := n0_; have BK0 := n1_; have HB := n2_; clear n0_ n1_ n2_; (try clear hb); (try clear hb2); (try clear hk); (try clear hi); (try clear ho0)) | ((with_reducible refine gate_callee (f := 125) rfl ?_); refine goesL_ (some 14) rfl rfl Try.func125 (by kernel_rfl) rfl #[.slice A1 l1.length c1] rfl zl ?_; (with_reducible refine (slices_Clone_int_int.calls _ _ l1 t319 _ ?side1 ?side2 A4.out).mono ?_); (case side1 => exact zc (Kd.C_below HR1.out HB.out)); (case side2 => exact HC1.out); rintro e w6 ⟨v320, rfl, ho0, hb⟩; refine ⟨_, rfl, ?_⟩; have n0_ := Aside0.mk (Kd.R_below (zr HO318.out) hb); have n1_ := Aside0.mk (Kd.R_lower (Kd.R_newM (M := fun k_ => (w.heap.size ≤ k_)) ho0 (below_size (zb HB.out)) (fun k_ h_ => h_)) (below_size (zb HB.out))); have n2_ := Aside0.mk (blk_below (zh BK0.out) hb); have n3_ := Aside0.mk (below_step (zb HB.out) hb); clear HO318; clear BK0; clear HB; have HO318 := n0_; have HO321 := n1_; have BK0 := n2_; have HB := n3_; clear n0_ n1_ n2_ n3_; (try clear hb); (try clear hb2); (try clear hk); (try clear hi); (try clear ho0)))
 go_loopg [6, 17] k (fun kq v6 v17 w' => ∃ (x6_1 : List Int) (x17_1 : Int), v17 = .int .i64 x17_1 ∧ Aside0 (impl_Pool_openOnce.l0 kq l1 t316 x6_1 l1 (l1.length : Int) x17_1 l0_0 = some r) ∧ Aside0 (kq ≤ k) ∧ Aside0 (Kd.R Kd.bool 4 w' w.heap.size (fun k_ => (w.heap.size ≤ k_)) v317 t316) ∧ Aside0 (Kd.R (Kd.int .i64) 3 w' w.heap.size (fun k_ => (w.heap.size ≤ k_)) v6 x6_1) ∧ Aside0 (w'.heap[g0_]? = some (.cells #[(.slice A0_0 l0_0.length c0_0)] 30 (0, 0))) ∧ Aside0 (Below w.heap.size w w'))
 case atStart => exact ⟨(t319), (0), (by first | rfl | (simp; done) | (simp [*]; done)), H', ⟨Nat.le_refl _⟩, ⟨zr (Kd.R_mono HO318.out (fun _ hk => hk.1))⟩, ⟨zr (Kd.R_mono HO321.out (fun _ hk => hk.1))⟩, ⟨zh BK0.out⟩, ⟨zb HB.out⟩⟩
 case round =>
  clear H'
  try clear c1
  try clear p2
  obtain ⟨x6_1, x17_1, rfl, HA, HK1, HO_5, HO_6, BK0, HB⟩ := hrel
  cases gk with
  | zero => exact absurd HA.out (by simp [impl_Pool_openOnce.l0])
  | succ k1 =>
   have H := HA.out
   clear HA
   simp only [impl_Pool_openOnce.l0] at H
   by_cases c7 : x17_1 < (l1.length : Int)
   ·rw [if_pos c7] at H
    have c7b0 : decide (x17_1 < (l1.length : Int)) = true := decide_eq_true c7
    clear c7
    by_cases c8 : 0 ≤ x17_1
    ·rw [if_pos c8] at H
     have c8b0 : decide (0 ≤ x17_1) = true := decide_eq_true c8
     clear c8
     by_cases c9 : x17_1 < (l1.length : Int)
     ·rw [if_pos c9] at H
      have c9b0 : decide (x17_1 < (l1.length : Int)) = true := decide_eq_true c9
      clear c9
      by_cases c10 : 0 ≤ (rd l1 x17_1)
      ·rw [if_pos c10] at H
       have c10b0 : decide (0 ≤ (rd l1 x17_1)) = true := decide_eq_true c10
       clear c10
       by_cases c11 : (rd l1 x17_1) < (l0_0.length : Int)
       ·rw [if_pos c11] at H
        have c11b0 : decide ((rd l1 x17_1) < (l0_0.length : Int)) = true := decide_eq_true c11
        clear c11
        by_cases c12 : ((rd_T44 l0_0 (rd l1 x17_1)).f0) = 2
        ·rw [if_pos c12] at H
         have c12b0 : (((rd_T44 l0_0 (rd l1 x17_1)).f0) == 2) = true := beq_iff_eq.mpr c12
         have c12b1 : (((rd_T44 l0_0 (rd l1 x17_1)).f0) != 2) = false := bne_eq_false_iff_eq.mpr c12
         clear c12
         obtain ⟨y325, hy325⟩ : ∃ y_ : List Int, y_ = (([(rd_T44 l0_0 (rd l1 x17_1)).f1, (rd_T44 l0_0 (rd l1 x17_1)).f2] : List Int)) := ⟨_, rfl⟩
         replace H : (if x6_1.length + y325.length < 17592186044416 then (impl_Pool_openOnce.l0 k1 l1 t316 (x6_1 ++ y325) l1 (l1.length : Int) (wrap64 (x17_1 + 1)) l0_0) else (none)) = some r := by first | (rw [hy325]; with_reducible exact H) | (have H2_ := (Option.bind_some _ _).symm.trans H; rw [hy325]; with_reducible exact H2_) | (have H2_ := (Option.bind_some _ _).symm.trans H; with_reducible exact H2_) | with_reducible exact H | (rw [hy325]; exact H) | exact H
         have Ny325 := Aside0.mk hy325
         clear hy325
         by_cases c13 : x6_1.length + y325.length < 17592186044416
         ·rw [if_pos c13] at H
          have LMc13 := Aside0.mk c13
          clear c13
          obtain ⟨y328, hy328⟩ : ∃ y_ : List Int, y_ = (x6_1 ++ y325) := ⟨_, rfl⟩
          replace H : (impl_Pool_openOnce.l0 k1 l1 t316 y328 l1 (l1.length : Int) (wrap64 (x17_1 + 1)) l0_0) = some r := by first | (rw [hy328]; with_reducible exact H) | (have H2_ := (Option.bind_some _ _).symm.trans H; rw [hy328]; with_reducible exact H2_) | (have H2_ := (Option.bind_some _ _).symm.trans H; with_reducible exact H2_) | with_reducible exact H | (rw [hy328]; exact H) | exact H
          have Ny328 := Aside0.mk hy328
          clear hy328
          have H' := Aside0.mk H
          clear H
          have p322 : 0 ≤ (x17_1 : Int) := of_decide_eq_true (by first | (with_reducible assumption) | assumption)
          have q322 : x17_1 < (l1.length : Int) := of_decide_eq_true (by first | (with_reducible assumption) | assumption)
          obtain ⟨ad322, e322, hx322_0⟩ := Kd.at_int HR1.out x17_1 p322 q322
          cases e322
          replace hx322_0 := (HB.out.cell (World.block_lt_of_cell? w _ hx322_0)).trans hx322_0
          replace p322 := eq_true p322
          replace q322 := eq_true q322
          have hcz14_0 : wr.cell? ⟨g0_, 0, none⟩ = some (.slice A0_0 l0_0.length c0_0) := (blk_cell BK0.out 0).trans rfl
          have hfz14_0 := blk_frozen BK0.out 0
          have p323 : 0 ≤ ((rd l1 x17_1) : Int) := of_decide_eq_true (by first | (with_reducible assumption) | assumption)
          have q323 : (rd l1 x17_1) < (l0_0.length : Int) := of_decide_eq_true (by first | (with_reducible assumption) | assumption)
          obtain ⟨ad323, e323, hx323_0, hx323_1, hx323_2⟩ := at_T44 HR0_0.out (rd l1 x17_1) p323 q323
          cases e323
          replace hx323_0 := (HB.out.cell (World.block_lt_of_cell? w _ hx323_0)).trans hx323_0
          replace hx323_1 := (HB.out.cell (World.block_lt_of_cell? w _ hx323_1)).trans hx323_1
          replace hx323_2 := (HB.out.cell (World.block_lt_of_cell? w _ hx323_2)).trans hx323_2
          replace p323 := eq_true p323
          replace q323 := eq_true q323
          go_wp2_with (first | ((with_reducible refine gate_dst (N := 9) rfl ?_); refine box_event ?hg (N := 9) ?hd (cs := #[.int .i64 0, .int .i64 0, .int .i64 0]) (t := 44) ?hr ?_; (case hd => rfl); (case hg => rfl); (case hr => first | (go_simp; done) | (go_simp; rfl)); intro gb324 hg w15 hbox hb; have n0_ := Aside0.mk (Kd.R_below (zr HO_5.out) hb); have n1_ := Aside0.mk (Kd.R_below (zr HO_6.out) hb); have n2_ := Aside0.mk (blk_below (zh BK0.out) hb); have n3_ := Aside0.mk (below_step (zb HB.out) hb); have n4_ := Aside0.mk (hbox); have n5_ := Aside0.mk ((by rw [hg]; exact (below_size (zb HB.out)) : w.heap.size ≤ gb324)); have n6_ := Aside0.mk ((by rw [hg]; exact (below_size (zb HB.out)) : w.heap.size ≤ gb324)); have n7_ := Aside0.mk ((by rw [hg]; exact Nat.ne_of_lt (blk_lt (zh BK0.out)) : g0_ ≠ gb324)); have n8_ := Aside0.mk ((by rw [hg]; exact Nat.ne_of_gt (blk_lt (zh BK0.out)) : gb324 ≠ g0_)); clear HO_5; clear HO_6; clear BK0; clear HB; have HO_5 := n0_; have HO_6 := n1_; have BK0 := n2_; have HB := n3_; have BK324 := n4_; have GW324 := n5_; have GE324 := n6_; have NB0_324 := n7_; have NB324_0 := n8_; clear n0_ n1_ n2_ n3_ n4_ n5_ n6_ n7_ n8_; clear hb hbox hg; have hnb16 := NB324_0.out; have hnc16 := NB0_324.out; have hcz17_0 : w15.cell? ⟨gb324, 0, none⟩ = some (.int .i64 0) := (blk_cell BK324.out 0).trans rfl; have hcz17_1 : w15.cell? ⟨gb324, 1, none⟩ = some (.int .i64 0) := (blk_cell BK324.out 1).trans rfl; have hcz17_2 : w15.cell? ⟨gb324, 2, none⟩ = some (.int .i64 0) := (blk_cell BK324.out 2).trans rfl; have hfz17_0 := blk_frozen BK324.out 0; have hfz17_1 := blk_frozen BK324.out 1; have hfz17_2 := blk_frozen BK324.out 2) | ((with_reducible refine gate_dst (N := 37) rfl ?_); refine Kd.R_lit (Kd.int .i64) _ 3 ?hg (N := 37) ?hd (xs := ([(rd_T44 l0_0 (rd l1 x17_1)).f1, (rd_T44 l0_0 (rd l1 x17_1)).f2] : List Int)) (inner := [.int .i64 ((rd_T44 l0_0 (rd l1 x17_1)).f1), .int .i64 ((rd_T44 l0_0 (rd l1 x17_1)).f2)]) (ok := fun _ => True) (okp := fun _ => True) ?hr ?hp (fun _ hk => hk) trivial (Below.refl _ _) (Nat.le_refl _) (by simp) ?_; (case hd => rfl); (case hg => rfl); (case hr => first | (go_simp; done) | (go_simp; rfl)); (case hp => exact (Reps.one (show Kd.M (Kd.int .i64) _ _ _ ((rd_T44 l0_0 (rd l1 x17_1)).f1) [.int .i64 ((rd_T44 l0_0 (rd l1 x17_1)).f1)] from rfl) (Reps.one (show Kd.M (Kd.int .i64) _ _ _ ((rd_T44 l0_0 (rd l1 x17_1)).f2) [.int .i64 ((rd_T44 l0_0 (rd l1 x17_1)).f2)] from rfl) (Reps.none _ _)))); intro v326 w18 ho19 hb hg_ hnew_; clear hg_ hnew_; (first | rw [← Ny325.out] at ho19 | (simp only [Int.reduceToNat] at ho19; rw [← Ny325.out] at ho19)); have n0_ := Aside0.mk (Kd.R_below (by (with_reducible repeat (first | apply Kd.R_alloc | apply Kd.R_drewN | apply Kd.R_drew)); exact (Kd.R_mono (Kd.R_far (p := ⟨gb324, 2, none⟩) (Kd.R_far (p := ⟨gb324, 1, none⟩) (Kd.R_far (p := ⟨gb324, 0, none⟩) (Kd.R_types HO_5.out BK324.out (by decide)) (fun _ hk => hk.2) (.int .i64 ((rd_T44 l0_0 (rd l1 x17_1)).f0))) (fun _ hk => hk.2) (.int .i64 ((rd_T44 l0_0 (rd l1 x17_1)).f1))) (fun _ hk => hk.2) (.int .i64 ((rd_T44 l0_0 (rd l1 x17_1)).f2))) (fun _ h_ => h_.1))) hb); have n1_ := Aside0.mk (Kd.R_elder' (by (with_reducible repeat (first | apply Kd.R_alloc | apply Kd.R_drewN | apply Kd.R_drew)); exact (Kd.R_mono (Kd.R_far (p := ⟨gb324, 2, none⟩) (Kd.R_far (p := ⟨gb324, 1, none⟩) (Kd.R_far (p := ⟨gb324, 0, none⟩) (Kd.R_types HO_6.out BK324.out (by decide)) (fun _ hk => hk.2) (.int .i64 ((rd_T44 l0_0 (rd l1 x17_1)).f0))) (fun _ hk => hk.2) (.int .i64 ((rd_T44 l0_0 (rd l1 x17_1)).f1))) (fun _ hk => hk.2) (.int .i64 ((rd_T44 l0_0 (rd l1 x17_1)).f2))) (fun _ h_ => h_.1))) (Kd.R_base ho19) hb); have n2_ := Aside0.mk (Kd.R_lower (Kd.R_new' (Kd.R_newM (M := fun k_ => (w.heap.size ≤ k_)) ho19 (below_size (zb HB.out)) (fun k_ h_ => h_)) (Kd.R_lt (by (with_reducible repeat (first | apply Kd.R_alloc | apply Kd.R_drewN | apply Kd.R_drew)); exact (Kd.R_mono (Kd.R_far (p := ⟨gb324, 2, none⟩) (Kd.R_far (p := ⟨gb324, 1, none⟩) (Kd.R_far (p := ⟨gb324, 0, none⟩) (Kd.R_types HO_6.out BK324.out (by decide)) (fun _ hk => hk.2) (.int .i64 ((rd_T44 l0_0 (rd l1 x17_1)).f0))) (fun _ hk => hk.2) (.int .i64 ((rd_T44 l0_0 (rd l1 x17_1)).f1))) (fun _ hk => hk.2) (.int .i64 ((rd_T44 l0_0 (rd l1 x17_1)).f2))) (fun _ h_ => h_.1))))) (below_size (zb HB.out))); have n3_ := Aside0.mk (blk_below (g := g0_) (o := .cells #[.slice (some ad323) l0_0.length c0_0] 30 (0, 0)) (zf BK0.out) hb); have n4_ := Aside0.mk (blk_below (g := gb324) (o := .cells #[.int .i64 ((rd_T44 l0_0 (rd l1 x17_1)).f0), .int .i64 ((rd_T44 l0_0 (rd l1 x17_1)).f1), .int .i64 ((rd_T44 l0_0 (rd l1 x17_1)).f2)] 44 (0, 0)) (by (with_reducible repeat (first | refine blk_drewN ?_ _ | refine blk_drew ?_ | refine blk_alloc ?_ _)); refine blk_put (cs := #[.int .i64 ((rd_T44 l0_0 (rd l1 x17_1)).f0), .int .i64 ((rd_T44 l0_0 (rd l1 x17_1)).f1), .int .i64 0]) ?_ 2 _ rfl; (with_reducible repeat (first | refine blk_drewN ?_ _ | refine blk_drew ?_ | refine blk_alloc ?_ _)); refine blk_put (cs := #[.int .i64 ((rd_T44 l0_0 (rd l1 x17_1)).f0), .int .i64 0, .int .i64 0]) ?_ 1 _ rfl; (with_reducible repeat (first | refine blk_drewN ?_ _ | refine blk_drew ?_ | refine blk_alloc ?_ _)); refine blk_put (cs := #[.int .i64 0, .int .i64 0, .int .i64 0]) ?_ 0 _ rfl; (with_reducible repeat (first | refine blk_drewN ?_ _ | refine blk_drew ?_ | refine blk_alloc ?_ _)); exact BK324.out) hb); have n5_ := Aside0.mk (below_step (zb HB.out) hb); clear HO_5; clear HO_6; clear BK0; clear BK324; clear HB; have HO_5 := n0_; have HO_6 := n1_; have HO327 := n2_; have BK0 := n3_; have BK324 := n4_; have HB := n5_; clear n0_ n1_ n2_ n3_ n4_ n5_; clear hb ho19; obtain ⟨Ao21, co21, eo21⟩ := Kd.R_slice HO327.out; subst eo21) | ((with_reducible refine gate_builtin (b := .append) (xs := #[.tmp 32, .tmp 37]) rfl ?_); at_builtin; refine Kd.R_append_rows (Kd.int .i64) (w0 := w) w.heap.size rfl (.tmp 32) (.tmp 37) 26 3 (.int .i64 0) 8 rfl Try.underlying26 info3 rfl (by decide) (by omega) u6 x6_1 y325 _ _ _ (fun k_ => (w.heap.size ≤ k_) ∧ some k_ ≠ (.slice Ao21 y325.length co21 : Value).ownBlock) (fun _ => False) rfl rfl ?aO ?aR (fun _ _ h => h) (fun _ h => h.elim) ?aF ?aB ?aS ?aL ?_; (case aR => exact zc (Kd.R_reads' HO327.out).2.2); (case aB => exact (zb HB.out)); (case aF => exact (fun k_ hk => ⟨(Nat.le_trans (below_size (zb HB.out)) hk), Kd.fresh' (Kd.R_lt (zr HO327.out)) k_ hk⟩)); (case aO => exact (zr HO_6.out)); (case aS => exact (below_size (zb HB.out))); (case aL => have := LMc13.out; omega); intro v329 w20 ho hb hg hat; rw [← Ny328.out] at ho; have n0_ := Aside0.mk (Kd.R_over' (zr HO_5.out) (Kd.R_typed (zr HO_6.out)) (by decide) hg); have n1_ := Aside0.mk (blk_grown (zh BK0.out) hg (Kd.R_ne HO_6.out BK0.out (by decide))); have n2_ := Aside0.mk (blk_grown (zh BK324.out) hg (Kd.R_ne HO_6.out BK324.out (by decide))); have n3_ := Aside0.mk (Kd.R_after (ok := (fun k_ => (w.heap.size ≤ k_))) (by (with_reducible repeat (first | apply Kd.R_alloc | apply Kd.R_drewN | apply Kd.R_drew)); exact Kd.R_mono HO327.out (fun _ hk => ⟨hk.1.1, hk.2⟩)) hg hat); have n4_ := Aside0.mk (hb); have n5_ := Aside0.mk (ho); clear HO_5; clear BK0; clear BK324; clear HO327; clear HB; clear HO_6; have HO_5 := n0_; have BK0 := n1_; have BK324 := n2_; have HO327 := n3_; have HB := n4_; have HO330 := n5_; clear n0_ n1_ n2_ n3_ n4_ n5_; clear ho hb hg hat))
          go_roundg k1
          case measure => have := HK1.out; omega
          case rel => exact ⟨(y328), (wrap64 (x17_1 + 1)), (by first | rfl | (simp; done) | (simp [*]; done)), H', ⟨by have := HK1.out; omega⟩, ⟨zr HO_5.out⟩, ⟨zr (Kd.R_mono HO330.out (fun _ hk => hk.1))⟩, ⟨zh BK0.out⟩, ⟨zb HB.out⟩⟩
         ·rw [if_neg c13] at H
          exact absurd H (by simp)
        ·rw [if_neg c12] at H
         have c12b0 : (((rd_T44 l0_0 (rd l1 x17_1)).f0) == 2) = false := beq_eq_false_iff_ne.mpr c12
         have c12b1 : (((rd_T44 l0_0 (rd l1 x17_1)).f0) != 2) = true := bne_iff_ne.mpr c12
         by_cases c22 : ((rd_T44 l0_0 (rd l1 x17_1)).f0) = 4
         ·rw [if_pos c22] at H
          have c22b0 : (((rd_T44 l0_0 (rd l1 x17_1)).f0) == 4) = true := beq_iff_eq.mpr c22
          have c22b1 : (((rd_T44 l0_0 (rd l1 x17_1)).f0) != 4) = false := bne_eq_false_iff_eq.mpr c22
          clear c22
          by_cases c23 : x6_1.length < 17592186044416
          ·rw [if_pos c23] at H
           have LMc23 := Aside0.mk c23
           clear c23
           obtain ⟨y331, hy331⟩ : ∃ y_ : List Int, y_ = (x6_1 ++ [(rd_T44 l0_0 (rd l1 x17_1)).f1]) := ⟨_, rfl⟩
           replace H : (impl_Pool_openOnce.l0 k1 l1 t316 y331 l1 (l1.length : Int) (wrap64 (x17_1 + 1)) l0_0) = some r := by first | (rw [hy331]; with_reducible exact H) | (have H2_ := (Option.bind_some _ _).symm.trans H; rw [hy331]; with_reducible exact H2_) | (have H2_ := (Option.bind_some _ _).symm.trans H; with_reducible exact H2_) | with_reducible exact H | (rw [hy331]; exact H) | exact H
           have Ny331 := Aside0.mk hy331
           clear hy331
           have H' := Aside0.mk H
           clear H
           have p322 : 0 ≤ (x17_1 : Int) := of_decide_eq_true (by first | (with_reducible assumption) | assumption)
           have q322 : x17_1 < (l1.length : Int) := of_decide_eq_true (by first | (with_reducible assumption) | assumption)
           obtain ⟨ad322, e322, hx322_0⟩ := Kd.at_int HR1.out x17_1 p322 q322
           cases e322
           replace hx322_0 := (HB.out.cell (World.block_lt_of_cell? w _ hx322_0)).trans hx322_0
           replace p322 := eq_true p322
           replace q322 := eq_true q322
           have hcz24_0 : wr.cell? ⟨g0_, 0, none⟩ = some (.slice A0_0 l0_0.length c0_0) := (blk_cell BK0.out 0).trans rfl
           have hfz24_0 := blk_frozen BK0.out 0
           have p323 : 0 ≤ ((rd l1 x17_1) : Int) := of_decide_eq_true (by first | (with_reducible assumption) | assumption)
           have q323 : (rd l1 x17_1) < (l0_0.length : Int) := of_decide_eq_true (by first | (with_reducible assumption) | assumption)
           obtain ⟨ad323, e323, hx323_0, hx323_1, hx323_2⟩ := at_T44 HR0_0.out (rd l1 x17_1) p323 q323
           cases e323
           replace hx323_0 := (HB.out.cell (World.block_lt_of_cell? w _ hx323_0)).trans hx323_0
           replace hx323_1 := (HB.out.cell (World.block_lt_of_cell? w _ hx323_1)).trans hx323_1
           replace hx323_2 := (HB.out.cell (World.block_lt_of_cell? w _ hx323_2)).trans hx323_2
           replace p323 := eq_true p323
           replace q323 := eq_true q323
           go_wp2_with (first | ((with_reducible refine gate_dst (N := 9) rfl ?_); refine box_event ?hg (N := 9) ?hd (cs := #[.int .i64 0, .int .i64 0, .int .i64 0]) (t := 44) ?hr ?_; (case hd => rfl); (case hg => rfl); (case hr => first | (go_simp; done) | (go_simp; rfl)); intro gb324 hg w25 hbox hb; have n0_ := Aside0.mk (Kd.R_below (zr HO_5.out) hb); have n1_ := Aside0.mk (Kd.R_below (zr HO_6.out) hb); have n2_ := Aside0.mk (blk_below (zh BK0.out) hb); have n3_ := Aside0.mk (below_step (zb HB.out) hb); have n4_ := Aside0.mk (hbox); have n5_ := Aside0.mk ((by rw [hg]; exact (below_size (zb HB.out)) : w.heap.size ≤ gb324)); have n6_ := Aside0.mk ((by rw [hg]; exact (below_size (zb HB.out)) : w.heap.size ≤ gb324)); have n7_ := Aside0.mk ((by rw [hg]; exact Nat.ne_of_lt (blk_lt (zh BK0.out)) : g0_ ≠ gb324)); have n8_ := Aside0.mk ((by rw [hg]; exact Nat.ne_of_gt (blk_lt (zh BK0.out)) : gb324 ≠ g0_)); clear HO_5; clear HO_6; clear BK0; clear HB; have HO_5 := n0_; have HO_6 := n1_; have BK0 := n2_; have HB := n3_; have BK324 := n4_; have GW324 := n5_; have GE324 := n6_; have NB0_324 := n7_; have NB324_0 := n8_; clear n0_ n1_ n2_ n3_ n4_ n5_ n6_ n7_ n8_; clear hb hbox hg; have hnb26 := NB324_0.out; have hnc26 := NB0_324.out; have hcz27_0 : w25.cell? ⟨gb324, 0, none⟩ = some (.int .i64 0) := (blk_cell BK324.out 0).trans rfl; have hcz27_1 : w25.cell? ⟨gb324, 1, none⟩ = some (.int .i64 0) := (blk_cell BK324.out 1).trans rfl; have hcz27_2 : w25.cell? ⟨gb324, 2, none⟩ = some (.int .i64 0) := (blk_cell BK324.out 2).trans rfl; have hfz27_0 := blk_frozen BK324.out 0; have hfz27_1 := blk_frozen BK324.out 1; have hfz27_2 := blk_frozen BK324.out 2) | ((with_reducible refine gate_builtin (b := .append) (xs := #[.tmp 55, .tmp 58]) rfl ?_); at_builtin; refine Kd.R_append (Kd.int .i64) (w0 := w) w.heap.size rfl (.tmp 55) (.tmp 58) 26 3 (.int .i64 0) 8 rfl Try.underlying26 info3 rfl (by decide) (by omega) u6 x6_1 ((rd_T44 l0_0 (rd l1 x17_1)).f1) [.int .i64 ((rd_T44 l0_0 (rd l1 x17_1)).f1)] (fun k_ => (w.heap.size ≤ k_)) (fun _ => False) rfl (by first | (go_simp; done) | (go_simp; rfl)) ?aP (fun _ hk => hk.elim) ?aF ?aO ?aB ?aS ?aL ?_; (case aP => exact rfl); (case aB => exact (zb HB.out)); (case aF => exact (fun k_ hk => (Nat.le_trans (below_size (zb HB.out)) hk))); (case aO => exact (by (with_reducible repeat (first | apply Kd.R_alloc | apply Kd.R_drewN | apply Kd.R_drew)); exact Kd.R_mono (Kd.R_far (p := ⟨gb324, 2, none⟩) (Kd.R_far (p := ⟨gb324, 1, none⟩) (Kd.R_far (p := ⟨gb324, 0, none⟩) (Kd.R_types HO_6.out BK324.out (by decide)) (fun _ hk => hk.2) (.int .i64 ((rd_T44 l0_0 (rd l1 x17_1)).f0))) (fun _ hk => hk.2) (.int .i64 ((rd_T44 l0_0 (rd l1 x17_1)).f1))) (fun _ hk => hk.2) (.int .i64 ((rd_T44 l0_0 (rd l1 x17_1)).f2))) (fun _ hk => hk.1))); (case aS => exact (below_size (zb HB.out))); (case aL => have := LMc23.out; omega); intro v332 w28 ho hb hg hat; rw [← Ny331.out] at ho; have n0_ := Aside0.mk (Kd.R_over' (by (with_reducible repeat (first | apply Kd.R_alloc | apply Kd.R_drewN | apply Kd.R_drew)); exact (Kd.R_mono (Kd.R_far (p := ⟨gb324, 2, none⟩) (Kd.R_far (p := ⟨gb324, 1, none⟩) (Kd.R_far (p := ⟨gb324, 0, none⟩) (Kd.R_types HO_5.out BK324.out (by decide)) (fun _ hk => hk.2) (.int .i64 ((rd_T44 l0_0 (rd l1 x17_1)).f0))) (fun _ hk => hk.2) (.int .i64 ((rd_T44 l0_0 (rd l1 x17_1)).f1))) (fun _ hk => hk.2) (.int .i64 ((rd_T44 l0_0 (rd l1 x17_1)).f2))) (fun _ h_ => h_.1))) (Kd.R_typed (by (with_reducible repeat (first | apply Kd.R_alloc | apply Kd.R_drewN | apply Kd.R_drew)); exact (Kd.R_mono (Kd.R_far (p := ⟨gb324, 2, none⟩) (Kd.R_far (p := ⟨gb324, 1, none⟩) (Kd.R_far (p := ⟨gb324, 0, none⟩) (Kd.R_types HO_6.out BK324.out (by decide)) (fun _ hk => hk.2) (.int .i64 ((rd_T44 l0_0 (rd l1 x17_1)).f0))) (fun _ hk => hk.2) (.int .i64 ((rd_T44 l0_0 (rd l1 x17_1)).f1))) (fun _ hk => hk.2) (.int .i64 ((rd_T44 l0_0 (rd l1 x17_1)).f2))) (fun _ h_ => h_.1)))) (by decide) hg); have n1_ := Aside0.mk (blk_grown (g := g0_) (o := .cells #[.slice (some ad323) l0_0.length c0_0] 30 (0, 0)) (zf BK0.out) hg (Kd.R_ne HO_6.out BK0.out (by decide))); have n2_ := Aside0.mk (blk_grown (g := gb324) (o := .cells #[.int .i64 ((rd_T44 l0_0 (rd l1 x17_1)).f0), .int .i64 ((rd_T44 l0_0 (rd l1 x17_1)).f1), .int .i64 ((rd_T44 l0_0 (rd l1 x17_1)).f2)] 44 (0, 0)) (by (with_reducible repeat (first | refine blk_drewN ?_ _ | refine blk_drew ?_ | refine blk_alloc ?_ _)); refine blk_put (cs := #[.int .i64 ((rd_T44 l0_0 (rd l1 x17_1)).f0), .int .i64 ((rd_T44 l0_0 (rd l1 x17_1)).f1), .int .i64 0]) ?_ 2 _ rfl; (with_reducible repeat (first | refine blk_drewN ?_ _ | refine blk_drew ?_ | refine blk_alloc ?_ _)); refine blk_put (cs := #[.int .i64 ((rd_T44 l0_0 (rd l1 x17_1)).f0), .int .i64 0, .int .i64 0]) ?_ 1 _ rfl; (with_reducible repeat (first | refine blk_drewN ?_ _ | refine blk_drew ?_ | refine blk_alloc ?_ _)); refine blk_put (cs := #[.int .i64 0, .int .i64 0, .int .i64 0]) ?_ 0 _ rfl; (with_reducible repeat (first | refine blk_drewN ?_ _ | refine blk_drew ?_ | refine blk_alloc ?_ _)); exact BK324.out) hg (Kd.R_ne HO_6.out BK324.out (by decide))); have n3_ := Aside0.mk (hb); have n4_ := Aside0.mk (ho); clear HO_5; clear BK0; clear BK324; clear HB; clear HO_6; have HO_5 := n0_; have BK0 := n1_; have BK324 := n2_; have HB := n3_; have HO333 := n4_; clear n0_ n1_ n2_ n3_ n4_; clear ho hb hg hat))
           go_roundg k1
           case measure => have := HK1.out; omega
           case rel => exact ⟨(y331), (wrap64 (x17_1 + 1)), (by first | rfl | (simp; done) | (simp [*]; done)), H', ⟨by have := HK1.out; omega⟩, ⟨zr HO_5.out⟩, ⟨zr HO333.out⟩, ⟨zh BK0.out⟩, ⟨zb HB.out⟩⟩
          ·rw [if_neg c23] at H
           exact absurd H (by simp)
         ·rw [if_neg c22] at H
          have c22b0 : (((rd_T44 l0_0 (rd l1 x17_1)).f0) == 4) = false := beq_eq_false_iff_ne.mpr c22
          have c22b1 : (((rd_T44 l0_0 (rd l1 x17_1)).f0) != 4) = true := bne_iff_ne.mpr c22
          by_cases c29 : ((rd_T44 l0_0 (rd l1 x17_1)).f0) = 3
          ·rw [if_pos c29] at H
           have c29b0 : (((rd_T44 l0_0 (rd l1 x17_1)).f0) == 3) = true := beq_iff_eq.mpr c29
           have c29b1 : (((rd_T44 l0_0 (rd l1 x17_1)).f0) != 3) = false := bne_eq_false_iff_eq.mpr c29
           clear c29
           by_cases c30 : 0 ≤ ((rd_T44 l0_0 (rd l1 x17_1)).f2)
           ·rw [if_pos c30] at H
            have c30b0 : decide (0 ≤ ((rd_T44 l0_0 (rd l1 x17_1)).f2)) = true := decide_eq_true c30
            clear c30
            by_cases c31 : ((rd_T44 l0_0 (rd l1 x17_1)).f2) < (t316.length : Int)
            ·rw [if_pos c31] at H
             have c31b0 : decide (((rd_T44 l0_0 (rd l1 x17_1)).f2) < (t316.length : Int)) = true := decide_eq_true c31
             clear c31
             obtain ⟨bq32, hbq32⟩ : ∃ b_ : Bool, b_ = (rdOf false t316 ((rd_T44 l0_0 (rd l1 x17_1)).f2)) := ⟨_, rfl⟩
             replace H : (if bq32 = true then (if x6_1.length < 17592186044416 then (impl_Pool_openOnce.l0 k1 l1 t316 (x6_1 ++ [(rd_T44 l0_0 (rd l1 x17_1)).f1]) l1 (l1.length : Int) (wrap64 (x17_1 + 1)) l0_0) else (none)) else (impl_Pool_openOnce.l0 k1 l1 t316 x6_1 l1 (l1.length : Int) (wrap64 (x17_1 + 1)) l0_0)) = some r := by rw [← hbq32] at H; exact H
             have Nbq32 := Aside0.mk hbq32
             clear hbq32
             by_cases c33 : bq32 = true
             ·subst c33
              have H1 : (if x6_1.length < 17592186044416 then (impl_Pool_openOnce.l0 k1 l1 t316 (x6_1 ++ [(rd_T44 l0_0 (rd l1 x17_1)).f1]) l1 (l1.length : Int) (wrap64 (x17_1 + 1)) l0_0) else (none)) = some r := by rw [if_pos rfl] at H; exact H
              clear H
              have H := H1
              clear H1
              by_cases c34 : x6_1.length < 17592186044416
              ·rw [if_pos c34] at H
               have LMc34 := Aside0.mk c34
               clear c34
               obtain ⟨y335, hy335⟩ : ∃ y_ : List Int, y_ = (x6_1 ++ [(rd_T44 l0_0 (rd l1 x17_1)).f1]) := ⟨_, rfl⟩
               replace H : (impl_Pool_openOnce.l0 k1 l1 t316 y335 l1 (l1.length : Int) (wrap64 (x17_1 + 1)) l0_0) = some r := by first | (rw [hy335]; with_reducible exact H) | (have H2_ := (Option.bind_some _ _).symm.trans H; rw [hy335]; with_reducible exact H2_) | (have H2_ := (Option.bind_some _ _).symm.trans H; with_reducible exact H2_) | with_reducible exact H | (rw [hy335]; exact H) | exact H
               have Ny335 := Aside0.mk hy335
               clear hy335
               have H' := Aside0.mk H
               clear H
               have p322 : 0 ≤ (x17_1 : Int) := of_decide_eq_true (by first | (with_reducible assumption) | assumption)
               have q322 : x17_1 < (l1.length : Int) := of_decide_eq_true (by first | (with_reducible assumption) | assumption)
               obtain ⟨ad322, e322, hx322_0⟩ := Kd.at_int HR1.out x17_1 p322 q322
               cases e322
               replace hx322_0 := (HB.out.cell (World.block_lt_of_cell? w _ hx322_0)).trans hx322_0
               replace p322 := eq_true p322
               replace q322 := eq_true q322
               have hcz35_0 : wr.cell? ⟨g0_, 0, none⟩ = some (.slice A0_0 l0_0.length c0_0) := (blk_cell BK0.out 0).trans rfl
               have hfz35_0 := blk_frozen BK0.out 0
               have p323 : 0 ≤ ((rd l1 x17_1) : Int) := of_decide_eq_true (by first | (with_reducible assumption) | assumption)
               have q323 : (rd l1 x17_1) < (l0_0.length : Int) := of_decide_eq_true (by first | (with_reducible assumption) | assumption)
               obtain ⟨ad323, e323, hx323_0, hx323_1, hx323_2⟩ := at_T44 HR0_0.out (rd l1 x17_1) p323 q323
               cases e323
               replace hx323_0 := (HB.out.cell (World.block_lt_of_cell? w _ hx323_0)).trans hx323_0
               replace hx323_1 := (HB.out.cell (World.block_lt_of_cell? w _ hx323_1)).trans hx323_1
               replace hx323_2 := (HB.out.cell (World.block_lt_of_cell? w _ hx323_2)).trans hx323_2
               replace p323 := eq_true p323
               replace q323 := eq_true q323
               go_wp2_with (first | ((with_reducible refine gate_dst (N := 9) rfl ?_); refine box_event ?hg (N := 9) ?hd (cs := #[.int .i64 0, .int .i64 0, .int .i64 0]) (t := 44) ?hr ?_; (case hd => rfl); (case hg => rfl); (case hr => first | (go_simp; done) | (go_simp; rfl)); intro gb324 hg w36 hbox hb; have n0_ := Aside0.mk (Kd.R_below (zr HO_5.out) hb); have n1_ := Aside0.mk (Kd.R_below (zr HO_6.out) hb); have n2_ := Aside0.mk (blk_below (zh BK0.out) hb); have n3_ := Aside0.mk (below_step (zb HB.out) hb); have n4_ := Aside0.mk (hbox); have n5_ := Aside0.mk ((by rw [hg]; exact (below_size (zb HB.out)) : w.heap.size ≤ gb324)); have n6_ := Aside0.mk ((by rw [hg]; exact (below_size (zb HB.out)) : w.heap.size ≤ gb324)); have n7_ := Aside0.mk ((by rw [hg]; exact Nat.ne_of_lt (blk_lt (zh BK0.out)) : g0_ ≠ gb324)); have n8_ := Aside0.mk ((by rw [hg]; exact Nat.ne_of_gt (blk_lt (zh BK0.out)) : gb324 ≠ g0_)); clear HO_5; clear HO_6; clear BK0; clear HB; have HO_5 := n0_; have HO_6 := n1_; have BK0 := n2_; have HB := n3_; have BK324 := n4_; have GW324 := n5_; have GE324 := n6_; have NB0_324 := n7_; have NB324_0 := n8_; clear n0_ n1_ n2_ n3_ n4_ n5_ n6_ n7_ n8_; clear hb hbox hg; have hnb37 := NB324_0.out; have hnc37 := NB0_324.out; have hcz38_0 : w36.cell? ⟨gb324, 0, none⟩ = some (.int .i64 0) := (blk_cell BK324.out 0).trans rfl; have hcz38_1 : w36.cell? ⟨gb324, 1, none⟩ = some (.int .i64 0) := (blk_cell BK324.out 1).trans rfl; have hcz38_2 : w36.cell? ⟨gb324, 2, none⟩ = some (.int .i64 0) := (blk_cell BK324.out 2).trans rfl; have hfz38_0 := blk_frozen BK324.out 0; have hfz38_1 := blk_frozen BK324.out 1; have hfz38_2 := blk_frozen BK324.out 2; obtain ⟨Ao39, co39, eo39⟩ := Kd.R_slice HO_5.out; subst eo39; have p334 : 0 ≤ (((rd_T44 l0_0 (rd l1 x17_1)).f2) : Int) := of_decide_eq_true (by first | (with_reducible assumption) | assumption); have q334 : ((rd_T44 l0_0 (rd l1 x17_1)).f2) < (t316.length : Int) := of_decide_eq_true (by first | (with_reducible assumption) | assumption); obtain ⟨ad334, e334, hx334_0⟩ := Kd.at_bool (Kd.R_reads' HO_5.out).2.2 ((rd_T44 l0_0 (rd l1 x17_1)).f2) p334 q334; (try rw [← Nbq32.out] at hx334_0); cases e334; have hn334_0 : ad334.block ≠ gb324 := Kd.own_blk (Kd.R_ne HO_5.out BK324.out (by decide)); have hn334_1 : ad334.block ≠ gb324 := Kd.own_blk (Kd.R_ne HO_5.out BK324.out (by decide)); have hn334_2 : ad334.block ≠ gb324 := Kd.own_blk (Kd.R_ne HO_5.out BK324.out (by decide)); replace hx334_0 := (cell_far (p := ⟨gb324, 0, none⟩) (by first | (rw [add_block]; exact hn334_0) | (show (Addr.add _ _).block ≠ _; rw [add_block]; exact hn334_0) | exact hn334_0) (.int .i64 ((rd_T44 l0_0 (rd l1 x17_1)).f0))).trans hx334_0; replace hx334_0 := (cell_far (p := ⟨gb324, 1, none⟩) (by first | (rw [add_block]; exact hn334_1) | (show (Addr.add _ _).block ≠ _; rw [add_block]; exact hn334_1) | exact hn334_1) (.int .i64 ((rd_T44 l0_0 (rd l1 x17_1)).f1))).trans hx334_0; replace hx334_0 := (cell_far (p := ⟨gb324, 2, none⟩) (by first | (rw [add_block]; exact hn334_2) | (show (Addr.add _ _).block ≠ _; rw [add_block]; exact hn334_2) | exact hn334_2) (.int .i64 ((rd_T44 l0_0 (rd l1 x17_1)).f2))).trans hx334_0; clear hn334_0; clear hn334_1; clear hn334_2; replace p334 := eq_true p334; replace q334 := eq_true q334) | ((with_reducible refine gate_builtin (b := .append) (xs := #[.tmp 55, .tmp 58]) rfl ?_); at_builtin; refine Kd.R_append (Kd.int .i64) (w0 := w) w.heap.size rfl (.tmp 55) (.tmp 58) 26 3 (.int .i64 0) 8 rfl Try.underlying26 info3 rfl (by decide) (by omega) u6 x6_1 ((rd_T44 l0_0 (rd l1 x17_1)).f1) [.int .i64 ((rd_T44 l0_0 (rd l1 x17_1)).f1)] (fun k_ => (w.heap.size ≤ k_)) (fun _ => False) rfl (by first | (go_simp; done) | (go_simp; rfl)) ?aP (fun _ hk => hk.elim) ?aF ?aO ?aB ?aS ?aL ?_; (case aP => exact rfl); (case aB => exact (zb HB.out)); (case aF => exact (fun k_ hk => (Nat.le_trans (below_size (zb HB.out)) hk))); (case aO => exact (by (with_reducible repeat (first | apply Kd.R_alloc | apply Kd.R_drewN | apply Kd.R_drew)); exact Kd.R_mono (Kd.R_far (p := ⟨gb324, 2, none⟩) (Kd.R_far (p := ⟨gb324, 1, none⟩) (Kd.R_far (p := ⟨gb324, 0, none⟩) (Kd.R_types HO_6.out BK324.out (by decide)) (fun _ hk => hk.2) (.int .i64 ((rd_T44 l0_0 (rd l1 x17_1)).f0))) (fun _ hk => hk.2) (.int .i64 ((rd_T44 l0_0 (rd l1 x17_1)).f1))) (fun _ hk => hk.2) (.int .i64 ((rd_T44 l0_0 (rd l1 x17_1)).f2))) (fun _ hk => hk.1))); (case aS => exact (below_size (zb HB.out))); (case aL => have := LMc34.out; omega); intro v336 w40 ho hb hg hat; rw [← Ny335.out] at ho; have n0_ := Aside0.mk (Kd.R_over' (by (with_reducible repeat (first | apply Kd.R_alloc | apply Kd.R_drewN | apply Kd.R_drew)); exact (Kd.R_mono (Kd.R_far (p := ⟨gb324, 2, none⟩) (Kd.R_far (p := ⟨gb324, 1, none⟩) (Kd.R_far (p := ⟨gb324, 0, none⟩) (Kd.R_types HO_5.out BK324.out (by decide)) (fun _ hk => hk.2) (.int .i64 ((rd_T44 l0_0 (rd l1 x17_1)).f0))) (fun _ hk => hk.2) (.int .i64 ((rd_T44 l0_0 (rd l1 x17_1)).f1))) (fun _ hk => hk.2) (.int .i64 ((rd_T44 l0_0 (rd l1 x17_1)).f2))) (fun _ h_ => h_.1))) (Kd.R_typed (by (with_reducible repeat (first | apply Kd.R_alloc | apply Kd.R_drewN | apply Kd.R_drew)); exact (Kd.R_mono (Kd.R_far (p := ⟨gb324, 2, none⟩) (Kd.R_far (p := ⟨gb324, 1, none⟩) (Kd.R_far (p := ⟨gb324, 0, none⟩) (Kd.R_types HO_6.out BK324.out (by decide)) (fun _ hk => hk.2) (.int .i64 ((rd_T44 l0_0 (rd l1 x17_1)).f0))) (fun _ hk => hk.2) (.int .i64 ((rd_T44 l0_0 (rd l1 x17_1)).f1))) (fun _ hk => hk.2) (.int .i64 ((rd_T44 l0_0 (rd l1 x17_1)).f2))) (fun _ h_ => h_.1)))) (by decide) hg); have n1_ := Aside0.mk (blk_grown (g := g0_) (o := .cells #[.slice (some ad323) l0_0.length c0_0] 30 (0, 0)) (zf BK0.out) hg (Kd.R_ne HO_6.out BK0.out (by decide))); have n2_ := Aside0.mk (blk_grown (g := gb324) (o := .cells #[.int .i64 ((rd_T44 l0_0 (rd l1 x17_1)).f0), .int .i64 ((rd_T44 l0_0 (rd l1 x17_1)).f1), .int .i64 ((rd_T44 l0_0 (rd l1 x17_1)).f2)] 44 (0, 0)) (by (with_reducible repeat (first | refine blk_drewN ?_ _ | refine blk_drew ?_ | refine blk_alloc ?_ _)); refine blk_put (cs := #[.int .i64 ((rd_T44 l0_0 (rd l1 x17_1)).f0), .int .i64 ((rd_T44 l0_0 (rd l1 x17_1)).f1), .int .i64 0]) ?_ 2 _ rfl; (with_reducible repeat (first | refine blk_drewN ?_ _ | refine blk_drew ?_ | refine blk_alloc ?_ _)); refine blk_put (cs := #[.int .i64 ((rd_T44 l0_0 (rd l1 x17_1)).f0), .int .i64 0, .int .i64 0]) ?_ 1 _ rfl; (with_reducible repeat (first | refine blk_drewN ?_ _ | refine blk_drew ?_ | refine blk_alloc ?_ _)); refine blk_put (cs := #[.int .i64 0, .int .i64 0, .int .i64 0]) ?_ 0 _ rfl; (with_reducible repeat (first | refine blk_drewN ?_ _ | refine blk_drew ?_ | refine blk_alloc ?_ _)); exact BK324.out) hg (Kd.R_ne HO_6.out BK324.out (by decide))); have n3_ := Aside0.mk (hb); have n4_ := Aside0.mk (ho); clear HO_5; clear BK0; clear BK324; clear HB; clear HO_6; have HO_5 := n0_; have BK0 := n1_; have BK324 := n2_; have HB := n3_; have HO337 := n4_; clear n0_ n1_ n2_ n3_ n4_; clear ho hb hg hat))
               go_roundg k1
               case measure => have := HK1.out; omega
               case rel => exact ⟨(y335), (wrap64 (x17_1 + 1)), (by first | rfl | (simp; done) | (simp [*]; done)), H', ⟨by have := HK1.out; omega⟩, ⟨zr HO_5.out⟩, ⟨zr HO337.out⟩, ⟨zh BK0.out⟩, ⟨zb HB.out⟩⟩
              ·rw [if_neg c34] at H
               exact absurd H (by simp)
             ·replace c33 := Bool.eq_false_iff.mpr c33
              subst c33
              have H1 : (impl_Pool_openOnce.l0 k1 l1 t316 x6_1 l1 (l1.length : Int) (wrap64 (x17_1 + 1)) l0_0) = some r := by rw [if_neg (show ¬ (false = true) by decide)] at H; exact H
              clear H
              have H := H1
              clear H1
              have H' := Aside0.mk H
              clear H
              have p322 : 0 ≤ (x17_1 : Int) := of_decide_eq_true (by first | (with_reducible assumption) | assumption)
              have q322 : x17_1 < (l1.length : Int) := of_decide_eq_true (by first | (with_reducible assumption) | assumption)
              obtain ⟨ad322, e322, hx322_0⟩ := Kd.at_int HR1.out x17_1 p322 q322
              cases e322
              replace hx322_0 := (HB.out.cell (World.block_lt_of_cell? w _ hx322_0)).trans hx322_0
              replace p322 := eq_true p322
              replace q322 := eq_true q322
              have hcz41_0 : wr.cell? ⟨g0_, 0, none⟩ = some (.slice A0_0 l0_0.length c0_0) := (blk_cell BK0.out 0).trans rfl
              have hfz41_0 := blk_frozen BK0.out 0
              have p323 : 0 ≤ ((rd l1 x17_1) : Int) := of_decide_eq_true (by first | (with_reducible assumption) | assumption)
              have q323 : (rd l1 x17_1) < (l0_0.length : Int) := of_decide_eq_true (by first | (with_reducible assumption) | assumption)
              obtain ⟨ad323, e323, hx323_0, hx323_1, hx323_2⟩ := at_T44 HR0_0.out (rd l1 x17_1) p323 q323
              cases e323
              replace hx323_0 := (HB.out.cell (World.block_lt_of_cell? w _ hx323_0)).trans hx323_0
              replace hx323_1 := (HB.out.cell (World.block_lt_of_cell? w _ hx323_1)).trans hx323_1
              replace hx323_2 := (HB.out.cell (World.block_lt_of_cell? w _ hx323_2)).trans hx323_2
              replace p323 := eq_true p323
              replace q323 := eq_true q323
              go_wp2_with (first | ((with_reducible refine gate_dst (N := 9) rfl ?_); refine box_event ?hg (N := 9) ?hd (cs := #[.int .i64 0, .int .i64 0, .int .i64 0]) (t := 44) ?hr ?_; (case hd => rfl); (case hg => rfl); (case hr => first | (go_simp; done) | (go_simp; rfl)); intro gb324 hg w42 hbox hb; have n0_ := Aside0.mk (Kd.R_below (zr HO_5.out) hb); have n1_ := Aside0.mk (Kd.R_below (zr HO_6.out) hb); have n2_ := Aside0.mk (blk_below (zh BK0.out) hb); have n3_ := Aside0.mk (below_step (zb HB.out) hb); have n4_ := Aside0.mk (hbox); have n5_ := Aside0.mk ((by rw [hg]; exact (below_size (zb HB.out)) : w.heap.size ≤ gb324)); have n6_ := Aside0.mk ((by rw [hg]; exact (below_size (zb HB.out)) : w.heap.size ≤ gb324)); have n7_ := Aside0.mk ((by rw [hg]; exact Nat.ne_of_lt (blk_lt (zh BK0.out)) : g0_ ≠ gb324)); have n8_ := Aside0.mk ((by rw [hg]; exact Nat.ne_of_gt (blk_lt (zh BK0.out)) : gb324 ≠ g0_)); clear HO_5; clear HO_6; clear BK0; clear HB; have HO_5 := n0_; have HO_6 := n1_; have BK0 := n2_; have HB := n3_; have BK324 := n4_; have GW324 := n5_; have GE324 := n6_; have NB0_324 := n7_; have NB324_0 := n8_; clear n0_ n1_ n2_ n3_ n4_ n5_ n6_ n7_ n8_; clear hb hbox hg; have hnb43 := NB324_0.out; have hnc43 := NB0_324.out; have hcz44_0 : w42.cell? ⟨gb324, 0, none⟩ = some (.int .i64 0) := (blk_cell BK324.out 0).trans rfl; have hcz44_1 : w42.cell? ⟨gb324, 1, none⟩ = some (.int .i64 0) := (blk_cell BK324.out 1).trans rfl; have hcz44_2 : w42.cell? ⟨gb324, 2, none⟩ = some (.int .i64 0) := (blk_cell BK324.out 2).trans rfl; have hfz44_0 := blk_frozen BK324.out 0; have hfz44_1 := blk_frozen BK324.out 1; have hfz44_2 := blk_frozen BK324.out 2; obtain ⟨Ao45, co45, eo45⟩ := Kd.R_slice HO_5.out; subst eo45; have p334 : 0 ≤ (((rd_T44 l0_0 (rd l1 x17_1)).f2) : Int) := of_decide_eq_true (by first | (with_reducible assumption) | assumption); have q334 : ((rd_T44 l0_0 (rd l1 x17_1)).f2) < (t316.length : Int) := of_decide_eq_true (by first | (with_reducible assumption) | assumption); obtain ⟨ad334, e334, hx334_0⟩ := Kd.at_bool (Kd.R_reads' HO_5.out).2.2 ((rd_T44 l0_0 (rd l1 x17_1)).f2) p334 q334; (try rw [← Nbq32.out] at hx334_0); cases e334; have hn334_0 : ad334.block ≠ gb324 := Kd.own_blk (Kd.R_ne HO_5.out BK324.out (by decide)); have hn334_1 : ad334.block ≠ gb324 := Kd.own_blk (Kd.R_ne HO_5.out BK324.out (by decide)); have hn334_2 : ad334.block ≠ gb324 := Kd.own_blk (Kd.R_ne HO_5.out BK324.out (by decide)); replace hx334_0 := (cell_far (p := ⟨gb324, 0, none⟩) (by first | (rw [add_block]; exact hn334_0) | (show (Addr.add _ _).block ≠ _; rw [add_block]; exact hn334_0) | exact hn334_0) (.int .i64 ((rd_T44 l0_0 (rd l1 x17_1)).f0))).trans hx334_0; replace hx334_0 := (cell_far (p := ⟨gb324, 1, none⟩) (by first | (rw [add_block]; exact hn334_1) | (show (Addr.add _ _).block ≠ _; rw [add_block]; exact hn334_1) | exact hn334_1) (.int .i64 ((rd_T44 l0_0 (rd l1 x17_1)).f1))).trans hx334_0; replace hx334_0 := (cell_far (p := ⟨gb324, 2, none⟩) (by first | (rw [add_block]; exact hn334_2) | (show (Addr.add _ _).block ≠ _; rw [add_block]; exact hn334_2) | exact hn334_2) (.int .i64 ((rd_T44 l0_0 (rd l1 x17_1)).f2))).trans hx334_0; clear hn334_0; clear hn334_1; clear hn334_2; replace p334 := eq_true p334; replace q334 := eq_true q334))
              go_roundg k1
              case measure => have := HK1.out; omega
              case rel => exact ⟨(x6_1), (wrap64 (x17_1 + 1)), (by first | rfl | (simp; done) | (simp [*]; done)), H', ⟨by have := HK1.out; omega⟩, ⟨zr (Kd.R_mono (Kd.R_far (p := ⟨gb324, 2, none⟩) (Kd.R_far (p := ⟨gb324, 1, none⟩) (Kd.R_far (p := ⟨gb324, 0, none⟩) (Kd.R_types HO_5.out BK324.out (by decide)) (fun _ hk => hk.2) (.int .i64 ((rd_T44 l0_0 (rd l1 x17_1)).f0))) (fun _ hk => hk.2) (.int .i64 ((rd_T44 l0_0 (rd l1 x17_1)).f1))) (fun _ hk => hk.2) (.int .i64 ((rd_T44 l0_0 (rd l1 x17_1)).f2))) (fun _ hk => hk.1))⟩, ⟨zr (Kd.R_mono (Kd.R_far (p := ⟨gb324, 2, none⟩) (Kd.R_far (p := ⟨gb324, 1, none⟩) (Kd.R_far (p := ⟨gb324, 0, none⟩) (Kd.R_types HO_6.out BK324.out (by decide)) (fun _ hk => hk.2) (.int .i64 ((rd_T44 l0_0 (rd l1 x17_1)).f0))) (fun _ hk => hk.2) (.int .i64 ((rd_T44 l0_0 (rd l1 x17_1)).f1))) (fun _ hk => hk.2) (.int .i64 ((rd_T44 l0_0 (rd l1 x17_1)).f2))) (fun _ hk => hk.1))⟩, ⟨zf BK0.out⟩, ⟨zb HB.out⟩⟩
            ·rw [if_neg c31] at H
             exact absurd H (by simp)
           ·rw [if_neg c30] at H
            exact absurd H (by simp)
          ·rw [if_neg c29] at H
           have c29b0 : (((rd_T44 l0_0 (rd l1 x17_1)).f0) == 3) = false := beq_eq_false_iff_ne.mpr c29
           have c29b1 : (((rd_T44 l0_0 (rd l1 x17_1)).f0) != 3) = true := bne_iff_ne.mpr c29
           have H' := Aside0.mk H
           clear H
           have p322 : 0 ≤ (x17_1 : Int) := of_decide_eq_true (by first | (with_reducible assumption) | assumption)
           have q322 : x17_1 < (l1.length : Int) := of_decide_eq_true (by first | (with_reducible assumption) | assumption)
           obtain ⟨ad322, e322, hx322_0⟩ := Kd.at_int HR1.out x17_1 p322 q322
           cases e322
           replace hx322_0 := (HB.out.cell (World.block_lt_of_cell? w _ hx322_0)).trans hx322_0
           replace p322 := eq_true p322
           replace q322 := eq_true q322
           have hcz46_0 : wr.cell? ⟨g0_, 0, none⟩ = some (.slice A0_0 l0_0.length c0_0) := (blk_cell BK0.out 0).trans rfl
           have hfz46_0 := blk_frozen BK0.out 0
           have p323 : 0 ≤ ((rd l1 x17_1) : Int) := of_decide_eq_true (by first | (with_reducible assumption) | assumption)
           have q323 : (rd l1 x17_1) < (l0_0.length : Int) := of_decide_eq_true (by first | (with_reducible assumption) | assumption)
           obtain ⟨ad323, e323, hx323_0, hx323_1, hx323_2⟩ := at_T44 HR0_0.out (rd l1 x17_1) p323 q323
           cases e323
           replace hx323_0 := (HB.out.cell (World.block_lt_of_cell? w _ hx323_0)).trans hx323_0
           replace hx323_1 := (HB.out.cell (World.block_lt_of_cell? w _ hx323_1)).trans hx323_1
           replace hx323_2 := (HB.out.cell (World.block_lt_of_cell? w _ hx323_2)).trans hx323_2
           replace p323 := eq_true p323
           replace q323 := eq_true q323
           go_wp2_with (first | ((with_reducible refine gate_dst (N := 9) rfl ?_); refine box_event ?hg (N := 9) ?hd (cs := #[.int .i64 0, .int .i64 0, .int .i64 0]) (t := 44) ?hr ?_; (case hd => rfl); (case hg => rfl); (case hr => first | (go_simp; done) | (go_simp; rfl)); intro gb324 hg w47 hbox hb; have n0_ := Aside0.mk (Kd.R_below (zr HO_5.out) hb); have n1_ := Aside0.mk (Kd.R_below (zr HO_6.out) hb); have n2_ := Aside0.mk (blk_below (zh BK0.out) hb); have n3_ := Aside0.mk (below_step (zb HB.out) hb); have n4_ := Aside0.mk (hbox); have n5_ := Aside0.mk ((by rw [hg]; exact (below_size (zb HB.out)) : w.heap.size ≤ gb324)); have n6_ := Aside0.mk ((by rw [hg]; exact (below_size (zb HB.out)) : w.heap.size ≤ gb324)); have n7_ := Aside0.mk ((by rw [hg]; exact Nat.ne_of_lt (blk_lt (zh BK0.out)) : g0_ ≠ gb324)); have n8_ := Aside0.mk ((by rw [hg]; exact Nat.ne_of_gt (blk_lt (zh BK0.out)) : gb324 ≠ g0_)); clear HO_5; clear HO_6; clear BK0; clear HB; have HO_5 := n0_; have HO_6 := n1_; have BK0 := n2_; have HB := n3_; have BK324 := n4_; have GW324 := n5_; have GE324 := n6_; have NB0_324 := n7_; have NB324_0 := n8_; clear n0_ n1_ n2_ n3_ n4_ n5_ n6_ n7_ n8_; clear hb hbox hg; have hnb48 := NB324_0.out; have hnc48 := NB0_324.out; have hcz49_0 : w47.cell? ⟨gb324, 0, none⟩ = some (.int .i64 0) := (blk_cell BK324.out 0).trans rfl; have hcz49_1 : w47.cell? ⟨gb324, 1, none⟩ = some (.int .i64 0) := (blk_cell BK324.out 1).trans rfl; have hcz49_2 : w47.cell? ⟨gb324, 2, none⟩ = some (.int .i64 0) := (blk_cell BK324.out 2).trans rfl; have hfz49_0 := blk_frozen BK324.out 0; have hfz49_1 := blk_frozen BK324.out 1; have hfz49_2 := blk_frozen BK324.out 2))
           go_roundg k1
           case measure => have := HK1.out; omega
           case rel => exact ⟨(x6_1), (wrap64 (x17_1 + 1)), (by first | rfl | (simp; done) | (simp [*]; done)), H', ⟨by have := HK1.out; omega⟩, ⟨zr (Kd.R_mono (Kd.R_far (p := ⟨gb324, 2, none⟩) (Kd.R_far (p := ⟨gb324, 1, none⟩) (Kd.R_far (p := ⟨gb324, 0, none⟩) (Kd.R_types HO_5.out BK324.out (by decide)) (fun _ hk => hk.2) (.int .i64 ((rd_T44 l0_0 (rd l1 x17_1)).f0))) (fun _ hk => hk.2) (.int .i64 ((rd_T44 l0_0 (rd l1 x17_1)).f1))) (fun _ hk => hk.2) (.int .i64 ((rd_T44 l0_0 (rd l1 x17_1)).f2))) (fun _ hk => hk.1))⟩, ⟨zr (Kd.R_mono (Kd.R_far (p := ⟨gb324, 2, none⟩) (Kd.R_far (p := ⟨gb324, 1, none⟩) (Kd.R_far (p := ⟨gb324, 0, none⟩) (Kd.R_types HO_6.out BK324.out (by decide)) (fun _ hk => hk.2) (.int .i64 ((rd_T44 l0_0 (rd l1 x17_1)).f0))) (fun _ hk => hk.2) (.int .i64 ((rd_T44 l0_0 (rd l1 x17_1)).f1))) (fun _ hk => hk.2) (.int .i64 ((rd_T44 l0_0 (rd l1 x17_1)).f2))) (fun _ hk => hk.1))⟩, ⟨zf BK0.out⟩, ⟨zb HB.out⟩⟩
       ·rw [if_neg c11] at H
        exact absurd H (by simp)
      ·rw [if_neg c10] at H
       exact absurd H (by simp)
     ·rw [if_neg c9] at H
      exact absurd H (by simp)
    ·rw [if_neg c8] at H
     exact absurd H (by simp)
   ·rw [if_neg c7] at H
    have c7b0 : decide (x17_1 < (l1.length : Int)) = false := decide_eq_false c7
    clear c7
    replace H := Option.bind_eq_some_iff.mp H
    obtain ⟨t338, A500, H⟩ := H
    replace H : ((slices_Compact_int_int.f t338).bind fun t339 => ((slices_Clip_int_int.f t339).bind fun t342 => (if (t342.length : Int) > 200 then ((slices_Clone_int_int.f l1).bind fun t345 => (some t345)) else (some t342)))) = some r := H
    have A50 := Aside0.mk A500
    clear A500
    replace H := Option.bind_eq_some_iff.mp H
    obtain ⟨t339, A510, H⟩ := H
    replace H : ((slices_Clip_int_int.f t339).bind fun t342 => (if (t342.length : Int) > 200 then ((slices_Clone_int_int.f l1).bind fun t345 => (some t345)) else (some t342))) = some r := H
    have A51 := Aside0.mk A510
    clear A510
    replace H := Option.bind_eq_some_iff.mp H
    obtain ⟨t342, A520, H⟩ := H
    replace H : (if (t342.length : Int) > 200 then ((slices_Clone_int_int.f l1).bind fun t345 => (some t345)) else (some t342)) = some r := H
    have A52 := Aside0.mk A520
    clear A520
    by_cases c53 : (t342.length : Int) > 200
    ·rw [if_pos c53] at H
     have c53b0 : decide (200 < (t342.length : Int)) = true := decide_eq_true c53
     have c53b1 : decide (200 < t342.length) = true := decide_eq_true (by omega)
     clear c53
     replace H := Option.bind_eq_some_iff.mp H
     obtain ⟨t345, A540, H⟩ := H
     replace H : (some t345) = some r := H
     have A54 := Aside0.mk A540
     clear A540
     obtain rfl := Option.some.inj H
     obtain ⟨Ao55, co55, eo55⟩ := Kd.R_slice HO_6.out
     subst eo55
     go_wp2_with (first | ((with_reducible refine gate_callee (f := 40) rfl ?_); refine goesL_ (some 62) rfl rfl Try.func40 (by kernel_rfl) rfl #[.slice Ao55 x6_1.length co55] rfl zl ?_; (with_reducible refine (slices_Sort_int_int.calls (fun k_ => some k_ = (.slice Ao55 x6_1.length co55 : Value).ownBlock) (.slice Ao55 x6_1.length co55) x6_1 t338 w _ ?side1 ?side2 A50.out).mono ?_); (case side1 => exact zb HB.out); (case side2 => exact Kd.R_tight rfl HO_6.out); rintro e w56 ⟨rfl, hy0, hb, hkp⟩; refine ⟨_, rfl, ?_⟩; have n0_ := Aside0.mk (Kd.R_mono (ok' := fun k_ => (w.heap.size ≤ k_)) (Kd.R_keptB ((Kd.R_apart' HO_5.out (Kd.R_typed HO_6.out) (by decide))) hkp (fun k_ hk_ hs_ => by first | exact (hk_.2) hs_ | (revert hk_; simp only [and_imp]; intros; exact absurd hs_ (by assumption)))) (fun k_ hk_ => by first | exact hk_.1.1 | (revert hk_; simp only [and_imp]; intros; and_intros <;> assumption))); have n1_ := Aside0.mk (Kd.R_reok rfl hy0 (fun k_ e_ => HO_6.out.1 k_ e_)); have n2_ := Aside0.mk (blk_kept (zh BK0.out) hkp (fun hs_ => (fun e_ => (Kd.R_ne HO_6.out BK0.out (by decide)) e_) hs_)); have n3_ := Aside0.mk (hb); clear HO_5; clear HO_6; clear BK0; clear HB; have HO_5 := n0_; have HO_6 := n1_; have BK0 := n2_; have HB := n3_; clear n0_ n1_ n2_ n3_; (try clear hb); (try clear hkp); (try clear hy0)) | ((with_reducible refine gate_callee (f := 58) rfl ?_); refine goesL_ (some 64) rfl rfl Try.func58 (by kernel_rfl) rfl #[.slice Ao55 x6_1.length co55] rfl zl ?_; (with_reducible refine (slices_Compact_int_int.calls (fun k_ => some k_ = (.slice Ao55 x6_1.length co55 : Value).ownBlock) (.slice Ao55 x6_1.length co55) t338 t339 w _ ?side1 ?side2 A51.out).mono ?_); (case side1 => exact zb HB.out); (case side2 => exact Kd.R_tight rfl HO_6.out); rintro e w57 ⟨v340, rfl, ho0, hb, hkp⟩; refine ⟨_, rfl, ?_⟩; have n0_ := Aside0.mk (Kd.R_mono (ok' := fun k_ => (w.heap.size ≤ k_)) (Kd.R_keptB ((Kd.R_apart' HO_5.out (Kd.R_typed HO_6.out) (by decide))) hkp (fun k_ hk_ hs_ => by first | exact (hk_.2) hs_ | (revert hk_; simp only [and_imp]; intros; exact absurd hs_ (by assumption)))) (fun k_ hk_ => by first | exact hk_.1.1 | (revert hk_; simp only [and_imp]; intros; and_intros <;> assumption))); have n1_ := Aside0.mk (blk_kept (zh BK0.out) hkp (fun hs_ => (fun e_ => (Kd.R_ne HO_6.out BK0.out (by decide)) e_) hs_)); have n2_ := Aside0.mk (Kd.R_mono (ok' := fun k_ => (w.heap.size ≤ k_)) ho0 (fun k_ hk_ => Or.elim hk_ (fun hs_ => (HO_6.out.1 k_ (hs_).symm)) (fun hn_ => (Nat.le_trans (below_size (zb HB.out)) hn_)))); have n3_ := Aside0.mk (hb); clear HO_5; clear BK0; clear HB; clear HO_6; have HO_5 := n0_; have BK0 := n1_; have HO341 := n2_; have HB := n3_; clear n0_ n1_ n2_ n3_; (try clear hb); (try clear hkp); (try clear ho0); obtain ⟨Ao58, co58, eo58⟩ := Kd.R_slice HO341.out; subst eo58) | ((with_reducible refine gate_callee (f := 59) rfl ?_); refine goesL_ (some 65) rfl rfl Try.func59 (by kernel_rfl) rfl #[.slice Ao58 t339.length co58] rfl zl ?_; (with_reducible refine (slices_Clip_int_int.calls (fun k_ => some k_ = (.slice Ao58 t339.length co58 : Value).ownBlock) _ _ t339 t342 _ ?side1 A52.out).mono ?_); (case side1 => exact Kd.R_V (Kd.R_tight rfl (Kd.R_types (Kd.R_apart' (HO341.out) (Kd.R_typed HO_5.out) (by decide)) BK0.out (by decide)))); rintro e w59 ⟨v343, rfl, ho0, hb⟩; refine ⟨_, rfl, ?_⟩; have n0_ := Aside0.mk (Kd.R_below (zr HO_5.out) hb); have n1_ := Aside0.mk (Kd.R_below (zr HO341.out) hb); have n2_ := Aside0.mk (Kd.V_lower (Kd.V_mono (ok' := fun k_ => (w.heap.size ≤ k_) ∧ some k_ ≠ (v317 : Value).ownBlock ∧ k_ ≠ g0_) ho0 (fun k_ hk_ => by first | exact ⟨Or.elim hk_ (fun hs_ => ((Kd.R_types (Kd.R_apart' (HO341.out) (Kd.R_typed HO_5.out) (by decide)) BK0.out (by decide)).1 k_ hs_.symm).1.1) (fun hn_ => (Nat.le_trans (below_size (zb HB.out)) hn_)), Or.elim hk_ (fun hs_ => ((Kd.R_types (Kd.R_apart' (HO341.out) (Kd.R_typed HO_5.out) (by decide)) BK0.out (by decide)).1 k_ hs_.symm).1.2) (fun hn_ => (Kd.fresh' (Kd.R_lt (zr HO_5.out)) k_ hn_)), Or.elim hk_ (fun hs_ => ((Kd.R_types (Kd.R_apart' (HO341.out) (Kd.R_typed HO_5.out) (by decide)) BK0.out (by decide)).1 k_ hs_.symm).2) (fun hn_ => (Kd.freshB (zh BK0.out) k_ hn_))⟩ | (revert hk_; simp only [and_imp]; intros; and_intros <;> assumption))) (below_size (zb HB.out))); have n3_ := Aside0.mk (blk_below (zh BK0.out) hb); have n4_ := Aside0.mk (below_step (zb HB.out) hb); clear HO_5; clear HO341; clear BK0; clear HB; have HO_5 := n0_; have HO341 := n1_; have HO344 := n2_; have BK0 := n3_; have HB := n4_; clear n0_ n1_ n2_ n3_ n4_; (try clear hb); (try clear hb2); (try clear hk); (try clear hi); (try clear ho0); obtain ⟨Ao60, co60, eo60⟩ := Kd.V_slice HO344.out; subst eo60) | ((with_reducible refine gate_callee (f := 125) rfl ?_); refine goesL_ (some 70) rfl rfl Try.func125 (by kernel_rfl) rfl #[.slice A1 l1.length c1] rfl zl ?_; (with_reducible refine (slices_Clone_int_int.calls _ _ l1 t345 _ ?side1 ?side2 A54.out).mono ?_); (case side1 => exact zc (Kd.C_below HR1.out HB.out)); (case side2 => exact HC1.out); rintro e w61 ⟨v346, rfl, ho0, hb⟩; refine ⟨_, rfl, ?_⟩; have n0_ := Aside0.mk (Kd.R_below (zr HO_5.out) hb); have n1_ := Aside0.mk (Kd.R_elder' (zr HO341.out) (Kd.R_base ho0) hb); have n2_ := Aside0.mk (Kd.V_elder' (by (with_reducible repeat (first | apply Kd.V_alloc | apply Kd.V_drewN | apply Kd.V_drew)); exact HO344.out) (Kd.R_base ho0) hb); have n3_ := Aside0.mk (Kd.R_lower (Kd.R_new' (Kd.R_newM (M := fun k_ => (w.heap.size ≤ k_)) ho0 (below_size (zb HB.out)) (fun k_ h_ => h_)) (Kd.R_lt (zr HO341.out))) (below_size (zb HB.out))); have n4_ := Aside0.mk (blk_below (zh BK0.out) hb); have n5_ := Aside0.mk (below_step (zb HB.out) hb); clear HO_5; clear HO341; clear HO344; clear BK0; clear HB; have HO_5 := n0_; have HO341 := n1_; have HO344 := n2_; have HO347 := n3_; have BK0 := n4_; have HB := n5_; clear n0_ n1_ n2_ n3_ n4_ n5_; (try clear hb); (try clear hb2); (try clear hk); (try clear hi); (try clear ho0)))
     go_ret
     exact ⟨_, ze, Kd.R_V (by (with_reducible repeat (first | apply Kd.R_alloc | apply Kd.R_drewN | apply Kd.R_drew)); exact Kd.R_mono HO347.out (fun _ hk => hk.1.1)), zb HB.out⟩
    ·rw [if_neg c53] at H
     have c53b0 : decide (200 < (t342.length : Int)) = false := decide_eq_false c53
     have c53b1 : decide (200 < t342.length) = false := decide_eq_false (by omega)
     clear c53
     obtain rfl := Option.some.inj H
     obtain ⟨Ao62, co62, eo62⟩ := Kd.R_slice HO_6.out
     subst eo62
     go_wp2_with (first | ((with_reducible refine gate_callee (f := 40) rfl ?_); refine goesL_ (some 62) rfl rfl Try.func40 (by kernel_rfl) rfl #[.slice Ao62 x6_1.length co62] rfl zl ?_; (with_reducible refine (slices_Sort_int_int.calls (fun k_ => some k_ = (.slice Ao62 x6_1.length co62 : Value).ownBlock) (.slice Ao62 x6_1.length co62) x6_1 t338 w _ ?side1 ?side2 A50.out).mono ?_); (case side1 => exact zb HB.out); (case side2 => exact Kd.R_tight rfl HO_6.out); rintro e w63 ⟨rfl, hy0, hb, hkp⟩; refine ⟨_, rfl, ?_⟩; have n0_ := Aside0.mk (Kd.R_mono (ok' := fun k_ => (w.heap.size ≤ k_)) (Kd.R_keptB ((Kd.R_apart' HO_5.out (Kd.R_typed HO_6.out) (by decide))) hkp (fun k_ hk_ hs_ => by first | exact (hk_.2) hs_ | (revert hk_; simp only [and_imp]; intros; exact absurd hs_ (by assumption)))) (fun k_ hk_ => by first | exact hk_.1.1 | (revert hk_; simp only [and_imp]; intros; and_intros <;> assumption))); have n1_ := Aside0.mk (Kd.R_reok rfl hy0 (fun k_ e_ => HO_6.out.1 k_ e_)); have n2_ := Aside0.mk (blk_kept (zh BK0.out) hkp (fun hs_ => (fun e_ => (Kd.R_ne HO_6.out BK0.out (by decide)) e_) hs_)); have n3_ := Aside0.mk (hb); clear HO_5; clear HO_6; clear BK0; clear HB; have HO_5 := n0_; have HO_6 := n1_; have BK0 := n2_; have HB := n3_; clear n0_ n1_ n2_ n3_; (try clear hb); (try clear hkp); (try clear hy0)) | ((with_reducible refine gate_callee (f := 58) rfl ?_); refine goesL_ (some 64) rfl rfl Try.func58 (by kernel_rfl) rfl #[.slice Ao62 x6_1.length co62] rfl zl ?_; (with_reducible refine (slices_Compact_int_int.calls (fun k_ => some k_ = (.slice Ao62 x6_1.length co62 : Value).ownBlock) (.slice Ao62 x6_1.length co62) t338 t339 w _ ?side1 ?side2 A51.out).mono ?_); (case side1 => exact zb HB.out); (case side2 => exact Kd.R_tight rfl HO_6.out); rintro e w64 ⟨v340, rfl, ho0, hb, hkp⟩; refine ⟨_, rfl, ?_⟩; have n0_ := Aside0.mk (Kd.R_mono (ok' := fun k_ => (w.heap.size ≤ k_)) (Kd.R_keptB ((Kd.R_apart' HO_5.out (Kd.R_typed HO_6.out) (by decide))) hkp (fun k_ hk_ hs_ => by first | exact (hk_.2) hs_ | (revert hk_; simp only [and_imp]; intros; exact absurd hs_ (by assumption)))) (fun k_ hk_ => by first | exact hk_.1.1 | (revert hk_; simp only [and_imp]; intros; and_intros <;> assumption))); have n1_ := Aside0.mk (blk_kept (zh BK0.out) hkp (fun hs_ => (fun e_ => (Kd.R_ne HO_6.out BK0.out (by decide)) e_) hs_)); have n2_ := Aside0.mk (Kd.R_mono (ok' := fun k_ => (w.heap.size ≤ k_)) ho0 (fun k_ hk_ => Or.elim hk_ (fun hs_ => (HO_6.out.1 k_ (hs_).symm)) (fun hn_ => (Nat.le_trans (below_size (zb HB.out)) hn_)))); have n3_ := Aside0.mk (hb); clear HO_5; clear BK0; clear HB; clear HO_6; have HO_5 := n0_; have BK0 := n1_; have HO341 := n2_; have HB := n3_; clear n0_ n1_ n2_ n3_; (try clear hb); (try clear hkp); (try clear ho0); obtain ⟨Ao65, co65, eo65⟩ := Kd.R_slice HO341.out; subst eo65) | ((with_reducible refine gate_callee (f := 59) rfl ?_); refine goesL_ (some 65) rfl rfl Try.func59 (by kernel_rfl) rfl #[.slice Ao65 t339.length co65] rfl zl ?_; (with_reducible refine (slices_Clip_int_int.calls (fun k_ => some k_ = (.slice Ao65 t339.length co65 : Value).ownBlock) _ _ t339 t342 _ ?side1 A52.out).mono ?_); (case side1 => exact Kd.R_V (Kd.R_tight rfl (Kd.R_types (Kd.R_apart' (HO341.out) (Kd.R_typed HO_5.out) (by decide)) BK0.out (by decide)))); rintro e w66 ⟨v343, rfl, ho0, hb⟩; refine ⟨_, rfl, ?_⟩; have n0_ := Aside0.mk (Kd.R_below (zr HO_5.out) hb); have n1_ := Aside0.mk (Kd.R_below (zr HO341.out) hb); have n2_ := Aside0.mk (Kd.V_lower (Kd.V_mono (ok' := fun k_ => (w.heap.size ≤ k_) ∧ some k_ ≠ (v317 : Value).ownBlock ∧ k_ ≠ g0_) ho0 (fun k_ hk_ => by first | exact ⟨Or.elim hk_ (fun hs_ => ((Kd.R_types (Kd.R_apart' (HO341.out) (Kd.R_typed HO_5.out) (by decide)) BK0.out (by decide)).1 k_ hs_.symm).1.1) (fun hn_ => (Nat.le_trans (below_size (zb HB.out)) hn_)), Or.elim hk_ (fun hs_ => ((Kd.R_types (Kd.R_apart' (HO341.out) (Kd.R_typed HO_5.out) (by decide)) BK0.out (by decide)).1 k_ hs_.symm).1.2) (fun hn_ => (Kd.fresh' (Kd.R_lt (zr HO_5.out)) k_ hn_)), Or.elim hk_ (fun hs_ => ((Kd.R_types (Kd.R_apart' (HO341.out) (Kd.R_typed HO_5.out) (by decide)) BK0.out (by decide)).1 k_ hs_.symm).2) (fun hn_ => (Kd.freshB (zh BK0.out) k_ hn_))⟩ | (revert hk_; simp only [and_imp]; intros; and_intros <;> assumption))) (below_size (zb HB.out))); have n3_ := Aside0.mk (blk_below (zh BK0.out) hb); have n4_ := Aside0.mk (below_step (zb HB.out) hb); clear HO_5; clear HO341; clear BK0; clear HB; have HO_5 := n0_; have HO341 := n1_; have HO344 := n2_; have BK0 := n3_; have HB := n4_; clear n0_ n1_ n2_ n3_ n4_; (try clear hb); (try clear hb2); (try clear hk); (try clear hi); (try clear ho0); obtain ⟨Ao67, co67, eo67⟩ := Kd.V_slice HO344.out; subst eo67))
     go_ret
     exact ⟨_, ze, by (with_reducible repeat (first | apply Kd.V_alloc | apply Kd.V_drewN | apply Kd.V_drew)); exact Kd.V_mono HO344.out (fun _ hk => hk.1), zb HB.out⟩


/-! ### impl_Pool_openAll: function 94 -/
def impl_Pool_openAll.l0 : Nat → List Int → Int → List (S44) → Option (List Int × Int)
 | 0, _, _, _ => none
 | k + 1, x1, x6, x0 => (impl_Pool_openOnce.f k x0 x1).bind fun t => (if (t.length : Int) = (x1.length : Int) then (some (t, x6)) else (impl_Pool_openAll.l0 k t (wrap64 (x6 + 1)) x0))
def impl_Pool_openAll.f (k : Nat) (l0_0 : List (S44)) (l1 : List Int) : Option (List Int × Int) := impl_Pool_openAll.l0 k l1 0 l0_0
theorem impl_Pool_openAll.mono_l : ∀ k, (∀ y0 y1 y2, LeO (impl_Pool_openAll.l0 k y0 y1 y2) (impl_Pool_openAll.l0 (k + 1) y0 y1 y2))
 | 0 => fun _ _ _ r h => by simp [impl_Pool_openAll.l0] at h
 | k + 1 => by
  have ih0 := impl_Pool_openAll.mono_l k
  intro y0 y1 y2
  unfold impl_Pool_openAll.l0
  refine LeO.bind (impl_Pool_openOnce.mono _ _ _) (fun _ => ?_)
  exact LeO.ite (LeO.refl _) (ih0 _ _ _)
theorem impl_Pool_openAll.mono : ∀ a0 a1 k, LeO (impl_Pool_openAll.f k a0 a1) (impl_Pool_openAll.f (k + 1) a0 a1) := by
 intro a0 a1 k
 exact impl_Pool_openAll.mono_l k _ _ _
set_option maxHeartbeats 8000000 in
set_option maxRecDepth 100000 in
theorem impl_Pool_openAll.calls (k : Nat) (g0_ : Nat) (A0_0 : Option Addr) (c0_0 : Nat) (l0_0 : List (S44)) (A1 : Option Addr) (c1 : Nat) (l1 : List Int) (r1 : List Int) (r2 : Int) (w : World) (hk0_ : w.heap[g0_]? = some (.cells #[.slice A0_0 l0_0.length c0_0] 30 (0, 0))) (hr0_0 : Kd.C k44 w A0_0 l0_0.length l0_0) (hc0_0 : l0_0.length ≤ c0_0) (hr1 : Kd.C (Kd.int .i64) w A1 l1.length l1) (hc1 : l1.length ≤ c1) (h : impl_Pool_openAll.f k l0_0 l1 = some (r1, r2)) :
  Calls Try.prog 94 #[.pointer (some ⟨g0_, 0, none⟩), .slice A1 l1.length c1] w fun e w' => ∃ v0_ : Value, e = .returned (.tuple #[v0_, .int .i64 r2]) ∧ Kd.V (Kd.int .i64) 3 w' w.heap.size (fun k_ => (w.heap.size ≤ k_)) v0_ r1 ∧ Below w.heap.size w w' := by
 have HR0_0 := Aside0.mk hr0_0
 have HC0_0 := Aside0.mk hc0_0
 clear hr0_0 hc0_0
 have HR1 := Aside0.mk hr1
 have HC1 := Aside0.mk hc1
 clear hr1 hc1
 have BK0 := Aside0.mk hk0_
 clear hk0_
 have HB := Aside0.mk (Below.refl w.heap.size w)
 have H' := Aside0.mk (show impl_Pool_openAll.l0 k l1 0 l0_0 = some (r1, r2) from h)
 clear h
 go_enter Try.func94, Try.ntmps94
 go_wp2
 go_loopg [1, 6] k (fun kq v1 v6 w' => ∃ (A1_1 : Option Addr) (c1_1 : Nat) (x1_1 : List Int) (x6_1 : Int), v1 = .slice A1_1 x1_1.length c1_1 ∧ v6 = .int .i64 x6_1 ∧ Aside0 (impl_Pool_openAll.l0 kq x1_1 x6_1 l0_0 = some (r1, r2)) ∧ Aside0 (kq ≤ k) ∧ Aside0 (Kd.C (Kd.int .i64) w' A1_1 x1_1.length x1_1) ∧ Aside0 (x1_1.length ≤ c1_1) ∧ Aside0 (w'.heap[g0_]? = some (.cells #[.slice A0_0 l0_0.length c0_0] 30 (0, 0))) ∧ Aside0 (Below w.heap.size w w'))
 case atStart => exact ⟨A1, c1, l1, 0, rfl, (by first | rfl | (simp; done) | (simp [*]; done)), H', ⟨Nat.le_refl _⟩, ⟨by first | exact HR1.out | exact Kd.C_below HR1.out HB.out⟩, HC1, ⟨zh BK0.out⟩, ⟨zb HB.out⟩⟩
 case round =>
  clear H'
  clear BK0 HB HR1 HC1
  obtain ⟨A1_1, c1_1, x1_1, x6_1, rfl, rfl, HA, HK1, HR1, HC1, BK0, HB⟩ := hrel
  cases gk with
  | zero => exact absurd HA.out (by simp [impl_Pool_openAll.l0])
  | succ k1 =>
   have H := HA.out
   clear HA
   simp only [impl_Pool_openAll.l0] at H
   replace H := Option.bind_eq_some_iff.mp H
   obtain ⟨t319, A30, H⟩ := H
   replace H : (if (t319.length : Int) = (x1_1.length : Int) then (some (t319, x6_1)) else (impl_Pool_openAll.l0 k1 t319 (wrap64 (x6_1 + 1)) l0_0)) = some (r1, r2) := H
   have A3 := Aside0.mk A30
   clear A30
   by_cases c10 : (t319.length : Int) = (x1_1.length : Int)
   ·rw [if_pos c10] at H
    have c10b0 : ((t319.length : Int) == (x1_1.length : Int)) = true := beq_iff_eq.mpr c10
    have c10b1 : ((t319.length : Int) != (x1_1.length : Int)) = false := bne_eq_false_iff_eq.mpr c10
    have c10b2 : (t319.length == x1_1.length) = true := by first | simpa using c10 | (simp at c10 ⊢; omega)
    clear c10
    simp only [Option.some.injEq, Prod.mk.injEq] at H
    obtain ⟨rfl, rfl⟩ := H
    go_wp2_with (first | ((with_reducible refine gate_callee (f := 114) rfl ?_); refine goesL_ (some 10) rfl rfl Try.func114 (by kernel_rfl) rfl #[.pointer (some ⟨g0_, 0, none⟩), .slice A1_1 x1_1.length c1_1] rfl zl ?_; (with_reducible refine (impl_Pool_openOnce.calls k1 g0_ A0_0 c0_0 l0_0 _ _ x1_1 t319 _ ?side1 ?side2 ?side3 ?side4 ?side5 A3.out).mono ?_); (case side1 => exact BK0.out); (case side2 => exact Kd.C_below HR0_0.out HB.out); (case side3 => exact HC0_0.out); (case side4 => exact HR1.out); (case side5 => exact HC1.out); rintro e w13 ⟨v248, rfl, ho0, hb⟩; refine ⟨_, rfl, ?_⟩; have n0_ := Aside0.mk (Kd.V_mono ho0 (ok' := fun k_ => w.heap.size ≤ k_) (fun k_ hk => Nat.le_trans (below_size HB.out) hk)); have n1_ := Aside0.mk (below_step HB.out hb); clear HB BK0 HR1; have HO249 := n0_; have HB := n1_; clear n0_ n1_; clear hb; obtain ⟨Ao14, co14, eo14⟩ := Kd.V_slice HO249.out; subst eo14))
    go_ret2
    exact ⟨_, by first | rfl | (simp [*]; done), by (with_reducible repeat (first | apply Kd.V_alloc | apply Kd.V_drewN | apply Kd.V_drew)); exact HO249.out, zb HB.out⟩
   ·rw [if_neg c10] at H
    have c10b0 : ((t319.length : Int) == (x1_1.length : Int)) = false := beq_eq_false_iff_ne.mpr c10
    have c10b1 : ((t319.length : Int) != (x1_1.length : Int)) = true := bne_iff_ne.mpr c10
    have c10b2 : (t319.length == x1_1.length) = false := by first | simpa using c10 | (simp at c10 ⊢; omega)
    have H' := Aside0.mk H
    clear H
    go_wp2_with (first | ((with_reducible refine gate_callee (f := 114) rfl ?_); refine goesL_ (some 10) rfl rfl Try.func114 (by kernel_rfl) rfl #[.pointer (some ⟨g0_, 0, none⟩), .slice A1_1 x1_1.length c1_1] rfl zl ?_; (with_reducible refine (impl_Pool_openOnce.calls k1 g0_ A0_0 c0_0 l0_0 _ _ x1_1 t319 _ ?side1 ?side2 ?side3 ?side4 ?side5 A3.out).mono ?_); (case side1 => exact BK0.out); (case side2 => exact Kd.C_below HR0_0.out HB.out); (case side3 => exact HC0_0.out); (case side4 => exact HR1.out); (case side5 => exact HC1.out); rintro e w13 ⟨v248, rfl, ho0, hb⟩; refine ⟨_, rfl, ?_⟩; have n0_ := Aside0.mk (Kd.V_mono ho0 (ok' := fun k_ => w.heap.size ≤ k_) (fun k_ hk => Nat.le_trans (below_size HB.out) hk)); have n1_ := Aside0.mk (below_step HB.out hb); have n2_ := Aside0.mk (blk_below (g := g0_) (o := .cells #[.slice A0_0 l0_0.length c0_0] 30 (0, 0)) BK0.out hb); clear HB BK0 HR1; have HO249 := n0_; have HB := n1_; have BK0 := n2_; clear n0_ n1_ n2_; clear hb; obtain ⟨Ao14, co14, eo14⟩ := Kd.V_slice HO249.out; subst eo14))
    go_roundg k1
    case measure => have := HK1.out; omega
    case rel => exact ⟨Ao14, co14, t319, (wrap64 (x6_1 + 1)), (by first | rfl | (simp; done) | (simp [*]; done)), (by first | rfl | (simp; done) | (simp [*]; done)), H', ⟨by have := HK1.out; omega⟩, ⟨(Kd.V_reads' (e := 3) (base := w.heap.size) (by (with_reducible repeat (first | apply Kd.V_alloc | apply Kd.V_drewN | apply Kd.V_drew)); exact HO249.out)).2.2⟩, ⟨(Kd.V_reads' HO249.out).2.1⟩, ⟨zh BK0.out⟩, ⟨zb HB.out⟩⟩


/-! ### impl_Pool_derives: function 65 -/
def impl_Pool_derives.f (k : Nat) (l0_0 : List (S44)) (l1 : List Int) : Option (List Bool) := (impl_Pool_openAll.f k l0_0 l1).bind fun bt348 => ((impl_Pool_makes.f k l0_0 bt348.1).bind fun t352 => (some t352))
theorem impl_Pool_derives.mono : ∀ a0 a1 k, LeO (impl_Pool_derives.f k a0 a1) (impl_Pool_derives.f (k + 1) a0 a1) := by
 intro a0 a1 k
 unfold impl_Pool_derives.f
 repeat' first
   | (with_reducible exact impl_Pool_makes.mono _ _ _)
   | (with_reducible exact impl_Pool_openAll.mono _ _ _)
   | (with_reducible exact LeO.refl _)
   | (with_reducible exact LeO.none _)
   | (with_reducible refine LeO.ite ?_ ?_)
   | (with_reducible refine LeO.bind ?_ (fun _ => ?_))
   | exact impl_Pool_makes.mono _ _ _
   | exact impl_Pool_openAll.mono _ _ _
   | exact LeO.none _
   | refine LeO.ite ?_ ?_
   | refine LeO.bind ?_ (fun _ => ?_)
set_option maxHeartbeats 8000000 in
set_option maxRecDepth 100000 in
theorem impl_Pool_derives.calls (k : Nat) (g0_ : Nat) (A0_0 : Option Addr) (c0_0 : Nat) (l0_0 : List (S44)) (A1 : Option Addr) (c1 : Nat) (l1 : List Int) (r : List Bool) (w : World) (hk0_ : w.heap[g0_]? = some (.cells #[.slice A0_0 l0_0.length c0_0] 30 (0, 0))) (hr0_0 : Kd.C k44 w A0_0 l0_0.length l0_0) (hc0_0 : l0_0.length ≤ c0_0) (hr1 : Kd.C (Kd.int .i64) w A1 l1.length l1) (hc1 : l1.length ≤ c1) (h : impl_Pool_derives.f k l0_0 l1 = some r) :
  Calls Try.prog 65 #[.pointer (some ⟨g0_, 0, none⟩), .slice A1 l1.length c1] w fun e w' => ∃ v0_ : Value, e = .returned (v0_) ∧ Kd.R Kd.bool 4 w' w.heap.size (fun _ => True) v0_ r ∧ Below w.heap.size w w' := by
 have HR0_0 := Aside0.mk hr0_0
 have HC0_0 := Aside0.mk hc0_0
 clear hr0_0 hc0_0
 have HR1 := Aside0.mk hr1
 have HC1 := Aside0.mk hc1
 clear hr1 hc1
 have BK0 := Aside0.mk hk0_
 clear hk0_
 have HB := Aside0.mk (Below.refl w.heap.size w)
 have H : ((impl_Pool_openAll.f k l0_0 l1).bind fun bt348 => ((impl_Pool_makes.f k l0_0 bt348.1).bind fun t352 => (some t352))) = some r := h
 clear h
 replace H := Option.bind_eq_some_iff.mp H
 obtain ⟨⟨t348, t351⟩, A30, H⟩ := H
 replace H : ((impl_Pool_makes.f k l0_0 t348).bind fun t352 => (some t352)) = some r := H
 have A3 := Aside0.mk A30
 clear A30
 replace H := Option.bind_eq_some_iff.mp H
 obtain ⟨t352, A40, H⟩ := H
 replace H : (some t352) = some r := H
 have A4 := Aside0.mk A40
 clear A40
 obtain rfl := Option.some.inj H
 go_enter Try.func65, Try.ntmps65
 go_wp2_with (first | ((with_reducible refine gate_callee (f := 94) rfl ?_); refine goesL_ (some 10) rfl rfl Try.func94 (by kernel_rfl) rfl #[.pointer (some ⟨g0_, 0, none⟩), .slice A1 l1.length c1] rfl zl ?_; (with_reducible refine (impl_Pool_openAll.calls k _ A0_0 c0_0 l0_0 _ _ l1 t348 t351 _ ?side1 ?side2 ?side3 ?side4 ?side5 A3.out).mono ?_); (case side1 => exact zh BK0.out); (case side2 => exact zc HR0_0.out); (case side3 => exact HC0_0.out); (case side4 => exact zc HR1.out); (case side5 => exact HC1.out); rintro e w5 ⟨v349, rfl, ho0, hb⟩; refine ⟨_, rfl, ?_⟩; have n0_ := Aside0.mk (Kd.V_lower (Kd.V_mono (ok' := fun k_ => k_ ≠ g0_) ho0 (fun k_ hk_ => (Kd.freshB (zh BK0.out) k_ hk_))) (below_size (zb HB.out))); have n1_ := Aside0.mk (blk_below (zh BK0.out) hb); have n2_ := Aside0.mk (below_step (zb HB.out) hb); clear BK0; clear HB; have HO350 := n0_; have BK0 := n1_; have HB := n2_; clear n0_ n1_ n2_; (try clear hb); (try clear hb2); (try clear hk); (try clear hi); (try clear ho0); obtain ⟨Ao6, co6, eo6⟩ := Kd.V_slice HO350.out; subst eo6) | ((with_reducible refine gate_callee (f := 95) rfl ?_); refine goesL_ (some 15) rfl rfl Try.func95 (by kernel_rfl) rfl #[.pointer (some ⟨g0_, 0, none⟩), .slice Ao6 t348.length co6] rfl zl ?_; (with_reducible refine (impl_Pool_makes.calls k _ A0_0 c0_0 l0_0 _ _ t348 t352 _ ?side1 ?side2 ?side3 ?side4 ?side5 A4.out).mono ?_); (case side1 => exact zh BK0.out); (case side2 => exact zc (Kd.C_below HR0_0.out HB.out)); (case side3 => exact HC0_0.out); (case side4 => exact zc (Kd.V_reads' HO350.out).2.2); (case side5 => exact (Kd.V_reads' HO350.out).2.1); rintro e w7 ⟨v353, rfl, ho0, hb⟩; refine ⟨_, rfl, ?_⟩; have n0_ := Aside0.mk (Kd.V_elder' (by (with_reducible repeat (first | apply Kd.V_alloc | apply Kd.V_drewN | apply Kd.V_drew)); exact HO350.out) (Kd.R_base ho0) hb); have n1_ := Aside0.mk (Kd.R_lower ho0 (below_size (zb HB.out))); have n2_ := Aside0.mk (blk_below (zh BK0.out) hb); have n3_ := Aside0.mk (below_step (zb HB.out) hb); clear HO350; clear BK0; clear HB; have HO350 := n0_; have HO354 := n1_; have BK0 := n2_; have HB := n3_; clear n0_ n1_ n2_ n3_; (try clear hb); (try clear hb2); (try clear hk); (try clear hi); (try clear ho0)))
 go_ret
 exact ⟨_, ze, zr HO354.out, zb HB.out⟩

/-! ### impl_Derives: function 33 -/
def impl_Derives.f (k : Nat) (l0_0 : List (S44)) (l1 : List Int) (a2 : Int) : Option (Bool) := (impl_Pool_isTerm.f l0_0 a2).bind fun t356 => (if t356 = true then ((impl_KnowOk.f k l0_0 l1).bind fun t357 => (if t357 = true then ((impl_Pool_derives.f k l0_0 l1).bind fun t358 => (if 0 ≤ a2 then (if a2 < (t358.length : Int) then (some (rdOf false t358 a2)) else (none)) else (none))) else (some false))) else (some false))
theorem impl_Derives.mono : ∀ a0 a1 a2 k, LeO (impl_Derives.f k a0 a1 a2) (impl_Derives.f (k + 1) a0 a1 a2) := by
 intro a0 a1 a2 k
 unfold impl_Derives.f
 repeat' first
   | (with_reducible exact impl_KnowOk.mono _ _ _)
   | (with_reducible exact impl_Pool_derives.mono _ _ _)
   | (with_reducible exact LeO.refl _)
   | (with_reducible exact LeO.none _)
   | (with_reducible refine LeO.ite ?_ ?_)
   | (with_reducible refine LeO.bind ?_ (fun _ => ?_))
   | exact impl_KnowOk.mono _ _ _
   | exact impl_Pool_derives.mono _ _ _
   | exact LeO.none _
   | refine LeO.ite ?_ ?_
   | refine LeO.bind ?_ (fun _ => ?_)
set_option maxHeartbeats 8000000 in
set_option maxRecDepth 100000 in
theorem impl_Derives.calls (k : Nat) (A0_0 : Option Addr) (c0_0 : Nat) (l0_0 : List (S44)) (A1 : Option Addr) (c1 : Nat) (l1 : List Int) (a2 : Int) (r : Bool) (w : World) (hr0_0 : Kd.C k44 w A0_0 l0_0.length l0_0) (hc0_0 : l0_0.length ≤ c0_0) (hr1 : Kd.C (Kd.int .i64) w A1 l1.length l1) (hc1 : l1.length ≤ c1) (h : impl_Derives.f k l0_0 l1 a2 = some r) :
  Calls Try.prog 33 #[.agg #[.slice A0_0 l0_0.length c0_0], .slice A1 l1.length c1, .int .i64 a2] w fun e w' => e = .returned (.bool r) ∧ Below w.heap.size w w' := by
 have hu30 := Try.underlying30
 have HR0_0 := Aside0.mk hr0_0
 have HC0_0 := Aside0.mk hc0_0
 clear hr0_0 hc0_0
 have HR1 := Aside0.mk hr1
 have HC1 := Aside0.mk hc1
 clear hr1 hc1
 have HB := Aside0.mk (Below.refl w.heap.size w)
 have H : ((impl_Pool_isTerm.f l0_0 a2).bind fun t356 => (if t356 = true then ((impl_KnowOk.f k l0_0 l1).bind fun t357 => (if t357 = true then ((impl_Pool_derives.f k l0_0 l1).bind fun t358 => (if 0 ≤ a2 then (if a2 < (t358.length : Int) then (some (rdOf false t358 a2)) else (none)) else (none))) else (some false))) else (some false))) = some r := h
 clear h
 replace H := Option.bind_eq_some_iff.mp H
 obtain ⟨t356, A40, H⟩ := H
 replace H : (if t356 = true then ((impl_KnowOk.f k l0_0 l1).bind fun t357 => (if t357 = true then ((impl_Pool_derives.f k l0_0 l1).bind fun t358 => (if 0 ≤ a2 then (if a2 < (t358.length : Int) then (some (rdOf false t358 a2)) else (none)) else (none))) else (some false))) else (some false)) = some r := H
 have A4 := Aside0.mk A40
 clear A40
 by_cases c5 : t356 = true
 ·subst c5
  have H1 : ((impl_KnowOk.f k l0_0 l1).bind fun t357 => (if t357 = true then ((impl_Pool_derives.f k l0_0 l1).bind fun t358 => (if 0 ≤ a2 then (if a2 < (t358.length : Int) then (some (rdOf false t358 a2)) else (none)) else (none))) else (some false))) = some r := by rw [if_pos rfl] at H; exact H
  clear H
  have H := H1
  clear H1
  replace H := Option.bind_eq_some_iff.mp H
  obtain ⟨t357, A60, H⟩ := H
  replace H : (if t357 = true then ((impl_Pool_derives.f k l0_0 l1).bind fun t358 => (if 0 ≤ a2 then (if a2 < (t358.length : Int) then (some (rdOf false t358 a2)) else (none)) else (none))) else (some false)) = some r := H
  have A6 := Aside0.mk A60
  clear A60
  by_cases c7 : t357 = true
  ·subst c7
   have H1 : ((impl_Pool_derives.f k l0_0 l1).bind fun t358 => (if 0 ≤ a2 then (if a2 < (t358.length : Int) then (some (rdOf false t358 a2)) else (none)) else (none))) = some r := by rw [if_pos rfl] at H; exact H
   clear H
   have H := H1
   clear H1
   replace H := Option.bind_eq_some_iff.mp H
   obtain ⟨t358, A80, H⟩ := H
   replace H : (if 0 ≤ a2 then (if a2 < (t358.length : Int) then (some (rdOf false t358 a2)) else (none)) else (none)) = some r := H
   have A8 := Aside0.mk A80
   clear A80
   by_cases c9 : 0 ≤ a2
   ·rw [if_pos c9] at H
    have c9b0 : decide (0 ≤ a2) = true := decide_eq_true c9
    clear c9
    by_cases c10 : a2 < (t358.length : Int)
    ·rw [if_pos c10] at H
     have c10b0 : decide (a2 < (t358.length : Int)) = true := decide_eq_true c10
     clear c10
     obtain rfl := Option.some.inj H
     go_enter Try.func33, Try.ntmps33
     go_wp2_with (first | ((with_reducible refine gate_dst (N := 3) rfl ?_); refine box_event ?hg (N := 3) ?hd (cs := #[.slice A0_0 l0_0.length c0_0]) (t := 30) ?hr ?_; (case hd => rfl); (case hg => rfl); (case hr => first | (go_simp; done) | (go_simp; rfl)); intro gb355 hg w11 hbox hb; have n0_ := Aside0.mk (below_step (zb HB.out) hb); have n1_ := Aside0.mk (hbox); have n2_ := Aside0.mk ((by rw [hg]; exact (below_size (zb HB.out)) : w.heap.size ≤ gb355)); have n3_ := Aside0.mk ((by rw [hg]; exact (below_size (zb HB.out)) : w.heap.size ≤ gb355)); clear HB; have HB := n0_; have BK355 := n1_; have GW355 := n2_; have GE355 := n3_; clear n0_ n1_ n2_ n3_; clear hb hbox hg) | ((with_reducible refine gate_callee (f := 51) rfl ?_); refine goesL_ (some 8) rfl rfl Try.func51 (by kernel_rfl) rfl #[.pointer (some ⟨gb355, 0, none⟩), .int .i64 a2] rfl zl ?_; (with_reducible refine (impl_Pool_isTerm.calls _ A0_0 c0_0 l0_0 a2 true _ ?side1 ?side2 ?side3 A4.out).mono ?_); (case side1 => exact zh BK355.out); (case side2 => exact zc (Kd.C_below HR0_0.out HB.out)); (case side3 => exact HC0_0.out); rintro e w12 ⟨rfl, hb⟩; refine ⟨_, rfl, ?_⟩; have n0_ := Aside0.mk (blk_below (zh BK355.out) hb); have n1_ := Aside0.mk (below_step (zb HB.out) hb); clear BK355; clear HB; have BK355 := n0_; have HB := n1_; clear n0_ n1_; (try clear hb); (try clear hb2); (try clear hk); (try clear hi); have hcz13_0 : w12.cell? ⟨gb355, 0, none⟩ = some (.slice A0_0 l0_0.length c0_0) := (blk_cell BK355.out 0).trans rfl; have hfz13_0 := blk_frozen BK355.out 0) | (go_at_call 56; (with_reducible refine (impl_KnowOk.calls k _ _ l0_0 _ _ l1 true _ ?side1 ?side2 ?side3 ?side4 A6.out).mono ?_); (case side1 => exact zc (Kd.C_below HR0_0.out HB.out)); (case side2 => exact HC0_0.out); (case side3 => exact zc (Kd.C_below HR1.out HB.out)); (case side4 => exact HC1.out); rintro e w14 ⟨rfl, hb⟩; have n0_ := Aside0.mk (blk_below (zh BK355.out) hb); have n1_ := Aside0.mk (below_step (zb HB.out) hb); clear BK355; clear HB; have BK355 := n0_; have HB := n1_; clear n0_ n1_; (try clear hb); (try clear hb2); (try clear hk); (try clear hi)) | (go_at_call 65; (with_reducible refine (impl_Pool_derives.calls k _ A0_0 c0_0 l0_0 _ _ l1 t358 _ ?side1 ?side2 ?side3 ?side4 ?side5 A8.out).mono ?_); (case side1 => exact zh BK355.out); (case side2 => exact zc (Kd.C_below HR0_0.out HB.out)); (case side3 => exact HC0_0.out); (case side4 => exact zc (Kd.C_below HR1.out HB.out)); (case side5 => exact HC1.out); rintro e w15 ⟨v359, rfl, ho0, hb⟩; have n0_ := Aside0.mk (Kd.R_lower ho0 (below_size (zb HB.out))); have n1_ := Aside0.mk (blk_below (zh BK355.out) hb); have n2_ := Aside0.mk (below_step (zb HB.out) hb); clear BK355; clear HB; have HO360 := n0_; have BK355 := n1_; have HB := n2_; clear n0_ n1_ n2_; (try clear hb); (try clear hb2); (try clear hk); (try clear hi); (try clear ho0); obtain ⟨Ao16, co16, eo16⟩ := Kd.R_slice HO360.out; subst eo16; have p361 : 0 ≤ (a2 : Int) := of_decide_eq_true (by first | (with_reducible assumption) | assumption); have q361 : a2 < (t358.length : Int) := of_decide_eq_true (by first | (with_reducible assumption) | assumption); obtain ⟨ad361, e361, hx361_0⟩ := Kd.at_bool (Kd.R_reads' HO360.out).2.2 a2 p361 q361; cases e361; replace p361 := eq_true p361; replace q361 := eq_true q361))
     go_ret
     exact ⟨ze, zb HB.out⟩
    ·rw [if_neg c10] at H
     exact absurd H (by simp)
   ·rw [if_neg c9] at H
    exact absurd H (by simp)
  ·replace c7 := Bool.eq_false_iff.mpr c7
   subst c7
   have H1 : (some false) = some r := by rw [if_neg (show ¬ (false = true) by decide)] at H; exact H
   clear H
   have H := H1
   clear H1
   obtain rfl := Option.some.inj H
   go_enter Try.func33, Try.ntmps33
   go_wp2_with (first | ((with_reducible refine gate_dst (N := 3) rfl ?_); refine box_event ?hg (N := 3) ?hd (cs := #[.slice A0_0 l0_0.length c0_0]) (t := 30) ?hr ?_; (case hd => rfl); (case hg => rfl); (case hr => first | (go_simp; done) | (go_simp; rfl)); intro gb355 hg w17 hbox hb; have n0_ := Aside0.mk (below_step (zb HB.out) hb); have n1_ := Aside0.mk (hbox); have n2_ := Aside0.mk ((by rw [hg]; exact (below_size (zb HB.out)) : w.heap.size ≤ gb355)); have n3_ := Aside0.mk ((by rw [hg]; exact (below_size (zb HB.out)) : w.heap.size ≤ gb355)); clear HB; have HB := n0_; have BK355 := n1_; have GW355 := n2_; have GE355 := n3_; clear n0_ n1_ n2_ n3_; clear hb hbox hg) | ((with_reducible refine gate_callee (f := 51) rfl ?_); refine goesL_ (some 8) rfl rfl Try.func51 (by kernel_rfl) rfl #[.pointer (some ⟨gb355, 0, none⟩), .int .i64 a2] rfl zl ?_; (with_reducible refine (impl_Pool_isTerm.calls _ A0_0 c0_0 l0_0 a2 true _ ?side1 ?side2 ?side3 A4.out).mono ?_); (case side1 => exact zh BK355.out); (case side2 => exact zc (Kd.C_below HR0_0.out HB.out)); (case side3 => exact HC0_0.out); rintro e w18 ⟨rfl, hb⟩; refine ⟨_, rfl, ?_⟩; have n0_ := Aside0.mk (blk_below (zh BK355.out) hb); have n1_ := Aside0.mk (below_step (zb HB.out) hb); clear BK355; clear HB; have BK355 := n0_; have HB := n1_; clear n0_ n1_; (try clear hb); (try clear hb2); (try clear hk); (try clear hi); have hcz19_0 : w18.cell? ⟨gb355, 0, none⟩ = some (.slice A0_0 l0_0.length c0_0) := (blk_cell BK355.out 0).trans rfl; have hfz19_0 := blk_frozen BK355.out 0) | (go_at_call 56; (with_reducible refine (impl_KnowOk.calls k _ _ l0_0 _ _ l1 false _ ?side1 ?side2 ?side3 ?side4 A6.out).mono ?_); (case side1 => exact zc (Kd.C_below HR0_0.out HB.out)); (case side2 => exact HC0_0.out); (case side3 => exact zc (Kd.C_below HR1.out HB.out)); (case side4 => exact HC1.out); rintro e w20 ⟨rfl, hb⟩; have n0_ := Aside0.mk (blk_below (zh BK355.out) hb); have n1_ := Aside0.mk (below_step (zb HB.out) hb); clear BK355; clear HB; have BK355 := n0_; have HB := n1_; clear n0_ n1_; (try clear hb); (try clear hb2); (try clear hk); (try clear hi)))
   go_ret
   exact ⟨ze, zb HB.out⟩
 ·replace c5 := Bool.eq_false_iff.mpr c5
  subst c5
  have H1 : (some false) = some r := by rw [if_neg (show ¬ (false = true) by decide)] at H; exact H
  clear H
  have H := H1
  clear H1
  obtain rfl := Option.some.inj H
  go_enter Try.func33, Try.ntmps33
  go_wp2_with (first | ((with_reducible refine gate_dst (N := 3) rfl ?_); refine box_event ?hg (N := 3) ?hd (cs := #[.slice A0_0 l0_0.length c0_0]) (t := 30) ?hr ?_; (case hd => rfl); (case hg => rfl); (case hr => first | (go_simp; done) | (go_simp; rfl)); intro gb355 hg w21 hbox hb; have n0_ := Aside0.mk (below_step (zb HB.out) hb); have n1_ := Aside0.mk (hbox); have n2_ := Aside0.mk ((by rw [hg]; exact (below_size (zb HB.out)) : w.heap.size ≤ gb355)); have n3_ := Aside0.mk ((by rw [hg]; exact (below_size (zb HB.out)) : w.heap.size ≤ gb355)); clear HB; have HB := n0_; have BK355 := n1_; have GW355 := n2_; have GE355 := n3_; clear n0_ n1_ n2_ n3_; clear hb hbox hg) | ((with_reducible refine gate_callee (f := 51) rfl ?_); refine goesL_ (some 8) rfl rfl Try.func51 (by kernel_rfl) rfl #[.pointer (some ⟨gb355, 0, none⟩), .int .i64 a2] rfl zl ?_; (with_reducible refine (impl_Pool_isTerm.calls _ A0_0 c0_0 l0_0 a2 false _ ?side1 ?side2 ?side3 A4.out).mono ?_); (case side1 => exact zh BK355.out); (case side2 => exact zc (Kd.C_below HR0_0.out HB.out)); (case side3 => exact HC0_0.out); rintro e w22 ⟨rfl, hb⟩; refine ⟨_, rfl, ?_⟩; have n0_ := Aside0.mk (blk_below (zh BK355.out) hb); have n1_ := Aside0.mk (below_step (zb HB.out) hb); clear BK355; clear HB; have BK355 := n0_; have HB := n1_; clear n0_ n1_; (try clear hb); (try clear hb2); (try clear hk); (try clear hi)))
  go_ret
  exact ⟨ze, zb HB.out⟩

end Go.Proofs.Ytdgahpigcaejbaa.E
end

section
-- Written by this session's program (wip/tools/gprint.py over the kit's print) out of the translation; Lean checks it.
namespace Go.Proofs.Ytdgahpigcaejbaa.E
open Go.RowKit Go.Proofs.YtdgahpigcaejbaaW.PrintWords Go.Proofs.YtdgahpigcaejbaaW.PrintLast Go.Proofs.YtdgahpigcaejbaaW.PrintMore
attribute [local go_sem] max2_int min2_int max_two min_two max_three min_three max_four min_four   -- for this text's walks alone
set_option linter.unusedVariables false
set_option linter.unusedSimpArgs false
set_option maxRecDepth 100000

/-! ### laws_FnExactDerives: function 8 -/
def laws_FnExactDerives.f (k : Nat) (l0_0 : List (S83)) (l1 : List Int) (a2 : Int) : Option (Bool) := if (l1.length : Int) > 1048576 then (some true) else ((laws_szPool.f l0_0 1048576).bind fun t363 => (if t363 < 0 then (some true) else ((laws_toPool.f k l0_0).bind fun t364 => ((laws_toIntS.f k l1).bind fun t367 => ((spec_Derives.f k t364 t367 a2).bind fun t370 => ((laws_toPool.f k l0_0).bind fun t371 => ((laws_toIntS.f k l1).bind fun t375 => ((impl_Derives.f k t371 t375 a2).bind fun t378 => (if (t378 != t370) = true then (some false) else ((laws_toPool.f k l0_0).bind fun t379 => ((laws_eqPool.f k t371 t379).bind fun t382 => (if t382 = true then ((laws_toIntS.f k l1).bind fun t383 => ((laws_eqIntS.f k t375 t383).bind fun t386 => (if t386 = true then (some true) else (some false)))) else (some false)))))))))))))
theorem laws_FnExactDerives.mono : ∀ a0 a1 a2 k, LeO (laws_FnExactDerives.f k a0 a1 a2) (laws_FnExactDerives.f (k + 1) a0 a1 a2) := by
 intro a0 a1 a2 k
 unfold laws_FnExactDerives.f
 repeat' first
   | (with_reducible exact impl_Derives.mono _ _ _ _)
   | (with_reducible exact laws_eqIntS.mono _ _ _)
   | (with_reducible exact laws_eqPool.mono _ _ _)
   | (with_reducible exact laws_toIntS.mono _ _)
   | (with_reducible exact laws_toPool.mono _ _)
   | (with_reducible exact spec_Derives.mono _ _ _ _)
   | (with_reducible exact LeO.refl _)
   | (with_reducible exact LeO.none _)
   | (with_reducible refine LeO.ite ?_ ?_)
   | (with_reducible refine LeO.bind ?_ (fun _ => ?_))
   | exact impl_Derives.mono _ _ _ _
   | exact laws_eqIntS.mono _ _ _
   | exact laws_eqPool.mono _ _ _
   | exact laws_toIntS.mono _ _
   | exact laws_toPool.mono _ _
   | exact spec_Derives.mono _ _ _ _
   | exact LeO.none _
   | refine LeO.ite ?_ ?_
   | refine LeO.bind ?_ (fun _ => ?_)
set_option maxHeartbeats 8000000 in
set_option maxRecDepth 100000 in
theorem laws_FnExactDerives.calls (k : Nat) (A0_0 : Option Addr) (c0_0 : Nat) (l0_0 : List (S83)) (A1 : Option Addr) (c1 : Nat) (l1 : List Int) (a2 : Int) (r : Bool) (w : World) (hr0_0 : Kd.C k83 w A0_0 l0_0.length l0_0) (hc0_0 : l0_0.length ≤ c0_0) (hr1 : Kd.C (Kd.int .i64) w A1 l1.length l1) (hc1 : l1.length ≤ c1) (h : laws_FnExactDerives.f k l0_0 l1 a2 = some r) :
  Calls Try.prog 8 #[.agg #[.slice A0_0 l0_0.length c0_0], .slice A1 l1.length c1, .int .i64 a2] w fun e w' => e = .returned (.bool r) ∧ Below w.heap.size w w' := by
 have hu24 := Try.underlying24
 have hu30 := Try.underlying30
 have HR0_0 := Aside0.mk hr0_0
 have HC0_0 := Aside0.mk hc0_0
 clear hr0_0 hc0_0
 have HR1 := Aside0.mk hr1
 have HC1 := Aside0.mk hc1
 clear hr1 hc1
 have HB := Aside0.mk (Below.refl w.heap.size w)
 have H : (if (l1.length : Int) > 1048576 then (some true) else ((laws_szPool.f l0_0 1048576).bind fun t363 => (if t363 < 0 then (some true) else ((laws_toPool.f k l0_0).bind fun t364 => ((laws_toIntS.f k l1).bind fun t367 => ((spec_Derives.f k t364 t367 a2).bind fun t370 => ((laws_toPool.f k l0_0).bind fun t371 => ((laws_toIntS.f k l1).bind fun t375 => ((impl_Derives.f k t371 t375 a2).bind fun t378 => (if (t378 != t370) = true then (some false) else ((laws_toPool.f k l0_0).bind fun t379 => ((laws_eqPool.f k t371 t379).bind fun t382 => (if t382 = true then ((laws_toIntS.f k l1).bind fun t383 => ((laws_eqIntS.f k t375 t383).bind fun t386 => (if t386 = true then (some true) else (some false)))) else (some false)))))))))))))) = some r := h
 clear h
 by_cases c4 : (l1.length : Int) > 1048576
 ·rw [if_pos c4] at H
  have c4b0 : decide (1048576 < (l1.length : Int)) = true := decide_eq_true c4
  have c4b1 : decide (1048576 < l1.length) = true := decide_eq_true (by omega)
  clear c4
  obtain rfl := Option.some.inj H
  go_enter Try.func8, Try.ntmps8
  go_wp2_with (first | ((with_reducible refine gate_dst (N := 3) rfl ?_); refine box_event ?hg (N := 3) ?hd (cs := #[.slice A0_0 l0_0.length c0_0]) (t := 24) ?hr ?_; (case hd => rfl); (case hg => rfl); (case hr => first | (go_simp; done) | (go_simp; rfl)); intro gb362 hg w5 hbox hb; have n0_ := Aside0.mk (below_step (zb HB.out) hb); have n1_ := Aside0.mk (hbox); have n2_ := Aside0.mk ((by rw [hg]; exact (below_size (zb HB.out)) : w.heap.size ≤ gb362)); have n3_ := Aside0.mk ((by rw [hg]; exact (below_size (zb HB.out)) : w.heap.size ≤ gb362)); clear HB; have HB := n0_; have BK362 := n1_; have GW362 := n2_; have GE362 := n3_; clear n0_ n1_ n2_ n3_; clear hb hbox hg))
  go_ret
  exact ⟨ze, zb HB.out⟩
 ·rw [if_neg c4] at H
  have c4b0 : decide (1048576 < (l1.length : Int)) = false := decide_eq_false c4
  have c4b1 : decide (1048576 < l1.length) = false := decide_eq_false (by omega)
  clear c4
  replace H := Option.bind_eq_some_iff.mp H
  obtain ⟨t363, A60, H⟩ := H
  replace H : (if t363 < 0 then (some true) else ((laws_toPool.f k l0_0).bind fun t364 => ((laws_toIntS.f k l1).bind fun t367 => ((spec_Derives.f k t364 t367 a2).bind fun t370 => ((laws_toPool.f k l0_0).bind fun t371 => ((laws_toIntS.f k l1).bind fun t375 => ((impl_Derives.f k t371 t375 a2).bind fun t378 => (if (t378 != t370) = true then (some false) else ((laws_toPool.f k l0_0).bind fun t379 => ((laws_eqPool.f k t371 t379).bind fun t382 => (if t382 = true then ((laws_toIntS.f k l1).bind fun t383 => ((laws_eqIntS.f k t375 t383).bind fun t386 => (if t386 = true then (some true) else (some false)))) else (some false)))))))))))) = some r := H
  have A6 := Aside0.mk A60
  clear A60
  by_cases c7 : t363 < 0
  ·rw [if_pos c7] at H
   have c7b0 : decide (t363 < 0) = true := decide_eq_true c7
   clear c7
   obtain rfl := Option.some.inj H
   go_enter Try.func8, Try.ntmps8
   go_wp2_with (first | ((with_reducible refine gate_dst (N := 3) rfl ?_); refine box_event ?hg (N := 3) ?hd (cs := #[.slice A0_0 l0_0.length c0_0]) (t := 24) ?hr ?_; (case hd => rfl); (case hg => rfl); (case hr => first | (go_simp; done) | (go_simp; rfl)); intro gb362 hg w8 hbox hb; have n0_ := Aside0.mk (below_step (zb HB.out) hb); have n1_ := Aside0.mk (hbox); have n2_ := Aside0.mk ((by rw [hg]; exact (below_size (zb HB.out)) : w.heap.size ≤ gb362)); have n3_ := Aside0.mk ((by rw [hg]; exact (below_size (zb HB.out)) : w.heap.size ≤ gb362)); clear HB; have HB := n0_; have BK362 := n1_; have GW362 := n2_; have GE362 := n3_; clear n0_ n1_ n2_ n3_; clear hb hbox hg; have hcz9_0 : w8.cell? ⟨gb362, 0, none⟩ = some (.slice A0_0 l0_0.length c0_0) := (blk_cell BK362.out 0).trans rfl; have hfz9_0 := blk_frozen BK362.out 0) | ((with_reducible refine gate_callee (f := 9) rfl ?_); refine goesL_ (some 17) rfl rfl Try.func9 (by kernel_rfl) rfl #[.agg #[.slice A0_0 l0_0.length c0_0], .int .i64 1048576] rfl zl ?_; (with_reducible refine (laws_szPool.calls _ _ l0_0 1048576 t363 _ ?side1 ?side2 A6.out).mono ?_); (case side1 => exact zc (Kd.C_below HR0_0.out HB.out)); (case side2 => exact HC0_0.out); rintro e w10 ⟨rfl, hb⟩; refine ⟨_, rfl, ?_⟩; have n0_ := Aside0.mk (blk_below (zh BK362.out) hb); have n1_ := Aside0.mk (below_step (zb HB.out) hb); clear BK362; clear HB; have BK362 := n0_; have HB := n1_; clear n0_ n1_; (try clear hb); (try clear hb2); (try clear hk); (try clear hi)))
   go_ret
   exact ⟨ze, zb HB.out⟩
  ·rw [if_neg c7] at H
   have c7b0 : decide (t363 < 0) = false := decide_eq_false c7
   clear c7
   replace H := Option.bind_eq_some_iff.mp H
   obtain ⟨t364, A110, H⟩ := H
   replace H : ((laws_toIntS.f k l1).bind fun t367 => ((spec_Derives.f k t364 t367 a2).bind fun t370 => ((laws_toPool.f k l0_0).bind fun t371 => ((laws_toIntS.f k l1).bind fun t375 => ((impl_Derives.f k t371 t375 a2).bind fun t378 => (if (t378 != t370) = true then (some false) else ((laws_toPool.f k l0_0).bind fun t379 => ((laws_eqPool.f k t371 t379).bind fun t382 => (if t382 = true then ((laws_toIntS.f k l1).bind fun t383 => ((laws_eqIntS.f k t375 t383).bind fun t386 => (if t386 = true then (some true) else (some false)))) else (some false)))))))))) = some r := H
   have A11 := Aside0.mk A110
   clear A110
   replace H := Option.bind_eq_some_iff.mp H
   obtain ⟨t367, A120, H⟩ := H
   replace H : ((spec_Derives.f k t364 t367 a2).bind fun t370 => ((laws_toPool.f k l0_0).bind fun t371 => ((laws_toIntS.f k l1).bind fun t375 => ((impl_Derives.f k t371 t375 a2).bind fun t378 => (if (t378 != t370) = true then (some false) else ((laws_toPool.f k l0_0).bind fun t379 => ((laws_eqPool.f k t371 t379).bind fun t382 => (if t382 = true then ((laws_toIntS.f k l1).bind fun t383 => ((laws_eqIntS.f k t375 t383).bind fun t386 => (if t386 = true then (some true) else (some false)))) else (some false))))))))) = some r := H
   have A12 := Aside0.mk A120
   clear A120
   replace H := Option.bind_eq_some_iff.mp H
   obtain ⟨t370, A130, H⟩ := H
   replace H : ((laws_toPool.f k l0_0).bind fun t371 => ((laws_toIntS.f k l1).bind fun t375 => ((impl_Derives.f k t371 t375 a2).bind fun t378 => (if (t378 != t370) = true then (some false) else ((laws_toPool.f k l0_0).bind fun t379 => ((laws_eqPool.f k t371 t379).bind fun t382 => (if t382 = true then ((laws_toIntS.f k l1).bind fun t383 => ((laws_eqIntS.f k t375 t383).bind fun t386 => (if t386 = true then (some true) else (some false)))) else (some false)))))))) = some r := H
   have A13 := Aside0.mk A130
   clear A130
   replace H := Option.bind_eq_some_iff.mp H
   obtain ⟨t371, A140, H⟩ := H
   replace H : ((laws_toIntS.f k l1).bind fun t375 => ((impl_Derives.f k t371 t375 a2).bind fun t378 => (if (t378 != t370) = true then (some false) else ((laws_toPool.f k l0_0).bind fun t379 => ((laws_eqPool.f k t371 t379).bind fun t382 => (if t382 = true then ((laws_toIntS.f k l1).bind fun t383 => ((laws_eqIntS.f k t375 t383).bind fun t386 => (if t386 = true then (some true) else (some false)))) else (some false))))))) = some r := H
   have A14 := Aside0.mk A140
   clear A140
   replace H := Option.bind_eq_some_iff.mp H
   obtain ⟨t375, A150, H⟩ := H
   replace H : ((impl_Derives.f k t371 t375 a2).bind fun t378 => (if (t378 != t370) = true then (some false) else ((laws_toPool.f k l0_0).bind fun t379 => ((laws_eqPool.f k t371 t379).bind fun t382 => (if t382 = true then ((laws_toIntS.f k l1).bind fun t383 => ((laws_eqIntS.f k t375 t383).bind fun t386 => (if t386 = true then (some true) else (some false)))) else (some false)))))) = some r := H
   have A15 := Aside0.mk A150
   clear A150
   replace H := Option.bind_eq_some_iff.mp H
   obtain ⟨t378, A160, H⟩ := H
   replace H : (if (t378 != t370) = true then (some false) else ((laws_toPool.f k l0_0).bind fun t379 => ((laws_eqPool.f k t371 t379).bind fun t382 => (if t382 = true then ((laws_toIntS.f k l1).bind fun t383 => ((laws_eqIntS.f k t375 t383).bind fun t386 => (if t386 = true then (some true) else (some false)))) else (some false))))) = some r := H
   have A16 := Aside0.mk A160
   clear A160
   by_cases c17 : (t378 != t370) = true
   ·rw [if_pos c17] at H
    have c17b0 : (t378 != t370) = true := c17
    (try (have c17b1 : decide (t378 = t370) = false := by simpa using c17))
    (try (have c17b2 : (t378 == t370) = false := by simpa using c17))
    (try (have c17b3 : ¬ (t378 = t370) := by simpa using c17))
    clear c17
    obtain rfl := Option.some.inj H
    go_enter Try.func8, Try.ntmps8
    go_wp2_with (first | ((with_reducible refine gate_dst (N := 3) rfl ?_); refine box_event ?hg (N := 3) ?hd (cs := #[.slice A0_0 l0_0.length c0_0]) (t := 24) ?hr ?_; (case hd => rfl); (case hg => rfl); (case hr => first | (go_simp; done) | (go_simp; rfl)); intro gb362 hg w18 hbox hb; have n0_ := Aside0.mk (below_step (zb HB.out) hb); have n1_ := Aside0.mk (hbox); have n2_ := Aside0.mk ((by rw [hg]; exact (below_size (zb HB.out)) : w.heap.size ≤ gb362)); have n3_ := Aside0.mk ((by rw [hg]; exact (below_size (zb HB.out)) : w.heap.size ≤ gb362)); clear HB; have HB := n0_; have BK362 := n1_; have GW362 := n2_; have GE362 := n3_; clear n0_ n1_ n2_ n3_; clear hb hbox hg; have hcz19_0 : w18.cell? ⟨gb362, 0, none⟩ = some (.slice A0_0 l0_0.length c0_0) := (blk_cell BK362.out 0).trans rfl; have hfz19_0 := blk_frozen BK362.out 0) | ((with_reducible refine gate_callee (f := 9) rfl ?_); refine goesL_ (some 17) rfl rfl Try.func9 (by kernel_rfl) rfl #[.agg #[.slice A0_0 l0_0.length c0_0], .int .i64 1048576] rfl zl ?_; (with_reducible refine (laws_szPool.calls _ _ l0_0 1048576 t363 _ ?side1 ?side2 A6.out).mono ?_); (case side1 => exact zc (Kd.C_below HR0_0.out HB.out)); (case side2 => exact HC0_0.out); rintro e w20 ⟨rfl, hb⟩; refine ⟨_, rfl, ?_⟩; have n0_ := Aside0.mk (blk_below (zh BK362.out) hb); have n1_ := Aside0.mk (below_step (zb HB.out) hb); clear BK362; clear HB; have BK362 := n0_; have HB := n1_; clear n0_ n1_; (try clear hb); (try clear hb2); (try clear hk); (try clear hi); have hcz21_0 : w20.cell? ⟨gb362, 0, none⟩ = some (.slice A0_0 l0_0.length c0_0) := (blk_cell BK362.out 0).trans rfl; have hfz21_0 := blk_frozen BK362.out 0) | ((with_reducible refine gate_callee (f := 11) rfl ?_); refine goesL_ (some 21) rfl rfl Try.func11 (by kernel_rfl) rfl #[.agg #[.slice A0_0 l0_0.length c0_0]] rfl zl ?_; (with_reducible refine (laws_toPool.calls k _ _ l0_0 t364 _ ?side1 ?side2 A11.out).mono ?_); (case side1 => exact zc (Kd.C_below HR0_0.out HB.out)); (case side2 => exact HC0_0.out); rintro e w22 ⟨v365, rfl, ho0, hb⟩; refine ⟨_, rfl, ?_⟩; have n0_ := Aside0.mk (Kd.R_lower ho0 (below_size (zb HB.out))); have n1_ := Aside0.mk (blk_below (zh BK362.out) hb); have n2_ := Aside0.mk (below_step (zb HB.out) hb); clear BK362; clear HB; have HO366 := n0_; have BK362 := n1_; have HB := n2_; clear n0_ n1_ n2_; (try clear hb); (try clear hb2); (try clear hk); (try clear hi); (try clear ho0)) | ((with_reducible refine gate_callee (f := 28) rfl ?_); refine goesL_ (some 23) rfl rfl Try.func28 (by kernel_rfl) rfl #[.slice A1 l1.length c1] rfl zl ?_; (with_reducible refine (laws_toIntS.calls k _ _ l1 t367 _ ?side1 ?side2 A12.out).mono ?_); (case side1 => exact zc (Kd.C_below HR1.out HB.out)); (case side2 => exact HC1.out); rintro e w23 ⟨v368, rfl, ho0, hb⟩; refine ⟨_, rfl, ?_⟩; have n0_ := Aside0.mk (Kd.R_below (zr HO366.out) hb); have n1_ := Aside0.mk (Kd.R_lower ho0 (below_size (zb HB.out))); have n2_ := Aside0.mk (blk_below (zh BK362.out) hb); have n3_ := Aside0.mk (below_step (zb HB.out) hb); clear HO366; clear BK362; clear HB; have HO366 := n0_; have HO369 := n1_; have BK362 := n2_; have HB := n3_; clear n0_ n1_ n2_ n3_; (try clear hb); (try clear hb2); (try clear hk); (try clear hi); (try clear ho0); obtain ⟨Ao24, co24, eo24⟩ := Kd.R_slice HO366.out; subst eo24; obtain ⟨Ao25, co25, eo25⟩ := Kd.R_slice HO369.out; subst eo25) | ((with_reducible refine gate_callee (f := 32) rfl ?_); refine goesL_ (some 25) rfl rfl Try.func32 (by kernel_rfl) rfl #[.agg #[.slice Ao24 t364.length co24], .slice Ao25 t367.length co25, .int .i64 a2] rfl zl ?_; (with_reducible refine (spec_Derives.calls k _ _ t364 _ _ t367 a2 t370 _ ?side1 ?side2 ?side3 ?side4 A13.out).mono ?_); (case side1 => exact zc (Kd.R_reads' HO366.out).2.2); (case side2 => exact (Kd.R_reads' HO366.out).2.1); (case side3 => exact zc (Kd.R_reads' HO369.out).2.2); (case side4 => exact (Kd.R_reads' HO369.out).2.1); rintro e w26 ⟨rfl, hb⟩; refine ⟨_, rfl, ?_⟩; have n0_ := Aside0.mk (Kd.R_below (zr HO366.out) hb); have n1_ := Aside0.mk (Kd.R_below (zr HO369.out) hb); have n2_ := Aside0.mk (blk_below (zh BK362.out) hb); have n3_ := Aside0.mk (below_step (zb HB.out) hb); clear HO366; clear HO369; clear BK362; clear HB; have HO366 := n0_; have HO369 := n1_; have BK362 := n2_; have HB := n3_; clear n0_ n1_ n2_ n3_; (try clear hb); (try clear hb2); (try clear hk); (try clear hi); have hcz27_0 : w26.cell? ⟨gb362, 0, none⟩ = some (.slice A0_0 l0_0.length c0_0) := (blk_cell BK362.out 0).trans rfl; have hfz27_0 := blk_frozen BK362.out 0) | ((with_reducible refine gate_callee (f := 11) rfl ?_); refine goesL_ (some 27) rfl rfl Try.func11 (by kernel_rfl) rfl #[.agg #[.slice A0_0 l0_0.length c0_0]] rfl zl ?_; (with_reducible refine (laws_toPool.calls k _ _ l0_0 t371 _ ?side1 ?side2 A14.out).mono ?_); (case side1 => exact zc (Kd.C_below HR0_0.out HB.out)); (case side2 => exact HC0_0.out); rintro e w28 ⟨v372, rfl, ho0, hb⟩; refine ⟨_, rfl, ?_⟩; have n0_ := Aside0.mk (Kd.R_elder' (zr HO366.out) (Kd.R_base ho0) hb); have n1_ := Aside0.mk (Kd.R_below (zr HO369.out) hb); have n2_ := Aside0.mk (Kd.R_lower (Kd.R_new' ho0 (Kd.R_lt (zr HO366.out))) (below_size (zb HB.out))); have n3_ := Aside0.mk (blk_below (zh BK362.out) hb); have n4_ := Aside0.mk (below_step (zb HB.out) hb); clear HO366; clear HO369; clear BK362; clear HB; have HO366 := n0_; have HO369 := n1_; have HO373 := n2_; have BK362 := n3_; have HB := n4_; clear n0_ n1_ n2_ n3_ n4_; (try clear hb); (try clear hb2); (try clear hk); (try clear hi); (try clear ho0)) | ((with_reducible refine gate_dst (N := 9) rfl ?_); refine box_event ?hg (N := 9) ?hd (cs := #[.slice none 0 0]) (t := 30) ?hr ?_; (case hd => rfl); (case hg => rfl); (case hr => first | (go_simp; done) | (go_simp; rfl)); intro gb374 hg w29 hbox hb; have n0_ := Aside0.mk (Kd.R_below (zr HO366.out) hb); have n1_ := Aside0.mk (Kd.R_below (zr HO369.out) hb); have n2_ := Aside0.mk (Kd.R_below (zr HO373.out) hb); have n3_ := Aside0.mk (blk_below (zh BK362.out) hb); have n4_ := Aside0.mk (below_step (zb HB.out) hb); have n5_ := Aside0.mk (hbox); have n6_ := Aside0.mk ((by rw [hg]; exact (below_size (zb HB.out)) : w.heap.size ≤ gb374)); have n7_ := Aside0.mk ((by rw [hg]; exact (below_size (zb HB.out)) : w.heap.size ≤ gb374)); have n8_ := Aside0.mk ((by rw [hg]; exact Nat.ne_of_lt (blk_lt (zh BK362.out)) : gb362 ≠ gb374)); have n9_ := Aside0.mk ((by rw [hg]; exact Nat.ne_of_gt (blk_lt (zh BK362.out)) : gb374 ≠ gb362)); clear HO366; clear HO369; clear HO373; clear BK362; clear HB; have HO366 := n0_; have HO369 := n1_; have HO373 := n2_; have BK362 := n3_; have HB := n4_; have BK374 := n5_; have GW374 := n6_; have GE374 := n7_; have NB362_374 := n8_; have NB374_362 := n9_; clear n0_ n1_ n2_ n3_ n4_ n5_ n6_ n7_ n8_ n9_; clear hb hbox hg; obtain ⟨Ao30, co30, eo30⟩ := Kd.R_slice HO373.out; subst eo30; have hnb31 := NB374_362.out; have hnc31 := NB362_374.out; have hcz32_0 : w29.cell? ⟨gb374, 0, none⟩ = some (.slice none 0 0) := (blk_cell BK374.out 0).trans rfl; have hfz32_0 := blk_frozen BK374.out 0) | ((with_reducible refine gate_callee (f := 28) rfl ?_); refine goesL_ (some 29) rfl rfl Try.func28 (by kernel_rfl) rfl #[.slice A1 l1.length c1] rfl zl ?_; (with_reducible refine (laws_toIntS.calls k _ _ l1 t375 _ ?side1 ?side2 A15.out).mono ?_); (case side1 => exact Kd.C_below HR1.out (zb HB.out)); (case side2 => exact HC1.out); rintro e w33 ⟨v376, rfl, ho0, hb⟩; refine ⟨_, rfl, ?_⟩; have n0_ := Aside0.mk (Kd.R_below (by (with_reducible repeat (first | apply Kd.R_alloc | apply Kd.R_drewN | apply Kd.R_drew)); exact (Kd.R_mono (Kd.R_far (p := ⟨gb374, 0, none⟩) (Kd.R_types HO366.out BK374.out (by decide)) (fun _ hk => hk.2) (.slice Ao30 t371.length co30)) (fun _ h_ => h_.1))) hb); have n1_ := Aside0.mk (Kd.R_elder' (by (with_reducible repeat (first | apply Kd.R_alloc | apply Kd.R_drewN | apply Kd.R_drew)); exact (Kd.R_mono (Kd.R_far (p := ⟨gb374, 0, none⟩) (Kd.R_types HO369.out BK374.out (by decide)) (fun _ hk => hk.2) (.slice Ao30 t371.length co30)) (fun _ h_ => h_.1))) (Kd.R_base ho0) hb); have n2_ := Aside0.mk (Kd.R_below (by (with_reducible repeat (first | apply Kd.R_alloc | apply Kd.R_drewN | apply Kd.R_drew)); exact (Kd.R_mono (Kd.R_far (p := ⟨gb374, 0, none⟩) (Kd.R_types HO373.out BK374.out (by decide)) (fun _ hk => hk.2) (.slice Ao30 t371.length co30)) (fun _ h_ => h_.1))) hb); have n3_ := Aside0.mk (Kd.R_lower (Kd.R_new' ho0 (Kd.R_lt (by (with_reducible repeat (first | apply Kd.R_alloc | apply Kd.R_drewN | apply Kd.R_drew)); exact (Kd.R_mono (Kd.R_far (p := ⟨gb374, 0, none⟩) (Kd.R_types HO369.out BK374.out (by decide)) (fun _ hk => hk.2) (.slice Ao30 t371.length co30)) (fun _ h_ => h_.1))))) (below_size (zb HB.out))); have n4_ := Aside0.mk (blk_below (g := gb362) (o := .cells #[.slice A0_0 l0_0.length c0_0] 24 (0, 0)) (zf BK362.out) hb); have n5_ := Aside0.mk (blk_below (g := gb374) (o := .cells #[.slice Ao30 t371.length co30] 30 (0, 0)) (by (with_reducible repeat (first | refine blk_drewN ?_ _ | refine blk_drew ?_ | refine blk_alloc ?_ _)); refine blk_put (cs := #[.slice none 0 0]) ?_ 0 _ rfl; (with_reducible repeat (first | refine blk_drewN ?_ _ | refine blk_drew ?_ | refine blk_alloc ?_ _)); exact BK374.out) hb); have n6_ := Aside0.mk (below_step (zb HB.out) hb); clear HO366; clear HO369; clear HO373; clear BK362; clear BK374; clear HB; have HO366 := n0_; have HO369 := n1_; have HO373 := n2_; have HO377 := n3_; have BK362 := n4_; have BK374 := n5_; have HB := n6_; clear n0_ n1_ n2_ n3_ n4_ n5_ n6_; (try clear hb); (try clear hb2); (try clear hk); (try clear hi); (try clear ho0); have hcz34_0 : w33.cell? ⟨gb374, 0, none⟩ = some (.slice Ao30 t371.length co30) := (blk_cell BK374.out 0).trans rfl; have hfz34_0 := blk_frozen BK374.out 0; obtain ⟨Ao35, co35, eo35⟩ := Kd.R_slice HO377.out; subst eo35) | ((with_reducible refine gate_callee (f := 33) rfl ?_); refine goesL_ (some 33) rfl rfl Try.func33 (by kernel_rfl) rfl #[.agg #[.slice Ao30 t371.length co30], .slice Ao35 t375.length co35, .int .i64 a2] rfl zl ?_; (with_reducible refine (impl_Derives.calls k _ _ t371 _ _ t375 a2 t378 _ ?side1 ?side2 ?side3 ?side4 A16.out).mono ?_); (case side1 => exact zc (Kd.R_reads' HO373.out).2.2); (case side2 => exact (Kd.R_reads' HO373.out).2.1); (case side3 => exact zc (Kd.R_reads' HO377.out).2.2); (case side4 => exact (Kd.R_reads' HO377.out).2.1); rintro e w36 ⟨rfl, hb⟩; refine ⟨_, rfl, ?_⟩; have n0_ := Aside0.mk (Kd.R_below (zr HO366.out) hb); have n1_ := Aside0.mk (Kd.R_below (zr HO369.out) hb); have n2_ := Aside0.mk (Kd.R_below (zr HO373.out) hb); have n3_ := Aside0.mk (Kd.R_below (zr HO377.out) hb); have n4_ := Aside0.mk (blk_below (zh BK362.out) hb); have n5_ := Aside0.mk (blk_below (zh BK374.out) hb); have n6_ := Aside0.mk (below_step (zb HB.out) hb); clear HO366; clear HO369; clear HO373; clear HO377; clear BK362; clear BK374; clear HB; have HO366 := n0_; have HO369 := n1_; have HO373 := n2_; have HO377 := n3_; have BK362 := n4_; have BK374 := n5_; have HB := n6_; clear n0_ n1_ n2_ n3_ n4_ n5_ n6_; (try clear hb); (try clear hb2); (try clear hk); (try clear hi)))
    go_ret
    exact ⟨ze, zb HB.out⟩
   ·rw [if_neg c17] at H
    have c17b0 : (t378 != t370) = false := by simpa using c17
    (try (have c17b1 : decide (t378 = t370) = true := by simpa using c17))
    (try (have c17b2 : (t378 == t370) = true := by simpa using c17))
    clear c17
    replace H := Option.bind_eq_some_iff.mp H
    obtain ⟨t379, A370, H⟩ := H
    replace H : ((laws_eqPool.f k t371 t379).bind fun t382 => (if t382 = true then ((laws_toIntS.f k l1).bind fun t383 => ((laws_eqIntS.f k t375 t383).bind fun t386 => (if t386 = true then (some true) else (some false)))) else (some false))) = some r := H
    have A37 := Aside0.mk A370
    clear A370
    replace H := Option.bind_eq_some_iff.mp H
    obtain ⟨t382, A380, H⟩ := H
    replace H : (if t382 = true then ((laws_toIntS.f k l1).bind fun t383 => ((laws_eqIntS.f k t375 t383).bind fun t386 => (if t386 = true then (some true) else (some false)))) else (some false)) = some r := H
    have A38 := Aside0.mk A380
    clear A380
    by_cases c39 : t382 = true
    ·subst c39
     have H1 : ((laws_toIntS.f k l1).bind fun t383 => ((laws_eqIntS.f k t375 t383).bind fun t386 => (if t386 = true then (some true) else (some false)))) = some r := by rw [if_pos rfl] at H; exact H
     clear H
     have H := H1
     clear H1
     replace H := Option.bind_eq_some_iff.mp H
     obtain ⟨t383, A400, H⟩ := H
     replace H : ((laws_eqIntS.f k t375 t383).bind fun t386 => (if t386 = true then (some true) else (some false))) = some r := H
     have A40 := Aside0.mk A400
     clear A400
     replace H := Option.bind_eq_some_iff.mp H
     obtain ⟨t386, A410, H⟩ := H
     replace H : (if t386 = true then (some true) else (some false)) = some r := H
     have A41 := Aside0.mk A410
     clear A410
     by_cases c42 : t386 = true
     ·subst c42
      have H1 : (some true) = some r := by rw [if_pos rfl] at H; exact H
      clear H
      have H := H1
      clear H1
      obtain rfl := Option.some.inj H
      go_enter Try.func8, Try.ntmps8
      try go_wp2_with (first | ((with_reducible refine gate_dst (N := 3) rfl ?_); refine box_event ?hg (N := 3) ?hd (cs := #[.slice A0_0 l0_0.length c0_0]) (t := 24) ?hr ?_; (case hd => rfl); (case hg => rfl); (case hr => first | (go_simp; done) | (go_simp; rfl)); intro gb362 hg w43 hbox hb; have n0_ := Aside0.mk (below_step (zb HB.out) hb); have n1_ := Aside0.mk (hbox); have n2_ := Aside0.mk ((by rw [hg]; exact (below_size (zb HB.out)) : w.heap.size ≤ gb362)); have n3_ := Aside0.mk ((by rw [hg]; exact (below_size (zb HB.out)) : w.heap.size ≤ gb362)); clear HB; have HB := n0_; have BK362 := n1_; have GW362 := n2_; have GE362 := n3_; clear n0_ n1_ n2_ n3_; clear hb hbox hg; have hcz44_0 : w43.cell? ⟨gb362, 0, none⟩ = some (.slice A0_0 l0_0.length c0_0) := (blk_cell BK362.out 0).trans rfl; have hfz44_0 := blk_frozen BK362.out 0) | ((with_reducible refine gate_callee (f := 9) rfl ?_); refine goesL_ (some 17) rfl rfl Try.func9 (by kernel_rfl) rfl #[.agg #[.slice A0_0 l0_0.length c0_0], .int .i64 1048576] rfl zl ?_; (with_reducible refine (laws_szPool.calls _ _ l0_0 1048576 t363 _ ?side1 ?side2 A6.out).mono ?_); (case side1 => exact zc (Kd.C_below HR0_0.out HB.out)); (case side2 => exact HC0_0.out); rintro e w45 ⟨rfl, hb⟩; refine ⟨_, rfl, ?_⟩; have n0_ := Aside0.mk (blk_below (zh BK362.out) hb); have n1_ := Aside0.mk (below_step (zb HB.out) hb); clear BK362; clear HB; have BK362 := n0_; have HB := n1_; clear n0_ n1_; (try clear hb); (try clear hb2); (try clear hk); (try clear hi); have hcz46_0 : w45.cell? ⟨gb362, 0, none⟩ = some (.slice A0_0 l0_0.length c0_0) := (blk_cell BK362.out 0).trans rfl; have hfz46_0 := blk_frozen BK362.out 0) | ((with_reducible refine gate_callee (f := 11) rfl ?_); refine goesL_ (some 21) rfl rfl Try.func11 (by kernel_rfl) rfl #[.agg #[.slice A0_0 l0_0.length c0_0]] rfl zl ?_; (with_reducible refine (laws_toPool.calls k _ _ l0_0 t364 _ ?side1 ?side2 A11.out).mono ?_); (case side1 => exact zc (Kd.C_below HR0_0.out HB.out)); (case side2 => exact HC0_0.out); rintro e w47 ⟨v365, rfl, ho0, hb⟩; refine ⟨_, rfl, ?_⟩; have n0_ := Aside0.mk (Kd.R_lower ho0 (below_size (zb HB.out))); have n1_ := Aside0.mk (blk_below (zh BK362.out) hb); have n2_ := Aside0.mk (below_step (zb HB.out) hb); clear BK362; clear HB; have HO366 := n0_; have BK362 := n1_; have HB := n2_; clear n0_ n1_ n2_; (try clear hb); (try clear hb2); (try clear hk); (try clear hi); (try clear ho0)) | ((with_reducible refine gate_callee (f := 28) rfl ?_); refine goesL_ (some 23) rfl rfl Try.func28 (by kernel_rfl) rfl #[.slice A1 l1.length c1] rfl zl ?_; (with_reducible refine (laws_toIntS.calls k _ _ l1 t367 _ ?side1 ?side2 A12.out).mono ?_); (case side1 => exact zc (Kd.C_below HR1.out HB.out)); (case side2 => exact HC1.out); rintro e w48 ⟨v368, rfl, ho0, hb⟩; refine ⟨_, rfl, ?_⟩; have n0_ := Aside0.mk (Kd.R_below (zr HO366.out) hb); have n1_ := Aside0.mk (Kd.R_lower ho0 (below_size (zb HB.out))); have n2_ := Aside0.mk (blk_below (zh BK362.out) hb); have n3_ := Aside0.mk (below_step (zb HB.out) hb); clear HO366; clear BK362; clear HB; have HO366 := n0_; have HO369 := n1_; have BK362 := n2_; have HB := n3_; clear n0_ n1_ n2_ n3_; (try clear hb); (try clear hb2); (try clear hk); (try clear hi); (try clear ho0); obtain ⟨Ao49, co49, eo49⟩ := Kd.R_slice HO366.out; subst eo49; obtain ⟨Ao50, co50, eo50⟩ := Kd.R_slice HO369.out; subst eo50) | ((with_reducible refine gate_callee (f := 32) rfl ?_); refine goesL_ (some 25) rfl rfl Try.func32 (by kernel_rfl) rfl #[.agg #[.slice Ao49 t364.length co49], .slice Ao50 t367.length co50, .int .i64 a2] rfl zl ?_; (with_reducible refine (spec_Derives.calls k _ _ t364 _ _ t367 a2 t370 _ ?side1 ?side2 ?side3 ?side4 A13.out).mono ?_); (case side1 => exact zc (Kd.R_reads' HO366.out).2.2); (case side2 => exact (Kd.R_reads' HO366.out).2.1); (case side3 => exact zc (Kd.R_reads' HO369.out).2.2); (case side4 => exact (Kd.R_reads' HO369.out).2.1); rintro e w51 ⟨rfl, hb⟩; refine ⟨_, rfl, ?_⟩; have n0_ := Aside0.mk (Kd.R_below (zr HO366.out) hb); have n1_ := Aside0.mk (Kd.R_below (zr HO369.out) hb); have n2_ := Aside0.mk (blk_below (zh BK362.out) hb); have n3_ := Aside0.mk (below_step (zb HB.out) hb); clear HO366; clear HO369; clear BK362; clear HB; have HO366 := n0_; have HO369 := n1_; have BK362 := n2_; have HB := n3_; clear n0_ n1_ n2_ n3_; (try clear hb); (try clear hb2); (try clear hk); (try clear hi); have hcz52_0 : w51.cell? ⟨gb362, 0, none⟩ = some (.slice A0_0 l0_0.length c0_0) := (blk_cell BK362.out 0).trans rfl; have hfz52_0 := blk_frozen BK362.out 0) | ((with_reducible refine gate_callee (f := 11) rfl ?_); refine goesL_ (some 27) rfl rfl Try.func11 (by kernel_rfl) rfl #[.agg #[.slice A0_0 l0_0.length c0_0]] rfl zl ?_; (with_reducible refine (laws_toPool.calls k _ _ l0_0 t371 _ ?side1 ?side2 A14.out).mono ?_); (case side1 => exact zc (Kd.C_below HR0_0.out HB.out)); (case side2 => exact HC0_0.out); rintro e w53 ⟨v372, rfl, ho0, hb⟩; refine ⟨_, rfl, ?_⟩; have n0_ := Aside0.mk (Kd.R_elder' (zr HO366.out) (Kd.R_base ho0) hb); have n1_ := Aside0.mk (Kd.R_below (zr HO369.out) hb); have n2_ := Aside0.mk (Kd.R_lower (Kd.R_new' ho0 (Kd.R_lt (zr HO366.out))) (below_size (zb HB.out))); have n3_ := Aside0.mk (blk_below (zh BK362.out) hb); have n4_ := Aside0.mk (below_step (zb HB.out) hb); clear HO366; clear HO369; clear BK362; clear HB; have HO366 := n0_; have HO369 := n1_; have HO373 := n2_; have BK362 := n3_; have HB := n4_; clear n0_ n1_ n2_ n3_ n4_; (try clear hb); (try clear hb2); (try clear hk); (try clear hi); (try clear ho0)) | ((with_reducible refine gate_dst (N := 9) rfl ?_); refine box_event ?hg (N := 9) ?hd (cs := #[.slice none 0 0]) (t := 30) ?hr ?_; (case hd => rfl); (case hg => rfl); (case hr => first | (go_simp; done) | (go_simp; rfl)); intro gb374 hg w54 hbox hb; have n0_ := Aside0.mk (Kd.R_below (zr HO366.out) hb); have n1_ := Aside0.mk (Kd.R_below (zr HO369.out) hb); have n2_ := Aside0.mk (Kd.R_below (zr HO373.out) hb); have n3_ := Aside0.mk (blk_below (zh BK362.out) hb); have n4_ := Aside0.mk (below_step (zb HB.out) hb); have n5_ := Aside0.mk (hbox); have n6_ := Aside0.mk ((by rw [hg]; exact (below_size (zb HB.out)) : w.heap.size ≤ gb374)); have n7_ := Aside0.mk ((by rw [hg]; exact (below_size (zb HB.out)) : w.heap.size ≤ gb374)); have n8_ := Aside0.mk ((by rw [hg]; exact Nat.ne_of_lt (blk_lt (zh BK362.out)) : gb362 ≠ gb374)); have n9_ := Aside0.mk ((by rw [hg]; exact Nat.ne_of_gt (blk_lt (zh BK362.out)) : gb374 ≠ gb362)); clear HO366; clear HO369; clear HO373; clear BK362; clear HB; have HO366 := n0_; have HO369 := n1_; have HO373 := n2_; have BK362 := n3_; have HB := n4_; have BK374 := n5_; have GW374 := n6_; have GE374 := n7_; have NB362_374 := n8_; have NB374_362 := n9_; clear n0_ n1_ n2_ n3_ n4_ n5_ n6_ n7_ n8_ n9_; clear hb hbox hg; obtain ⟨Ao55, co55, eo55⟩ := Kd.R_slice HO373.out; subst eo55; have hnb56 := NB374_362.out; have hnc56 := NB362_374.out; have hcz57_0 : w54.cell? ⟨gb374, 0, none⟩ = some (.slice none 0 0) := (blk_cell BK374.out 0).trans rfl; have hfz57_0 := blk_frozen BK374.out 0) | ((with_reducible refine gate_callee (f := 28) rfl ?_); refine goesL_ (some 29) rfl rfl Try.func28 (by kernel_rfl) rfl #[.slice A1 l1.length c1] rfl zl ?_; (with_reducible refine (laws_toIntS.calls k _ _ l1 t375 _ ?side1 ?side2 A15.out).mono ?_); (case side1 => exact Kd.C_below HR1.out (zb HB.out)); (case side2 => exact HC1.out); rintro e w58 ⟨v376, rfl, ho0, hb⟩; refine ⟨_, rfl, ?_⟩; have n0_ := Aside0.mk (Kd.R_below (by (with_reducible repeat (first | apply Kd.R_alloc | apply Kd.R_drewN | apply Kd.R_drew)); exact (Kd.R_mono (Kd.R_far (p := ⟨gb374, 0, none⟩) (Kd.R_types HO366.out BK374.out (by decide)) (fun _ hk => hk.2) (.slice Ao55 t371.length co55)) (fun _ h_ => h_.1))) hb); have n1_ := Aside0.mk (Kd.R_elder' (by (with_reducible repeat (first | apply Kd.R_alloc | apply Kd.R_drewN | apply Kd.R_drew)); exact (Kd.R_mono (Kd.R_far (p := ⟨gb374, 0, none⟩) (Kd.R_types HO369.out BK374.out (by decide)) (fun _ hk => hk.2) (.slice Ao55 t371.length co55)) (fun _ h_ => h_.1))) (Kd.R_base ho0) hb); have n2_ := Aside0.mk (Kd.R_below (by (with_reducible repeat (first | apply Kd.R_alloc | apply Kd.R_drewN | apply Kd.R_drew)); exact (Kd.R_mono (Kd.R_far (p := ⟨gb374, 0, none⟩) (Kd.R_types HO373.out BK374.out (by decide)) (fun _ hk => hk.2) (.slice Ao55 t371.length co55)) (fun _ h_ => h_.1))) hb); have n3_ := Aside0.mk (Kd.R_lower (Kd.R_new' ho0 (Kd.R_lt (by (with_reducible repeat (first | apply Kd.R_alloc | apply Kd.R_drewN | apply Kd.R_drew)); exact (Kd.R_mono (Kd.R_far (p := ⟨gb374, 0, none⟩) (Kd.R_types HO369.out BK374.out (by decide)) (fun _ hk => hk.2) (.slice Ao55 t371.length co55)) (fun _ h_ => h_.1))))) (below_size (zb HB.out))); have n4_ := Aside0.mk (blk_below (g := gb362) (o := .cells #[.slice A0_0 l0_0.length c0_0] 24 (0, 0)) (zf BK362.out) hb); have n5_ := Aside0.mk (blk_below (g := gb374) (o := .cells #[.slice Ao55 t371.length co55] 30 (0, 0)) (by (with_reducible repeat (first | refine blk_drewN ?_ _ | refine blk_drew ?_ | refine blk_alloc ?_ _)); refine blk_put (cs := #[.slice none 0 0]) ?_ 0 _ rfl; (with_reducible repeat (first | refine blk_drewN ?_ _ | refine blk_drew ?_ | refine blk_alloc ?_ _)); exact BK374.out) hb); have n6_ := Aside0.mk (below_step (zb HB.out) hb); clear HO366; clear HO369; clear HO373; clear BK362; clear BK374; clear HB; have HO366 := n0_; have HO369 := n1_; have HO373 := n2_; have HO377 := n3_; have BK362 := n4_; have BK374 := n5_; have HB := n6_; clear n0_ n1_ n2_ n3_ n4_ n5_ n6_; (try clear hb); (try clear hb2); (try clear hk); (try clear hi); (try clear ho0); have hcz59_0 : w58.cell? ⟨gb374, 0, none⟩ = some (.slice Ao55 t371.length co55) := (blk_cell BK374.out 0).trans rfl; have hfz59_0 := blk_frozen BK374.out 0; obtain ⟨Ao60, co60, eo60⟩ := Kd.R_slice HO377.out; subst eo60) | ((with_reducible refine gate_callee (f := 33) rfl ?_); refine goesL_ (some 33) rfl rfl Try.func33 (by kernel_rfl) rfl #[.agg #[.slice Ao55 t371.length co55], .slice Ao60 t375.length co60, .int .i64 a2] rfl zl ?_; (with_reducible refine (impl_Derives.calls k _ _ t371 _ _ t375 a2 t378 _ ?side1 ?side2 ?side3 ?side4 A16.out).mono ?_); (case side1 => exact zc (Kd.R_reads' HO373.out).2.2); (case side2 => exact (Kd.R_reads' HO373.out).2.1); (case side3 => exact zc (Kd.R_reads' HO377.out).2.2); (case side4 => exact (Kd.R_reads' HO377.out).2.1); rintro e w61 ⟨rfl, hb⟩; refine ⟨_, rfl, ?_⟩; have n0_ := Aside0.mk (Kd.R_below (zr HO366.out) hb); have n1_ := Aside0.mk (Kd.R_below (zr HO369.out) hb); have n2_ := Aside0.mk (Kd.R_below (zr HO373.out) hb); have n3_ := Aside0.mk (Kd.R_below (zr HO377.out) hb); have n4_ := Aside0.mk (blk_below (zh BK362.out) hb); have n5_ := Aside0.mk (blk_below (zh BK374.out) hb); have n6_ := Aside0.mk (below_step (zb HB.out) hb); clear HO366; clear HO369; clear HO373; clear HO377; clear BK362; clear BK374; clear HB; have HO366 := n0_; have HO369 := n1_; have HO373 := n2_; have HO377 := n3_; have BK362 := n4_; have BK374 := n5_; have HB := n6_; clear n0_ n1_ n2_ n3_ n4_ n5_ n6_; (try clear hb); (try clear hb2); (try clear hk); (try clear hi)))
      have n0_ := Aside0.mk (Kd.R_drew HO366.out)
      have n1_ := Aside0.mk (Kd.R_drew HO369.out)
      have n2_ := Aside0.mk (Kd.R_drew HO373.out)
      have n3_ := Aside0.mk (Kd.R_drew HO377.out)
      have n4_ := Aside0.mk (blk_drew BK362.out)
      have n5_ := Aside0.mk (blk_drew BK374.out)
      have n6_ := Aside0.mk (below_drew1 HB.out)
      clear HO366
      clear HO369
      clear HO373
      clear HO377
      clear BK362
      clear BK374
      clear HB
      have HO366 := n0_
      have HO369 := n1_
      have HO373 := n2_
      have HO377 := n3_
      have BK362 := n4_
      have BK374 := n5_
      have HB := n6_
      clear n0_ n1_ n2_ n3_ n4_ n5_ n6_
      refine start_ (n := 5) (S := fun w' => w'.cell? ⟨gb374, 0, none⟩ = some (.slice Ao55 t371.length co55) ∧ w'.cell? ⟨gb362, 0, none⟩ = some (.slice A0_0 l0_0.length c0_0)) (ds := []) #[false, false, false, false, false] (by kernel_rfl) rfl rfl ⟨(blk_cell BK374.out 0).trans rfl, (blk_cell BK362.out 0).trans rfl⟩ (fun hHeld => ?_)
      generalize w61.drew = w62 at HO366 HO369 HO373 HO377 BK362 BK374 HB hHeld ⊢
      refine take_ (i := 0) (N := some 37) (v := ?_) (a' := ?_) #[true, false, false, false, false] rfl rfl (by kernel_rfl) (fun _ _ _ h => h) (Or.inl ⟨by rfl, ?_⟩) hHeld ?_ ?_
      rotate_left
      ·rintro w' ⟨s0, s1⟩
       go_simp
       with_reducible rfl
      rotate_left
      ·simp only [Act.put, List.setIfInBounds_toArray, List.set_cons_zero, List.set_cons_succ, i64_w, i32_w]
       rfl
      refine take_ (i := 1) (N := some 38) (v := ?_) (a' := ?_) #[true, true, false, false, false] rfl rfl (by kernel_rfl) (fun _ _ _ h => h) (Or.inl ⟨by rfl, ?_⟩) hHeld ?_ ?_
      rotate_left
      ·rintro w' ⟨s0, s1⟩
       go_simp
       with_reducible rfl
      rotate_left
      ·simp only [Act.put, List.setIfInBounds_toArray, List.set_cons_zero, List.set_cons_succ, i64_w, i32_w]
       rfl
      refine one_ (i := 2) (N := some 39) #[true, true, true, false, false] rfl rfl (by kernel_rfl) (by decide) (fun K hK => ?_)
      refine goes_ Try.func11 (by kernel_rfl) rfl #[.agg #[.slice A0_0 l0_0.length c0_0]] (by rfl) rfl rfl zl ?_
      with_reducible refine (laws_toPool.calls k _ _ l0_0 t379 _ ?side1 ?side2 A37.out).mono ?_
      (case side1 => exact zc (Kd.C_below HR0_0.out HB.out))
      (case side2 => exact HC0_0.out)
      rintro e w63 ⟨v380, rfl, ho0, hb⟩
      refine ⟨_, rfl, ?_⟩
      have n0_ := Aside0.mk (Kd.R_elder' (zr HO366.out) (Kd.R_base ho0) hb)
      have n1_ := Aside0.mk (Kd.R_below (zr HO369.out) hb)
      have n2_ := Aside0.mk (Kd.R_elder' (zr HO373.out) (Kd.R_base ho0) hb)
      have n3_ := Aside0.mk (Kd.R_below (zr HO377.out) hb)
      have n4_ := Aside0.mk (Kd.R_lower (Kd.R_new' (Kd.R_new' ho0 (Kd.R_lt (zr HO366.out))) (Kd.R_lt (zr HO373.out))) (below_size (zb HB.out)))
      have n5_ := Aside0.mk (blk_below (zh BK362.out) hb)
      have n6_ := Aside0.mk (blk_below (zh BK374.out) hb)
      have n7_ := Aside0.mk (below_step (zb HB.out) hb)
      clear HO366
      clear HO369
      clear HO373
      clear HO377
      clear BK362
      clear BK374
      clear HB
      have HO366 := n0_
      have HO369 := n1_
      have HO373 := n2_
      have HO377 := n3_
      have HO381 := n4_
      have BK362 := n5_
      have BK374 := n6_
      have HB := n7_
      clear n0_ n1_ n2_ n3_ n4_ n5_ n6_ n7_
      (try clear hb)
      (try clear hb2)
      (try clear hk)
      (try clear hi)
      (try clear ho0)
      obtain ⟨Ao64, co64, eo64⟩ := Kd.R_slice HO381.out
      (first | subst eo64 | (injection eo64 with f1_ f2_ f3_; have f4_ := f1_.symm; have f5_ := f3_.symm; clear f1_ f2_ f3_; subst f4_; subst f5_))
      refine hK.out _ _ ⟨(blk_cell BK374.out 0).trans rfl, (blk_cell BK362.out 0).trans rfl⟩ (fun hHeld => ?_)
      clear hK K
      refine norm_ (a' := ?_) ?_ ?_
      rotate_left
      ·show Act.put _ (some 39) _ = _
       simp only [Act.put, List.setIfInBounds_toArray, List.set_cons_zero, List.set_cons_succ, i64_w, i32_w]
       rfl
      refine one_ (i := 3) (N := some 40) #[true, true, true, true, false] rfl rfl (by kernel_rfl) (by decide) (fun K hK => ?_)
      refine goes_ Try.func14 (by kernel_rfl) rfl #[.agg #[.slice Ao55 t371.length co55], .agg #[.slice Ao64 t379.length co64]] (by rfl) rfl rfl zl ?_
      with_reducible refine (laws_eqPool.calls k _ _ t371 _ _ t379 true _ ?side1 ?side2 ?side3 ?side4 A38.out).mono ?_
      (case side1 => exact zc (Kd.R_reads' HO373.out).2.2)
      (case side2 => exact (Kd.R_reads' HO373.out).2.1)
      (case side3 => exact zc (Kd.R_reads' HO381.out).2.2)
      (case side4 => exact (Kd.R_reads' HO381.out).2.1)
      rintro e w65 ⟨rfl, hb⟩
      refine ⟨_, rfl, ?_⟩
      have n0_ := Aside0.mk (Kd.R_below (zr HO366.out) hb)
      have n1_ := Aside0.mk (Kd.R_below (zr HO369.out) hb)
      have n2_ := Aside0.mk (Kd.R_below (zr HO373.out) hb)
      have n3_ := Aside0.mk (Kd.R_below (zr HO377.out) hb)
      have n4_ := Aside0.mk (Kd.R_below (zr HO381.out) hb)
      have n5_ := Aside0.mk (blk_below (zh BK362.out) hb)
      have n6_ := Aside0.mk (blk_below (zh BK374.out) hb)
      have n7_ := Aside0.mk (below_step (zb HB.out) hb)
      clear HO366
      clear HO369
      clear HO373
      clear HO377
      clear HO381
      clear BK362
      clear BK374
      clear HB
      have HO366 := n0_
      have HO369 := n1_
      have HO373 := n2_
      have HO377 := n3_
      have HO381 := n4_
      have BK362 := n5_
      have BK374 := n6_
      have HB := n7_
      clear n0_ n1_ n2_ n3_ n4_ n5_ n6_ n7_
      (try clear hb)
      (try clear hb2)
      (try clear hk)
      (try clear hi)
      refine hK.out _ _ ⟨(blk_cell BK374.out 0).trans rfl, (blk_cell BK362.out 0).trans rfl⟩ (fun hHeld => ?_)
      clear hK K
      refine norm_ (a' := ?_) ?_ ?_
      rotate_left
      ·show Act.put _ (some 40) _ = _
       simp only [Act.put, List.setIfInBounds_toArray, List.set_cons_zero, List.set_cons_succ, i64_w, i32_w]
       rfl
      refine pure_ (i := 4) (N := some 41) (v := ?_) (a' := ?_) #[true, true, true, true, true] rfl rfl (by kernel_rfl) (fun _ _ _ h => h) (Or.inl ⟨by rfl, ?_⟩) ?_ ?_
      rotate_left
      ·intro w'
       go_simp
       with_reducible rfl
      rotate_left
      ·simp only [Act.put, List.setIfInBounds_toArray, List.set_cons_zero, List.set_cons_succ, i64_w, i32_w]
       rfl
      refine done_ (by kernel_rfl) ?_
      try go_wp2_with (first | ((with_reducible refine gate_callee (f := 28) rfl ?_); refine goesL_ (some 44) rfl rfl Try.func28 (by kernel_rfl) rfl #[.slice A1 l1.length c1] rfl zl ?_; (with_reducible refine (laws_toIntS.calls k _ _ l1 t383 _ ?side1 ?side2 A40.out).mono ?_); (case side1 => exact zc (Kd.C_below HR1.out HB.out)); (case side2 => exact HC1.out); rintro e w66 ⟨v384, rfl, ho0, hb⟩; refine ⟨_, rfl, ?_⟩; have n0_ := Aside0.mk (Kd.R_below (zr HO366.out) hb); have n1_ := Aside0.mk (Kd.R_elder' (zr HO369.out) (Kd.R_base ho0) hb); have n2_ := Aside0.mk (Kd.R_below (zr HO373.out) hb); have n3_ := Aside0.mk (Kd.R_elder' (zr HO377.out) (Kd.R_base ho0) hb); have n4_ := Aside0.mk (Kd.R_below (zr HO381.out) hb); have n5_ := Aside0.mk (Kd.R_lower (Kd.R_new' (Kd.R_new' ho0 (Kd.R_lt (zr HO369.out))) (Kd.R_lt (zr HO377.out))) (below_size (zb HB.out))); have n6_ := Aside0.mk (blk_below (zh BK362.out) hb); have n7_ := Aside0.mk (blk_below (zh BK374.out) hb); have n8_ := Aside0.mk (below_step (zb HB.out) hb); clear HO366; clear HO369; clear HO373; clear HO377; clear HO381; clear BK362; clear BK374; clear HB; have HO366 := n0_; have HO369 := n1_; have HO373 := n2_; have HO377 := n3_; have HO381 := n4_; have HO385 := n5_; have BK362 := n6_; have BK374 := n7_; have HB := n8_; clear n0_ n1_ n2_ n3_ n4_ n5_ n6_ n7_ n8_; (try clear hb); (try clear hb2); (try clear hk); (try clear hi); (try clear ho0); obtain ⟨Ao67, co67, eo67⟩ := Kd.R_slice HO385.out; subst eo67) | ((with_reducible refine gate_callee (f := 13) rfl ?_); refine goesL_ (some 45) rfl rfl Try.func13 (by kernel_rfl) rfl #[.slice Ao60 t375.length co60, .slice Ao67 t383.length co67] rfl zl ?_; (with_reducible refine (laws_eqIntS.calls k _ _ t375 _ _ t383 true _ ?side1 ?side2 ?side3 ?side4 A41.out).mono ?_); (case side1 => exact zc (Kd.R_reads' HO377.out).2.2); (case side2 => exact (Kd.R_reads' HO377.out).2.1); (case side3 => exact zc (Kd.R_reads' HO385.out).2.2); (case side4 => exact (Kd.R_reads' HO385.out).2.1); rintro e w' ⟨rfl, ⟨nd, rfl⟩⟩; refine ⟨_, rfl, ?_⟩))
      go_ret
      exact ⟨ze, zb HB.out⟩
     ·replace c42 := Bool.eq_false_iff.mpr c42
      subst c42
      have H1 : (some false) = some r := by rw [if_neg (show ¬ (false = true) by decide)] at H; exact H
      clear H
      have H := H1
      clear H1
      obtain rfl := Option.some.inj H
      go_enter Try.func8, Try.ntmps8
      try go_wp2_with (first | ((with_reducible refine gate_dst (N := 3) rfl ?_); refine box_event ?hg (N := 3) ?hd (cs := #[.slice A0_0 l0_0.length c0_0]) (t := 24) ?hr ?_; (case hd => rfl); (case hg => rfl); (case hr => first | (go_simp; done) | (go_simp; rfl)); intro gb362 hg w68 hbox hb; have n0_ := Aside0.mk (below_step (zb HB.out) hb); have n1_ := Aside0.mk (hbox); have n2_ := Aside0.mk ((by rw [hg]; exact (below_size (zb HB.out)) : w.heap.size ≤ gb362)); have n3_ := Aside0.mk ((by rw [hg]; exact (below_size (zb HB.out)) : w.heap.size ≤ gb362)); clear HB; have HB := n0_; have BK362 := n1_; have GW362 := n2_; have GE362 := n3_; clear n0_ n1_ n2_ n3_; clear hb hbox hg; have hcz69_0 : w68.cell? ⟨gb362, 0, none⟩ = some (.slice A0_0 l0_0.length c0_0) := (blk_cell BK362.out 0).trans rfl; have hfz69_0 := blk_frozen BK362.out 0) | ((with_reducible refine gate_callee (f := 9) rfl ?_); refine goesL_ (some 17) rfl rfl Try.func9 (by kernel_rfl) rfl #[.agg #[.slice A0_0 l0_0.length c0_0], .int .i64 1048576] rfl zl ?_; (with_reducible refine (laws_szPool.calls _ _ l0_0 1048576 t363 _ ?side1 ?side2 A6.out).mono ?_); (case side1 => exact zc (Kd.C_below HR0_0.out HB.out)); (case side2 => exact HC0_0.out); rintro e w70 ⟨rfl, hb⟩; refine ⟨_, rfl, ?_⟩; have n0_ := Aside0.mk (blk_below (zh BK362.out) hb); have n1_ := Aside0.mk (below_step (zb HB.out) hb); clear BK362; clear HB; have BK362 := n0_; have HB := n1_; clear n0_ n1_; (try clear hb); (try clear hb2); (try clear hk); (try clear hi); have hcz71_0 : w70.cell? ⟨gb362, 0, none⟩ = some (.slice A0_0 l0_0.length c0_0) := (blk_cell BK362.out 0).trans rfl; have hfz71_0 := blk_frozen BK362.out 0) | ((with_reducible refine gate_callee (f := 11) rfl ?_); refine goesL_ (some 21) rfl rfl Try.func11 (by kernel_rfl) rfl #[.agg #[.slice A0_0 l0_0.length c0_0]] rfl zl ?_; (with_reducible refine (laws_toPool.calls k _ _ l0_0 t364 _ ?side1 ?side2 A11.out).mono ?_); (case side1 => exact zc (Kd.C_below HR0_0.out HB.out)); (case side2 => exact HC0_0.out); rintro e w72 ⟨v365, rfl, ho0, hb⟩; refine ⟨_, rfl, ?_⟩; have n0_ := Aside0.mk (Kd.R_lower ho0 (below_size (zb HB.out))); have n1_ := Aside0.mk (blk_below (zh BK362.out) hb); have n2_ := Aside0.mk (below_step (zb HB.out) hb); clear BK362; clear HB; have HO366 := n0_; have BK362 := n1_; have HB := n2_; clear n0_ n1_ n2_; (try clear hb); (try clear hb2); (try clear hk); (try clear hi); (try clear ho0)) | ((with_reducible refine gate_callee (f := 28) rfl ?_); refine goesL_ (some 23) rfl rfl Try.func28 (by kernel_rfl) rfl #[.slice A1 l1.length c1] rfl zl ?_; (with_reducible refine (laws_toIntS.calls k _ _ l1 t367 _ ?side1 ?side2 A12.out).mono ?_); (case side1 => exact zc (Kd.C_below HR1.out HB.out)); (case side2 => exact HC1.out); rintro e w73 ⟨v368, rfl, ho0, hb⟩; refine ⟨_, rfl, ?_⟩; have n0_ := Aside0.mk (Kd.R_below (zr HO366.out) hb); have n1_ := Aside0.mk (Kd.R_lower ho0 (below_size (zb HB.out))); have n2_ := Aside0.mk (blk_below (zh BK362.out) hb); have n3_ := Aside0.mk (below_step (zb HB.out) hb); clear HO366; clear BK362; clear HB; have HO366 := n0_; have HO369 := n1_; have BK362 := n2_; have HB := n3_; clear n0_ n1_ n2_ n3_; (try clear hb); (try clear hb2); (try clear hk); (try clear hi); (try clear ho0); obtain ⟨Ao74, co74, eo74⟩ := Kd.R_slice HO366.out; subst eo74; obtain ⟨Ao75, co75, eo75⟩ := Kd.R_slice HO369.out; subst eo75) | ((with_reducible refine gate_callee (f := 32) rfl ?_); refine goesL_ (some 25) rfl rfl Try.func32 (by kernel_rfl) rfl #[.agg #[.slice Ao74 t364.length co74], .slice Ao75 t367.length co75, .int .i64 a2] rfl zl ?_; (with_reducible refine (spec_Derives.calls k _ _ t364 _ _ t367 a2 t370 _ ?side1 ?side2 ?side3 ?side4 A13.out).mono ?_); (case side1 => exact zc (Kd.R_reads' HO366.out).2.2); (case side2 => exact (Kd.R_reads' HO366.out).2.1); (case side3 => exact zc (Kd.R_reads' HO369.out).2.2); (case side4 => exact (Kd.R_reads' HO369.out).2.1); rintro e w76 ⟨rfl, hb⟩; refine ⟨_, rfl, ?_⟩; have n0_ := Aside0.mk (Kd.R_below (zr HO366.out) hb); have n1_ := Aside0.mk (Kd.R_below (zr HO369.out) hb); have n2_ := Aside0.mk (blk_below (zh BK362.out) hb); have n3_ := Aside0.mk (below_step (zb HB.out) hb); clear HO366; clear HO369; clear BK362; clear HB; have HO366 := n0_; have HO369 := n1_; have BK362 := n2_; have HB := n3_; clear n0_ n1_ n2_ n3_; (try clear hb); (try clear hb2); (try clear hk); (try clear hi); have hcz77_0 : w76.cell? ⟨gb362, 0, none⟩ = some (.slice A0_0 l0_0.length c0_0) := (blk_cell BK362.out 0).trans rfl; have hfz77_0 := blk_frozen BK362.out 0) | ((with_reducible refine gate_callee (f := 11) rfl ?_); refine goesL_ (some 27) rfl rfl Try.func11 (by kernel_rfl) rfl #[.agg #[.slice A0_0 l0_0.length c0_0]] rfl zl ?_; (with_reducible refine (laws_toPool.calls k _ _ l0_0 t371 _ ?side1 ?side2 A14.out).mono ?_); (case side1 => exact zc (Kd.C_below HR0_0.out HB.out)); (case side2 => exact HC0_0.out); rintro e w78 ⟨v372, rfl, ho0, hb⟩; refine ⟨_, rfl, ?_⟩; have n0_ := Aside0.mk (Kd.R_elder' (zr HO366.out) (Kd.R_base ho0) hb); have n1_ := Aside0.mk (Kd.R_below (zr HO369.out) hb); have n2_ := Aside0.mk (Kd.R_lower (Kd.R_new' ho0 (Kd.R_lt (zr HO366.out))) (below_size (zb HB.out))); have n3_ := Aside0.mk (blk_below (zh BK362.out) hb); have n4_ := Aside0.mk (below_step (zb HB.out) hb); clear HO366; clear HO369; clear BK362; clear HB; have HO366 := n0_; have HO369 := n1_; have HO373 := n2_; have BK362 := n3_; have HB := n4_; clear n0_ n1_ n2_ n3_ n4_; (try clear hb); (try clear hb2); (try clear hk); (try clear hi); (try clear ho0)) | ((with_reducible refine gate_dst (N := 9) rfl ?_); refine box_event ?hg (N := 9) ?hd (cs := #[.slice none 0 0]) (t := 30) ?hr ?_; (case hd => rfl); (case hg => rfl); (case hr => first | (go_simp; done) | (go_simp; rfl)); intro gb374 hg w79 hbox hb; have n0_ := Aside0.mk (Kd.R_below (zr HO366.out) hb); have n1_ := Aside0.mk (Kd.R_below (zr HO369.out) hb); have n2_ := Aside0.mk (Kd.R_below (zr HO373.out) hb); have n3_ := Aside0.mk (blk_below (zh BK362.out) hb); have n4_ := Aside0.mk (below_step (zb HB.out) hb); have n5_ := Aside0.mk (hbox); have n6_ := Aside0.mk ((by rw [hg]; exact (below_size (zb HB.out)) : w.heap.size ≤ gb374)); have n7_ := Aside0.mk ((by rw [hg]; exact (below_size (zb HB.out)) : w.heap.size ≤ gb374)); have n8_ := Aside0.mk ((by rw [hg]; exact Nat.ne_of_lt (blk_lt (zh BK362.out)) : gb362 ≠ gb374)); have n9_ := Aside0.mk ((by rw [hg]; exact Nat.ne_of_gt (blk_lt (zh BK362.out)) : gb374 ≠ gb362)); clear HO366; clear HO369; clear HO373; clear BK362; clear HB; have HO366 := n0_; have HO369 := n1_; have HO373 := n2_; have BK362 := n3_; have HB := n4_; have BK374 := n5_; have GW374 := n6_; have GE374 := n7_; have NB362_374 := n8_; have NB374_362 := n9_; clear n0_ n1_ n2_ n3_ n4_ n5_ n6_ n7_ n8_ n9_; clear hb hbox hg; obtain ⟨Ao80, co80, eo80⟩ := Kd.R_slice HO373.out; subst eo80; have hnb81 := NB374_362.out; have hnc81 := NB362_374.out; have hcz82_0 : w79.cell? ⟨gb374, 0, none⟩ = some (.slice none 0 0) := (blk_cell BK374.out 0).trans rfl; have hfz82_0 := blk_frozen BK374.out 0) | ((with_reducible refine gate_callee (f := 28) rfl ?_); refine goesL_ (some 29) rfl rfl Try.func28 (by kernel_rfl) rfl #[.slice A1 l1.length c1] rfl zl ?_; (with_reducible refine (laws_toIntS.calls k _ _ l1 t375 _ ?side1 ?side2 A15.out).mono ?_); (case side1 => exact Kd.C_below HR1.out (zb HB.out)); (case side2 => exact HC1.out); rintro e w83 ⟨v376, rfl, ho0, hb⟩; refine ⟨_, rfl, ?_⟩; have n0_ := Aside0.mk (Kd.R_below (by (with_reducible repeat (first | apply Kd.R_alloc | apply Kd.R_drewN | apply Kd.R_drew)); exact (Kd.R_mono (Kd.R_far (p := ⟨gb374, 0, none⟩) (Kd.R_types HO366.out BK374.out (by decide)) (fun _ hk => hk.2) (.slice Ao80 t371.length co80)) (fun _ h_ => h_.1))) hb); have n1_ := Aside0.mk (Kd.R_elder' (by (with_reducible repeat (first | apply Kd.R_alloc | apply Kd.R_drewN | apply Kd.R_drew)); exact (Kd.R_mono (Kd.R_far (p := ⟨gb374, 0, none⟩) (Kd.R_types HO369.out BK374.out (by decide)) (fun _ hk => hk.2) (.slice Ao80 t371.length co80)) (fun _ h_ => h_.1))) (Kd.R_base ho0) hb); have n2_ := Aside0.mk (Kd.R_below (by (with_reducible repeat (first | apply Kd.R_alloc | apply Kd.R_drewN | apply Kd.R_drew)); exact (Kd.R_mono (Kd.R_far (p := ⟨gb374, 0, none⟩) (Kd.R_types HO373.out BK374.out (by decide)) (fun _ hk => hk.2) (.slice Ao80 t371.length co80)) (fun _ h_ => h_.1))) hb); have n3_ := Aside0.mk (Kd.R_lower (Kd.R_new' ho0 (Kd.R_lt (by (with_reducible repeat (first | apply Kd.R_alloc | apply Kd.R_drewN | apply Kd.R_drew)); exact (Kd.R_mono (Kd.R_far (p := ⟨gb374, 0, none⟩) (Kd.R_types HO369.out BK374.out (by decide)) (fun _ hk => hk.2) (.slice Ao80 t371.length co80)) (fun _ h_ => h_.1))))) (below_size (zb HB.out))); have n4_ := Aside0.mk (blk_below (g := gb362) (o := .cells #[.slice A0_0 l0_0.length c0_0] 24 (0, 0)) (zf BK362.out) hb); have n5_ := Aside0.mk (blk_below (g := gb374) (o := .cells #[.slice Ao80 t371.length co80] 30 (0, 0)) (by (with_reducible repeat (first | refine blk_drewN ?_ _ | refine blk_drew ?_ | refine blk_alloc ?_ _)); refine blk_put (cs := #[.slice none 0 0]) ?_ 0 _ rfl; (with_reducible repeat (first | refine blk_drewN ?_ _ | refine blk_drew ?_ | refine blk_alloc ?_ _)); exact BK374.out) hb); have n6_ := Aside0.mk (below_step (zb HB.out) hb); clear HO366; clear HO369; clear HO373; clear BK362; clear BK374; clear HB; have HO366 := n0_; have HO369 := n1_; have HO373 := n2_; have HO377 := n3_; have BK362 := n4_; have BK374 := n5_; have HB := n6_; clear n0_ n1_ n2_ n3_ n4_ n5_ n6_; (try clear hb); (try clear hb2); (try clear hk); (try clear hi); (try clear ho0); have hcz84_0 : w83.cell? ⟨gb374, 0, none⟩ = some (.slice Ao80 t371.length co80) := (blk_cell BK374.out 0).trans rfl; have hfz84_0 := blk_frozen BK374.out 0; obtain ⟨Ao85, co85, eo85⟩ := Kd.R_slice HO377.out; subst eo85) | ((with_reducible refine gate_callee (f := 33) rfl ?_); refine goesL_ (some 33) rfl rfl Try.func33 (by kernel_rfl) rfl #[.agg #[.slice Ao80 t371.length co80], .slice Ao85 t375.length co85, .int .i64 a2] rfl zl ?_; (with_reducible refine (impl_Derives.calls k _ _ t371 _ _ t375 a2 t378 _ ?side1 ?side2 ?side3 ?side4 A16.out).mono ?_); (case side1 => exact zc (Kd.R_reads' HO373.out).2.2); (case side2 => exact (Kd.R_reads' HO373.out).2.1); (case side3 => exact zc (Kd.R_reads' HO377.out).2.2); (case side4 => exact (Kd.R_reads' HO377.out).2.1); rintro e w86 ⟨rfl, hb⟩; refine ⟨_, rfl, ?_⟩; have n0_ := Aside0.mk (Kd.R_below (zr HO366.out) hb); have n1_ := Aside0.mk (Kd.R_below (zr HO369.out) hb); have n2_ := Aside0.mk (Kd.R_below (zr HO373.out) hb); have n3_ := Aside0.mk (Kd.R_below (zr HO377.out) hb); have n4_ := Aside0.mk (blk_below (zh BK362.out) hb); have n5_ := Aside0.mk (blk_below (zh BK374.out) hb); have n6_ := Aside0.mk (below_step (zb HB.out) hb); clear HO366; clear HO369; clear HO373; clear HO377; clear BK362; clear BK374; clear HB; have HO366 := n0_; have HO369 := n1_; have HO373 := n2_; have HO377 := n3_; have BK362 := n4_; have BK374 := n5_; have HB := n6_; clear n0_ n1_ n2_ n3_ n4_ n5_ n6_; (try clear hb); (try clear hb2); (try clear hk); (try clear hi)))
      have n0_ := Aside0.mk (Kd.R_drew HO366.out)
      have n1_ := Aside0.mk (Kd.R_drew HO369.out)
      have n2_ := Aside0.mk (Kd.R_drew HO373.out)
      have n3_ := Aside0.mk (Kd.R_drew HO377.out)
      have n4_ := Aside0.mk (blk_drew BK362.out)
      have n5_ := Aside0.mk (blk_drew BK374.out)
      have n6_ := Aside0.mk (below_drew1 HB.out)
      clear HO366
      clear HO369
      clear HO373
      clear HO377
      clear BK362
      clear BK374
      clear HB
      have HO366 := n0_
      have HO369 := n1_
      have HO373 := n2_
      have HO377 := n3_
      have BK362 := n4_
      have BK374 := n5_
      have HB := n6_
      clear n0_ n1_ n2_ n3_ n4_ n5_ n6_
      refine start_ (n := 5) (S := fun w' => w'.cell? ⟨gb374, 0, none⟩ = some (.slice Ao80 t371.length co80) ∧ w'.cell? ⟨gb362, 0, none⟩ = some (.slice A0_0 l0_0.length c0_0)) (ds := []) #[false, false, false, false, false] (by kernel_rfl) rfl rfl ⟨(blk_cell BK374.out 0).trans rfl, (blk_cell BK362.out 0).trans rfl⟩ (fun hHeld => ?_)
      generalize w86.drew = w87 at HO366 HO369 HO373 HO377 BK362 BK374 HB hHeld ⊢
      refine take_ (i := 0) (N := some 37) (v := ?_) (a' := ?_) #[true, false, false, false, false] rfl rfl (by kernel_rfl) (fun _ _ _ h => h) (Or.inl ⟨by rfl, ?_⟩) hHeld ?_ ?_
      rotate_left
      ·rintro w' ⟨s0, s1⟩
       go_simp
       with_reducible rfl
      rotate_left
      ·simp only [Act.put, List.setIfInBounds_toArray, List.set_cons_zero, List.set_cons_succ, i64_w, i32_w]
       rfl
      refine take_ (i := 1) (N := some 38) (v := ?_) (a' := ?_) #[true, true, false, false, false] rfl rfl (by kernel_rfl) (fun _ _ _ h => h) (Or.inl ⟨by rfl, ?_⟩) hHeld ?_ ?_
      rotate_left
      ·rintro w' ⟨s0, s1⟩
       go_simp
       with_reducible rfl
      rotate_left
      ·simp only [Act.put, List.setIfInBounds_toArray, List.set_cons_zero, List.set_cons_succ, i64_w, i32_w]
       rfl
      refine one_ (i := 2) (N := some 39) #[true, true, true, false, false] rfl rfl (by kernel_rfl) (by decide) (fun K hK => ?_)
      refine goes_ Try.func11 (by kernel_rfl) rfl #[.agg #[.slice A0_0 l0_0.length c0_0]] (by rfl) rfl rfl zl ?_
      with_reducible refine (laws_toPool.calls k _ _ l0_0 t379 _ ?side1 ?side2 A37.out).mono ?_
      (case side1 => exact zc (Kd.C_below HR0_0.out HB.out))
      (case side2 => exact HC0_0.out)
      rintro e w88 ⟨v380, rfl, ho0, hb⟩
      refine ⟨_, rfl, ?_⟩
      have n0_ := Aside0.mk (Kd.R_elder' (zr HO366.out) (Kd.R_base ho0) hb)
      have n1_ := Aside0.mk (Kd.R_below (zr HO369.out) hb)
      have n2_ := Aside0.mk (Kd.R_elder' (zr HO373.out) (Kd.R_base ho0) hb)
      have n3_ := Aside0.mk (Kd.R_below (zr HO377.out) hb)
      have n4_ := Aside0.mk (Kd.R_lower (Kd.R_new' (Kd.R_new' ho0 (Kd.R_lt (zr HO366.out))) (Kd.R_lt (zr HO373.out))) (below_size (zb HB.out)))
      have n5_ := Aside0.mk (blk_below (zh BK362.out) hb)
      have n6_ := Aside0.mk (blk_below (zh BK374.out) hb)
      have n7_ := Aside0.mk (below_step (zb HB.out) hb)
      clear HO366
      clear HO369
      clear HO373
      clear HO377
      clear BK362
      clear BK374
      clear HB
      have HO366 := n0_
      have HO369 := n1_
      have HO373 := n2_
      have HO377 := n3_
      have HO381 := n4_
      have BK362 := n5_
      have BK374 := n6_
      have HB := n7_
      clear n0_ n1_ n2_ n3_ n4_ n5_ n6_ n7_
      (try clear hb)
      (try clear hb2)
      (try clear hk)
      (try clear hi)
      (try clear ho0)
      obtain ⟨Ao89, co89, eo89⟩ := Kd.R_slice HO381.out
      (first | subst eo89 | (injection eo89 with f1_ f2_ f3_; have f4_ := f1_.symm; have f5_ := f3_.symm; clear f1_ f2_ f3_; subst f4_; subst f5_))
      refine hK.out _ _ ⟨(blk_cell BK374.out 0).trans rfl, (blk_cell BK362.out 0).trans rfl⟩ (fun hHeld => ?_)
      clear hK K
      refine norm_ (a' := ?_) ?_ ?_
      rotate_left
      ·show Act.put _ (some 39) _ = _
       simp only [Act.put, List.setIfInBounds_toArray, List.set_cons_zero, List.set_cons_succ, i64_w, i32_w]
       rfl
      refine one_ (i := 3) (N := some 40) #[true, true, true, true, false] rfl rfl (by kernel_rfl) (by decide) (fun K hK => ?_)
      refine goes_ Try.func14 (by kernel_rfl) rfl #[.agg #[.slice Ao80 t371.length co80], .agg #[.slice Ao89 t379.length co89]] (by rfl) rfl rfl zl ?_
      with_reducible refine (laws_eqPool.calls k _ _ t371 _ _ t379 true _ ?side1 ?side2 ?side3 ?side4 A38.out).mono ?_
      (case side1 => exact zc (Kd.R_reads' HO373.out).2.2)
      (case side2 => exact (Kd.R_reads' HO373.out).2.1)
      (case side3 => exact zc (Kd.R_reads' HO381.out).2.2)
      (case side4 => exact (Kd.R_reads' HO381.out).2.1)
      rintro e w90 ⟨rfl, hb⟩
      refine ⟨_, rfl, ?_⟩
      have n0_ := Aside0.mk (Kd.R_below (zr HO366.out) hb)
      have n1_ := Aside0.mk (Kd.R_below (zr HO369.out) hb)
      have n2_ := Aside0.mk (Kd.R_below (zr HO373.out) hb)
      have n3_ := Aside0.mk (Kd.R_below (zr HO377.out) hb)
      have n4_ := Aside0.mk (Kd.R_below (zr HO381.out) hb)
      have n5_ := Aside0.mk (blk_below (zh BK362.out) hb)
      have n6_ := Aside0.mk (blk_below (zh BK374.out) hb)
      have n7_ := Aside0.mk (below_step (zb HB.out) hb)
      clear HO366
      clear HO369
      clear HO373
      clear HO377
      clear HO381
      clear BK362
      clear BK374
      clear HB
      have HO366 := n0_
      have HO369 := n1_
      have HO373 := n2_
      have HO377 := n3_
      have HO381 := n4_
      have BK362 := n5_
      have BK374 := n6_
      have HB := n7_
      clear n0_ n1_ n2_ n3_ n4_ n5_ n6_ n7_
      (try clear hb)
      (try clear hb2)
      (try clear hk)
      (try clear hi)
      refine hK.out _ _ ⟨(blk_cell BK374.out 0).trans rfl, (blk_cell BK362.out 0).trans rfl⟩ (fun hHeld => ?_)
      clear hK K
      refine norm_ (a' := ?_) ?_ ?_
      rotate_left
      ·show Act.put _ (some 40) _ = _
       simp only [Act.put, List.setIfInBounds_toArray, List.set_cons_zero, List.set_cons_succ, i64_w, i32_w]
       rfl
      refine pure_ (i := 4) (N := some 41) (v := ?_) (a' := ?_) #[true, true, true, true, true] rfl rfl (by kernel_rfl) (fun _ _ _ h => h) (Or.inl ⟨by rfl, ?_⟩) ?_ ?_
      rotate_left
      ·intro w'
       go_simp
       with_reducible rfl
      rotate_left
      ·simp only [Act.put, List.setIfInBounds_toArray, List.set_cons_zero, List.set_cons_succ, i64_w, i32_w]
       rfl
      refine done_ (by kernel_rfl) ?_
      try go_wp2_with (first | ((with_reducible refine gate_callee (f := 28) rfl ?_); refine goesL_ (some 44) rfl rfl Try.func28 (by kernel_rfl) rfl #[.slice A1 l1.length c1] rfl zl ?_; (with_reducible refine (laws_toIntS.calls k _ _ l1 t383 _ ?side1 ?side2 A40.out).mono ?_); (case side1 => exact zc (Kd.C_below HR1.out HB.out)); (case side2 => exact HC1.out); rintro e w91 ⟨v384, rfl, ho0, hb⟩; refine ⟨_, rfl, ?_⟩; have n0_ := Aside0.mk (Kd.R_below (zr HO366.out) hb); have n1_ := Aside0.mk (Kd.R_elder' (zr HO369.out) (Kd.R_base ho0) hb); have n2_ := Aside0.mk (Kd.R_below (zr HO373.out) hb); have n3_ := Aside0.mk (Kd.R_elder' (zr HO377.out) (Kd.R_base ho0) hb); have n4_ := Aside0.mk (Kd.R_below (zr HO381.out) hb); have n5_ := Aside0.mk (Kd.R_lower (Kd.R_new' (Kd.R_new' ho0 (Kd.R_lt (zr HO369.out))) (Kd.R_lt (zr HO377.out))) (below_size (zb HB.out))); have n6_ := Aside0.mk (blk_below (zh BK362.out) hb); have n7_ := Aside0.mk (blk_below (zh BK374.out) hb); have n8_ := Aside0.mk (below_step (zb HB.out) hb); clear HO366; clear HO369; clear HO373; clear HO377; clear HO381; clear BK362; clear BK374; clear HB; have HO366 := n0_; have HO369 := n1_; have HO373 := n2_; have HO377 := n3_; have HO381 := n4_; have HO385 := n5_; have BK362 := n6_; have BK374 := n7_; have HB := n8_; clear n0_ n1_ n2_ n3_ n4_ n5_ n6_ n7_ n8_; (try clear hb); (try clear hb2); (try clear hk); (try clear hi); (try clear ho0); obtain ⟨Ao92, co92, eo92⟩ := Kd.R_slice HO385.out; subst eo92) | ((with_reducible refine gate_callee (f := 13) rfl ?_); refine goesL_ (some 45) rfl rfl Try.func13 (by kernel_rfl) rfl #[.slice Ao85 t375.length co85, .slice Ao92 t383.length co92] rfl zl ?_; (with_reducible refine (laws_eqIntS.calls k _ _ t375 _ _ t383 false _ ?side1 ?side2 ?side3 ?side4 A41.out).mono ?_); (case side1 => exact zc (Kd.R_reads' HO377.out).2.2); (case side2 => exact (Kd.R_reads' HO377.out).2.1); (case side3 => exact zc (Kd.R_reads' HO385.out).2.2); (case side4 => exact (Kd.R_reads' HO385.out).2.1); rintro e w' ⟨rfl, ⟨nd, rfl⟩⟩; refine ⟨_, rfl, ?_⟩))
      go_ret
      exact ⟨ze, zb HB.out⟩
    ·replace c39 := Bool.eq_false_iff.mpr c39
     subst c39
     have H1 : (some false) = some r := by rw [if_neg (show ¬ (false = true) by decide)] at H; exact H
     clear H
     have H := H1
     clear H1
     obtain rfl := Option.some.inj H
     go_enter Try.func8, Try.ntmps8
     try go_wp2_with (first | ((with_reducible refine gate_dst (N := 3) rfl ?_); refine box_event ?hg (N := 3) ?hd (cs := #[.slice A0_0 l0_0.length c0_0]) (t := 24) ?hr ?_; (case hd => rfl); (case hg => rfl); (case hr => first | (go_simp; done) | (go_simp; rfl)); intro gb362 hg w93 hbox hb; have n0_ := Aside0.mk (below_step (zb HB.out) hb); have n1_ := Aside0.mk (hbox); have n2_ := Aside0.mk ((by rw [hg]; exact (below_size (zb HB.out)) : w.heap.size ≤ gb362)); have n3_ := Aside0.mk ((by rw [hg]; exact (below_size (zb HB.out)) : w.heap.size ≤ gb362)); clear HB; have HB := n0_; have BK362 := n1_; have GW362 := n2_; have GE362 := n3_; clear n0_ n1_ n2_ n3_; clear hb hbox hg; have hcz94_0 : w93.cell? ⟨gb362, 0, none⟩ = some (.slice A0_0 l0_0.length c0_0) := (blk_cell BK362.out 0).trans rfl; have hfz94_0 := blk_frozen BK362.out 0) | ((with_reducible refine gate_callee (f := 9) rfl ?_); refine goesL_ (some 17) rfl rfl Try.func9 (by kernel_rfl) rfl #[.agg #[.slice A0_0 l0_0.length c0_0], .int .i64 1048576] rfl zl ?_; (with_reducible refine (laws_szPool.calls _ _ l0_0 1048576 t363 _ ?side1 ?side2 A6.out).mono ?_); (case side1 => exact zc (Kd.C_below HR0_0.out HB.out)); (case side2 => exact HC0_0.out); rintro e w95 ⟨rfl, hb⟩; refine ⟨_, rfl, ?_⟩; have n0_ := Aside0.mk (blk_below (zh BK362.out) hb); have n1_ := Aside0.mk (below_step (zb HB.out) hb); clear BK362; clear HB; have BK362 := n0_; have HB := n1_; clear n0_ n1_; (try clear hb); (try clear hb2); (try clear hk); (try clear hi); have hcz96_0 : w95.cell? ⟨gb362, 0, none⟩ = some (.slice A0_0 l0_0.length c0_0) := (blk_cell BK362.out 0).trans rfl; have hfz96_0 := blk_frozen BK362.out 0) | ((with_reducible refine gate_callee (f := 11) rfl ?_); refine goesL_ (some 21) rfl rfl Try.func11 (by kernel_rfl) rfl #[.agg #[.slice A0_0 l0_0.length c0_0]] rfl zl ?_; (with_reducible refine (laws_toPool.calls k _ _ l0_0 t364 _ ?side1 ?side2 A11.out).mono ?_); (case side1 => exact zc (Kd.C_below HR0_0.out HB.out)); (case side2 => exact HC0_0.out); rintro e w97 ⟨v365, rfl, ho0, hb⟩; refine ⟨_, rfl, ?_⟩; have n0_ := Aside0.mk (Kd.R_lower ho0 (below_size (zb HB.out))); have n1_ := Aside0.mk (blk_below (zh BK362.out) hb); have n2_ := Aside0.mk (below_step (zb HB.out) hb); clear BK362; clear HB; have HO366 := n0_; have BK362 := n1_; have HB := n2_; clear n0_ n1_ n2_; (try clear hb); (try clear hb2); (try clear hk); (try clear hi); (try clear ho0)) | ((with_reducible refine gate_callee (f := 28) rfl ?_); refine goesL_ (some 23) rfl rfl Try.func28 (by kernel_rfl) rfl #[.slice A1 l1.length c1] rfl zl ?_; (with_reducible refine (laws_toIntS.calls k _ _ l1 t367 _ ?side1 ?side2 A12.out).mono ?_); (case side1 => exact zc (Kd.C_below HR1.out HB.out)); (case side2 => exact HC1.out); rintro e w98 ⟨v368, rfl, ho0, hb⟩; refine ⟨_, rfl, ?_⟩; have n0_ := Aside0.mk (Kd.R_below (zr HO366.out) hb); have n1_ := Aside0.mk (Kd.R_lower ho0 (below_size (zb HB.out))); have n2_ := Aside0.mk (blk_below (zh BK362.out) hb); have n3_ := Aside0.mk (below_step (zb HB.out) hb); clear HO366; clear BK362; clear HB; have HO366 := n0_; have HO369 := n1_; have BK362 := n2_; have HB := n3_; clear n0_ n1_ n2_ n3_; (try clear hb); (try clear hb2); (try clear hk); (try clear hi); (try clear ho0); obtain ⟨Ao99, co99, eo99⟩ := Kd.R_slice HO366.out; subst eo99; obtain ⟨Ao100, co100, eo100⟩ := Kd.R_slice HO369.out; subst eo100) | ((with_reducible refine gate_callee (f := 32) rfl ?_); refine goesL_ (some 25) rfl rfl Try.func32 (by kernel_rfl) rfl #[.agg #[.slice Ao99 t364.length co99], .slice Ao100 t367.length co100, .int .i64 a2] rfl zl ?_; (with_reducible refine (spec_Derives.calls k _ _ t364 _ _ t367 a2 t370 _ ?side1 ?side2 ?side3 ?side4 A13.out).mono ?_); (case side1 => exact zc (Kd.R_reads' HO366.out).2.2); (case side2 => exact (Kd.R_reads' HO366.out).2.1); (case side3 => exact zc (Kd.R_reads' HO369.out).2.2); (case side4 => exact (Kd.R_reads' HO369.out).2.1); rintro e w101 ⟨rfl, hb⟩; refine ⟨_, rfl, ?_⟩; have n0_ := Aside0.mk (Kd.R_below (zr HO366.out) hb); have n1_ := Aside0.mk (Kd.R_below (zr HO369.out) hb); have n2_ := Aside0.mk (blk_below (zh BK362.out) hb); have n3_ := Aside0.mk (below_step (zb HB.out) hb); clear HO366; clear HO369; clear BK362; clear HB; have HO366 := n0_; have HO369 := n1_; have BK362 := n2_; have HB := n3_; clear n0_ n1_ n2_ n3_; (try clear hb); (try clear hb2); (try clear hk); (try clear hi); have hcz102_0 : w101.cell? ⟨gb362, 0, none⟩ = some (.slice A0_0 l0_0.length c0_0) := (blk_cell BK362.out 0).trans rfl; have hfz102_0 := blk_frozen BK362.out 0) | ((with_reducible refine gate_callee (f := 11) rfl ?_); refine goesL_ (some 27) rfl rfl Try.func11 (by kernel_rfl) rfl #[.agg #[.slice A0_0 l0_0.length c0_0]] rfl zl ?_; (with_reducible refine (laws_toPool.calls k _ _ l0_0 t371 _ ?side1 ?side2 A14.out).mono ?_); (case side1 => exact zc (Kd.C_below HR0_0.out HB.out)); (case side2 => exact HC0_0.out); rintro e w103 ⟨v372, rfl, ho0, hb⟩; refine ⟨_, rfl, ?_⟩; have n0_ := Aside0.mk (Kd.R_elder' (zr HO366.out) (Kd.R_base ho0) hb); have n1_ := Aside0.mk (Kd.R_below (zr HO369.out) hb); have n2_ := Aside0.mk (Kd.R_lower (Kd.R_new' ho0 (Kd.R_lt (zr HO366.out))) (below_size (zb HB.out))); have n3_ := Aside0.mk (blk_below (zh BK362.out) hb); have n4_ := Aside0.mk (below_step (zb HB.out) hb); clear HO366; clear HO369; clear BK362; clear HB; have HO366 := n0_; have HO369 := n1_; have HO373 := n2_; have BK362 := n3_; have HB := n4_; clear n0_ n1_ n2_ n3_ n4_; (try clear hb); (try clear hb2); (try clear hk); (try clear hi); (try clear ho0)) | ((with_reducible refine gate_dst (N := 9) rfl ?_); refine box_event ?hg (N := 9) ?hd (cs := #[.slice none 0 0]) (t := 30) ?hr ?_; (case hd => rfl); (case hg => rfl); (case hr => first | (go_simp; done) | (go_simp; rfl)); intro gb374 hg w104 hbox hb; have n0_ := Aside0.mk (Kd.R_below (zr HO366.out) hb); have n1_ := Aside0.mk (Kd.R_below (zr HO369.out) hb); have n2_ := Aside0.mk (Kd.R_below (zr HO373.out) hb); have n3_ := Aside0.mk (blk_below (zh BK362.out) hb); have n4_ := Aside0.mk (below_step (zb HB.out) hb); have n5_ := Aside0.mk (hbox); have n6_ := Aside0.mk ((by rw [hg]; exact (below_size (zb HB.out)) : w.heap.size ≤ gb374)); have n7_ := Aside0.mk ((by rw [hg]; exact (below_size (zb HB.out)) : w.heap.size ≤ gb374)); have n8_ := Aside0.mk ((by rw [hg]; exact Nat.ne_of_lt (blk_lt (zh BK362.out)) : gb362 ≠ gb374)); have n9_ := Aside0.mk ((by rw [hg]; exact Nat.ne_of_gt (blk_lt (zh BK362.out)) : gb374 ≠ gb362)); clear HO366; clear HO369; clear HO373; clear BK362; clear HB; have HO366 := n0_; have HO369 := n1_; have HO373 := n2_; have BK362 := n3_; have HB := n4_; have BK374 := n5_; have GW374 := n6_; have GE374 := n7_; have NB362_374 := n8_; have NB374_362 := n9_; clear n0_ n1_ n2_ n3_ n4_ n5_ n6_ n7_ n8_ n9_; clear hb hbox hg; obtain ⟨Ao105, co105, eo105⟩ := Kd.R_slice HO373.out; subst eo105; have hnb106 := NB374_362.out; have hnc106 := NB362_374.out; have hcz107_0 : w104.cell? ⟨gb374, 0, none⟩ = some (.slice none 0 0) := (blk_cell BK374.out 0).trans rfl; have hfz107_0 := blk_frozen BK374.out 0) | ((with_reducible refine gate_callee (f := 28) rfl ?_); refine goesL_ (some 29) rfl rfl Try.func28 (by kernel_rfl) rfl #[.slice A1 l1.length c1] rfl zl ?_; (with_reducible refine (laws_toIntS.calls k _ _ l1 t375 _ ?side1 ?side2 A15.out).mono ?_); (case side1 => exact Kd.C_below HR1.out (zb HB.out)); (case side2 => exact HC1.out); rintro e w108 ⟨v376, rfl, ho0, hb⟩; refine ⟨_, rfl, ?_⟩; have n0_ := Aside0.mk (Kd.R_below (by (with_reducible repeat (first | apply Kd.R_alloc | apply Kd.R_drewN | apply Kd.R_drew)); exact (Kd.R_mono (Kd.R_far (p := ⟨gb374, 0, none⟩) (Kd.R_types HO366.out BK374.out (by decide)) (fun _ hk => hk.2) (.slice Ao105 t371.length co105)) (fun _ h_ => h_.1))) hb); have n1_ := Aside0.mk (Kd.R_elder' (by (with_reducible repeat (first | apply Kd.R_alloc | apply Kd.R_drewN | apply Kd.R_drew)); exact (Kd.R_mono (Kd.R_far (p := ⟨gb374, 0, none⟩) (Kd.R_types HO369.out BK374.out (by decide)) (fun _ hk => hk.2) (.slice Ao105 t371.length co105)) (fun _ h_ => h_.1))) (Kd.R_base ho0) hb); have n2_ := Aside0.mk (Kd.R_below (by (with_reducible repeat (first | apply Kd.R_alloc | apply Kd.R_drewN | apply Kd.R_drew)); exact (Kd.R_mono (Kd.R_far (p := ⟨gb374, 0, none⟩) (Kd.R_types HO373.out BK374.out (by decide)) (fun _ hk => hk.2) (.slice Ao105 t371.length co105)) (fun _ h_ => h_.1))) hb); have n3_ := Aside0.mk (Kd.R_lower (Kd.R_new' ho0 (Kd.R_lt (by (with_reducible repeat (first | apply Kd.R_alloc | apply Kd.R_drewN | apply Kd.R_drew)); exact (Kd.R_mono (Kd.R_far (p := ⟨gb374, 0, none⟩) (Kd.R_types HO369.out BK374.out (by decide)) (fun _ hk => hk.2) (.slice Ao105 t371.length co105)) (fun _ h_ => h_.1))))) (below_size (zb HB.out))); have n4_ := Aside0.mk (blk_below (g := gb362) (o := .cells #[.slice A0_0 l0_0.length c0_0] 24 (0, 0)) (zf BK362.out) hb); have n5_ := Aside0.mk (blk_below (g := gb374) (o := .cells #[.slice Ao105 t371.length co105] 30 (0, 0)) (by (with_reducible repeat (first | refine blk_drewN ?_ _ | refine blk_drew ?_ | refine blk_alloc ?_ _)); refine blk_put (cs := #[.slice none 0 0]) ?_ 0 _ rfl; (with_reducible repeat (first | refine blk_drewN ?_ _ | refine blk_drew ?_ | refine blk_alloc ?_ _)); exact BK374.out) hb); have n6_ := Aside0.mk (below_step (zb HB.out) hb); clear HO366; clear HO369; clear HO373; clear BK362; clear BK374; clear HB; have HO366 := n0_; have HO369 := n1_; have HO373 := n2_; have HO377 := n3_; have BK362 := n4_; have BK374 := n5_; have HB := n6_; clear n0_ n1_ n2_ n3_ n4_ n5_ n6_; (try clear hb); (try clear hb2); (try clear hk); (try clear hi); (try clear ho0); have hcz109_0 : w108.cell? ⟨gb374, 0, none⟩ = some (.slice Ao105 t371.length co105) := (blk_cell BK374.out 0).trans rfl; have hfz109_0 := blk_frozen BK374.out 0; obtain ⟨Ao110, co110, eo110⟩ := Kd.R_slice HO377.out; subst eo110) | ((with_reducible refine gate_callee (f := 33) rfl ?_); refine goesL_ (some 33) rfl rfl Try.func33 (by kernel_rfl) rfl #[.agg #[.slice Ao105 t371.length co105], .slice Ao110 t375.length co110, .int .i64 a2] rfl zl ?_; (with_reducible refine (impl_Derives.calls k _ _ t371 _ _ t375 a2 t378 _ ?side1 ?side2 ?side3 ?side4 A16.out).mono ?_); (case side1 => exact zc (Kd.R_reads' HO373.out).2.2); (case side2 => exact (Kd.R_reads' HO373.out).2.1); (case side3 => exact zc (Kd.R_reads' HO377.out).2.2); (case side4 => exact (Kd.R_reads' HO377.out).2.1); rintro e w111 ⟨rfl, hb⟩; refine ⟨_, rfl, ?_⟩; have n0_ := Aside0.mk (Kd.R_below (zr HO366.out) hb); have n1_ := Aside0.mk (Kd.R_below (zr HO369.out) hb); have n2_ := Aside0.mk (Kd.R_below (zr HO373.out) hb); have n3_ := Aside0.mk (Kd.R_below (zr HO377.out) hb); have n4_ := Aside0.mk (blk_below (zh BK362.out) hb); have n5_ := Aside0.mk (blk_below (zh BK374.out) hb); have n6_ := Aside0.mk (below_step (zb HB.out) hb); clear HO366; clear HO369; clear HO373; clear HO377; clear BK362; clear BK374; clear HB; have HO366 := n0_; have HO369 := n1_; have HO373 := n2_; have HO377 := n3_; have BK362 := n4_; have BK374 := n5_; have HB := n6_; clear n0_ n1_ n2_ n3_ n4_ n5_ n6_; (try clear hb); (try clear hb2); (try clear hk); (try clear hi)))
     have n0_ := Aside0.mk (Kd.R_drew HO366.out)
     have n1_ := Aside0.mk (Kd.R_drew HO369.out)
     have n2_ := Aside0.mk (Kd.R_drew HO373.out)
     have n3_ := Aside0.mk (Kd.R_drew HO377.out)
     have n4_ := Aside0.mk (blk_drew BK362.out)
     have n5_ := Aside0.mk (blk_drew BK374.out)
     have n6_ := Aside0.mk (below_drew1 HB.out)
     clear HO366
     clear HO369
     clear HO373
     clear HO377
     clear BK362
     clear BK374
     clear HB
     have HO366 := n0_
     have HO369 := n1_
     have HO373 := n2_
     have HO377 := n3_
     have BK362 := n4_
     have BK374 := n5_
     have HB := n6_
     clear n0_ n1_ n2_ n3_ n4_ n5_ n6_
     refine start_ (n := 5) (S := fun w' => w'.cell? ⟨gb374, 0, none⟩ = some (.slice Ao105 t371.length co105) ∧ w'.cell? ⟨gb362, 0, none⟩ = some (.slice A0_0 l0_0.length c0_0)) (ds := []) #[false, false, false, false, false] (by kernel_rfl) rfl rfl ⟨(blk_cell BK374.out 0).trans rfl, (blk_cell BK362.out 0).trans rfl⟩ (fun hHeld => ?_)
     generalize w111.drew = w112 at HO366 HO369 HO373 HO377 BK362 BK374 HB hHeld ⊢
     refine take_ (i := 0) (N := some 37) (v := ?_) (a' := ?_) #[true, false, false, false, false] rfl rfl (by kernel_rfl) (fun _ _ _ h => h) (Or.inl ⟨by rfl, ?_⟩) hHeld ?_ ?_
     rotate_left
     ·rintro w' ⟨s0, s1⟩
      go_simp
      with_reducible rfl
     rotate_left
     ·simp only [Act.put, List.setIfInBounds_toArray, List.set_cons_zero, List.set_cons_succ, i64_w, i32_w]
      rfl
     refine take_ (i := 1) (N := some 38) (v := ?_) (a' := ?_) #[true, true, false, false, false] rfl rfl (by kernel_rfl) (fun _ _ _ h => h) (Or.inl ⟨by rfl, ?_⟩) hHeld ?_ ?_
     rotate_left
     ·rintro w' ⟨s0, s1⟩
      go_simp
      with_reducible rfl
     rotate_left
     ·simp only [Act.put, List.setIfInBounds_toArray, List.set_cons_zero, List.set_cons_succ, i64_w, i32_w]
      rfl
     refine one_ (i := 2) (N := some 39) #[true, true, true, false, false] rfl rfl (by kernel_rfl) (by decide) (fun K hK => ?_)
     refine goes_ Try.func11 (by kernel_rfl) rfl #[.agg #[.slice A0_0 l0_0.length c0_0]] (by rfl) rfl rfl zl ?_
     with_reducible refine (laws_toPool.calls k _ _ l0_0 t379 _ ?side1 ?side2 A37.out).mono ?_
     (case side1 => exact zc (Kd.C_below HR0_0.out HB.out))
     (case side2 => exact HC0_0.out)
     rintro e w113 ⟨v380, rfl, ho0, hb⟩
     refine ⟨_, rfl, ?_⟩
     have n0_ := Aside0.mk (Kd.R_elder' (zr HO366.out) (Kd.R_base ho0) hb)
     have n1_ := Aside0.mk (Kd.R_below (zr HO369.out) hb)
     have n2_ := Aside0.mk (Kd.R_elder' (zr HO373.out) (Kd.R_base ho0) hb)
     have n3_ := Aside0.mk (Kd.R_below (zr HO377.out) hb)
     have n4_ := Aside0.mk (Kd.R_lower (Kd.R_new' (Kd.R_new' ho0 (Kd.R_lt (zr HO366.out))) (Kd.R_lt (zr HO373.out))) (below_size (zb HB.out)))
     have n5_ := Aside0.mk (blk_below (zh BK362.out) hb)
     have n6_ := Aside0.mk (blk_below (zh BK374.out) hb)
     have n7_ := Aside0.mk (below_step (zb HB.out) hb)
     clear HO366
     clear HO369
     clear HO373
     clear HO377
     clear BK362
     clear BK374
     clear HB
     have HO366 := n0_
     have HO369 := n1_
     have HO373 := n2_
     have HO377 := n3_
     have HO381 := n4_
     have BK362 := n5_
     have BK374 := n6_
     have HB := n7_
     clear n0_ n1_ n2_ n3_ n4_ n5_ n6_ n7_
     (try clear hb)
     (try clear hb2)
     (try clear hk)
     (try clear hi)
     (try clear ho0)
     obtain ⟨Ao114, co114, eo114⟩ := Kd.R_slice HO381.out
     (first | subst eo114 | (injection eo114 with f1_ f2_ f3_; have f4_ := f1_.symm; have f5_ := f3_.symm; clear f1_ f2_ f3_; subst f4_; subst f5_))
     refine hK.out _ _ ⟨(blk_cell BK374.out 0).trans rfl, (blk_cell BK362.out 0).trans rfl⟩ (fun hHeld => ?_)
     clear hK K
     refine norm_ (a' := ?_) ?_ ?_
     rotate_left
     ·show Act.put _ (some 39) _ = _
      simp only [Act.put, List.setIfInBounds_toArray, List.set_cons_zero, List.set_cons_succ, i64_w, i32_w]
      rfl
     refine one_ (i := 3) (N := some 40) #[true, true, true, true, false] rfl rfl (by kernel_rfl) (by decide) (fun K hK => ?_)
     refine goes_ Try.func14 (by kernel_rfl) rfl #[.agg #[.slice Ao105 t371.length co105], .agg #[.slice Ao114 t379.length co114]] (by rfl) rfl rfl zl ?_
     with_reducible refine (laws_eqPool.calls k _ _ t371 _ _ t379 false _ ?side1 ?side2 ?side3 ?side4 A38.out).mono ?_
     (case side1 => exact zc (Kd.R_reads' HO373.out).2.2)
     (case side2 => exact (Kd.R_reads' HO373.out).2.1)
     (case side3 => exact zc (Kd.R_reads' HO381.out).2.2)
     (case side4 => exact (Kd.R_reads' HO381.out).2.1)
     rintro e w115 ⟨rfl, hb⟩
     refine ⟨_, rfl, ?_⟩
     have n0_ := Aside0.mk (Kd.R_below (zr HO366.out) hb)
     have n1_ := Aside0.mk (Kd.R_below (zr HO369.out) hb)
     have n2_ := Aside0.mk (Kd.R_below (zr HO373.out) hb)
     have n3_ := Aside0.mk (Kd.R_below (zr HO377.out) hb)
     have n4_ := Aside0.mk (Kd.R_below (zr HO381.out) hb)
     have n5_ := Aside0.mk (blk_below (zh BK362.out) hb)
     have n6_ := Aside0.mk (blk_below (zh BK374.out) hb)
     have n7_ := Aside0.mk (below_step (zb HB.out) hb)
     clear HO366
     clear HO369
     clear HO373
     clear HO377
     clear HO381
     clear BK362
     clear BK374
     clear HB
     have HO366 := n0_
     have HO369 := n1_
     have HO373 := n2_
     have HO377 := n3_
     have HO381 := n4_
     have BK362 := n5_
     have BK374 := n6_
     have HB := n7_
     clear n0_ n1_ n2_ n3_ n4_ n5_ n6_ n7_
     (try clear hb)
     (try clear hb2)
     (try clear hk)
     (try clear hi)
     refine hK.out _ _ ⟨(blk_cell BK374.out 0).trans rfl, (blk_cell BK362.out 0).trans rfl⟩ (fun hHeld => ?_)
     clear hK K
     refine norm_ (a' := ?_) ?_ ?_
     rotate_left
     ·show Act.put _ (some 40) _ = _
      simp only [Act.put, List.setIfInBounds_toArray, List.set_cons_zero, List.set_cons_succ, i64_w, i32_w]
      rfl
     refine pure_ (i := 4) (N := some 41) (v := ?_) (a' := ?_) #[true, true, true, true, true] rfl rfl (by kernel_rfl) (fun _ _ _ h => h) (Or.inl ⟨by rfl, ?_⟩) ?_ ?_
     rotate_left
     ·intro w'
      go_simp
      with_reducible rfl
     rotate_left
     ·simp only [Act.put, List.setIfInBounds_toArray, List.set_cons_zero, List.set_cons_succ, i64_w, i32_w]
      rfl
     refine done_ (by kernel_rfl) ?_
     try go_wp2
     go_ret
     exact ⟨ze, zb HB.out⟩

end Go.Proofs.Ytdgahpigcaejbaa.E
end
