import Derived.Test.YtdgahpigcaejbaaXD0
import Derived.Test.YtdgahpigcaejbaaXDg1
import Derived.Test.YtdgahpigcaejbaaXDg5
section
-- Written by this session's program (wip/tools/gprint.py over the kit's print) out of the translation; Lean checks it.
namespace Go.Proofs.Ytdgahpigcaejbaa.D
open Go.RowKit Go.Proofs.YtdgahpigcaejbaaW.PrintWords Go.Proofs.YtdgahpigcaejbaaW.PrintLast Go.Proofs.YtdgahpigcaejbaaW.PrintMore
attribute [local go_sem] max2_int min2_int max_two min_two max_three min_three max_four min_four   -- for this text's walks alone
set_option linter.unusedVariables false
set_option linter.unusedSimpArgs false
set_option maxRecDepth 100000

/-! ### spec_l8Once: function 92 -/
def spec_l8Once.l0 : Nat → List Int → List Bool → List Int → Int → List (S44) → Option (List Int × Bool)
 | 0, _, _, _, _, _ => none
 | k + 1, x1, x6, x7, x8, x499000 => if x8 < (x1.length : Int) then (if 0 ≤ x8 then (if 0 ≤ (rd x1 x8) then (if (rd x1 x8) < (x499000.length : Int) then (if ((rd_T44 x499000 (rd x1 x8)).f0) = 2 then ((spec_l6Put.f k x7 ((rd_T44 x499000 (rd x1 x8)).f1)).bind fun t511 => ((spec_l6Put.f k t511 ((rd_T44 x499000 (rd x1 x8)).f2)).bind fun t514 => (spec_l8Once.l0 k x1 x6 t514 (wrap64 (x8 + 1)) x499000))) else (if ((rd_T44 x499000 (rd x1 x8)).f0) = 4 then ((spec_l6Put.f k x7 ((rd_T44 x499000 (rd x1 x8)).f1)).bind fun t517 => (spec_l8Once.l0 k x1 x6 t517 (wrap64 (x8 + 1)) x499000)) else (if ((rd_T44 x499000 (rd x1 x8)).f0) = 3 then (if 0 ≤ ((rd_T44 x499000 (rd x1 x8)).f2) then (if ((rd_T44 x499000 (rd x1 x8)).f2) < (x6.length : Int) then (if rdOf false x6 ((rd_T44 x499000 (rd x1 x8)).f2) = true then ((spec_l6Put.f k x7 ((rd_T44 x499000 (rd x1 x8)).f1)).bind fun t521 => (spec_l8Once.l0 k x1 x6 t521 (wrap64 (x8 + 1)) x499000)) else (spec_l8Once.l0 k x1 x6 x7 (wrap64 (x8 + 1)) x499000)) else (none)) else (none)) else (spec_l8Once.l0 k x1 x6 x7 (wrap64 (x8 + 1)) x499000)))) else (none)) else (none)) else (none)) else (some (x7, decide ((x7.length : Int) ≤ 200)))
def spec_l8Once.f (k : Nat) (l0_0 : List (S44)) (l1 : List Int) : Option (List Int × Bool) := (spec_l7All.f k l0_0 l1).bind fun t499 => ((some (([] : List Int) : List Int)).bind fun y502 => (if y502.length + l1.length < 17592186044416 then (spec_l8Once.l0 k l1 t499 (y502 ++ l1) 0 l0_0) else (none)))
theorem spec_l8Once.mono_l : ∀ k, (∀ y0 y1 y2 y3 y4, LeO (spec_l8Once.l0 k y0 y1 y2 y3 y4) (spec_l8Once.l0 (k + 1) y0 y1 y2 y3 y4))
 | 0 => fun _ _ _ _ _ r h => by simp [spec_l8Once.l0] at h
 | k + 1 => by
  have ih0 := spec_l8Once.mono_l k
  ·intro y0 y1 y2 y3 y4
   unfold spec_l8Once.l0
   repeat' first
   | (with_reducible exact ih0 _ _ _ _ _)
   | (with_reducible exact spec_l6Put.mono _ _ _)
   | (with_reducible exact spec_l7All.mono _ _ _)
   | (with_reducible exact LeO.refl _)
   | (with_reducible exact LeO.none _)
   | (with_reducible refine LeO.ite ?_ ?_)
   | (with_reducible refine LeO.bind ?_ (fun _ => ?_))
   | exact ih0 _ _ _ _ _
   | exact spec_l6Put.mono _ _ _
   | exact spec_l7All.mono _ _ _
   | exact LeO.none _
   | refine LeO.ite ?_ ?_
   | refine LeO.bind ?_ (fun _ => ?_)
theorem spec_l8Once.mono : ∀ a0 a1 k, LeO (spec_l8Once.f k a0 a1) (spec_l8Once.f (k + 1) a0 a1) := by
 intro a0 a1 k
 have ih0 := spec_l8Once.mono_l k
 unfold spec_l8Once.f
 repeat' first
   | (with_reducible exact ih0 _ _ _ _ _)
   | (with_reducible exact spec_l6Put.mono _ _ _)
   | (with_reducible exact spec_l7All.mono _ _ _)
   | (with_reducible exact LeO.refl _)
   | (with_reducible exact LeO.none _)
   | (with_reducible refine LeO.ite ?_ ?_)
   | (with_reducible refine LeO.bind ?_ (fun _ => ?_))
   | exact ih0 _ _ _ _ _
   | exact spec_l6Put.mono _ _ _
   | exact spec_l7All.mono _ _ _
   | exact LeO.none _
   | refine LeO.ite ?_ ?_
   | refine LeO.bind ?_ (fun _ => ?_)
def spec_l8Once.T6 : Bool × List (List Nat × List Nat) := (true, [([], []), ([0], [0]), ([], []), ([], []), ([2, 3], [2, 3]), ([4], [4]), ([1, 5], [1, 5]), ([6], [6]), ([], []), ([8, 7, 0, 1, 2, 3, 4, 5, 6, 7, 8], [7, 8])])
def spec_l8Once.B6 : List Nat := [0, 1, 0, 0, 12, 28, 63, 127, 0, 511]
theorem spec_l8Once.tab6 : rtab .any (opsOf Try.f92 6) = spec_l8Once.T6 := by kernel_rfl
theorem spec_l8Once.bits6 : waitsOk spec_l8Once.T6.2 spec_l8Once.B6 = true := by kernel_rfl
def spec_l8Once.T8 : Bool × List (List Nat × List Nat) := (true, [([], []), ([], []), ([1], [1]), ([0, 2], [0, 2]), ([], []), ([4], [4]), ([3, 5, 3], [3, 5]), ([6, 6, 0, 1, 2, 3, 4, 5, 6], [0, 6])])
def spec_l8Once.B8 : List Nat := [0, 0, 2, 7, 0, 16, 63, 127]
theorem spec_l8Once.tab8 : rtab .any (opsOf Try.f92 8) = spec_l8Once.T8 := by kernel_rfl
theorem spec_l8Once.bits8 : waitsOk spec_l8Once.T8.2 spec_l8Once.B8 = true := by kernel_rfl
set_option maxHeartbeats 8000000 in
set_option maxRecDepth 100000 in
theorem spec_l8Once.calls (k : Nat) (A0_0 : Option Addr) (c0_0 : Nat) (l0_0 : List (S44)) (A1 : Option Addr) (c1 : Nat) (l1 : List Int) (r1 : List Int) (r2 : Bool) (w : World) (hr0_0 : Kd.C k44 w A0_0 l0_0.length l0_0) (hc0_0 : l0_0.length ≤ c0_0) (hr1 : Kd.C (Kd.int .i64) w A1 l1.length l1) (hc1 : l1.length ≤ c1) (h : spec_l8Once.f k l0_0 l1 = some (r1, r2)) :
  Calls Try.prog 92 #[.agg #[.slice A0_0 l0_0.length c0_0], .slice A1 l1.length c1] w fun e w' => ∃ v0_ : Value, e = .returned (.tuple #[v0_, .bool r2]) ∧ Kd.R (Kd.int .i64) 3 w' w.heap.size (fun _ => True) v0_ r1 ∧ Below w.heap.size w w' := by
 have hu30 := Try.underlying30
 have hu44 := Try.underlying44
 have HR0_0 := Aside0.mk hr0_0
 have HC0_0 := Aside0.mk hc0_0
 clear hr0_0 hc0_0
 have HR1 := Aside0.mk hr1
 have HC1 := Aside0.mk hc1
 clear hr1 hc1
 have HB := Aside0.mk (Below.refl w.heap.size w)
 have H : ((spec_l7All.f k l0_0 l1).bind fun t499 => ((some (([] : List Int) : List Int)).bind fun y502 => (if y502.length + l1.length < 17592186044416 then (spec_l8Once.l0 k l1 t499 (y502 ++ l1) 0 l0_0) else (none)))) = some (r1, r2) := h
 clear h
 replace H := Option.bind_eq_some_iff.mp H
 obtain ⟨t499, A30, H⟩ := H
 replace H : ((some (([] : List Int) : List Int)).bind fun y502 => (if y502.length + l1.length < 17592186044416 then (spec_l8Once.l0 k l1 t499 (y502 ++ l1) 0 l0_0) else (none))) = some (r1, r2) := H
 have A3 := Aside0.mk A30
 clear A30
 obtain ⟨y502, hy502⟩ : ∃ y_ : List Int, y_ = (([] : List Int)) := ⟨_, rfl⟩
 replace H : (if y502.length + l1.length < 17592186044416 then (spec_l8Once.l0 k l1 t499 (y502 ++ l1) 0 l0_0) else (none)) = some (r1, r2) := by first | (rw [hy502]; with_reducible exact H) | (have H2_ := (Option.bind_some _ _).symm.trans H; rw [hy502]; with_reducible exact H2_) | (have H2_ := (Option.bind_some _ _).symm.trans H; with_reducible exact H2_) | with_reducible exact H | (rw [hy502]; exact H) | exact H
 have Ny502 := Aside0.mk hy502
 clear hy502
 by_cases c4 : y502.length + l1.length < 17592186044416
 ·rw [if_pos c4] at H
  have LMc4 := Aside0.mk c4
  clear c4
  obtain ⟨y505, hy505⟩ : ∃ y_ : List Int, y_ = (y502 ++ l1) := ⟨_, rfl⟩
  replace H : (spec_l8Once.l0 k l1 t499 y505 0 l0_0) = some (r1, r2) := by first | (rw [hy505]; with_reducible exact H) | (have H2_ := (Option.bind_some _ _).symm.trans H; rw [hy505]; with_reducible exact H2_) | (have H2_ := (Option.bind_some _ _).symm.trans H; with_reducible exact H2_) | with_reducible exact H | (rw [hy505]; exact H) | exact H
  have Ny505 := Aside0.mk hy505
  clear hy505
  have H' := Aside0.mk H
  clear H
  go_enter Try.func92, Try.ntmps92
  go_wp2_with (first | ((with_reducible refine gate_dst (N := 2) rfl ?_); refine box_event ?hg (N := 2) ?hd (cs := #[.slice A0_0 l0_0.length c0_0]) (t := 30) ?hr ?_; (case hd => rfl); (case hg => rfl); (case hr => first | (go_simp; done) | (go_simp; rfl)); intro gb498 hg w5 hbox hb; have n0_ := Aside0.mk (below_step (zb HB.out) hb); have n1_ := Aside0.mk (hbox); have n2_ := Aside0.mk ((by rw [hg]; exact (below_size (zb HB.out)) : w.heap.size ≤ gb498)); have n3_ := Aside0.mk ((by rw [hg]; exact (below_size (zb HB.out)) : w.heap.size ≤ gb498)); clear HB; have HB := n0_; have BK498 := n1_; have GW498 := n2_; have GE498 := n3_; clear n0_ n1_ n2_ n3_; clear hb hbox hg; have hcz6_0 : w5.cell? ⟨gb498, 0, none⟩ = some (.slice A0_0 l0_0.length c0_0) := (blk_cell BK498.out 0).trans rfl; have hfz6_0 := blk_frozen BK498.out 0) | ((with_reducible refine gate_callee (f := 93) rfl ?_); refine goesL_ (some 12) rfl rfl Try.func93 (by kernel_rfl) rfl #[.agg #[.slice A0_0 l0_0.length c0_0], .slice A1 l1.length c1] rfl zl ?_; (with_reducible refine (spec_l7All.calls k _ _ l0_0 _ _ l1 t499 _ ?side1 ?side2 ?side3 ?side4 A3.out).mono ?_); (case side1 => exact zc (Kd.C_below HR0_0.out HB.out)); (case side2 => exact HC0_0.out); (case side3 => exact zc (Kd.C_below HR1.out HB.out)); (case side4 => exact HC1.out); rintro e w7 ⟨v500, rfl, ho0, hb⟩; refine ⟨_, rfl, ?_⟩; have n0_ := Aside0.mk (Kd.R_lower ho0 (below_size (zb HB.out))); have n1_ := Aside0.mk (blk_below (zh BK498.out) hb); have n2_ := Aside0.mk (below_step (zb HB.out) hb); clear BK498; clear HB; have HO501 := n0_; have BK498 := n1_; have HB := n2_; clear n0_ n1_ n2_; (try clear hb); (try clear hb2); (try clear hk); (try clear hi); (try clear ho0)) | ((with_reducible refine gate_dst (N := 13) rfl ?_); refine Kd.R_lit (Kd.int .i64) _ 3 ?hg (N := 13) ?hd (xs := ([] : List Int)) (inner := []) (ok := fun _ => True) (okp := fun _ => True) ?hr ?hp (fun _ hk => hk) trivial (Below.refl _ _) (Nat.le_refl _) (by simp) ?_; (case hd => rfl); (case hg => rfl); (case hr => first | (go_simp; done) | (go_simp; rfl)); (case hp => exact (Reps.none _ _)); intro v503 w8 ho9 hb hg_ hnew_; clear hg_ hnew_; (first | rw [← Ny502.out] at ho9 | (simp only [Int.reduceToNat] at ho9; rw [← Ny502.out] at ho9)); have n0_ := Aside0.mk (Kd.R_below (zr HO501.out) hb); have n1_ := Aside0.mk (Kd.R_lower ho9 (below_size (zb HB.out))); have n2_ := Aside0.mk (blk_below (zh BK498.out) hb); have n3_ := Aside0.mk (below_step (zb HB.out) hb); clear HO501; clear BK498; clear HB; have HO501 := n0_; have HO504 := n1_; have BK498 := n2_; have HB := n3_; clear n0_ n1_ n2_ n3_; clear hb ho9) | ((with_reducible refine gate_builtin (b := .append) (xs := #[.tmp 13, .tmp 14]) rfl ?_); at_builtin; refine Kd.R_append_rows (Kd.int .i64) (w0 := w) w.heap.size rfl (.tmp 13) (.tmp 14) 26 3 (.int .i64 0) 8 rfl Try.underlying26 info3 rfl (by decide) (by omega) v503 y502 l1 _ _ _ (fun _ => True) (fun _ => False) rfl rfl ?aO ?aR (fun _ _ h => h) (fun _ h => h.elim) ?aF ?aB ?aS ?aL ?_; (case aR => exact zc (Kd.C_below HR1.out HB.out)); (case aB => exact (zb HB.out)); (case aF => exact (fun _ _ => trivial)); (case aO => exact (zr HO504.out)); (case aS => exact (below_size (zb HB.out))); (case aL => have := LMc4.out; omega); intro v506 w10 ho hb hg hat; rw [← Ny505.out] at ho; have n0_ := Aside0.mk (blk_grown (zh BK498.out) hg (Kd.R_ne HO504.out BK498.out (by decide))); have n1_ := Aside0.mk (Kd.R_over' (zr HO501.out) (Kd.R_typed (zr HO504.out)) (by decide) hg); have n2_ := Aside0.mk (hb); have n3_ := Aside0.mk (ho); clear BK498; clear HO501; clear HB; clear HO504; have BK498 := n0_; have HO501 := n1_; have HB := n2_; have HO507 := n3_; clear n0_ n1_ n2_ n3_; clear ho hb hg hat))
  go_loopg [7, 8] k (fun kq v7 v8 w' => ∃ (x7_1 : List Int) (x8_1 : Int), v8 = .int .i64 x8_1 ∧ Aside0 (spec_l8Once.l0 kq l1 t499 x7_1 x8_1 l0_0 = some (r1, r2)) ∧ Aside0 (kq ≤ k) ∧ Aside0 (Kd.R Kd.bool 4 w' w.heap.size (fun _ => True) v500 t499) ∧ Aside0 (Kd.R (Kd.int .i64) 3 w' w.heap.size (fun _ => True) v7 x7_1) ∧ Aside0 (w'.heap[gb498]? = some (.cells #[(.slice A0_0 l0_0.length c0_0)] 30 (0, 0))) ∧ Aside0 (Below w.heap.size w w'))
  case atStart => exact ⟨(y505), (0), (by first | rfl | (simp; done) | (simp [*]; done)), H', ⟨Nat.le_refl _⟩, ⟨zr HO501.out⟩, ⟨zr HO507.out⟩, ⟨zh BK498.out⟩, ⟨zb HB.out⟩⟩
  case round =>
   clear H'
   try clear c1
   try clear p2
   try clear c4
   try clear c9
   try clear hcz6_0
   try clear hfz6_0
   obtain ⟨x7_1, x8_1, rfl, HA, HK1, HO_6, HO_7, BK498, HB⟩ := hrel
   cases gk with
   | zero => exact absurd HA.out (by simp [spec_l8Once.l0])
   | succ k1 =>
    have H := HA.out
    clear HA
    simp only [spec_l8Once.l0] at H
    by_cases c11 : x8_1 < (l1.length : Int)
    ·rw [if_pos c11] at H
     have c11b0 : decide (x8_1 < (l1.length : Int)) = true := decide_eq_true c11
     clear c11
     by_cases c12 : 0 ≤ x8_1
     ·rw [if_pos c12] at H
      have c12b0 : decide (0 ≤ x8_1) = true := decide_eq_true c12
      clear c12
      by_cases c13 : 0 ≤ (rd l1 x8_1)
      ·rw [if_pos c13] at H
       have c13b0 : decide (0 ≤ (rd l1 x8_1)) = true := decide_eq_true c13
       clear c13
       by_cases c14 : (rd l1 x8_1) < (l0_0.length : Int)
       ·rw [if_pos c14] at H
        have c14b0 : decide ((rd l1 x8_1) < (l0_0.length : Int)) = true := decide_eq_true c14
        clear c14
        by_cases c15 : ((rd_T44 l0_0 (rd l1 x8_1)).f0) = 2
        ·rw [if_pos c15] at H
         have c15b0 : (((rd_T44 l0_0 (rd l1 x8_1)).f0) == 2) = true := beq_iff_eq.mpr c15
         have c15b1 : (((rd_T44 l0_0 (rd l1 x8_1)).f0) != 2) = false := bne_eq_false_iff_eq.mpr c15
         clear c15
         replace H := Option.bind_eq_some_iff.mp H
         obtain ⟨t511, A160, H⟩ := H
         replace H : ((spec_l6Put.f k1 t511 ((rd_T44 l0_0 (rd l1 x8_1)).f2)).bind fun t514 => (spec_l8Once.l0 k1 l1 t499 t514 (wrap64 (x8_1 + 1)) l0_0)) = some (r1, r2) := H
         have A16 := Aside0.mk A160
         clear A160
         replace H := Option.bind_eq_some_iff.mp H
         obtain ⟨t514, A170, H⟩ := H
         replace H : (spec_l8Once.l0 k1 l1 t499 t514 (wrap64 (x8_1 + 1)) l0_0) = some (r1, r2) := H
         have A17 := Aside0.mk A170
         clear A170
         have H' := Aside0.mk H
         clear H
         try go_wp2
         have n0_ := Aside0.mk (Kd.R_drew HO_6.out)
         have n1_ := Aside0.mk (Kd.R_drew HO_7.out)
         have n2_ := Aside0.mk (blk_drew BK498.out)
         have n3_ := Aside0.mk (below_drew1 HB.out)
         clear HO_6
         clear HO_7
         clear BK498
         clear HB
         have HO_6 := n0_
         have HO_7 := n1_
         have BK498 := n2_
         have HB := n3_
         clear n0_ n1_ n2_ n3_
         have p508 : 0 ≤ (x8_1 : Int) := of_decide_eq_true (by first | (with_reducible assumption) | assumption)
         have q508 : x8_1 < (l1.length : Int) := of_decide_eq_true (by first | (with_reducible assumption) | assumption)
         obtain ⟨ad508, e508, hx508_0⟩ := Kd.at_int HR1.out x8_1 p508 q508
         have hw508_0 := hx508_0
         cases e508
         replace hx508_0 := (HB.out.cell (World.block_lt_of_cell? w _ hx508_0)).trans hx508_0
         replace p508 := eq_true p508
         replace q508 := eq_true q508
         have p509 : 0 ≤ ((rd l1 x8_1) : Int) := of_decide_eq_true (by first | (with_reducible assumption) | assumption)
         have q509 : (rd l1 x8_1) < (l0_0.length : Int) := of_decide_eq_true (by first | (with_reducible assumption) | assumption)
         obtain ⟨ad509, e509, hx509_0, hx509_1, hx509_2⟩ := at_T44 HR0_0.out (rd l1 x8_1) p509 q509
         have hw509_2 := hx509_2
         have hw509_1 := hx509_1
         have hw509_0 := hx509_0
         cases e509
         replace hx509_0 := (HB.out.cell (World.block_lt_of_cell? w _ hx509_0)).trans hx509_0
         replace hx509_1 := (HB.out.cell (World.block_lt_of_cell? w _ hx509_1)).trans hx509_1
         replace hx509_2 := (HB.out.cell (World.block_lt_of_cell? w _ hx509_2)).trans hx509_2
         replace p509 := eq_true p509
         replace q509 := eq_true q509
         refine start_ (n := 10) (S := fun w' => w'.cell? ⟨gb498, 0, none⟩ = some (.slice (some ad509) l0_0.length c0_0) ∧ w'.cell? (ad508.add (x8_1).toNat) = some (.int .i64 (rd l1 x8_1)) ∧ w'.cell? (ad509.add (((rd l1 x8_1)).toNat * 3)) = some (.int .i64 ((rd_T44 l0_0 (rd l1 x8_1)).f0)) ∧ w'.cell? ⟨(ad509.add (((rd l1 x8_1)).toNat * 3)).block, (ad509.add (((rd l1 x8_1)).toNat * 3)).off + 1, none⟩ = some (.int .i64 ((rd_T44 l0_0 (rd l1 x8_1)).f1)) ∧ w'.cell? ⟨(ad509.add (((rd l1 x8_1)).toNat * 3)).block, (ad509.add (((rd l1 x8_1)).toNat * 3)).off + 2, none⟩ = some (.int .i64 ((rd_T44 l0_0 (rd l1 x8_1)).f2))) (ds := []) #[false, false, false, false, false, false, false, false, false, false] (by kernel_rfl) rfl rfl ⟨(blk_cell BK498.out 0).trans rfl, ((HB.out.cell (World.block_lt_of_cell? w _ hw508_0)).trans hw508_0), ((HB.out.cell (World.block_lt_of_cell? w _ hw509_0)).trans hw509_0), ((HB.out.cell (World.block_lt_of_cell? w _ hw509_1)).trans hw509_1), ((HB.out.cell (World.block_lt_of_cell? w _ hw509_2)).trans hw509_2)⟩ (fun hHeld => ?_); refine with_tabW spec_l8Once.tab6 spec_l8Once.bits6 (fun HT_ HW_ => ?_)
         generalize wr.drew = w18 at HO_6 HO_7 BK498 HB hx508_0 hx509_0 hx509_1 hx509_2 hHeld ⊢
         refine pure_ (i := 0) (N := some 22) (v := ?_) (a' := ?_) #[true, false, false, false, false, false, false, false, false, false] rfl rfl (any_of HT_.out (by kernel_rfl)) (fun _ _ _ h => h) (Or.inl ⟨by rfl, ?_⟩) ?_ ?_
         rotate_left
         ·intro w'
          go_simp
          with_reducible rfl
         rotate_left
         ·simp only [Act.put, List.setIfInBounds_toArray, List.set_cons_zero, List.set_cons_succ, i64_w, i32_w]
          rfl
         refine pure_ (i := 2) (N := some 24) (v := ?_) (a' := ?_) #[true, false, true, false, false, false, false, false, false, false] rfl rfl (any_of HT_.out (by kernel_rfl)) (fun _ _ _ h => h) (Or.inl ⟨by rfl, ?_⟩) ?_ ?_
         rotate_left
         ·intro w'
          go_simp
          with_reducible rfl
         rotate_left
         ·simp only [Act.put, List.setIfInBounds_toArray, List.set_cons_zero, List.set_cons_succ, i64_w, i32_w]
          rfl
         refine pure_ (i := 3) (N := some 25) (v := ?_) (a' := ?_) #[true, false, true, true, false, false, false, false, false, false] rfl rfl (any_of HT_.out (by kernel_rfl)) (fun _ _ _ h => h) (Or.inl ⟨by rfl, ?_⟩) ?_ ?_
         rotate_left
         ·intro w'
          go_simp
          with_reducible rfl
         rotate_left
         ·simp only [Act.put, List.setIfInBounds_toArray, List.set_cons_zero, List.set_cons_succ, i64_w, i32_w]
          rfl
         refine pure_ (i := 4) (N := some 26) (v := ?_) (a' := ?_) #[true, false, true, true, true, false, false, false, false, false] rfl rfl (any_of HT_.out (by kernel_rfl)) (fun _ _ _ h => h) (Or.inl ⟨by rfl, ?_⟩) ?_ ?_
         rotate_left
         ·intro w'
          go_simp
          with_reducible rfl
         rotate_left
         ·simp only [Act.put, List.setIfInBounds_toArray, List.set_cons_zero, List.set_cons_succ, i64_w, i32_w]
          rfl
         refine take_ (i := 1) (N := some 23) (v := ?_) (a' := ?_) #[true, true, true, true, true, false, false, false, false, false] rfl rfl (take_ofW HT_.out HW_.out (by kernel_rfl)) (fun _ _ _ h => h) (Or.inl ⟨by rfl, ?_⟩) hHeld ?_ ?_
         rotate_left
         ·rintro w' ⟨s0, s1, s2, s3, s4⟩
          go_simp
          with_reducible rfl
         rotate_left
         ·simp only [Act.put, List.setIfInBounds_toArray, List.set_cons_zero, List.set_cons_succ, i64_w, i32_w]
          rfl
         refine take_ (i := 5) (N := some 27) (v := ?_) (a' := ?_) #[true, true, true, true, true, true, false, false, false, false] rfl rfl (take_ofW HT_.out HW_.out (by kernel_rfl)) (fun _ _ _ h => h) (Or.inl ⟨by rfl, ?_⟩) hHeld ?_ ?_
         rotate_left
         ·rintro w' ⟨s0, s1, s2, s3, s4⟩
          go_simp
          with_reducible rfl
         rotate_left
         ·simp only [Act.put, List.setIfInBounds_toArray, List.set_cons_zero, List.set_cons_succ, i64_w, i32_w]
          rfl
         refine pure_ (i := 6) (N := some 28) (v := ?_) (a' := ?_) #[true, true, true, true, true, true, true, false, false, false] rfl rfl (any_of HT_.out (by kernel_rfl)) (fun _ _ _ h => h) (Or.inl ⟨by rfl, ?_⟩) ?_ ?_
         rotate_left
         ·intro w'
          go_simp
          with_reducible rfl
         rotate_left
         ·simp only [Act.put, List.setIfInBounds_toArray, List.set_cons_zero, List.set_cons_succ, i64_w, i32_w]
          rfl
         refine take_ (i := 7) (N := some 29) (v := ?_) (a' := ?_) #[true, true, true, true, true, true, true, true, false, false] rfl rfl (take_ofW HT_.out HW_.out (by kernel_rfl)) (fun _ _ _ h => h) (Or.inl ⟨by rfl, ?_⟩) hHeld ?_ ?_
         rotate_left
         ·rintro w' ⟨s0, s1, s2, s3, s4⟩
          go_simp
          with_reducible rfl
         rotate_left
         ·simp only [Act.put, List.setIfInBounds_toArray, List.set_cons_zero, List.set_cons_succ, i64_w, i32_w]
          rfl
         refine one_ (i := 8) (N := some 9) #[true, true, true, true, true, true, true, true, true, false] rfl rfl (one_of HT_.out (by kernel_rfl)) (by decide) (fun K hK => ?_)
         refine box_step ?hg (N := 9) ?hd (cs := #[.int .i64 0, .int .i64 0, .int .i64 0]) (t := 44) ?hr ?_; (case hd => rfl); (case hg => rfl); (case hr => first | (go_simp; done) | (go_simp; rfl))
         intro gb510 hg w19 hbox hb
         have n0_ := Aside0.mk (Kd.R_below (zr HO_6.out) hb)
         have n1_ := Aside0.mk (Kd.R_below (zr HO_7.out) hb)
         have n2_ := Aside0.mk (blk_below (zh BK498.out) hb)
         have n3_ := Aside0.mk (below_step (zb HB.out) hb)
         have n4_ := Aside0.mk (hbox)
         have n5_ := Aside0.mk ((by rw [hg]; exact (below_size (zb HB.out)) : w.heap.size ≤ gb510))
         have n6_ := Aside0.mk ((by rw [hg]; exact (below_size (zb HB.out)) : w.heap.size ≤ gb510))
         have n7_ := Aside0.mk ((by rw [hg]; exact Nat.ne_of_lt (blk_lt (zh BK498.out)) : gb498 ≠ gb510))
         have n8_ := Aside0.mk ((by rw [hg]; exact Nat.ne_of_gt (blk_lt (zh BK498.out)) : gb510 ≠ gb498))
         clear HO_6
         clear HO_7
         clear BK498
         clear HB
         have HO_6 := n0_
         have HO_7 := n1_
         have BK498 := n2_
         have HB := n3_
         have BK510 := n4_
         have GW510 := n5_
         have GE510 := n6_
         have NB498_510 := n7_
         have NB510_498 := n8_
         clear n0_ n1_ n2_ n3_ n4_ n5_ n6_ n7_ n8_
         clear hb hbox hg
         refine hK.out _ _ ⟨(blk_cell BK498.out 0).trans rfl, ((HB.out.cell (World.block_lt_of_cell? w _ hw508_0)).trans hw508_0), ((HB.out.cell (World.block_lt_of_cell? w _ hw509_0)).trans hw509_0), ((HB.out.cell (World.block_lt_of_cell? w _ hw509_1)).trans hw509_1), ((HB.out.cell (World.block_lt_of_cell? w _ hw509_2)).trans hw509_2)⟩ (fun hHeld => ?_)
         clear hK K
         refine norm_ (a' := ?_) ?_ ?_
         rotate_left
         ·show Act.put _ (some 9) _ = _
          simp only [Act.put, List.setIfInBounds_toArray, List.set_cons_zero, List.set_cons_succ, i64_w, i32_w]
          rfl
         refine one_ (i := 9) (N := none) #[true, true, true, true, true, true, true, true, true, true] rfl rfl (one_of HT_.out (by kernel_rfl)) (by decide) (fun K hK => ?_)
         have hs20 : w19.cell? ⟨gb510, 0, none⟩ = some (.int .i64 0) := (blk_cell BK510.out 0).trans rfl
         have hfs20 := blk_frozen BK510.out 0
         have hns20_0 := NB498_510.out
         have hms20_0 := NB510_498.out
         have hs21 : w19.cell? ⟨gb510, 1, none⟩ = some (.int .i64 0) := (blk_cell BK510.out 1).trans rfl
         have hfs21 := blk_frozen BK510.out 1
         have hns21_0 := NB498_510.out
         have hms21_0 := NB510_498.out
         have hs22 : w19.cell? ⟨gb510, 2, none⟩ = some (.int .i64 0) := (blk_cell BK510.out 2).trans rfl
         have hfs22 := blk_frozen BK510.out 2
         have hns22_0 := NB498_510.out
         have hms22_0 := NB510_498.out
         refine skip_ (w1 := ?_) (by rfl) rfl ?_ ?_
         rotate_left
         ·go_simp
          rfl
         refine hK.out _ _ ⟨((cell_far (p := ⟨gb510, _, none⟩) NB498_510.out _).trans (((cell_far (p := ⟨gb510, _, none⟩) NB498_510.out _).trans (((cell_far (p := ⟨gb510, _, none⟩) NB498_510.out _).trans (hHeld.1)))))), ((cell_far (p := ⟨gb510, _, none⟩) (by first | exact Nat.ne_of_lt (Nat.lt_of_lt_of_le (by have := World.block_lt_of_cell? _ _ hw508_0; first | rwa [add_block] at this | exact this) GW510.out) | (rw [add_block]; exact Nat.ne_of_lt (Nat.lt_of_lt_of_le (by have := World.block_lt_of_cell? _ _ hw508_0; first | rwa [add_block] at this | exact this) GW510.out)) | (show (Addr.add _ _).block ≠ _; rw [add_block]; exact Nat.ne_of_lt (Nat.lt_of_lt_of_le (by have := World.block_lt_of_cell? _ _ hw508_0; first | rwa [add_block] at this | exact this) GW510.out)) | (dsimp only; exact Nat.ne_of_lt (Nat.lt_of_lt_of_le (by have := World.block_lt_of_cell? _ _ hw508_0; first | rwa [add_block] at this | exact this) GW510.out))) _).trans (((cell_far (p := ⟨gb510, _, none⟩) (by first | exact Nat.ne_of_lt (Nat.lt_of_lt_of_le (by have := World.block_lt_of_cell? _ _ hw508_0; first | rwa [add_block] at this | exact this) GW510.out) | (rw [add_block]; exact Nat.ne_of_lt (Nat.lt_of_lt_of_le (by have := World.block_lt_of_cell? _ _ hw508_0; first | rwa [add_block] at this | exact this) GW510.out)) | (show (Addr.add _ _).block ≠ _; rw [add_block]; exact Nat.ne_of_lt (Nat.lt_of_lt_of_le (by have := World.block_lt_of_cell? _ _ hw508_0; first | rwa [add_block] at this | exact this) GW510.out)) | (dsimp only; exact Nat.ne_of_lt (Nat.lt_of_lt_of_le (by have := World.block_lt_of_cell? _ _ hw508_0; first | rwa [add_block] at this | exact this) GW510.out))) _).trans (((cell_far (p := ⟨gb510, _, none⟩) (by first | exact Nat.ne_of_lt (Nat.lt_of_lt_of_le (by have := World.block_lt_of_cell? _ _ hw508_0; first | rwa [add_block] at this | exact this) GW510.out) | (rw [add_block]; exact Nat.ne_of_lt (Nat.lt_of_lt_of_le (by have := World.block_lt_of_cell? _ _ hw508_0; first | rwa [add_block] at this | exact this) GW510.out)) | (show (Addr.add _ _).block ≠ _; rw [add_block]; exact Nat.ne_of_lt (Nat.lt_of_lt_of_le (by have := World.block_lt_of_cell? _ _ hw508_0; first | rwa [add_block] at this | exact this) GW510.out)) | (dsimp only; exact Nat.ne_of_lt (Nat.lt_of_lt_of_le (by have := World.block_lt_of_cell? _ _ hw508_0; first | rwa [add_block] at this | exact this) GW510.out))) _).trans (hHeld.2.1)))))), ((cell_far (p := ⟨gb510, _, none⟩) (by first | exact Nat.ne_of_lt (Nat.lt_of_lt_of_le (by have := World.block_lt_of_cell? _ _ hw509_0; first | rwa [add_block] at this | exact this) GW510.out) | (rw [add_block]; exact Nat.ne_of_lt (Nat.lt_of_lt_of_le (by have := World.block_lt_of_cell? _ _ hw509_0; first | rwa [add_block] at this | exact this) GW510.out)) | (show (Addr.add _ _).block ≠ _; rw [add_block]; exact Nat.ne_of_lt (Nat.lt_of_lt_of_le (by have := World.block_lt_of_cell? _ _ hw509_0; first | rwa [add_block] at this | exact this) GW510.out)) | (dsimp only; exact Nat.ne_of_lt (Nat.lt_of_lt_of_le (by have := World.block_lt_of_cell? _ _ hw509_0; first | rwa [add_block] at this | exact this) GW510.out))) _).trans (((cell_far (p := ⟨gb510, _, none⟩) (by first | exact Nat.ne_of_lt (Nat.lt_of_lt_of_le (by have := World.block_lt_of_cell? _ _ hw509_0; first | rwa [add_block] at this | exact this) GW510.out) | (rw [add_block]; exact Nat.ne_of_lt (Nat.lt_of_lt_of_le (by have := World.block_lt_of_cell? _ _ hw509_0; first | rwa [add_block] at this | exact this) GW510.out)) | (show (Addr.add _ _).block ≠ _; rw [add_block]; exact Nat.ne_of_lt (Nat.lt_of_lt_of_le (by have := World.block_lt_of_cell? _ _ hw509_0; first | rwa [add_block] at this | exact this) GW510.out)) | (dsimp only; exact Nat.ne_of_lt (Nat.lt_of_lt_of_le (by have := World.block_lt_of_cell? _ _ hw509_0; first | rwa [add_block] at this | exact this) GW510.out))) _).trans (((cell_far (p := ⟨gb510, _, none⟩) (by first | exact Nat.ne_of_lt (Nat.lt_of_lt_of_le (by have := World.block_lt_of_cell? _ _ hw509_0; first | rwa [add_block] at this | exact this) GW510.out) | (rw [add_block]; exact Nat.ne_of_lt (Nat.lt_of_lt_of_le (by have := World.block_lt_of_cell? _ _ hw509_0; first | rwa [add_block] at this | exact this) GW510.out)) | (show (Addr.add _ _).block ≠ _; rw [add_block]; exact Nat.ne_of_lt (Nat.lt_of_lt_of_le (by have := World.block_lt_of_cell? _ _ hw509_0; first | rwa [add_block] at this | exact this) GW510.out)) | (dsimp only; exact Nat.ne_of_lt (Nat.lt_of_lt_of_le (by have := World.block_lt_of_cell? _ _ hw509_0; first | rwa [add_block] at this | exact this) GW510.out))) _).trans (hHeld.2.2.1)))))), ((cell_far (p := ⟨gb510, _, none⟩) (by first | exact Nat.ne_of_lt (Nat.lt_of_lt_of_le (by have := World.block_lt_of_cell? _ _ hw509_1; first | rwa [add_block] at this | exact this) GW510.out) | (rw [add_block]; exact Nat.ne_of_lt (Nat.lt_of_lt_of_le (by have := World.block_lt_of_cell? _ _ hw509_1; first | rwa [add_block] at this | exact this) GW510.out)) | (show (Addr.add _ _).block ≠ _; rw [add_block]; exact Nat.ne_of_lt (Nat.lt_of_lt_of_le (by have := World.block_lt_of_cell? _ _ hw509_1; first | rwa [add_block] at this | exact this) GW510.out)) | (dsimp only; exact Nat.ne_of_lt (Nat.lt_of_lt_of_le (by have := World.block_lt_of_cell? _ _ hw509_1; first | rwa [add_block] at this | exact this) GW510.out))) _).trans (((cell_far (p := ⟨gb510, _, none⟩) (by first | exact Nat.ne_of_lt (Nat.lt_of_lt_of_le (by have := World.block_lt_of_cell? _ _ hw509_1; first | rwa [add_block] at this | exact this) GW510.out) | (rw [add_block]; exact Nat.ne_of_lt (Nat.lt_of_lt_of_le (by have := World.block_lt_of_cell? _ _ hw509_1; first | rwa [add_block] at this | exact this) GW510.out)) | (show (Addr.add _ _).block ≠ _; rw [add_block]; exact Nat.ne_of_lt (Nat.lt_of_lt_of_le (by have := World.block_lt_of_cell? _ _ hw509_1; first | rwa [add_block] at this | exact this) GW510.out)) | (dsimp only; exact Nat.ne_of_lt (Nat.lt_of_lt_of_le (by have := World.block_lt_of_cell? _ _ hw509_1; first | rwa [add_block] at this | exact this) GW510.out))) _).trans (((cell_far (p := ⟨gb510, _, none⟩) (by first | exact Nat.ne_of_lt (Nat.lt_of_lt_of_le (by have := World.block_lt_of_cell? _ _ hw509_1; first | rwa [add_block] at this | exact this) GW510.out) | (rw [add_block]; exact Nat.ne_of_lt (Nat.lt_of_lt_of_le (by have := World.block_lt_of_cell? _ _ hw509_1; first | rwa [add_block] at this | exact this) GW510.out)) | (show (Addr.add _ _).block ≠ _; rw [add_block]; exact Nat.ne_of_lt (Nat.lt_of_lt_of_le (by have := World.block_lt_of_cell? _ _ hw509_1; first | rwa [add_block] at this | exact this) GW510.out)) | (dsimp only; exact Nat.ne_of_lt (Nat.lt_of_lt_of_le (by have := World.block_lt_of_cell? _ _ hw509_1; first | rwa [add_block] at this | exact this) GW510.out))) _).trans (hHeld.2.2.2.1)))))), ((cell_far (p := ⟨gb510, _, none⟩) (by first | exact Nat.ne_of_lt (Nat.lt_of_lt_of_le (by have := World.block_lt_of_cell? _ _ hw509_2; first | rwa [add_block] at this | exact this) GW510.out) | (rw [add_block]; exact Nat.ne_of_lt (Nat.lt_of_lt_of_le (by have := World.block_lt_of_cell? _ _ hw509_2; first | rwa [add_block] at this | exact this) GW510.out)) | (show (Addr.add _ _).block ≠ _; rw [add_block]; exact Nat.ne_of_lt (Nat.lt_of_lt_of_le (by have := World.block_lt_of_cell? _ _ hw509_2; first | rwa [add_block] at this | exact this) GW510.out)) | (dsimp only; exact Nat.ne_of_lt (Nat.lt_of_lt_of_le (by have := World.block_lt_of_cell? _ _ hw509_2; first | rwa [add_block] at this | exact this) GW510.out))) _).trans (((cell_far (p := ⟨gb510, _, none⟩) (by first | exact Nat.ne_of_lt (Nat.lt_of_lt_of_le (by have := World.block_lt_of_cell? _ _ hw509_2; first | rwa [add_block] at this | exact this) GW510.out) | (rw [add_block]; exact Nat.ne_of_lt (Nat.lt_of_lt_of_le (by have := World.block_lt_of_cell? _ _ hw509_2; first | rwa [add_block] at this | exact this) GW510.out)) | (show (Addr.add _ _).block ≠ _; rw [add_block]; exact Nat.ne_of_lt (Nat.lt_of_lt_of_le (by have := World.block_lt_of_cell? _ _ hw509_2; first | rwa [add_block] at this | exact this) GW510.out)) | (dsimp only; exact Nat.ne_of_lt (Nat.lt_of_lt_of_le (by have := World.block_lt_of_cell? _ _ hw509_2; first | rwa [add_block] at this | exact this) GW510.out))) _).trans (((cell_far (p := ⟨gb510, _, none⟩) (by first | exact Nat.ne_of_lt (Nat.lt_of_lt_of_le (by have := World.block_lt_of_cell? _ _ hw509_2; first | rwa [add_block] at this | exact this) GW510.out) | (rw [add_block]; exact Nat.ne_of_lt (Nat.lt_of_lt_of_le (by have := World.block_lt_of_cell? _ _ hw509_2; first | rwa [add_block] at this | exact this) GW510.out)) | (show (Addr.add _ _).block ≠ _; rw [add_block]; exact Nat.ne_of_lt (Nat.lt_of_lt_of_le (by have := World.block_lt_of_cell? _ _ hw509_2; first | rwa [add_block] at this | exact this) GW510.out)) | (dsimp only; exact Nat.ne_of_lt (Nat.lt_of_lt_of_le (by have := World.block_lt_of_cell? _ _ hw509_2; first | rwa [add_block] at this | exact this) GW510.out))) _).trans (hHeld.2.2.2.2))))))⟩ (fun hHeld => ?_)
         clear hK K
         refine done_ (done_of HT_.out (by kernel_rfl)) ?_
         have hnb23 := NB510_498.out
         have hnc23 := NB498_510.out
         have hcz24_0 : w19.cell? ⟨gb510, 0, none⟩ = some (.int .i64 0) := (blk_cell BK510.out 0).trans rfl
         have hcz24_1 : w19.cell? ⟨gb510, 1, none⟩ = some (.int .i64 0) := (blk_cell BK510.out 1).trans rfl
         have hcz24_2 : w19.cell? ⟨gb510, 2, none⟩ = some (.int .i64 0) := (blk_cell BK510.out 2).trans rfl
         have hfz24_0 := blk_frozen BK510.out 0
         have hfz24_1 := blk_frozen BK510.out 1
         have hfz24_2 := blk_frozen BK510.out 2
         try go_wp2
         have n0_ : Aside0 (Kd.R Kd.bool 4 (((w19.setCell ⟨gb510, 0, none⟩ (.int .i64 ((rd_T44 l0_0 (rd l1 x8_1)).f0))).setCell ⟨gb510, 1, none⟩ (.int .i64 ((rd_T44 l0_0 (rd l1 x8_1)).f1))).setCell ⟨gb510, 2, none⟩ (.int .i64 ((rd_T44 l0_0 (rd l1 x8_1)).f2))) w.heap.size (fun _ => True) v500 t499) := ⟨zr (Kd.R_mono (Kd.R_far (p := ⟨gb510, 2, none⟩) (Kd.R_far (p := ⟨gb510, 1, none⟩) (Kd.R_far (p := ⟨gb510, 0, none⟩) (Kd.R_types HO_6.out BK510.out (by decide)) (fun _ hk => hk.2) (.int .i64 ((rd_T44 l0_0 (rd l1 x8_1)).f0))) (fun _ hk => hk.2) (.int .i64 ((rd_T44 l0_0 (rd l1 x8_1)).f1))) (fun _ hk => hk.2) (.int .i64 ((rd_T44 l0_0 (rd l1 x8_1)).f2))) (fun _ hk => trivial))⟩
         have n1_ : Aside0 (Kd.R (Kd.int .i64) 3 (((w19.setCell ⟨gb510, 0, none⟩ (.int .i64 ((rd_T44 l0_0 (rd l1 x8_1)).f0))).setCell ⟨gb510, 1, none⟩ (.int .i64 ((rd_T44 l0_0 (rd l1 x8_1)).f1))).setCell ⟨gb510, 2, none⟩ (.int .i64 ((rd_T44 l0_0 (rd l1 x8_1)).f2))) w.heap.size (fun _ => True) u7 x7_1) := ⟨zr (Kd.R_mono (Kd.R_far (p := ⟨gb510, 2, none⟩) (Kd.R_far (p := ⟨gb510, 1, none⟩) (Kd.R_far (p := ⟨gb510, 0, none⟩) (Kd.R_types HO_7.out BK510.out (by decide)) (fun _ hk => hk.2) (.int .i64 ((rd_T44 l0_0 (rd l1 x8_1)).f0))) (fun _ hk => hk.2) (.int .i64 ((rd_T44 l0_0 (rd l1 x8_1)).f1))) (fun _ hk => hk.2) (.int .i64 ((rd_T44 l0_0 (rd l1 x8_1)).f2))) (fun _ hk => trivial))⟩
         have n2_ : Aside0 ((((w19.setCell ⟨gb510, 0, none⟩ (.int .i64 ((rd_T44 l0_0 (rd l1 x8_1)).f0))).setCell ⟨gb510, 1, none⟩ (.int .i64 ((rd_T44 l0_0 (rd l1 x8_1)).f1))).setCell ⟨gb510, 2, none⟩ (.int .i64 ((rd_T44 l0_0 (rd l1 x8_1)).f2))).heap[gb498]? = some (.cells #[.slice (some ad509) l0_0.length c0_0] 30 (0, 0))) := ⟨zf BK498.out⟩
         have n3_ : Aside0 ((((w19.setCell ⟨gb510, 0, none⟩ (.int .i64 ((rd_T44 l0_0 (rd l1 x8_1)).f0))).setCell ⟨gb510, 1, none⟩ (.int .i64 ((rd_T44 l0_0 (rd l1 x8_1)).f1))).setCell ⟨gb510, 2, none⟩ (.int .i64 ((rd_T44 l0_0 (rd l1 x8_1)).f2))).heap[gb510]? = some (.cells #[.int .i64 ((rd_T44 l0_0 (rd l1 x8_1)).f0), .int .i64 ((rd_T44 l0_0 (rd l1 x8_1)).f1), .int .i64 ((rd_T44 l0_0 (rd l1 x8_1)).f2)] 44 (0, 0))) := ⟨by (with_reducible repeat (first | refine blk_drewN ?_ _ | refine blk_drew ?_ | refine blk_alloc ?_ _)); refine blk_put (cs := #[.int .i64 ((rd_T44 l0_0 (rd l1 x8_1)).f0), .int .i64 ((rd_T44 l0_0 (rd l1 x8_1)).f1), .int .i64 0]) ?_ 2 _ rfl; (with_reducible repeat (first | refine blk_drewN ?_ _ | refine blk_drew ?_ | refine blk_alloc ?_ _)); refine blk_put (cs := #[.int .i64 ((rd_T44 l0_0 (rd l1 x8_1)).f0), .int .i64 0, .int .i64 0]) ?_ 1 _ rfl; (with_reducible repeat (first | refine blk_drewN ?_ _ | refine blk_drew ?_ | refine blk_alloc ?_ _)); refine blk_put (cs := #[.int .i64 0, .int .i64 0, .int .i64 0]) ?_ 0 _ rfl; (with_reducible repeat (first | refine blk_drewN ?_ _ | refine blk_drew ?_ | refine blk_alloc ?_ _)); exact BK510.out⟩
         have n4_ : Aside0 (Below w.heap.size w (((w19.setCell ⟨gb510, 0, none⟩ (.int .i64 ((rd_T44 l0_0 (rd l1 x8_1)).f0))).setCell ⟨gb510, 1, none⟩ (.int .i64 ((rd_T44 l0_0 (rd l1 x8_1)).f1))).setCell ⟨gb510, 2, none⟩ (.int .i64 ((rd_T44 l0_0 (rd l1 x8_1)).f2)))) := ⟨zb HB.out⟩
         (try clear HO_6)
         (try clear HO_7)
         (try clear BK498)
         (try clear BK510)
         (try clear HB)
         generalize (((w19.setCell ⟨gb510, 0, none⟩ (.int .i64 ((rd_T44 l0_0 (rd l1 x8_1)).f0))).setCell ⟨gb510, 1, none⟩ (.int .i64 ((rd_T44 l0_0 (rd l1 x8_1)).f1))).setCell ⟨gb510, 2, none⟩ (.int .i64 ((rd_T44 l0_0 (rd l1 x8_1)).f2))) = w25 at n0_ n1_ n2_ n3_ n4_ ⊢
         have HO_6 := n0_
         have HO_7 := n1_
         have BK498 := n2_
         have BK510 := n3_
         have HB := n4_
         clear n0_ n1_ n2_ n3_ n4_
         have n0_ := Aside0.mk (Kd.R_drew HO_6.out)
         have n1_ := Aside0.mk (Kd.R_drew HO_7.out)
         have n2_ := Aside0.mk (blk_drew BK498.out)
         have n3_ := Aside0.mk (blk_drew BK510.out)
         have n4_ := Aside0.mk (below_drew1 HB.out)
         clear HO_6
         clear HO_7
         clear BK498
         clear BK510
         clear HB
         have HO_6 := n0_
         have HO_7 := n1_
         have BK498 := n2_
         have BK510 := n3_
         have HB := n4_
         clear n0_ n1_ n2_ n3_ n4_
         obtain ⟨Ao27, co27, eo27⟩ := Kd.R_slice HO_7.out
         (first | subst eo27 | (injection eo27 with f1_ f2_ f3_; have f4_ := f1_.symm; have f5_ := f3_.symm; clear f1_ f2_ f3_; subst f4_; subst f5_))
         refine start_ (n := 8) (S := fun w' => w'.cell? ⟨gb510, 0, none⟩ = some (.int .i64 ((rd_T44 l0_0 (rd l1 x8_1)).f0)) ∧ w'.cell? ⟨gb510, 1, none⟩ = some (.int .i64 ((rd_T44 l0_0 (rd l1 x8_1)).f1)) ∧ w'.cell? ⟨gb510, 2, none⟩ = some (.int .i64 ((rd_T44 l0_0 (rd l1 x8_1)).f2))) (ds := []) #[false, false, false, false, false, false, false, false] (by kernel_rfl) rfl rfl ⟨(blk_cell BK510.out 0).trans rfl, (blk_cell BK510.out 1).trans rfl, (blk_cell BK510.out 2).trans rfl⟩ (fun hHeld => ?_); refine with_tabW spec_l8Once.tab8 spec_l8Once.bits8 (fun HT_ HW_ => ?_)
         generalize w25.drew = w26 at HO_6 HO_7 BK498 BK510 HB hHeld ⊢
         refine pure_ (i := 0) (N := some 34) (v := ?_) (a' := ?_) #[true, false, false, false, false, false, false, false] rfl rfl (any_of HT_.out (by kernel_rfl)) (fun _ _ _ h => h) (Or.inl ⟨by rfl, ?_⟩) ?_ ?_
         rotate_left
         ·intro w'
          go_simp
          with_reducible rfl
         rotate_left
         ·simp only [Act.put, List.setIfInBounds_toArray, List.set_cons_zero, List.set_cons_succ, i64_w, i32_w]
          rfl
         refine pure_ (i := 1) (N := some 35) (v := ?_) (a' := ?_) #[true, true, false, false, false, false, false, false] rfl rfl (any_of HT_.out (by kernel_rfl)) (fun _ _ _ h => h) (Or.inl ⟨by rfl, ?_⟩) ?_ ?_
         rotate_left
         ·intro w'
          go_simp
          with_reducible rfl
         rotate_left
         ·simp only [Act.put, List.setIfInBounds_toArray, List.set_cons_zero, List.set_cons_succ, i64_w, i32_w]
          rfl
         refine pure_ (i := 4) (N := some 38) (v := ?_) (a' := ?_) #[true, true, false, false, true, false, false, false] rfl rfl (any_of HT_.out (by kernel_rfl)) (fun _ _ _ h => h) (Or.inl ⟨by rfl, ?_⟩) ?_ ?_
         rotate_left
         ·intro w'
          go_simp
          with_reducible rfl
         rotate_left
         ·simp only [Act.put, List.setIfInBounds_toArray, List.set_cons_zero, List.set_cons_succ, i64_w, i32_w]
          rfl
         refine take_ (i := 2) (N := some 36) (v := ?_) (a' := ?_) #[true, true, true, false, true, false, false, false] rfl rfl (take_ofW HT_.out HW_.out (by kernel_rfl)) (fun _ _ _ h => h) (Or.inl ⟨by rfl, ?_⟩) hHeld ?_ ?_
         rotate_left
         ·rintro w' ⟨s0, s1, s2⟩
          go_simp
          with_reducible rfl
         rotate_left
         ·simp only [Act.put, List.setIfInBounds_toArray, List.set_cons_zero, List.set_cons_succ, i64_w, i32_w]
          rfl
         refine take_ (i := 5) (N := some 39) (v := ?_) (a' := ?_) #[true, true, true, false, true, true, false, false] rfl rfl (take_ofW HT_.out HW_.out (by kernel_rfl)) (fun _ _ _ h => h) (Or.inl ⟨by rfl, ?_⟩) hHeld ?_ ?_
         rotate_left
         ·rintro w' ⟨s0, s1, s2⟩
          go_simp
          with_reducible rfl
         rotate_left
         ·simp only [Act.put, List.setIfInBounds_toArray, List.set_cons_zero, List.set_cons_succ, i64_w, i32_w]
          rfl
         refine one_ (i := 3) (N := some 37) #[true, true, true, true, true, true, false, false] rfl rfl (one_of HT_.out (by kernel_rfl)) (by decide) (fun K hK => ?_)
         refine goes_ Try.func55 (by kernel_rfl) rfl #[.slice Ao27 x7_1.length co27, .int .i64 ((rd_T44 l0_0 (rd l1 x8_1)).f1)] (by rfl) rfl rfl zl ?_
         with_reducible refine (spec_l6Put.calls k1 _ _ x7_1 ((rd_T44 l0_0 (rd l1 x8_1)).f1) t511 _ ?side1 ?side2 A16.out).mono ?_
         (case side1 => exact zc (Kd.R_reads' HO_7.out).2.2)
         (case side2 => exact (Kd.R_reads' HO_7.out).2.1)
         rintro e w28 ⟨v512, rfl, ho0, hb⟩
         refine ⟨_, rfl, ?_⟩
         have n0_ := Aside0.mk (Kd.R_below (zr HO_6.out) hb)
         have n1_ := Aside0.mk (Kd.R_elder' (zr HO_7.out) (Kd.R_base ho0) hb)
         have n2_ := Aside0.mk (Kd.R_lower (Kd.R_new' ho0 (Kd.R_lt (zr HO_7.out))) (below_size (zb HB.out)))
         have n3_ := Aside0.mk (blk_below (zh BK498.out) hb)
         have n4_ := Aside0.mk (blk_below (zh BK510.out) hb)
         have n5_ := Aside0.mk (below_step (zb HB.out) hb)
         clear HO_6
         clear HO_7
         clear BK498
         clear BK510
         clear HB
         have HO_6 := n0_
         have HO_7 := n1_
         have HO513 := n2_
         have BK498 := n3_
         have BK510 := n4_
         have HB := n5_
         clear n0_ n1_ n2_ n3_ n4_ n5_
         (try clear hb)
         (try clear hb2)
         (try clear hk)
         (try clear hi)
         (try clear ho0)
         obtain ⟨Ao29, co29, eo29⟩ := Kd.R_slice HO513.out
         (first | subst eo29 | (injection eo29 with f1_ f2_ f3_; have f4_ := f1_.symm; have f5_ := f3_.symm; clear f1_ f2_ f3_; subst f4_; subst f5_))
         refine hK.out _ _ ⟨(blk_cell BK510.out 0).trans rfl, (blk_cell BK510.out 1).trans rfl, (blk_cell BK510.out 2).trans rfl⟩ (fun hHeld => ?_)
         clear hK K
         refine norm_ (a' := ?_) ?_ ?_
         rotate_left
         ·show Act.put _ (some 37) _ = _
          simp only [Act.put, List.setIfInBounds_toArray, List.set_cons_zero, List.set_cons_succ, i64_w, i32_w]
          rfl
         refine one_ (i := 6) (N := some 40) #[true, true, true, true, true, true, true, false] rfl rfl (one_of HT_.out (by kernel_rfl)) (by decide) (fun K hK => ?_)
         refine goes_ Try.func55 (by kernel_rfl) rfl #[.slice Ao29 t511.length co29, .int .i64 ((rd_T44 l0_0 (rd l1 x8_1)).f2)] (by rfl) rfl rfl zl ?_
         with_reducible refine (spec_l6Put.calls k1 _ _ t511 ((rd_T44 l0_0 (rd l1 x8_1)).f2) t514 _ ?side1 ?side2 A17.out).mono ?_
         (case side1 => exact zc (Kd.R_reads' HO513.out).2.2)
         (case side2 => exact (Kd.R_reads' HO513.out).2.1)
         rintro e w30 ⟨v515, rfl, ho0, hb⟩
         refine ⟨_, rfl, ?_⟩
         have n0_ := Aside0.mk (Kd.R_below (zr HO_6.out) hb)
         have n1_ := Aside0.mk (Kd.R_elder' (zr HO_7.out) (Kd.R_base ho0) hb)
         have n2_ := Aside0.mk (Kd.R_elder' (zr HO513.out) (Kd.R_base ho0) hb)
         have n3_ := Aside0.mk (Kd.R_lower (Kd.R_new' (Kd.R_new' ho0 (Kd.R_lt (zr HO_7.out))) (Kd.R_lt (zr HO513.out))) (below_size (zb HB.out)))
         have n4_ := Aside0.mk (blk_below (zh BK498.out) hb)
         have n5_ := Aside0.mk (blk_below (zh BK510.out) hb)
         have n6_ := Aside0.mk (below_step (zb HB.out) hb)
         clear HO_6
         clear HO_7
         clear HO513
         clear BK498
         clear BK510
         clear HB
         have HO_6 := n0_
         have HO_7 := n1_
         have HO513 := n2_
         have HO516 := n3_
         have BK498 := n4_
         have BK510 := n5_
         have HB := n6_
         clear n0_ n1_ n2_ n3_ n4_ n5_ n6_
         (try clear hb)
         (try clear hb2)
         (try clear hk)
         (try clear hi)
         (try clear ho0)
         refine hK.out _ _ ⟨(blk_cell BK510.out 0).trans rfl, (blk_cell BK510.out 1).trans rfl, (blk_cell BK510.out 2).trans rfl⟩ (fun hHeld => ?_)
         clear hK K
         refine norm_ (a' := ?_) ?_ ?_
         rotate_left
         ·show Act.put _ (some 40) _ = _
          simp only [Act.put, List.setIfInBounds_toArray, List.set_cons_zero, List.set_cons_succ, i64_w, i32_w]
          rfl
         refine pure_ (i := 7) (N := some 7) (v := ?_) (a' := ?_) #[true, true, true, true, true, true, true, true] rfl rfl (any_of HT_.out (by kernel_rfl)) (fun _ _ _ h => h) (Or.inl ⟨by rfl, ?_⟩) ?_ ?_
         rotate_left
         ·intro w'
          go_simp
          with_reducible rfl
         rotate_left
         ·simp only [Act.put, List.setIfInBounds_toArray, List.set_cons_zero, List.set_cons_succ, i64_w, i32_w]
          rfl
         refine done_ (done_of HT_.out (by kernel_rfl)) ?_
         try go_wp2
         go_roundg k1
         case measure => have := HK1.out; omega
         case rel => exact ⟨(t514), (wrap64 (x8_1 + 1)), (by first | rfl | (simp; done) | (simp [*]; done)), H', ⟨by have := HK1.out; omega⟩, ⟨zr HO_6.out⟩, ⟨zr (Kd.R_mono HO516.out (fun _ hk => trivial))⟩, ⟨zh BK498.out⟩, ⟨zb HB.out⟩⟩
        ·rw [if_neg c15] at H
         have c15b0 : (((rd_T44 l0_0 (rd l1 x8_1)).f0) == 2) = false := beq_eq_false_iff_ne.mpr c15
         have c15b1 : (((rd_T44 l0_0 (rd l1 x8_1)).f0) != 2) = true := bne_iff_ne.mpr c15
         by_cases c31 : ((rd_T44 l0_0 (rd l1 x8_1)).f0) = 4
         ·rw [if_pos c31] at H
          have c31b0 : (((rd_T44 l0_0 (rd l1 x8_1)).f0) == 4) = true := beq_iff_eq.mpr c31
          have c31b1 : (((rd_T44 l0_0 (rd l1 x8_1)).f0) != 4) = false := bne_eq_false_iff_eq.mpr c31
          clear c31
          replace H := Option.bind_eq_some_iff.mp H
          obtain ⟨t517, A320, H⟩ := H
          replace H : (spec_l8Once.l0 k1 l1 t499 t517 (wrap64 (x8_1 + 1)) l0_0) = some (r1, r2) := H
          have A32 := Aside0.mk A320
          clear A320
          have H' := Aside0.mk H
          clear H
          try go_wp2
          have n0_ := Aside0.mk (Kd.R_drew HO_6.out)
          have n1_ := Aside0.mk (Kd.R_drew HO_7.out)
          have n2_ := Aside0.mk (blk_drew BK498.out)
          have n3_ := Aside0.mk (below_drew1 HB.out)
          clear HO_6
          clear HO_7
          clear BK498
          clear HB
          have HO_6 := n0_
          have HO_7 := n1_
          have BK498 := n2_
          have HB := n3_
          clear n0_ n1_ n2_ n3_
          have p508 : 0 ≤ (x8_1 : Int) := of_decide_eq_true (by first | (with_reducible assumption) | assumption)
          have q508 : x8_1 < (l1.length : Int) := of_decide_eq_true (by first | (with_reducible assumption) | assumption)
          obtain ⟨ad508, e508, hx508_0⟩ := Kd.at_int HR1.out x8_1 p508 q508
          have hw508_0 := hx508_0
          cases e508
          replace hx508_0 := (HB.out.cell (World.block_lt_of_cell? w _ hx508_0)).trans hx508_0
          replace p508 := eq_true p508
          replace q508 := eq_true q508
          have p509 : 0 ≤ ((rd l1 x8_1) : Int) := of_decide_eq_true (by first | (with_reducible assumption) | assumption)
          have q509 : (rd l1 x8_1) < (l0_0.length : Int) := of_decide_eq_true (by first | (with_reducible assumption) | assumption)
          obtain ⟨ad509, e509, hx509_0, hx509_1, hx509_2⟩ := at_T44 HR0_0.out (rd l1 x8_1) p509 q509
          have hw509_2 := hx509_2
          have hw509_1 := hx509_1
          have hw509_0 := hx509_0
          cases e509
          replace hx509_0 := (HB.out.cell (World.block_lt_of_cell? w _ hx509_0)).trans hx509_0
          replace hx509_1 := (HB.out.cell (World.block_lt_of_cell? w _ hx509_1)).trans hx509_1
          replace hx509_2 := (HB.out.cell (World.block_lt_of_cell? w _ hx509_2)).trans hx509_2
          replace p509 := eq_true p509
          replace q509 := eq_true q509
          refine start_ (n := 10) (S := fun w' => w'.cell? ⟨gb498, 0, none⟩ = some (.slice (some ad509) l0_0.length c0_0) ∧ w'.cell? (ad508.add (x8_1).toNat) = some (.int .i64 (rd l1 x8_1)) ∧ w'.cell? (ad509.add (((rd l1 x8_1)).toNat * 3)) = some (.int .i64 ((rd_T44 l0_0 (rd l1 x8_1)).f0)) ∧ w'.cell? ⟨(ad509.add (((rd l1 x8_1)).toNat * 3)).block, (ad509.add (((rd l1 x8_1)).toNat * 3)).off + 1, none⟩ = some (.int .i64 ((rd_T44 l0_0 (rd l1 x8_1)).f1)) ∧ w'.cell? ⟨(ad509.add (((rd l1 x8_1)).toNat * 3)).block, (ad509.add (((rd l1 x8_1)).toNat * 3)).off + 2, none⟩ = some (.int .i64 ((rd_T44 l0_0 (rd l1 x8_1)).f2))) (ds := []) #[false, false, false, false, false, false, false, false, false, false] (by kernel_rfl) rfl rfl ⟨(blk_cell BK498.out 0).trans rfl, ((HB.out.cell (World.block_lt_of_cell? w _ hw508_0)).trans hw508_0), ((HB.out.cell (World.block_lt_of_cell? w _ hw509_0)).trans hw509_0), ((HB.out.cell (World.block_lt_of_cell? w _ hw509_1)).trans hw509_1), ((HB.out.cell (World.block_lt_of_cell? w _ hw509_2)).trans hw509_2)⟩ (fun hHeld => ?_); refine with_tabW spec_l8Once.tab6 spec_l8Once.bits6 (fun HT_ HW_ => ?_)
          generalize wr.drew = w33 at HO_6 HO_7 BK498 HB hx508_0 hx509_0 hx509_1 hx509_2 hHeld ⊢
          refine pure_ (i := 0) (N := some 22) (v := ?_) (a' := ?_) #[true, false, false, false, false, false, false, false, false, false] rfl rfl (any_of HT_.out (by kernel_rfl)) (fun _ _ _ h => h) (Or.inl ⟨by rfl, ?_⟩) ?_ ?_
          rotate_left
          ·intro w'
           go_simp
           with_reducible rfl
          rotate_left
          ·simp only [Act.put, List.setIfInBounds_toArray, List.set_cons_zero, List.set_cons_succ, i64_w, i32_w]
           rfl
          refine pure_ (i := 2) (N := some 24) (v := ?_) (a' := ?_) #[true, false, true, false, false, false, false, false, false, false] rfl rfl (any_of HT_.out (by kernel_rfl)) (fun _ _ _ h => h) (Or.inl ⟨by rfl, ?_⟩) ?_ ?_
          rotate_left
          ·intro w'
           go_simp
           with_reducible rfl
          rotate_left
          ·simp only [Act.put, List.setIfInBounds_toArray, List.set_cons_zero, List.set_cons_succ, i64_w, i32_w]
           rfl
          refine pure_ (i := 3) (N := some 25) (v := ?_) (a' := ?_) #[true, false, true, true, false, false, false, false, false, false] rfl rfl (any_of HT_.out (by kernel_rfl)) (fun _ _ _ h => h) (Or.inl ⟨by rfl, ?_⟩) ?_ ?_
          rotate_left
          ·intro w'
           go_simp
           with_reducible rfl
          rotate_left
          ·simp only [Act.put, List.setIfInBounds_toArray, List.set_cons_zero, List.set_cons_succ, i64_w, i32_w]
           rfl
          refine pure_ (i := 4) (N := some 26) (v := ?_) (a' := ?_) #[true, false, true, true, true, false, false, false, false, false] rfl rfl (any_of HT_.out (by kernel_rfl)) (fun _ _ _ h => h) (Or.inl ⟨by rfl, ?_⟩) ?_ ?_
          rotate_left
          ·intro w'
           go_simp
           with_reducible rfl
          rotate_left
          ·simp only [Act.put, List.setIfInBounds_toArray, List.set_cons_zero, List.set_cons_succ, i64_w, i32_w]
           rfl
          refine take_ (i := 1) (N := some 23) (v := ?_) (a' := ?_) #[true, true, true, true, true, false, false, false, false, false] rfl rfl (take_ofW HT_.out HW_.out (by kernel_rfl)) (fun _ _ _ h => h) (Or.inl ⟨by rfl, ?_⟩) hHeld ?_ ?_
          rotate_left
          ·rintro w' ⟨s0, s1, s2, s3, s4⟩
           go_simp
           with_reducible rfl
          rotate_left
          ·simp only [Act.put, List.setIfInBounds_toArray, List.set_cons_zero, List.set_cons_succ, i64_w, i32_w]
           rfl
          refine take_ (i := 5) (N := some 27) (v := ?_) (a' := ?_) #[true, true, true, true, true, true, false, false, false, false] rfl rfl (take_ofW HT_.out HW_.out (by kernel_rfl)) (fun _ _ _ h => h) (Or.inl ⟨by rfl, ?_⟩) hHeld ?_ ?_
          rotate_left
          ·rintro w' ⟨s0, s1, s2, s3, s4⟩
           go_simp
           with_reducible rfl
          rotate_left
          ·simp only [Act.put, List.setIfInBounds_toArray, List.set_cons_zero, List.set_cons_succ, i64_w, i32_w]
           rfl
          refine pure_ (i := 6) (N := some 28) (v := ?_) (a' := ?_) #[true, true, true, true, true, true, true, false, false, false] rfl rfl (any_of HT_.out (by kernel_rfl)) (fun _ _ _ h => h) (Or.inl ⟨by rfl, ?_⟩) ?_ ?_
          rotate_left
          ·intro w'
           go_simp
           with_reducible rfl
          rotate_left
          ·simp only [Act.put, List.setIfInBounds_toArray, List.set_cons_zero, List.set_cons_succ, i64_w, i32_w]
           rfl
          refine take_ (i := 7) (N := some 29) (v := ?_) (a' := ?_) #[true, true, true, true, true, true, true, true, false, false] rfl rfl (take_ofW HT_.out HW_.out (by kernel_rfl)) (fun _ _ _ h => h) (Or.inl ⟨by rfl, ?_⟩) hHeld ?_ ?_
          rotate_left
          ·rintro w' ⟨s0, s1, s2, s3, s4⟩
           go_simp
           with_reducible rfl
          rotate_left
          ·simp only [Act.put, List.setIfInBounds_toArray, List.set_cons_zero, List.set_cons_succ, i64_w, i32_w]
           rfl
          refine one_ (i := 8) (N := some 9) #[true, true, true, true, true, true, true, true, true, false] rfl rfl (one_of HT_.out (by kernel_rfl)) (by decide) (fun K hK => ?_)
          refine box_step ?hg (N := 9) ?hd (cs := #[.int .i64 0, .int .i64 0, .int .i64 0]) (t := 44) ?hr ?_; (case hd => rfl); (case hg => rfl); (case hr => first | (go_simp; done) | (go_simp; rfl))
          intro gb510 hg w34 hbox hb
          have n0_ := Aside0.mk (Kd.R_below (zr HO_6.out) hb)
          have n1_ := Aside0.mk (Kd.R_below (zr HO_7.out) hb)
          have n2_ := Aside0.mk (blk_below (zh BK498.out) hb)
          have n3_ := Aside0.mk (below_step (zb HB.out) hb)
          have n4_ := Aside0.mk (hbox)
          have n5_ := Aside0.mk ((by rw [hg]; exact (below_size (zb HB.out)) : w.heap.size ≤ gb510))
          have n6_ := Aside0.mk ((by rw [hg]; exact (below_size (zb HB.out)) : w.heap.size ≤ gb510))
          have n7_ := Aside0.mk ((by rw [hg]; exact Nat.ne_of_lt (blk_lt (zh BK498.out)) : gb498 ≠ gb510))
          have n8_ := Aside0.mk ((by rw [hg]; exact Nat.ne_of_gt (blk_lt (zh BK498.out)) : gb510 ≠ gb498))
          clear HO_6
          clear HO_7
          clear BK498
          clear HB
          have HO_6 := n0_
          have HO_7 := n1_
          have BK498 := n2_
          have HB := n3_
          have BK510 := n4_
          have GW510 := n5_
          have GE510 := n6_
          have NB498_510 := n7_
          have NB510_498 := n8_
          clear n0_ n1_ n2_ n3_ n4_ n5_ n6_ n7_ n8_
          clear hb hbox hg
          refine hK.out _ _ ⟨(blk_cell BK498.out 0).trans rfl, ((HB.out.cell (World.block_lt_of_cell? w _ hw508_0)).trans hw508_0), ((HB.out.cell (World.block_lt_of_cell? w _ hw509_0)).trans hw509_0), ((HB.out.cell (World.block_lt_of_cell? w _ hw509_1)).trans hw509_1), ((HB.out.cell (World.block_lt_of_cell? w _ hw509_2)).trans hw509_2)⟩ (fun hHeld => ?_)
          clear hK K
          refine norm_ (a' := ?_) ?_ ?_
          rotate_left
          ·show Act.put _ (some 9) _ = _
           simp only [Act.put, List.setIfInBounds_toArray, List.set_cons_zero, List.set_cons_succ, i64_w, i32_w]
           rfl
          refine one_ (i := 9) (N := none) #[true, true, true, true, true, true, true, true, true, true] rfl rfl (one_of HT_.out (by kernel_rfl)) (by decide) (fun K hK => ?_)
          have hs35 : w34.cell? ⟨gb510, 0, none⟩ = some (.int .i64 0) := (blk_cell BK510.out 0).trans rfl
          have hfs35 := blk_frozen BK510.out 0
          have hns35_0 := NB498_510.out
          have hms35_0 := NB510_498.out
          have hs36 : w34.cell? ⟨gb510, 1, none⟩ = some (.int .i64 0) := (blk_cell BK510.out 1).trans rfl
          have hfs36 := blk_frozen BK510.out 1
          have hns36_0 := NB498_510.out
          have hms36_0 := NB510_498.out
          have hs37 : w34.cell? ⟨gb510, 2, none⟩ = some (.int .i64 0) := (blk_cell BK510.out 2).trans rfl
          have hfs37 := blk_frozen BK510.out 2
          have hns37_0 := NB498_510.out
          have hms37_0 := NB510_498.out
          refine skip_ (w1 := ?_) (by rfl) rfl ?_ ?_
          rotate_left
          ·go_simp
           rfl
          refine hK.out _ _ ⟨((cell_far (p := ⟨gb510, _, none⟩) NB498_510.out _).trans (((cell_far (p := ⟨gb510, _, none⟩) NB498_510.out _).trans (((cell_far (p := ⟨gb510, _, none⟩) NB498_510.out _).trans (hHeld.1)))))), ((cell_far (p := ⟨gb510, _, none⟩) (by first | exact Nat.ne_of_lt (Nat.lt_of_lt_of_le (by have := World.block_lt_of_cell? _ _ hw508_0; first | rwa [add_block] at this | exact this) GW510.out) | (rw [add_block]; exact Nat.ne_of_lt (Nat.lt_of_lt_of_le (by have := World.block_lt_of_cell? _ _ hw508_0; first | rwa [add_block] at this | exact this) GW510.out)) | (show (Addr.add _ _).block ≠ _; rw [add_block]; exact Nat.ne_of_lt (Nat.lt_of_lt_of_le (by have := World.block_lt_of_cell? _ _ hw508_0; first | rwa [add_block] at this | exact this) GW510.out)) | (dsimp only; exact Nat.ne_of_lt (Nat.lt_of_lt_of_le (by have := World.block_lt_of_cell? _ _ hw508_0; first | rwa [add_block] at this | exact this) GW510.out))) _).trans (((cell_far (p := ⟨gb510, _, none⟩) (by first | exact Nat.ne_of_lt (Nat.lt_of_lt_of_le (by have := World.block_lt_of_cell? _ _ hw508_0; first | rwa [add_block] at this | exact this) GW510.out) | (rw [add_block]; exact Nat.ne_of_lt (Nat.lt_of_lt_of_le (by have := World.block_lt_of_cell? _ _ hw508_0; first | rwa [add_block] at this | exact this) GW510.out)) | (show (Addr.add _ _).block ≠ _; rw [add_block]; exact Nat.ne_of_lt (Nat.lt_of_lt_of_le (by have := World.block_lt_of_cell? _ _ hw508_0; first | rwa [add_block] at this | exact this) GW510.out)) | (dsimp only; exact Nat.ne_of_lt (Nat.lt_of_lt_of_le (by have := World.block_lt_of_cell? _ _ hw508_0; first | rwa [add_block] at this | exact this) GW510.out))) _).trans (((cell_far (p := ⟨gb510, _, none⟩) (by first | exact Nat.ne_of_lt (Nat.lt_of_lt_of_le (by have := World.block_lt_of_cell? _ _ hw508_0; first | rwa [add_block] at this | exact this) GW510.out) | (rw [add_block]; exact Nat.ne_of_lt (Nat.lt_of_lt_of_le (by have := World.block_lt_of_cell? _ _ hw508_0; first | rwa [add_block] at this | exact this) GW510.out)) | (show (Addr.add _ _).block ≠ _; rw [add_block]; exact Nat.ne_of_lt (Nat.lt_of_lt_of_le (by have := World.block_lt_of_cell? _ _ hw508_0; first | rwa [add_block] at this | exact this) GW510.out)) | (dsimp only; exact Nat.ne_of_lt (Nat.lt_of_lt_of_le (by have := World.block_lt_of_cell? _ _ hw508_0; first | rwa [add_block] at this | exact this) GW510.out))) _).trans (hHeld.2.1)))))), ((cell_far (p := ⟨gb510, _, none⟩) (by first | exact Nat.ne_of_lt (Nat.lt_of_lt_of_le (by have := World.block_lt_of_cell? _ _ hw509_0; first | rwa [add_block] at this | exact this) GW510.out) | (rw [add_block]; exact Nat.ne_of_lt (Nat.lt_of_lt_of_le (by have := World.block_lt_of_cell? _ _ hw509_0; first | rwa [add_block] at this | exact this) GW510.out)) | (show (Addr.add _ _).block ≠ _; rw [add_block]; exact Nat.ne_of_lt (Nat.lt_of_lt_of_le (by have := World.block_lt_of_cell? _ _ hw509_0; first | rwa [add_block] at this | exact this) GW510.out)) | (dsimp only; exact Nat.ne_of_lt (Nat.lt_of_lt_of_le (by have := World.block_lt_of_cell? _ _ hw509_0; first | rwa [add_block] at this | exact this) GW510.out))) _).trans (((cell_far (p := ⟨gb510, _, none⟩) (by first | exact Nat.ne_of_lt (Nat.lt_of_lt_of_le (by have := World.block_lt_of_cell? _ _ hw509_0; first | rwa [add_block] at this | exact this) GW510.out) | (rw [add_block]; exact Nat.ne_of_lt (Nat.lt_of_lt_of_le (by have := World.block_lt_of_cell? _ _ hw509_0; first | rwa [add_block] at this | exact this) GW510.out)) | (show (Addr.add _ _).block ≠ _; rw [add_block]; exact Nat.ne_of_lt (Nat.lt_of_lt_of_le (by have := World.block_lt_of_cell? _ _ hw509_0; first | rwa [add_block] at this | exact this) GW510.out)) | (dsimp only; exact Nat.ne_of_lt (Nat.lt_of_lt_of_le (by have := World.block_lt_of_cell? _ _ hw509_0; first | rwa [add_block] at this | exact this) GW510.out))) _).trans (((cell_far (p := ⟨gb510, _, none⟩) (by first | exact Nat.ne_of_lt (Nat.lt_of_lt_of_le (by have := World.block_lt_of_cell? _ _ hw509_0; first | rwa [add_block] at this | exact this) GW510.out) | (rw [add_block]; exact Nat.ne_of_lt (Nat.lt_of_lt_of_le (by have := World.block_lt_of_cell? _ _ hw509_0; first | rwa [add_block] at this | exact this) GW510.out)) | (show (Addr.add _ _).block ≠ _; rw [add_block]; exact Nat.ne_of_lt (Nat.lt_of_lt_of_le (by have := World.block_lt_of_cell? _ _ hw509_0; first | rwa [add_block] at this | exact this) GW510.out)) | (dsimp only; exact Nat.ne_of_lt (Nat.lt_of_lt_of_le (by have := World.block_lt_of_cell? _ _ hw509_0; first | rwa [add_block] at this | exact this) GW510.out))) _).trans (hHeld.2.2.1)))))), ((cell_far (p := ⟨gb510, _, none⟩) (by first | exact Nat.ne_of_lt (Nat.lt_of_lt_of_le (by have := World.block_lt_of_cell? _ _ hw509_1; first | rwa [add_block] at this | exact this) GW510.out) | (rw [add_block]; exact Nat.ne_of_lt (Nat.lt_of_lt_of_le (by have := World.block_lt_of_cell? _ _ hw509_1; first | rwa [add_block] at this | exact this) GW510.out)) | (show (Addr.add _ _).block ≠ _; rw [add_block]; exact Nat.ne_of_lt (Nat.lt_of_lt_of_le (by have := World.block_lt_of_cell? _ _ hw509_1; first | rwa [add_block] at this | exact this) GW510.out)) | (dsimp only; exact Nat.ne_of_lt (Nat.lt_of_lt_of_le (by have := World.block_lt_of_cell? _ _ hw509_1; first | rwa [add_block] at this | exact this) GW510.out))) _).trans (((cell_far (p := ⟨gb510, _, none⟩) (by first | exact Nat.ne_of_lt (Nat.lt_of_lt_of_le (by have := World.block_lt_of_cell? _ _ hw509_1; first | rwa [add_block] at this | exact this) GW510.out) | (rw [add_block]; exact Nat.ne_of_lt (Nat.lt_of_lt_of_le (by have := World.block_lt_of_cell? _ _ hw509_1; first | rwa [add_block] at this | exact this) GW510.out)) | (show (Addr.add _ _).block ≠ _; rw [add_block]; exact Nat.ne_of_lt (Nat.lt_of_lt_of_le (by have := World.block_lt_of_cell? _ _ hw509_1; first | rwa [add_block] at this | exact this) GW510.out)) | (dsimp only; exact Nat.ne_of_lt (Nat.lt_of_lt_of_le (by have := World.block_lt_of_cell? _ _ hw509_1; first | rwa [add_block] at this | exact this) GW510.out))) _).trans (((cell_far (p := ⟨gb510, _, none⟩) (by first | exact Nat.ne_of_lt (Nat.lt_of_lt_of_le (by have := World.block_lt_of_cell? _ _ hw509_1; first | rwa [add_block] at this | exact this) GW510.out) | (rw [add_block]; exact Nat.ne_of_lt (Nat.lt_of_lt_of_le (by have := World.block_lt_of_cell? _ _ hw509_1; first | rwa [add_block] at this | exact this) GW510.out)) | (show (Addr.add _ _).block ≠ _; rw [add_block]; exact Nat.ne_of_lt (Nat.lt_of_lt_of_le (by have := World.block_lt_of_cell? _ _ hw509_1; first | rwa [add_block] at this | exact this) GW510.out)) | (dsimp only; exact Nat.ne_of_lt (Nat.lt_of_lt_of_le (by have := World.block_lt_of_cell? _ _ hw509_1; first | rwa [add_block] at this | exact this) GW510.out))) _).trans (hHeld.2.2.2.1)))))), ((cell_far (p := ⟨gb510, _, none⟩) (by first | exact Nat.ne_of_lt (Nat.lt_of_lt_of_le (by have := World.block_lt_of_cell? _ _ hw509_2; first | rwa [add_block] at this | exact this) GW510.out) | (rw [add_block]; exact Nat.ne_of_lt (Nat.lt_of_lt_of_le (by have := World.block_lt_of_cell? _ _ hw509_2; first | rwa [add_block] at this | exact this) GW510.out)) | (show (Addr.add _ _).block ≠ _; rw [add_block]; exact Nat.ne_of_lt (Nat.lt_of_lt_of_le (by have := World.block_lt_of_cell? _ _ hw509_2; first | rwa [add_block] at this | exact this) GW510.out)) | (dsimp only; exact Nat.ne_of_lt (Nat.lt_of_lt_of_le (by have := World.block_lt_of_cell? _ _ hw509_2; first | rwa [add_block] at this | exact this) GW510.out))) _).trans (((cell_far (p := ⟨gb510, _, none⟩) (by first | exact Nat.ne_of_lt (Nat.lt_of_lt_of_le (by have := World.block_lt_of_cell? _ _ hw509_2; first | rwa [add_block] at this | exact this) GW510.out) | (rw [add_block]; exact Nat.ne_of_lt (Nat.lt_of_lt_of_le (by have := World.block_lt_of_cell? _ _ hw509_2; first | rwa [add_block] at this | exact this) GW510.out)) | (show (Addr.add _ _).block ≠ _; rw [add_block]; exact Nat.ne_of_lt (Nat.lt_of_lt_of_le (by have := World.block_lt_of_cell? _ _ hw509_2; first | rwa [add_block] at this | exact this) GW510.out)) | (dsimp only; exact Nat.ne_of_lt (Nat.lt_of_lt_of_le (by have := World.block_lt_of_cell? _ _ hw509_2; first | rwa [add_block] at this | exact this) GW510.out))) _).trans (((cell_far (p := ⟨gb510, _, none⟩) (by first | exact Nat.ne_of_lt (Nat.lt_of_lt_of_le (by have := World.block_lt_of_cell? _ _ hw509_2; first | rwa [add_block] at this | exact this) GW510.out) | (rw [add_block]; exact Nat.ne_of_lt (Nat.lt_of_lt_of_le (by have := World.block_lt_of_cell? _ _ hw509_2; first | rwa [add_block] at this | exact this) GW510.out)) | (show (Addr.add _ _).block ≠ _; rw [add_block]; exact Nat.ne_of_lt (Nat.lt_of_lt_of_le (by have := World.block_lt_of_cell? _ _ hw509_2; first | rwa [add_block] at this | exact this) GW510.out)) | (dsimp only; exact Nat.ne_of_lt (Nat.lt_of_lt_of_le (by have := World.block_lt_of_cell? _ _ hw509_2; first | rwa [add_block] at this | exact this) GW510.out))) _).trans (hHeld.2.2.2.2))))))⟩ (fun hHeld => ?_)
          clear hK K
          refine done_ (done_of HT_.out (by kernel_rfl)) ?_
          have hnb38 := NB510_498.out
          have hnc38 := NB498_510.out
          have hcz39_0 : w34.cell? ⟨gb510, 0, none⟩ = some (.int .i64 0) := (blk_cell BK510.out 0).trans rfl
          have hcz39_1 : w34.cell? ⟨gb510, 1, none⟩ = some (.int .i64 0) := (blk_cell BK510.out 1).trans rfl
          have hcz39_2 : w34.cell? ⟨gb510, 2, none⟩ = some (.int .i64 0) := (blk_cell BK510.out 2).trans rfl
          have hfz39_0 := blk_frozen BK510.out 0
          have hfz39_1 := blk_frozen BK510.out 1
          have hfz39_2 := blk_frozen BK510.out 2
          obtain ⟨Ao40, co40, eo40⟩ := Kd.R_slice HO_7.out
          subst eo40
          try go_wp2_with (first | ((with_reducible refine gate_callee (f := 55) rfl ?_); refine goesL_ (some 60) rfl rfl Try.func55 (by kernel_rfl) rfl #[.slice Ao40 x7_1.length co40, .int .i64 ((rd_T44 l0_0 (rd l1 x8_1)).f1)] rfl zl ?_; (with_reducible refine (spec_l6Put.calls k1 _ _ x7_1 ((rd_T44 l0_0 (rd l1 x8_1)).f1) t517 _ ?side1 ?side2 A32.out).mono ?_); (case side1 => refine (Kd.R_reads' (e := 3) (base := w.heap.size) (ok := fun k_ => True) (n := x7_1.length) (c := co40) ?_).2.2; exact (by (with_reducible repeat (first | apply Kd.R_alloc | apply Kd.R_drewN | apply Kd.R_drew)); exact (Kd.R_mono (Kd.R_far (p := ⟨gb510, 2, none⟩) (Kd.R_far (p := ⟨gb510, 1, none⟩) (Kd.R_far (p := ⟨gb510, 0, none⟩) (Kd.R_types HO_7.out BK510.out (by decide)) (fun _ hk => hk.2) (.int .i64 ((rd_T44 l0_0 (rd l1 x8_1)).f0))) (fun _ hk => hk.2) (.int .i64 ((rd_T44 l0_0 (rd l1 x8_1)).f1))) (fun _ hk => hk.2) (.int .i64 ((rd_T44 l0_0 (rd l1 x8_1)).f2))) (fun _ h_ => h_.1)))); (case side2 => exact (Kd.R_reads' HO_7.out).2.1); rintro e w41 ⟨v518, rfl, ho0, hb⟩; refine ⟨_, rfl, ?_⟩; have n0_ := Aside0.mk (Kd.R_below (by (with_reducible repeat (first | apply Kd.R_alloc | apply Kd.R_drewN | apply Kd.R_drew)); exact (Kd.R_mono (Kd.R_far (p := ⟨gb510, 2, none⟩) (Kd.R_far (p := ⟨gb510, 1, none⟩) (Kd.R_far (p := ⟨gb510, 0, none⟩) (Kd.R_types HO_6.out BK510.out (by decide)) (fun _ hk => hk.2) (.int .i64 ((rd_T44 l0_0 (rd l1 x8_1)).f0))) (fun _ hk => hk.2) (.int .i64 ((rd_T44 l0_0 (rd l1 x8_1)).f1))) (fun _ hk => hk.2) (.int .i64 ((rd_T44 l0_0 (rd l1 x8_1)).f2))) (fun _ h_ => h_.1))) hb); have n1_ := Aside0.mk (Kd.R_elder' (by (with_reducible repeat (first | apply Kd.R_alloc | apply Kd.R_drewN | apply Kd.R_drew)); exact (Kd.R_mono (Kd.R_far (p := ⟨gb510, 2, none⟩) (Kd.R_far (p := ⟨gb510, 1, none⟩) (Kd.R_far (p := ⟨gb510, 0, none⟩) (Kd.R_types HO_7.out BK510.out (by decide)) (fun _ hk => hk.2) (.int .i64 ((rd_T44 l0_0 (rd l1 x8_1)).f0))) (fun _ hk => hk.2) (.int .i64 ((rd_T44 l0_0 (rd l1 x8_1)).f1))) (fun _ hk => hk.2) (.int .i64 ((rd_T44 l0_0 (rd l1 x8_1)).f2))) (fun _ h_ => h_.1))) (Kd.R_base ho0) hb); have n2_ := Aside0.mk (Kd.R_lower (Kd.R_new' ho0 (Kd.R_lt (by (with_reducible repeat (first | apply Kd.R_alloc | apply Kd.R_drewN | apply Kd.R_drew)); exact (Kd.R_mono (Kd.R_far (p := ⟨gb510, 2, none⟩) (Kd.R_far (p := ⟨gb510, 1, none⟩) (Kd.R_far (p := ⟨gb510, 0, none⟩) (Kd.R_types HO_7.out BK510.out (by decide)) (fun _ hk => hk.2) (.int .i64 ((rd_T44 l0_0 (rd l1 x8_1)).f0))) (fun _ hk => hk.2) (.int .i64 ((rd_T44 l0_0 (rd l1 x8_1)).f1))) (fun _ hk => hk.2) (.int .i64 ((rd_T44 l0_0 (rd l1 x8_1)).f2))) (fun _ h_ => h_.1))))) (below_size (zb HB.out))); have n3_ := Aside0.mk (blk_below (g := gb498) (o := .cells #[.slice (some ad509) l0_0.length c0_0] 30 (0, 0)) (zf BK498.out) hb); have n4_ := Aside0.mk (blk_below (g := gb510) (o := .cells #[.int .i64 ((rd_T44 l0_0 (rd l1 x8_1)).f0), .int .i64 ((rd_T44 l0_0 (rd l1 x8_1)).f1), .int .i64 ((rd_T44 l0_0 (rd l1 x8_1)).f2)] 44 (0, 0)) (by (with_reducible repeat (first | refine blk_drewN ?_ _ | refine blk_drew ?_ | refine blk_alloc ?_ _)); refine blk_put (cs := #[.int .i64 ((rd_T44 l0_0 (rd l1 x8_1)).f0), .int .i64 ((rd_T44 l0_0 (rd l1 x8_1)).f1), .int .i64 0]) ?_ 2 _ rfl; (with_reducible repeat (first | refine blk_drewN ?_ _ | refine blk_drew ?_ | refine blk_alloc ?_ _)); refine blk_put (cs := #[.int .i64 ((rd_T44 l0_0 (rd l1 x8_1)).f0), .int .i64 0, .int .i64 0]) ?_ 1 _ rfl; (with_reducible repeat (first | refine blk_drewN ?_ _ | refine blk_drew ?_ | refine blk_alloc ?_ _)); refine blk_put (cs := #[.int .i64 0, .int .i64 0, .int .i64 0]) ?_ 0 _ rfl; (with_reducible repeat (first | refine blk_drewN ?_ _ | refine blk_drew ?_ | refine blk_alloc ?_ _)); exact BK510.out) hb); have n5_ := Aside0.mk (below_step (zb HB.out) hb); clear HO_6; clear HO_7; clear BK498; clear BK510; clear HB; have HO_6 := n0_; have HO_7 := n1_; have HO519 := n2_; have BK498 := n3_; have BK510 := n4_; have HB := n5_; clear n0_ n1_ n2_ n3_ n4_ n5_; (try clear hb); (try clear hb2); (try clear hk); (try clear hi); (try clear ho0)))
          go_roundg k1
          case measure => have := HK1.out; omega
          case rel => exact ⟨(t517), (wrap64 (x8_1 + 1)), (by first | rfl | (simp; done) | (simp [*]; done)), H', ⟨by have := HK1.out; omega⟩, ⟨zr HO_6.out⟩, ⟨zr (Kd.R_mono HO519.out (fun _ hk => trivial))⟩, ⟨zh BK498.out⟩, ⟨zb HB.out⟩⟩
         ·rw [if_neg c31] at H
          have c31b0 : (((rd_T44 l0_0 (rd l1 x8_1)).f0) == 4) = false := beq_eq_false_iff_ne.mpr c31
          have c31b1 : (((rd_T44 l0_0 (rd l1 x8_1)).f0) != 4) = true := bne_iff_ne.mpr c31
          by_cases c42 : ((rd_T44 l0_0 (rd l1 x8_1)).f0) = 3
          ·rw [if_pos c42] at H
           have c42b0 : (((rd_T44 l0_0 (rd l1 x8_1)).f0) == 3) = true := beq_iff_eq.mpr c42
           have c42b1 : (((rd_T44 l0_0 (rd l1 x8_1)).f0) != 3) = false := bne_eq_false_iff_eq.mpr c42
           clear c42
           by_cases c43 : 0 ≤ ((rd_T44 l0_0 (rd l1 x8_1)).f2)
           ·rw [if_pos c43] at H
            have c43b0 : decide (0 ≤ ((rd_T44 l0_0 (rd l1 x8_1)).f2)) = true := decide_eq_true c43
            clear c43
            by_cases c44 : ((rd_T44 l0_0 (rd l1 x8_1)).f2) < (t499.length : Int)
            ·rw [if_pos c44] at H
             have c44b0 : decide (((rd_T44 l0_0 (rd l1 x8_1)).f2) < (t499.length : Int)) = true := decide_eq_true c44
             clear c44
             obtain ⟨bq45, hbq45⟩ : ∃ b_ : Bool, b_ = (rdOf false t499 ((rd_T44 l0_0 (rd l1 x8_1)).f2)) := ⟨_, rfl⟩
             replace H : (if bq45 = true then ((spec_l6Put.f k1 x7_1 ((rd_T44 l0_0 (rd l1 x8_1)).f1)).bind fun t521 => (spec_l8Once.l0 k1 l1 t499 t521 (wrap64 (x8_1 + 1)) l0_0)) else (spec_l8Once.l0 k1 l1 t499 x7_1 (wrap64 (x8_1 + 1)) l0_0)) = some (r1, r2) := by rw [← hbq45] at H; exact H
             have Nbq45 := Aside0.mk hbq45
             clear hbq45
             by_cases c46 : bq45 = true
             ·subst c46
              have H1 : ((spec_l6Put.f k1 x7_1 ((rd_T44 l0_0 (rd l1 x8_1)).f1)).bind fun t521 => (spec_l8Once.l0 k1 l1 t499 t521 (wrap64 (x8_1 + 1)) l0_0)) = some (r1, r2) := by rw [if_pos rfl] at H; exact H
              clear H
              have H := H1
              clear H1
              replace H := Option.bind_eq_some_iff.mp H
              obtain ⟨t521, A470, H⟩ := H
              replace H : (spec_l8Once.l0 k1 l1 t499 t521 (wrap64 (x8_1 + 1)) l0_0) = some (r1, r2) := H
              have A47 := Aside0.mk A470
              clear A470
              have H' := Aside0.mk H
              clear H
              try go_wp2
              have n0_ := Aside0.mk (Kd.R_drew HO_6.out)
              have n1_ := Aside0.mk (Kd.R_drew HO_7.out)
              have n2_ := Aside0.mk (blk_drew BK498.out)
              have n3_ := Aside0.mk (below_drew1 HB.out)
              clear HO_6
              clear HO_7
              clear BK498
              clear HB
              have HO_6 := n0_
              have HO_7 := n1_
              have BK498 := n2_
              have HB := n3_
              clear n0_ n1_ n2_ n3_
              have p508 : 0 ≤ (x8_1 : Int) := of_decide_eq_true (by first | (with_reducible assumption) | assumption)
              have q508 : x8_1 < (l1.length : Int) := of_decide_eq_true (by first | (with_reducible assumption) | assumption)
              obtain ⟨ad508, e508, hx508_0⟩ := Kd.at_int HR1.out x8_1 p508 q508
              have hw508_0 := hx508_0
              cases e508
              replace hx508_0 := (HB.out.cell (World.block_lt_of_cell? w _ hx508_0)).trans hx508_0
              replace p508 := eq_true p508
              replace q508 := eq_true q508
              have p509 : 0 ≤ ((rd l1 x8_1) : Int) := of_decide_eq_true (by first | (with_reducible assumption) | assumption)
              have q509 : (rd l1 x8_1) < (l0_0.length : Int) := of_decide_eq_true (by first | (with_reducible assumption) | assumption)
              obtain ⟨ad509, e509, hx509_0, hx509_1, hx509_2⟩ := at_T44 HR0_0.out (rd l1 x8_1) p509 q509
              have hw509_2 := hx509_2
              have hw509_1 := hx509_1
              have hw509_0 := hx509_0
              cases e509
              replace hx509_0 := (HB.out.cell (World.block_lt_of_cell? w _ hx509_0)).trans hx509_0
              replace hx509_1 := (HB.out.cell (World.block_lt_of_cell? w _ hx509_1)).trans hx509_1
              replace hx509_2 := (HB.out.cell (World.block_lt_of_cell? w _ hx509_2)).trans hx509_2
              replace p509 := eq_true p509
              replace q509 := eq_true q509
              refine start_ (n := 10) (S := fun w' => w'.cell? ⟨gb498, 0, none⟩ = some (.slice (some ad509) l0_0.length c0_0) ∧ w'.cell? (ad508.add (x8_1).toNat) = some (.int .i64 (rd l1 x8_1)) ∧ w'.cell? (ad509.add (((rd l1 x8_1)).toNat * 3)) = some (.int .i64 ((rd_T44 l0_0 (rd l1 x8_1)).f0)) ∧ w'.cell? ⟨(ad509.add (((rd l1 x8_1)).toNat * 3)).block, (ad509.add (((rd l1 x8_1)).toNat * 3)).off + 1, none⟩ = some (.int .i64 ((rd_T44 l0_0 (rd l1 x8_1)).f1)) ∧ w'.cell? ⟨(ad509.add (((rd l1 x8_1)).toNat * 3)).block, (ad509.add (((rd l1 x8_1)).toNat * 3)).off + 2, none⟩ = some (.int .i64 ((rd_T44 l0_0 (rd l1 x8_1)).f2))) (ds := []) #[false, false, false, false, false, false, false, false, false, false] (by kernel_rfl) rfl rfl ⟨(blk_cell BK498.out 0).trans rfl, ((HB.out.cell (World.block_lt_of_cell? w _ hw508_0)).trans hw508_0), ((HB.out.cell (World.block_lt_of_cell? w _ hw509_0)).trans hw509_0), ((HB.out.cell (World.block_lt_of_cell? w _ hw509_1)).trans hw509_1), ((HB.out.cell (World.block_lt_of_cell? w _ hw509_2)).trans hw509_2)⟩ (fun hHeld => ?_); refine with_tabW spec_l8Once.tab6 spec_l8Once.bits6 (fun HT_ HW_ => ?_)
              generalize wr.drew = w48 at HO_6 HO_7 BK498 HB hx508_0 hx509_0 hx509_1 hx509_2 hHeld ⊢
              refine pure_ (i := 0) (N := some 22) (v := ?_) (a' := ?_) #[true, false, false, false, false, false, false, false, false, false] rfl rfl (any_of HT_.out (by kernel_rfl)) (fun _ _ _ h => h) (Or.inl ⟨by rfl, ?_⟩) ?_ ?_
              rotate_left
              ·intro w'
               go_simp
               with_reducible rfl
              rotate_left
              ·simp only [Act.put, List.setIfInBounds_toArray, List.set_cons_zero, List.set_cons_succ, i64_w, i32_w]
               rfl
              refine pure_ (i := 2) (N := some 24) (v := ?_) (a' := ?_) #[true, false, true, false, false, false, false, false, false, false] rfl rfl (any_of HT_.out (by kernel_rfl)) (fun _ _ _ h => h) (Or.inl ⟨by rfl, ?_⟩) ?_ ?_
              rotate_left
              ·intro w'
               go_simp
               with_reducible rfl
              rotate_left
              ·simp only [Act.put, List.setIfInBounds_toArray, List.set_cons_zero, List.set_cons_succ, i64_w, i32_w]
               rfl
              refine pure_ (i := 3) (N := some 25) (v := ?_) (a' := ?_) #[true, false, true, true, false, false, false, false, false, false] rfl rfl (any_of HT_.out (by kernel_rfl)) (fun _ _ _ h => h) (Or.inl ⟨by rfl, ?_⟩) ?_ ?_
              rotate_left
              ·intro w'
               go_simp
               with_reducible rfl
              rotate_left
              ·simp only [Act.put, List.setIfInBounds_toArray, List.set_cons_zero, List.set_cons_succ, i64_w, i32_w]
               rfl
              refine pure_ (i := 4) (N := some 26) (v := ?_) (a' := ?_) #[true, false, true, true, true, false, false, false, false, false] rfl rfl (any_of HT_.out (by kernel_rfl)) (fun _ _ _ h => h) (Or.inl ⟨by rfl, ?_⟩) ?_ ?_
              rotate_left
              ·intro w'
               go_simp
               with_reducible rfl
              rotate_left
              ·simp only [Act.put, List.setIfInBounds_toArray, List.set_cons_zero, List.set_cons_succ, i64_w, i32_w]
               rfl
              refine take_ (i := 1) (N := some 23) (v := ?_) (a' := ?_) #[true, true, true, true, true, false, false, false, false, false] rfl rfl (take_ofW HT_.out HW_.out (by kernel_rfl)) (fun _ _ _ h => h) (Or.inl ⟨by rfl, ?_⟩) hHeld ?_ ?_
              rotate_left
              ·rintro w' ⟨s0, s1, s2, s3, s4⟩
               go_simp
               with_reducible rfl
              rotate_left
              ·simp only [Act.put, List.setIfInBounds_toArray, List.set_cons_zero, List.set_cons_succ, i64_w, i32_w]
               rfl
              refine take_ (i := 5) (N := some 27) (v := ?_) (a' := ?_) #[true, true, true, true, true, true, false, false, false, false] rfl rfl (take_ofW HT_.out HW_.out (by kernel_rfl)) (fun _ _ _ h => h) (Or.inl ⟨by rfl, ?_⟩) hHeld ?_ ?_
              rotate_left
              ·rintro w' ⟨s0, s1, s2, s3, s4⟩
               go_simp
               with_reducible rfl
              rotate_left
              ·simp only [Act.put, List.setIfInBounds_toArray, List.set_cons_zero, List.set_cons_succ, i64_w, i32_w]
               rfl
              refine pure_ (i := 6) (N := some 28) (v := ?_) (a' := ?_) #[true, true, true, true, true, true, true, false, false, false] rfl rfl (any_of HT_.out (by kernel_rfl)) (fun _ _ _ h => h) (Or.inl ⟨by rfl, ?_⟩) ?_ ?_
              rotate_left
              ·intro w'
               go_simp
               with_reducible rfl
              rotate_left
              ·simp only [Act.put, List.setIfInBounds_toArray, List.set_cons_zero, List.set_cons_succ, i64_w, i32_w]
               rfl
              refine take_ (i := 7) (N := some 29) (v := ?_) (a' := ?_) #[true, true, true, true, true, true, true, true, false, false] rfl rfl (take_ofW HT_.out HW_.out (by kernel_rfl)) (fun _ _ _ h => h) (Or.inl ⟨by rfl, ?_⟩) hHeld ?_ ?_
              rotate_left
              ·rintro w' ⟨s0, s1, s2, s3, s4⟩
               go_simp
               with_reducible rfl
              rotate_left
              ·simp only [Act.put, List.setIfInBounds_toArray, List.set_cons_zero, List.set_cons_succ, i64_w, i32_w]
               rfl
              refine one_ (i := 8) (N := some 9) #[true, true, true, true, true, true, true, true, true, false] rfl rfl (one_of HT_.out (by kernel_rfl)) (by decide) (fun K hK => ?_)
              refine box_step ?hg (N := 9) ?hd (cs := #[.int .i64 0, .int .i64 0, .int .i64 0]) (t := 44) ?hr ?_; (case hd => rfl); (case hg => rfl); (case hr => first | (go_simp; done) | (go_simp; rfl))
              intro gb510 hg w49 hbox hb
              have n0_ := Aside0.mk (Kd.R_below (zr HO_6.out) hb)
              have n1_ := Aside0.mk (Kd.R_below (zr HO_7.out) hb)
              have n2_ := Aside0.mk (blk_below (zh BK498.out) hb)
              have n3_ := Aside0.mk (below_step (zb HB.out) hb)
              have n4_ := Aside0.mk (hbox)
              have n5_ := Aside0.mk ((by rw [hg]; exact (below_size (zb HB.out)) : w.heap.size ≤ gb510))
              have n6_ := Aside0.mk ((by rw [hg]; exact (below_size (zb HB.out)) : w.heap.size ≤ gb510))
              have n7_ := Aside0.mk ((by rw [hg]; exact Nat.ne_of_lt (blk_lt (zh BK498.out)) : gb498 ≠ gb510))
              have n8_ := Aside0.mk ((by rw [hg]; exact Nat.ne_of_gt (blk_lt (zh BK498.out)) : gb510 ≠ gb498))
              clear HO_6
              clear HO_7
              clear BK498
              clear HB
              have HO_6 := n0_
              have HO_7 := n1_
              have BK498 := n2_
              have HB := n3_
              have BK510 := n4_
              have GW510 := n5_
              have GE510 := n6_
              have NB498_510 := n7_
              have NB510_498 := n8_
              clear n0_ n1_ n2_ n3_ n4_ n5_ n6_ n7_ n8_
              clear hb hbox hg
              refine hK.out _ _ ⟨(blk_cell BK498.out 0).trans rfl, ((HB.out.cell (World.block_lt_of_cell? w _ hw508_0)).trans hw508_0), ((HB.out.cell (World.block_lt_of_cell? w _ hw509_0)).trans hw509_0), ((HB.out.cell (World.block_lt_of_cell? w _ hw509_1)).trans hw509_1), ((HB.out.cell (World.block_lt_of_cell? w _ hw509_2)).trans hw509_2)⟩ (fun hHeld => ?_)
              clear hK K
              refine norm_ (a' := ?_) ?_ ?_
              rotate_left
              ·show Act.put _ (some 9) _ = _
               simp only [Act.put, List.setIfInBounds_toArray, List.set_cons_zero, List.set_cons_succ, i64_w, i32_w]
               rfl
              refine one_ (i := 9) (N := none) #[true, true, true, true, true, true, true, true, true, true] rfl rfl (one_of HT_.out (by kernel_rfl)) (by decide) (fun K hK => ?_)
              have hs50 : w49.cell? ⟨gb510, 0, none⟩ = some (.int .i64 0) := (blk_cell BK510.out 0).trans rfl
              have hfs50 := blk_frozen BK510.out 0
              have hns50_0 := NB498_510.out
              have hms50_0 := NB510_498.out
              have hs51 : w49.cell? ⟨gb510, 1, none⟩ = some (.int .i64 0) := (blk_cell BK510.out 1).trans rfl
              have hfs51 := blk_frozen BK510.out 1
              have hns51_0 := NB498_510.out
              have hms51_0 := NB510_498.out
              have hs52 : w49.cell? ⟨gb510, 2, none⟩ = some (.int .i64 0) := (blk_cell BK510.out 2).trans rfl
              have hfs52 := blk_frozen BK510.out 2
              have hns52_0 := NB498_510.out
              have hms52_0 := NB510_498.out
              refine skip_ (w1 := ?_) (by rfl) rfl ?_ ?_
              rotate_left
              ·go_simp
               rfl
              refine hK.out _ _ ⟨((cell_far (p := ⟨gb510, _, none⟩) NB498_510.out _).trans (((cell_far (p := ⟨gb510, _, none⟩) NB498_510.out _).trans (((cell_far (p := ⟨gb510, _, none⟩) NB498_510.out _).trans (hHeld.1)))))), ((cell_far (p := ⟨gb510, _, none⟩) (by first | exact Nat.ne_of_lt (Nat.lt_of_lt_of_le (by have := World.block_lt_of_cell? _ _ hw508_0; first | rwa [add_block] at this | exact this) GW510.out) | (rw [add_block]; exact Nat.ne_of_lt (Nat.lt_of_lt_of_le (by have := World.block_lt_of_cell? _ _ hw508_0; first | rwa [add_block] at this | exact this) GW510.out)) | (show (Addr.add _ _).block ≠ _; rw [add_block]; exact Nat.ne_of_lt (Nat.lt_of_lt_of_le (by have := World.block_lt_of_cell? _ _ hw508_0; first | rwa [add_block] at this | exact this) GW510.out)) | (dsimp only; exact Nat.ne_of_lt (Nat.lt_of_lt_of_le (by have := World.block_lt_of_cell? _ _ hw508_0; first | rwa [add_block] at this | exact this) GW510.out))) _).trans (((cell_far (p := ⟨gb510, _, none⟩) (by first | exact Nat.ne_of_lt (Nat.lt_of_lt_of_le (by have := World.block_lt_of_cell? _ _ hw508_0; first | rwa [add_block] at this | exact this) GW510.out) | (rw [add_block]; exact Nat.ne_of_lt (Nat.lt_of_lt_of_le (by have := World.block_lt_of_cell? _ _ hw508_0; first | rwa [add_block] at this | exact this) GW510.out)) | (show (Addr.add _ _).block ≠ _; rw [add_block]; exact Nat.ne_of_lt (Nat.lt_of_lt_of_le (by have := World.block_lt_of_cell? _ _ hw508_0; first | rwa [add_block] at this | exact this) GW510.out)) | (dsimp only; exact Nat.ne_of_lt (Nat.lt_of_lt_of_le (by have := World.block_lt_of_cell? _ _ hw508_0; first | rwa [add_block] at this | exact this) GW510.out))) _).trans (((cell_far (p := ⟨gb510, _, none⟩) (by first | exact Nat.ne_of_lt (Nat.lt_of_lt_of_le (by have := World.block_lt_of_cell? _ _ hw508_0; first | rwa [add_block] at this | exact this) GW510.out) | (rw [add_block]; exact Nat.ne_of_lt (Nat.lt_of_lt_of_le (by have := World.block_lt_of_cell? _ _ hw508_0; first | rwa [add_block] at this | exact this) GW510.out)) | (show (Addr.add _ _).block ≠ _; rw [add_block]; exact Nat.ne_of_lt (Nat.lt_of_lt_of_le (by have := World.block_lt_of_cell? _ _ hw508_0; first | rwa [add_block] at this | exact this) GW510.out)) | (dsimp only; exact Nat.ne_of_lt (Nat.lt_of_lt_of_le (by have := World.block_lt_of_cell? _ _ hw508_0; first | rwa [add_block] at this | exact this) GW510.out))) _).trans (hHeld.2.1)))))), ((cell_far (p := ⟨gb510, _, none⟩) (by first | exact Nat.ne_of_lt (Nat.lt_of_lt_of_le (by have := World.block_lt_of_cell? _ _ hw509_0; first | rwa [add_block] at this | exact this) GW510.out) | (rw [add_block]; exact Nat.ne_of_lt (Nat.lt_of_lt_of_le (by have := World.block_lt_of_cell? _ _ hw509_0; first | rwa [add_block] at this | exact this) GW510.out)) | (show (Addr.add _ _).block ≠ _; rw [add_block]; exact Nat.ne_of_lt (Nat.lt_of_lt_of_le (by have := World.block_lt_of_cell? _ _ hw509_0; first | rwa [add_block] at this | exact this) GW510.out)) | (dsimp only; exact Nat.ne_of_lt (Nat.lt_of_lt_of_le (by have := World.block_lt_of_cell? _ _ hw509_0; first | rwa [add_block] at this | exact this) GW510.out))) _).trans (((cell_far (p := ⟨gb510, _, none⟩) (by first | exact Nat.ne_of_lt (Nat.lt_of_lt_of_le (by have := World.block_lt_of_cell? _ _ hw509_0; first | rwa [add_block] at this | exact this) GW510.out) | (rw [add_block]; exact Nat.ne_of_lt (Nat.lt_of_lt_of_le (by have := World.block_lt_of_cell? _ _ hw509_0; first | rwa [add_block] at this | exact this) GW510.out)) | (show (Addr.add _ _).block ≠ _; rw [add_block]; exact Nat.ne_of_lt (Nat.lt_of_lt_of_le (by have := World.block_lt_of_cell? _ _ hw509_0; first | rwa [add_block] at this | exact this) GW510.out)) | (dsimp only; exact Nat.ne_of_lt (Nat.lt_of_lt_of_le (by have := World.block_lt_of_cell? _ _ hw509_0; first | rwa [add_block] at this | exact this) GW510.out))) _).trans (((cell_far (p := ⟨gb510, _, none⟩) (by first | exact Nat.ne_of_lt (Nat.lt_of_lt_of_le (by have := World.block_lt_of_cell? _ _ hw509_0; first | rwa [add_block] at this | exact this) GW510.out) | (rw [add_block]; exact Nat.ne_of_lt (Nat.lt_of_lt_of_le (by have := World.block_lt_of_cell? _ _ hw509_0; first | rwa [add_block] at this | exact this) GW510.out)) | (show (Addr.add _ _).block ≠ _; rw [add_block]; exact Nat.ne_of_lt (Nat.lt_of_lt_of_le (by have := World.block_lt_of_cell? _ _ hw509_0; first | rwa [add_block] at this | exact this) GW510.out)) | (dsimp only; exact Nat.ne_of_lt (Nat.lt_of_lt_of_le (by have := World.block_lt_of_cell? _ _ hw509_0; first | rwa [add_block] at this | exact this) GW510.out))) _).trans (hHeld.2.2.1)))))), ((cell_far (p := ⟨gb510, _, none⟩) (by first | exact Nat.ne_of_lt (Nat.lt_of_lt_of_le (by have := World.block_lt_of_cell? _ _ hw509_1; first | rwa [add_block] at this | exact this) GW510.out) | (rw [add_block]; exact Nat.ne_of_lt (Nat.lt_of_lt_of_le (by have := World.block_lt_of_cell? _ _ hw509_1; first | rwa [add_block] at this | exact this) GW510.out)) | (show (Addr.add _ _).block ≠ _; rw [add_block]; exact Nat.ne_of_lt (Nat.lt_of_lt_of_le (by have := World.block_lt_of_cell? _ _ hw509_1; first | rwa [add_block] at this | exact this) GW510.out)) | (dsimp only; exact Nat.ne_of_lt (Nat.lt_of_lt_of_le (by have := World.block_lt_of_cell? _ _ hw509_1; first | rwa [add_block] at this | exact this) GW510.out))) _).trans (((cell_far (p := ⟨gb510, _, none⟩) (by first | exact Nat.ne_of_lt (Nat.lt_of_lt_of_le (by have := World.block_lt_of_cell? _ _ hw509_1; first | rwa [add_block] at this | exact this) GW510.out) | (rw [add_block]; exact Nat.ne_of_lt (Nat.lt_of_lt_of_le (by have := World.block_lt_of_cell? _ _ hw509_1; first | rwa [add_block] at this | exact this) GW510.out)) | (show (Addr.add _ _).block ≠ _; rw [add_block]; exact Nat.ne_of_lt (Nat.lt_of_lt_of_le (by have := World.block_lt_of_cell? _ _ hw509_1; first | rwa [add_block] at this | exact this) GW510.out)) | (dsimp only; exact Nat.ne_of_lt (Nat.lt_of_lt_of_le (by have := World.block_lt_of_cell? _ _ hw509_1; first | rwa [add_block] at this | exact this) GW510.out))) _).trans (((cell_far (p := ⟨gb510, _, none⟩) (by first | exact Nat.ne_of_lt (Nat.lt_of_lt_of_le (by have := World.block_lt_of_cell? _ _ hw509_1; first | rwa [add_block] at this | exact this) GW510.out) | (rw [add_block]; exact Nat.ne_of_lt (Nat.lt_of_lt_of_le (by have := World.block_lt_of_cell? _ _ hw509_1; first | rwa [add_block] at this | exact this) GW510.out)) | (show (Addr.add _ _).block ≠ _; rw [add_block]; exact Nat.ne_of_lt (Nat.lt_of_lt_of_le (by have := World.block_lt_of_cell? _ _ hw509_1; first | rwa [add_block] at this | exact this) GW510.out)) | (dsimp only; exact Nat.ne_of_lt (Nat.lt_of_lt_of_le (by have := World.block_lt_of_cell? _ _ hw509_1; first | rwa [add_block] at this | exact this) GW510.out))) _).trans (hHeld.2.2.2.1)))))), ((cell_far (p := ⟨gb510, _, none⟩) (by first | exact Nat.ne_of_lt (Nat.lt_of_lt_of_le (by have := World.block_lt_of_cell? _ _ hw509_2; first | rwa [add_block] at this | exact this) GW510.out) | (rw [add_block]; exact Nat.ne_of_lt (Nat.lt_of_lt_of_le (by have := World.block_lt_of_cell? _ _ hw509_2; first | rwa [add_block] at this | exact this) GW510.out)) | (show (Addr.add _ _).block ≠ _; rw [add_block]; exact Nat.ne_of_lt (Nat.lt_of_lt_of_le (by have := World.block_lt_of_cell? _ _ hw509_2; first | rwa [add_block] at this | exact this) GW510.out)) | (dsimp only; exact Nat.ne_of_lt (Nat.lt_of_lt_of_le (by have := World.block_lt_of_cell? _ _ hw509_2; first | rwa [add_block] at this | exact this) GW510.out))) _).trans (((cell_far (p := ⟨gb510, _, none⟩) (by first | exact Nat.ne_of_lt (Nat.lt_of_lt_of_le (by have := World.block_lt_of_cell? _ _ hw509_2; first | rwa [add_block] at this | exact this) GW510.out) | (rw [add_block]; exact Nat.ne_of_lt (Nat.lt_of_lt_of_le (by have := World.block_lt_of_cell? _ _ hw509_2; first | rwa [add_block] at this | exact this) GW510.out)) | (show (Addr.add _ _).block ≠ _; rw [add_block]; exact Nat.ne_of_lt (Nat.lt_of_lt_of_le (by have := World.block_lt_of_cell? _ _ hw509_2; first | rwa [add_block] at this | exact this) GW510.out)) | (dsimp only; exact Nat.ne_of_lt (Nat.lt_of_lt_of_le (by have := World.block_lt_of_cell? _ _ hw509_2; first | rwa [add_block] at this | exact this) GW510.out))) _).trans (((cell_far (p := ⟨gb510, _, none⟩) (by first | exact Nat.ne_of_lt (Nat.lt_of_lt_of_le (by have := World.block_lt_of_cell? _ _ hw509_2; first | rwa [add_block] at this | exact this) GW510.out) | (rw [add_block]; exact Nat.ne_of_lt (Nat.lt_of_lt_of_le (by have := World.block_lt_of_cell? _ _ hw509_2; first | rwa [add_block] at this | exact this) GW510.out)) | (show (Addr.add _ _).block ≠ _; rw [add_block]; exact Nat.ne_of_lt (Nat.lt_of_lt_of_le (by have := World.block_lt_of_cell? _ _ hw509_2; first | rwa [add_block] at this | exact this) GW510.out)) | (dsimp only; exact Nat.ne_of_lt (Nat.lt_of_lt_of_le (by have := World.block_lt_of_cell? _ _ hw509_2; first | rwa [add_block] at this | exact this) GW510.out))) _).trans (hHeld.2.2.2.2))))))⟩ (fun hHeld => ?_)
              clear hK K
              refine done_ (done_of HT_.out (by kernel_rfl)) ?_
              have hnb53 := NB510_498.out
              have hnc53 := NB498_510.out
              have hcz54_0 : w49.cell? ⟨gb510, 0, none⟩ = some (.int .i64 0) := (blk_cell BK510.out 0).trans rfl
              have hcz54_1 : w49.cell? ⟨gb510, 1, none⟩ = some (.int .i64 0) := (blk_cell BK510.out 1).trans rfl
              have hcz54_2 : w49.cell? ⟨gb510, 2, none⟩ = some (.int .i64 0) := (blk_cell BK510.out 2).trans rfl
              have hfz54_0 := blk_frozen BK510.out 0
              have hfz54_1 := blk_frozen BK510.out 1
              have hfz54_2 := blk_frozen BK510.out 2
              obtain ⟨Ao55, co55, eo55⟩ := Kd.R_slice HO_6.out
              subst eo55
              have p520 : 0 ≤ (((rd_T44 l0_0 (rd l1 x8_1)).f2) : Int) := of_decide_eq_true (by first | (with_reducible assumption) | assumption)
              have q520 : ((rd_T44 l0_0 (rd l1 x8_1)).f2) < (t499.length : Int) := of_decide_eq_true (by first | (with_reducible assumption) | assumption)
              obtain ⟨ad520, e520, hx520_0⟩ := Kd.at_bool (Kd.R_reads' HO_6.out).2.2 ((rd_T44 l0_0 (rd l1 x8_1)).f2) p520 q520
              (try rw [← Nbq45.out] at hx520_0)
              cases e520
              have hn520_0 : ad520.block ≠ gb510 := Kd.own_blk (Kd.R_ne HO_6.out BK510.out (by decide))
              have hn520_1 : ad520.block ≠ gb510 := Kd.own_blk (Kd.R_ne HO_6.out BK510.out (by decide))
              have hn520_2 : ad520.block ≠ gb510 := Kd.own_blk (Kd.R_ne HO_6.out BK510.out (by decide))
              replace hx520_0 := (cell_far (p := ⟨gb510, 0, none⟩) (by first | (rw [add_block]; exact hn520_0) | (show (Addr.add _ _).block ≠ _; rw [add_block]; exact hn520_0) | exact hn520_0) (.int .i64 ((rd_T44 l0_0 (rd l1 x8_1)).f0))).trans hx520_0
              replace hx520_0 := (cell_far (p := ⟨gb510, 1, none⟩) (by first | (rw [add_block]; exact hn520_1) | (show (Addr.add _ _).block ≠ _; rw [add_block]; exact hn520_1) | exact hn520_1) (.int .i64 ((rd_T44 l0_0 (rd l1 x8_1)).f1))).trans hx520_0
              replace hx520_0 := (cell_far (p := ⟨gb510, 2, none⟩) (by first | (rw [add_block]; exact hn520_2) | (show (Addr.add _ _).block ≠ _; rw [add_block]; exact hn520_2) | exact hn520_2) (.int .i64 ((rd_T44 l0_0 (rd l1 x8_1)).f2))).trans hx520_0
              clear hn520_0
              clear hn520_1
              clear hn520_2
              replace p520 := eq_true p520
              replace q520 := eq_true q520
              obtain ⟨Ao56, co56, eo56⟩ := Kd.R_slice HO_7.out
              subst eo56
              try go_wp2_with (first | ((with_reducible refine gate_callee (f := 55) rfl ?_); refine goesL_ (some 60) rfl rfl Try.func55 (by kernel_rfl) rfl #[.slice Ao56 x7_1.length co56, .int .i64 ((rd_T44 l0_0 (rd l1 x8_1)).f1)] rfl zl ?_; (with_reducible refine (spec_l6Put.calls k1 _ _ x7_1 ((rd_T44 l0_0 (rd l1 x8_1)).f1) t521 _ ?side1 ?side2 A47.out).mono ?_); (case side1 => refine (Kd.R_reads' (e := 3) (base := w.heap.size) (ok := fun k_ => True) (n := x7_1.length) (c := co56) ?_).2.2; exact (by (with_reducible repeat (first | apply Kd.R_alloc | apply Kd.R_drewN | apply Kd.R_drew)); exact (Kd.R_mono (Kd.R_far (p := ⟨gb510, 2, none⟩) (Kd.R_far (p := ⟨gb510, 1, none⟩) (Kd.R_far (p := ⟨gb510, 0, none⟩) (Kd.R_types HO_7.out BK510.out (by decide)) (fun _ hk => hk.2) (.int .i64 ((rd_T44 l0_0 (rd l1 x8_1)).f0))) (fun _ hk => hk.2) (.int .i64 ((rd_T44 l0_0 (rd l1 x8_1)).f1))) (fun _ hk => hk.2) (.int .i64 ((rd_T44 l0_0 (rd l1 x8_1)).f2))) (fun _ h_ => h_.1)))); (case side2 => exact (Kd.R_reads' HO_7.out).2.1); rintro e w57 ⟨v522, rfl, ho0, hb⟩; refine ⟨_, rfl, ?_⟩; have n0_ := Aside0.mk (Kd.R_below (by (with_reducible repeat (first | apply Kd.R_alloc | apply Kd.R_drewN | apply Kd.R_drew)); exact (Kd.R_mono (Kd.R_far (p := ⟨gb510, 2, none⟩) (Kd.R_far (p := ⟨gb510, 1, none⟩) (Kd.R_far (p := ⟨gb510, 0, none⟩) (Kd.R_types HO_6.out BK510.out (by decide)) (fun _ hk => hk.2) (.int .i64 ((rd_T44 l0_0 (rd l1 x8_1)).f0))) (fun _ hk => hk.2) (.int .i64 ((rd_T44 l0_0 (rd l1 x8_1)).f1))) (fun _ hk => hk.2) (.int .i64 ((rd_T44 l0_0 (rd l1 x8_1)).f2))) (fun _ h_ => h_.1))) hb); have n1_ := Aside0.mk (Kd.R_elder' (by (with_reducible repeat (first | apply Kd.R_alloc | apply Kd.R_drewN | apply Kd.R_drew)); exact (Kd.R_mono (Kd.R_far (p := ⟨gb510, 2, none⟩) (Kd.R_far (p := ⟨gb510, 1, none⟩) (Kd.R_far (p := ⟨gb510, 0, none⟩) (Kd.R_types HO_7.out BK510.out (by decide)) (fun _ hk => hk.2) (.int .i64 ((rd_T44 l0_0 (rd l1 x8_1)).f0))) (fun _ hk => hk.2) (.int .i64 ((rd_T44 l0_0 (rd l1 x8_1)).f1))) (fun _ hk => hk.2) (.int .i64 ((rd_T44 l0_0 (rd l1 x8_1)).f2))) (fun _ h_ => h_.1))) (Kd.R_base ho0) hb); have n2_ := Aside0.mk (Kd.R_lower (Kd.R_new' ho0 (Kd.R_lt (by (with_reducible repeat (first | apply Kd.R_alloc | apply Kd.R_drewN | apply Kd.R_drew)); exact (Kd.R_mono (Kd.R_far (p := ⟨gb510, 2, none⟩) (Kd.R_far (p := ⟨gb510, 1, none⟩) (Kd.R_far (p := ⟨gb510, 0, none⟩) (Kd.R_types HO_7.out BK510.out (by decide)) (fun _ hk => hk.2) (.int .i64 ((rd_T44 l0_0 (rd l1 x8_1)).f0))) (fun _ hk => hk.2) (.int .i64 ((rd_T44 l0_0 (rd l1 x8_1)).f1))) (fun _ hk => hk.2) (.int .i64 ((rd_T44 l0_0 (rd l1 x8_1)).f2))) (fun _ h_ => h_.1))))) (below_size (zb HB.out))); have n3_ := Aside0.mk (blk_below (g := gb498) (o := .cells #[.slice (some ad509) l0_0.length c0_0] 30 (0, 0)) (zf BK498.out) hb); have n4_ := Aside0.mk (blk_below (g := gb510) (o := .cells #[.int .i64 ((rd_T44 l0_0 (rd l1 x8_1)).f0), .int .i64 ((rd_T44 l0_0 (rd l1 x8_1)).f1), .int .i64 ((rd_T44 l0_0 (rd l1 x8_1)).f2)] 44 (0, 0)) (by (with_reducible repeat (first | refine blk_drewN ?_ _ | refine blk_drew ?_ | refine blk_alloc ?_ _)); refine blk_put (cs := #[.int .i64 ((rd_T44 l0_0 (rd l1 x8_1)).f0), .int .i64 ((rd_T44 l0_0 (rd l1 x8_1)).f1), .int .i64 0]) ?_ 2 _ rfl; (with_reducible repeat (first | refine blk_drewN ?_ _ | refine blk_drew ?_ | refine blk_alloc ?_ _)); refine blk_put (cs := #[.int .i64 ((rd_T44 l0_0 (rd l1 x8_1)).f0), .int .i64 0, .int .i64 0]) ?_ 1 _ rfl; (with_reducible repeat (first | refine blk_drewN ?_ _ | refine blk_drew ?_ | refine blk_alloc ?_ _)); refine blk_put (cs := #[.int .i64 0, .int .i64 0, .int .i64 0]) ?_ 0 _ rfl; (with_reducible repeat (first | refine blk_drewN ?_ _ | refine blk_drew ?_ | refine blk_alloc ?_ _)); exact BK510.out) hb); have n5_ := Aside0.mk (below_step (zb HB.out) hb); clear HO_6; clear HO_7; clear BK498; clear BK510; clear HB; have HO_6 := n0_; have HO_7 := n1_; have HO523 := n2_; have BK498 := n3_; have BK510 := n4_; have HB := n5_; clear n0_ n1_ n2_ n3_ n4_ n5_; (try clear hb); (try clear hb2); (try clear hk); (try clear hi); (try clear ho0)))
              go_roundg k1
              case measure => have := HK1.out; omega
              case rel => exact ⟨(t521), (wrap64 (x8_1 + 1)), (by first | rfl | (simp; done) | (simp [*]; done)), H', ⟨by have := HK1.out; omega⟩, ⟨zr HO_6.out⟩, ⟨zr (Kd.R_mono HO523.out (fun _ hk => trivial))⟩, ⟨zh BK498.out⟩, ⟨zb HB.out⟩⟩
             ·replace c46 := Bool.eq_false_iff.mpr c46
              subst c46
              have H1 : (spec_l8Once.l0 k1 l1 t499 x7_1 (wrap64 (x8_1 + 1)) l0_0) = some (r1, r2) := by rw [if_neg (show ¬ (false = true) by decide)] at H; exact H
              clear H
              have H := H1
              clear H1
              have H' := Aside0.mk H
              clear H
              try go_wp2
              have n0_ := Aside0.mk (Kd.R_drew HO_6.out)
              have n1_ := Aside0.mk (Kd.R_drew HO_7.out)
              have n2_ := Aside0.mk (blk_drew BK498.out)
              have n3_ := Aside0.mk (below_drew1 HB.out)
              clear HO_6
              clear HO_7
              clear BK498
              clear HB
              have HO_6 := n0_
              have HO_7 := n1_
              have BK498 := n2_
              have HB := n3_
              clear n0_ n1_ n2_ n3_
              have p508 : 0 ≤ (x8_1 : Int) := of_decide_eq_true (by first | (with_reducible assumption) | assumption)
              have q508 : x8_1 < (l1.length : Int) := of_decide_eq_true (by first | (with_reducible assumption) | assumption)
              obtain ⟨ad508, e508, hx508_0⟩ := Kd.at_int HR1.out x8_1 p508 q508
              have hw508_0 := hx508_0
              cases e508
              replace hx508_0 := (HB.out.cell (World.block_lt_of_cell? w _ hx508_0)).trans hx508_0
              replace p508 := eq_true p508
              replace q508 := eq_true q508
              have p509 : 0 ≤ ((rd l1 x8_1) : Int) := of_decide_eq_true (by first | (with_reducible assumption) | assumption)
              have q509 : (rd l1 x8_1) < (l0_0.length : Int) := of_decide_eq_true (by first | (with_reducible assumption) | assumption)
              obtain ⟨ad509, e509, hx509_0, hx509_1, hx509_2⟩ := at_T44 HR0_0.out (rd l1 x8_1) p509 q509
              have hw509_2 := hx509_2
              have hw509_1 := hx509_1
              have hw509_0 := hx509_0
              cases e509
              replace hx509_0 := (HB.out.cell (World.block_lt_of_cell? w _ hx509_0)).trans hx509_0
              replace hx509_1 := (HB.out.cell (World.block_lt_of_cell? w _ hx509_1)).trans hx509_1
              replace hx509_2 := (HB.out.cell (World.block_lt_of_cell? w _ hx509_2)).trans hx509_2
              replace p509 := eq_true p509
              replace q509 := eq_true q509
              refine start_ (n := 10) (S := fun w' => w'.cell? ⟨gb498, 0, none⟩ = some (.slice (some ad509) l0_0.length c0_0) ∧ w'.cell? (ad508.add (x8_1).toNat) = some (.int .i64 (rd l1 x8_1)) ∧ w'.cell? (ad509.add (((rd l1 x8_1)).toNat * 3)) = some (.int .i64 ((rd_T44 l0_0 (rd l1 x8_1)).f0)) ∧ w'.cell? ⟨(ad509.add (((rd l1 x8_1)).toNat * 3)).block, (ad509.add (((rd l1 x8_1)).toNat * 3)).off + 1, none⟩ = some (.int .i64 ((rd_T44 l0_0 (rd l1 x8_1)).f1)) ∧ w'.cell? ⟨(ad509.add (((rd l1 x8_1)).toNat * 3)).block, (ad509.add (((rd l1 x8_1)).toNat * 3)).off + 2, none⟩ = some (.int .i64 ((rd_T44 l0_0 (rd l1 x8_1)).f2))) (ds := []) #[false, false, false, false, false, false, false, false, false, false] (by kernel_rfl) rfl rfl ⟨(blk_cell BK498.out 0).trans rfl, ((HB.out.cell (World.block_lt_of_cell? w _ hw508_0)).trans hw508_0), ((HB.out.cell (World.block_lt_of_cell? w _ hw509_0)).trans hw509_0), ((HB.out.cell (World.block_lt_of_cell? w _ hw509_1)).trans hw509_1), ((HB.out.cell (World.block_lt_of_cell? w _ hw509_2)).trans hw509_2)⟩ (fun hHeld => ?_); refine with_tabW spec_l8Once.tab6 spec_l8Once.bits6 (fun HT_ HW_ => ?_)
              generalize wr.drew = w58 at HO_6 HO_7 BK498 HB hx508_0 hx509_0 hx509_1 hx509_2 hHeld ⊢
              refine pure_ (i := 0) (N := some 22) (v := ?_) (a' := ?_) #[true, false, false, false, false, false, false, false, false, false] rfl rfl (any_of HT_.out (by kernel_rfl)) (fun _ _ _ h => h) (Or.inl ⟨by rfl, ?_⟩) ?_ ?_
              rotate_left
              ·intro w'
               go_simp
               with_reducible rfl
              rotate_left
              ·simp only [Act.put, List.setIfInBounds_toArray, List.set_cons_zero, List.set_cons_succ, i64_w, i32_w]
               rfl
              refine pure_ (i := 2) (N := some 24) (v := ?_) (a' := ?_) #[true, false, true, false, false, false, false, false, false, false] rfl rfl (any_of HT_.out (by kernel_rfl)) (fun _ _ _ h => h) (Or.inl ⟨by rfl, ?_⟩) ?_ ?_
              rotate_left
              ·intro w'
               go_simp
               with_reducible rfl
              rotate_left
              ·simp only [Act.put, List.setIfInBounds_toArray, List.set_cons_zero, List.set_cons_succ, i64_w, i32_w]
               rfl
              refine pure_ (i := 3) (N := some 25) (v := ?_) (a' := ?_) #[true, false, true, true, false, false, false, false, false, false] rfl rfl (any_of HT_.out (by kernel_rfl)) (fun _ _ _ h => h) (Or.inl ⟨by rfl, ?_⟩) ?_ ?_
              rotate_left
              ·intro w'
               go_simp
               with_reducible rfl
              rotate_left
              ·simp only [Act.put, List.setIfInBounds_toArray, List.set_cons_zero, List.set_cons_succ, i64_w, i32_w]
               rfl
              refine pure_ (i := 4) (N := some 26) (v := ?_) (a' := ?_) #[true, false, true, true, true, false, false, false, false, false] rfl rfl (any_of HT_.out (by kernel_rfl)) (fun _ _ _ h => h) (Or.inl ⟨by rfl, ?_⟩) ?_ ?_
              rotate_left
              ·intro w'
               go_simp
               with_reducible rfl
              rotate_left
              ·simp only [Act.put, List.setIfInBounds_toArray, List.set_cons_zero, List.set_cons_succ, i64_w, i32_w]
               rfl
              refine take_ (i := 1) (N := some 23) (v := ?_) (a' := ?_) #[true, true, true, true, true, false, false, false, false, false] rfl rfl (take_ofW HT_.out HW_.out (by kernel_rfl)) (fun _ _ _ h => h) (Or.inl ⟨by rfl, ?_⟩) hHeld ?_ ?_
              rotate_left
              ·rintro w' ⟨s0, s1, s2, s3, s4⟩
               go_simp
               with_reducible rfl
              rotate_left
              ·simp only [Act.put, List.setIfInBounds_toArray, List.set_cons_zero, List.set_cons_succ, i64_w, i32_w]
               rfl
              refine take_ (i := 5) (N := some 27) (v := ?_) (a' := ?_) #[true, true, true, true, true, true, false, false, false, false] rfl rfl (take_ofW HT_.out HW_.out (by kernel_rfl)) (fun _ _ _ h => h) (Or.inl ⟨by rfl, ?_⟩) hHeld ?_ ?_
              rotate_left
              ·rintro w' ⟨s0, s1, s2, s3, s4⟩
               go_simp
               with_reducible rfl
              rotate_left
              ·simp only [Act.put, List.setIfInBounds_toArray, List.set_cons_zero, List.set_cons_succ, i64_w, i32_w]
               rfl
              refine pure_ (i := 6) (N := some 28) (v := ?_) (a' := ?_) #[true, true, true, true, true, true, true, false, false, false] rfl rfl (any_of HT_.out (by kernel_rfl)) (fun _ _ _ h => h) (Or.inl ⟨by rfl, ?_⟩) ?_ ?_
              rotate_left
              ·intro w'
               go_simp
               with_reducible rfl
              rotate_left
              ·simp only [Act.put, List.setIfInBounds_toArray, List.set_cons_zero, List.set_cons_succ, i64_w, i32_w]
               rfl
              refine take_ (i := 7) (N := some 29) (v := ?_) (a' := ?_) #[true, true, true, true, true, true, true, true, false, false] rfl rfl (take_ofW HT_.out HW_.out (by kernel_rfl)) (fun _ _ _ h => h) (Or.inl ⟨by rfl, ?_⟩) hHeld ?_ ?_
              rotate_left
              ·rintro w' ⟨s0, s1, s2, s3, s4⟩
               go_simp
               with_reducible rfl
              rotate_left
              ·simp only [Act.put, List.setIfInBounds_toArray, List.set_cons_zero, List.set_cons_succ, i64_w, i32_w]
               rfl
              refine one_ (i := 8) (N := some 9) #[true, true, true, true, true, true, true, true, true, false] rfl rfl (one_of HT_.out (by kernel_rfl)) (by decide) (fun K hK => ?_)
              refine box_step ?hg (N := 9) ?hd (cs := #[.int .i64 0, .int .i64 0, .int .i64 0]) (t := 44) ?hr ?_; (case hd => rfl); (case hg => rfl); (case hr => first | (go_simp; done) | (go_simp; rfl))
              intro gb510 hg w59 hbox hb
              have n0_ := Aside0.mk (Kd.R_below (zr HO_6.out) hb)
              have n1_ := Aside0.mk (Kd.R_below (zr HO_7.out) hb)
              have n2_ := Aside0.mk (blk_below (zh BK498.out) hb)
              have n3_ := Aside0.mk (below_step (zb HB.out) hb)
              have n4_ := Aside0.mk (hbox)
              have n5_ := Aside0.mk ((by rw [hg]; exact (below_size (zb HB.out)) : w.heap.size ≤ gb510))
              have n6_ := Aside0.mk ((by rw [hg]; exact (below_size (zb HB.out)) : w.heap.size ≤ gb510))
              have n7_ := Aside0.mk ((by rw [hg]; exact Nat.ne_of_lt (blk_lt (zh BK498.out)) : gb498 ≠ gb510))
              have n8_ := Aside0.mk ((by rw [hg]; exact Nat.ne_of_gt (blk_lt (zh BK498.out)) : gb510 ≠ gb498))
              clear HO_6
              clear HO_7
              clear BK498
              clear HB
              have HO_6 := n0_
              have HO_7 := n1_
              have BK498 := n2_
              have HB := n3_
              have BK510 := n4_
              have GW510 := n5_
              have GE510 := n6_
              have NB498_510 := n7_
              have NB510_498 := n8_
              clear n0_ n1_ n2_ n3_ n4_ n5_ n6_ n7_ n8_
              clear hb hbox hg
              refine hK.out _ _ ⟨(blk_cell BK498.out 0).trans rfl, ((HB.out.cell (World.block_lt_of_cell? w _ hw508_0)).trans hw508_0), ((HB.out.cell (World.block_lt_of_cell? w _ hw509_0)).trans hw509_0), ((HB.out.cell (World.block_lt_of_cell? w _ hw509_1)).trans hw509_1), ((HB.out.cell (World.block_lt_of_cell? w _ hw509_2)).trans hw509_2)⟩ (fun hHeld => ?_)
              clear hK K
              refine norm_ (a' := ?_) ?_ ?_
              rotate_left
              ·show Act.put _ (some 9) _ = _
               simp only [Act.put, List.setIfInBounds_toArray, List.set_cons_zero, List.set_cons_succ, i64_w, i32_w]
               rfl
              refine one_ (i := 9) (N := none) #[true, true, true, true, true, true, true, true, true, true] rfl rfl (one_of HT_.out (by kernel_rfl)) (by decide) (fun K hK => ?_)
              have hs60 : w59.cell? ⟨gb510, 0, none⟩ = some (.int .i64 0) := (blk_cell BK510.out 0).trans rfl
              have hfs60 := blk_frozen BK510.out 0
              have hns60_0 := NB498_510.out
              have hms60_0 := NB510_498.out
              have hs61 : w59.cell? ⟨gb510, 1, none⟩ = some (.int .i64 0) := (blk_cell BK510.out 1).trans rfl
              have hfs61 := blk_frozen BK510.out 1
              have hns61_0 := NB498_510.out
              have hms61_0 := NB510_498.out
              have hs62 : w59.cell? ⟨gb510, 2, none⟩ = some (.int .i64 0) := (blk_cell BK510.out 2).trans rfl
              have hfs62 := blk_frozen BK510.out 2
              have hns62_0 := NB498_510.out
              have hms62_0 := NB510_498.out
              refine skip_ (w1 := ?_) (by rfl) rfl ?_ ?_
              rotate_left
              ·go_simp
               rfl
              refine hK.out _ _ ⟨((cell_far (p := ⟨gb510, _, none⟩) NB498_510.out _).trans (((cell_far (p := ⟨gb510, _, none⟩) NB498_510.out _).trans (((cell_far (p := ⟨gb510, _, none⟩) NB498_510.out _).trans (hHeld.1)))))), ((cell_far (p := ⟨gb510, _, none⟩) (by first | exact Nat.ne_of_lt (Nat.lt_of_lt_of_le (by have := World.block_lt_of_cell? _ _ hw508_0; first | rwa [add_block] at this | exact this) GW510.out) | (rw [add_block]; exact Nat.ne_of_lt (Nat.lt_of_lt_of_le (by have := World.block_lt_of_cell? _ _ hw508_0; first | rwa [add_block] at this | exact this) GW510.out)) | (show (Addr.add _ _).block ≠ _; rw [add_block]; exact Nat.ne_of_lt (Nat.lt_of_lt_of_le (by have := World.block_lt_of_cell? _ _ hw508_0; first | rwa [add_block] at this | exact this) GW510.out)) | (dsimp only; exact Nat.ne_of_lt (Nat.lt_of_lt_of_le (by have := World.block_lt_of_cell? _ _ hw508_0; first | rwa [add_block] at this | exact this) GW510.out))) _).trans (((cell_far (p := ⟨gb510, _, none⟩) (by first | exact Nat.ne_of_lt (Nat.lt_of_lt_of_le (by have := World.block_lt_of_cell? _ _ hw508_0; first | rwa [add_block] at this | exact this) GW510.out) | (rw [add_block]; exact Nat.ne_of_lt (Nat.lt_of_lt_of_le (by have := World.block_lt_of_cell? _ _ hw508_0; first | rwa [add_block] at this | exact this) GW510.out)) | (show (Addr.add _ _).block ≠ _; rw [add_block]; exact Nat.ne_of_lt (Nat.lt_of_lt_of_le (by have := World.block_lt_of_cell? _ _ hw508_0; first | rwa [add_block] at this | exact this) GW510.out)) | (dsimp only; exact Nat.ne_of_lt (Nat.lt_of_lt_of_le (by have := World.block_lt_of_cell? _ _ hw508_0; first | rwa [add_block] at this | exact this) GW510.out))) _).trans (((cell_far (p := ⟨gb510, _, none⟩) (by first | exact Nat.ne_of_lt (Nat.lt_of_lt_of_le (by have := World.block_lt_of_cell? _ _ hw508_0; first | rwa [add_block] at this | exact this) GW510.out) | (rw [add_block]; exact Nat.ne_of_lt (Nat.lt_of_lt_of_le (by have := World.block_lt_of_cell? _ _ hw508_0; first | rwa [add_block] at this | exact this) GW510.out)) | (show (Addr.add _ _).block ≠ _; rw [add_block]; exact Nat.ne_of_lt (Nat.lt_of_lt_of_le (by have := World.block_lt_of_cell? _ _ hw508_0; first | rwa [add_block] at this | exact this) GW510.out)) | (dsimp only; exact Nat.ne_of_lt (Nat.lt_of_lt_of_le (by have := World.block_lt_of_cell? _ _ hw508_0; first | rwa [add_block] at this | exact this) GW510.out))) _).trans (hHeld.2.1)))))), ((cell_far (p := ⟨gb510, _, none⟩) (by first | exact Nat.ne_of_lt (Nat.lt_of_lt_of_le (by have := World.block_lt_of_cell? _ _ hw509_0; first | rwa [add_block] at this | exact this) GW510.out) | (rw [add_block]; exact Nat.ne_of_lt (Nat.lt_of_lt_of_le (by have := World.block_lt_of_cell? _ _ hw509_0; first | rwa [add_block] at this | exact this) GW510.out)) | (show (Addr.add _ _).block ≠ _; rw [add_block]; exact Nat.ne_of_lt (Nat.lt_of_lt_of_le (by have := World.block_lt_of_cell? _ _ hw509_0; first | rwa [add_block] at this | exact this) GW510.out)) | (dsimp only; exact Nat.ne_of_lt (Nat.lt_of_lt_of_le (by have := World.block_lt_of_cell? _ _ hw509_0; first | rwa [add_block] at this | exact this) GW510.out))) _).trans (((cell_far (p := ⟨gb510, _, none⟩) (by first | exact Nat.ne_of_lt (Nat.lt_of_lt_of_le (by have := World.block_lt_of_cell? _ _ hw509_0; first | rwa [add_block] at this | exact this) GW510.out) | (rw [add_block]; exact Nat.ne_of_lt (Nat.lt_of_lt_of_le (by have := World.block_lt_of_cell? _ _ hw509_0; first | rwa [add_block] at this | exact this) GW510.out)) | (show (Addr.add _ _).block ≠ _; rw [add_block]; exact Nat.ne_of_lt (Nat.lt_of_lt_of_le (by have := World.block_lt_of_cell? _ _ hw509_0; first | rwa [add_block] at this | exact this) GW510.out)) | (dsimp only; exact Nat.ne_of_lt (Nat.lt_of_lt_of_le (by have := World.block_lt_of_cell? _ _ hw509_0; first | rwa [add_block] at this | exact this) GW510.out))) _).trans (((cell_far (p := ⟨gb510, _, none⟩) (by first | exact Nat.ne_of_lt (Nat.lt_of_lt_of_le (by have := World.block_lt_of_cell? _ _ hw509_0; first | rwa [add_block] at this | exact this) GW510.out) | (rw [add_block]; exact Nat.ne_of_lt (Nat.lt_of_lt_of_le (by have := World.block_lt_of_cell? _ _ hw509_0; first | rwa [add_block] at this | exact this) GW510.out)) | (show (Addr.add _ _).block ≠ _; rw [add_block]; exact Nat.ne_of_lt (Nat.lt_of_lt_of_le (by have := World.block_lt_of_cell? _ _ hw509_0; first | rwa [add_block] at this | exact this) GW510.out)) | (dsimp only; exact Nat.ne_of_lt (Nat.lt_of_lt_of_le (by have := World.block_lt_of_cell? _ _ hw509_0; first | rwa [add_block] at this | exact this) GW510.out))) _).trans (hHeld.2.2.1)))))), ((cell_far (p := ⟨gb510, _, none⟩) (by first | exact Nat.ne_of_lt (Nat.lt_of_lt_of_le (by have := World.block_lt_of_cell? _ _ hw509_1; first | rwa [add_block] at this | exact this) GW510.out) | (rw [add_block]; exact Nat.ne_of_lt (Nat.lt_of_lt_of_le (by have := World.block_lt_of_cell? _ _ hw509_1; first | rwa [add_block] at this | exact this) GW510.out)) | (show (Addr.add _ _).block ≠ _; rw [add_block]; exact Nat.ne_of_lt (Nat.lt_of_lt_of_le (by have := World.block_lt_of_cell? _ _ hw509_1; first | rwa [add_block] at this | exact this) GW510.out)) | (dsimp only; exact Nat.ne_of_lt (Nat.lt_of_lt_of_le (by have := World.block_lt_of_cell? _ _ hw509_1; first | rwa [add_block] at this | exact this) GW510.out))) _).trans (((cell_far (p := ⟨gb510, _, none⟩) (by first | exact Nat.ne_of_lt (Nat.lt_of_lt_of_le (by have := World.block_lt_of_cell? _ _ hw509_1; first | rwa [add_block] at this | exact this) GW510.out) | (rw [add_block]; exact Nat.ne_of_lt (Nat.lt_of_lt_of_le (by have := World.block_lt_of_cell? _ _ hw509_1; first | rwa [add_block] at this | exact this) GW510.out)) | (show (Addr.add _ _).block ≠ _; rw [add_block]; exact Nat.ne_of_lt (Nat.lt_of_lt_of_le (by have := World.block_lt_of_cell? _ _ hw509_1; first | rwa [add_block] at this | exact this) GW510.out)) | (dsimp only; exact Nat.ne_of_lt (Nat.lt_of_lt_of_le (by have := World.block_lt_of_cell? _ _ hw509_1; first | rwa [add_block] at this | exact this) GW510.out))) _).trans (((cell_far (p := ⟨gb510, _, none⟩) (by first | exact Nat.ne_of_lt (Nat.lt_of_lt_of_le (by have := World.block_lt_of_cell? _ _ hw509_1; first | rwa [add_block] at this | exact this) GW510.out) | (rw [add_block]; exact Nat.ne_of_lt (Nat.lt_of_lt_of_le (by have := World.block_lt_of_cell? _ _ hw509_1; first | rwa [add_block] at this | exact this) GW510.out)) | (show (Addr.add _ _).block ≠ _; rw [add_block]; exact Nat.ne_of_lt (Nat.lt_of_lt_of_le (by have := World.block_lt_of_cell? _ _ hw509_1; first | rwa [add_block] at this | exact this) GW510.out)) | (dsimp only; exact Nat.ne_of_lt (Nat.lt_of_lt_of_le (by have := World.block_lt_of_cell? _ _ hw509_1; first | rwa [add_block] at this | exact this) GW510.out))) _).trans (hHeld.2.2.2.1)))))), ((cell_far (p := ⟨gb510, _, none⟩) (by first | exact Nat.ne_of_lt (Nat.lt_of_lt_of_le (by have := World.block_lt_of_cell? _ _ hw509_2; first | rwa [add_block] at this | exact this) GW510.out) | (rw [add_block]; exact Nat.ne_of_lt (Nat.lt_of_lt_of_le (by have := World.block_lt_of_cell? _ _ hw509_2; first | rwa [add_block] at this | exact this) GW510.out)) | (show (Addr.add _ _).block ≠ _; rw [add_block]; exact Nat.ne_of_lt (Nat.lt_of_lt_of_le (by have := World.block_lt_of_cell? _ _ hw509_2; first | rwa [add_block] at this | exact this) GW510.out)) | (dsimp only; exact Nat.ne_of_lt (Nat.lt_of_lt_of_le (by have := World.block_lt_of_cell? _ _ hw509_2; first | rwa [add_block] at this | exact this) GW510.out))) _).trans (((cell_far (p := ⟨gb510, _, none⟩) (by first | exact Nat.ne_of_lt (Nat.lt_of_lt_of_le (by have := World.block_lt_of_cell? _ _ hw509_2; first | rwa [add_block] at this | exact this) GW510.out) | (rw [add_block]; exact Nat.ne_of_lt (Nat.lt_of_lt_of_le (by have := World.block_lt_of_cell? _ _ hw509_2; first | rwa [add_block] at this | exact this) GW510.out)) | (show (Addr.add _ _).block ≠ _; rw [add_block]; exact Nat.ne_of_lt (Nat.lt_of_lt_of_le (by have := World.block_lt_of_cell? _ _ hw509_2; first | rwa [add_block] at this | exact this) GW510.out)) | (dsimp only; exact Nat.ne_of_lt (Nat.lt_of_lt_of_le (by have := World.block_lt_of_cell? _ _ hw509_2; first | rwa [add_block] at this | exact this) GW510.out))) _).trans (((cell_far (p := ⟨gb510, _, none⟩) (by first | exact Nat.ne_of_lt (Nat.lt_of_lt_of_le (by have := World.block_lt_of_cell? _ _ hw509_2; first | rwa [add_block] at this | exact this) GW510.out) | (rw [add_block]; exact Nat.ne_of_lt (Nat.lt_of_lt_of_le (by have := World.block_lt_of_cell? _ _ hw509_2; first | rwa [add_block] at this | exact this) GW510.out)) | (show (Addr.add _ _).block ≠ _; rw [add_block]; exact Nat.ne_of_lt (Nat.lt_of_lt_of_le (by have := World.block_lt_of_cell? _ _ hw509_2; first | rwa [add_block] at this | exact this) GW510.out)) | (dsimp only; exact Nat.ne_of_lt (Nat.lt_of_lt_of_le (by have := World.block_lt_of_cell? _ _ hw509_2; first | rwa [add_block] at this | exact this) GW510.out))) _).trans (hHeld.2.2.2.2))))))⟩ (fun hHeld => ?_)
              clear hK K
              refine done_ (done_of HT_.out (by kernel_rfl)) ?_
              have hnb63 := NB510_498.out
              have hnc63 := NB498_510.out
              have hcz64_0 : w59.cell? ⟨gb510, 0, none⟩ = some (.int .i64 0) := (blk_cell BK510.out 0).trans rfl
              have hcz64_1 : w59.cell? ⟨gb510, 1, none⟩ = some (.int .i64 0) := (blk_cell BK510.out 1).trans rfl
              have hcz64_2 : w59.cell? ⟨gb510, 2, none⟩ = some (.int .i64 0) := (blk_cell BK510.out 2).trans rfl
              have hfz64_0 := blk_frozen BK510.out 0
              have hfz64_1 := blk_frozen BK510.out 1
              have hfz64_2 := blk_frozen BK510.out 2
              obtain ⟨Ao65, co65, eo65⟩ := Kd.R_slice HO_6.out
              subst eo65
              have p520 : 0 ≤ (((rd_T44 l0_0 (rd l1 x8_1)).f2) : Int) := of_decide_eq_true (by first | (with_reducible assumption) | assumption)
              have q520 : ((rd_T44 l0_0 (rd l1 x8_1)).f2) < (t499.length : Int) := of_decide_eq_true (by first | (with_reducible assumption) | assumption)
              obtain ⟨ad520, e520, hx520_0⟩ := Kd.at_bool (Kd.R_reads' HO_6.out).2.2 ((rd_T44 l0_0 (rd l1 x8_1)).f2) p520 q520
              (try rw [← Nbq45.out] at hx520_0)
              cases e520
              have hn520_0 : ad520.block ≠ gb510 := Kd.own_blk (Kd.R_ne HO_6.out BK510.out (by decide))
              have hn520_1 : ad520.block ≠ gb510 := Kd.own_blk (Kd.R_ne HO_6.out BK510.out (by decide))
              have hn520_2 : ad520.block ≠ gb510 := Kd.own_blk (Kd.R_ne HO_6.out BK510.out (by decide))
              replace hx520_0 := (cell_far (p := ⟨gb510, 0, none⟩) (by first | (rw [add_block]; exact hn520_0) | (show (Addr.add _ _).block ≠ _; rw [add_block]; exact hn520_0) | exact hn520_0) (.int .i64 ((rd_T44 l0_0 (rd l1 x8_1)).f0))).trans hx520_0
              replace hx520_0 := (cell_far (p := ⟨gb510, 1, none⟩) (by first | (rw [add_block]; exact hn520_1) | (show (Addr.add _ _).block ≠ _; rw [add_block]; exact hn520_1) | exact hn520_1) (.int .i64 ((rd_T44 l0_0 (rd l1 x8_1)).f1))).trans hx520_0
              replace hx520_0 := (cell_far (p := ⟨gb510, 2, none⟩) (by first | (rw [add_block]; exact hn520_2) | (show (Addr.add _ _).block ≠ _; rw [add_block]; exact hn520_2) | exact hn520_2) (.int .i64 ((rd_T44 l0_0 (rd l1 x8_1)).f2))).trans hx520_0
              clear hn520_0
              clear hn520_1
              clear hn520_2
              replace p520 := eq_true p520
              replace q520 := eq_true q520
              try go_wp2
              go_roundg k1
              case measure => have := HK1.out; omega
              case rel => exact ⟨(x7_1), (wrap64 (x8_1 + 1)), (by first | rfl | (simp; done) | (simp [*]; done)), H', ⟨by have := HK1.out; omega⟩, ⟨zr (Kd.R_mono (Kd.R_far (p := ⟨gb510, 2, none⟩) (Kd.R_far (p := ⟨gb510, 1, none⟩) (Kd.R_far (p := ⟨gb510, 0, none⟩) (Kd.R_types HO_6.out BK510.out (by decide)) (fun _ hk => hk.2) (.int .i64 ((rd_T44 l0_0 (rd l1 x8_1)).f0))) (fun _ hk => hk.2) (.int .i64 ((rd_T44 l0_0 (rd l1 x8_1)).f1))) (fun _ hk => hk.2) (.int .i64 ((rd_T44 l0_0 (rd l1 x8_1)).f2))) (fun _ hk => trivial))⟩, ⟨zr (Kd.R_mono (Kd.R_far (p := ⟨gb510, 2, none⟩) (Kd.R_far (p := ⟨gb510, 1, none⟩) (Kd.R_far (p := ⟨gb510, 0, none⟩) (Kd.R_types HO_7.out BK510.out (by decide)) (fun _ hk => hk.2) (.int .i64 ((rd_T44 l0_0 (rd l1 x8_1)).f0))) (fun _ hk => hk.2) (.int .i64 ((rd_T44 l0_0 (rd l1 x8_1)).f1))) (fun _ hk => hk.2) (.int .i64 ((rd_T44 l0_0 (rd l1 x8_1)).f2))) (fun _ hk => trivial))⟩, ⟨zf BK498.out⟩, ⟨zb HB.out⟩⟩
            ·rw [if_neg c44] at H
             exact absurd H (by simp)
           ·rw [if_neg c43] at H
            exact absurd H (by simp)
          ·rw [if_neg c42] at H
           have c42b0 : (((rd_T44 l0_0 (rd l1 x8_1)).f0) == 3) = false := beq_eq_false_iff_ne.mpr c42
           have c42b1 : (((rd_T44 l0_0 (rd l1 x8_1)).f0) != 3) = true := bne_iff_ne.mpr c42
           have H' := Aside0.mk H
           clear H
           try go_wp2
           have n0_ := Aside0.mk (Kd.R_drew HO_6.out)
           have n1_ := Aside0.mk (Kd.R_drew HO_7.out)
           have n2_ := Aside0.mk (blk_drew BK498.out)
           have n3_ := Aside0.mk (below_drew1 HB.out)
           clear HO_6
           clear HO_7
           clear BK498
           clear HB
           have HO_6 := n0_
           have HO_7 := n1_
           have BK498 := n2_
           have HB := n3_
           clear n0_ n1_ n2_ n3_
           have p508 : 0 ≤ (x8_1 : Int) := of_decide_eq_true (by first | (with_reducible assumption) | assumption)
           have q508 : x8_1 < (l1.length : Int) := of_decide_eq_true (by first | (with_reducible assumption) | assumption)
           obtain ⟨ad508, e508, hx508_0⟩ := Kd.at_int HR1.out x8_1 p508 q508
           have hw508_0 := hx508_0
           cases e508
           replace hx508_0 := (HB.out.cell (World.block_lt_of_cell? w _ hx508_0)).trans hx508_0
           replace p508 := eq_true p508
           replace q508 := eq_true q508
           have p509 : 0 ≤ ((rd l1 x8_1) : Int) := of_decide_eq_true (by first | (with_reducible assumption) | assumption)
           have q509 : (rd l1 x8_1) < (l0_0.length : Int) := of_decide_eq_true (by first | (with_reducible assumption) | assumption)
           obtain ⟨ad509, e509, hx509_0, hx509_1, hx509_2⟩ := at_T44 HR0_0.out (rd l1 x8_1) p509 q509
           have hw509_2 := hx509_2
           have hw509_1 := hx509_1
           have hw509_0 := hx509_0
           cases e509
           replace hx509_0 := (HB.out.cell (World.block_lt_of_cell? w _ hx509_0)).trans hx509_0
           replace hx509_1 := (HB.out.cell (World.block_lt_of_cell? w _ hx509_1)).trans hx509_1
           replace hx509_2 := (HB.out.cell (World.block_lt_of_cell? w _ hx509_2)).trans hx509_2
           replace p509 := eq_true p509
           replace q509 := eq_true q509
           refine start_ (n := 10) (S := fun w' => w'.cell? ⟨gb498, 0, none⟩ = some (.slice (some ad509) l0_0.length c0_0) ∧ w'.cell? (ad508.add (x8_1).toNat) = some (.int .i64 (rd l1 x8_1)) ∧ w'.cell? (ad509.add (((rd l1 x8_1)).toNat * 3)) = some (.int .i64 ((rd_T44 l0_0 (rd l1 x8_1)).f0)) ∧ w'.cell? ⟨(ad509.add (((rd l1 x8_1)).toNat * 3)).block, (ad509.add (((rd l1 x8_1)).toNat * 3)).off + 1, none⟩ = some (.int .i64 ((rd_T44 l0_0 (rd l1 x8_1)).f1)) ∧ w'.cell? ⟨(ad509.add (((rd l1 x8_1)).toNat * 3)).block, (ad509.add (((rd l1 x8_1)).toNat * 3)).off + 2, none⟩ = some (.int .i64 ((rd_T44 l0_0 (rd l1 x8_1)).f2))) (ds := []) #[false, false, false, false, false, false, false, false, false, false] (by kernel_rfl) rfl rfl ⟨(blk_cell BK498.out 0).trans rfl, ((HB.out.cell (World.block_lt_of_cell? w _ hw508_0)).trans hw508_0), ((HB.out.cell (World.block_lt_of_cell? w _ hw509_0)).trans hw509_0), ((HB.out.cell (World.block_lt_of_cell? w _ hw509_1)).trans hw509_1), ((HB.out.cell (World.block_lt_of_cell? w _ hw509_2)).trans hw509_2)⟩ (fun hHeld => ?_); refine with_tabW spec_l8Once.tab6 spec_l8Once.bits6 (fun HT_ HW_ => ?_)
           generalize wr.drew = w66 at HO_6 HO_7 BK498 HB hx508_0 hx509_0 hx509_1 hx509_2 hHeld ⊢
           refine pure_ (i := 0) (N := some 22) (v := ?_) (a' := ?_) #[true, false, false, false, false, false, false, false, false, false] rfl rfl (any_of HT_.out (by kernel_rfl)) (fun _ _ _ h => h) (Or.inl ⟨by rfl, ?_⟩) ?_ ?_
           rotate_left
           ·intro w'
            go_simp
            with_reducible rfl
           rotate_left
           ·simp only [Act.put, List.setIfInBounds_toArray, List.set_cons_zero, List.set_cons_succ, i64_w, i32_w]
            rfl
           refine pure_ (i := 2) (N := some 24) (v := ?_) (a' := ?_) #[true, false, true, false, false, false, false, false, false, false] rfl rfl (any_of HT_.out (by kernel_rfl)) (fun _ _ _ h => h) (Or.inl ⟨by rfl, ?_⟩) ?_ ?_
           rotate_left
           ·intro w'
            go_simp
            with_reducible rfl
           rotate_left
           ·simp only [Act.put, List.setIfInBounds_toArray, List.set_cons_zero, List.set_cons_succ, i64_w, i32_w]
            rfl
           refine pure_ (i := 3) (N := some 25) (v := ?_) (a' := ?_) #[true, false, true, true, false, false, false, false, false, false] rfl rfl (any_of HT_.out (by kernel_rfl)) (fun _ _ _ h => h) (Or.inl ⟨by rfl, ?_⟩) ?_ ?_
           rotate_left
           ·intro w'
            go_simp
            with_reducible rfl
           rotate_left
           ·simp only [Act.put, List.setIfInBounds_toArray, List.set_cons_zero, List.set_cons_succ, i64_w, i32_w]
            rfl
           refine pure_ (i := 4) (N := some 26) (v := ?_) (a' := ?_) #[true, false, true, true, true, false, false, false, false, false] rfl rfl (any_of HT_.out (by kernel_rfl)) (fun _ _ _ h => h) (Or.inl ⟨by rfl, ?_⟩) ?_ ?_
           rotate_left
           ·intro w'
            go_simp
            with_reducible rfl
           rotate_left
           ·simp only [Act.put, List.setIfInBounds_toArray, List.set_cons_zero, List.set_cons_succ, i64_w, i32_w]
            rfl
           refine take_ (i := 1) (N := some 23) (v := ?_) (a' := ?_) #[true, true, true, true, true, false, false, false, false, false] rfl rfl (take_ofW HT_.out HW_.out (by kernel_rfl)) (fun _ _ _ h => h) (Or.inl ⟨by rfl, ?_⟩) hHeld ?_ ?_
           rotate_left
           ·rintro w' ⟨s0, s1, s2, s3, s4⟩
            go_simp
            with_reducible rfl
           rotate_left
           ·simp only [Act.put, List.setIfInBounds_toArray, List.set_cons_zero, List.set_cons_succ, i64_w, i32_w]
            rfl
           refine take_ (i := 5) (N := some 27) (v := ?_) (a' := ?_) #[true, true, true, true, true, true, false, false, false, false] rfl rfl (take_ofW HT_.out HW_.out (by kernel_rfl)) (fun _ _ _ h => h) (Or.inl ⟨by rfl, ?_⟩) hHeld ?_ ?_
           rotate_left
           ·rintro w' ⟨s0, s1, s2, s3, s4⟩
            go_simp
            with_reducible rfl
           rotate_left
           ·simp only [Act.put, List.setIfInBounds_toArray, List.set_cons_zero, List.set_cons_succ, i64_w, i32_w]
            rfl
           refine pure_ (i := 6) (N := some 28) (v := ?_) (a' := ?_) #[true, true, true, true, true, true, true, false, false, false] rfl rfl (any_of HT_.out (by kernel_rfl)) (fun _ _ _ h => h) (Or.inl ⟨by rfl, ?_⟩) ?_ ?_
           rotate_left
           ·intro w'
            go_simp
            with_reducible rfl
           rotate_left
           ·simp only [Act.put, List.setIfInBounds_toArray, List.set_cons_zero, List.set_cons_succ, i64_w, i32_w]
            rfl
           refine take_ (i := 7) (N := some 29) (v := ?_) (a' := ?_) #[true, true, true, true, true, true, true, true, false, false] rfl rfl (take_ofW HT_.out HW_.out (by kernel_rfl)) (fun _ _ _ h => h) (Or.inl ⟨by rfl, ?_⟩) hHeld ?_ ?_
           rotate_left
           ·rintro w' ⟨s0, s1, s2, s3, s4⟩
            go_simp
            with_reducible rfl
           rotate_left
           ·simp only [Act.put, List.setIfInBounds_toArray, List.set_cons_zero, List.set_cons_succ, i64_w, i32_w]
            rfl
           refine one_ (i := 8) (N := some 9) #[true, true, true, true, true, true, true, true, true, false] rfl rfl (one_of HT_.out (by kernel_rfl)) (by decide) (fun K hK => ?_)
           refine box_step ?hg (N := 9) ?hd (cs := #[.int .i64 0, .int .i64 0, .int .i64 0]) (t := 44) ?hr ?_; (case hd => rfl); (case hg => rfl); (case hr => first | (go_simp; done) | (go_simp; rfl))
           intro gb510 hg w67 hbox hb
           have n0_ := Aside0.mk (Kd.R_below (zr HO_6.out) hb)
           have n1_ := Aside0.mk (Kd.R_below (zr HO_7.out) hb)
           have n2_ := Aside0.mk (blk_below (zh BK498.out) hb)
           have n3_ := Aside0.mk (below_step (zb HB.out) hb)
           have n4_ := Aside0.mk (hbox)
           have n5_ := Aside0.mk ((by rw [hg]; exact (below_size (zb HB.out)) : w.heap.size ≤ gb510))
           have n6_ := Aside0.mk ((by rw [hg]; exact (below_size (zb HB.out)) : w.heap.size ≤ gb510))
           have n7_ := Aside0.mk ((by rw [hg]; exact Nat.ne_of_lt (blk_lt (zh BK498.out)) : gb498 ≠ gb510))
           have n8_ := Aside0.mk ((by rw [hg]; exact Nat.ne_of_gt (blk_lt (zh BK498.out)) : gb510 ≠ gb498))
           clear HO_6
           clear HO_7
           clear BK498
           clear HB
           have HO_6 := n0_
           have HO_7 := n1_
           have BK498 := n2_
           have HB := n3_
           have BK510 := n4_
           have GW510 := n5_
           have GE510 := n6_
           have NB498_510 := n7_
           have NB510_498 := n8_
           clear n0_ n1_ n2_ n3_ n4_ n5_ n6_ n7_ n8_
           clear hb hbox hg
           refine hK.out _ _ ⟨(blk_cell BK498.out 0).trans rfl, ((HB.out.cell (World.block_lt_of_cell? w _ hw508_0)).trans hw508_0), ((HB.out.cell (World.block_lt_of_cell? w _ hw509_0)).trans hw509_0), ((HB.out.cell (World.block_lt_of_cell? w _ hw509_1)).trans hw509_1), ((HB.out.cell (World.block_lt_of_cell? w _ hw509_2)).trans hw509_2)⟩ (fun hHeld => ?_)
           clear hK K
           refine norm_ (a' := ?_) ?_ ?_
           rotate_left
           ·show Act.put _ (some 9) _ = _
            simp only [Act.put, List.setIfInBounds_toArray, List.set_cons_zero, List.set_cons_succ, i64_w, i32_w]
            rfl
           refine one_ (i := 9) (N := none) #[true, true, true, true, true, true, true, true, true, true] rfl rfl (one_of HT_.out (by kernel_rfl)) (by decide) (fun K hK => ?_)
           have hs68 : w67.cell? ⟨gb510, 0, none⟩ = some (.int .i64 0) := (blk_cell BK510.out 0).trans rfl
           have hfs68 := blk_frozen BK510.out 0
           have hns68_0 := NB498_510.out
           have hms68_0 := NB510_498.out
           have hs69 : w67.cell? ⟨gb510, 1, none⟩ = some (.int .i64 0) := (blk_cell BK510.out 1).trans rfl
           have hfs69 := blk_frozen BK510.out 1
           have hns69_0 := NB498_510.out
           have hms69_0 := NB510_498.out
           have hs70 : w67.cell? ⟨gb510, 2, none⟩ = some (.int .i64 0) := (blk_cell BK510.out 2).trans rfl
           have hfs70 := blk_frozen BK510.out 2
           have hns70_0 := NB498_510.out
           have hms70_0 := NB510_498.out
           refine skip_ (w1 := ?_) (by rfl) rfl ?_ ?_
           rotate_left
           ·go_simp
            rfl
           refine hK.out _ _ ⟨((cell_far (p := ⟨gb510, _, none⟩) NB498_510.out _).trans (((cell_far (p := ⟨gb510, _, none⟩) NB498_510.out _).trans (((cell_far (p := ⟨gb510, _, none⟩) NB498_510.out _).trans (hHeld.1)))))), ((cell_far (p := ⟨gb510, _, none⟩) (by first | exact Nat.ne_of_lt (Nat.lt_of_lt_of_le (by have := World.block_lt_of_cell? _ _ hw508_0; first | rwa [add_block] at this | exact this) GW510.out) | (rw [add_block]; exact Nat.ne_of_lt (Nat.lt_of_lt_of_le (by have := World.block_lt_of_cell? _ _ hw508_0; first | rwa [add_block] at this | exact this) GW510.out)) | (show (Addr.add _ _).block ≠ _; rw [add_block]; exact Nat.ne_of_lt (Nat.lt_of_lt_of_le (by have := World.block_lt_of_cell? _ _ hw508_0; first | rwa [add_block] at this | exact this) GW510.out)) | (dsimp only; exact Nat.ne_of_lt (Nat.lt_of_lt_of_le (by have := World.block_lt_of_cell? _ _ hw508_0; first | rwa [add_block] at this | exact this) GW510.out))) _).trans (((cell_far (p := ⟨gb510, _, none⟩) (by first | exact Nat.ne_of_lt (Nat.lt_of_lt_of_le (by have := World.block_lt_of_cell? _ _ hw508_0; first | rwa [add_block] at this | exact this) GW510.out) | (rw [add_block]; exact Nat.ne_of_lt (Nat.lt_of_lt_of_le (by have := World.block_lt_of_cell? _ _ hw508_0; first | rwa [add_block] at this | exact this) GW510.out)) | (show (Addr.add _ _).block ≠ _; rw [add_block]; exact Nat.ne_of_lt (Nat.lt_of_lt_of_le (by have := World.block_lt_of_cell? _ _ hw508_0; first | rwa [add_block] at this | exact this) GW510.out)) | (dsimp only; exact Nat.ne_of_lt (Nat.lt_of_lt_of_le (by have := World.block_lt_of_cell? _ _ hw508_0; first | rwa [add_block] at this | exact this) GW510.out))) _).trans (((cell_far (p := ⟨gb510, _, none⟩) (by first | exact Nat.ne_of_lt (Nat.lt_of_lt_of_le (by have := World.block_lt_of_cell? _ _ hw508_0; first | rwa [add_block] at this | exact this) GW510.out) | (rw [add_block]; exact Nat.ne_of_lt (Nat.lt_of_lt_of_le (by have := World.block_lt_of_cell? _ _ hw508_0; first | rwa [add_block] at this | exact this) GW510.out)) | (show (Addr.add _ _).block ≠ _; rw [add_block]; exact Nat.ne_of_lt (Nat.lt_of_lt_of_le (by have := World.block_lt_of_cell? _ _ hw508_0; first | rwa [add_block] at this | exact this) GW510.out)) | (dsimp only; exact Nat.ne_of_lt (Nat.lt_of_lt_of_le (by have := World.block_lt_of_cell? _ _ hw508_0; first | rwa [add_block] at this | exact this) GW510.out))) _).trans (hHeld.2.1)))))), ((cell_far (p := ⟨gb510, _, none⟩) (by first | exact Nat.ne_of_lt (Nat.lt_of_lt_of_le (by have := World.block_lt_of_cell? _ _ hw509_0; first | rwa [add_block] at this | exact this) GW510.out) | (rw [add_block]; exact Nat.ne_of_lt (Nat.lt_of_lt_of_le (by have := World.block_lt_of_cell? _ _ hw509_0; first | rwa [add_block] at this | exact this) GW510.out)) | (show (Addr.add _ _).block ≠ _; rw [add_block]; exact Nat.ne_of_lt (Nat.lt_of_lt_of_le (by have := World.block_lt_of_cell? _ _ hw509_0; first | rwa [add_block] at this | exact this) GW510.out)) | (dsimp only; exact Nat.ne_of_lt (Nat.lt_of_lt_of_le (by have := World.block_lt_of_cell? _ _ hw509_0; first | rwa [add_block] at this | exact this) GW510.out))) _).trans (((cell_far (p := ⟨gb510, _, none⟩) (by first | exact Nat.ne_of_lt (Nat.lt_of_lt_of_le (by have := World.block_lt_of_cell? _ _ hw509_0; first | rwa [add_block] at this | exact this) GW510.out) | (rw [add_block]; exact Nat.ne_of_lt (Nat.lt_of_lt_of_le (by have := World.block_lt_of_cell? _ _ hw509_0; first | rwa [add_block] at this | exact this) GW510.out)) | (show (Addr.add _ _).block ≠ _; rw [add_block]; exact Nat.ne_of_lt (Nat.lt_of_lt_of_le (by have := World.block_lt_of_cell? _ _ hw509_0; first | rwa [add_block] at this | exact this) GW510.out)) | (dsimp only; exact Nat.ne_of_lt (Nat.lt_of_lt_of_le (by have := World.block_lt_of_cell? _ _ hw509_0; first | rwa [add_block] at this | exact this) GW510.out))) _).trans (((cell_far (p := ⟨gb510, _, none⟩) (by first | exact Nat.ne_of_lt (Nat.lt_of_lt_of_le (by have := World.block_lt_of_cell? _ _ hw509_0; first | rwa [add_block] at this | exact this) GW510.out) | (rw [add_block]; exact Nat.ne_of_lt (Nat.lt_of_lt_of_le (by have := World.block_lt_of_cell? _ _ hw509_0; first | rwa [add_block] at this | exact this) GW510.out)) | (show (Addr.add _ _).block ≠ _; rw [add_block]; exact Nat.ne_of_lt (Nat.lt_of_lt_of_le (by have := World.block_lt_of_cell? _ _ hw509_0; first | rwa [add_block] at this | exact this) GW510.out)) | (dsimp only; exact Nat.ne_of_lt (Nat.lt_of_lt_of_le (by have := World.block_lt_of_cell? _ _ hw509_0; first | rwa [add_block] at this | exact this) GW510.out))) _).trans (hHeld.2.2.1)))))), ((cell_far (p := ⟨gb510, _, none⟩) (by first | exact Nat.ne_of_lt (Nat.lt_of_lt_of_le (by have := World.block_lt_of_cell? _ _ hw509_1; first | rwa [add_block] at this | exact this) GW510.out) | (rw [add_block]; exact Nat.ne_of_lt (Nat.lt_of_lt_of_le (by have := World.block_lt_of_cell? _ _ hw509_1; first | rwa [add_block] at this | exact this) GW510.out)) | (show (Addr.add _ _).block ≠ _; rw [add_block]; exact Nat.ne_of_lt (Nat.lt_of_lt_of_le (by have := World.block_lt_of_cell? _ _ hw509_1; first | rwa [add_block] at this | exact this) GW510.out)) | (dsimp only; exact Nat.ne_of_lt (Nat.lt_of_lt_of_le (by have := World.block_lt_of_cell? _ _ hw509_1; first | rwa [add_block] at this | exact this) GW510.out))) _).trans (((cell_far (p := ⟨gb510, _, none⟩) (by first | exact Nat.ne_of_lt (Nat.lt_of_lt_of_le (by have := World.block_lt_of_cell? _ _ hw509_1; first | rwa [add_block] at this | exact this) GW510.out) | (rw [add_block]; exact Nat.ne_of_lt (Nat.lt_of_lt_of_le (by have := World.block_lt_of_cell? _ _ hw509_1; first | rwa [add_block] at this | exact this) GW510.out)) | (show (Addr.add _ _).block ≠ _; rw [add_block]; exact Nat.ne_of_lt (Nat.lt_of_lt_of_le (by have := World.block_lt_of_cell? _ _ hw509_1; first | rwa [add_block] at this | exact this) GW510.out)) | (dsimp only; exact Nat.ne_of_lt (Nat.lt_of_lt_of_le (by have := World.block_lt_of_cell? _ _ hw509_1; first | rwa [add_block] at this | exact this) GW510.out))) _).trans (((cell_far (p := ⟨gb510, _, none⟩) (by first | exact Nat.ne_of_lt (Nat.lt_of_lt_of_le (by have := World.block_lt_of_cell? _ _ hw509_1; first | rwa [add_block] at this | exact this) GW510.out) | (rw [add_block]; exact Nat.ne_of_lt (Nat.lt_of_lt_of_le (by have := World.block_lt_of_cell? _ _ hw509_1; first | rwa [add_block] at this | exact this) GW510.out)) | (show (Addr.add _ _).block ≠ _; rw [add_block]; exact Nat.ne_of_lt (Nat.lt_of_lt_of_le (by have := World.block_lt_of_cell? _ _ hw509_1; first | rwa [add_block] at this | exact this) GW510.out)) | (dsimp only; exact Nat.ne_of_lt (Nat.lt_of_lt_of_le (by have := World.block_lt_of_cell? _ _ hw509_1; first | rwa [add_block] at this | exact this) GW510.out))) _).trans (hHeld.2.2.2.1)))))), ((cell_far (p := ⟨gb510, _, none⟩) (by first | exact Nat.ne_of_lt (Nat.lt_of_lt_of_le (by have := World.block_lt_of_cell? _ _ hw509_2; first | rwa [add_block] at this | exact this) GW510.out) | (rw [add_block]; exact Nat.ne_of_lt (Nat.lt_of_lt_of_le (by have := World.block_lt_of_cell? _ _ hw509_2; first | rwa [add_block] at this | exact this) GW510.out)) | (show (Addr.add _ _).block ≠ _; rw [add_block]; exact Nat.ne_of_lt (Nat.lt_of_lt_of_le (by have := World.block_lt_of_cell? _ _ hw509_2; first | rwa [add_block] at this | exact this) GW510.out)) | (dsimp only; exact Nat.ne_of_lt (Nat.lt_of_lt_of_le (by have := World.block_lt_of_cell? _ _ hw509_2; first | rwa [add_block] at this | exact this) GW510.out))) _).trans (((cell_far (p := ⟨gb510, _, none⟩) (by first | exact Nat.ne_of_lt (Nat.lt_of_lt_of_le (by have := World.block_lt_of_cell? _ _ hw509_2; first | rwa [add_block] at this | exact this) GW510.out) | (rw [add_block]; exact Nat.ne_of_lt (Nat.lt_of_lt_of_le (by have := World.block_lt_of_cell? _ _ hw509_2; first | rwa [add_block] at this | exact this) GW510.out)) | (show (Addr.add _ _).block ≠ _; rw [add_block]; exact Nat.ne_of_lt (Nat.lt_of_lt_of_le (by have := World.block_lt_of_cell? _ _ hw509_2; first | rwa [add_block] at this | exact this) GW510.out)) | (dsimp only; exact Nat.ne_of_lt (Nat.lt_of_lt_of_le (by have := World.block_lt_of_cell? _ _ hw509_2; first | rwa [add_block] at this | exact this) GW510.out))) _).trans (((cell_far (p := ⟨gb510, _, none⟩) (by first | exact Nat.ne_of_lt (Nat.lt_of_lt_of_le (by have := World.block_lt_of_cell? _ _ hw509_2; first | rwa [add_block] at this | exact this) GW510.out) | (rw [add_block]; exact Nat.ne_of_lt (Nat.lt_of_lt_of_le (by have := World.block_lt_of_cell? _ _ hw509_2; first | rwa [add_block] at this | exact this) GW510.out)) | (show (Addr.add _ _).block ≠ _; rw [add_block]; exact Nat.ne_of_lt (Nat.lt_of_lt_of_le (by have := World.block_lt_of_cell? _ _ hw509_2; first | rwa [add_block] at this | exact this) GW510.out)) | (dsimp only; exact Nat.ne_of_lt (Nat.lt_of_lt_of_le (by have := World.block_lt_of_cell? _ _ hw509_2; first | rwa [add_block] at this | exact this) GW510.out))) _).trans (hHeld.2.2.2.2))))))⟩ (fun hHeld => ?_)
           clear hK K
           refine done_ (done_of HT_.out (by kernel_rfl)) ?_
           have hnb71 := NB510_498.out
           have hnc71 := NB498_510.out
           have hcz72_0 : w67.cell? ⟨gb510, 0, none⟩ = some (.int .i64 0) := (blk_cell BK510.out 0).trans rfl
           have hcz72_1 : w67.cell? ⟨gb510, 1, none⟩ = some (.int .i64 0) := (blk_cell BK510.out 1).trans rfl
           have hcz72_2 : w67.cell? ⟨gb510, 2, none⟩ = some (.int .i64 0) := (blk_cell BK510.out 2).trans rfl
           have hfz72_0 := blk_frozen BK510.out 0
           have hfz72_1 := blk_frozen BK510.out 1
           have hfz72_2 := blk_frozen BK510.out 2
           try go_wp2
           go_roundg k1
           case measure => have := HK1.out; omega
           case rel => exact ⟨(x7_1), (wrap64 (x8_1 + 1)), (by first | rfl | (simp; done) | (simp [*]; done)), H', ⟨by have := HK1.out; omega⟩, ⟨zr (Kd.R_mono (Kd.R_far (p := ⟨gb510, 2, none⟩) (Kd.R_far (p := ⟨gb510, 1, none⟩) (Kd.R_far (p := ⟨gb510, 0, none⟩) (Kd.R_types HO_6.out BK510.out (by decide)) (fun _ hk => hk.2) (.int .i64 ((rd_T44 l0_0 (rd l1 x8_1)).f0))) (fun _ hk => hk.2) (.int .i64 ((rd_T44 l0_0 (rd l1 x8_1)).f1))) (fun _ hk => hk.2) (.int .i64 ((rd_T44 l0_0 (rd l1 x8_1)).f2))) (fun _ hk => trivial))⟩, ⟨zr (Kd.R_mono (Kd.R_far (p := ⟨gb510, 2, none⟩) (Kd.R_far (p := ⟨gb510, 1, none⟩) (Kd.R_far (p := ⟨gb510, 0, none⟩) (Kd.R_types HO_7.out BK510.out (by decide)) (fun _ hk => hk.2) (.int .i64 ((rd_T44 l0_0 (rd l1 x8_1)).f0))) (fun _ hk => hk.2) (.int .i64 ((rd_T44 l0_0 (rd l1 x8_1)).f1))) (fun _ hk => hk.2) (.int .i64 ((rd_T44 l0_0 (rd l1 x8_1)).f2))) (fun _ hk => trivial))⟩, ⟨zf BK498.out⟩, ⟨zb HB.out⟩⟩
       ·rw [if_neg c14] at H
        exact absurd H (by simp)
      ·rw [if_neg c13] at H
       exact absurd H (by simp)
     ·rw [if_neg c12] at H
      exact absurd H (by simp)
    ·rw [if_neg c11] at H
     have c11b0 : decide (x8_1 < (l1.length : Int)) = false := decide_eq_false c11
     clear c11
     simp only [Option.some.injEq, Prod.mk.injEq] at H
     obtain ⟨rfl, rfl⟩ := H
     obtain ⟨Ao73, co73, eo73⟩ := Kd.R_slice HO_7.out
     subst eo73
     go_wp2
     go_ret2
     exact ⟨_, ze, zr HO_7.out, zb HB.out⟩
 ·rw [if_neg c4] at H
  exact absurd H (by simp)

end Go.Proofs.Ytdgahpigcaejbaa.D
end
