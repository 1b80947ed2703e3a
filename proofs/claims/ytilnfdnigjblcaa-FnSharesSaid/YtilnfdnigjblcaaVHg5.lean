import Derived.Test.YtilnfdnigjblcaaVH0
import Derived.Test.YtilnfdnigjblcaaVHg0
import Derived.Test.YtilnfdnigjblcaaVHg2
import Derived.Test.YtilnfdnigjblcaaVHg3
import Derived.Test.YtilnfdnigjblcaaVHg4
section
-- Written by this session's program (wip/tools/gprint.py over the kit's print) out of the translation; Lean checks it.
namespace Go.Proofs.Ytilnfdnigjblcaa.H
open Go.RowKit Go.Proofs.YtilnfdnigjblcaaW.PrintWords Go.Proofs.YtilnfdnigjblcaaW.PrintLast Go.Proofs.YtilnfdnigjblcaaW.PrintMore
attribute [local go_sem] max2_int min2_int max_two min_two max_three min_three max_four min_four   -- for this text's walks alone
set_option linter.unusedVariables false
set_option linter.unusedSimpArgs false
set_option maxRecDepth 100000

/-! ### spec_l6DrawAny: function 62 -/
def spec_l6DrawAny.l0 : Nat → List Int → Int → List Int → Int → Int → Option (List Int × Int × Int)
 | 0, _, _, _, _, _ => none
 | k + 1, x5, x6, x1000, x1001, x1002 => (spec_l1Below.f x1000 x1001 x1002 2).bind fun bt340 => (if x6 < (wrap64 (200 + bt340.1)) then ((spec_l6Put.f k x5 x6).bind fun t343 => (spec_l6DrawAny.l0 k t343 (wrap64 (x6 + 1)) x1000 bt340.2.1 bt340.2.2)) else (some (x5, bt340.2.1, bt340.2.2)))
def spec_l6DrawAny.f (k : Nat) (s0_0 : List Int) (s0_1 : Int) (s0_2 : Int) (l1_0 : List (S67)) : Option (List Int × Int × Int) := (spec_l6DrawKnow.f k s0_0 s0_1 s0_2 l1_0).bind fun bt326 => ((spec_l1Below.f s0_0 bt326.2.1 bt326.2.2 30).bind fun bt331 => (if bt331.1 = 0 then (if bt326.1.length < 17592186044416 then (some ((bt326.1 ++ [(l1_0.length : Int)]), bt331.2.1, bt331.2.2)) else (none)) else (if bt331.1 = 1 then (if bt326.1.length + bt326.1.length < 17592186044416 then (some ((bt326.1 ++ bt326.1), bt331.2.1, bt331.2.2)) else (none)) else (if bt331.1 = 2 then (spec_l6DrawAny.l0 k bt326.1 0 s0_0 bt331.2.1 bt331.2.2) else (some (bt326.1, bt331.2.1, bt331.2.2))))))
theorem spec_l6DrawAny.mono_l : ∀ k, (∀ y0 y1 y2 y3 y4, LeO (spec_l6DrawAny.l0 k y0 y1 y2 y3 y4) (spec_l6DrawAny.l0 (k + 1) y0 y1 y2 y3 y4))
 | 0 => fun _ _ _ _ _ r h => by simp [spec_l6DrawAny.l0] at h
 | k + 1 => by
  have ih0 := spec_l6DrawAny.mono_l k
  ·intro y0 y1 y2 y3 y4
   unfold spec_l6DrawAny.l0
   repeat' first
   | (with_reducible exact ih0 _ _ _ _ _)
   | (with_reducible exact spec_l6DrawKnow.mono _ _ _ _ _)
   | (with_reducible exact spec_l6Put.mono _ _ _)
   | (with_reducible exact LeO.refl _)
   | (with_reducible exact LeO.none _)
   | (with_reducible refine LeO.ite ?_ ?_)
   | (with_reducible refine LeO.bind ?_ (fun _ => ?_))
   | exact ih0 _ _ _ _ _
   | exact spec_l6DrawKnow.mono _ _ _ _ _
   | exact spec_l6Put.mono _ _ _
   | exact LeO.none _
   | refine LeO.ite ?_ ?_
   | refine LeO.bind ?_ (fun _ => ?_)
theorem spec_l6DrawAny.mono : ∀ a0 a1 a2 a3 k, LeO (spec_l6DrawAny.f k a0 a1 a2 a3) (spec_l6DrawAny.f (k + 1) a0 a1 a2 a3) := by
 intro a0 a1 a2 a3 k
 have ih0 := spec_l6DrawAny.mono_l k
 unfold spec_l6DrawAny.f
 repeat' first
   | (with_reducible exact ih0 _ _ _ _ _)
   | (with_reducible exact spec_l6DrawKnow.mono _ _ _ _ _)
   | (with_reducible exact spec_l6Put.mono _ _ _)
   | (with_reducible exact LeO.refl _)
   | (with_reducible exact LeO.none _)
   | (with_reducible refine LeO.ite ?_ ?_)
   | (with_reducible refine LeO.bind ?_ (fun _ => ?_))
   | exact ih0 _ _ _ _ _
   | exact spec_l6DrawKnow.mono _ _ _ _ _
   | exact spec_l6Put.mono _ _ _
   | exact LeO.none _
   | refine LeO.ite ?_ ?_
   | refine LeO.bind ?_ (fun _ => ?_)
set_option maxHeartbeats 8000000 in
set_option maxRecDepth 100000 in
theorem spec_l6DrawAny.calls (k : Nat) (g : Nat) (s0_0 : List Int) (s0_1 : Int) (s0_2 : Int) (A1_0 : Option Addr) (c1_0 : Nat) (l1_0 : List (S67)) (r1 : List Int) (r2 : Int) (r3 : Int) (w0 w : World) (hI : IsS92 w0 w g s0_0 s0_1 s0_2) (hB : Below w0.heap.size w0 w) (hr1_0 : ∀ W_, KeepBut w W_ g none → Kd.C k67 W_ A1_0 l1_0.length l1_0) (hc1_0 : l1_0.length ≤ c1_0) (h : spec_l6DrawAny.f k s0_0 s0_1 s0_2 l1_0 = some (r1, r2, r3)) :
  Calls Try.prog 62 #[.pointer (some ⟨g, 0, none⟩), .agg #[.slice A1_0 l1_0.length c1_0]] w fun e w' => ∃ v0_ : Value, e = .returned (v0_) ∧ Kd.R (Kd.int .i64) 3 w' w.heap.size (fun _ => True) v0_ r1 ∧ IsS92 w0 w' g s0_0 r2 r3 ∧ Below w0.heap.size w0 w' ∧ KeepBut w w' g none := by
 have hu31 := Try.underlying31
 have HR1_0 := Aside0.mk hr1_0
 have HC1_0 := Aside0.mk hc1_0
 clear hr1_0 hc1_0
 have HI0 := Aside0.mk hI
 have HK := Aside0.mk (KeepBut.refl w g none)
 have HL := Aside0.mk hB.size
 clear hI
 have HW0 := Aside0.mk hB.size
 have HB := Aside0.mk hB
 clear hB
 have H : ((spec_l6DrawKnow.f k s0_0 s0_1 s0_2 l1_0).bind fun bt326 => ((spec_l1Below.f s0_0 bt326.2.1 bt326.2.2 30).bind fun bt331 => (if bt331.1 = 0 then (if bt326.1.length < 17592186044416 then (some ((bt326.1 ++ [(l1_0.length : Int)]), bt331.2.1, bt331.2.2)) else (none)) else (if bt331.1 = 1 then (if bt326.1.length + bt326.1.length < 17592186044416 then (some ((bt326.1 ++ bt326.1), bt331.2.1, bt331.2.2)) else (none)) else (if bt331.1 = 2 then (spec_l6DrawAny.l0 k bt326.1 0 s0_0 bt331.2.1 bt331.2.2) else (some (bt326.1, bt331.2.1, bt331.2.2))))))) = some (r1, r2, r3) := h
 clear h
 replace H := Option.bind_eq_some_iff.mp H
 obtain ⟨⟨t326, t329, t330⟩, A30, H⟩ := H
 replace H : ((spec_l1Below.f s0_0 t329 t330 30).bind fun bt331 => (if bt331.1 = 0 then (if t326.length < 17592186044416 then (some ((t326 ++ [(l1_0.length : Int)]), bt331.2.1, bt331.2.2)) else (none)) else (if bt331.1 = 1 then (if t326.length + t326.length < 17592186044416 then (some ((t326 ++ t326), bt331.2.1, bt331.2.2)) else (none)) else (if bt331.1 = 2 then (spec_l6DrawAny.l0 k t326 0 s0_0 bt331.2.1 bt331.2.2) else (some (t326, bt331.2.1, bt331.2.2)))))) = some (r1, r2, r3) := H
 have A3 := Aside0.mk A30
 clear A30
 replace H := Option.bind_eq_some_iff.mp H
 obtain ⟨⟨t331, t332, t333⟩, A40, H⟩ := H
 replace H : (if t331 = 0 then (if t326.length < 17592186044416 then (some ((t326 ++ [(l1_0.length : Int)]), t332, t333)) else (none)) else (if t331 = 1 then (if t326.length + t326.length < 17592186044416 then (some ((t326 ++ t326), t332, t333)) else (none)) else (if t331 = 2 then (spec_l6DrawAny.l0 k t326 0 s0_0 t332 t333) else (some (t326, t332, t333))))) = some (r1, r2, r3) := H
 have A4 := Aside0.mk A40
 clear A40
 by_cases c5 : t331 = 0
 ·rw [if_pos c5] at H
  have c5b0 : (t331 == 0) = true := beq_iff_eq.mpr c5
  have c5b1 : (t331 != 0) = false := bne_eq_false_iff_eq.mpr c5
  clear c5
  by_cases c6 : t326.length < 17592186044416
  ·rw [if_pos c6] at H
   have LMc6 := Aside0.mk c6
   clear c6
   obtain ⟨y334, hy334⟩ : ∃ y_ : List Int, y_ = (t326 ++ [(l1_0.length : Int)]) := ⟨_, rfl⟩
   replace H : (some (y334, t332, t333)) = some (r1, r2, r3) := by first | (rw [hy334]; with_reducible exact H) | (have H2_ := (Option.bind_some _ _).symm.trans H; rw [hy334]; with_reducible exact H2_) | (have H2_ := (Option.bind_some _ _).symm.trans H; with_reducible exact H2_) | with_reducible exact H | (rw [hy334]; exact H) | exact H
   have Ny334 := Aside0.mk hy334
   clear hy334
   simp only [Option.some.injEq, Prod.mk.injEq] at H
   obtain ⟨rfl, rfl, rfl⟩ := H
   go_enter Try.func62, Try.ntmps62
   go_wp2_with (first | ((with_reducible refine gate_dst (N := 3) rfl ?_); refine box_event ?hg (N := 3) ?hd (cs := #[.slice A1_0 l1_0.length c1_0]) (t := 31) ?hr ?_; (case hd => rfl); (case hg => rfl); (case hr => first | (go_simp; done) | (go_simp; rfl)); intro gb325 hg w7 hbox hb; have n0_ := Aside0.mk (IsS92.below (zi92 HI0.out) hb); have n1_ := Aside0.mk (KeepBut.trans (zq HK.out) (KeepBut.of_below hb g none) (.inl rfl)); have n2_ := Aside0.mk (below_step (zj HB.out (IsS92.ge HI0.out)) hb); have n3_ := Aside0.mk (hbox); have n4_ := Aside0.mk ((by rw [hg]; exact (keep_size (w := w) (g := g) (row := none) (zq HK.out)) : w.heap.size ≤ gb325)); have n5_ := Aside0.mk ((Nat.le_trans HW0.out (by rw [hg]; exact (keep_size (w := w) (g := g) (row := none) (zq HK.out)) : w.heap.size ≤ gb325) : w0.heap.size ≤ gb325)); have n6_ := Aside0.mk ((by rw [hg]; exact Nat.ne_of_lt (IsS92.lt (show IsS92 w0 _ g s0_0 s0_1 s0_2 from zi92 HI0.out)) : g ≠ gb325)); have n7_ := Aside0.mk ((by rw [hg]; exact Nat.ne_of_gt (IsS92.lt (show IsS92 w0 _ g s0_0 s0_1 s0_2 from zi92 HI0.out)) : gb325 ≠ g)); clear HI0; clear HK; clear HB; have HI0 := n0_; have HK := n1_; have HB := n2_; have BK325 := n3_; have GW325 := n4_; have GE325 := n5_; have NB0_325 := n6_; have NB325_0 := n7_; clear n0_ n1_ n2_ n3_ n4_ n5_ n6_ n7_; clear hb hbox hg; have hnb8 := NB325_0.out; have hnc8 := NB0_325.out; have hcz9_0 : w7.cell? ⟨gb325, 0, none⟩ = some (.slice A1_0 l1_0.length c1_0) := (blk_cell BK325.out 0).trans rfl; have hfz9_0 := blk_frozen BK325.out 0) | ((with_reducible refine gate_callee (f := 82) rfl ?_); refine goesL_ (some 9) rfl rfl Try.func82 (by kernel_rfl) rfl #[.pointer (some ⟨g, 0, none⟩), .agg #[.slice A1_0 l1_0.length c1_0]] rfl zl ?_; (with_reducible refine (spec_l6DrawKnow.calls k g s0_0 s0_1 s0_2 _ _ l1_0 t326 t329 t330 w0 _ ?side1 ?side2 ?side3 ?side4 A3.out).mono ?_); (case side1 => exact zi92 HI0.out); (case side2 => exact zj HB.out (IsS92.ge HI0.out)); (case side3 => exact Kd.C_foot_step HR1_0.out (zq HK.out)); (case side4 => exact HC1_0.out); rintro e w10 ⟨v327, rfl, ho0, hi, hb, hk⟩; refine ⟨_, rfl, ?_⟩; have n0_ := Aside0.mk (KeepBut.blk hk (g' := gb325) (o := .cells #[.slice A1_0 l1_0.length c1_0] 31 (0, 0)) (zh BK325.out) NB325_0.out (by simp)); have n1_ := Aside0.mk (Kd.R_lower ho0 (keep_size (w := w) (g := g) (row := none) (zq HK.out))); have n2_ := Aside0.mk (KeepBut.trans (zq HK.out) hk (.inl rfl)); have n3_ := Aside0.mk (hb); have n4_ := Aside0.mk (hi); clear BK325; clear HK; clear HB; clear HI0; have BK325 := n0_; have HO328 := n1_; have HK := n2_; have HB := n3_; have HI0 := n4_; clear n0_ n1_ n2_ n3_ n4_; (try clear hb); (try clear hb2); (try clear hk); (try clear hi); (try clear ho0)) | ((with_reducible refine gate_callee (f := 79) rfl ?_); refine goesL_ (some 11) rfl rfl Try.func79 (by kernel_rfl) rfl #[.pointer (some ⟨g, 0, none⟩), .int .i64 30] rfl zl ?_; (with_reducible refine (spec_l1Below.calls g s0_0 t329 t330 30 t331 t332 t333 w0 _ ?side1 ?side2 A4.out).mono ?_); (case side1 => exact zi92 HI0.out); (case side2 => exact zj HB.out (IsS92.ge HI0.out)); rintro e w11 ⟨rfl, hi, hb, hk⟩; refine ⟨_, rfl, ?_⟩; have n0_ := Aside0.mk (KeepBut.blk hk (g' := gb325) (o := .cells #[.slice A1_0 l1_0.length c1_0] 31 (0, 0)) (zh BK325.out) NB325_0.out (by simp)); have n1_ := Aside0.mk (Kd.R_mono (Kd.R_keep (IsS92.apart (show IsS92 w0 _ g s0_0 t329 t330 from zi92 HI0.out) (zr HO328.out) (by decide)) hk (fun _ h => h.2)) (fun _ h => h.1)); have n2_ := Aside0.mk (KeepBut.trans (zq HK.out) hk (.inl rfl)); have n3_ := Aside0.mk (hb); have n4_ := Aside0.mk (hi); clear BK325; clear HO328; clear HK; clear HB; clear HI0; have BK325 := n0_; have HO328 := n1_; have HK := n2_; have HB := n3_; have HI0 := n4_; clear n0_ n1_ n2_ n3_ n4_; (try clear hb); (try clear hb2); (try clear hk); (try clear hi); have hcz12_0 : w11.cell? ⟨gb325, 0, none⟩ = some (.slice A1_0 l1_0.length c1_0) := (blk_cell BK325.out 0).trans rfl; have hfz12_0 := blk_frozen BK325.out 0) | ((with_reducible refine gate_builtin (b := .append) (xs := #[.tmp 14, .tmp 18]) rfl ?_); at_builtin; refine Kd.R_append (Kd.int .i64) w.heap.size rfl (.tmp 14) (.tmp 18) 25 3 (.int .i64 0) 8 rfl Try.underlying25 info3 rfl (by decide) (by omega) v327 t326 (l1_0.length : Int) [.int .i64 (l1_0.length : Int)] (fun _ => True) (fun _ => False) rfl rfl ?aP (fun _ hk => hk.elim) ?aF ?aO (Below.refl _ _) ?aS ?aL ?_; (case aP => exact rfl); (case aF => exact (fun _ _ => trivial)); (case aO => exact (zr HO328.out)); (case aS => exact (keep_size (w := w) (g := g) (row := none) (zq HK.out))); (case aL => have := LMc6.out; omega); intro v335 w13 ho hb hg hat; rw [← Ny334.out] at ho; have n0_ := Aside0.mk (IsS92.grown (zi92 HI0.out) hg (IsS92.own_ne HI0.out HO328.out (by decide))); have n1_ := Aside0.mk (blk_grown (zh BK325.out) hg (Kd.R_ne HO328.out BK325.out (by decide))); have n2_ := Aside0.mk (below_weaken (zj HB.out (IsS92.ge HI0.out)) HL.out hb); have n3_ := Aside0.mk (KeepBut.trans (zq HK.out) (KeepBut.of_grown hg g) (Kd.R_base2 HO328.out)); have n4_ := Aside0.mk (ho); clear HI0; clear BK325; clear HB; clear HK; clear HO328; have HI0 := n0_; have BK325 := n1_; have HB := n2_; have HK := n3_; have HO336 := n4_; clear n0_ n1_ n2_ n3_ n4_; clear ho hb hg hat))
   go_ret
   exact ⟨_, ze, zr HO336.out, zi92 HI0.out, zj HB.out (IsS92.ge HI0.out), zq HK.out⟩
  ·rw [if_neg c6] at H
   exact absurd H (by simp)
 ·rw [if_neg c5] at H
  have c5b0 : (t331 == 0) = false := beq_eq_false_iff_ne.mpr c5
  have c5b1 : (t331 != 0) = true := bne_iff_ne.mpr c5
  by_cases c14 : t331 = 1
  ·rw [if_pos c14] at H
   have c14b0 : (t331 == 1) = true := beq_iff_eq.mpr c14
   have c14b1 : (t331 != 1) = false := bne_eq_false_iff_eq.mpr c14
   clear c14
   by_cases c15 : t326.length + t326.length < 17592186044416
   ·rw [if_pos c15] at H
    have LMc15 := Aside0.mk c15
    clear c15
    obtain ⟨y337, hy337⟩ : ∃ y_ : List Int, y_ = (t326 ++ t326) := ⟨_, rfl⟩
    replace H : (some (y337, t332, t333)) = some (r1, r2, r3) := by first | (rw [hy337]; with_reducible exact H) | (have H2_ := (Option.bind_some _ _).symm.trans H; rw [hy337]; with_reducible exact H2_) | (have H2_ := (Option.bind_some _ _).symm.trans H; with_reducible exact H2_) | with_reducible exact H | (rw [hy337]; exact H) | exact H
    have Ny337 := Aside0.mk hy337
    clear hy337
    simp only [Option.some.injEq, Prod.mk.injEq] at H
    obtain ⟨rfl, rfl, rfl⟩ := H
    go_enter Try.func62, Try.ntmps62
    go_wp2_with (first | ((with_reducible refine gate_dst (N := 3) rfl ?_); refine box_event ?hg (N := 3) ?hd (cs := #[.slice A1_0 l1_0.length c1_0]) (t := 31) ?hr ?_; (case hd => rfl); (case hg => rfl); (case hr => first | (go_simp; done) | (go_simp; rfl)); intro gb325 hg w16 hbox hb; have n0_ := Aside0.mk (IsS92.below (zi92 HI0.out) hb); have n1_ := Aside0.mk (KeepBut.trans (zq HK.out) (KeepBut.of_below hb g none) (.inl rfl)); have n2_ := Aside0.mk (below_step (zj HB.out (IsS92.ge HI0.out)) hb); have n3_ := Aside0.mk (hbox); have n4_ := Aside0.mk ((by rw [hg]; exact (keep_size (w := w) (g := g) (row := none) (zq HK.out)) : w.heap.size ≤ gb325)); have n5_ := Aside0.mk ((Nat.le_trans HW0.out (by rw [hg]; exact (keep_size (w := w) (g := g) (row := none) (zq HK.out)) : w.heap.size ≤ gb325) : w0.heap.size ≤ gb325)); have n6_ := Aside0.mk ((by rw [hg]; exact Nat.ne_of_lt (IsS92.lt (show IsS92 w0 _ g s0_0 s0_1 s0_2 from zi92 HI0.out)) : g ≠ gb325)); have n7_ := Aside0.mk ((by rw [hg]; exact Nat.ne_of_gt (IsS92.lt (show IsS92 w0 _ g s0_0 s0_1 s0_2 from zi92 HI0.out)) : gb325 ≠ g)); clear HI0; clear HK; clear HB; have HI0 := n0_; have HK := n1_; have HB := n2_; have BK325 := n3_; have GW325 := n4_; have GE325 := n5_; have NB0_325 := n6_; have NB325_0 := n7_; clear n0_ n1_ n2_ n3_ n4_ n5_ n6_ n7_; clear hb hbox hg; have hnb17 := NB325_0.out; have hnc17 := NB0_325.out; have hcz18_0 : w16.cell? ⟨gb325, 0, none⟩ = some (.slice A1_0 l1_0.length c1_0) := (blk_cell BK325.out 0).trans rfl; have hfz18_0 := blk_frozen BK325.out 0) | ((with_reducible refine gate_callee (f := 82) rfl ?_); refine goesL_ (some 9) rfl rfl Try.func82 (by kernel_rfl) rfl #[.pointer (some ⟨g, 0, none⟩), .agg #[.slice A1_0 l1_0.length c1_0]] rfl zl ?_; (with_reducible refine (spec_l6DrawKnow.calls k g s0_0 s0_1 s0_2 _ _ l1_0 t326 t329 t330 w0 _ ?side1 ?side2 ?side3 ?side4 A3.out).mono ?_); (case side1 => exact zi92 HI0.out); (case side2 => exact zj HB.out (IsS92.ge HI0.out)); (case side3 => exact Kd.C_foot_step HR1_0.out (zq HK.out)); (case side4 => exact HC1_0.out); rintro e w19 ⟨v327, rfl, ho0, hi, hb, hk⟩; refine ⟨_, rfl, ?_⟩; have n0_ := Aside0.mk (KeepBut.blk hk (g' := gb325) (o := .cells #[.slice A1_0 l1_0.length c1_0] 31 (0, 0)) (zh BK325.out) NB325_0.out (by simp)); have n1_ := Aside0.mk (Kd.R_lower ho0 (keep_size (w := w) (g := g) (row := none) (zq HK.out))); have n2_ := Aside0.mk (KeepBut.trans (zq HK.out) hk (.inl rfl)); have n3_ := Aside0.mk (hb); have n4_ := Aside0.mk (hi); clear BK325; clear HK; clear HB; clear HI0; have BK325 := n0_; have HO328 := n1_; have HK := n2_; have HB := n3_; have HI0 := n4_; clear n0_ n1_ n2_ n3_ n4_; (try clear hb); (try clear hb2); (try clear hk); (try clear hi); (try clear ho0)) | ((with_reducible refine gate_callee (f := 79) rfl ?_); refine goesL_ (some 11) rfl rfl Try.func79 (by kernel_rfl) rfl #[.pointer (some ⟨g, 0, none⟩), .int .i64 30] rfl zl ?_; (with_reducible refine (spec_l1Below.calls g s0_0 t329 t330 30 t331 t332 t333 w0 _ ?side1 ?side2 A4.out).mono ?_); (case side1 => exact zi92 HI0.out); (case side2 => exact zj HB.out (IsS92.ge HI0.out)); rintro e w20 ⟨rfl, hi, hb, hk⟩; refine ⟨_, rfl, ?_⟩; have n0_ := Aside0.mk (KeepBut.blk hk (g' := gb325) (o := .cells #[.slice A1_0 l1_0.length c1_0] 31 (0, 0)) (zh BK325.out) NB325_0.out (by simp)); have n1_ := Aside0.mk (Kd.R_mono (Kd.R_keep (IsS92.apart (show IsS92 w0 _ g s0_0 t329 t330 from zi92 HI0.out) (zr HO328.out) (by decide)) hk (fun _ h => h.2)) (fun _ h => h.1)); have n2_ := Aside0.mk (KeepBut.trans (zq HK.out) hk (.inl rfl)); have n3_ := Aside0.mk (hb); have n4_ := Aside0.mk (hi); clear BK325; clear HO328; clear HK; clear HB; clear HI0; have BK325 := n0_; have HO328 := n1_; have HK := n2_; have HB := n3_; have HI0 := n4_; clear n0_ n1_ n2_ n3_ n4_; (try clear hb); (try clear hb2); (try clear hk); (try clear hi); obtain ⟨Ao22, co22, eo22⟩ := Kd.R_slice HO328.out; subst eo22) | ((with_reducible refine gate_builtin (b := .append) (xs := #[.tmp 22, .tmp 23]) rfl ?_); at_builtin; refine Kd.R_append_rows (Kd.int .i64) w.heap.size rfl (.tmp 22) (.tmp 23) 25 3 (.int .i64 0) 8 rfl Try.underlying25 info3 rfl (by decide) (by omega) (.slice Ao22 t326.length co22) t326 t326 _ _ _ (fun _ => True) (fun _ => False) rfl rfl ?aO ?aR (fun _ _ h => h) (fun _ h => h.elim) ?aF (Below.refl _ _) ?aS ?aL ?_; (case aR => exact zc (Kd.R_reads' HO328.out).2.2); (case aF => exact (fun _ _ => trivial)); (case aO => exact (zr HO328.out)); (case aS => exact (keep_size (w := w) (g := g) (row := none) (zq HK.out))); (case aL => have := LMc15.out; omega); intro v338 w21 ho hb hg hat; rw [← Ny337.out] at ho; have n0_ := Aside0.mk (IsS92.grown (zi92 HI0.out) hg (IsS92.own_ne HI0.out HO328.out (by decide))); have n1_ := Aside0.mk (blk_grown (zh BK325.out) hg (Kd.R_ne HO328.out BK325.out (by decide))); have n2_ := Aside0.mk (below_weaken (zj HB.out (IsS92.ge HI0.out)) HL.out hb); have n3_ := Aside0.mk (KeepBut.trans (zq HK.out) (KeepBut.of_grown hg g) (Kd.R_base2 HO328.out)); have n4_ := Aside0.mk (ho); clear HI0; clear BK325; clear HB; clear HK; clear HO328; have HI0 := n0_; have BK325 := n1_; have HB := n2_; have HK := n3_; have HO339 := n4_; clear n0_ n1_ n2_ n3_ n4_; clear ho hb hg hat))
    go_ret
    exact ⟨_, ze, zr HO339.out, zi92 HI0.out, zj HB.out (IsS92.ge HI0.out), zq HK.out⟩
   ·rw [if_neg c15] at H
    exact absurd H (by simp)
  ·rw [if_neg c14] at H
   have c14b0 : (t331 == 1) = false := beq_eq_false_iff_ne.mpr c14
   have c14b1 : (t331 != 1) = true := bne_iff_ne.mpr c14
   by_cases c23 : t331 = 2
   ·rw [if_pos c23] at H
    have c23b0 : (t331 == 2) = true := beq_iff_eq.mpr c23
    have c23b1 : (t331 != 2) = false := bne_eq_false_iff_eq.mpr c23
    clear c23
    have H' := Aside0.mk H
    clear H
    go_enter Try.func62, Try.ntmps62
    go_wp2_with (first | ((with_reducible refine gate_dst (N := 3) rfl ?_); refine box_event ?hg (N := 3) ?hd (cs := #[.slice A1_0 l1_0.length c1_0]) (t := 31) ?hr ?_; (case hd => rfl); (case hg => rfl); (case hr => first | (go_simp; done) | (go_simp; rfl)); intro gb325 hg w24 hbox hb; have n0_ := Aside0.mk (IsS92.below (zi92 HI0.out) hb); have n1_ := Aside0.mk (KeepBut.trans (zq HK.out) (KeepBut.of_below hb g none) (.inl rfl)); have n2_ := Aside0.mk (below_step (zj HB.out (IsS92.ge HI0.out)) hb); have n3_ := Aside0.mk (hbox); have n4_ := Aside0.mk ((by rw [hg]; exact (keep_size (w := w) (g := g) (row := none) (zq HK.out)) : w.heap.size ≤ gb325)); have n5_ := Aside0.mk ((Nat.le_trans HW0.out (by rw [hg]; exact (keep_size (w := w) (g := g) (row := none) (zq HK.out)) : w.heap.size ≤ gb325) : w0.heap.size ≤ gb325)); have n6_ := Aside0.mk ((by rw [hg]; exact Nat.ne_of_lt (IsS92.lt (show IsS92 w0 _ g s0_0 s0_1 s0_2 from zi92 HI0.out)) : g ≠ gb325)); have n7_ := Aside0.mk ((by rw [hg]; exact Nat.ne_of_gt (IsS92.lt (show IsS92 w0 _ g s0_0 s0_1 s0_2 from zi92 HI0.out)) : gb325 ≠ g)); clear HI0; clear HK; clear HB; have HI0 := n0_; have HK := n1_; have HB := n2_; have BK325 := n3_; have GW325 := n4_; have GE325 := n5_; have NB0_325 := n6_; have NB325_0 := n7_; clear n0_ n1_ n2_ n3_ n4_ n5_ n6_ n7_; clear hb hbox hg; have hnb25 := NB325_0.out; have hnc25 := NB0_325.out; have hcz26_0 : w24.cell? ⟨gb325, 0, none⟩ = some (.slice A1_0 l1_0.length c1_0) := (blk_cell BK325.out 0).trans rfl; have hfz26_0 := blk_frozen BK325.out 0) | ((with_reducible refine gate_callee (f := 82) rfl ?_); refine goesL_ (some 9) rfl rfl Try.func82 (by kernel_rfl) rfl #[.pointer (some ⟨g, 0, none⟩), .agg #[.slice A1_0 l1_0.length c1_0]] rfl zl ?_; (with_reducible refine (spec_l6DrawKnow.calls k g s0_0 s0_1 s0_2 _ _ l1_0 t326 t329 t330 w0 _ ?side1 ?side2 ?side3 ?side4 A3.out).mono ?_); (case side1 => exact zi92 HI0.out); (case side2 => exact zj HB.out (IsS92.ge HI0.out)); (case side3 => exact Kd.C_foot_step HR1_0.out (zq HK.out)); (case side4 => exact HC1_0.out); rintro e w27 ⟨v327, rfl, ho0, hi, hb, hk⟩; refine ⟨_, rfl, ?_⟩; have n0_ := Aside0.mk (KeepBut.blk hk (g' := gb325) (o := .cells #[.slice A1_0 l1_0.length c1_0] 31 (0, 0)) (zh BK325.out) NB325_0.out (by simp)); have n1_ := Aside0.mk (Kd.R_lower ho0 (keep_size (w := w) (g := g) (row := none) (zq HK.out))); have n2_ := Aside0.mk (KeepBut.trans (zq HK.out) hk (.inl rfl)); have n3_ := Aside0.mk (hb); have n4_ := Aside0.mk (hi); clear BK325; clear HK; clear HB; clear HI0; have BK325 := n0_; have HO328 := n1_; have HK := n2_; have HB := n3_; have HI0 := n4_; clear n0_ n1_ n2_ n3_ n4_; (try clear hb); (try clear hb2); (try clear hk); (try clear hi); (try clear ho0)) | ((with_reducible refine gate_callee (f := 79) rfl ?_); refine goesL_ (some 11) rfl rfl Try.func79 (by kernel_rfl) rfl #[.pointer (some ⟨g, 0, none⟩), .int .i64 30] rfl zl ?_; (with_reducible refine (spec_l1Below.calls g s0_0 t329 t330 30 t331 t332 t333 w0 _ ?side1 ?side2 A4.out).mono ?_); (case side1 => exact zi92 HI0.out); (case side2 => exact zj HB.out (IsS92.ge HI0.out)); rintro e w28 ⟨rfl, hi, hb, hk⟩; refine ⟨_, rfl, ?_⟩; have n0_ := Aside0.mk (KeepBut.blk hk (g' := gb325) (o := .cells #[.slice A1_0 l1_0.length c1_0] 31 (0, 0)) (zh BK325.out) NB325_0.out (by simp)); have n1_ := Aside0.mk (Kd.R_mono (Kd.R_keep (IsS92.apart (show IsS92 w0 _ g s0_0 t329 t330 from zi92 HI0.out) (zr HO328.out) (by decide)) hk (fun _ h => h.2)) (fun _ h => h.1)); have n2_ := Aside0.mk (KeepBut.trans (zq HK.out) hk (.inl rfl)); have n3_ := Aside0.mk (hb); have n4_ := Aside0.mk (hi); clear BK325; clear HO328; clear HK; clear HB; clear HI0; have BK325 := n0_; have HO328 := n1_; have HK := n2_; have HB := n3_; have HI0 := n4_; clear n0_ n1_ n2_ n3_ n4_; (try clear hb); (try clear hb2); (try clear hk); (try clear hi)))
    go_loopg [5, 6] k (fun kq v5 v6 w' => ∃ (x5_1 : List Int) (x6_1 : Int) (x1001_1 : Int) (x1002_1 : Int), v6 = .int .i64 x6_1 ∧ Aside0 (spec_l6DrawAny.l0 kq x5_1 x6_1 s0_0 x1001_1 x1002_1 = some (r1, r2, r3)) ∧ Aside0 (kq ≤ k) ∧ Aside0 (Kd.R (Kd.int .i64) 3 w' w.heap.size (fun _ => True) v5 x5_1) ∧ Aside0 (w'.heap[gb325]? = some (.cells #[(.slice A1_0 l1_0.length c1_0)] 31 (0, 0))) ∧ Aside0 (IsS92 w0 w' g s0_0 x1001_1 x1002_1) ∧ Aside0 (KeepBut w w' g none) ∧ Aside0 (Below w0.heap.size w0 w'))
    case atStart => exact ⟨(t326), (0), (t332), (t333), (by first | rfl | (simp; done) | (simp [*]; done)), H', ⟨Nat.le_refl _⟩, ⟨zr HO328.out⟩, ⟨zh BK325.out⟩, ⟨zi92 HI0.out⟩, ⟨zq HK.out⟩, ⟨zj HB.out (IsS92.ge HI0.out)⟩⟩
    case round =>
     clear H'
     try clear c1
     try clear c2
     try clear p2
     try clear c5
     try clear c5b0
     try clear c5b1
     try clear c6
     try clear c7
     try clear c8
     try clear c14
     try clear c14b0
     try clear c14b1
     try clear c15
     try clear c17
     try clear c23
     try clear c23b0
     try clear c23b1
     try clear c25
     try clear hcz12_0
     try clear hcz18_0
     try clear hcz26_0
     try clear hcz9_0
     try clear hfz12_0
     try clear hfz18_0
     try clear hfz26_0
     try clear hfz9_0
     obtain ⟨x5_1, x6_1, x1001_1, x1002_1, rfl, HA, HK1, HO_5, BK325, HI0, HK, HB⟩ := hrel
     cases gk with
     | zero => exact absurd HA.out (by simp [spec_l6DrawAny.l0])
     | succ k1 =>
      have H := HA.out
      clear HA
      simp only [spec_l6DrawAny.l0] at H
      replace H := Option.bind_eq_some_iff.mp H
      obtain ⟨⟨t340, t341, t342⟩, A290, H⟩ := H
      replace H : (if x6_1 < (wrap64 (200 + t340)) then ((spec_l6Put.f k1 x5_1 x6_1).bind fun t343 => (spec_l6DrawAny.l0 k1 t343 (wrap64 (x6_1 + 1)) s0_0 t341 t342)) else (some (x5_1, t341, t342))) = some (r1, r2, r3) := H
      have A29 := Aside0.mk A290
      clear A290
      by_cases c30 : x6_1 < (wrap64 (200 + t340))
      ·rw [if_pos c30] at H
       have c30b0 : decide (x6_1 < (wrap64 (200 + t340))) = true := decide_eq_true c30
       clear c30
       replace H := Option.bind_eq_some_iff.mp H
       obtain ⟨t343, A310, H⟩ := H
       replace H : (spec_l6DrawAny.l0 k1 t343 (wrap64 (x6_1 + 1)) s0_0 t341 t342) = some (r1, r2, r3) := H
       have A31 := Aside0.mk A310
       clear A310
       have H' := Aside0.mk H
       clear H
       go_wp2_with (first | ((with_reducible refine gate_callee (f := 79) rfl ?_); refine goesL_ (some 29) rfl rfl Try.func79 (by kernel_rfl) rfl #[.pointer (some ⟨g, 0, none⟩), .int .i64 2] rfl zl ?_; (with_reducible refine (spec_l1Below.calls g s0_0 x1001_1 x1002_1 2 t340 t341 t342 w0 _ ?side1 ?side2 A29.out).mono ?_); (case side1 => exact zi92 HI0.out); (case side2 => exact zj HB.out (IsS92.ge HI0.out)); rintro e w32 ⟨rfl, hi, hb, hk⟩; refine ⟨_, rfl, ?_⟩; have n0_ := Aside0.mk (Kd.R_mono (Kd.R_keep (IsS92.apart (show IsS92 w0 _ g s0_0 x1001_1 x1002_1 from zi92 HI0.out) (zr HO_5.out) (by decide)) hk (fun _ h => h.2)) (fun _ h => h.1)); have n1_ := Aside0.mk (KeepBut.blk hk (g' := gb325) (o := .cells #[.slice A1_0 l1_0.length c1_0] 31 (0, 0)) (zh BK325.out) NB325_0.out (by simp)); have n2_ := Aside0.mk (KeepBut.trans (zq HK.out) hk (.inl rfl)); have n3_ := Aside0.mk (hb); have n4_ := Aside0.mk (hi); clear HO_5; clear BK325; clear HK; clear HB; clear HI0; have HO_5 := n0_; have BK325 := n1_; have HK := n2_; have HB := n3_; have HI0 := n4_; clear n0_ n1_ n2_ n3_ n4_; (try clear hb); (try clear hb2); (try clear hk); (try clear hi); obtain ⟨Ao33, co33, eo33⟩ := Kd.R_slice HO_5.out; subst eo33) | ((with_reducible refine gate_callee (f := 36) rfl ?_); refine goesL_ (some 36) rfl rfl Try.func36 (by kernel_rfl) rfl #[.slice Ao33 x5_1.length co33, .int .i64 x6_1] rfl zl ?_; (with_reducible refine (spec_l6Put.calls k1 _ _ x5_1 x6_1 t343 _ ?side1 ?side2 A31.out).mono ?_); (case side1 => exact zc (Kd.R_reads' HO_5.out).2.2); (case side2 => exact (Kd.R_reads' HO_5.out).2.1); rintro e w34 ⟨v344, rfl, ho0, hb⟩; refine ⟨_, rfl, ?_⟩; have n0_ := Aside0.mk (Kd.R_elder' (zr HO_5.out) (Kd.R_base ho0) hb); have n1_ := Aside0.mk (Kd.R_lower (Kd.R_new' ho0 (Kd.R_lt (zr HO_5.out))) (keep_size (w := w) (g := g) (row := none) (zq HK.out))); have n2_ := Aside0.mk (blk_below (zh BK325.out) hb); have n3_ := Aside0.mk (IsS92.below (zi92 HI0.out) hb); have n4_ := Aside0.mk (KeepBut.trans (zq HK.out) (KeepBut.of_below hb g none) (.inl rfl)); have n5_ := Aside0.mk (below_step (zj HB.out (IsS92.ge HI0.out)) hb); clear HO_5; clear BK325; clear HI0; clear HK; clear HB; have HO_5 := n0_; have HO345 := n1_; have BK325 := n2_; have HI0 := n3_; have HK := n4_; have HB := n5_; clear n0_ n1_ n2_ n3_ n4_ n5_; (try clear hb); (try clear hb2); (try clear hk); (try clear hi); (try clear ho0)))
       go_roundg k1
       case measure => have := HK1.out; omega
       case rel => exact ⟨(t343), (wrap64 (x6_1 + 1)), (t341), (t342), (by first | rfl | (simp; done) | (simp [*]; done)), H', ⟨by have := HK1.out; omega⟩, ⟨zr (Kd.R_mono HO345.out (fun _ hk => trivial))⟩, ⟨zh BK325.out⟩, ⟨zi92 HI0.out⟩, ⟨zq HK.out⟩, ⟨zj HB.out (IsS92.ge HI0.out)⟩⟩
      ·rw [if_neg c30] at H
       have c30b0 : decide (x6_1 < (wrap64 (200 + t340))) = false := decide_eq_false c30
       clear c30
       simp only [Option.some.injEq, Prod.mk.injEq] at H
       obtain ⟨rfl, rfl, rfl⟩ := H
       go_wp2_with (first | ((with_reducible refine gate_callee (f := 79) rfl ?_); refine goesL_ (some 29) rfl rfl Try.func79 (by kernel_rfl) rfl #[.pointer (some ⟨g, 0, none⟩), .int .i64 2] rfl zl ?_; (with_reducible refine (spec_l1Below.calls g s0_0 x1001_1 x1002_1 2 t340 t341 t342 w0 _ ?side1 ?side2 A29.out).mono ?_); (case side1 => exact zi92 HI0.out); (case side2 => exact zj HB.out (IsS92.ge HI0.out)); rintro e w35 ⟨rfl, hi, hb, hk⟩; refine ⟨_, rfl, ?_⟩; have n0_ := Aside0.mk (Kd.R_mono (Kd.R_keep (IsS92.apart (show IsS92 w0 _ g s0_0 x1001_1 x1002_1 from zi92 HI0.out) (zr HO_5.out) (by decide)) hk (fun _ h => h.2)) (fun _ h => h.1)); have n1_ := Aside0.mk (KeepBut.blk hk (g' := gb325) (o := .cells #[.slice A1_0 l1_0.length c1_0] 31 (0, 0)) (zh BK325.out) NB325_0.out (by simp)); have n2_ := Aside0.mk (KeepBut.trans (zq HK.out) hk (.inl rfl)); have n3_ := Aside0.mk (hb); have n4_ := Aside0.mk (hi); clear HO_5; clear BK325; clear HK; clear HB; clear HI0; have HO_5 := n0_; have BK325 := n1_; have HK := n2_; have HB := n3_; have HI0 := n4_; clear n0_ n1_ n2_ n3_ n4_; (try clear hb); (try clear hb2); (try clear hk); (try clear hi)))
       go_ret
       exact ⟨_, ze, zr HO_5.out, zi92 HI0.out, zj HB.out (IsS92.ge HI0.out), zq HK.out⟩
   ·rw [if_neg c23] at H
    have c23b0 : (t331 == 2) = false := beq_eq_false_iff_ne.mpr c23
    have c23b1 : (t331 != 2) = true := bne_iff_ne.mpr c23
    simp only [Option.some.injEq, Prod.mk.injEq] at H
    obtain ⟨rfl, rfl, rfl⟩ := H
    go_enter Try.func62, Try.ntmps62
    go_wp2_with (first | ((with_reducible refine gate_dst (N := 3) rfl ?_); refine box_event ?hg (N := 3) ?hd (cs := #[.slice A1_0 l1_0.length c1_0]) (t := 31) ?hr ?_; (case hd => rfl); (case hg => rfl); (case hr => first | (go_simp; done) | (go_simp; rfl)); intro gb325 hg w36 hbox hb; have n0_ := Aside0.mk (IsS92.below (zi92 HI0.out) hb); have n1_ := Aside0.mk (KeepBut.trans (zq HK.out) (KeepBut.of_below hb g none) (.inl rfl)); have n2_ := Aside0.mk (below_step (zj HB.out (IsS92.ge HI0.out)) hb); have n3_ := Aside0.mk (hbox); have n4_ := Aside0.mk ((by rw [hg]; exact (keep_size (w := w) (g := g) (row := none) (zq HK.out)) : w.heap.size ≤ gb325)); have n5_ := Aside0.mk ((Nat.le_trans HW0.out (by rw [hg]; exact (keep_size (w := w) (g := g) (row := none) (zq HK.out)) : w.heap.size ≤ gb325) : w0.heap.size ≤ gb325)); have n6_ := Aside0.mk ((by rw [hg]; exact Nat.ne_of_lt (IsS92.lt (show IsS92 w0 _ g s0_0 s0_1 s0_2 from zi92 HI0.out)) : g ≠ gb325)); have n7_ := Aside0.mk ((by rw [hg]; exact Nat.ne_of_gt (IsS92.lt (show IsS92 w0 _ g s0_0 s0_1 s0_2 from zi92 HI0.out)) : gb325 ≠ g)); clear HI0; clear HK; clear HB; have HI0 := n0_; have HK := n1_; have HB := n2_; have BK325 := n3_; have GW325 := n4_; have GE325 := n5_; have NB0_325 := n6_; have NB325_0 := n7_; clear n0_ n1_ n2_ n3_ n4_ n5_ n6_ n7_; clear hb hbox hg; have hnb37 := NB325_0.out; have hnc37 := NB0_325.out; have hcz38_0 : w36.cell? ⟨gb325, 0, none⟩ = some (.slice A1_0 l1_0.length c1_0) := (blk_cell BK325.out 0).trans rfl; have hfz38_0 := blk_frozen BK325.out 0) | ((with_reducible refine gate_callee (f := 82) rfl ?_); refine goesL_ (some 9) rfl rfl Try.func82 (by kernel_rfl) rfl #[.pointer (some ⟨g, 0, none⟩), .agg #[.slice A1_0 l1_0.length c1_0]] rfl zl ?_; (with_reducible refine (spec_l6DrawKnow.calls k g s0_0 s0_1 s0_2 _ _ l1_0 t326 t329 t330 w0 _ ?side1 ?side2 ?side3 ?side4 A3.out).mono ?_); (case side1 => exact zi92 HI0.out); (case side2 => exact zj HB.out (IsS92.ge HI0.out)); (case side3 => exact Kd.C_foot_step HR1_0.out (zq HK.out)); (case side4 => exact HC1_0.out); rintro e w39 ⟨v327, rfl, ho0, hi, hb, hk⟩; refine ⟨_, rfl, ?_⟩; have n0_ := Aside0.mk (KeepBut.blk hk (g' := gb325) (o := .cells #[.slice A1_0 l1_0.length c1_0] 31 (0, 0)) (zh BK325.out) NB325_0.out (by simp)); have n1_ := Aside0.mk (Kd.R_lower ho0 (keep_size (w := w) (g := g) (row := none) (zq HK.out))); have n2_ := Aside0.mk (KeepBut.trans (zq HK.out) hk (.inl rfl)); have n3_ := Aside0.mk (hb); have n4_ := Aside0.mk (hi); clear BK325; clear HK; clear HB; clear HI0; have BK325 := n0_; have HO328 := n1_; have HK := n2_; have HB := n3_; have HI0 := n4_; clear n0_ n1_ n2_ n3_ n4_; (try clear hb); (try clear hb2); (try clear hk); (try clear hi); (try clear ho0)) | ((with_reducible refine gate_callee (f := 79) rfl ?_); refine goesL_ (some 11) rfl rfl Try.func79 (by kernel_rfl) rfl #[.pointer (some ⟨g, 0, none⟩), .int .i64 30] rfl zl ?_; (with_reducible refine (spec_l1Below.calls g s0_0 t329 t330 30 t331 t332 t333 w0 _ ?side1 ?side2 A4.out).mono ?_); (case side1 => exact zi92 HI0.out); (case side2 => exact zj HB.out (IsS92.ge HI0.out)); rintro e w40 ⟨rfl, hi, hb, hk⟩; refine ⟨_, rfl, ?_⟩; have n0_ := Aside0.mk (KeepBut.blk hk (g' := gb325) (o := .cells #[.slice A1_0 l1_0.length c1_0] 31 (0, 0)) (zh BK325.out) NB325_0.out (by simp)); have n1_ := Aside0.mk (Kd.R_mono (Kd.R_keep (IsS92.apart (show IsS92 w0 _ g s0_0 t329 t330 from zi92 HI0.out) (zr HO328.out) (by decide)) hk (fun _ h => h.2)) (fun _ h => h.1)); have n2_ := Aside0.mk (KeepBut.trans (zq HK.out) hk (.inl rfl)); have n3_ := Aside0.mk (hb); have n4_ := Aside0.mk (hi); clear BK325; clear HO328; clear HK; clear HB; clear HI0; have BK325 := n0_; have HO328 := n1_; have HK := n2_; have HB := n3_; have HI0 := n4_; clear n0_ n1_ n2_ n3_ n4_; (try clear hb); (try clear hb2); (try clear hk); (try clear hi)))
    go_ret
    exact ⟨_, ze, zr HO328.out, zi92 HI0.out, zj HB.out (IsS92.ge HI0.out), zq HK.out⟩

/-! ### spec_l1Max: function 85 -/
def spec_l1Max.f (a0 : Int) (a1 : Int) : Option (Int) := if a0 > a1 then (some a0) else (some a1)
set_option maxHeartbeats 8000000 in
set_option maxRecDepth 100000 in
theorem spec_l1Max.calls (a0 : Int) (a1 : Int) (r : Int) (w : World) (h : spec_l1Max.f a0 a1 = some r) :
  Calls Try.prog 85 #[.int .i64 a0, .int .i64 a1] w fun e w' => e = .returned (.int .i64 r) ∧ Drawn0 w w' := by
 have H : (if a0 > a1 then (some a0) else (some a1)) = some r := h
 clear h
 by_cases c3 : a0 > a1
 ·rw [if_pos c3] at H
  have c3b0 : decide (a1 < a0) = true := decide_eq_true c3
  clear c3
  obtain rfl := Option.some.inj H
  go_enter Try.func85, Try.ntmps85
  go_wp2
  go_ret
  exact ⟨by first | rfl | (simp; done) | (simp [*]; done), by repeat (first | exact Drawn0.refl _ | apply Drawn0.step)⟩
 ·rw [if_neg c3] at H
  have c3b0 : decide (a1 < a0) = false := decide_eq_false c3
  clear c3
  obtain rfl := Option.some.inj H
  go_enter Try.func85, Try.ntmps85
  go_wp2
  go_ret
  exact ⟨by first | rfl | (simp; done) | (simp [*]; done), by repeat (first | exact Drawn0.refl _ | apply Drawn0.step)⟩

/-! ### spec_l1DrawTerm: function 63 -/
def spec_l1DrawTerm.f (k : Nat) (s0_0 : List Int) (s0_1 : Int) (s0_2 : Int) (l1_0 : List (S67)) : Option (Int × Int × Int) := (spec_l1Once.f s0_0 s0_1 s0_2 25).bind fun bt347 => (if bt347.1 = true then ((spec_l1PickInt.f s0_0 bt347.2.1 bt347.2.2 (([(-1), (l1_0.length : Int)] : List Int))).bind fun bt353 => (some (bt353.1, bt353.2.1, bt353.2.2))) else ((spec_l1Max.f (l1_0.length : Int) 1).bind fun t356 => ((spec_l1Draw.f k s0_0 bt347.2.1 bt347.2.2 t356).bind fun bt357 => (some (bt357.1, bt357.2.1, bt357.2.2)))))
theorem spec_l1DrawTerm.mono : ∀ a0 a1 a2 a3 k, LeO (spec_l1DrawTerm.f k a0 a1 a2 a3) (spec_l1DrawTerm.f (k + 1) a0 a1 a2 a3) := by
 intro a0 a1 a2 a3 k
 unfold spec_l1DrawTerm.f
 repeat' first
   | (with_reducible exact spec_l1Draw.mono _ _ _ _ _)
   | (with_reducible exact LeO.refl _)
   | (with_reducible exact LeO.none _)
   | (with_reducible refine LeO.ite ?_ ?_)
   | (with_reducible refine LeO.bind ?_ (fun _ => ?_))
   | exact spec_l1Draw.mono _ _ _ _ _
   | exact LeO.none _
   | refine LeO.ite ?_ ?_
   | refine LeO.bind ?_ (fun _ => ?_)
set_option maxHeartbeats 8000000 in
set_option maxRecDepth 100000 in
theorem spec_l1DrawTerm.calls (k : Nat) (g : Nat) (s0_0 : List Int) (s0_1 : Int) (s0_2 : Int) (A1_0 : Option Addr) (c1_0 : Nat) (l1_0 : List (S67)) (r1 : Int) (r2 : Int) (r3 : Int) (w0 w : World) (hI : IsS92 w0 w g s0_0 s0_1 s0_2) (hB : Below w0.heap.size w0 w) (hr1_0 : ∀ W_, KeepBut w W_ g none → Kd.C k67 W_ A1_0 l1_0.length l1_0) (hc1_0 : l1_0.length ≤ c1_0) (h : spec_l1DrawTerm.f k s0_0 s0_1 s0_2 l1_0 = some (r1, r2, r3)) :
  Calls Try.prog 63 #[.pointer (some ⟨g, 0, none⟩), .agg #[.slice A1_0 l1_0.length c1_0]] w fun e w' => e = .returned (.int .i64 r1) ∧ IsS92 w0 w' g s0_0 r2 r3 ∧ Below w0.heap.size w0 w' ∧ KeepBut w w' g none := by
 have hu31 := Try.underlying31
 have HR1_0 := Aside0.mk hr1_0
 have HC1_0 := Aside0.mk hc1_0
 clear hr1_0 hc1_0
 have HI0 := Aside0.mk hI
 have HK := Aside0.mk (KeepBut.refl w g none)
 have HL := Aside0.mk hB.size
 clear hI
 have HW0 := Aside0.mk hB.size
 have HB := Aside0.mk hB
 clear hB
 have H : ((spec_l1Once.f s0_0 s0_1 s0_2 25).bind fun bt347 => (if bt347.1 = true then ((spec_l1PickInt.f s0_0 bt347.2.1 bt347.2.2 (([(-1), (l1_0.length : Int)] : List Int))).bind fun bt353 => (some (bt353.1, bt353.2.1, bt353.2.2))) else ((spec_l1Max.f (l1_0.length : Int) 1).bind fun t356 => ((spec_l1Draw.f k s0_0 bt347.2.1 bt347.2.2 t356).bind fun bt357 => (some (bt357.1, bt357.2.1, bt357.2.2)))))) = some (r1, r2, r3) := h
 clear h
 replace H := Option.bind_eq_some_iff.mp H
 obtain ⟨⟨t347, t348, t349⟩, A30, H⟩ := H
 replace H : (if t347 = true then ((spec_l1PickInt.f s0_0 t348 t349 (([(-1), (l1_0.length : Int)] : List Int))).bind fun bt353 => (some (bt353.1, bt353.2.1, bt353.2.2))) else ((spec_l1Max.f (l1_0.length : Int) 1).bind fun t356 => ((spec_l1Draw.f k s0_0 t348 t349 t356).bind fun bt357 => (some (bt357.1, bt357.2.1, bt357.2.2))))) = some (r1, r2, r3) := H
 have A3 := Aside0.mk A30
 clear A30
 by_cases c4 : t347 = true
 ·subst c4
  have H1 : ((spec_l1PickInt.f s0_0 t348 t349 (([(-1), (l1_0.length : Int)] : List Int))).bind fun bt353 => (some (bt353.1, bt353.2.1, bt353.2.2))) = some (r1, r2, r3) := by rw [if_pos rfl] at H; exact H
  clear H
  have H := H1
  clear H1
  obtain ⟨y350, hy350⟩ : ∃ y_ : List Int, y_ = (([(-1), (l1_0.length : Int)] : List Int)) := ⟨_, rfl⟩
  replace H : ((spec_l1PickInt.f s0_0 t348 t349 y350).bind fun bt353 => (some (bt353.1, bt353.2.1, bt353.2.2))) = some (r1, r2, r3) := by first | (rw [hy350]; with_reducible exact H) | (have H2_ := (Option.bind_some _ _).symm.trans H; rw [hy350]; with_reducible exact H2_) | (have H2_ := (Option.bind_some _ _).symm.trans H; with_reducible exact H2_) | with_reducible exact H | (rw [hy350]; exact H) | exact H
  have Ny350 := Aside0.mk hy350
  clear hy350
  replace H := Option.bind_eq_some_iff.mp H
  obtain ⟨⟨t353, t354, t355⟩, A50, H⟩ := H
  replace H : (some (t353, t354, t355)) = some (r1, r2, r3) := H
  have A5 := Aside0.mk A50
  clear A50
  simp only [Option.some.injEq, Prod.mk.injEq] at H
  obtain ⟨rfl, rfl, rfl⟩ := H
  go_enter Try.func63, Try.ntmps63
  go_wp2_with (first | ((with_reducible refine gate_dst (N := 3) rfl ?_); refine box_event ?hg (N := 3) ?hd (cs := #[.slice A1_0 l1_0.length c1_0]) (t := 31) ?hr ?_; (case hd => rfl); (case hg => rfl); (case hr => first | (go_simp; done) | (go_simp; rfl)); intro gb346 hg w6 hbox hb; have n0_ := Aside0.mk (IsS92.below (zi92 HI0.out) hb); have n1_ := Aside0.mk (KeepBut.trans (zq HK.out) (KeepBut.of_below hb g none) (.inl rfl)); have n2_ := Aside0.mk (below_step (zj HB.out (IsS92.ge HI0.out)) hb); have n3_ := Aside0.mk (hbox); have n4_ := Aside0.mk ((by rw [hg]; exact (keep_size (w := w) (g := g) (row := none) (zq HK.out)) : w.heap.size ≤ gb346)); have n5_ := Aside0.mk ((Nat.le_trans HW0.out (by rw [hg]; exact (keep_size (w := w) (g := g) (row := none) (zq HK.out)) : w.heap.size ≤ gb346) : w0.heap.size ≤ gb346)); have n6_ := Aside0.mk ((by rw [hg]; exact Nat.ne_of_lt (IsS92.lt (show IsS92 w0 _ g s0_0 s0_1 s0_2 from zi92 HI0.out)) : g ≠ gb346)); have n7_ := Aside0.mk ((by rw [hg]; exact Nat.ne_of_gt (IsS92.lt (show IsS92 w0 _ g s0_0 s0_1 s0_2 from zi92 HI0.out)) : gb346 ≠ g)); clear HI0; clear HK; clear HB; have HI0 := n0_; have HK := n1_; have HB := n2_; have BK346 := n3_; have GW346 := n4_; have GE346 := n5_; have NB0_346 := n6_; have NB346_0 := n7_; clear n0_ n1_ n2_ n3_ n4_ n5_ n6_ n7_; clear hb hbox hg) | ((with_reducible refine gate_callee (f := 81) rfl ?_); refine goesL_ (some 6) rfl rfl Try.func81 (by kernel_rfl) rfl #[.pointer (some ⟨g, 0, none⟩), .int .i64 25] rfl zl ?_; (with_reducible refine (spec_l1Once.calls g s0_0 s0_1 s0_2 25 true t348 t349 w0 _ ?side1 ?side2 A3.out).mono ?_); (case side1 => exact zi92 HI0.out); (case side2 => exact zj HB.out (IsS92.ge HI0.out)); rintro e w7 ⟨rfl, hi, hb, hk⟩; refine ⟨_, rfl, ?_⟩; have n0_ := Aside0.mk (KeepBut.blk hk (g' := gb346) (o := .cells #[.slice A1_0 l1_0.length c1_0] 31 (0, 0)) (zh BK346.out) NB346_0.out (by simp)); have n1_ := Aside0.mk (KeepBut.trans (zq HK.out) hk (.inl rfl)); have n2_ := Aside0.mk (hb); have n3_ := Aside0.mk (hi); clear BK346; clear HK; clear HB; clear HI0; have BK346 := n0_; have HK := n1_; have HB := n2_; have HI0 := n3_; clear n0_ n1_ n2_ n3_; (try clear hb); (try clear hb2); (try clear hk); (try clear hi); have hnb8 := NB346_0.out; have hnc8 := NB0_346.out; have hcz9_0 : w7.cell? ⟨gb346, 0, none⟩ = some (.slice A1_0 l1_0.length c1_0) := (blk_cell BK346.out 0).trans rfl; have hfz9_0 := blk_frozen BK346.out 0) | ((with_reducible refine gate_dst (N := 11) rfl ?_); refine Kd.R_lit (Kd.int .i64) _ 3 ?hg (N := 11) ?hd (xs := ([(-1), (l1_0.length : Int)] : List Int)) (inner := [.int .i64 (-1), .int .i64 (l1_0.length : Int)]) (ok := fun _ => True) (okp := fun _ => True) ?hr ?hp (fun _ hk => hk) trivial (Below.refl _ _) (Nat.le_refl _) (by simp) ?_; (case hd => rfl); (case hg => rfl); (case hr => first | (go_simp; done) | (go_simp; rfl)); (case hp => exact (Reps.one (show Kd.M (Kd.int .i64) _ _ _ (-1) [.int .i64 (-1)] from rfl) (Reps.one (show Kd.M (Kd.int .i64) _ _ _ (l1_0.length : Int) [.int .i64 (l1_0.length : Int)] from rfl) (Reps.none _ _)))); intro v351 w10 ho11 hb hg_ hnew_; clear hg_ hnew_; (first | rw [← Ny350.out] at ho11 | (simp only [Int.reduceToNat] at ho11; rw [← Ny350.out] at ho11)); have n0_ := Aside0.mk (Kd.R_lower ho11 (keep_size (w := w) (g := g) (row := none) (zq HK.out))); have n1_ := Aside0.mk (IsS92.below (zi92 HI0.out) hb); have n2_ := Aside0.mk (blk_below (zh BK346.out) hb); have n3_ := Aside0.mk (KeepBut.trans (zq HK.out) (KeepBut.of_below hb g none) (.inl rfl)); have n4_ := Aside0.mk (below_step (zj HB.out (IsS92.ge HI0.out)) hb); clear HI0; clear BK346; clear HK; clear HB; have HO352 := n0_; have HI0 := n1_; have BK346 := n2_; have HK := n3_; have HB := n4_; clear n0_ n1_ n2_ n3_ n4_; clear hb ho11; obtain ⟨Ao12, co12, eo12⟩ := Kd.R_slice HO352.out; subst eo12) | ((with_reducible refine gate_callee (f := 83) rfl ?_); refine goesL_ (some 12) rfl rfl Try.func83 (by kernel_rfl) rfl #[.pointer (some ⟨g, 0, none⟩), .slice Ao12 y350.length co12] rfl zl ?_; (with_reducible refine (spec_l1PickInt.calls g s0_0 t348 t349 _ _ y350 t353 t354 t355 w0 _ ?side1 ?side2 ?side3 ?side4 ?side5 A5.out).mono ?_); (case side1 => exact zi92 HI0.out); (case side2 => exact zj HB.out (IsS92.ge HI0.out)); (case side3 => exact zc (Kd.R_reads' HO352.out).2.2); (case side4 => exact (Kd.R_reads' HO352.out).2.1); (case side5 => exact far_slice (IsS92.own_ne HI0.out HO352.out (by decide))); rintro e w13 ⟨rfl, hi, hb, hk⟩; refine ⟨_, rfl, ?_⟩; have n0_ := Aside0.mk (KeepBut.blk hk (g' := gb346) (o := .cells #[.slice A1_0 l1_0.length c1_0] 31 (0, 0)) (zh BK346.out) NB346_0.out (by simp)); have n1_ := Aside0.mk (Kd.R_mono (Kd.R_keep (IsS92.apart (show IsS92 w0 _ g s0_0 t348 t349 from zi92 HI0.out) (zr HO352.out) (by decide)) hk (fun _ h => h.2)) (fun _ h => h.1)); have n2_ := Aside0.mk (KeepBut.trans (zq HK.out) hk (.inl rfl)); have n3_ := Aside0.mk (hb); have n4_ := Aside0.mk (hi); clear BK346; clear HO352; clear HK; clear HB; clear HI0; have BK346 := n0_; have HO352 := n1_; have HK := n2_; have HB := n3_; have HI0 := n4_; clear n0_ n1_ n2_ n3_ n4_; (try clear hb); (try clear hb2); (try clear hk); (try clear hi)))
  go_ret
  exact ⟨ze, zi92 HI0.out, zj HB.out (IsS92.ge HI0.out), zq HK.out⟩
 ·replace c4 := Bool.eq_false_iff.mpr c4
  subst c4
  have H1 : ((spec_l1Max.f (l1_0.length : Int) 1).bind fun t356 => ((spec_l1Draw.f k s0_0 t348 t349 t356).bind fun bt357 => (some (bt357.1, bt357.2.1, bt357.2.2)))) = some (r1, r2, r3) := by rw [if_neg (show ¬ (false = true) by decide)] at H; exact H
  clear H
  have H := H1
  clear H1
  replace H := Option.bind_eq_some_iff.mp H
  obtain ⟨t356, A140, H⟩ := H
  replace H : ((spec_l1Draw.f k s0_0 t348 t349 t356).bind fun bt357 => (some (bt357.1, bt357.2.1, bt357.2.2))) = some (r1, r2, r3) := H
  have A14 := Aside0.mk A140
  clear A140
  replace H := Option.bind_eq_some_iff.mp H
  obtain ⟨⟨t357, t358, t359⟩, A150, H⟩ := H
  replace H : (some (t357, t358, t359)) = some (r1, r2, r3) := H
  have A15 := Aside0.mk A150
  clear A150
  simp only [Option.some.injEq, Prod.mk.injEq] at H
  obtain ⟨rfl, rfl, rfl⟩ := H
  go_enter Try.func63, Try.ntmps63
  go_wp2_with (first | ((with_reducible refine gate_dst (N := 3) rfl ?_); refine box_event ?hg (N := 3) ?hd (cs := #[.slice A1_0 l1_0.length c1_0]) (t := 31) ?hr ?_; (case hd => rfl); (case hg => rfl); (case hr => first | (go_simp; done) | (go_simp; rfl)); intro gb346 hg w16 hbox hb; have n0_ := Aside0.mk (IsS92.below (zi92 HI0.out) hb); have n1_ := Aside0.mk (KeepBut.trans (zq HK.out) (KeepBut.of_below hb g none) (.inl rfl)); have n2_ := Aside0.mk (below_step (zj HB.out (IsS92.ge HI0.out)) hb); have n3_ := Aside0.mk (hbox); have n4_ := Aside0.mk ((by rw [hg]; exact (keep_size (w := w) (g := g) (row := none) (zq HK.out)) : w.heap.size ≤ gb346)); have n5_ := Aside0.mk ((Nat.le_trans HW0.out (by rw [hg]; exact (keep_size (w := w) (g := g) (row := none) (zq HK.out)) : w.heap.size ≤ gb346) : w0.heap.size ≤ gb346)); have n6_ := Aside0.mk ((by rw [hg]; exact Nat.ne_of_lt (IsS92.lt (show IsS92 w0 _ g s0_0 s0_1 s0_2 from zi92 HI0.out)) : g ≠ gb346)); have n7_ := Aside0.mk ((by rw [hg]; exact Nat.ne_of_gt (IsS92.lt (show IsS92 w0 _ g s0_0 s0_1 s0_2 from zi92 HI0.out)) : gb346 ≠ g)); clear HI0; clear HK; clear HB; have HI0 := n0_; have HK := n1_; have HB := n2_; have BK346 := n3_; have GW346 := n4_; have GE346 := n5_; have NB0_346 := n6_; have NB346_0 := n7_; clear n0_ n1_ n2_ n3_ n4_ n5_ n6_ n7_; clear hb hbox hg) | ((with_reducible refine gate_callee (f := 81) rfl ?_); refine goesL_ (some 6) rfl rfl Try.func81 (by kernel_rfl) rfl #[.pointer (some ⟨g, 0, none⟩), .int .i64 25] rfl zl ?_; (with_reducible refine (spec_l1Once.calls g s0_0 s0_1 s0_2 25 false t348 t349 w0 _ ?side1 ?side2 A3.out).mono ?_); (case side1 => exact zi92 HI0.out); (case side2 => exact zj HB.out (IsS92.ge HI0.out)); rintro e w17 ⟨rfl, hi, hb, hk⟩; refine ⟨_, rfl, ?_⟩; have n0_ := Aside0.mk (KeepBut.blk hk (g' := gb346) (o := .cells #[.slice A1_0 l1_0.length c1_0] 31 (0, 0)) (zh BK346.out) NB346_0.out (by simp)); have n1_ := Aside0.mk (KeepBut.trans (zq HK.out) hk (.inl rfl)); have n2_ := Aside0.mk (hb); have n3_ := Aside0.mk (hi); clear BK346; clear HK; clear HB; clear HI0; have BK346 := n0_; have HK := n1_; have HB := n2_; have HI0 := n3_; clear n0_ n1_ n2_ n3_; (try clear hb); (try clear hb2); (try clear hk); (try clear hi); have hnb18 := NB346_0.out; have hnc18 := NB0_346.out; have hcz19_0 : w17.cell? ⟨gb346, 0, none⟩ = some (.slice A1_0 l1_0.length c1_0) := (blk_cell BK346.out 0).trans rfl; have hfz19_0 := blk_frozen BK346.out 0) | ((with_reducible refine gate_callee (f := 85) rfl ?_); refine goesL_ (some 17) rfl rfl Try.func85 (by kernel_rfl) rfl #[.int .i64 (l1_0.length : Int), .int .i64 1] rfl zl ?_; (with_reducible refine (spec_l1Max.calls (l1_0.length : Int) 1 t356 _ A14.out).mono ?_); rintro e w' ⟨rfl, ⟨nd, rfl⟩⟩; refine ⟨_, rfl, ?_⟩) | ((with_reducible refine gate_callee (f := 84) rfl ?_); refine goesL_ (some 18) rfl rfl Try.func84 (by kernel_rfl) rfl #[.pointer (some ⟨g, 0, none⟩), .int .i64 t356] rfl zl ?_; (with_reducible refine (spec_l1Draw.calls k g s0_0 t348 t349 t356 t357 t358 t359 w0 _ ?side1 ?side2 A15.out).mono ?_); (case side1 => exact zi92 HI0.out); (case side2 => exact zj HB.out (IsS92.ge HI0.out)); rintro e w20 ⟨rfl, hi, hb, hk⟩; refine ⟨_, rfl, ?_⟩; have n0_ := Aside0.mk (KeepBut.blk hk (g' := gb346) (o := .cells #[.slice A1_0 l1_0.length c1_0] 31 (0, 0)) (zh BK346.out) NB346_0.out (by simp)); have n1_ := Aside0.mk (KeepBut.trans (zq HK.out) hk (.inl rfl)); have n2_ := Aside0.mk (hb); have n3_ := Aside0.mk (hi); clear BK346; clear HK; clear HB; clear HI0; have BK346 := n0_; have HK := n1_; have HB := n2_; have HI0 := n3_; clear n0_ n1_ n2_ n3_; (try clear hb); (try clear hb2); (try clear hk); (try clear hi)))
  go_ret
  exact ⟨ze, zi92 HI0.out, zj HB.out (IsS92.ge HI0.out), zq HK.out⟩

/-! ### spec_l6Draw: function 44 -/
def spec_l6Draw.f (k : Nat) (l0 : List Int) : Option ((List (S67)) × List Int × Int) := (spec_l1New.f k l0).bind fun bt361 => ((spec_l1DrawAny.f k bt361.1 bt361.2.1 bt361.2.2).bind fun bt365 => ((spec_l6DrawAny.f k bt361.1 bt365.2.1 bt365.2.2 bt365.1).bind fun bt371 => ((spec_l1DrawTerm.f k bt361.1 bt371.2.1 bt371.2.2 bt365.1).bind fun bt376 => (some (bt365.1, bt371.1, bt376.1)))))
theorem spec_l6Draw.mono : ∀ a0 k, LeO (spec_l6Draw.f k a0) (spec_l6Draw.f (k + 1) a0) := by
 intro a0 k
 unfold spec_l6Draw.f
 repeat' first
   | (with_reducible exact spec_l1DrawAny.mono _ _ _ _)
   | (with_reducible exact spec_l1DrawTerm.mono _ _ _ _ _)
   | (with_reducible exact spec_l1New.mono _ _)
   | (with_reducible exact spec_l6DrawAny.mono _ _ _ _ _)
   | (with_reducible exact LeO.refl _)
   | (with_reducible exact LeO.none _)
   | (with_reducible refine LeO.ite ?_ ?_)
   | (with_reducible refine LeO.bind ?_ (fun _ => ?_))
   | exact spec_l1DrawAny.mono _ _ _ _
   | exact spec_l1DrawTerm.mono _ _ _ _ _
   | exact spec_l1New.mono _ _
   | exact spec_l6DrawAny.mono _ _ _ _ _
   | exact LeO.none _
   | refine LeO.ite ?_ ?_
   | refine LeO.bind ?_ (fun _ => ?_)
def spec_l6Draw.T4 : Bool × List (List Nat × List Nat) := (true, [([], []), ([], []), ([], []), ([], []), ([2, 3], [2, 3]), ([0, 4, 0], [0]), ([1, 5, 0, 1, 5], [1]), ([4, 6, 0, 1, 2, 3, 4, 5, 6], [4])])
def spec_l6Draw.B4 : List Nat := [0, 0, 0, 0, 12, 29, 63, 127]
theorem spec_l6Draw.tab4 : rtab .any (opsOf Try.f44 4) = spec_l6Draw.T4 := by kernel_rfl
theorem spec_l6Draw.bits4 : waitsOk spec_l6Draw.T4.2 spec_l6Draw.B4 = true := by kernel_rfl
set_option maxHeartbeats 8000000 in
set_option maxRecDepth 100000 in
theorem spec_l6Draw.calls (k : Nat) (A0 : Option Addr) (c0 : Nat) (l0 : List Int) (r1 : List (S67)) (r2 : List Int) (r3 : Int) (w : World) (hr0 : Kd.C (Kd.int .u8) w A0 l0.length l0) (hc0 : l0.length ≤ c0) (h : spec_l6Draw.f k l0 = some (r1, r2, r3)) :
  Calls Try.prog 44 #[.slice A0 l0.length c0] w fun e w' => ∃ v0_ v1_ : Value, e = .returned (.tuple #[.agg #[v0_], v1_, .int .i64 r3]) ∧ Kd.R k67 67 w' w.heap.size (fun _ => True) v0_ r1 ∧ Kd.R (Kd.int .i64) 3 w' w.heap.size (fun _ => True) v1_ r2 ∧ Below w.heap.size w w' := by
 have hu31 := Try.underlying31
 have HR0 := Aside0.mk hr0
 have HC0 := Aside0.mk hc0
 clear hr0 hc0
 have HB := Aside0.mk (Below.refl w.heap.size w)
 have H : ((spec_l1New.f k l0).bind fun bt361 => ((spec_l1DrawAny.f k bt361.1 bt361.2.1 bt361.2.2).bind fun bt365 => ((spec_l6DrawAny.f k bt361.1 bt365.2.1 bt365.2.2 bt365.1).bind fun bt371 => ((spec_l1DrawTerm.f k bt361.1 bt371.2.1 bt371.2.2 bt365.1).bind fun bt376 => (some (bt365.1, bt371.1, bt376.1)))))) = some (r1, r2, r3) := h
 clear h
 replace H := Option.bind_eq_some_iff.mp H
 obtain ⟨⟨t361, t362, t363⟩, A20, H⟩ := H
 replace H : ((spec_l1DrawAny.f k t361 t362 t363).bind fun bt365 => ((spec_l6DrawAny.f k t361 bt365.2.1 bt365.2.2 bt365.1).bind fun bt371 => ((spec_l1DrawTerm.f k t361 bt371.2.1 bt371.2.2 bt365.1).bind fun bt376 => (some (bt365.1, bt371.1, bt376.1))))) = some (r1, r2, r3) := H
 have A2 := Aside0.mk A20
 clear A20
 replace H := Option.bind_eq_some_iff.mp H
 obtain ⟨⟨t365, t368, t369⟩, A30, H⟩ := H
 replace H : ((spec_l6DrawAny.f k t361 t368 t369 t365).bind fun bt371 => ((spec_l1DrawTerm.f k t361 bt371.2.1 bt371.2.2 t365).bind fun bt376 => (some (t365, bt371.1, bt376.1)))) = some (r1, r2, r3) := H
 have A3 := Aside0.mk A30
 clear A30
 replace H := Option.bind_eq_some_iff.mp H
 obtain ⟨⟨t371, t374, t375⟩, A40, H⟩ := H
 replace H : ((spec_l1DrawTerm.f k t361 t374 t375 t365).bind fun bt376 => (some (t365, t371, bt376.1))) = some (r1, r2, r3) := H
 have A4 := Aside0.mk A40
 clear A40
 replace H := Option.bind_eq_some_iff.mp H
 obtain ⟨⟨t376, t377, t378⟩, A50, H⟩ := H
 replace H : (some (t365, t371, t376)) = some (r1, r2, r3) := H
 have A5 := Aside0.mk A50
 clear A50
 simp only [Option.some.injEq, Prod.mk.injEq] at H
 obtain ⟨rfl, rfl, rfl⟩ := H
 go_enter Try.func44, Try.ntmps44
 try go_wp2_with (first | ((with_reducible refine gate_dst (N := 2) rfl ?_); refine box_event ?hg (N := 2) ?hd (cs := #[.slice none 0 0]) (t := 31) ?hr ?_; (case hd => rfl); (case hg => rfl); (case hr => first | (go_simp; done) | (go_simp; rfl)); intro gb360 hg w6 hbox hb; have n0_ := Aside0.mk (below_step (zb HB.out) hb); have n1_ := Aside0.mk (hbox); have n2_ := Aside0.mk ((by rw [hg]; exact (below_size (zb HB.out)) : w.heap.size ≤ gb360)); have n3_ := Aside0.mk ((by rw [hg]; exact (below_size (zb HB.out)) : w.heap.size ≤ gb360)); clear HB; have HB := n0_; have BK360 := n1_; have GW360 := n2_; have GE360 := n3_; clear n0_ n1_ n2_ n3_; clear hb hbox hg) | ((with_reducible refine gate_callee (f := 60) rfl ?_); refine goesL_ (some 9) rfl rfl Try.func60 (by kernel_rfl) rfl #[.slice A0 l0.length c0] rfl zl ?_; (with_reducible refine (spec_l1New.calls k _ _ l0 t361 t362 t363 w _ ?side1 ?side2 ?side3 A2.out).mono ?_); (case side1 => exact zb HB.out); (case side2 => exact HR0.out); (case side3 => exact HC0.out); rintro e w7 ⟨g364, rfl, hi, hb, hb2⟩; refine ⟨_, rfl, ?_⟩; have n0_ := Aside0.mk (blk_below (zh BK360.out) hb2); have n1_ := Aside0.mk (hb); have n2_ := Aside0.mk (hi); have n3_ := Aside0.mk (IsS92.ne_blk hi (blk_below (zh BK360.out) hb2) (by decide)); have n4_ := Aside0.mk (Ne.symm (IsS92.ne_blk hi (blk_below (zh BK360.out) hb2) (by decide))); clear BK360; clear HB; have BK360 := n0_; have HB := n1_; have HI364 := n2_; have NB364_360 := n3_; have NB360_364 := n4_; clear n0_ n1_ n2_ n3_ n4_; (try clear hb); (try clear hb2); (try clear hk); (try clear hi)) | ((with_reducible refine gate_callee (f := 61) rfl ?_); refine goesL_ (some 11) rfl rfl Try.func61 (by kernel_rfl) rfl #[.pointer (some ⟨g364, 0, none⟩)] rfl zl ?_; (with_reducible refine (spec_l1DrawAny.calls k g364 t361 t362 t363 t365 t368 t369 w _ ?side1 ?side2 A3.out).mono ?_); (case side1 => exact zi92 HI364.out); (case side2 => exact zj HB.out (IsS92.ge HI364.out)); rintro e w8 ⟨v366, rfl, ho0, hi, hb, hk⟩; refine ⟨_, rfl, ?_⟩; have n0_ := Aside0.mk (KeepBut.blk hk (g' := gb360) (o := .cells #[.slice none 0 0] 31 (0, 0)) (zh BK360.out) NB360_364.out (by simp)); have n1_ := Aside0.mk (Kd.R_lower ho0 (below_size (zj HB.out (IsS92.ge HI364.out)))); have n2_ := Aside0.mk (hb); have n3_ := Aside0.mk (hi); clear BK360; clear HB; clear HI364; have BK360 := n0_; have HO367 := n1_; have HB := n2_; have HI364 := n3_; clear n0_ n1_ n2_ n3_; (try clear hb); (try clear hb2); (try clear hk); (try clear hi); (try clear ho0)) | ((with_reducible refine gate_dst (N := 6) rfl ?_); refine box_event ?hg (N := 6) ?hd (cs := #[.slice none 0 0]) (t := 31) ?hr ?_; (case hd => rfl); (case hg => rfl); (case hr => first | (go_simp; done) | (go_simp; rfl)); intro gb370 hg w9 hbox hb; have n0_ := Aside0.mk (Kd.R_below (zr HO367.out) hb); have n1_ := Aside0.mk (blk_below (zh BK360.out) hb); have n2_ := Aside0.mk (IsS92.below (zi92 HI364.out) hb); have n3_ := Aside0.mk (below_step (zj HB.out (IsS92.ge HI364.out)) hb); have n4_ := Aside0.mk (hbox); have n5_ := Aside0.mk ((by rw [hg]; exact (below_size (zj HB.out (IsS92.ge HI364.out))) : w.heap.size ≤ gb370)); have n6_ := Aside0.mk ((by rw [hg]; exact (below_size (zj HB.out (IsS92.ge HI364.out))) : w.heap.size ≤ gb370)); have n7_ := Aside0.mk ((by rw [hg]; exact Nat.ne_of_lt (blk_lt (zh BK360.out)) : gb360 ≠ gb370)); have n8_ := Aside0.mk ((by rw [hg]; exact Nat.ne_of_gt (blk_lt (zh BK360.out)) : gb370 ≠ gb360)); have n9_ := Aside0.mk ((by rw [hg]; exact Nat.ne_of_lt (IsS92.lt (show IsS92 w _ g364 t361 t368 t369 from zi92 HI364.out)) : g364 ≠ gb370)); have n10_ := Aside0.mk ((by rw [hg]; exact Nat.ne_of_gt (IsS92.lt (show IsS92 w _ g364 t361 t368 t369 from zi92 HI364.out)) : gb370 ≠ g364)); clear HO367; clear BK360; clear HI364; clear HB; have HO367 := n0_; have BK360 := n1_; have HI364 := n2_; have HB := n3_; have BK370 := n4_; have GW370 := n5_; have GE370 := n6_; have NB360_370 := n7_; have NB370_360 := n8_; have NB364_370 := n9_; have NB370_364 := n10_; clear n0_ n1_ n2_ n3_ n4_ n5_ n6_ n7_ n8_ n9_ n10_; clear hb hbox hg; obtain ⟨Ao10, co10, eo10⟩ := Kd.R_slice HO367.out; subst eo10; have hnb11 := NB370_360.out; have hnc11 := NB360_370.out; have hnb12 := NB370_364.out; have hnc12 := NB364_370.out; have hcz13_0 : w9.cell? ⟨gb370, 0, none⟩ = some (.slice none 0 0) := (blk_cell BK370.out 0).trans rfl; have hfz13_0 := blk_frozen BK370.out 0) | ((with_reducible refine gate_callee (f := 62) rfl ?_); refine goesL_ (some 14) rfl rfl Try.func62 (by kernel_rfl) rfl #[.pointer (some ⟨g364, 0, none⟩), .agg #[.slice Ao10 t365.length co10]] rfl zl ?_; (with_reducible refine (spec_l6DrawAny.calls k g364 t361 t368 t369 _ _ t365 t371 t374 t375 w _ ?side1 ?side2 ?side3 ?side4 A4.out).mono ?_); (case side1 => exact zi92 HI364.out); (case side2 => exact zj HB.out (IsS92.ge HI364.out)); (case side3 => exact Kd.C_foot_own (IsS92.apart (show IsS92 w _ g364 t361 t368 t369 from zi92 HI364.out) (by (with_reducible repeat (first | apply Kd.R_alloc | apply Kd.R_drewN | apply Kd.R_drew)); exact (Kd.R_mono (Kd.R_far (p := ⟨gb370, 0, none⟩) (Kd.R_types HO367.out BK370.out (by decide)) (fun _ hk => hk.2) (.slice Ao10 t365.length co10)) (fun _ h_ => h_.1))) (by decide)) (fun _ h_ => h_.2)); (case side4 => exact (Kd.R_reads' HO367.out).2.1); rintro e w14 ⟨v372, rfl, ho0, hi, hb, hk⟩; refine ⟨_, rfl, ?_⟩; have n0_ := Aside0.mk (KeepBut.blk hk (g' := gb360) (o := .cells #[.slice none 0 0] 31 (0, 0)) (zf BK360.out) NB360_364.out (by simp)); have n1_ := Aside0.mk (Kd.R_mono (Kd.R_keep (IsS92.apart (show IsS92 w _ g364 t361 t368 t369 from zi92 HI364.out) (by (with_reducible repeat (first | apply Kd.R_alloc | apply Kd.R_drewN | apply Kd.R_drew)); exact (Kd.R_mono (Kd.R_far (p := ⟨gb370, 0, none⟩) (Kd.R_types HO367.out BK370.out (by decide)) (fun _ hk => hk.2) (.slice Ao10 t365.length co10)) (fun _ h_ => h_.1))) (by decide)) hk (fun _ h => h.2)) (fun _ h => h.1)); have n2_ := Aside0.mk (KeepBut.blk hk (g' := gb370) (o := .cells #[.slice Ao10 t365.length co10] 31 (0, 0)) (by (with_reducible repeat (first | refine blk_drewN ?_ _ | refine blk_drew ?_ | refine blk_alloc ?_ _)); refine blk_put (cs := #[.slice none 0 0]) ?_ 0 _ rfl; (with_reducible repeat (first | refine blk_drewN ?_ _ | refine blk_drew ?_ | refine blk_alloc ?_ _)); exact BK370.out) NB370_364.out (by simp)); have n3_ := Aside0.mk (Kd.R_lower ho0 (below_size (zj HB.out (IsS92.ge HI364.out)))); have n4_ := Aside0.mk (hb); have n5_ := Aside0.mk (hi); clear BK360; clear HO367; clear BK370; clear HB; clear HI364; have BK360 := n0_; have HO367 := n1_; have BK370 := n2_; have HO373 := n3_; have HB := n4_; have HI364 := n5_; clear n0_ n1_ n2_ n3_ n4_ n5_; (try clear hb); (try clear hb2); (try clear hk); (try clear hi); (try clear ho0)))
 have n0_ := Aside0.mk (Kd.R_drew HO367.out)
 have n1_ := Aside0.mk (Kd.R_drew HO373.out)
 have n2_ := Aside0.mk (blk_drew BK360.out)
 have n3_ := Aside0.mk (blk_drew BK370.out)
 have n4_ := Aside0.mk (IsS92.drew HI364.out)
 have n5_ := Aside0.mk (below_drew1 HB.out)
 clear HO367
 clear HO373
 clear BK360
 clear BK370
 clear HI364
 clear HB
 have HO367 := n0_
 have HO373 := n1_
 have BK360 := n2_
 have BK370 := n3_
 have HI364 := n4_
 have HB := n5_
 clear n0_ n1_ n2_ n3_ n4_ n5_
 refine start_ (n := 8) (S := fun w' => w'.cell? ⟨gb370, 0, none⟩ = some (.slice Ao10 t365.length co10)) (ds := []) #[false, false, false, false, false, false, false, false] (by kernel_rfl) rfl rfl ((blk_cell BK370.out 0).trans rfl) (fun hHeld => ?_); refine with_tabW spec_l6Draw.tab4 spec_l6Draw.bits4 (fun HT_ HW_ => ?_)
 generalize w14.drew = w15 at HO367 HO373 BK360 BK370 HI364 HB hHeld ⊢
 refine pure_ (i := 1) (N := some 16) (v := ?_) (a' := ?_) #[false, true, false, false, false, false, false, false] rfl rfl (any_of HT_.out (by kernel_rfl)) (fun _ _ _ h => h) (Or.inl ⟨by rfl, ?_⟩) ?_ ?_
 rotate_left
 ·intro w'
  go_simp
  with_reducible rfl
 rotate_left
 ·simp only [Act.put, List.setIfInBounds_toArray, List.set_cons_zero, List.set_cons_succ, i64_w, i32_w]
  rfl
 refine pure_ (i := 2) (N := some 17) (v := ?_) (a' := ?_) #[false, true, true, false, false, false, false, false] rfl rfl (any_of HT_.out (by kernel_rfl)) (fun _ _ _ h => h) (Or.inl ⟨by rfl, ?_⟩) ?_ ?_
 rotate_left
 ·intro w'
  go_simp
  with_reducible rfl
 rotate_left
 ·simp only [Act.put, List.setIfInBounds_toArray, List.set_cons_zero, List.set_cons_succ, i64_w, i32_w]
  rfl
 refine take_ (i := 0) (N := some 15) (v := ?_) (a' := ?_) #[true, true, true, false, false, false, false, false] rfl rfl (take_ofW HT_.out HW_.out (by kernel_rfl)) (fun _ _ _ h => h) (Or.inl ⟨by rfl, ?_⟩) hHeld ?_ ?_
 rotate_left
 ·intro w' s0
  go_simp
  with_reducible rfl
 rotate_left
 ·simp only [Act.put, List.setIfInBounds_toArray, List.set_cons_zero, List.set_cons_succ, i64_w, i32_w]
  rfl
 refine take_ (i := 3) (N := some 18) (v := ?_) (a' := ?_) #[true, true, true, true, false, false, false, false] rfl rfl (take_ofW HT_.out HW_.out (by kernel_rfl)) (fun _ _ _ h => h) (Or.inl ⟨by rfl, ?_⟩) hHeld ?_ ?_
 rotate_left
 ·intro w' s0
  go_simp
  with_reducible rfl
 rotate_left
 ·simp only [Act.put, List.setIfInBounds_toArray, List.set_cons_zero, List.set_cons_succ, i64_w, i32_w]
  rfl
 refine one_ (i := 4) (N := some 19) #[true, true, true, true, true, false, false, false] rfl rfl (one_of HT_.out (by kernel_rfl)) (by decide) (fun K hK => ?_)
 refine goes_ Try.func63 (by kernel_rfl) rfl #[.pointer (some ⟨g364, 0, none⟩), .agg #[.slice Ao10 t365.length co10]] (by rfl) rfl rfl zl ?_
 with_reducible refine (spec_l1DrawTerm.calls k g364 t361 t374 t375 _ _ t365 t376 t377 t378 w _ ?side1 ?side2 ?side3 ?side4 A5.out).mono ?_
 (case side1 => exact zi92 HI364.out)
 (case side2 => exact zj HB.out (IsS92.ge HI364.out))
 (case side3 => exact Kd.C_foot_own (IsS92.apart (show IsS92 w _ g364 t361 t374 t375 from zi92 HI364.out) (zr HO367.out) (by decide)) (fun _ h_ => h_.2))
 (case side4 => exact (Kd.R_reads' HO367.out).2.1)
 rintro e w16 ⟨rfl, hi, hb, hk⟩
 refine ⟨_, rfl, ?_⟩
 have n0_ := Aside0.mk (KeepBut.blk hk (g' := gb360) (o := .cells #[.slice none 0 0] 31 (0, 0)) (zh BK360.out) NB360_364.out (by simp))
 have n1_ := Aside0.mk (Kd.R_mono (Kd.R_keep (IsS92.apart (show IsS92 w _ g364 t361 t374 t375 from zi92 HI364.out) (zr HO367.out) (by decide)) hk (fun _ h => h.2)) (fun _ h => h.1))
 have n2_ := Aside0.mk (KeepBut.blk hk (g' := gb370) (o := .cells #[.slice Ao10 t365.length co10] 31 (0, 0)) (zh BK370.out) NB370_364.out (by simp))
 have n3_ := Aside0.mk (Kd.R_mono (Kd.R_keep (IsS92.apart (show IsS92 w _ g364 t361 t374 t375 from zi92 HI364.out) (zr HO373.out) (by decide)) hk (fun _ h => h.2)) (fun _ h => h.1))
 have n4_ := Aside0.mk (hb)
 have n5_ := Aside0.mk (hi)
 clear BK360
 clear HO367
 clear BK370
 clear HO373
 clear HB
 clear HI364
 have BK360 := n0_
 have HO367 := n1_
 have BK370 := n2_
 have HO373 := n3_
 have HB := n4_
 have HI364 := n5_
 clear n0_ n1_ n2_ n3_ n4_ n5_
 (try clear hb)
 (try clear hb2)
 (try clear hk)
 (try clear hi)
 refine hK.out _ _ ((blk_cell BK370.out 0).trans rfl) (fun hHeld => ?_)
 clear hK K
 refine norm_ (a' := ?_) ?_ ?_
 rotate_left
 ·show Act.put _ (some 19) _ = _
  simp only [Act.put, List.setIfInBounds_toArray, List.set_cons_zero, List.set_cons_succ, i64_w, i32_w]
  rfl
 refine one_ (i := 5) (N := none) #[true, true, true, true, true, true, false, false] rfl rfl (one_of HT_.out (by kernel_rfl)) (by decide) (fun K hK => ?_)
 have hs17 : w16.cell? ⟨gb360, 0, none⟩ = some (.slice none 0 0) := (blk_cell BK360.out 0).trans rfl
 have hfs17 := blk_frozen BK360.out 0
 have hns17_1 := NB370_360.out
 have hms17_1 := NB360_370.out
 refine skip_ (w1 := ?_) (by rfl) rfl ?_ ?_
 rotate_left
 ·go_simp
  rfl
 refine hK.out _ _ (((cell_far (p := ⟨gb360, _, none⟩) NB370_360.out _).trans (hHeld))) (fun hHeld => ?_)
 clear hK K
 refine pure_ (i := 6) (N := some 3) (v := ?_) (a' := ?_) #[true, true, true, true, true, true, true, false] rfl rfl (any_of HT_.out (by kernel_rfl)) (fun _ _ _ h => h) (Or.inl ⟨by rfl, ?_⟩) ?_ ?_
 rotate_left
 ·intro w'
  go_simp
  with_reducible rfl
 rotate_left
 ·simp only [Act.put, List.setIfInBounds_toArray, List.set_cons_zero, List.set_cons_succ, i64_w, i32_w]
  rfl
 refine pure_ (i := 7) (N := some 4) (v := ?_) (a' := ?_) #[true, true, true, true, true, true, true, true] rfl rfl (any_of HT_.out (by kernel_rfl)) (fun _ _ _ h => h) (Or.inl ⟨by rfl, ?_⟩) ?_ ?_
 rotate_left
 ·intro w'
  go_simp
  with_reducible rfl
 rotate_left
 ·simp only [Act.put, List.setIfInBounds_toArray, List.set_cons_zero, List.set_cons_succ, i64_w, i32_w]
  rfl
 refine done_ (done_of HT_.out (by kernel_rfl)) ?_
 try go_wp2
 refine bodyPost_ret (results_ctt rfl _ _ gb360 31 #[.slice Ao10 t365.length co10] (0, 0) _ rfl (by (with_reducible repeat (first | refine blk_drewN ?_ _ | refine blk_drew ?_ | refine blk_alloc ?_ _)); refine blk_put (cs := #[.slice none 0 0]) ?_ 0 _ rfl; (with_reducible repeat (first | refine blk_drewN ?_ _ | refine blk_drew ?_ | refine blk_alloc ?_ _)); exact BK360.out) Try.underlying31 rfl (by kernel_rfl)) rfl ?_
 exact ⟨_, _, ze, zr (Kd.R_mono (Kd.R_far (p := ⟨gb360, 0, none⟩) (Kd.R_types HO367.out BK360.out (by decide)) (fun _ hk => hk.2) (.slice Ao10 t365.length co10)) (fun _ hk => trivial)), zr (Kd.R_mono (Kd.R_far (p := ⟨gb360, 0, none⟩) (Kd.R_types HO373.out BK360.out (by decide)) (fun _ hk => hk.2) (.slice Ao10 t365.length co10)) (fun _ hk => trivial)), zj HB.out (IsS92.ge HI364.out)⟩

/-! ### spec_DrawMakesAll: function 23 -/
def spec_DrawMakesAll.f (k : Nat) (l0 : List Int) : Option ((List (S67)) × List Int) := (spec_l6Draw.f k l0).bind fun bt380 => (some (bt380.1, bt380.2.1))
theorem spec_DrawMakesAll.mono : ∀ a0 k, LeO (spec_DrawMakesAll.f k a0) (spec_DrawMakesAll.f (k + 1) a0) := by
 intro a0 k
 unfold spec_DrawMakesAll.f
 repeat' first
   | (with_reducible exact spec_l6Draw.mono _ _)
   | (with_reducible exact LeO.refl _)
   | (with_reducible exact LeO.none _)
   | (with_reducible refine LeO.ite ?_ ?_)
   | (with_reducible refine LeO.bind ?_ (fun _ => ?_))
   | exact spec_l6Draw.mono _ _
   | exact LeO.none _
   | refine LeO.ite ?_ ?_
   | refine LeO.bind ?_ (fun _ => ?_)
set_option maxHeartbeats 8000000 in
set_option maxRecDepth 100000 in
theorem spec_DrawMakesAll.calls (k : Nat) (A0 : Option Addr) (c0 : Nat) (l0 : List Int) (r1 : List (S67)) (r2 : List Int) (w : World) (hr0 : Kd.C (Kd.int .u8) w A0 l0.length l0) (hc0 : l0.length ≤ c0) (h : spec_DrawMakesAll.f k l0 = some (r1, r2)) :
  Calls Try.prog 23 #[.slice A0 l0.length c0] w fun e w' => ∃ v0_ v1_ : Value, e = .returned (.tuple #[.agg #[v0_], v1_]) ∧ Kd.R k67 67 w' w.heap.size (fun _ => True) v0_ r1 ∧ Kd.R (Kd.int .i64) 3 w' w.heap.size (fun _ => True) v1_ r2 ∧ Below w.heap.size w w' := by
 have hu31 := Try.underlying31
 have HR0 := Aside0.mk hr0
 have HC0 := Aside0.mk hc0
 clear hr0 hc0
 have HB := Aside0.mk (Below.refl w.heap.size w)
 have H : ((spec_l6Draw.f k l0).bind fun bt380 => (some (bt380.1, bt380.2.1))) = some (r1, r2) := h
 clear h
 replace H := Option.bind_eq_some_iff.mp H
 obtain ⟨⟨t380, t383, t386⟩, A20, H⟩ := H
 replace H : (some (t380, t383)) = some (r1, r2) := H
 have A2 := Aside0.mk A20
 clear A20
 simp only [Option.some.injEq, Prod.mk.injEq] at H
 obtain ⟨rfl, rfl⟩ := H
 go_enter Try.func23, Try.ntmps23
 go_wp2_with (first | ((with_reducible refine gate_dst (N := 2) rfl ?_); refine box_event ?hg (N := 2) ?hd (cs := #[.slice none 0 0]) (t := 31) ?hr ?_; (case hd => rfl); (case hg => rfl); (case hr => first | (go_simp; done) | (go_simp; rfl)); intro gb379 hg w3 hbox hb; have n0_ := Aside0.mk (below_step (zb HB.out) hb); have n1_ := Aside0.mk (hbox); have n2_ := Aside0.mk ((by rw [hg]; exact (below_size (zb HB.out)) : w.heap.size ≤ gb379)); have n3_ := Aside0.mk ((by rw [hg]; exact (below_size (zb HB.out)) : w.heap.size ≤ gb379)); clear HB; have HB := n0_; have BK379 := n1_; have GW379 := n2_; have GE379 := n3_; clear n0_ n1_ n2_ n3_; clear hb hbox hg) | ((with_reducible refine gate_callee (f := 44) rfl ?_); refine goesL_ (some 9) rfl rfl Try.func44 (by kernel_rfl) rfl #[.slice A0 l0.length c0] rfl zl ?_; (with_reducible refine (spec_l6Draw.calls k _ _ l0 t380 t383 t386 _ ?side1 ?side2 A2.out).mono ?_); (case side1 => exact zc (Kd.C_below HR0.out HB.out)); (case side2 => exact HC0.out); rintro e w4 ⟨v381, v384, rfl, ho0, ho1, hb⟩; refine ⟨_, rfl, ?_⟩; have n0_ := Aside0.mk (Kd.R_lower ho0 (below_size (zb HB.out))); have n1_ := Aside0.mk (Kd.R_lower ho1 (below_size (zb HB.out))); have n2_ := Aside0.mk (blk_below (zh BK379.out) hb); have n3_ := Aside0.mk (below_step (zb HB.out) hb); clear BK379; clear HB; have HO382 := n0_; have HO385 := n1_; have BK379 := n2_; have HB := n3_; clear n0_ n1_ n2_ n3_; (try clear hb); (try clear hb2); (try clear hk); (try clear hi); (try clear ho0); (try clear ho1)) | ((with_reducible refine gate_dst (N := 4) rfl ?_); refine box_event ?hg (N := 4) ?hd (cs := #[.slice none 0 0]) (t := 31) ?hr ?_; (case hd => rfl); (case hg => rfl); (case hr => first | (go_simp; done) | (go_simp; rfl)); intro gb387 hg w5 hbox hb; have n0_ := Aside0.mk (Kd.R_below (zr HO382.out) hb); have n1_ := Aside0.mk (Kd.R_below (zr HO385.out) hb); have n2_ := Aside0.mk (blk_below (zh BK379.out) hb); have n3_ := Aside0.mk (below_step (zb HB.out) hb); have n4_ := Aside0.mk (hbox); have n5_ := Aside0.mk ((by rw [hg]; exact (below_size (zb HB.out)) : w.heap.size ≤ gb387)); have n6_ := Aside0.mk ((by rw [hg]; exact (below_size (zb HB.out)) : w.heap.size ≤ gb387)); have n7_ := Aside0.mk ((by rw [hg]; exact Nat.ne_of_lt (blk_lt (zh BK379.out)) : gb379 ≠ gb387)); have n8_ := Aside0.mk ((by rw [hg]; exact Nat.ne_of_gt (blk_lt (zh BK379.out)) : gb387 ≠ gb379)); clear HO382; clear HO385; clear BK379; clear HB; have HO382 := n0_; have HO385 := n1_; have BK379 := n2_; have HB := n3_; have BK387 := n4_; have GW387 := n5_; have GE387 := n6_; have NB379_387 := n7_; have NB387_379 := n8_; clear n0_ n1_ n2_ n3_ n4_ n5_ n6_ n7_ n8_; clear hb hbox hg; obtain ⟨Ao6, co6, eo6⟩ := Kd.R_slice HO382.out; subst eo6; have hnb7 := NB387_379.out; have hnc7 := NB379_387.out; have hcz8_0 : w5.cell? ⟨gb387, 0, none⟩ = some (.slice none 0 0) := (blk_cell BK387.out 0).trans rfl; have hfz8_0 := blk_frozen BK387.out 0; have hcz9_0 : w5.cell? ⟨gb379, 0, none⟩ = some (.slice none 0 0) := (blk_cell BK379.out 0).trans rfl; have hfz9_0 := blk_frozen BK379.out 0))
 refine bodyPost_ret (results_ct rfl _ _ gb379 31 #[.slice Ao6 t380.length co6] (0, 0) _ rfl (by (with_reducible repeat (first | refine blk_drewN ?_ _ | refine blk_drew ?_ | refine blk_alloc ?_ _)); refine blk_put (cs := #[.slice none 0 0]) ?_ 0 _ rfl; (with_reducible repeat (first | refine blk_drewN ?_ _ | refine blk_drew ?_ | refine blk_alloc ?_ _)); refine blk_far ?_ NB379_387.out _; (with_reducible repeat (first | refine blk_drewN ?_ _ | refine blk_drew ?_ | refine blk_alloc ?_ _)); exact BK379.out) Try.underlying31 rfl (by kernel_rfl)) rfl ?_
 exact ⟨_, _, ze, zr (Kd.R_mono (Kd.R_far (p := ⟨gb379, 0, none⟩) (Kd.R_far (p := ⟨gb387, 0, none⟩) (Kd.R_types (Kd.R_types HO382.out BK387.out (by decide)) BK379.out (by decide)) (fun _ hk => hk.1.2) (.slice Ao6 t380.length co6)) (fun _ hk => hk.2) (.slice Ao6 t380.length co6)) (fun _ hk => trivial)), zr (Kd.R_mono (Kd.R_far (p := ⟨gb379, 0, none⟩) (Kd.R_far (p := ⟨gb387, 0, none⟩) (Kd.R_types (Kd.R_types HO385.out BK387.out (by decide)) BK379.out (by decide)) (fun _ hk => hk.1.2) (.slice Ao6 t380.length co6)) (fun _ hk => hk.2) (.slice Ao6 t380.length co6)) (fun _ hk => trivial)), zb HB.out⟩

/-! ### impl_IsPublic: function 88 -/
def impl_IsPublic.f (a0 : Int) : Option (Bool) := (impl_inRange.f a0 0 49).bind fun t388 => (some t388)
set_option maxHeartbeats 8000000 in
set_option maxRecDepth 100000 in
theorem impl_IsPublic.calls (a0 : Int) (r : Bool) (w : World) (h : impl_IsPublic.f a0 = some r) :
  Calls Try.prog 88 #[.int .i64 a0] w fun e w' => e = .returned (.bool r) ∧ Drawn0 w w' := by
 have H : ((impl_inRange.f a0 0 49).bind fun t388 => (some t388)) = some r := h
 clear h
 replace H := Option.bind_eq_some_iff.mp H
 obtain ⟨t388, A20, H⟩ := H
 replace H : (some t388) = some r := H
 have A2 := Aside0.mk A20
 clear A20
 obtain rfl := Option.some.inj H
 go_enter Try.func88, Try.ntmps88
 go_wp2_with (first | ((with_reducible refine gate_callee (f := 56) rfl ?_); refine goesL_ (some 4) rfl rfl Try.func56 (by kernel_rfl) rfl #[.int .i64 a0, .int .i64 0, .int .i64 49] rfl zl ?_; (with_reducible refine (impl_inRange.calls a0 0 49 t388 _ A2.out).mono ?_); rintro e w' ⟨rfl, ⟨nd, rfl⟩⟩; refine ⟨_, rfl, ?_⟩))
 go_ret
 exact ⟨by first | rfl | (simp; done) | (simp [*]; done), by repeat (first | exact Drawn0.refl _ | apply Drawn0.step)⟩

end Go.Proofs.Ytilnfdnigjblcaa.H
end

section
-- Written by this session's program (wip/tools/gprint.py over the kit's print) out of the translation; Lean checks it.
namespace Go.Proofs.Ytilnfdnigjblcaa.H
open Go.RowKit Go.Proofs.YtilnfdnigjblcaaW.PrintWords Go.Proofs.YtilnfdnigjblcaaW.PrintLast Go.Proofs.YtilnfdnigjblcaaW.PrintMore
attribute [local go_sem] max2_int min2_int max_two min_two max_three min_three max_four min_four   -- for this text's walks alone
set_option linter.unusedVariables false
set_option linter.unusedSimpArgs false
set_option maxRecDepth 100000

attribute [local go_sem high] eqA67
/-! ### impl_Pool_parts: function 89 -/
def impl_Pool_parts.f (k : Nat) (l0_0 : List (S67)) (a1 : Int) : Option (List Int) := if 0 ≤ a1 then (if a1 < (l0_0.length : Int) then ((impl_count.f k ((rd_T67 l0_0 a1).f0)).bind fun t391 => (if t391 = 1 then (some (([(rd_T67 l0_0 a1).f1] : List Int))) else (if t391 = 2 then (some (([(rd_T67 l0_0 a1).f1, (rd_T67 l0_0 a1).f2] : List Int))) else (some ([] : List Int))))) else (none)) else (none)
theorem impl_Pool_parts.mono : ∀ a0 a1 k, LeO (impl_Pool_parts.f k a0 a1) (impl_Pool_parts.f (k + 1) a0 a1) := by
 intro a0 a1 k
 unfold impl_Pool_parts.f
 repeat' first
   | (with_reducible exact impl_count.mono _ _)
   | (with_reducible exact LeO.refl _)
   | (with_reducible exact LeO.none _)
   | (with_reducible refine LeO.ite ?_ ?_)
   | (with_reducible refine LeO.bind ?_ (fun _ => ?_))
   | exact impl_count.mono _ _
   | exact LeO.none _
   | refine LeO.ite ?_ ?_
   | refine LeO.bind ?_ (fun _ => ?_)
set_option maxHeartbeats 8000000 in
set_option maxRecDepth 100000 in
theorem impl_Pool_parts.calls (k : Nat) (g0_ : Nat) (A0_0 : Option Addr) (c0_0 : Nat) (l0_0 : List (S67)) (a1 : Int) (r : List Int) (w : World) (hk0_ : w.heap[g0_]? = some (.cells #[.slice A0_0 l0_0.length c0_0] 31 (0, 0))) (hr0_0 : Kd.C k67 w A0_0 l0_0.length l0_0) (hc0_0 : l0_0.length ≤ c0_0) (h : impl_Pool_parts.f k l0_0 a1 = some r) :
  Calls Try.prog 89 #[.pointer (some ⟨g0_, 0, none⟩), .int .i64 a1] w fun e w' => ∃ v0_ : Value, e = .returned (v0_) ∧ Kd.R (Kd.int .i64) 3 w' w.heap.size (fun _ => True) v0_ r ∧ Below w.heap.size w w' := by
 have hu67 := Try.underlying67
 have HR0_0 := Aside0.mk hr0_0
 have HC0_0 := Aside0.mk hc0_0
 clear hr0_0 hc0_0
 have BK0 := Aside0.mk hk0_
 clear hk0_
 have HB := Aside0.mk (Below.refl w.heap.size w)
 have H : (if 0 ≤ a1 then (if a1 < (l0_0.length : Int) then ((impl_count.f k ((rd_T67 l0_0 a1).f0)).bind fun t391 => (if t391 = 1 then (some (([(rd_T67 l0_0 a1).f1] : List Int))) else (if t391 = 2 then (some (([(rd_T67 l0_0 a1).f1, (rd_T67 l0_0 a1).f2] : List Int))) else (some ([] : List Int))))) else (none)) else (none)) = some r := h
 clear h
 by_cases c3 : 0 ≤ a1
 ·rw [if_pos c3] at H
  have c3b0 : decide (0 ≤ a1) = true := decide_eq_true c3
  clear c3
  by_cases c4 : a1 < (l0_0.length : Int)
  ·rw [if_pos c4] at H
   have c4b0 : decide (a1 < (l0_0.length : Int)) = true := decide_eq_true c4
   clear c4
   replace H := Option.bind_eq_some_iff.mp H
   obtain ⟨t391, A50, H⟩ := H
   replace H : (if t391 = 1 then (some (([(rd_T67 l0_0 a1).f1] : List Int))) else (if t391 = 2 then (some (([(rd_T67 l0_0 a1).f1, (rd_T67 l0_0 a1).f2] : List Int))) else (some ([] : List Int)))) = some r := H
   have A5 := Aside0.mk A50
   clear A50
   by_cases c6 : t391 = 1
   ·rw [if_pos c6] at H
    have c6b0 : (t391 == 1) = true := beq_iff_eq.mpr c6
    have c6b1 : (t391 != 1) = false := bne_eq_false_iff_eq.mpr c6
    clear c6
    obtain ⟨y392, hy392⟩ : ∃ y_ : List Int, y_ = (([(rd_T67 l0_0 a1).f1] : List Int)) := ⟨_, rfl⟩
    replace H : (some y392) = some r := by first | (rw [hy392]; with_reducible exact H) | (have H2_ := (Option.bind_some _ _).symm.trans H; rw [hy392]; with_reducible exact H2_) | (have H2_ := (Option.bind_some _ _).symm.trans H; with_reducible exact H2_) | with_reducible exact H | (rw [hy392]; exact H) | exact H
    have Ny392 := Aside0.mk hy392
    clear hy392
    obtain rfl := Option.some.inj H
    have hcz7_0 : w.cell? ⟨g0_, 0, none⟩ = some (.slice A0_0 l0_0.length c0_0) := (blk_cell BK0.out 0).trans rfl
    have hfz7_0 := blk_frozen BK0.out 0
    have p389 : 0 ≤ (a1 : Int) := of_decide_eq_true (by first | (with_reducible assumption) | assumption)
    have q389 : a1 < (l0_0.length : Int) := of_decide_eq_true (by first | (with_reducible assumption) | assumption)
    obtain ⟨ad389, e389, hx389_0, hx389_1, hx389_2⟩ := at_T67 HR0_0.out a1 p389 q389
    cases e389
    replace p389 := eq_true p389
    replace q389 := eq_true q389
    go_enter Try.func89, Try.ntmps89
    go_wp2_with (first | ((with_reducible refine gate_dst (N := 5) rfl ?_); refine box_event ?hg (N := 5) ?hd (cs := #[.int .i64 0, .int .i64 0, .int .i64 0]) (t := 67) ?hr ?_; (case hd => rfl); (case hg => rfl); (case hr => first | (go_simp; done) | (go_simp; rfl)); intro gb390 hg w8 hbox hb; have n0_ := Aside0.mk (blk_below (zh BK0.out) hb); have n1_ := Aside0.mk (below_step (zb HB.out) hb); have n2_ := Aside0.mk (hbox); have n3_ := Aside0.mk ((by rw [hg]; exact (below_size (zb HB.out)) : w.heap.size ≤ gb390)); have n4_ := Aside0.mk ((by rw [hg]; exact (below_size (zb HB.out)) : w.heap.size ≤ gb390)); have n5_ := Aside0.mk ((by rw [hg]; exact Nat.ne_of_lt (blk_lt (zh BK0.out)) : g0_ ≠ gb390)); have n6_ := Aside0.mk ((by rw [hg]; exact Nat.ne_of_gt (blk_lt (zh BK0.out)) : gb390 ≠ g0_)); clear BK0; clear HB; have BK0 := n0_; have HB := n1_; have BK390 := n2_; have GW390 := n3_; have GE390 := n4_; have NB0_390 := n5_; have NB390_0 := n6_; clear n0_ n1_ n2_ n3_ n4_ n5_ n6_; clear hb hbox hg; have hnb9 := NB390_0.out; have hnc9 := NB0_390.out; have hcz10_0 : w8.cell? ⟨gb390, 0, none⟩ = some (.int .i64 0) := (blk_cell BK390.out 0).trans rfl; have hcz10_1 : w8.cell? ⟨gb390, 1, none⟩ = some (.int .i64 0) := (blk_cell BK390.out 1).trans rfl; have hcz10_2 : w8.cell? ⟨gb390, 2, none⟩ = some (.int .i64 0) := (blk_cell BK390.out 2).trans rfl; have hfz10_0 := blk_frozen BK390.out 0; have hfz10_1 := blk_frozen BK390.out 1; have hfz10_2 := blk_frozen BK390.out 2) | ((with_reducible refine gate_callee (f := 87) rfl ?_); refine goesL_ (some 15) rfl rfl Try.func87 (by kernel_rfl) rfl #[.int .i64 ((rd_T67 l0_0 a1).f0)] rfl zl ?_; (with_reducible refine (impl_count.calls k ((rd_T67 l0_0 a1).f0) t391 _ A5.out).mono ?_); rintro e w' ⟨rfl, ⟨nd, rfl⟩⟩; refine ⟨_, rfl, ?_⟩) | ((with_reducible refine gate_dst (N := 20) rfl ?_); refine Kd.R_lit (Kd.int .i64) _ 3 ?hg (N := 20) ?hd (xs := ([(rd_T67 l0_0 a1).f1] : List Int)) (inner := [.int .i64 ((rd_T67 l0_0 a1).f1)]) (ok := fun _ => True) (okp := fun _ => True) ?hr ?hp (fun _ hk => hk) trivial (Below.refl _ _) (Nat.le_refl _) (by simp) ?_; (case hd => rfl); (case hg => rfl); (case hr => first | (go_simp; done) | (go_simp; rfl)); (case hp => exact (Reps.one (show Kd.M (Kd.int .i64) _ _ _ ((rd_T67 l0_0 a1).f1) [.int .i64 ((rd_T67 l0_0 a1).f1)] from rfl) (Reps.none _ _))); intro v393 w11 ho12 hb hg_ hnew_; clear hg_ hnew_; (first | rw [← Ny392.out] at ho12 | (simp only [Int.reduceToNat] at ho12; rw [← Ny392.out] at ho12)); have n0_ := Aside0.mk (Kd.R_lower ho12 (below_size (zb HB.out))); have n1_ := Aside0.mk (blk_below (g := g0_) (o := .cells #[.slice (some ad389) l0_0.length c0_0] 31 (0, 0)) (zf BK0.out) hb); have n2_ := Aside0.mk (blk_below (g := gb390) (o := .cells #[.int .i64 ((rd_T67 l0_0 a1).f0), .int .i64 ((rd_T67 l0_0 a1).f1), .int .i64 ((rd_T67 l0_0 a1).f2)] 67 (0, 0)) (by (with_reducible repeat (first | refine blk_drewN ?_ _ | refine blk_drew ?_ | refine blk_alloc ?_ _)); refine blk_put (cs := #[.int .i64 ((rd_T67 l0_0 a1).f0), .int .i64 ((rd_T67 l0_0 a1).f1), .int .i64 0]) ?_ 2 _ rfl; (with_reducible repeat (first | refine blk_drewN ?_ _ | refine blk_drew ?_ | refine blk_alloc ?_ _)); refine blk_put (cs := #[.int .i64 ((rd_T67 l0_0 a1).f0), .int .i64 0, .int .i64 0]) ?_ 1 _ rfl; (with_reducible repeat (first | refine blk_drewN ?_ _ | refine blk_drew ?_ | refine blk_alloc ?_ _)); refine blk_put (cs := #[.int .i64 0, .int .i64 0, .int .i64 0]) ?_ 0 _ rfl; (with_reducible repeat (first | refine blk_drewN ?_ _ | refine blk_drew ?_ | refine blk_alloc ?_ _)); exact BK390.out) hb); have n3_ := Aside0.mk (below_step (zb HB.out) hb); clear BK0; clear BK390; clear HB; have HO394 := n0_; have BK0 := n1_; have BK390 := n2_; have HB := n3_; clear n0_ n1_ n2_ n3_; clear hb ho12))
    go_ret
    exact ⟨_, ze, zr HO394.out, zb HB.out⟩
   ·rw [if_neg c6] at H
    have c6b0 : (t391 == 1) = false := beq_eq_false_iff_ne.mpr c6
    have c6b1 : (t391 != 1) = true := bne_iff_ne.mpr c6
    by_cases c13 : t391 = 2
    ·rw [if_pos c13] at H
     have c13b0 : (t391 == 2) = true := beq_iff_eq.mpr c13
     have c13b1 : (t391 != 2) = false := bne_eq_false_iff_eq.mpr c13
     clear c13
     obtain ⟨y395, hy395⟩ : ∃ y_ : List Int, y_ = (([(rd_T67 l0_0 a1).f1, (rd_T67 l0_0 a1).f2] : List Int)) := ⟨_, rfl⟩
     replace H : (some y395) = some r := by first | (rw [hy395]; with_reducible exact H) | (have H2_ := (Option.bind_some _ _).symm.trans H; rw [hy395]; with_reducible exact H2_) | (have H2_ := (Option.bind_some _ _).symm.trans H; with_reducible exact H2_) | with_reducible exact H | (rw [hy395]; exact H) | exact H
     have Ny395 := Aside0.mk hy395
     clear hy395
     obtain rfl := Option.some.inj H
     have hcz14_0 : w.cell? ⟨g0_, 0, none⟩ = some (.slice A0_0 l0_0.length c0_0) := (blk_cell BK0.out 0).trans rfl
     have hfz14_0 := blk_frozen BK0.out 0
     have p389 : 0 ≤ (a1 : Int) := of_decide_eq_true (by first | (with_reducible assumption) | assumption)
     have q389 : a1 < (l0_0.length : Int) := of_decide_eq_true (by first | (with_reducible assumption) | assumption)
     obtain ⟨ad389, e389, hx389_0, hx389_1, hx389_2⟩ := at_T67 HR0_0.out a1 p389 q389
     cases e389
     replace p389 := eq_true p389
     replace q389 := eq_true q389
     go_enter Try.func89, Try.ntmps89
     go_wp2_with (first | ((with_reducible refine gate_dst (N := 5) rfl ?_); refine box_event ?hg (N := 5) ?hd (cs := #[.int .i64 0, .int .i64 0, .int .i64 0]) (t := 67) ?hr ?_; (case hd => rfl); (case hg => rfl); (case hr => first | (go_simp; done) | (go_simp; rfl)); intro gb390 hg w15 hbox hb; have n0_ := Aside0.mk (blk_below (zh BK0.out) hb); have n1_ := Aside0.mk (below_step (zb HB.out) hb); have n2_ := Aside0.mk (hbox); have n3_ := Aside0.mk ((by rw [hg]; exact (below_size (zb HB.out)) : w.heap.size ≤ gb390)); have n4_ := Aside0.mk ((by rw [hg]; exact (below_size (zb HB.out)) : w.heap.size ≤ gb390)); have n5_ := Aside0.mk ((by rw [hg]; exact Nat.ne_of_lt (blk_lt (zh BK0.out)) : g0_ ≠ gb390)); have n6_ := Aside0.mk ((by rw [hg]; exact Nat.ne_of_gt (blk_lt (zh BK0.out)) : gb390 ≠ g0_)); clear BK0; clear HB; have BK0 := n0_; have HB := n1_; have BK390 := n2_; have GW390 := n3_; have GE390 := n4_; have NB0_390 := n5_; have NB390_0 := n6_; clear n0_ n1_ n2_ n3_ n4_ n5_ n6_; clear hb hbox hg; have hnb16 := NB390_0.out; have hnc16 := NB0_390.out; have hcz17_0 : w15.cell? ⟨gb390, 0, none⟩ = some (.int .i64 0) := (blk_cell BK390.out 0).trans rfl; have hcz17_1 : w15.cell? ⟨gb390, 1, none⟩ = some (.int .i64 0) := (blk_cell BK390.out 1).trans rfl; have hcz17_2 : w15.cell? ⟨gb390, 2, none⟩ = some (.int .i64 0) := (blk_cell BK390.out 2).trans rfl; have hfz17_0 := blk_frozen BK390.out 0; have hfz17_1 := blk_frozen BK390.out 1; have hfz17_2 := blk_frozen BK390.out 2) | ((with_reducible refine gate_callee (f := 87) rfl ?_); refine goesL_ (some 15) rfl rfl Try.func87 (by kernel_rfl) rfl #[.int .i64 ((rd_T67 l0_0 a1).f0)] rfl zl ?_; (with_reducible refine (impl_count.calls k ((rd_T67 l0_0 a1).f0) t391 _ A5.out).mono ?_); rintro e w' ⟨rfl, ⟨nd, rfl⟩⟩; refine ⟨_, rfl, ?_⟩) | ((with_reducible refine gate_dst (N := 27) rfl ?_); refine Kd.R_lit (Kd.int .i64) _ 3 ?hg (N := 27) ?hd (xs := ([(rd_T67 l0_0 a1).f1, (rd_T67 l0_0 a1).f2] : List Int)) (inner := [.int .i64 ((rd_T67 l0_0 a1).f1), .int .i64 ((rd_T67 l0_0 a1).f2)]) (ok := fun _ => True) (okp := fun _ => True) ?hr ?hp (fun _ hk => hk) trivial (Below.refl _ _) (Nat.le_refl _) (by simp) ?_; (case hd => rfl); (case hg => rfl); (case hr => first | (go_simp; done) | (go_simp; rfl)); (case hp => exact (Reps.one (show Kd.M (Kd.int .i64) _ _ _ ((rd_T67 l0_0 a1).f1) [.int .i64 ((rd_T67 l0_0 a1).f1)] from rfl) (Reps.one (show Kd.M (Kd.int .i64) _ _ _ ((rd_T67 l0_0 a1).f2) [.int .i64 ((rd_T67 l0_0 a1).f2)] from rfl) (Reps.none _ _)))); intro v396 w18 ho19 hb hg_ hnew_; clear hg_ hnew_; (first | rw [← Ny395.out] at ho19 | (simp only [Int.reduceToNat] at ho19; rw [← Ny395.out] at ho19)); have n0_ := Aside0.mk (Kd.R_lower ho19 (below_size (zb HB.out))); have n1_ := Aside0.mk (blk_below (g := g0_) (o := .cells #[.slice (some ad389) l0_0.length c0_0] 31 (0, 0)) (zf BK0.out) hb); have n2_ := Aside0.mk (blk_below (g := gb390) (o := .cells #[.int .i64 ((rd_T67 l0_0 a1).f0), .int .i64 ((rd_T67 l0_0 a1).f1), .int .i64 ((rd_T67 l0_0 a1).f2)] 67 (0, 0)) (by (with_reducible repeat (first | refine blk_drewN ?_ _ | refine blk_drew ?_ | refine blk_alloc ?_ _)); refine blk_put (cs := #[.int .i64 ((rd_T67 l0_0 a1).f0), .int .i64 ((rd_T67 l0_0 a1).f1), .int .i64 0]) ?_ 2 _ rfl; (with_reducible repeat (first | refine blk_drewN ?_ _ | refine blk_drew ?_ | refine blk_alloc ?_ _)); refine blk_put (cs := #[.int .i64 ((rd_T67 l0_0 a1).f0), .int .i64 0, .int .i64 0]) ?_ 1 _ rfl; (with_reducible repeat (first | refine blk_drewN ?_ _ | refine blk_drew ?_ | refine blk_alloc ?_ _)); refine blk_put (cs := #[.int .i64 0, .int .i64 0, .int .i64 0]) ?_ 0 _ rfl; (with_reducible repeat (first | refine blk_drewN ?_ _ | refine blk_drew ?_ | refine blk_alloc ?_ _)); exact BK390.out) hb); have n3_ := Aside0.mk (below_step (zb HB.out) hb); clear BK0; clear BK390; clear HB; have HO397 := n0_; have BK0 := n1_; have BK390 := n2_; have HB := n3_; clear n0_ n1_ n2_ n3_; clear hb ho19))
     go_ret
     exact ⟨_, ze, zr HO397.out, zb HB.out⟩
    ·rw [if_neg c13] at H
     have c13b0 : (t391 == 2) = false := beq_eq_false_iff_ne.mpr c13
     have c13b1 : (t391 != 2) = true := bne_iff_ne.mpr c13
     obtain rfl := Option.some.inj H
     have hcz20_0 : w.cell? ⟨g0_, 0, none⟩ = some (.slice A0_0 l0_0.length c0_0) := (blk_cell BK0.out 0).trans rfl
     have hfz20_0 := blk_frozen BK0.out 0
     have p389 : 0 ≤ (a1 : Int) := of_decide_eq_true (by first | (with_reducible assumption) | assumption)
     have q389 : a1 < (l0_0.length : Int) := of_decide_eq_true (by first | (with_reducible assumption) | assumption)
     obtain ⟨ad389, e389, hx389_0, hx389_1, hx389_2⟩ := at_T67 HR0_0.out a1 p389 q389
     cases e389
     replace p389 := eq_true p389
     replace q389 := eq_true q389
     go_enter Try.func89, Try.ntmps89
     go_wp2_with (first | ((with_reducible refine gate_dst (N := 5) rfl ?_); refine box_event ?hg (N := 5) ?hd (cs := #[.int .i64 0, .int .i64 0, .int .i64 0]) (t := 67) ?hr ?_; (case hd => rfl); (case hg => rfl); (case hr => first | (go_simp; done) | (go_simp; rfl)); intro gb390 hg w21 hbox hb; have n0_ := Aside0.mk (blk_below (zh BK0.out) hb); have n1_ := Aside0.mk (below_step (zb HB.out) hb); have n2_ := Aside0.mk (hbox); have n3_ := Aside0.mk ((by rw [hg]; exact (below_size (zb HB.out)) : w.heap.size ≤ gb390)); have n4_ := Aside0.mk ((by rw [hg]; exact (below_size (zb HB.out)) : w.heap.size ≤ gb390)); have n5_ := Aside0.mk ((by rw [hg]; exact Nat.ne_of_lt (blk_lt (zh BK0.out)) : g0_ ≠ gb390)); have n6_ := Aside0.mk ((by rw [hg]; exact Nat.ne_of_gt (blk_lt (zh BK0.out)) : gb390 ≠ g0_)); clear BK0; clear HB; have BK0 := n0_; have HB := n1_; have BK390 := n2_; have GW390 := n3_; have GE390 := n4_; have NB0_390 := n5_; have NB390_0 := n6_; clear n0_ n1_ n2_ n3_ n4_ n5_ n6_; clear hb hbox hg; have hnb22 := NB390_0.out; have hnc22 := NB0_390.out; have hcz23_0 : w21.cell? ⟨gb390, 0, none⟩ = some (.int .i64 0) := (blk_cell BK390.out 0).trans rfl; have hcz23_1 : w21.cell? ⟨gb390, 1, none⟩ = some (.int .i64 0) := (blk_cell BK390.out 1).trans rfl; have hcz23_2 : w21.cell? ⟨gb390, 2, none⟩ = some (.int .i64 0) := (blk_cell BK390.out 2).trans rfl; have hfz23_0 := blk_frozen BK390.out 0; have hfz23_1 := blk_frozen BK390.out 1; have hfz23_2 := blk_frozen BK390.out 2) | ((with_reducible refine gate_callee (f := 87) rfl ?_); refine goesL_ (some 15) rfl rfl Try.func87 (by kernel_rfl) rfl #[.int .i64 ((rd_T67 l0_0 a1).f0)] rfl zl ?_; (with_reducible refine (impl_count.calls k ((rd_T67 l0_0 a1).f0) t391 _ A5.out).mono ?_); rintro e w' ⟨rfl, ⟨nd, rfl⟩⟩; refine ⟨_, rfl, ?_⟩))
     go_ret
     exact ⟨_, ze, by first | exact Kd.R_nil _ _ _ _ _ | exact Kd.N_nil _ _ _ _ _ | exact Kd.V_nil _ _ _ _ _ | exact Kd.Q_nil _ _ _ _ _ | exact Kd.S_nil _ _ _ _ _, zb HB.out⟩
  ·rw [if_neg c4] at H
   exact absurd H (by simp)
 ·rw [if_neg c3] at H
  exact absurd H (by simp)

/-! ### impl_Node_98: function 98 -/
def impl_Node_98.l0 : Nat → List (S67) → Int → Int → Int → Int → Int → Option (Int)
 | 0, _, _, _, _, _, _ => none
 | k + 1, x0, x7, x8, x399000, x399001, x399002 => if x8 < x7 then (if 0 ≤ x8 then (if x8 < (x0.length : Int) then (if (x399000 == ((rd_T67 x0 x8).f0) && (x399001 == ((rd_T67 x0 x8).f1) && (x399002 == ((rd_T67 x0 x8).f2)))) = true then (some x8) else (impl_Node_98.l0 k x0 x7 (wrap64 (x8 + 1)) x399000 x399001 x399002)) else (none)) else (none)) else (some (-1))
def impl_Node_98.f (k : Nat) (l0 : List (S67)) (a1_0 : Int) (a1_1 : Int) (a1_2 : Int) : Option (Int) := impl_Node_98.l0 k l0 (l0.length : Int) 0 a1_0 a1_1 a1_2
theorem impl_Node_98.mono_l : ∀ k, (∀ y0 y1 y2 y3 y4 y5, LeO (impl_Node_98.l0 k y0 y1 y2 y3 y4 y5) (impl_Node_98.l0 (k + 1) y0 y1 y2 y3 y4 y5))
 | 0 => fun _ _ _ _ _ _ r h => by simp [impl_Node_98.l0] at h
 | k + 1 => by
  have ih0 := impl_Node_98.mono_l k
  ·intro y0 y1 y2 y3 y4 y5
   unfold impl_Node_98.l0
   repeat' first
   | (with_reducible exact ih0 _ _ _ _ _ _)
   | (with_reducible exact LeO.refl _)
   | (with_reducible exact LeO.none _)
   | (with_reducible refine LeO.ite ?_ ?_)
   | (with_reducible refine LeO.bind ?_ (fun _ => ?_))
   | exact ih0 _ _ _ _ _ _
   | exact LeO.none _
   | refine LeO.ite ?_ ?_
   | refine LeO.bind ?_ (fun _ => ?_)
theorem impl_Node_98.mono : ∀ a0 a1 a2 a3 k, LeO (impl_Node_98.f k a0 a1 a2 a3) (impl_Node_98.f (k + 1) a0 a1 a2 a3) := by
 intro a0 a1 a2 a3 k
 have ih0 := impl_Node_98.mono_l k
 unfold impl_Node_98.f
 repeat' first
   | (with_reducible exact ih0 _ _ _ _ _ _)
   | (with_reducible exact LeO.refl _)
   | (with_reducible exact LeO.none _)
   | (with_reducible refine LeO.ite ?_ ?_)
   | (with_reducible refine LeO.bind ?_ (fun _ => ?_))
   | exact ih0 _ _ _ _ _ _
   | exact LeO.none _
   | refine LeO.ite ?_ ?_
   | refine LeO.bind ?_ (fun _ => ?_)
set_option maxHeartbeats 8000000 in
set_option maxRecDepth 100000 in
theorem impl_Node_98.calls (k : Nat) (A0 : Option Addr) (c0 : Nat) (l0 : List (S67)) (a1_0 : Int) (a1_1 : Int) (a1_2 : Int) (r : Int) (w : World) (hr0 : Kd.C k67 w A0 l0.length l0) (hc0 : l0.length ≤ c0) (h : impl_Node_98.f k l0 a1_0 a1_1 a1_2 = some r) :
  Calls Try.prog 98 #[.slice A0 l0.length c0, .agg #[.int .i64 a1_0, .int .i64 a1_1, .int .i64 a1_2]] w fun e w' => e = .returned (.int .i64 r) ∧ Below w.heap.size w w' := by
 have hu67 := Try.underlying67
 have HR0 := Aside0.mk hr0
 have HC0 := Aside0.mk hc0
 clear hr0 hc0
 have HB := Aside0.mk (Below.refl w.heap.size w)
 have H : (impl_Node_98.l0 k l0 (l0.length : Int) 0 a1_0 a1_1 a1_2) = some r := h
 clear h
 have H' := Aside0.mk H
 clear H
 go_enter Try.func98, Try.ntmps98
 go_wp2_with (first | ((with_reducible refine gate_dst (N := 3) rfl ?_); refine box_event ?hg (N := 3) ?hd (cs := #[.int .i64 a1_0, .int .i64 a1_1, .int .i64 a1_2]) (t := 67) ?hr ?_; (case hd => rfl); (case hg => rfl); (case hr => first | (go_simp; done) | (go_simp; rfl)); intro gb398 hg w3 hbox hb; have n0_ := Aside0.mk (below_step (zb HB.out) hb); have n1_ := Aside0.mk (hbox); have n2_ := Aside0.mk ((by rw [hg]; exact (below_size (zb HB.out)) : w.heap.size ≤ gb398)); have n3_ := Aside0.mk ((by rw [hg]; exact (below_size (zb HB.out)) : w.heap.size ≤ gb398)); clear HB; have HB := n0_; have BK398 := n1_; have GW398 := n2_; have GE398 := n3_; clear n0_ n1_ n2_ n3_; clear hb hbox hg))
 repeat (go_quiet (first | ((with_reducible refine gate_dst (N := 3) rfl ?_); refine box_event ?hg (N := 3) ?hd (cs := #[.int .i64 a1_0, .int .i64 a1_1, .int .i64 a1_2]) (t := 67) ?hr ?_; (case hd => rfl); (case hg => rfl); (case hr => first | (go_simp; done) | (go_simp; rfl)); intro gb398 hg w3 hbox hb; have n0_ := Aside0.mk (below_step (zb HB.out) hb); have n1_ := Aside0.mk (hbox); have n2_ := Aside0.mk ((by rw [hg]; exact (below_size (zb HB.out)) : w.heap.size ≤ gb398)); have n3_ := Aside0.mk ((by rw [hg]; exact (below_size (zb HB.out)) : w.heap.size ≤ gb398)); clear HB; have HB := n0_; have BK398 := n1_; have GW398 := n2_; have GE398 := n3_; clear n0_ n1_ n2_ n3_; clear hb hbox hg)); try go_wp2_with (first | ((with_reducible refine gate_dst (N := 3) rfl ?_); refine box_event ?hg (N := 3) ?hd (cs := #[.int .i64 a1_0, .int .i64 a1_1, .int .i64 a1_2]) (t := 67) ?hr ?_; (case hd => rfl); (case hg => rfl); (case hr => first | (go_simp; done) | (go_simp; rfl)); intro gb398 hg w3 hbox hb; have n0_ := Aside0.mk (below_step (zb HB.out) hb); have n1_ := Aside0.mk (hbox); have n2_ := Aside0.mk ((by rw [hg]; exact (below_size (zb HB.out)) : w.heap.size ≤ gb398)); have n3_ := Aside0.mk ((by rw [hg]; exact (below_size (zb HB.out)) : w.heap.size ≤ gb398)); clear HB; have HB := n0_; have BK398 := n1_; have GW398 := n2_; have GE398 := n3_; clear n0_ n1_ n2_ n3_; clear hb hbox hg)))
 go_loopg [8] k (fun kq v8 w' => ∃ (x8_1 : Int), v8 = .int .i64 x8_1 ∧ Aside0 (impl_Node_98.l0 kq l0 (l0.length : Int) x8_1 a1_0 a1_1 a1_2 = some r) ∧ Aside0 (kq ≤ k) ∧ Aside0 (w'.heap[gb398]? = some (.cells #[.int .i64 a1_0, .int .i64 a1_1, .int .i64 a1_2] 67 (0, 0))) ∧ Aside0 (Below w.heap.size w w'))
 case atStart => exact ⟨(0), (by first | rfl | (simp; done) | (simp [*]; done)), H', ⟨Nat.le_refl _⟩, ⟨zh BK398.out⟩, ⟨zb HB.out⟩⟩
 case round =>
  clear H'
  try clear p2
  obtain ⟨x8_1, rfl, HA, HK1, BK398, HB⟩ := hrel
  cases gk with
  | zero => exact absurd HA.out (by simp [impl_Node_98.l0])
  | succ k1 =>
   have H := HA.out
   clear HA
   simp only [impl_Node_98.l0] at H
   by_cases c4 : x8_1 < (l0.length : Int)
   ·rw [if_pos c4] at H
    have c4b0 : decide (x8_1 < (l0.length : Int)) = true := decide_eq_true c4
    clear c4
    by_cases c5 : 0 ≤ x8_1
    ·rw [if_pos c5] at H
     have c5b0 : decide (0 ≤ x8_1) = true := decide_eq_true c5
     clear c5
     by_cases c6 : x8_1 < (l0.length : Int)
     ·rw [if_pos c6] at H
      have c6b0 : decide (x8_1 < (l0.length : Int)) = true := decide_eq_true c6
      clear c6
      by_cases c7 : (a1_0 == ((rd_T67 l0 x8_1).f0) && (a1_1 == ((rd_T67 l0 x8_1).f1) && (a1_2 == ((rd_T67 l0 x8_1).f2)))) = true
      ·rw [if_pos c7] at H
       have c7b0 : (a1_0 == ((rd_T67 l0 x8_1).f0) && (a1_1 == ((rd_T67 l0 x8_1).f1) && (a1_2 == ((rd_T67 l0 x8_1).f2)))) = true := c7
       (try (have c7b1 : decide (a1_0 = ((rd_T67 l0 x8_1).f0) && (a1_1 == ((rd_T67 l0 x8_1).f1) && (a1_2 == ((rd_T67 l0 x8_1).f2)))) = true := by simpa using c7))
       (try (have c7b2 : (a1_0 == ((rd_T67 l0 x8_1).f0) && (a1_1 == ((rd_T67 l0 x8_1).f1) && (a1_2 == ((rd_T67 l0 x8_1).f2)))) = true := by simpa using c7))
       clear c7
       obtain rfl := Option.some.inj H
       have hcz8_0 : wr.cell? ⟨gb398, 0, none⟩ = some (.int .i64 a1_0) := (blk_cell BK398.out 0).trans rfl
       have hcz8_1 : wr.cell? ⟨gb398, 1, none⟩ = some (.int .i64 a1_1) := (blk_cell BK398.out 1).trans rfl
       have hcz8_2 : wr.cell? ⟨gb398, 2, none⟩ = some (.int .i64 a1_2) := (blk_cell BK398.out 2).trans rfl
       have hfz8_0 := blk_frozen BK398.out 0
       have hfz8_1 := blk_frozen BK398.out 1
       have hfz8_2 := blk_frozen BK398.out 2
       have p399 : 0 ≤ (x8_1 : Int) := of_decide_eq_true (by first | (with_reducible assumption) | assumption)
       have q399 : x8_1 < (l0.length : Int) := of_decide_eq_true (by first | (with_reducible assumption) | assumption)
       obtain ⟨ad399, e399, hx399_0, hx399_1, hx399_2⟩ := at_T67 HR0.out x8_1 p399 q399
       cases e399
       replace hx399_0 := (HB.out.cell (World.block_lt_of_cell? w _ hx399_0)).trans hx399_0
       replace hx399_1 := (HB.out.cell (World.block_lt_of_cell? w _ hx399_1)).trans hx399_1
       replace hx399_2 := (HB.out.cell (World.block_lt_of_cell? w _ hx399_2)).trans hx399_2
       replace p399 := eq_true p399
       replace q399 := eq_true q399
       go_wp2
       repeat (go_quiet (fail); try go_wp2)
       go_ret
       exact ⟨ze, zb HB.out⟩
      ·rw [if_neg c7] at H
       have c7b0 : (a1_0 == ((rd_T67 l0 x8_1).f0) && (a1_1 == ((rd_T67 l0 x8_1).f1) && (a1_2 == ((rd_T67 l0 x8_1).f2)))) = false := by simpa using c7
       (try (have c7b1 : decide (a1_0 = ((rd_T67 l0 x8_1).f0) && (a1_1 == ((rd_T67 l0 x8_1).f1) && (a1_2 == ((rd_T67 l0 x8_1).f2)))) = false := by simpa using c7))
       (try (have c7b2 : (a1_0 == ((rd_T67 l0 x8_1).f0) && (a1_1 == ((rd_T67 l0 x8_1).f1) && (a1_2 == ((rd_T67 l0 x8_1).f2)))) = false := by simpa using c7))
       (try (have c7b3 : ¬ (a1_0 = ((rd_T67 l0 x8_1).f0) && (a1_1 == ((rd_T67 l0 x8_1).f1) && (a1_2 == ((rd_T67 l0 x8_1).f2)))) := by simpa using c7))
       clear c7
       have H' := Aside0.mk H
       clear H
       have hcz9_0 : wr.cell? ⟨gb398, 0, none⟩ = some (.int .i64 a1_0) := (blk_cell BK398.out 0).trans rfl
       have hcz9_1 : wr.cell? ⟨gb398, 1, none⟩ = some (.int .i64 a1_1) := (blk_cell BK398.out 1).trans rfl
       have hcz9_2 : wr.cell? ⟨gb398, 2, none⟩ = some (.int .i64 a1_2) := (blk_cell BK398.out 2).trans rfl
       have hfz9_0 := blk_frozen BK398.out 0
       have hfz9_1 := blk_frozen BK398.out 1
       have hfz9_2 := blk_frozen BK398.out 2
       have p399 : 0 ≤ (x8_1 : Int) := of_decide_eq_true (by first | (with_reducible assumption) | assumption)
       have q399 : x8_1 < (l0.length : Int) := of_decide_eq_true (by first | (with_reducible assumption) | assumption)
       obtain ⟨ad399, e399, hx399_0, hx399_1, hx399_2⟩ := at_T67 HR0.out x8_1 p399 q399
       cases e399
       replace hx399_0 := (HB.out.cell (World.block_lt_of_cell? w _ hx399_0)).trans hx399_0
       replace hx399_1 := (HB.out.cell (World.block_lt_of_cell? w _ hx399_1)).trans hx399_1
       replace hx399_2 := (HB.out.cell (World.block_lt_of_cell? w _ hx399_2)).trans hx399_2
       replace p399 := eq_true p399
       replace q399 := eq_true q399
       go_wp2
       repeat (go_quiet (fail); try go_wp2)
       go_roundg k1
       case measure => have := HK1.out; omega
       case rel => exact ⟨(wrap64 (x8_1 + 1)), (by first | rfl | (simp; done) | (simp [*]; done)), H', ⟨by have := HK1.out; omega⟩, ⟨zh BK398.out⟩, ⟨zb HB.out⟩⟩
     ·rw [if_neg c6] at H
      exact absurd H (by simp)
    ·rw [if_neg c5] at H
     exact absurd H (by simp)
   ·rw [if_neg c4] at H
    have c4b0 : decide (x8_1 < (l0.length : Int)) = false := decide_eq_false c4
    clear c4
    obtain rfl := Option.some.inj H
    go_wp2
    repeat (go_quiet (fail); try go_wp2)
    go_ret
    exact ⟨ze, zb HB.out⟩

/-! ### impl_Pool_find: function 92 -/
def impl_Pool_find.f (k : Nat) (l0_0 : List (S67)) (a1_0 : Int) (a1_1 : Int) (a1_2 : Int) : Option (Int) := (impl_Node_98.f k l0_0 a1_0 a1_1 a1_2).bind fun t401 => (some t401)
theorem impl_Pool_find.mono : ∀ a0 a1 a2 a3 k, LeO (impl_Pool_find.f k a0 a1 a2 a3) (impl_Pool_find.f (k + 1) a0 a1 a2 a3) := by
 intro a0 a1 a2 a3 k
 unfold impl_Pool_find.f
 repeat' first
   | (with_reducible exact impl_Node_98.mono _ _ _ _ _)
   | (with_reducible exact LeO.refl _)
   | (with_reducible exact LeO.none _)
   | (with_reducible refine LeO.ite ?_ ?_)
   | (with_reducible refine LeO.bind ?_ (fun _ => ?_))
   | exact impl_Node_98.mono _ _ _ _ _
   | exact LeO.none _
   | refine LeO.ite ?_ ?_
   | refine LeO.bind ?_ (fun _ => ?_)
set_option maxHeartbeats 8000000 in
set_option maxRecDepth 100000 in
theorem impl_Pool_find.calls (k : Nat) (g0_ : Nat) (A0_0 : Option Addr) (c0_0 : Nat) (l0_0 : List (S67)) (a1_0 : Int) (a1_1 : Int) (a1_2 : Int) (r : Int) (w : World) (hk0_ : w.heap[g0_]? = some (.cells #[.slice A0_0 l0_0.length c0_0] 31 (0, 0))) (hr0_0 : Kd.C k67 w A0_0 l0_0.length l0_0) (hc0_0 : l0_0.length ≤ c0_0) (h : impl_Pool_find.f k l0_0 a1_0 a1_1 a1_2 = some r) :
  Calls Try.prog 92 #[.pointer (some ⟨g0_, 0, none⟩), .agg #[.int .i64 a1_0, .int .i64 a1_1, .int .i64 a1_2]] w fun e w' => e = .returned (.int .i64 r) ∧ Below w.heap.size w w' := by
 have hu67 := Try.underlying67
 have HR0_0 := Aside0.mk hr0_0
 have HC0_0 := Aside0.mk hc0_0
 clear hr0_0 hc0_0
 have BK0 := Aside0.mk hk0_
 clear hk0_
 have HB := Aside0.mk (Below.refl w.heap.size w)
 have H : ((impl_Node_98.f k l0_0 a1_0 a1_1 a1_2).bind fun t401 => (some t401)) = some r := h
 clear h
 replace H := Option.bind_eq_some_iff.mp H
 obtain ⟨t401, A30, H⟩ := H
 replace H : (some t401) = some r := H
 have A3 := Aside0.mk A30
 clear A30
 obtain rfl := Option.some.inj H
 go_enter Try.func92, Try.ntmps92
 try go_wp2_with (first | ((with_reducible refine gate_dst (N := 3) rfl ?_); refine box_event ?hg (N := 3) ?hd (cs := #[.int .i64 a1_0, .int .i64 a1_1, .int .i64 a1_2]) (t := 67) ?hr ?_; (case hd => rfl); (case hg => rfl); (case hr => first | (go_simp; done) | (go_simp; rfl)); intro gb400 hg w4 hbox hb; have n0_ := Aside0.mk (blk_below (zh BK0.out) hb); have n1_ := Aside0.mk (below_step (zb HB.out) hb); have n2_ := Aside0.mk (hbox); have n3_ := Aside0.mk ((by rw [hg]; exact (below_size (zb HB.out)) : w.heap.size ≤ gb400)); have n4_ := Aside0.mk ((by rw [hg]; exact (below_size (zb HB.out)) : w.heap.size ≤ gb400)); have n5_ := Aside0.mk ((by rw [hg]; exact Nat.ne_of_lt (blk_lt (zh BK0.out)) : g0_ ≠ gb400)); have n6_ := Aside0.mk ((by rw [hg]; exact Nat.ne_of_gt (blk_lt (zh BK0.out)) : gb400 ≠ g0_)); clear BK0; clear HB; have BK0 := n0_; have HB := n1_; have BK400 := n2_; have GW400 := n3_; have GE400 := n4_; have NB0_400 := n5_; have NB400_0 := n6_; clear n0_ n1_ n2_ n3_ n4_ n5_ n6_; clear hb hbox hg))
 have n0_ := Aside0.mk (blk_drew BK0.out)
 have n1_ := Aside0.mk (blk_drew BK400.out)
 have n2_ := Aside0.mk (below_drew1 HB.out)
 clear BK0
 clear BK400
 clear HB
 have BK0 := n0_
 have BK400 := n1_
 have HB := n2_
 clear n0_ n1_ n2_
 refine start_ (n := 7) (S := fun w' => w'.cell? ⟨g0_, 0, none⟩ = some (.slice A0_0 l0_0.length c0_0) ∧ w'.cell? ⟨gb400, 0, none⟩ = some (.int .i64 a1_0) ∧ w'.cell? ⟨gb400, 1, none⟩ = some (.int .i64 a1_1) ∧ w'.cell? ⟨gb400, 2, none⟩ = some (.int .i64 a1_2)) (ds := []) #[false, false, false, false, false, false, false] (by kernel_rfl) rfl rfl ⟨(blk_cell BK0.out 0).trans rfl, (blk_cell BK400.out 0).trans rfl, (blk_cell BK400.out 1).trans rfl, (blk_cell BK400.out 2).trans rfl⟩ (fun hHeld => ?_)
 generalize w4.drew = w5 at BK0 BK400 HB hHeld ⊢
 refine pure_ (i := 0) (N := some 5) (v := ?_) (a' := ?_) #[true, false, false, false, false, false, false] rfl rfl (by kernel_rfl) (fun _ _ _ h => h) (Or.inl ⟨by rfl, ?_⟩) ?_ ?_
 rotate_left
 ·intro w'
  go_simp
  with_reducible rfl
 rotate_left
 ·simp only [Act.put, List.setIfInBounds_toArray, List.set_cons_zero, List.set_cons_succ, i64_w, i32_w]
  rfl
 refine pure_ (i := 1) (N := some 6) (v := ?_) (a' := ?_) #[true, true, false, false, false, false, false] rfl rfl (by kernel_rfl) (fun _ _ _ h => h) (Or.inl ⟨by rfl, ?_⟩) ?_ ?_
 rotate_left
 ·intro w'
  go_simp
  with_reducible rfl
 rotate_left
 ·simp only [Act.put, List.setIfInBounds_toArray, List.set_cons_zero, List.set_cons_succ, i64_w, i32_w]
  rfl
 refine pure_ (i := 2) (N := some 7) (v := ?_) (a' := ?_) #[true, true, true, false, false, false, false] rfl rfl (by kernel_rfl) (fun _ _ _ h => h) (Or.inl ⟨by rfl, ?_⟩) ?_ ?_
 rotate_left
 ·intro w'
  go_simp
  with_reducible rfl
 rotate_left
 ·simp only [Act.put, List.setIfInBounds_toArray, List.set_cons_zero, List.set_cons_succ, i64_w, i32_w]
  rfl
 refine take_ (i := 3) (N := some 8) (v := ?_) (a' := ?_) #[true, true, true, true, false, false, false] rfl rfl (by kernel_rfl) (fun _ _ _ h => h) (Or.inl ⟨by rfl, ?_⟩) hHeld ?_ ?_
 rotate_left
 ·rintro w' ⟨s0, s1, s2, s3⟩
  go_simp
  with_reducible rfl
 rotate_left
 ·simp only [Act.put, List.setIfInBounds_toArray, List.set_cons_zero, List.set_cons_succ, i64_w, i32_w]
  rfl
 refine take_ (i := 4) (N := some 9) (v := ?_) (a' := ?_) #[true, true, true, true, true, false, false] rfl rfl (by kernel_rfl) (fun _ _ _ h => h) (Or.inl ⟨by rfl, ?_⟩) hHeld ?_ ?_
 rotate_left
 ·rintro w' ⟨s0, s1, s2, s3⟩
  go_simp
  with_reducible rfl
 rotate_left
 ·simp only [Act.put, List.setIfInBounds_toArray, List.set_cons_zero, List.set_cons_succ, i64_w, i32_w]
  rfl
 refine one_ (i := 5) (N := some 10) #[true, true, true, true, true, true, false] rfl rfl (by kernel_rfl) (by decide) (fun K hK => ?_)
 refine goes_ Try.func98 (by kernel_rfl) rfl #[.slice A0_0 l0_0.length c0_0, .agg #[.int .i64 a1_0, .int .i64 a1_1, .int .i64 a1_2]] (by rfl) rfl rfl zl ?_
 with_reducible refine (impl_Node_98.calls k _ _ l0_0 a1_0 a1_1 a1_2 t401 _ ?side1 ?side2 A3.out).mono ?_
 (case side1 => exact zc (Kd.C_below HR0_0.out HB.out))
 (case side2 => exact HC0_0.out)
 rintro e w6 ⟨rfl, hb⟩
 refine ⟨_, rfl, ?_⟩
 have n0_ := Aside0.mk (blk_below (zh BK0.out) hb)
 have n1_ := Aside0.mk (blk_below (zh BK400.out) hb)
 have n2_ := Aside0.mk (below_step (zb HB.out) hb)
 clear BK0
 clear BK400
 clear HB
 have BK0 := n0_
 have BK400 := n1_
 have HB := n2_
 clear n0_ n1_ n2_
 (try clear hb)
 (try clear hb2)
 (try clear hk)
 (try clear hi)
 refine hK.out _ _ ⟨(blk_cell BK0.out 0).trans rfl, (blk_cell BK400.out 0).trans rfl, (blk_cell BK400.out 1).trans rfl, (blk_cell BK400.out 2).trans rfl⟩ (fun hHeld => ?_)
 clear hK K
 refine norm_ (a' := ?_) ?_ ?_
 rotate_left
 ·show Act.put _ (some 10) _ = _
  simp only [Act.put, List.setIfInBounds_toArray, List.set_cons_zero, List.set_cons_succ, i64_w, i32_w]
  rfl
 refine pure_ (i := 6) (N := some 4) (v := ?_) (a' := ?_) #[true, true, true, true, true, true, true] rfl rfl (by kernel_rfl) (fun _ _ _ h => h) (Or.inl ⟨by rfl, ?_⟩) ?_ ?_
 rotate_left
 ·intro w'
  go_simp
  with_reducible rfl
 rotate_left
 ·simp only [Act.put, List.setIfInBounds_toArray, List.set_cons_zero, List.set_cons_succ, i64_w, i32_w]
  rfl
 refine done_ (by kernel_rfl) ?_
 try go_wp2
 go_ret
 exact ⟨ze, zb HB.out⟩

/-! ### impl_Pool_isMade: function 90 -/
def impl_Pool_isMade.f (k : Nat) (l0_0 : List (S67)) (a1_0 : Int) (a1_1 : Int) (a1_2 : Int) (l2 : List Bool) : Option (Bool) := (impl_Pool_find.f k l0_0 a1_0 a1_1 a1_2).bind fun t403 => (if t403 ≥ 0 then (if 0 ≤ t403 then (if t403 < (l2.length : Int) then (some (rdOf false l2 t403)) else (none)) else (none)) else (some false))
theorem impl_Pool_isMade.mono : ∀ a0 a1 a2 a3 a4 k, LeO (impl_Pool_isMade.f k a0 a1 a2 a3 a4) (impl_Pool_isMade.f (k + 1) a0 a1 a2 a3 a4) := by
 intro a0 a1 a2 a3 a4 k
 unfold impl_Pool_isMade.f
 repeat' first
   | (with_reducible exact impl_Pool_find.mono _ _ _ _ _)
   | (with_reducible exact LeO.refl _)
   | (with_reducible exact LeO.none _)
   | (with_reducible refine LeO.ite ?_ ?_)
   | (with_reducible refine LeO.bind ?_ (fun _ => ?_))
   | exact impl_Pool_find.mono _ _ _ _ _
   | exact LeO.none _
   | refine LeO.ite ?_ ?_
   | refine LeO.bind ?_ (fun _ => ?_)
set_option maxHeartbeats 8000000 in
set_option maxRecDepth 100000 in
theorem impl_Pool_isMade.calls (k : Nat) (g0_ : Nat) (A0_0 : Option Addr) (c0_0 : Nat) (l0_0 : List (S67)) (a1_0 : Int) (a1_1 : Int) (a1_2 : Int) (A2 : Option Addr) (c2 : Nat) (l2 : List Bool) (r : Bool) (w : World) (hk0_ : w.heap[g0_]? = some (.cells #[.slice A0_0 l0_0.length c0_0] 31 (0, 0))) (hr0_0 : Kd.C k67 w A0_0 l0_0.length l0_0) (hc0_0 : l0_0.length ≤ c0_0) (hr2 : Kd.C Kd.bool w A2 l2.length l2) (hc2 : l2.length ≤ c2) (h : impl_Pool_isMade.f k l0_0 a1_0 a1_1 a1_2 l2 = some r) :
  Calls Try.prog 90 #[.pointer (some ⟨g0_, 0, none⟩), .agg #[.int .i64 a1_0, .int .i64 a1_1, .int .i64 a1_2], .slice A2 l2.length c2] w fun e w' => e = .returned (.bool r) ∧ Below w.heap.size w w' := by
 have hu67 := Try.underlying67
 have HR0_0 := Aside0.mk hr0_0
 have HC0_0 := Aside0.mk hc0_0
 clear hr0_0 hc0_0
 have HR2 := Aside0.mk hr2
 have HC2 := Aside0.mk hc2
 clear hr2 hc2
 have BK0 := Aside0.mk hk0_
 clear hk0_
 have HB := Aside0.mk (Below.refl w.heap.size w)
 have H : ((impl_Pool_find.f k l0_0 a1_0 a1_1 a1_2).bind fun t403 => (if t403 ≥ 0 then (if 0 ≤ t403 then (if t403 < (l2.length : Int) then (some (rdOf false l2 t403)) else (none)) else (none)) else (some false))) = some r := h
 clear h
 replace H := Option.bind_eq_some_iff.mp H
 obtain ⟨t403, A40, H⟩ := H
 replace H : (if t403 ≥ 0 then (if 0 ≤ t403 then (if t403 < (l2.length : Int) then (some (rdOf false l2 t403)) else (none)) else (none)) else (some false)) = some r := H
 have A4 := Aside0.mk A40
 clear A40
 by_cases c5 : t403 ≥ 0
 ·rw [if_pos c5] at H
  have c5b0 : decide (0 ≤ t403) = true := decide_eq_true c5
  clear c5
  by_cases c6 : 0 ≤ t403
  ·rw [if_pos c6] at H
   have c6b0 : decide (0 ≤ t403) = true := decide_eq_true c6
   clear c6
   by_cases c7 : t403 < (l2.length : Int)
   ·rw [if_pos c7] at H
    have c7b0 : decide (t403 < (l2.length : Int)) = true := decide_eq_true c7
    clear c7
    obtain rfl := Option.some.inj H
    go_enter Try.func90, Try.ntmps90
    go_wp2_with (first | ((with_reducible refine gate_dst (N := 4) rfl ?_); refine box_event ?hg (N := 4) ?hd (cs := #[.int .i64 a1_0, .int .i64 a1_1, .int .i64 a1_2]) (t := 67) ?hr ?_; (case hd => rfl); (case hg => rfl); (case hr => first | (go_simp; done) | (go_simp; rfl)); intro gb402 hg w8 hbox hb; have n0_ := Aside0.mk (blk_below (zh BK0.out) hb); have n1_ := Aside0.mk (below_step (zb HB.out) hb); have n2_ := Aside0.mk (hbox); have n3_ := Aside0.mk ((by rw [hg]; exact (below_size (zb HB.out)) : w.heap.size ≤ gb402)); have n4_ := Aside0.mk ((by rw [hg]; exact (below_size (zb HB.out)) : w.heap.size ≤ gb402)); have n5_ := Aside0.mk ((by rw [hg]; exact Nat.ne_of_lt (blk_lt (zh BK0.out)) : g0_ ≠ gb402)); have n6_ := Aside0.mk ((by rw [hg]; exact Nat.ne_of_gt (blk_lt (zh BK0.out)) : gb402 ≠ g0_)); clear BK0; clear HB; have BK0 := n0_; have HB := n1_; have BK402 := n2_; have GW402 := n3_; have GE402 := n4_; have NB0_402 := n5_; have NB402_0 := n6_; clear n0_ n1_ n2_ n3_ n4_ n5_ n6_; clear hb hbox hg; have hnb9 := NB402_0.out; have hnc9 := NB0_402.out; have hcz10_0 : w8.cell? ⟨gb402, 0, none⟩ = some (.int .i64 a1_0) := (blk_cell BK402.out 0).trans rfl; have hcz10_1 : w8.cell? ⟨gb402, 1, none⟩ = some (.int .i64 a1_1) := (blk_cell BK402.out 1).trans rfl; have hcz10_2 : w8.cell? ⟨gb402, 2, none⟩ = some (.int .i64 a1_2) := (blk_cell BK402.out 2).trans rfl; have hfz10_0 := blk_frozen BK402.out 0; have hfz10_1 := blk_frozen BK402.out 1; have hfz10_2 := blk_frozen BK402.out 2) | ((with_reducible refine gate_callee (f := 92) rfl ?_); refine goesL_ (some 10) rfl rfl Try.func92 (by kernel_rfl) rfl #[.pointer (some ⟨g0_, 0, none⟩), .agg #[.int .i64 a1_0, .int .i64 a1_1, .int .i64 a1_2]] rfl zl ?_; (with_reducible refine (impl_Pool_find.calls k _ A0_0 c0_0 l0_0 a1_0 a1_1 a1_2 t403 _ ?side1 ?side2 ?side3 A4.out).mono ?_); (case side1 => exact zh BK0.out); (case side2 => exact zc (Kd.C_below HR0_0.out HB.out)); (case side3 => exact HC0_0.out); rintro e w11 ⟨rfl, hb⟩; refine ⟨_, rfl, ?_⟩; have n0_ := Aside0.mk (blk_below (zh BK0.out) hb); have n1_ := Aside0.mk (blk_below (zh BK402.out) hb); have n2_ := Aside0.mk (below_step (zb HB.out) hb); clear BK0; clear BK402; clear HB; have BK0 := n0_; have BK402 := n1_; have HB := n2_; clear n0_ n1_ n2_; (try clear hb); (try clear hb2); (try clear hk); (try clear hi); have p404 : 0 ≤ (t403 : Int) := of_decide_eq_true (by first | (with_reducible assumption) | assumption); have q404 : t403 < (l2.length : Int) := of_decide_eq_true (by first | (with_reducible assumption) | assumption); obtain ⟨ad404, e404, hx404_0⟩ := Kd.at_bool HR2.out t403 p404 q404; cases e404; replace hx404_0 := (HB.out.cell (World.block_lt_of_cell? w _ hx404_0)).trans hx404_0; replace p404 := eq_true p404; replace q404 := eq_true q404))
    go_ret
    exact ⟨ze, zb HB.out⟩
   ·rw [if_neg c7] at H
    exact absurd H (by simp)
  ·rw [if_neg c6] at H
   exact absurd H (by simp)
 ·rw [if_neg c5] at H
  have c5b0 : decide (0 ≤ t403) = false := decide_eq_false c5
  clear c5
  obtain rfl := Option.some.inj H
  go_enter Try.func90, Try.ntmps90
  go_wp2_with (first | ((with_reducible refine gate_dst (N := 4) rfl ?_); refine box_event ?hg (N := 4) ?hd (cs := #[.int .i64 a1_0, .int .i64 a1_1, .int .i64 a1_2]) (t := 67) ?hr ?_; (case hd => rfl); (case hg => rfl); (case hr => first | (go_simp; done) | (go_simp; rfl)); intro gb402 hg w12 hbox hb; have n0_ := Aside0.mk (blk_below (zh BK0.out) hb); have n1_ := Aside0.mk (below_step (zb HB.out) hb); have n2_ := Aside0.mk (hbox); have n3_ := Aside0.mk ((by rw [hg]; exact (below_size (zb HB.out)) : w.heap.size ≤ gb402)); have n4_ := Aside0.mk ((by rw [hg]; exact (below_size (zb HB.out)) : w.heap.size ≤ gb402)); have n5_ := Aside0.mk ((by rw [hg]; exact Nat.ne_of_lt (blk_lt (zh BK0.out)) : g0_ ≠ gb402)); have n6_ := Aside0.mk ((by rw [hg]; exact Nat.ne_of_gt (blk_lt (zh BK0.out)) : gb402 ≠ g0_)); clear BK0; clear HB; have BK0 := n0_; have HB := n1_; have BK402 := n2_; have GW402 := n3_; have GE402 := n4_; have NB0_402 := n5_; have NB402_0 := n6_; clear n0_ n1_ n2_ n3_ n4_ n5_ n6_; clear hb hbox hg; have hnb13 := NB402_0.out; have hnc13 := NB0_402.out; have hcz14_0 : w12.cell? ⟨gb402, 0, none⟩ = some (.int .i64 a1_0) := (blk_cell BK402.out 0).trans rfl; have hcz14_1 : w12.cell? ⟨gb402, 1, none⟩ = some (.int .i64 a1_1) := (blk_cell BK402.out 1).trans rfl; have hcz14_2 : w12.cell? ⟨gb402, 2, none⟩ = some (.int .i64 a1_2) := (blk_cell BK402.out 2).trans rfl; have hfz14_0 := blk_frozen BK402.out 0; have hfz14_1 := blk_frozen BK402.out 1; have hfz14_2 := blk_frozen BK402.out 2) | ((with_reducible refine gate_callee (f := 92) rfl ?_); refine goesL_ (some 10) rfl rfl Try.func92 (by kernel_rfl) rfl #[.pointer (some ⟨g0_, 0, none⟩), .agg #[.int .i64 a1_0, .int .i64 a1_1, .int .i64 a1_2]] rfl zl ?_; (with_reducible refine (impl_Pool_find.calls k _ A0_0 c0_0 l0_0 a1_0 a1_1 a1_2 t403 _ ?side1 ?side2 ?side3 A4.out).mono ?_); (case side1 => exact zh BK0.out); (case side2 => exact zc (Kd.C_below HR0_0.out HB.out)); (case side3 => exact HC0_0.out); rintro e w15 ⟨rfl, hb⟩; refine ⟨_, rfl, ?_⟩; have n0_ := Aside0.mk (blk_below (zh BK0.out) hb); have n1_ := Aside0.mk (blk_below (zh BK402.out) hb); have n2_ := Aside0.mk (below_step (zb HB.out) hb); clear BK0; clear BK402; clear HB; have BK0 := n0_; have BK402 := n1_; have HB := n2_; clear n0_ n1_ n2_; (try clear hb); (try clear hb2); (try clear hk); (try clear hi)))
  go_ret
  exact ⟨ze, zb HB.out⟩

end Go.Proofs.Ytilnfdnigjblcaa.H
end
