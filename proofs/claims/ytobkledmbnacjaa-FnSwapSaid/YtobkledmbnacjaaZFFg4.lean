import Derived.Test.YtobkledmbnacjaaZFF0
import Derived.Test.YtobkledmbnacjaaZFFg0
import Derived.Test.YtobkledmbnacjaaZFFg3
import Derived.Test.YtobkledmbnacjaaZFFg2
section
-- Written by this session's program (wip/tools/gprint.py over the kit's print) out of the translation; Lean checks it.
namespace Go.Proofs.Ytobkledmbnacjaa.F
open Go.RowKit Go.Proofs.YtobkledmbnacjaaW.PrintWords Go.Proofs.YtobkledmbnacjaaW.PrintLast Go.Proofs.YtobkledmbnacjaaW.PrintMore
attribute [local go_sem] max2_int min2_int max_two min_two max_three min_three max_four min_four   -- for this text's walks alone
set_option linter.unusedVariables false
set_option linter.unusedSimpArgs false
set_option maxRecDepth 100000

/-! ### spec_l1DrawTerm: function 43 -/
def spec_l1DrawTerm.f (k : Nat) (s0_0 : List Int) (s0_1 : Int) (s0_2 : Int) (l1_0 : List (S55)) : Option (Int × Int × Int) := (spec_l1Once.f s0_0 s0_1 s0_2 25).bind fun bt240 => (if bt240.1 = true then ((spec_l1PickInt.f s0_0 bt240.2.1 bt240.2.2 (([(-1), (l1_0.length : Int)] : List Int))).bind fun bt246 => (some (bt246.1, bt246.2.1, bt246.2.2))) else ((spec_l1Max.f (l1_0.length : Int) 1).bind fun t249 => ((spec_l1Draw.f k s0_0 bt240.2.1 bt240.2.2 t249).bind fun bt250 => (some (bt250.1, bt250.2.1, bt250.2.2)))))
theorem spec_l1DrawTerm.mono : ∀ a0 a1 a2 a3 k, LeO (spec_l1DrawTerm.f k a0 a1 a2 a3) (spec_l1DrawTerm.f (k + 1) a0 a1 a2 a3) := by
 intro a0 a1 a2 a3 k
 unfold spec_l1DrawTerm.f
 repeat' first
   | (with_reducible exact spec_l1Draw.mono _ _ _ _ _)
   | (with_reducible exact LeO.refl _)
   | (with_reducible exact LeO.none _)
   | (with_reducible refine LeO.ite ?_ ?_)
   | (with_reducible refine LeO.bind ?_ (fun _ => ?_))
   | exact spec_l1Draw.mono _ _ _ _ _
   | exact LeO.none _
   | refine LeO.ite ?_ ?_
   | refine LeO.bind ?_ (fun _ => ?_)
set_option maxHeartbeats 8000000 in
set_option maxRecDepth 100000 in
theorem spec_l1DrawTerm.calls (k : Nat) (g : Nat) (s0_0 : List Int) (s0_1 : Int) (s0_2 : Int) (A1_0 : Option Addr) (c1_0 : Nat) (l1_0 : List (S55)) (r1 : Int) (r2 : Int) (r3 : Int) (w0 w : World) (hI : IsS86 w0 w g s0_0 s0_1 s0_2) (hB : Below w0.heap.size w0 w) (hr1_0 : ∀ W_, KeepBut w W_ g none → Kd.C k55 W_ A1_0 l1_0.length l1_0) (hc1_0 : l1_0.length ≤ c1_0) (h : spec_l1DrawTerm.f k s0_0 s0_1 s0_2 l1_0 = some (r1, r2, r3)) :
  Calls Try.prog 43 #[.pointer (some ⟨g, 0, none⟩), .agg #[.slice A1_0 l1_0.length c1_0]] w fun e w' => e = .returned (.int .i64 r1) ∧ IsS86 w0 w' g s0_0 r2 r3 ∧ Below w0.heap.size w0 w' ∧ KeepBut w w' g none := by
 have hu28 := Try.underlying28
 have HR1_0 := Aside0.mk hr1_0
 have HC1_0 := Aside0.mk hc1_0
 clear hr1_0 hc1_0
 have HI0 := Aside0.mk hI
 have HK := Aside0.mk (KeepBut.refl w g none)
 have HL := Aside0.mk hB.size
 clear hI
 have HW0 := Aside0.mk hB.size
 have HB := Aside0.mk hB
 clear hB
 have H : ((spec_l1Once.f s0_0 s0_1 s0_2 25).bind fun bt240 => (if bt240.1 = true then ((spec_l1PickInt.f s0_0 bt240.2.1 bt240.2.2 (([(-1), (l1_0.length : Int)] : List Int))).bind fun bt246 => (some (bt246.1, bt246.2.1, bt246.2.2))) else ((spec_l1Max.f (l1_0.length : Int) 1).bind fun t249 => ((spec_l1Draw.f k s0_0 bt240.2.1 bt240.2.2 t249).bind fun bt250 => (some (bt250.1, bt250.2.1, bt250.2.2)))))) = some (r1, r2, r3) := h
 clear h
 replace H := Option.bind_eq_some_iff.mp H
 obtain ⟨⟨t240, t241, t242⟩, A30, H⟩ := H
 replace H : (if t240 = true then ((spec_l1PickInt.f s0_0 t241 t242 (([(-1), (l1_0.length : Int)] : List Int))).bind fun bt246 => (some (bt246.1, bt246.2.1, bt246.2.2))) else ((spec_l1Max.f (l1_0.length : Int) 1).bind fun t249 => ((spec_l1Draw.f k s0_0 t241 t242 t249).bind fun bt250 => (some (bt250.1, bt250.2.1, bt250.2.2))))) = some (r1, r2, r3) := H
 have A3 := Aside0.mk A30
 clear A30
 by_cases c4 : t240 = true
 ·subst c4
  have H1 : ((spec_l1PickInt.f s0_0 t241 t242 (([(-1), (l1_0.length : Int)] : List Int))).bind fun bt246 => (some (bt246.1, bt246.2.1, bt246.2.2))) = some (r1, r2, r3) := by rw [if_pos rfl] at H; exact H
  clear H
  have H := H1
  clear H1
  obtain ⟨y243, hy243⟩ : ∃ y_ : List Int, y_ = (([(-1), (l1_0.length : Int)] : List Int)) := ⟨_, rfl⟩
  replace H : ((spec_l1PickInt.f s0_0 t241 t242 y243).bind fun bt246 => (some (bt246.1, bt246.2.1, bt246.2.2))) = some (r1, r2, r3) := by first | (rw [hy243]; with_reducible exact H) | (have H2_ := (Option.bind_some _ _).symm.trans H; rw [hy243]; with_reducible exact H2_) | (have H2_ := (Option.bind_some _ _).symm.trans H; with_reducible exact H2_) | with_reducible exact H | (rw [hy243]; exact H) | exact H
  have Ny243 := Aside0.mk hy243
  clear hy243
  replace H := Option.bind_eq_some_iff.mp H
  obtain ⟨⟨t246, t247, t248⟩, A50, H⟩ := H
  replace H : (some (t246, t247, t248)) = some (r1, r2, r3) := H
  have A5 := Aside0.mk A50
  clear A50
  simp only [Option.some.injEq, Prod.mk.injEq] at H
  obtain ⟨rfl, rfl, rfl⟩ := H
  go_enter Try.func43, Try.ntmps43
  go_wp2_with (first | ((with_reducible refine gate_dst (N := 3) rfl ?_); refine box_event ?hg (N := 3) ?hd (cs := #[.slice A1_0 l1_0.length c1_0]) (t := 28) ?hr ?_; (case hd => rfl); (case hg => rfl); (case hr => first | (go_simp; done) | (go_simp; rfl)); intro gb239 hg w6 hbox hb; have n0_ := Aside0.mk (IsS86.below (zi86 HI0.out) hb); have n1_ := Aside0.mk (KeepBut.trans (zq HK.out) (KeepBut.of_below hb g none) (.inl rfl)); have n2_ := Aside0.mk (below_step (zj HB.out (IsS86.ge HI0.out)) hb); have n3_ := Aside0.mk (hbox); have n4_ := Aside0.mk ((by rw [hg]; exact (keep_size (w := w) (g := g) (row := none) (zq HK.out)) : w.heap.size ≤ gb239)); have n5_ := Aside0.mk ((Nat.le_trans HW0.out (by rw [hg]; exact (keep_size (w := w) (g := g) (row := none) (zq HK.out)) : w.heap.size ≤ gb239) : w0.heap.size ≤ gb239)); have n6_ := Aside0.mk ((by rw [hg]; exact Nat.ne_of_lt (IsS86.lt (show IsS86 w0 _ g s0_0 s0_1 s0_2 from zi86 HI0.out)) : g ≠ gb239)); have n7_ := Aside0.mk ((by rw [hg]; exact Nat.ne_of_gt (IsS86.lt (show IsS86 w0 _ g s0_0 s0_1 s0_2 from zi86 HI0.out)) : gb239 ≠ g)); clear HI0; clear HK; clear HB; have HI0 := n0_; have HK := n1_; have HB := n2_; have BK239 := n3_; have GW239 := n4_; have GE239 := n5_; have NB0_239 := n6_; have NB239_0 := n7_; clear n0_ n1_ n2_ n3_ n4_ n5_ n6_ n7_; clear hb hbox hg) | ((with_reducible refine gate_callee (f := 44) rfl ?_); refine goesL_ (some 6) rfl rfl Try.func44 (by kernel_rfl) rfl #[.pointer (some ⟨g, 0, none⟩), .int .i64 25] rfl zl ?_; (with_reducible refine (spec_l1Once.calls g s0_0 s0_1 s0_2 25 true t241 t242 w0 _ ?side1 ?side2 A3.out).mono ?_); (case side1 => exact zi86 HI0.out); (case side2 => exact zj HB.out (IsS86.ge HI0.out)); rintro e w7 ⟨rfl, hi, hb, hk⟩; refine ⟨_, rfl, ?_⟩; have n0_ := Aside0.mk (KeepBut.blk hk (g' := gb239) (o := .cells #[.slice A1_0 l1_0.length c1_0] 28 (0, 0)) (zh BK239.out) NB239_0.out (by simp)); have n1_ := Aside0.mk (KeepBut.trans (zq HK.out) hk (.inl rfl)); have n2_ := Aside0.mk (hb); have n3_ := Aside0.mk (hi); clear BK239; clear HK; clear HB; clear HI0; have BK239 := n0_; have HK := n1_; have HB := n2_; have HI0 := n3_; clear n0_ n1_ n2_ n3_; (try clear hb); (try clear hb2); (try clear hk); (try clear hi); have hnb8 := NB239_0.out; have hnc8 := NB0_239.out; have hcz9_0 : w7.cell? ⟨gb239, 0, none⟩ = some (.slice A1_0 l1_0.length c1_0) := (blk_cell BK239.out 0).trans rfl; have hfz9_0 := blk_frozen BK239.out 0) | ((with_reducible refine gate_dst (N := 11) rfl ?_); refine Kd.R_lit (Kd.int .i64) _ 3 ?hg (N := 11) ?hd (xs := ([(-1), (l1_0.length : Int)] : List Int)) (inner := [.int .i64 (-1), .int .i64 (l1_0.length : Int)]) (ok := fun _ => True) (okp := fun _ => True) ?hr ?hp (fun _ hk => hk) trivial (Below.refl _ _) (Nat.le_refl _) (by simp) ?_; (case hd => rfl); (case hg => rfl); (case hr => first | (go_simp; done) | (go_simp; rfl)); (case hp => exact (Reps.one (show Kd.M (Kd.int .i64) _ _ _ (-1) [.int .i64 (-1)] from rfl) (Reps.one (show Kd.M (Kd.int .i64) _ _ _ (l1_0.length : Int) [.int .i64 (l1_0.length : Int)] from rfl) (Reps.none _ _)))); intro v244 w10 ho11 hb hg_ hnew_; clear hg_ hnew_; (first | rw [← Ny243.out] at ho11 | (simp only [Int.reduceToNat] at ho11; rw [← Ny243.out] at ho11)); have n0_ := Aside0.mk (Kd.R_lower ho11 (keep_size (w := w) (g := g) (row := none) (zq HK.out))); have n1_ := Aside0.mk (IsS86.below (zi86 HI0.out) hb); have n2_ := Aside0.mk (blk_below (zh BK239.out) hb); have n3_ := Aside0.mk (KeepBut.trans (zq HK.out) (KeepBut.of_below hb g none) (.inl rfl)); have n4_ := Aside0.mk (below_step (zj HB.out (IsS86.ge HI0.out)) hb); clear HI0; clear BK239; clear HK; clear HB; have HO245 := n0_; have HI0 := n1_; have BK239 := n2_; have HK := n3_; have HB := n4_; clear n0_ n1_ n2_ n3_ n4_; clear hb ho11; obtain ⟨Ao12, co12, eo12⟩ := Kd.R_slice HO245.out; subst eo12) | ((with_reducible refine gate_callee (f := 45) rfl ?_); refine goesL_ (some 12) rfl rfl Try.func45 (by kernel_rfl) rfl #[.pointer (some ⟨g, 0, none⟩), .slice Ao12 y243.length co12] rfl zl ?_; (with_reducible refine (spec_l1PickInt.calls g s0_0 t241 t242 _ _ y243 t246 t247 t248 w0 _ ?side1 ?side2 ?side3 ?side4 ?side5 A5.out).mono ?_); (case side1 => exact zi86 HI0.out); (case side2 => exact zj HB.out (IsS86.ge HI0.out)); (case side3 => exact zc (Kd.R_reads' HO245.out).2.2); (case side4 => exact (Kd.R_reads' HO245.out).2.1); (case side5 => exact far_slice (IsS86.own_ne HI0.out HO245.out (by decide))); rintro e w13 ⟨rfl, hi, hb, hk⟩; refine ⟨_, rfl, ?_⟩; have n0_ := Aside0.mk (KeepBut.blk hk (g' := gb239) (o := .cells #[.slice A1_0 l1_0.length c1_0] 28 (0, 0)) (zh BK239.out) NB239_0.out (by simp)); have n1_ := Aside0.mk (Kd.R_mono (Kd.R_keep (IsS86.apart (show IsS86 w0 _ g s0_0 t241 t242 from zi86 HI0.out) (zr HO245.out) (by decide)) hk (fun _ h => h.2)) (fun _ h => h.1)); have n2_ := Aside0.mk (KeepBut.trans (zq HK.out) hk (.inl rfl)); have n3_ := Aside0.mk (hb); have n4_ := Aside0.mk (hi); clear BK239; clear HO245; clear HK; clear HB; clear HI0; have BK239 := n0_; have HO245 := n1_; have HK := n2_; have HB := n3_; have HI0 := n4_; clear n0_ n1_ n2_ n3_ n4_; (try clear hb); (try clear hb2); (try clear hk); (try clear hi)))
  go_ret
  exact ⟨ze, zi86 HI0.out, zj HB.out (IsS86.ge HI0.out), zq HK.out⟩
 ·replace c4 := Bool.eq_false_iff.mpr c4
  subst c4
  have H1 : ((spec_l1Max.f (l1_0.length : Int) 1).bind fun t249 => ((spec_l1Draw.f k s0_0 t241 t242 t249).bind fun bt250 => (some (bt250.1, bt250.2.1, bt250.2.2)))) = some (r1, r2, r3) := by rw [if_neg (show ¬ (false = true) by decide)] at H; exact H
  clear H
  have H := H1
  clear H1
  replace H := Option.bind_eq_some_iff.mp H
  obtain ⟨t249, A140, H⟩ := H
  replace H : ((spec_l1Draw.f k s0_0 t241 t242 t249).bind fun bt250 => (some (bt250.1, bt250.2.1, bt250.2.2))) = some (r1, r2, r3) := H
  have A14 := Aside0.mk A140
  clear A140
  replace H := Option.bind_eq_some_iff.mp H
  obtain ⟨⟨t250, t251, t252⟩, A150, H⟩ := H
  replace H : (some (t250, t251, t252)) = some (r1, r2, r3) := H
  have A15 := Aside0.mk A150
  clear A150
  simp only [Option.some.injEq, Prod.mk.injEq] at H
  obtain ⟨rfl, rfl, rfl⟩ := H
  go_enter Try.func43, Try.ntmps43
  go_wp2_with (first | ((with_reducible refine gate_dst (N := 3) rfl ?_); refine box_event ?hg (N := 3) ?hd (cs := #[.slice A1_0 l1_0.length c1_0]) (t := 28) ?hr ?_; (case hd => rfl); (case hg => rfl); (case hr => first | (go_simp; done) | (go_simp; rfl)); intro gb239 hg w16 hbox hb; have n0_ := Aside0.mk (IsS86.below (zi86 HI0.out) hb); have n1_ := Aside0.mk (KeepBut.trans (zq HK.out) (KeepBut.of_below hb g none) (.inl rfl)); have n2_ := Aside0.mk (below_step (zj HB.out (IsS86.ge HI0.out)) hb); have n3_ := Aside0.mk (hbox); have n4_ := Aside0.mk ((by rw [hg]; exact (keep_size (w := w) (g := g) (row := none) (zq HK.out)) : w.heap.size ≤ gb239)); have n5_ := Aside0.mk ((Nat.le_trans HW0.out (by rw [hg]; exact (keep_size (w := w) (g := g) (row := none) (zq HK.out)) : w.heap.size ≤ gb239) : w0.heap.size ≤ gb239)); have n6_ := Aside0.mk ((by rw [hg]; exact Nat.ne_of_lt (IsS86.lt (show IsS86 w0 _ g s0_0 s0_1 s0_2 from zi86 HI0.out)) : g ≠ gb239)); have n7_ := Aside0.mk ((by rw [hg]; exact Nat.ne_of_gt (IsS86.lt (show IsS86 w0 _ g s0_0 s0_1 s0_2 from zi86 HI0.out)) : gb239 ≠ g)); clear HI0; clear HK; clear HB; have HI0 := n0_; have HK := n1_; have HB := n2_; have BK239 := n3_; have GW239 := n4_; have GE239 := n5_; have NB0_239 := n6_; have NB239_0 := n7_; clear n0_ n1_ n2_ n3_ n4_ n5_ n6_ n7_; clear hb hbox hg) | ((with_reducible refine gate_callee (f := 44) rfl ?_); refine goesL_ (some 6) rfl rfl Try.func44 (by kernel_rfl) rfl #[.pointer (some ⟨g, 0, none⟩), .int .i64 25] rfl zl ?_; (with_reducible refine (spec_l1Once.calls g s0_0 s0_1 s0_2 25 false t241 t242 w0 _ ?side1 ?side2 A3.out).mono ?_); (case side1 => exact zi86 HI0.out); (case side2 => exact zj HB.out (IsS86.ge HI0.out)); rintro e w17 ⟨rfl, hi, hb, hk⟩; refine ⟨_, rfl, ?_⟩; have n0_ := Aside0.mk (KeepBut.blk hk (g' := gb239) (o := .cells #[.slice A1_0 l1_0.length c1_0] 28 (0, 0)) (zh BK239.out) NB239_0.out (by simp)); have n1_ := Aside0.mk (KeepBut.trans (zq HK.out) hk (.inl rfl)); have n2_ := Aside0.mk (hb); have n3_ := Aside0.mk (hi); clear BK239; clear HK; clear HB; clear HI0; have BK239 := n0_; have HK := n1_; have HB := n2_; have HI0 := n3_; clear n0_ n1_ n2_ n3_; (try clear hb); (try clear hb2); (try clear hk); (try clear hi); have hnb18 := NB239_0.out; have hnc18 := NB0_239.out; have hcz19_0 : w17.cell? ⟨gb239, 0, none⟩ = some (.slice A1_0 l1_0.length c1_0) := (blk_cell BK239.out 0).trans rfl; have hfz19_0 := blk_frozen BK239.out 0) | ((with_reducible refine gate_callee (f := 67) rfl ?_); refine goesL_ (some 17) rfl rfl Try.func67 (by kernel_rfl) rfl #[.int .i64 (l1_0.length : Int), .int .i64 1] rfl zl ?_; (with_reducible refine (spec_l1Max.calls (l1_0.length : Int) 1 t249 _ A14.out).mono ?_); rintro e w' ⟨rfl, ⟨nd, rfl⟩⟩; refine ⟨_, rfl, ?_⟩) | ((with_reducible refine gate_callee (f := 66) rfl ?_); refine goesL_ (some 18) rfl rfl Try.func66 (by kernel_rfl) rfl #[.pointer (some ⟨g, 0, none⟩), .int .i64 t249] rfl zl ?_; (with_reducible refine (spec_l1Draw.calls k g s0_0 t241 t242 t249 t250 t251 t252 w0 _ ?side1 ?side2 A15.out).mono ?_); (case side1 => exact zi86 HI0.out); (case side2 => exact zj HB.out (IsS86.ge HI0.out)); rintro e w20 ⟨rfl, hi, hb, hk⟩; refine ⟨_, rfl, ?_⟩; have n0_ := Aside0.mk (KeepBut.blk hk (g' := gb239) (o := .cells #[.slice A1_0 l1_0.length c1_0] 28 (0, 0)) (zh BK239.out) NB239_0.out (by simp)); have n1_ := Aside0.mk (KeepBut.trans (zq HK.out) hk (.inl rfl)); have n2_ := Aside0.mk (hb); have n3_ := Aside0.mk (hi); clear BK239; clear HK; clear HB; clear HI0; have BK239 := n0_; have HK := n1_; have HB := n2_; have HI0 := n3_; clear n0_ n1_ n2_ n3_; (try clear hb); (try clear hb2); (try clear hk); (try clear hi)))
  go_ret
  exact ⟨ze, zi86 HI0.out, zj HB.out (IsS86.ge HI0.out), zq HK.out⟩

/-! ### spec_l1DrawNode: function 71 -/
def spec_l1DrawNode.j0 : Nat → Int → Bool → List Int → Int → Int → Option (Int × Int × Int × Int × Int)
 | 0, _, _, _, _, _ => none
 | k + 1, x1, x11, x1000, x1001, x1002 => if x11 = true then ((spec_l1PickInt.f x1000 x1001 x1002 (([0, 1, 5, 6, 50, 51, 62, 90, 91, 100, 101, 102, 199] : List Int))).bind fun bt260 => (some (1, bt260.1, 0, bt260.2.1, bt260.2.2))) else ((spec_l1Draw.f k x1000 x1001 x1002 7).bind fun bt263 => ((spec_l1Draw.f k x1000 bt263.2.1 bt263.2.2 x1).bind fun bt266 => ((spec_l1Parts.f k (wrap64 (2 + bt263.1))).bind fun t270 => (if t270 = 2 then ((spec_l1Draw.f k x1000 bt266.2.1 bt266.2.2 x1).bind fun bt271 => (some (wrap64 (2 + bt263.1), bt266.1, bt271.1, bt271.2.1, bt271.2.2))) else (some (wrap64 (2 + bt263.1), bt266.1, 0, bt266.2.1, bt266.2.2))))))
def spec_l1DrawNode.f (k : Nat) (s0_0 : List Int) (s0_1 : Int) (s0_2 : Int) (a1 : Int) : Option (Int × Int × Int × Int × Int) := if a1 = 0 then (spec_l1DrawNode.j0 k a1 true s0_0 s0_1 s0_2) else ((spec_l1Once.f s0_0 s0_1 s0_2 4).bind fun bt254 => (spec_l1DrawNode.j0 k a1 bt254.1 s0_0 bt254.2.1 bt254.2.2))
theorem spec_l1DrawNode.mono_l : ∀ k, (∀ y0 y1 y2 y3 y4, LeO (spec_l1DrawNode.j0 k y0 y1 y2 y3 y4) (spec_l1DrawNode.j0 (k + 1) y0 y1 y2 y3 y4))
 | 0 => fun _ _ _ _ _ r h => by simp [spec_l1DrawNode.j0] at h
 | k + 1 => by
  have ih0 := spec_l1DrawNode.mono_l k
  ·intro y0 y1 y2 y3 y4
   unfold spec_l1DrawNode.j0
   repeat' first
   | (with_reducible exact ih0 _ _ _ _ _)
   | (with_reducible exact spec_l1Draw.mono _ _ _ _ _)
   | (with_reducible exact spec_l1Parts.mono _ _)
   | (with_reducible exact LeO.refl _)
   | (with_reducible exact LeO.none _)
   | (with_reducible refine LeO.ite ?_ ?_)
   | (with_reducible refine LeO.bind ?_ (fun _ => ?_))
   | exact ih0 _ _ _ _ _
   | exact spec_l1Draw.mono _ _ _ _ _
   | exact spec_l1Parts.mono _ _
   | exact LeO.none _
   | refine LeO.ite ?_ ?_
   | refine LeO.bind ?_ (fun _ => ?_)
theorem spec_l1DrawNode.mono : ∀ a0 a1 a2 a3 k, LeO (spec_l1DrawNode.f k a0 a1 a2 a3) (spec_l1DrawNode.f (k + 1) a0 a1 a2 a3) := by
 intro a0 a1 a2 a3 k
 have ih0 := spec_l1DrawNode.mono_l k
 unfold spec_l1DrawNode.f
 repeat' first
   | (with_reducible exact ih0 _ _ _ _ _)
   | (with_reducible exact spec_l1Draw.mono _ _ _ _ _)
   | (with_reducible exact spec_l1Parts.mono _ _)
   | (with_reducible exact LeO.refl _)
   | (with_reducible exact LeO.none _)
   | (with_reducible refine LeO.ite ?_ ?_)
   | (with_reducible refine LeO.bind ?_ (fun _ => ?_))
   | exact ih0 _ _ _ _ _
   | exact spec_l1Draw.mono _ _ _ _ _
   | exact spec_l1Parts.mono _ _
   | exact LeO.none _
   | refine LeO.ite ?_ ?_
   | refine LeO.bind ?_ (fun _ => ?_)
set_option maxHeartbeats 8000000 in
set_option maxRecDepth 100000 in
theorem spec_l1DrawNode.calls (k : Nat) (g : Nat) (s0_0 : List Int) (s0_1 : Int) (s0_2 : Int) (a1 : Int) (r1 : Int) (r2 : Int) (r3 : Int) (r4 : Int) (r5 : Int) (w0 w : World) (hI : IsS86 w0 w g s0_0 s0_1 s0_2) (hB : Below w0.heap.size w0 w) (h : spec_l1DrawNode.f k s0_0 s0_1 s0_2 a1 = some (r1, r2, r3, r4, r5)) :
  Calls Try.prog 71 #[.pointer (some ⟨g, 0, none⟩), .int .i64 a1] w fun e w' => e = .returned (.agg #[.int .i64 r1, .int .i64 r2, .int .i64 r3]) ∧ IsS86 w0 w' g s0_0 r4 r5 ∧ Below w0.heap.size w0 w' ∧ KeepBut w w' g none := by
 have hu55 := Try.underlying55
 have HI0 := Aside0.mk hI
 have HK := Aside0.mk (KeepBut.refl w g none)
 have HL := Aside0.mk hB.size
 clear hI
 have HW0 := Aside0.mk hB.size
 have HB := Aside0.mk hB
 clear hB
 have H : (if a1 = 0 then (spec_l1DrawNode.j0 k a1 true s0_0 s0_1 s0_2) else ((spec_l1Once.f s0_0 s0_1 s0_2 4).bind fun bt254 => (spec_l1DrawNode.j0 k a1 bt254.1 s0_0 bt254.2.1 bt254.2.2))) = some (r1, r2, r3, r4, r5) := h
 clear h
 have HC3 := Aside0.mk H
 clear H
 go_enter Try.func71, Try.ntmps71
 go_upto_region 1 with (first | ((with_reducible refine gate_dst (N := 4) rfl ?_); refine box_event ?hg (N := 4) ?hd (cs := #[.int .i64 0, .int .i64 0, .int .i64 0]) (t := 55) ?hr ?_; (case hd => rfl); (case hg => rfl); (case hr => first | (go_simp; done) | (go_simp; rfl)); intro gb253 hg w4 hbox hb; have n0_ := Aside0.mk (IsS86.below (zi86 HI0.out) hb); have n1_ := Aside0.mk (KeepBut.trans (zq HK.out) (KeepBut.of_below hb g none) (.inl rfl)); have n2_ := Aside0.mk (below_step (zj HB.out (IsS86.ge HI0.out)) hb); have n3_ := Aside0.mk (hbox); have n4_ := Aside0.mk ((by rw [hg]; exact (keep_size (w := w) (g := g) (row := none) (zq HK.out)) : w.heap.size ≤ gb253)); have n5_ := Aside0.mk ((Nat.le_trans HW0.out (by rw [hg]; exact (keep_size (w := w) (g := g) (row := none) (zq HK.out)) : w.heap.size ≤ gb253) : w0.heap.size ≤ gb253)); have n6_ := Aside0.mk ((by rw [hg]; exact Nat.ne_of_lt (IsS86.lt (show IsS86 w0 _ g s0_0 s0_1 s0_2 from zi86 HI0.out)) : g ≠ gb253)); have n7_ := Aside0.mk ((by rw [hg]; exact Nat.ne_of_gt (IsS86.lt (show IsS86 w0 _ g s0_0 s0_1 s0_2 from zi86 HI0.out)) : gb253 ≠ g)); clear HI0; clear HK; clear HB; have HI0 := n0_; have HK := n1_; have HB := n2_; have BK253 := n3_; have GW253 := n4_; have GE253 := n5_; have NB0_253 := n6_; have NB253_0 := n7_; clear n0_ n1_ n2_ n3_ n4_ n5_ n6_ n7_; clear hb hbox hg))
 (try simp only [Act.put, List.setIfInBounds_toArray, List.set_cons_zero, List.set_cons_succ])
 go_cut [11] (fun v11 wc => ∃ (kq : Nat) (x11_2 : Bool) (x1001_2 : Int) (x1002_2 : Int), v11 = .bool x11_2 ∧ Aside0 (spec_l1DrawNode.j0 kq a1 x11_2 s0_0 x1001_2 x1002_2 = some (r1, r2, r3, r4, r5)) ∧ Aside0 (kq ≤ k) ∧ Aside0 (wc.heap[gb253]? = some (.cells #[.int .i64 0, .int .i64 0, .int .i64 0] 55 (0, 0))) ∧ Aside0 (IsS86 w0 wc g s0_0 x1001_2 x1002_2) ∧ Aside0 (KeepBut w wc g none) ∧ Aside0 (Below w0.heap.size w0 wc))
 case first =>
  have H := HC3.out
  clear HC3
  by_cases c5 : a1 = 0
  ·rw [if_pos c5] at H
   have c5b0 : (a1 == 0) = true := beq_iff_eq.mpr c5
   have c5b1 : (a1 != 0) = false := bne_eq_false_iff_eq.mpr c5
   clear c5
   (first | rw [c5b0] | (simp only [i64_w, i32_w]; rw [c5b0]) | skip)
   have H' := Aside0.mk H
   clear H
   go_wp2
   go_meet
   case rel => exact ⟨_, (true), (s0_1), (s0_2), (by first | rfl | (simp; done) | (simp [*]; done)), H', ⟨by first | omega | exact Nat.le_refl _⟩, ⟨zh BK253.out⟩, ⟨zi86 HI0.out⟩, ⟨zq HK.out⟩, ⟨zj HB.out (IsS86.ge HI0.out)⟩⟩
  ·rw [if_neg c5] at H
   have c5b0 : (a1 == 0) = false := beq_eq_false_iff_ne.mpr c5
   have c5b1 : (a1 != 0) = true := bne_iff_ne.mpr c5
   (first | rw [c5b0] | (simp only [i64_w, i32_w]; rw [c5b0]) | skip)
   replace H := Option.bind_eq_some_iff.mp H
   obtain ⟨⟨t254, t255, t256⟩, A60, H⟩ := H
   replace H : (spec_l1DrawNode.j0 k a1 t254 s0_0 t255 t256) = some (r1, r2, r3, r4, r5) := H
   have A6 := Aside0.mk A60
   clear A60
   have H' := Aside0.mk H
   clear H
   go_wp2_with (first | (go_at_call 44; (with_reducible refine (spec_l1Once.calls g s0_0 s0_1 s0_2 4 t254 t255 t256 w0 _ ?side1 ?side2 A6.out).mono ?_); (case side1 => exact zi86 HI0.out); (case side2 => exact zj HB.out (IsS86.ge HI0.out)); rintro e w7 ⟨rfl, hi, hb, hk⟩; have n0_ := Aside0.mk (KeepBut.blk hk (g' := gb253) (o := .cells #[.int .i64 0, .int .i64 0, .int .i64 0] 55 (0, 0)) (zh BK253.out) NB253_0.out (by simp)); have n1_ := Aside0.mk (KeepBut.trans (zq HK.out) hk (.inl rfl)); have n2_ := Aside0.mk (hb); have n3_ := Aside0.mk (hi); clear BK253; clear HK; clear HB; clear HI0; have BK253 := n0_; have HK := n1_; have HB := n2_; have HI0 := n3_; clear n0_ n1_ n2_ n3_; (try clear hb); (try clear hb2); (try clear hk); (try clear hi)))
   go_meet
   case rel => exact ⟨_, (t254), (t255), (t256), (by first | rfl | (simp; done) | (simp [*]; done)), H', ⟨by first | omega | exact Nat.le_refl _⟩, ⟨zh BK253.out⟩, ⟨zi86 HI0.out⟩, ⟨zq HK.out⟩, ⟨zj HB.out (IsS86.ge HI0.out)⟩⟩
 case rest =>
  clear HC3
  try clear p2
  try clear c5
  try clear c5b0
  try clear c5b1
  try clear c7
  obtain ⟨kq, x11_2, x1001_2, x1002_2, rfl, HA, HJ2, BK253, HI0, HK, HB⟩ := hcut
  cases kq with
  | zero => exact absurd HA.out (by simp [spec_l1DrawNode.j0])
  | succ kj2 =>
   have H := HA.out
   clear HA
   simp only [spec_l1DrawNode.j0] at H
   by_cases c8 : x11_2 = true
   ·subst c8
    have H1 : ((spec_l1PickInt.f s0_0 x1001_2 x1002_2 (([0, 1, 5, 6, 50, 51, 62, 90, 91, 100, 101, 102, 199] : List Int))).bind fun bt260 => (some (1, bt260.1, 0, bt260.2.1, bt260.2.2))) = some (r1, r2, r3, r4, r5) := by rw [if_pos rfl] at H; exact H
    clear H
    have H := H1
    clear H1
    obtain ⟨y257, hy257⟩ : ∃ y_ : List Int, y_ = (([0, 1, 5, 6, 50, 51, 62, 90, 91, 100, 101, 102, 199] : List Int)) := ⟨_, rfl⟩
    replace H : ((spec_l1PickInt.f s0_0 x1001_2 x1002_2 y257).bind fun bt260 => (some (1, bt260.1, 0, bt260.2.1, bt260.2.2))) = some (r1, r2, r3, r4, r5) := by first | (rw [hy257]; with_reducible exact H) | (have H2_ := (Option.bind_some _ _).symm.trans H; rw [hy257]; with_reducible exact H2_) | (have H2_ := (Option.bind_some _ _).symm.trans H; with_reducible exact H2_) | with_reducible exact H | (rw [hy257]; exact H) | exact H
    have Ny257 := Aside0.mk hy257
    clear hy257
    replace H := Option.bind_eq_some_iff.mp H
    obtain ⟨⟨t260, t261, t262⟩, A90, H⟩ := H
    replace H : (some (1, t260, 0, t261, t262)) = some (r1, r2, r3, r4, r5) := H
    have A9 := Aside0.mk A90
    clear A90
    simp only [Option.some.injEq, Prod.mk.injEq] at H
    obtain ⟨rfl, rfl, rfl, rfl, rfl⟩ := H
    go_wp2_with (first | ((with_reducible refine gate_dst (N := 13) rfl ?_); refine Kd.R_lit (Kd.int .i64) _ 3 ?hg (N := 13) ?hd (xs := ([0, 1, 5, 6, 50, 51, 62, 90, 91, 100, 101, 102, 199] : List Int)) (inner := [.int .i64 0, .int .i64 1, .int .i64 5, .int .i64 6, .int .i64 50, .int .i64 51, .int .i64 62, .int .i64 90, .int .i64 91, .int .i64 100, .int .i64 101, .int .i64 102, .int .i64 199]) (ok := fun _ => True) (okp := fun _ => True) ?hr ?hp (fun _ hk => hk) trivial (Below.refl _ _) (Nat.le_refl _) (by simp) ?_; (case hd => rfl); (case hg => rfl); (case hr => first | (go_simp; done) | (go_simp; rfl)); (case hp => exact (Reps.one (show Kd.M (Kd.int .i64) _ _ _ 0 [.int .i64 0] from rfl) (Reps.one (show Kd.M (Kd.int .i64) _ _ _ 1 [.int .i64 1] from rfl) (Reps.one (show Kd.M (Kd.int .i64) _ _ _ 5 [.int .i64 5] from rfl) (Reps.one (show Kd.M (Kd.int .i64) _ _ _ 6 [.int .i64 6] from rfl) (Reps.one (show Kd.M (Kd.int .i64) _ _ _ 50 [.int .i64 50] from rfl) (Reps.one (show Kd.M (Kd.int .i64) _ _ _ 51 [.int .i64 51] from rfl) (Reps.one (show Kd.M (Kd.int .i64) _ _ _ 62 [.int .i64 62] from rfl) (Reps.one (show Kd.M (Kd.int .i64) _ _ _ 90 [.int .i64 90] from rfl) (Reps.one (show Kd.M (Kd.int .i64) _ _ _ 91 [.int .i64 91] from rfl) (Reps.one (show Kd.M (Kd.int .i64) _ _ _ 100 [.int .i64 100] from rfl) (Reps.one (show Kd.M (Kd.int .i64) _ _ _ 101 [.int .i64 101] from rfl) (Reps.one (show Kd.M (Kd.int .i64) _ _ _ 102 [.int .i64 102] from rfl) (Reps.one (show Kd.M (Kd.int .i64) _ _ _ 199 [.int .i64 199] from rfl) (Reps.none _ _))))))))))))))); intro v258 w10 ho11 hb hg_ hnew_; clear hg_ hnew_; (first | rw [← Ny257.out] at ho11 | (simp only [Int.reduceToNat] at ho11; rw [← Ny257.out] at ho11)); have n0_ := Aside0.mk (Kd.R_lower ho11 (keep_size (w := w) (g := g) (row := none) (zq HK.out))); have n1_ := Aside0.mk (blk_below (zh BK253.out) hb); have n2_ := Aside0.mk (IsS86.below (zi86 HI0.out) hb); have n3_ := Aside0.mk (KeepBut.trans (zq HK.out) (KeepBut.of_below hb g none) (.inl rfl)); have n4_ := Aside0.mk (below_step (zj HB.out (IsS86.ge HI0.out)) hb); clear BK253; clear HI0; clear HK; clear HB; have HO259 := n0_; have BK253 := n1_; have HI0 := n2_; have HK := n3_; have HB := n4_; clear n0_ n1_ n2_ n3_ n4_; clear hb ho11; obtain ⟨Ao12, co12, eo12⟩ := Kd.R_slice HO259.out; subst eo12) | ((with_reducible refine gate_callee (f := 45) rfl ?_); refine goesL_ (some 14) rfl rfl Try.func45 (by kernel_rfl) rfl #[.pointer (some ⟨g, 0, none⟩), .slice Ao12 y257.length co12] rfl zl ?_; (with_reducible refine (spec_l1PickInt.calls g s0_0 x1001_2 x1002_2 _ _ y257 t260 t261 t262 w0 _ ?side1 ?side2 ?side3 ?side4 ?side5 A9.out).mono ?_); (case side1 => exact zi86 HI0.out); (case side2 => exact zj HB.out (IsS86.ge HI0.out)); (case side3 => exact zc (Kd.R_reads' HO259.out).2.2); (case side4 => exact (Kd.R_reads' HO259.out).2.1); (case side5 => exact far_slice (IsS86.own_ne HI0.out HO259.out (by decide))); rintro e w13 ⟨rfl, hi, hb, hk⟩; refine ⟨_, rfl, ?_⟩; have n0_ := Aside0.mk (KeepBut.blk hk (g' := gb253) (o := .cells #[.int .i64 0, .int .i64 0, .int .i64 0] 55 (0, 0)) (zh BK253.out) NB253_0.out (by simp)); have n1_ := Aside0.mk (Kd.R_mono (Kd.R_keep (IsS86.apart (show IsS86 w0 _ g s0_0 x1001_2 x1002_2 from zi86 HI0.out) (zr HO259.out) (by decide)) hk (fun _ h => h.2)) (fun _ h => h.1)); have n2_ := Aside0.mk (KeepBut.trans (zq HK.out) hk (.inl rfl)); have n3_ := Aside0.mk (hb); have n4_ := Aside0.mk (hi); clear BK253; clear HO259; clear HK; clear HB; clear HI0; have BK253 := n0_; have HO259 := n1_; have HK := n2_; have HB := n3_; have HI0 := n4_; clear n0_ n1_ n2_ n3_ n4_; (try clear hb); (try clear hb2); (try clear hk); (try clear hi); have hnb14 := NB253_0.out; have hnc14 := NB0_253.out; have hcz15_0 : w13.cell? ⟨gb253, 0, none⟩ = some (.int .i64 0) := (blk_cell BK253.out 0).trans rfl; have hcz15_1 : w13.cell? ⟨gb253, 1, none⟩ = some (.int .i64 0) := (blk_cell BK253.out 1).trans rfl; have hcz15_2 : w13.cell? ⟨gb253, 2, none⟩ = some (.int .i64 0) := (blk_cell BK253.out 2).trans rfl; have hfz15_0 := blk_frozen BK253.out 0; have hfz15_1 := blk_frozen BK253.out 1; have hfz15_2 := blk_frozen BK253.out 2))
    refine bodyPost_ret (results_cell_row rfl _ _ gb253 55 #[.int .i64 1, .int .i64 t260, .int .i64 0] (0, 0) _ rfl (by (with_reducible repeat (first | refine blk_drewN ?_ _ | refine blk_drew ?_ | refine blk_alloc ?_ _)); refine blk_put (cs := #[.int .i64 1, .int .i64 t260, .int .i64 0]) ?_ 2 _ rfl; (with_reducible repeat (first | refine blk_drewN ?_ _ | refine blk_drew ?_ | refine blk_alloc ?_ _)); refine blk_put (cs := #[.int .i64 1, .int .i64 0, .int .i64 0]) ?_ 1 _ rfl; (with_reducible repeat (first | refine blk_drewN ?_ _ | refine blk_drew ?_ | refine blk_alloc ?_ _)); refine blk_put (cs := #[.int .i64 0, .int .i64 0, .int .i64 0]) ?_ 0 _ rfl; (with_reducible repeat (first | refine blk_drewN ?_ _ | refine blk_drew ?_ | refine blk_alloc ?_ _)); exact BK253.out) Try.underlying55 rfl (by kernel_rfl)) rfl ?_
    exact ⟨ze, zi86 HI0.out, zj HB.out (IsS86.ge HI0.out), zq HK.out⟩
   ·replace c8 := Bool.eq_false_iff.mpr c8
    subst c8
    have H1 : ((spec_l1Draw.f kj2 s0_0 x1001_2 x1002_2 7).bind fun bt263 => ((spec_l1Draw.f kj2 s0_0 bt263.2.1 bt263.2.2 a1).bind fun bt266 => ((spec_l1Parts.f kj2 (wrap64 (2 + bt263.1))).bind fun t270 => (if t270 = 2 then ((spec_l1Draw.f kj2 s0_0 bt266.2.1 bt266.2.2 a1).bind fun bt271 => (some (wrap64 (2 + bt263.1), bt266.1, bt271.1, bt271.2.1, bt271.2.2))) else (some (wrap64 (2 + bt263.1), bt266.1, 0, bt266.2.1, bt266.2.2)))))) = some (r1, r2, r3, r4, r5) := by rw [if_neg (show ¬ (false = true) by decide)] at H; exact H
    clear H
    have H := H1
    clear H1
    replace H := Option.bind_eq_some_iff.mp H
    obtain ⟨⟨t263, t264, t265⟩, A160, H⟩ := H
    replace H : ((spec_l1Draw.f kj2 s0_0 t264 t265 a1).bind fun bt266 => ((spec_l1Parts.f kj2 (wrap64 (2 + t263))).bind fun t270 => (if t270 = 2 then ((spec_l1Draw.f kj2 s0_0 bt266.2.1 bt266.2.2 a1).bind fun bt271 => (some (wrap64 (2 + t263), bt266.1, bt271.1, bt271.2.1, bt271.2.2))) else (some (wrap64 (2 + t263), bt266.1, 0, bt266.2.1, bt266.2.2))))) = some (r1, r2, r3, r4, r5) := H
    have A16 := Aside0.mk A160
    clear A160
    replace H := Option.bind_eq_some_iff.mp H
    obtain ⟨⟨t266, t267, t268⟩, A170, H⟩ := H
    replace H : ((spec_l1Parts.f kj2 (wrap64 (2 + t263))).bind fun t270 => (if t270 = 2 then ((spec_l1Draw.f kj2 s0_0 t267 t268 a1).bind fun bt271 => (some (wrap64 (2 + t263), t266, bt271.1, bt271.2.1, bt271.2.2))) else (some (wrap64 (2 + t263), t266, 0, t267, t268)))) = some (r1, r2, r3, r4, r5) := H
    have A17 := Aside0.mk A170
    clear A170
    replace H := Option.bind_eq_some_iff.mp H
    obtain ⟨t270, A180, H⟩ := H
    replace H : (if t270 = 2 then ((spec_l1Draw.f kj2 s0_0 t267 t268 a1).bind fun bt271 => (some (wrap64 (2 + t263), t266, bt271.1, bt271.2.1, bt271.2.2))) else (some (wrap64 (2 + t263), t266, 0, t267, t268))) = some (r1, r2, r3, r4, r5) := H
    have A18 := Aside0.mk A180
    clear A180
    by_cases c19 : t270 = 2
    ·rw [if_pos c19] at H
     have c19b0 : (t270 == 2) = true := beq_iff_eq.mpr c19
     have c19b1 : (t270 != 2) = false := bne_eq_false_iff_eq.mpr c19
     clear c19
     replace H := Option.bind_eq_some_iff.mp H
     obtain ⟨⟨t271, t272, t273⟩, A200, H⟩ := H
     replace H : (some (wrap64 (2 + t263), t266, t271, t272, t273)) = some (r1, r2, r3, r4, r5) := H
     have A20 := Aside0.mk A200
     clear A200
     simp only [Option.some.injEq, Prod.mk.injEq] at H
     obtain ⟨rfl, rfl, rfl, rfl, rfl⟩ := H
     go_wp2_with (first | ((with_reducible refine gate_callee (f := 66) rfl ?_); refine goesL_ (some 17) rfl rfl Try.func66 (by kernel_rfl) rfl #[.pointer (some ⟨g, 0, none⟩), .int .i64 7] rfl zl ?_; (with_reducible refine (spec_l1Draw.calls kj2 g s0_0 x1001_2 x1002_2 7 t263 t264 t265 w0 _ ?side1 ?side2 A16.out).mono ?_); (case side1 => exact zi86 HI0.out); (case side2 => exact zj HB.out (IsS86.ge HI0.out)); rintro e w21 ⟨rfl, hi, hb, hk⟩; refine ⟨_, rfl, ?_⟩; have n0_ := Aside0.mk (KeepBut.blk hk (g' := gb253) (o := .cells #[.int .i64 0, .int .i64 0, .int .i64 0] 55 (0, 0)) (zh BK253.out) NB253_0.out (by simp)); have n1_ := Aside0.mk (KeepBut.trans (zq HK.out) hk (.inl rfl)); have n2_ := Aside0.mk (hb); have n3_ := Aside0.mk (hi); clear BK253; clear HK; clear HB; clear HI0; have BK253 := n0_; have HK := n1_; have HB := n2_; have HI0 := n3_; clear n0_ n1_ n2_ n3_; (try clear hb); (try clear hb2); (try clear hk); (try clear hi)) | ((with_reducible refine gate_callee (f := 66) rfl ?_); refine goesL_ (some 21) rfl rfl Try.func66 (by kernel_rfl) rfl #[.pointer (some ⟨g, 0, none⟩), .int .i64 a1] rfl zl ?_; (with_reducible refine (spec_l1Draw.calls kj2 g s0_0 t264 t265 a1 t266 t267 t268 w0 _ ?side1 ?side2 A17.out).mono ?_); (case side1 => exact zi86 HI0.out); (case side2 => exact zj HB.out (IsS86.ge HI0.out)); rintro e w22 ⟨rfl, hi, hb, hk⟩; refine ⟨_, rfl, ?_⟩; have n0_ := Aside0.mk (KeepBut.blk hk (g' := gb253) (o := .cells #[.int .i64 0, .int .i64 0, .int .i64 0] 55 (0, 0)) (zh BK253.out) NB253_0.out (by simp)); have n1_ := Aside0.mk (KeepBut.trans (zq HK.out) hk (.inl rfl)); have n2_ := Aside0.mk (hb); have n3_ := Aside0.mk (hi); clear BK253; clear HK; clear HB; clear HI0; have BK253 := n0_; have HK := n1_; have HB := n2_; have HI0 := n3_; clear n0_ n1_ n2_ n3_; (try clear hb); (try clear hb2); (try clear hk); (try clear hi)) | ((with_reducible refine gate_dst (N := 5) rfl ?_); refine box_event ?hg (N := 5) ?hd (cs := #[.int .i64 0, .int .i64 0, .int .i64 0]) (t := 55) ?hr ?_; (case hd => rfl); (case hg => rfl); (case hr => first | (go_simp; done) | (go_simp; rfl)); intro gb269 hg w23 hbox hb; have n0_ := Aside0.mk (blk_below (zh BK253.out) hb); have n1_ := Aside0.mk (IsS86.below (zi86 HI0.out) hb); have n2_ := Aside0.mk (KeepBut.trans (zq HK.out) (KeepBut.of_below hb g none) (.inl rfl)); have n3_ := Aside0.mk (below_step (zj HB.out (IsS86.ge HI0.out)) hb); have n4_ := Aside0.mk (hbox); have n5_ := Aside0.mk ((by rw [hg]; exact (keep_size (w := w) (g := g) (row := none) (zq HK.out)) : w.heap.size ≤ gb269)); have n6_ := Aside0.mk ((Nat.le_trans HW0.out (by rw [hg]; exact (keep_size (w := w) (g := g) (row := none) (zq HK.out)) : w.heap.size ≤ gb269) : w0.heap.size ≤ gb269)); have n7_ := Aside0.mk ((by rw [hg]; exact Nat.ne_of_lt (blk_lt (zh BK253.out)) : gb253 ≠ gb269)); have n8_ := Aside0.mk ((by rw [hg]; exact Nat.ne_of_gt (blk_lt (zh BK253.out)) : gb269 ≠ gb253)); have n9_ := Aside0.mk ((by rw [hg]; exact Nat.ne_of_lt (IsS86.lt (show IsS86 w0 _ g s0_0 t267 t268 from zi86 HI0.out)) : g ≠ gb269)); have n10_ := Aside0.mk ((by rw [hg]; exact Nat.ne_of_gt (IsS86.lt (show IsS86 w0 _ g s0_0 t267 t268 from zi86 HI0.out)) : gb269 ≠ g)); clear BK253; clear HI0; clear HK; clear HB; have BK253 := n0_; have HI0 := n1_; have HK := n2_; have HB := n3_; have BK269 := n4_; have GW269 := n5_; have GE269 := n6_; have NB253_269 := n7_; have NB269_253 := n8_; have NB0_269 := n9_; have NB269_0 := n10_; clear n0_ n1_ n2_ n3_ n4_ n5_ n6_ n7_ n8_ n9_ n10_; clear hb hbox hg; have hnb24 := NB269_253.out; have hnc24 := NB253_269.out; have hnb25 := NB269_0.out; have hnc25 := NB0_269.out; have hcz26_0 : w23.cell? ⟨gb269, 0, none⟩ = some (.int .i64 0) := (blk_cell BK269.out 0).trans rfl; have hcz26_1 : w23.cell? ⟨gb269, 1, none⟩ = some (.int .i64 0) := (blk_cell BK269.out 1).trans rfl; have hcz26_2 : w23.cell? ⟨gb269, 2, none⟩ = some (.int .i64 0) := (blk_cell BK269.out 2).trans rfl; have hfz26_0 := blk_frozen BK269.out 0; have hfz26_1 := blk_frozen BK269.out 1; have hfz26_2 := blk_frozen BK269.out 2) | ((with_reducible refine gate_callee (f := 29) rfl ?_); refine goesL_ (some 25) rfl rfl Try.func29 (by kernel_rfl) rfl #[.int .i64 (wrap64 (2 + t263))] rfl zl ?_; (with_reducible refine (spec_l1Parts.calls kj2 (wrap64 (2 + t263)) t270 _ A18.out).mono ?_); rintro e w' ⟨rfl, ⟨nd, rfl⟩⟩; refine ⟨_, rfl, ?_⟩) | ((with_reducible refine gate_callee (f := 66) rfl ?_); refine goesL_ (some 29) rfl rfl Try.func66 (by kernel_rfl) rfl #[.pointer (some ⟨g, 0, none⟩), .int .i64 a1] rfl zl ?_; (with_reducible refine (spec_l1Draw.calls kj2 g s0_0 t267 t268 a1 t271 t272 t273 w0 _ ?side1 ?side2 A20.out).mono ?_); (case side1 => exact zi86 HI0.out); (case side2 => exact zj HB.out (IsS86.ge HI0.out)); rintro e w27 ⟨rfl, hi, hb, hk⟩; refine ⟨_, rfl, ?_⟩; have n0_ := Aside0.mk (KeepBut.blk hk (g' := gb253) (o := .cells #[.int .i64 0, .int .i64 0, .int .i64 0] 55 (0, 0)) (zf BK253.out) NB253_0.out (by simp)); have n1_ := Aside0.mk (KeepBut.blk hk (g' := gb269) (o := .cells #[.int .i64 (wrap64 (2 + t263)), .int .i64 t266, .int .i64 0] 55 (0, 0)) (by (with_reducible repeat (first | refine blk_drewN ?_ _ | refine blk_drew ?_ | refine blk_alloc ?_ _)); refine blk_put (cs := #[.int .i64 (wrap64 (2 + t263)), .int .i64 t266, .int .i64 0]) ?_ 2 _ rfl; (with_reducible repeat (first | refine blk_drewN ?_ _ | refine blk_drew ?_ | refine blk_alloc ?_ _)); refine blk_put (cs := #[.int .i64 (wrap64 (2 + t263)), .int .i64 0, .int .i64 0]) ?_ 1 _ rfl; (with_reducible repeat (first | refine blk_drewN ?_ _ | refine blk_drew ?_ | refine blk_alloc ?_ _)); refine blk_put (cs := #[.int .i64 0, .int .i64 0, .int .i64 0]) ?_ 0 _ rfl; (with_reducible repeat (first | refine blk_drewN ?_ _ | refine blk_drew ?_ | refine blk_alloc ?_ _)); exact BK269.out) NB269_0.out (by simp)); have n2_ := Aside0.mk (KeepBut.trans (zq HK.out) hk (.inl rfl)); have n3_ := Aside0.mk (hb); have n4_ := Aside0.mk (hi); clear BK253; clear BK269; clear HK; clear HB; clear HI0; have BK253 := n0_; have BK269 := n1_; have HK := n2_; have HB := n3_; have HI0 := n4_; clear n0_ n1_ n2_ n3_ n4_; (try clear hb); (try clear hb2); (try clear hk); (try clear hi); have hcz28_0 : w27.cell? ⟨gb269, 0, none⟩ = some (.int .i64 (wrap64 (2 + t263))) := (blk_cell BK269.out 0).trans rfl; have hcz28_1 : w27.cell? ⟨gb269, 1, none⟩ = some (.int .i64 t266) := (blk_cell BK269.out 1).trans rfl; have hcz28_2 : w27.cell? ⟨gb269, 2, none⟩ = some (.int .i64 0) := (blk_cell BK269.out 2).trans rfl; have hfz28_0 := blk_frozen BK269.out 0; have hfz28_1 := blk_frozen BK269.out 1; have hfz28_2 := blk_frozen BK269.out 2; have hnb29 := NB253_0.out; have hnc29 := NB0_253.out; have hcz30_0 : w27.cell? ⟨gb253, 0, none⟩ = some (.int .i64 0) := (blk_cell BK253.out 0).trans rfl; have hcz30_1 : w27.cell? ⟨gb253, 1, none⟩ = some (.int .i64 0) := (blk_cell BK253.out 1).trans rfl; have hcz30_2 : w27.cell? ⟨gb253, 2, none⟩ = some (.int .i64 0) := (blk_cell BK253.out 2).trans rfl; have hfz30_0 := blk_frozen BK253.out 0; have hfz30_1 := blk_frozen BK253.out 1; have hfz30_2 := blk_frozen BK253.out 2))
     refine bodyPost_ret (results_cell_row rfl _ _ gb253 55 #[.int .i64 (wrap64 (2 + t263)), .int .i64 t266, .int .i64 t271] (0, 0) _ rfl (by (with_reducible repeat (first | refine blk_drewN ?_ _ | refine blk_drew ?_ | refine blk_alloc ?_ _)); refine blk_put (cs := #[.int .i64 (wrap64 (2 + t263)), .int .i64 t266, .int .i64 0]) ?_ 2 _ rfl; (with_reducible repeat (first | refine blk_drewN ?_ _ | refine blk_drew ?_ | refine blk_alloc ?_ _)); refine blk_put (cs := #[.int .i64 (wrap64 (2 + t263)), .int .i64 0, .int .i64 0]) ?_ 1 _ rfl; (with_reducible repeat (first | refine blk_drewN ?_ _ | refine blk_drew ?_ | refine blk_alloc ?_ _)); refine blk_put (cs := #[.int .i64 0, .int .i64 0, .int .i64 0]) ?_ 0 _ rfl; (with_reducible repeat (first | refine blk_drewN ?_ _ | refine blk_drew ?_ | refine blk_alloc ?_ _)); refine blk_far ?_ NB253_269.out _; (with_reducible repeat (first | refine blk_drewN ?_ _ | refine blk_drew ?_ | refine blk_alloc ?_ _)); exact BK253.out) Try.underlying55 rfl (by kernel_rfl)) rfl ?_
     exact ⟨ze, zi86 HI0.out, zj HB.out (IsS86.ge HI0.out), zq HK.out⟩
    ·rw [if_neg c19] at H
     have c19b0 : (t270 == 2) = false := beq_eq_false_iff_ne.mpr c19
     have c19b1 : (t270 != 2) = true := bne_iff_ne.mpr c19
     simp only [Option.some.injEq, Prod.mk.injEq] at H
     obtain ⟨rfl, rfl, rfl, rfl, rfl⟩ := H
     go_wp2_with (first | ((with_reducible refine gate_callee (f := 66) rfl ?_); refine goesL_ (some 17) rfl rfl Try.func66 (by kernel_rfl) rfl #[.pointer (some ⟨g, 0, none⟩), .int .i64 7] rfl zl ?_; (with_reducible refine (spec_l1Draw.calls kj2 g s0_0 x1001_2 x1002_2 7 t263 t264 t265 w0 _ ?side1 ?side2 A16.out).mono ?_); (case side1 => exact zi86 HI0.out); (case side2 => exact zj HB.out (IsS86.ge HI0.out)); rintro e w31 ⟨rfl, hi, hb, hk⟩; refine ⟨_, rfl, ?_⟩; have n0_ := Aside0.mk (KeepBut.blk hk (g' := gb253) (o := .cells #[.int .i64 0, .int .i64 0, .int .i64 0] 55 (0, 0)) (zh BK253.out) NB253_0.out (by simp)); have n1_ := Aside0.mk (KeepBut.trans (zq HK.out) hk (.inl rfl)); have n2_ := Aside0.mk (hb); have n3_ := Aside0.mk (hi); clear BK253; clear HK; clear HB; clear HI0; have BK253 := n0_; have HK := n1_; have HB := n2_; have HI0 := n3_; clear n0_ n1_ n2_ n3_; (try clear hb); (try clear hb2); (try clear hk); (try clear hi)) | ((with_reducible refine gate_callee (f := 66) rfl ?_); refine goesL_ (some 21) rfl rfl Try.func66 (by kernel_rfl) rfl #[.pointer (some ⟨g, 0, none⟩), .int .i64 a1] rfl zl ?_; (with_reducible refine (spec_l1Draw.calls kj2 g s0_0 t264 t265 a1 t266 t267 t268 w0 _ ?side1 ?side2 A17.out).mono ?_); (case side1 => exact zi86 HI0.out); (case side2 => exact zj HB.out (IsS86.ge HI0.out)); rintro e w32 ⟨rfl, hi, hb, hk⟩; refine ⟨_, rfl, ?_⟩; have n0_ := Aside0.mk (KeepBut.blk hk (g' := gb253) (o := .cells #[.int .i64 0, .int .i64 0, .int .i64 0] 55 (0, 0)) (zh BK253.out) NB253_0.out (by simp)); have n1_ := Aside0.mk (KeepBut.trans (zq HK.out) hk (.inl rfl)); have n2_ := Aside0.mk (hb); have n3_ := Aside0.mk (hi); clear BK253; clear HK; clear HB; clear HI0; have BK253 := n0_; have HK := n1_; have HB := n2_; have HI0 := n3_; clear n0_ n1_ n2_ n3_; (try clear hb); (try clear hb2); (try clear hk); (try clear hi)) | ((with_reducible refine gate_dst (N := 5) rfl ?_); refine box_event ?hg (N := 5) ?hd (cs := #[.int .i64 0, .int .i64 0, .int .i64 0]) (t := 55) ?hr ?_; (case hd => rfl); (case hg => rfl); (case hr => first | (go_simp; done) | (go_simp; rfl)); intro gb269 hg w33 hbox hb; have n0_ := Aside0.mk (blk_below (zh BK253.out) hb); have n1_ := Aside0.mk (IsS86.below (zi86 HI0.out) hb); have n2_ := Aside0.mk (KeepBut.trans (zq HK.out) (KeepBut.of_below hb g none) (.inl rfl)); have n3_ := Aside0.mk (below_step (zj HB.out (IsS86.ge HI0.out)) hb); have n4_ := Aside0.mk (hbox); have n5_ := Aside0.mk ((by rw [hg]; exact (keep_size (w := w) (g := g) (row := none) (zq HK.out)) : w.heap.size ≤ gb269)); have n6_ := Aside0.mk ((Nat.le_trans HW0.out (by rw [hg]; exact (keep_size (w := w) (g := g) (row := none) (zq HK.out)) : w.heap.size ≤ gb269) : w0.heap.size ≤ gb269)); have n7_ := Aside0.mk ((by rw [hg]; exact Nat.ne_of_lt (blk_lt (zh BK253.out)) : gb253 ≠ gb269)); have n8_ := Aside0.mk ((by rw [hg]; exact Nat.ne_of_gt (blk_lt (zh BK253.out)) : gb269 ≠ gb253)); have n9_ := Aside0.mk ((by rw [hg]; exact Nat.ne_of_lt (IsS86.lt (show IsS86 w0 _ g s0_0 t267 t268 from zi86 HI0.out)) : g ≠ gb269)); have n10_ := Aside0.mk ((by rw [hg]; exact Nat.ne_of_gt (IsS86.lt (show IsS86 w0 _ g s0_0 t267 t268 from zi86 HI0.out)) : gb269 ≠ g)); clear BK253; clear HI0; clear HK; clear HB; have BK253 := n0_; have HI0 := n1_; have HK := n2_; have HB := n3_; have BK269 := n4_; have GW269 := n5_; have GE269 := n6_; have NB253_269 := n7_; have NB269_253 := n8_; have NB0_269 := n9_; have NB269_0 := n10_; clear n0_ n1_ n2_ n3_ n4_ n5_ n6_ n7_ n8_ n9_ n10_; clear hb hbox hg; have hnb34 := NB269_253.out; have hnc34 := NB253_269.out; have hnb35 := NB269_0.out; have hnc35 := NB0_269.out; have hcz36_0 : w33.cell? ⟨gb269, 0, none⟩ = some (.int .i64 0) := (blk_cell BK269.out 0).trans rfl; have hcz36_1 : w33.cell? ⟨gb269, 1, none⟩ = some (.int .i64 0) := (blk_cell BK269.out 1).trans rfl; have hcz36_2 : w33.cell? ⟨gb269, 2, none⟩ = some (.int .i64 0) := (blk_cell BK269.out 2).trans rfl; have hfz36_0 := blk_frozen BK269.out 0; have hfz36_1 := blk_frozen BK269.out 1; have hfz36_2 := blk_frozen BK269.out 2) | ((with_reducible refine gate_callee (f := 29) rfl ?_); refine goesL_ (some 25) rfl rfl Try.func29 (by kernel_rfl) rfl #[.int .i64 (wrap64 (2 + t263))] rfl zl ?_; (with_reducible refine (spec_l1Parts.calls kj2 (wrap64 (2 + t263)) t270 _ A18.out).mono ?_); rintro e w' ⟨rfl, ⟨nd, rfl⟩⟩; refine ⟨_, rfl, ?_⟩; have hnb37 := NB253_0.out; have hnc37 := NB0_253.out; have hcz38_0 : w33.cell? ⟨gb253, 0, none⟩ = some (.int .i64 0) := (blk_cell BK253.out 0).trans rfl; have hcz38_1 : w33.cell? ⟨gb253, 1, none⟩ = some (.int .i64 0) := (blk_cell BK253.out 1).trans rfl; have hcz38_2 : w33.cell? ⟨gb253, 2, none⟩ = some (.int .i64 0) := (blk_cell BK253.out 2).trans rfl; have hfz38_0 := blk_frozen BK253.out 0; have hfz38_1 := blk_frozen BK253.out 1; have hfz38_2 := blk_frozen BK253.out 2))
     refine bodyPost_ret (results_cell_row rfl _ _ gb253 55 #[.int .i64 (wrap64 (2 + t263)), .int .i64 t266, .int .i64 0] (0, 0) _ rfl (by (with_reducible repeat (first | refine blk_drewN ?_ _ | refine blk_drew ?_ | refine blk_alloc ?_ _)); refine blk_put (cs := #[.int .i64 (wrap64 (2 + t263)), .int .i64 t266, .int .i64 0]) ?_ 2 _ rfl; (with_reducible repeat (first | refine blk_drewN ?_ _ | refine blk_drew ?_ | refine blk_alloc ?_ _)); refine blk_put (cs := #[.int .i64 (wrap64 (2 + t263)), .int .i64 0, .int .i64 0]) ?_ 1 _ rfl; (with_reducible repeat (first | refine blk_drewN ?_ _ | refine blk_drew ?_ | refine blk_alloc ?_ _)); refine blk_put (cs := #[.int .i64 0, .int .i64 0, .int .i64 0]) ?_ 0 _ rfl; (with_reducible repeat (first | refine blk_drewN ?_ _ | refine blk_drew ?_ | refine blk_alloc ?_ _)); refine blk_far ?_ NB253_269.out _; (with_reducible repeat (first | refine blk_drewN ?_ _ | refine blk_drew ?_ | refine blk_alloc ?_ _)); refine blk_far ?_ NB253_269.out _; (with_reducible repeat (first | refine blk_drewN ?_ _ | refine blk_drew ?_ | refine blk_alloc ?_ _)); refine blk_far ?_ NB253_269.out _; (with_reducible repeat (first | refine blk_drewN ?_ _ | refine blk_drew ?_ | refine blk_alloc ?_ _)); exact BK253.out) Try.underlying55 rfl (by kernel_rfl)) rfl ?_
     exact ⟨ze, zi86 HI0.out, zj HB.out (IsS86.ge HI0.out), zq HK.out⟩

/-! ### spec_l1DrawPool: function 70 -/
def spec_l1DrawPool.l0 : Nat → Int → Int → List Int → Int → Int → List (S55) → Option ((List (S55)) × Int × Int)
 | 0, _, _, _, _, _, _ => none
 | k + 1, x6, x7, x1000, x1001, x1002, x276000 => if x7 < x6 then ((spec_l1DrawNode.f k x1000 x1001 x1002 (x276000.length : Int)).bind fun bt279 => ((spec_l1Add.f k x276000 bt279.1 bt279.2.1 bt279.2.2.1).bind fun bt284 => (spec_l1DrawPool.l0 k x6 (wrap64 (x7 + 1)) x1000 bt279.2.2.2.1 bt279.2.2.2.2 bt284.1))) else (some (x276000, x1001, x1002))
def spec_l1DrawPool.f (k : Nat) (s0_0 : List Int) (s0_1 : Int) (s0_2 : Int) (a1 : Int) : Option ((List (S55)) × Int × Int) := (spec_l1Below.f s0_0 s0_1 s0_2 (wrap64 (a1 + 1))).bind fun bt276 => (spec_l1DrawPool.l0 k bt276.1 0 s0_0 bt276.2.1 bt276.2.2 ([] : List (S55)))
theorem spec_l1DrawPool.mono_l : ∀ k, (∀ y0 y1 y2 y3 y4 y5, LeO (spec_l1DrawPool.l0 k y0 y1 y2 y3 y4 y5) (spec_l1DrawPool.l0 (k + 1) y0 y1 y2 y3 y4 y5))
 | 0 => fun _ _ _ _ _ _ r h => by simp [spec_l1DrawPool.l0] at h
 | k + 1 => by
  have ih0 := spec_l1DrawPool.mono_l k
  ·intro y0 y1 y2 y3 y4 y5
   unfold spec_l1DrawPool.l0
   repeat' first
   | (with_reducible exact ih0 _ _ _ _ _ _)
   | (with_reducible exact spec_l1Add.mono _ _ _ _ _)
   | (with_reducible exact spec_l1DrawNode.mono _ _ _ _ _)
   | (with_reducible exact LeO.refl _)
   | (with_reducible exact LeO.none _)
   | (with_reducible refine LeO.ite ?_ ?_)
   | (with_reducible refine LeO.bind ?_ (fun _ => ?_))
   | exact ih0 _ _ _ _ _ _
   | exact spec_l1Add.mono _ _ _ _ _
   | exact spec_l1DrawNode.mono _ _ _ _ _
   | exact LeO.none _
   | refine LeO.ite ?_ ?_
   | refine LeO.bind ?_ (fun _ => ?_)
theorem spec_l1DrawPool.mono : ∀ a0 a1 a2 a3 k, LeO (spec_l1DrawPool.f k a0 a1 a2 a3) (spec_l1DrawPool.f (k + 1) a0 a1 a2 a3) := by
 intro a0 a1 a2 a3 k
 have ih0 := spec_l1DrawPool.mono_l k
 unfold spec_l1DrawPool.f
 repeat' first
   | (with_reducible exact ih0 _ _ _ _ _ _)
   | (with_reducible exact spec_l1Add.mono _ _ _ _ _)
   | (with_reducible exact spec_l1DrawNode.mono _ _ _ _ _)
   | (with_reducible exact LeO.refl _)
   | (with_reducible exact LeO.none _)
   | (with_reducible refine LeO.ite ?_ ?_)
   | (with_reducible refine LeO.bind ?_ (fun _ => ?_))
   | exact ih0 _ _ _ _ _ _
   | exact spec_l1Add.mono _ _ _ _ _
   | exact spec_l1DrawNode.mono _ _ _ _ _
   | exact LeO.none _
   | refine LeO.ite ?_ ?_
   | refine LeO.bind ?_ (fun _ => ?_)
def spec_l1DrawPool.T6 : Bool × List (List Nat × List Nat) := (true, [([], []), ([], []), ([], []), ([2], [2]), ([3], [3]), ([1, 4], [1, 4]), ([0, 5, 5], [0, 5]), ([6], [6]), ([7], [7]), ([7], [7]), ([8, 6, 0, 1, 2, 3, 4, 5, 6, 7, 8], [8])])
def spec_l1DrawPool.B6 : List Nat := [0, 0, 0, 4, 12, 30, 63, 127, 255, 255, 511]
theorem spec_l1DrawPool.tab6 : rtab .any (opsOf Try.f70 6) = spec_l1DrawPool.T6 := by kernel_rfl
theorem spec_l1DrawPool.bits6 : waitsOk spec_l1DrawPool.T6.2 spec_l1DrawPool.B6 = true := by kernel_rfl
set_option maxHeartbeats 8000000 in
set_option maxRecDepth 100000 in
theorem spec_l1DrawPool.calls (k : Nat) (g : Nat) (s0_0 : List Int) (s0_1 : Int) (s0_2 : Int) (a1 : Int) (r1 : List (S55)) (r2 : Int) (r3 : Int) (w0 w : World) (hI : IsS86 w0 w g s0_0 s0_1 s0_2) (hB : Below w0.heap.size w0 w) (h : spec_l1DrawPool.f k s0_0 s0_1 s0_2 a1 = some (r1, r2, r3)) :
  Calls Try.prog 70 #[.pointer (some ⟨g, 0, none⟩), .int .i64 a1] w fun e w' => ∃ v0_ : Value, e = .returned (.agg #[v0_]) ∧ Kd.R k55 55 w' w.heap.size (fun _ => True) v0_ r1 ∧ IsS86 w0 w' g s0_0 r2 r3 ∧ Below w0.heap.size w0 w' ∧ KeepBut w w' g none := by
 have hu28 := Try.underlying28
 have HI0 := Aside0.mk hI
 have HK := Aside0.mk (KeepBut.refl w g none)
 have HL := Aside0.mk hB.size
 clear hI
 have HW0 := Aside0.mk hB.size
 have HB := Aside0.mk hB
 clear hB
 have H : ((spec_l1Below.f s0_0 s0_1 s0_2 (wrap64 (a1 + 1))).bind fun bt276 => (spec_l1DrawPool.l0 k bt276.1 0 s0_0 bt276.2.1 bt276.2.2 ([] : List (S55)))) = some (r1, r2, r3) := h
 clear h
 replace H := Option.bind_eq_some_iff.mp H
 obtain ⟨⟨t276, t277, t278⟩, A30, H⟩ := H
 replace H : (spec_l1DrawPool.l0 k t276 0 s0_0 t277 t278 ([] : List (S55))) = some (r1, r2, r3) := H
 have A3 := Aside0.mk A30
 clear A30
 have H' := Aside0.mk H
 clear H
 go_enter Try.func70, Try.ntmps70
 go_wp2_with (first | ((with_reducible refine gate_dst (N := 4) rfl ?_); refine box_event ?hg (N := 4) ?hd (cs := #[.slice none 0 0]) (t := 28) ?hr ?_; (case hd => rfl); (case hg => rfl); (case hr => first | (go_simp; done) | (go_simp; rfl)); intro gb274 hg w4 hbox hb; have n0_ := Aside0.mk (IsS86.below (zi86 HI0.out) hb); have n1_ := Aside0.mk (KeepBut.trans (zq HK.out) (KeepBut.of_below hb g none) (.inl rfl)); have n2_ := Aside0.mk (below_step (zj HB.out (IsS86.ge HI0.out)) hb); have n3_ := Aside0.mk (hbox); have n4_ := Aside0.mk ((by rw [hg]; exact (keep_size (w := w) (g := g) (row := none) (zq HK.out)) : w.heap.size ≤ gb274)); have n5_ := Aside0.mk ((Nat.le_trans HW0.out (by rw [hg]; exact (keep_size (w := w) (g := g) (row := none) (zq HK.out)) : w.heap.size ≤ gb274) : w0.heap.size ≤ gb274)); have n6_ := Aside0.mk ((by rw [hg]; exact Nat.ne_of_lt (IsS86.lt (show IsS86 w0 _ g s0_0 s0_1 s0_2 from zi86 HI0.out)) : g ≠ gb274)); have n7_ := Aside0.mk ((by rw [hg]; exact Nat.ne_of_gt (IsS86.lt (show IsS86 w0 _ g s0_0 s0_1 s0_2 from zi86 HI0.out)) : gb274 ≠ g)); clear HI0; clear HK; clear HB; have HI0 := n0_; have HK := n1_; have HB := n2_; have BK274 := n3_; have GW274 := n4_; have GE274 := n5_; have NB0_274 := n6_; have NB274_0 := n7_; clear n0_ n1_ n2_ n3_ n4_ n5_ n6_ n7_; clear hb hbox hg) | ((with_reducible refine gate_dst (N := 5) rfl ?_); refine box_event ?hg (N := 5) ?hd (cs := #[.slice none 0 0]) (t := 28) ?hr ?_; (case hd => rfl); (case hg => rfl); (case hr => first | (go_simp; done) | (go_simp; rfl)); intro gb275 hg w5 hbox hb; have n0_ := Aside0.mk (IsS86.below (zi86 HI0.out) hb); have n1_ := Aside0.mk (blk_below (zh BK274.out) hb); have n2_ := Aside0.mk (KeepBut.trans (zq HK.out) (KeepBut.of_below hb g none) (.inl rfl)); have n3_ := Aside0.mk (below_step (zj HB.out (IsS86.ge HI0.out)) hb); have n4_ := Aside0.mk (hbox); have n5_ := Aside0.mk ((by rw [hg]; exact (keep_size (w := w) (g := g) (row := none) (zq HK.out)) : w.heap.size ≤ gb275)); have n6_ := Aside0.mk ((Nat.le_trans HW0.out (by rw [hg]; exact (keep_size (w := w) (g := g) (row := none) (zq HK.out)) : w.heap.size ≤ gb275) : w0.heap.size ≤ gb275)); have n7_ := Aside0.mk ((by rw [hg]; exact Nat.ne_of_lt (blk_lt (zh BK274.out)) : gb274 ≠ gb275)); have n8_ := Aside0.mk ((by rw [hg]; exact Nat.ne_of_gt (blk_lt (zh BK274.out)) : gb275 ≠ gb274)); have n9_ := Aside0.mk ((by rw [hg]; exact Nat.ne_of_lt (IsS86.lt (show IsS86 w0 _ g s0_0 s0_1 s0_2 from zi86 HI0.out)) : g ≠ gb275)); have n10_ := Aside0.mk ((by rw [hg]; exact Nat.ne_of_gt (IsS86.lt (show IsS86 w0 _ g s0_0 s0_1 s0_2 from zi86 HI0.out)) : gb275 ≠ g)); clear HI0; clear BK274; clear HK; clear HB; have HI0 := n0_; have BK274 := n1_; have HK := n2_; have HB := n3_; have BK275 := n4_; have GW275 := n5_; have GE275 := n6_; have NB274_275 := n7_; have NB275_274 := n8_; have NB0_275 := n9_; have NB275_0 := n10_; clear n0_ n1_ n2_ n3_ n4_ n5_ n6_ n7_ n8_ n9_ n10_; clear hb hbox hg; have hnb6 := NB275_274.out; have hnc6 := NB274_275.out; have hnb7 := NB275_0.out; have hnc7 := NB0_275.out; have hcz8_0 : w5.cell? ⟨gb275, 0, none⟩ = some (.slice none 0 0) := (blk_cell BK275.out 0).trans rfl; have hfz8_0 := blk_frozen BK275.out 0) | ((with_reducible refine gate_callee (f := 68) rfl ?_); refine goesL_ (some 12) rfl rfl Try.func68 (by kernel_rfl) rfl #[.pointer (some ⟨g, 0, none⟩), .int .i64 (wrap64 (a1 + 1))] rfl zl ?_; (with_reducible refine (spec_l1Below.calls g s0_0 s0_1 s0_2 (wrap64 (a1 + 1)) t276 t277 t278 w0 _ ?side1 ?side2 A3.out).mono ?_); (case side1 => exact zi86 HI0.out); (case side2 => exact zj HB.out (IsS86.ge HI0.out)); rintro e w9 ⟨rfl, hi, hb, hk⟩; refine ⟨_, rfl, ?_⟩; have n0_ := Aside0.mk (KeepBut.blk hk (g' := gb274) (o := .cells #[.slice none 0 0] 28 (0, 0)) (zf BK274.out) NB274_0.out (by simp)); have n1_ := Aside0.mk (KeepBut.blk hk (g' := gb275) (o := .cells #[.slice none 0 0] 28 (0, 0)) (by (with_reducible repeat (first | refine blk_drewN ?_ _ | refine blk_drew ?_ | refine blk_alloc ?_ _)); refine blk_put (cs := #[.slice none 0 0]) ?_ 0 _ rfl; (with_reducible repeat (first | refine blk_drewN ?_ _ | refine blk_drew ?_ | refine blk_alloc ?_ _)); exact BK275.out) NB275_0.out (by simp)); have n2_ := Aside0.mk (KeepBut.trans (zq HK.out) hk (.inl rfl)); have n3_ := Aside0.mk (hb); have n4_ := Aside0.mk (hi); clear BK274; clear BK275; clear HK; clear HB; clear HI0; have BK274 := n0_; have BK275 := n1_; have HK := n2_; have HB := n3_; have HI0 := n4_; clear n0_ n1_ n2_ n3_ n4_; (try clear hb); (try clear hb2); (try clear hk); (try clear hi)))
 go_loopg [7] k (fun kq v7 w' => ∃ (x7_1 : Int) (x1001_1 : Int) (x1002_1 : Int) (x276000_1 : List (S55)) (u276000 : Value), v7 = .int .i64 x7_1 ∧ Aside0 (spec_l1DrawPool.l0 kq t276 x7_1 s0_0 x1001_1 x1002_1 x276000_1 = some (r1, r2, r3)) ∧ Aside0 (kq ≤ k) ∧ Aside0 (Kd.R k55 55 w' w.heap.size (fun _ => True) u276000 x276000_1) ∧ Aside0 (w'.heap[gb274]? = some (.cells #[(.slice none 0 0)] 28 (0, 0))) ∧ Aside0 (w'.heap[gb275]? = some (.cells #[u276000] 28 (0, 0))) ∧ Aside0 (IsS86 w0 w' g s0_0 x1001_1 x1002_1) ∧ Aside0 (KeepBut w w' g none) ∧ Aside0 (Below w0.heap.size w0 w'))
 case atStart => exact ⟨(0), (t277), (t278), (([] : List (S55))), (.slice none 0 0), (by first | rfl | (simp; done) | (simp [*]; done)), H', ⟨Nat.le_refl _⟩, ⟨by first | exact Kd.R_nil _ _ _ _ _ | exact Kd.N_nil _ _ _ _ _ | exact Kd.V_nil _ _ _ _ _ | exact Kd.Q_nil _ _ _ _ _ | exact Kd.S_nil _ _ _ _ _⟩, ⟨zh BK274.out⟩, ⟨zh BK275.out⟩, ⟨zi86 HI0.out⟩, ⟨zq HK.out⟩, ⟨zj HB.out (IsS86.ge HI0.out)⟩⟩
 case round =>
  clear H'
  try clear p2
  try clear c6
  try clear p6
  try clear c7
  try clear hcz8_0
  try clear hfz8_0
  obtain ⟨x7_1, x1001_1, x1002_1, x276000_1, u276000, rfl, HA, HK1, HO_276000, BK274, BK275, HI0, HK, HB⟩ := hrel
  cases gk with
  | zero => exact absurd HA.out (by simp [spec_l1DrawPool.l0])
  | succ k1 =>
   have H := HA.out
   clear HA
   simp only [spec_l1DrawPool.l0] at H
   by_cases c10 : x7_1 < t276
   ·rw [if_pos c10] at H
    have c10b0 : decide (x7_1 < t276) = true := decide_eq_true c10
    clear c10
    replace H := Option.bind_eq_some_iff.mp H
    obtain ⟨⟨t279, t280, t281, t282, t283⟩, A110, H⟩ := H
    replace H : ((spec_l1Add.f k1 x276000_1 t279 t280 t281).bind fun bt284 => (spec_l1DrawPool.l0 k1 t276 (wrap64 (x7_1 + 1)) s0_0 t282 t283 bt284.1)) = some (r1, r2, r3) := H
    have A11 := Aside0.mk A110
    clear A110
    replace H := Option.bind_eq_some_iff.mp H
    obtain ⟨⟨t284, t287⟩, A120, H⟩ := H
    replace H : (spec_l1DrawPool.l0 k1 t276 (wrap64 (x7_1 + 1)) s0_0 t282 t283 t284) = some (r1, r2, r3) := H
    have A12 := Aside0.mk A120
    clear A120
    have H' := Aside0.mk H
    clear H
    try go_wp2
    have n0_ := Aside0.mk (Kd.R_drew HO_276000.out)
    have n1_ := Aside0.mk (blk_drew BK274.out)
    have n2_ := Aside0.mk (blk_drew BK275.out)
    have n3_ := Aside0.mk (IsS86.drew HI0.out)
    have n4_ := Aside0.mk (keep_drew HK.out)
    have n5_ := Aside0.mk (below_drew1 HB.out)
    clear HO_276000
    clear BK274
    clear BK275
    clear HI0
    clear HK
    clear HB
    have HO_276000 := n0_
    have BK274 := n1_
    have BK275 := n2_
    have HI0 := n3_
    have HK := n4_
    have HB := n5_
    clear n0_ n1_ n2_ n3_ n4_ n5_
    obtain ⟨Ao14, co14, eo14⟩ := Kd.R_slice HO_276000.out
    (first | subst eo14 | (injection eo14 with f1_ f2_ f3_; have f4_ := f1_.symm; have f5_ := f3_.symm; clear f1_ f2_ f3_; subst f4_; subst f5_))
    refine start_ (n := 11) (S := fun w' => w'.cell? ⟨gb275, 0, none⟩ = some (.slice Ao14 x276000_1.length co14)) (ds := [10]) #[false, false, false, false, false, false, false, false, false, false, false] (by kernel_rfl) rfl rfl ((blk_cell BK275.out 0).trans rfl) (fun hHeld => ?_); refine with_tabW spec_l1DrawPool.tab6 spec_l1DrawPool.bits6 (fun HT_ HW_ => ?_)
    generalize wr.drew = w13 at HO_276000 BK274 BK275 HI0 HK HB hHeld ⊢
    refine pure_ (i := 1) (N := some 20) (v := ?_) (a' := ?_) #[false, true, false, false, false, false, false, false, false, false, false] rfl rfl (any_of HT_.out (by kernel_rfl)) (fun _ _ _ h => h) (Or.inl ⟨by rfl, ?_⟩) ?_ ?_
    rotate_left
    ·intro w'
     go_simp
     with_reducible rfl
    rotate_left
    ·simp only [Act.put, List.setIfInBounds_toArray, List.set_cons_zero, List.set_cons_succ, i64_w, i32_w]
     rfl
    refine pure_ (i := 2) (N := some 21) (v := ?_) (a' := ?_) #[false, true, true, false, false, false, false, false, false, false, false] rfl rfl (any_of HT_.out (by kernel_rfl)) (fun _ _ _ h => h) (Or.inl ⟨by rfl, ?_⟩) ?_ ?_
    rotate_left
    ·intro w'
     go_simp
     with_reducible rfl
    rotate_left
    ·simp only [Act.put, List.setIfInBounds_toArray, List.set_cons_zero, List.set_cons_succ, i64_w, i32_w]
     rfl
    refine take_ (i := 0) (N := some 19) (v := ?_) (a' := ?_) #[true, true, true, false, false, false, false, false, false, false, false] rfl rfl (take_ofW HT_.out HW_.out (by kernel_rfl)) (fun _ _ _ h => h) (Or.inl ⟨by rfl, ?_⟩) hHeld ?_ ?_
    rotate_left
    ·intro w' s0
     go_simp
     with_reducible rfl
    rotate_left
    ·simp only [Act.put, List.setIfInBounds_toArray, List.set_cons_zero, List.set_cons_succ, i64_w, i32_w]
     rfl
    refine take_ (i := 3) (N := some 22) (v := ?_) (a' := ?_) #[true, true, true, true, false, false, false, false, false, false, false] rfl rfl (take_ofW HT_.out HW_.out (by kernel_rfl)) (fun _ _ _ h => h) (Or.inl ⟨by rfl, ?_⟩) hHeld ?_ ?_
    rotate_left
    ·intro w' s0
     go_simp
     with_reducible rfl
    rotate_left
    ·simp only [Act.put, List.setIfInBounds_toArray, List.set_cons_zero, List.set_cons_succ, i64_w, i32_w]
     rfl
    refine pure_ (i := 4) (N := some 23) (v := ?_) (a' := ?_) #[true, true, true, true, true, false, false, false, false, false, false] rfl rfl (any_of HT_.out (by kernel_rfl)) (fun _ _ _ h => h) (Or.inl ⟨by rfl, ?_⟩) ?_ ?_
    rotate_left
    ·intro w'
     go_simp
     with_reducible rfl
    rotate_left
    ·simp only [Act.put, List.setIfInBounds_toArray, List.set_cons_zero, List.set_cons_succ, i64_w, i32_w]
     rfl
    refine one_ (i := 5) (N := some 24) #[true, true, true, true, true, true, false, false, false, false, false] rfl rfl (one_of HT_.out (by kernel_rfl)) (by decide) (fun K hK => ?_)
    refine goes_ Try.func71 (by kernel_rfl) rfl #[.pointer (some ⟨g, 0, none⟩), .int .i64 (x276000_1.length : Int)] (by rfl) rfl rfl zl ?_
    with_reducible refine (spec_l1DrawNode.calls k1 g s0_0 x1001_1 x1002_1 (x276000_1.length : Int) t279 t280 t281 t282 t283 w0 _ ?side1 ?side2 A11.out).mono ?_
    (case side1 => exact zi86 HI0.out)
    (case side2 => exact zj HB.out (IsS86.ge HI0.out))
    rintro e w15 ⟨rfl, hi, hb, hk⟩
    refine ⟨_, rfl, ?_⟩
    have n0_ := Aside0.mk (Kd.R_mono (Kd.R_keep (IsS86.apart (show IsS86 w0 _ g s0_0 x1001_1 x1002_1 from zi86 HI0.out) (zr HO_276000.out) (by decide)) hk (fun _ h => h.2)) (fun _ h => h.1))
    have n1_ := Aside0.mk (KeepBut.blk hk (g' := gb274) (o := .cells #[.slice none 0 0] 28 (0, 0)) (zh BK274.out) NB274_0.out (by simp))
    have n2_ := Aside0.mk (KeepBut.blk hk (g' := gb275) (o := .cells #[.slice Ao14 x276000_1.length co14] 28 (0, 0)) (zh BK275.out) NB275_0.out (by simp))
    have n3_ := Aside0.mk (KeepBut.trans (zq HK.out) hk (.inl rfl))
    have n4_ := Aside0.mk (hb)
    have n5_ := Aside0.mk (hi)
    clear HO_276000
    clear BK274
    clear BK275
    clear HK
    clear HB
    clear HI0
    have HO_276000 := n0_
    have BK274 := n1_
    have BK275 := n2_
    have HK := n3_
    have HB := n4_
    have HI0 := n5_
    clear n0_ n1_ n2_ n3_ n4_ n5_
    (try clear hb)
    (try clear hb2)
    (try clear hk)
    (try clear hi)
    refine hK.out _ _ ((blk_cell BK275.out 0).trans rfl) (fun hHeld => ?_)
    clear hK K
    refine norm_ (a' := ?_) ?_ ?_
    rotate_left
    ·show Act.put _ (some 24) _ = _
     simp only [Act.put, List.setIfInBounds_toArray, List.set_cons_zero, List.set_cons_succ, i64_w, i32_w]
     rfl
    refine one_ (i := 6) (N := some 25) #[true, true, true, true, true, true, true, false, false, false, false] rfl rfl (one_of HT_.out (by kernel_rfl)) (by decide) (fun K hK => ?_)
    refine goes_ Try.func30 (by kernel_rfl) rfl #[.agg #[.slice Ao14 x276000_1.length co14], .agg #[.int .i64 t279, .int .i64 t280, .int .i64 t281]] (by rfl) rfl rfl zl ?_
    with_reducible refine (spec_l1Add.calls k1 (fun k_ => some k_ = (.slice Ao14 x276000_1.length co14 : Value).ownBlock) (.slice Ao14 x276000_1.length co14) x276000_1 t279 t280 t281 t284 t287 w0 _ ?side1 ?side2 A12.out).mono ?_
    (case side1 => exact zj HB.out (IsS86.ge HI0.out))
    (case side2 => exact Kd.R_lower (Kd.R_tight rfl HO_276000.out) HL.out)
    rintro e w16 ⟨v285, rfl, ho0, hb, hkp⟩
    refine ⟨_, rfl, ?_⟩
    have n0_ := Aside0.mk (blk_kept (zh BK274.out) hkp (fun hs_ => (fun e_ => (Kd.R_ne HO_276000.out BK274.out (by decide)) e_) hs_))
    have n1_ := Aside0.mk (blk_kept (zh BK275.out) hkp (fun hs_ => (fun e_ => (Kd.R_ne HO_276000.out BK275.out (by decide)) e_) hs_))
    have n2_ := Aside0.mk (IsS86.kept (zi86 HI0.out) hkp (fun hs_ => (fun e_ => (IsS86.own_ne HI0.out HO_276000.out (by decide)) e_) hs_))
    have n3_ := Aside0.mk (Kd.R_mono (ok' := fun k_ => True) (Kd.R_raise (d := k55) (b := w0.heap.size) (b' := w.heap.size) (fun _ _ _ _ h_ => h_) ho0 (fun k_ e_ => Or.elim (ho0.1 k_ e_) (fun hs_ => (fun e_ => Kd.R_base HO_276000.out k_ e_.symm) hs_) (fun hn_ => Nat.le_trans (keep_size (w := w) (g := g) (row := none) (zq HK.out)) hn_))) (fun k_ hk_ => trivial))
    have n4_ := Aside0.mk (Kept.keepG (zq HK.out) hkp (fun k_ hs_ => (fun e_ => .inr (Kd.R_base HO_276000.out k_ e_.symm)) hs_))
    have n5_ := Aside0.mk (hb)
    clear BK274
    clear BK275
    clear HI0
    clear HK
    clear HB
    clear HO_276000
    have BK274 := n0_
    have BK275 := n1_
    have HI0 := n2_
    have HO286 := n3_
    have HK := n4_
    have HB := n5_
    clear n0_ n1_ n2_ n3_ n4_ n5_
    (try clear hb)
    (try clear hkp)
    (try clear ho0)
    obtain ⟨Ao17, co17, eo17⟩ := Kd.R_slice HO286.out
    (first | subst eo17 | (injection eo17 with f1_ f2_ f3_; have f4_ := f1_.symm; have f5_ := f3_.symm; clear f1_ f2_ f3_; subst f4_; subst f5_))
    refine hK.out _ _ ((blk_cell BK275.out 0).trans rfl) (fun hHeld => ?_)
    clear hK K
    refine norm_ (a' := ?_) ?_ ?_
    rotate_left
    ·show Act.put _ (some 25) _ = _
     simp only [Act.put, List.setIfInBounds_toArray, List.set_cons_zero, List.set_cons_succ, i64_w, i32_w]
     rfl
    refine pure_ (i := 7) (N := some 18) (v := ?_) (a' := ?_) #[true, true, true, true, true, true, true, true, false, false, false] rfl rfl (any_of HT_.out (by kernel_rfl)) (fun _ _ _ h => h) (Or.inl ⟨by rfl, ?_⟩) ?_ ?_
    rotate_left
    ·intro w'
     go_simp
     with_reducible rfl
    rotate_left
    ·simp only [Act.put, List.setIfInBounds_toArray, List.set_cons_zero, List.set_cons_succ, i64_w, i32_w]
     rfl
    refine pure_ (i := 8) (N := some 26) (v := ?_) (a' := ?_) #[true, true, true, true, true, true, true, true, true, false, false] rfl rfl (any_of HT_.out (by kernel_rfl)) (fun _ _ _ h => h) (Or.inl ⟨by rfl, ?_⟩) ?_ ?_
    rotate_left
    ·intro w'
     go_simp
     with_reducible rfl
    rotate_left
    ·simp only [Act.put, List.setIfInBounds_toArray, List.set_cons_zero, List.set_cons_succ, i64_w, i32_w]
     rfl
    refine pure_ (i := 9) (N := some 27) (v := ?_) (a' := ?_) #[true, true, true, true, true, true, true, true, true, true, false] rfl rfl (any_of HT_.out (by kernel_rfl)) (fun _ _ _ h => h) (Or.inl ⟨by rfl, ?_⟩) ?_ ?_
    rotate_left
    ·intro w'
     go_simp
     with_reducible rfl
    rotate_left
    ·simp only [Act.put, List.setIfInBounds_toArray, List.set_cons_zero, List.set_cons_succ, i64_w, i32_w]
     rfl
    refine last_ (i := 10) (N := none) #[true, true, true, true, true, true, true, true, true, true, true] rfl rfl (one_of HT_.out (by kernel_rfl)) (by decide) (fun K hK => ?_)
    have hs18 : w16.cell? ⟨gb275, 0, none⟩ = some (.slice Ao14 x276000_1.length co14) := (blk_cell BK275.out 0).trans rfl
    have hfs18 := blk_frozen BK275.out 0
    have hns18_0 := NB274_275.out
    have hms18_0 := NB275_274.out
    refine skip_ (w1 := ?_) (by rfl) rfl ?_ ?_
    rotate_left
    ·go_simp
     rfl
    refine hK.out _ _ ?_
    clear hK K
    refine done_ (done_of HT_.out (by kernel_rfl)) ?_
    try go_wp2
    go_roundg k1
    case measure => have := HK1.out; omega
    case rel => exact ⟨(wrap64 (x7_1 + 1)), (t282), (t283), (t284), (.slice Ao17 t284.length co17), (by first | rfl | (simp; done) | (simp [*]; done)), H', ⟨by have := HK1.out; omega⟩, ⟨zr (Kd.R_mono (Kd.R_far (p := ⟨gb275, 0, none⟩) (Kd.R_types HO286.out BK275.out (by decide)) (fun _ hk => hk.2) (.slice Ao17 t284.length co17)) (fun _ hk => trivial))⟩, ⟨zf BK274.out⟩, ⟨by (with_reducible repeat (first | refine blk_drewN ?_ _ | refine blk_drew ?_ | refine blk_alloc ?_ _)); refine blk_put (cs := #[.slice Ao14 x276000_1.length co14]) ?_ 0 _ rfl; (with_reducible repeat (first | refine blk_drewN ?_ _ | refine blk_drew ?_ | refine blk_alloc ?_ _)); exact BK275.out⟩, ⟨zi86 HI0.out⟩, ⟨zq HK.out⟩, ⟨zj HB.out (IsS86.ge HI0.out)⟩⟩
   ·rw [if_neg c10] at H
    have c10b0 : decide (x7_1 < t276) = false := decide_eq_false c10
    clear c10
    simp only [Option.some.injEq, Prod.mk.injEq] at H
    obtain ⟨rfl, rfl, rfl⟩ := H
    have hnb19 := NB275_274.out
    have hnc19 := NB274_275.out
    have hnb20 := NB275_0.out
    have hnc20 := NB0_275.out
    have hcz21_0 : wr.cell? ⟨gb275, 0, none⟩ = some (u276000) := (blk_cell BK275.out 0).trans rfl
    have hfz21_0 := blk_frozen BK275.out 0
    obtain ⟨Ao22, co22, eo22⟩ := Kd.R_slice HO_276000.out
    subst eo22
    have hnb23 := NB274_0.out
    have hnc23 := NB0_274.out
    have hcz24_0 : wr.cell? ⟨gb274, 0, none⟩ = some (.slice none 0 0) := (blk_cell BK274.out 0).trans rfl
    have hfz24_0 := blk_frozen BK274.out 0
    go_wp2
    refine bodyPost_ret (results_cell_row rfl _ _ gb274 28 #[.slice Ao22 x276000_1.length co22] (0, 0) _ rfl (by (with_reducible repeat (first | refine blk_drewN ?_ _ | refine blk_drew ?_ | refine blk_alloc ?_ _)); refine blk_put (cs := #[.slice none 0 0]) ?_ 0 _ rfl; (with_reducible repeat (first | refine blk_drewN ?_ _ | refine blk_drew ?_ | refine blk_alloc ?_ _)); exact BK274.out) Try.underlying28 rfl (by kernel_rfl)) rfl ?_
    exact ⟨_, ze, zr (Kd.R_mono (Kd.R_far (p := ⟨gb274, 0, none⟩) (Kd.R_types HO_276000.out BK274.out (by decide)) (fun _ hk => hk.2) (.slice Ao22 x276000_1.length co22)) (fun _ hk => trivial)), zi86 HI0.out, zj HB.out (IsS86.ge HI0.out), zq HK.out⟩

end Go.Proofs.Ytobkledmbnacjaa.F
end

section
-- Written by this session's program (wip/tools/gprint.py over the kit's print) out of the translation; Lean checks it.
namespace Go.Proofs.Ytobkledmbnacjaa.F
open Go.RowKit Go.Proofs.YtobkledmbnacjaaW.PrintWords Go.Proofs.YtobkledmbnacjaaW.PrintLast Go.Proofs.YtobkledmbnacjaaW.PrintMore
attribute [local go_sem] max2_int min2_int max_two min_two max_three min_three max_four min_four   -- for this text's walks alone
set_option linter.unusedVariables false
set_option linter.unusedSimpArgs false
set_option maxRecDepth 100000

/-! ### spec_l1DrawAny: function 50 -/
mutual
def spec_l1DrawAny.j0 : Nat → List Int → Int → Int → List (S55) → Option ((List (S55)) × Int × Int)
 | 0, _, _, _, _ => none
 | k + 1, x1000, x1001, x1002, x295000 => (spec_l1Once.f x1000 x1001 x1002 80).bind fun bt324 => (if bt324.1 = true then (spec_l1DrawAny.l0 k x1000 bt324.2.1 bt324.2.2 ([] : List (S55))) else (some (x295000, bt324.2.1, bt324.2.2)))
def spec_l1DrawAny.l0 : Nat → List Int → Int → Int → List (S55) → Option ((List (S55)) × Int × Int)
 | 0, _, _, _, _ => none
 | k + 1, x1000, x1001, x1002, x295000 => if (x295000.length : Int) < 500 then ((spec_l1Add.f k x295000 1 ((x295000.length : Int) % 200) 0).bind fun bt327 => ((spec_l1Add.f k bt327.1 5 (wrap64 ((bt327.1.length : Int) - 1)) 0).bind fun bt331 => (spec_l1DrawAny.l0 k x1000 x1001 x1002 bt331.1))) else (some (x295000, x1001, x1002))
end
def spec_l1DrawAny.f (k : Nat) (s0_0 : List Int) (s0_1 : Int) (s0_2 : Int) : Option ((List (S55)) × Int × Int) := (spec_l1DrawPool.f k s0_0 s0_1 s0_2 24).bind fun bt289 => ((spec_l1Below.f s0_0 bt289.2.1 bt289.2.2 25).bind fun bt295 => (if bt295.1 = 0 then ((spec_l1Copy.f bt289.1).bind fun t298 => ((spec_l1DrawNode.f k s0_0 bt295.2.1 bt295.2.2 3).bind fun bt301 => (if t298.length < 5864062014805 then (spec_l1DrawAny.j0 k s0_0 bt301.2.2.2.1 bt301.2.2.2.2 (t298 ++ [(⟨bt301.1, bt301.2.1, bt301.2.2.1⟩ : S55)])) else (none)))) else (if bt295.1 = 1 then ((spec_l1Copy.f bt289.1).bind fun t309 => ((spec_l1Below.f s0_0 bt295.2.1 bt295.2.2 10).bind fun bt312 => ((spec_l1Below.f s0_0 bt312.2.1 bt312.2.2 30).bind fun bt315 => ((spec_l1Below.f s0_0 bt315.2.1 bt315.2.2 30).bind fun bt318 => (if t309.length < 5864062014805 then (spec_l1DrawAny.j0 k s0_0 bt318.2.1 bt318.2.2 (t309 ++ [(⟨bt312.1, wrap64 (bt315.1 - 1), wrap64 (bt318.1 - 1)⟩ : S55)])) else (none)))))) else (spec_l1DrawAny.j0 k s0_0 bt295.2.1 bt295.2.2 bt289.1))))
theorem spec_l1DrawAny.mono_l : ∀ k, (∀ y0 y1 y2 y3, LeO (spec_l1DrawAny.j0 k y0 y1 y2 y3) (spec_l1DrawAny.j0 (k + 1) y0 y1 y2 y3)) ∧ (∀ y0 y1 y2 y3, LeO (spec_l1DrawAny.l0 k y0 y1 y2 y3) (spec_l1DrawAny.l0 (k + 1) y0 y1 y2 y3))
 | 0 => ⟨fun _ _ _ _ r h => by simp [spec_l1DrawAny.j0] at h, fun _ _ _ _ r h => by simp [spec_l1DrawAny.l0] at h⟩
 | k + 1 => by
  obtain ⟨ih0, ih1⟩ := spec_l1DrawAny.mono_l k
  refine ⟨?_, ?_⟩
  ·intro y0 y1 y2 y3
   unfold spec_l1DrawAny.j0
   repeat' first
   | (with_reducible exact ih0 _ _ _ _)
   | (with_reducible exact ih1 _ _ _ _)
   | (with_reducible exact spec_l1Add.mono _ _ _ _ _)
   | (with_reducible exact spec_l1DrawNode.mono _ _ _ _ _)
   | (with_reducible exact spec_l1DrawPool.mono _ _ _ _ _)
   | (with_reducible exact LeO.refl _)
   | (with_reducible exact LeO.none _)
   | (with_reducible refine LeO.ite ?_ ?_)
   | (with_reducible refine LeO.bind ?_ (fun _ => ?_))
   | exact ih0 _ _ _ _
   | exact ih1 _ _ _ _
   | exact spec_l1Add.mono _ _ _ _ _
   | exact spec_l1DrawNode.mono _ _ _ _ _
   | exact spec_l1DrawPool.mono _ _ _ _ _
   | exact LeO.none _
   | refine LeO.ite ?_ ?_
   | refine LeO.bind ?_ (fun _ => ?_)
  ·intro y0 y1 y2 y3
   unfold spec_l1DrawAny.l0
   repeat' first
   | (with_reducible exact ih0 _ _ _ _)
   | (with_reducible exact ih1 _ _ _ _)
   | (with_reducible exact spec_l1Add.mono _ _ _ _ _)
   | (with_reducible exact spec_l1DrawNode.mono _ _ _ _ _)
   | (with_reducible exact spec_l1DrawPool.mono _ _ _ _ _)
   | (with_reducible exact LeO.refl _)
   | (with_reducible exact LeO.none _)
   | (with_reducible refine LeO.ite ?_ ?_)
   | (with_reducible refine LeO.bind ?_ (fun _ => ?_))
   | exact ih0 _ _ _ _
   | exact ih1 _ _ _ _
   | exact spec_l1Add.mono _ _ _ _ _
   | exact spec_l1DrawNode.mono _ _ _ _ _
   | exact spec_l1DrawPool.mono _ _ _ _ _
   | exact LeO.none _
   | refine LeO.ite ?_ ?_
   | refine LeO.bind ?_ (fun _ => ?_)
theorem spec_l1DrawAny.mono : ∀ a0 a1 a2 k, LeO (spec_l1DrawAny.f k a0 a1 a2) (spec_l1DrawAny.f (k + 1) a0 a1 a2) := by
 intro a0 a1 a2 k
 obtain ⟨ih0, ih1⟩ := spec_l1DrawAny.mono_l k
 unfold spec_l1DrawAny.f
 repeat' first
   | (with_reducible exact ih0 _ _ _ _)
   | (with_reducible exact ih1 _ _ _ _)
   | (with_reducible exact spec_l1Add.mono _ _ _ _ _)
   | (with_reducible exact spec_l1DrawNode.mono _ _ _ _ _)
   | (with_reducible exact spec_l1DrawPool.mono _ _ _ _ _)
   | (with_reducible exact LeO.refl _)
   | (with_reducible exact LeO.none _)
   | (with_reducible refine LeO.ite ?_ ?_)
   | (with_reducible refine LeO.bind ?_ (fun _ => ?_))
   | exact ih0 _ _ _ _
   | exact ih1 _ _ _ _
   | exact spec_l1Add.mono _ _ _ _ _
   | exact spec_l1DrawNode.mono _ _ _ _ _
   | exact spec_l1DrawPool.mono _ _ _ _ _
   | exact LeO.none _
   | refine LeO.ite ?_ ?_
   | refine LeO.bind ?_ (fun _ => ?_)
theorem fldP_ (w : World) (v : Value) : (Instr.field 28 (.agg #[v]) 0).run Try.prog w = .ok v w := by
 have hu := Try.underlying28
 simp [Instr.field, run_underlying hu, go_sem, asAgg, part, Result.andThen]
set_option maxHeartbeats 8000000 in
set_option maxRecDepth 100000 in
theorem spec_l1DrawAny.calls (k : Nat) (g : Nat) (s0_0 : List Int) (s0_1 : Int) (s0_2 : Int) (r1 : List (S55)) (r2 : Int) (r3 : Int) (w0 w : World) (hI : IsS86 w0 w g s0_0 s0_1 s0_2) (hB : Below w0.heap.size w0 w) (h : spec_l1DrawAny.f k s0_0 s0_1 s0_2 = some (r1, r2, r3)) :
  Calls Try.prog 50 #[.pointer (some ⟨g, 0, none⟩)] w fun e w' => ∃ v0_ : Value, e = .returned (.agg #[v0_]) ∧ Kd.R k55 55 w' w.heap.size (fun _ => True) v0_ r1 ∧ IsS86 w0 w' g s0_0 r2 r3 ∧ Below w0.heap.size w0 w' ∧ KeepBut w w' g none := by
 have hu28 := Try.underlying28
 have hu55 := Try.underlying55
 have HI0 := Aside0.mk hI
 have HK := Aside0.mk (KeepBut.refl w g none)
 have HL := Aside0.mk hB.size
 clear hI
 have HW0 := Aside0.mk hB.size
 have HB := Aside0.mk hB
 clear hB
 have H : ((spec_l1DrawPool.f k s0_0 s0_1 s0_2 24).bind fun bt289 => ((spec_l1Below.f s0_0 bt289.2.1 bt289.2.2 25).bind fun bt295 => (if bt295.1 = 0 then ((spec_l1Copy.f bt289.1).bind fun t298 => ((spec_l1DrawNode.f k s0_0 bt295.2.1 bt295.2.2 3).bind fun bt301 => (if t298.length < 5864062014805 then (spec_l1DrawAny.j0 k s0_0 bt301.2.2.2.1 bt301.2.2.2.2 (t298 ++ [(⟨bt301.1, bt301.2.1, bt301.2.2.1⟩ : S55)])) else (none)))) else (if bt295.1 = 1 then ((spec_l1Copy.f bt289.1).bind fun t309 => ((spec_l1Below.f s0_0 bt295.2.1 bt295.2.2 10).bind fun bt312 => ((spec_l1Below.f s0_0 bt312.2.1 bt312.2.2 30).bind fun bt315 => ((spec_l1Below.f s0_0 bt315.2.1 bt315.2.2 30).bind fun bt318 => (if t309.length < 5864062014805 then (spec_l1DrawAny.j0 k s0_0 bt318.2.1 bt318.2.2 (t309 ++ [(⟨bt312.1, wrap64 (bt315.1 - 1), wrap64 (bt318.1 - 1)⟩ : S55)])) else (none)))))) else (spec_l1DrawAny.j0 k s0_0 bt295.2.1 bt295.2.2 bt289.1))))) = some (r1, r2, r3) := h
 clear h
 replace H := Option.bind_eq_some_iff.mp H
 obtain ⟨⟨t289, t292, t293⟩, A20, H⟩ := H
 replace H : ((spec_l1Below.f s0_0 t292 t293 25).bind fun bt295 => (if bt295.1 = 0 then ((spec_l1Copy.f t289).bind fun t298 => ((spec_l1DrawNode.f k s0_0 bt295.2.1 bt295.2.2 3).bind fun bt301 => (if t298.length < 5864062014805 then (spec_l1DrawAny.j0 k s0_0 bt301.2.2.2.1 bt301.2.2.2.2 (t298 ++ [(⟨bt301.1, bt301.2.1, bt301.2.2.1⟩ : S55)])) else (none)))) else (if bt295.1 = 1 then ((spec_l1Copy.f t289).bind fun t309 => ((spec_l1Below.f s0_0 bt295.2.1 bt295.2.2 10).bind fun bt312 => ((spec_l1Below.f s0_0 bt312.2.1 bt312.2.2 30).bind fun bt315 => ((spec_l1Below.f s0_0 bt315.2.1 bt315.2.2 30).bind fun bt318 => (if t309.length < 5864062014805 then (spec_l1DrawAny.j0 k s0_0 bt318.2.1 bt318.2.2 (t309 ++ [(⟨bt312.1, wrap64 (bt315.1 - 1), wrap64 (bt318.1 - 1)⟩ : S55)])) else (none)))))) else (spec_l1DrawAny.j0 k s0_0 bt295.2.1 bt295.2.2 t289)))) = some (r1, r2, r3) := H
 have A2 := Aside0.mk A20
 clear A20
 replace H := Option.bind_eq_some_iff.mp H
 obtain ⟨⟨t295, t296, t297⟩, A30, H⟩ := H
 replace H : (if t295 = 0 then ((spec_l1Copy.f t289).bind fun t298 => ((spec_l1DrawNode.f k s0_0 t296 t297 3).bind fun bt301 => (if t298.length < 5864062014805 then (spec_l1DrawAny.j0 k s0_0 bt301.2.2.2.1 bt301.2.2.2.2 (t298 ++ [(⟨bt301.1, bt301.2.1, bt301.2.2.1⟩ : S55)])) else (none)))) else (if t295 = 1 then ((spec_l1Copy.f t289).bind fun t309 => ((spec_l1Below.f s0_0 t296 t297 10).bind fun bt312 => ((spec_l1Below.f s0_0 bt312.2.1 bt312.2.2 30).bind fun bt315 => ((spec_l1Below.f s0_0 bt315.2.1 bt315.2.2 30).bind fun bt318 => (if t309.length < 5864062014805 then (spec_l1DrawAny.j0 k s0_0 bt318.2.1 bt318.2.2 (t309 ++ [(⟨bt312.1, wrap64 (bt315.1 - 1), wrap64 (bt318.1 - 1)⟩ : S55)])) else (none)))))) else (spec_l1DrawAny.j0 k s0_0 t296 t297 t289))) = some (r1, r2, r3) := H
 have A3 := Aside0.mk A30
 clear A30
 have HC4 := Aside0.mk H
 clear H
 have hfldP := fldP_
 go_enter Try.func50, Try.ntmps50
 go_upto_block 0 with (first | ((with_reducible refine gate_dst (N := 2) rfl ?_); refine box_event ?hg (N := 2) ?hd (cs := #[.slice none 0 0]) (t := 28) ?hr ?_; (case hd => rfl); (case hg => rfl); (case hr => first | (go_simp; done) | (go_simp; rfl)); intro gb288 hg w5 hbox hb; have n0_ := Aside0.mk (IsS86.below (zi86 HI0.out) hb); have n1_ := Aside0.mk (KeepBut.trans (zq HK.out) (KeepBut.of_below hb g none) (.inl rfl)); have n2_ := Aside0.mk (below_step (zj HB.out (IsS86.ge HI0.out)) hb); have n3_ := Aside0.mk (hbox); have n4_ := Aside0.mk ((by rw [hg]; exact (keep_size (w := w) (g := g) (row := none) (zq HK.out)) : w.heap.size ≤ gb288)); have n5_ := Aside0.mk ((Nat.le_trans HW0.out (by rw [hg]; exact (keep_size (w := w) (g := g) (row := none) (zq HK.out)) : w.heap.size ≤ gb288) : w0.heap.size ≤ gb288)); have n6_ := Aside0.mk ((by rw [hg]; exact Nat.ne_of_lt (IsS86.lt (show IsS86 w0 _ g s0_0 s0_1 s0_2 from zi86 HI0.out)) : g ≠ gb288)); have n7_ := Aside0.mk ((by rw [hg]; exact Nat.ne_of_gt (IsS86.lt (show IsS86 w0 _ g s0_0 s0_1 s0_2 from zi86 HI0.out)) : gb288 ≠ g)); clear HI0; clear HK; clear HB; have HI0 := n0_; have HK := n1_; have HB := n2_; have BK288 := n3_; have GW288 := n4_; have GE288 := n5_; have NB0_288 := n6_; have NB288_0 := n7_; clear n0_ n1_ n2_ n3_ n4_ n5_ n6_ n7_; clear hb hbox hg) | ((with_reducible refine gate_callee (f := 70) rfl ?_); refine goesL_ (some 5) rfl rfl Try.func70 (by kernel_rfl) rfl #[.pointer (some ⟨g, 0, none⟩), .int .i64 24] rfl zl ?_; (with_reducible refine (spec_l1DrawPool.calls k g s0_0 s0_1 s0_2 24 t289 t292 t293 w0 _ ?side1 ?side2 A2.out).mono ?_); (case side1 => exact zi86 HI0.out); (case side2 => exact zj HB.out (IsS86.ge HI0.out)); rintro e w6 ⟨v290, rfl, ho0, hi, hb, hk⟩; refine ⟨_, rfl, ?_⟩; have n0_ := Aside0.mk (KeepBut.blk hk (g' := gb288) (o := .cells #[.slice none 0 0] 28 (0, 0)) (zh BK288.out) NB288_0.out (by simp)); have n1_ := Aside0.mk (Kd.R_lower ho0 (keep_size (w := w) (g := g) (row := none) (zq HK.out))); have n2_ := Aside0.mk (KeepBut.trans (zq HK.out) hk (.inl rfl)); have n3_ := Aside0.mk (hb); have n4_ := Aside0.mk (hi); clear BK288; clear HK; clear HB; clear HI0; have BK288 := n0_; have HO291 := n1_; have HK := n2_; have HB := n3_; have HI0 := n4_; clear n0_ n1_ n2_ n3_ n4_; (try clear hb); (try clear hb2); (try clear hk); (try clear hi); (try clear ho0)) | ((with_reducible refine gate_dst (N := 3) rfl ?_); refine box_event ?hg (N := 3) ?hd (cs := #[.slice none 0 0]) (t := 28) ?hr ?_; (case hd => rfl); (case hg => rfl); (case hr => first | (go_simp; done) | (go_simp; rfl)); intro gb294 hg w7 hbox hb; have n0_ := Aside0.mk (Kd.R_below (zr HO291.out) hb); have n1_ := Aside0.mk (IsS86.below (zi86 HI0.out) hb); have n2_ := Aside0.mk (blk_below (zh BK288.out) hb); have n3_ := Aside0.mk (KeepBut.trans (zq HK.out) (KeepBut.of_below hb g none) (.inl rfl)); have n4_ := Aside0.mk (below_step (zj HB.out (IsS86.ge HI0.out)) hb); have n5_ := Aside0.mk (hbox); have n6_ := Aside0.mk ((by rw [hg]; exact (keep_size (w := w) (g := g) (row := none) (zq HK.out)) : w.heap.size ≤ gb294)); have n7_ := Aside0.mk ((Nat.le_trans HW0.out (by rw [hg]; exact (keep_size (w := w) (g := g) (row := none) (zq HK.out)) : w.heap.size ≤ gb294) : w0.heap.size ≤ gb294)); have n8_ := Aside0.mk ((by rw [hg]; exact Nat.ne_of_lt (blk_lt (zh BK288.out)) : gb288 ≠ gb294)); have n9_ := Aside0.mk ((by rw [hg]; exact Nat.ne_of_gt (blk_lt (zh BK288.out)) : gb294 ≠ gb288)); have n10_ := Aside0.mk ((by rw [hg]; exact Nat.ne_of_lt (IsS86.lt (show IsS86 w0 _ g s0_0 t292 t293 from zi86 HI0.out)) : g ≠ gb294)); have n11_ := Aside0.mk ((by rw [hg]; exact Nat.ne_of_gt (IsS86.lt (show IsS86 w0 _ g s0_0 t292 t293 from zi86 HI0.out)) : gb294 ≠ g)); clear HO291; clear HI0; clear BK288; clear HK; clear HB; have HO291 := n0_; have HI0 := n1_; have BK288 := n2_; have HK := n3_; have HB := n4_; have BK294 := n5_; have GW294 := n6_; have GE294 := n7_; have NB288_294 := n8_; have NB294_288 := n9_; have NB0_294 := n10_; have NB294_0 := n11_; clear n0_ n1_ n2_ n3_ n4_ n5_ n6_ n7_ n8_ n9_ n10_ n11_; clear hb hbox hg; obtain ⟨Ao8, co8, eo8⟩ := Kd.R_slice HO291.out; subst eo8; have hnb9 := NB294_288.out; have hnc9 := NB288_294.out; have hnb10 := NB294_0.out; have hnc10 := NB0_294.out; have hcz11_0 : w7.cell? ⟨gb294, 0, none⟩ = some (.slice none 0 0) := (blk_cell BK294.out 0).trans rfl; have hfz11_0 := blk_frozen BK294.out 0) | ((with_reducible refine gate_callee (f := 68) rfl ?_); refine goesL_ (some 7) rfl rfl Try.func68 (by kernel_rfl) rfl #[.pointer (some ⟨g, 0, none⟩), .int .i64 25] rfl zl ?_; (with_reducible refine (spec_l1Below.calls g s0_0 t292 t293 25 t295 t296 t297 w0 _ ?side1 ?side2 A3.out).mono ?_); (case side1 => exact zi86 HI0.out); (case side2 => exact zj HB.out (IsS86.ge HI0.out)); rintro e w12 ⟨rfl, hi, hb, hk⟩; refine ⟨_, rfl, ?_⟩; have n0_ := Aside0.mk (KeepBut.blk hk (g' := gb288) (o := .cells #[.slice none 0 0] 28 (0, 0)) (zf BK288.out) NB288_0.out (by simp)); have n1_ := Aside0.mk (Kd.R_mono (Kd.R_keep (IsS86.apart (show IsS86 w0 _ g s0_0 t292 t293 from zi86 HI0.out) (by (with_reducible repeat (first | apply Kd.R_alloc | apply Kd.R_drewN | apply Kd.R_drew)); exact (Kd.R_mono (Kd.R_far (p := ⟨gb294, 0, none⟩) (Kd.R_types HO291.out BK294.out (by decide)) (fun _ hk => hk.2) (.slice Ao8 t289.length co8)) (fun _ h_ => h_.1))) (by decide)) hk (fun _ h => h.2)) (fun _ h => h.1)); have n2_ := Aside0.mk (KeepBut.blk hk (g' := gb294) (o := .cells #[.slice Ao8 t289.length co8] 28 (0, 0)) (by (with_reducible repeat (first | refine blk_drewN ?_ _ | refine blk_drew ?_ | refine blk_alloc ?_ _)); refine blk_put (cs := #[.slice none 0 0]) ?_ 0 _ rfl; (with_reducible repeat (first | refine blk_drewN ?_ _ | refine blk_drew ?_ | refine blk_alloc ?_ _)); exact BK294.out) NB294_0.out (by simp)); have n3_ := Aside0.mk (KeepBut.trans (zq HK.out) hk (.inl rfl)); have n4_ := Aside0.mk (hb); have n5_ := Aside0.mk (hi); clear BK288; clear HO291; clear BK294; clear HK; clear HB; clear HI0; have BK288 := n0_; have HO291 := n1_; have BK294 := n2_; have HK := n3_; have HB := n4_; have HI0 := n5_; clear n0_ n1_ n2_ n3_ n4_ n5_; (try clear hb); (try clear hb2); (try clear hk); (try clear hi)))
 (try simp only [Act.put, List.setIfInBounds_toArray, List.set_cons_zero, List.set_cons_succ])
 go_cut [] (fun wc => ∃ (kq : Nat) (x1001_3 : Int) (x1002_3 : Int) (x295000_3 : List (S55)) (u295000 : Value), Aside0 (spec_l1DrawAny.j0 kq s0_0 x1001_3 x1002_3 x295000_3 = some (r1, r2, r3)) ∧ Aside0 (kq ≤ k) ∧ Aside0 (Kd.R k55 55 wc w.heap.size (fun _ => True) u295000 x295000_3) ∧ Aside0 (wc.heap[gb288]? = some (.cells #[(.slice none 0 0)] 28 (0, 0))) ∧ Aside0 (wc.heap[gb294]? = some (.cells #[u295000] 28 (0, 0))) ∧ Aside0 (IsS86 w0 wc g s0_0 x1001_3 x1002_3) ∧ Aside0 (KeepBut w wc g none) ∧ Aside0 (Below w0.heap.size w0 wc))
 case first =>
  have H := HC4.out
  clear HC4
  by_cases c13 : t295 = 0
  ·rw [if_pos c13] at H
   have c13b0 : (t295 == 0) = true := beq_iff_eq.mpr c13
   have c13b1 : (t295 != 0) = false := bne_eq_false_iff_eq.mpr c13
   clear c13
   (first | rw [c13b0] | (simp only [i64_w, i32_w]; rw [c13b0]) | skip)
   replace H := Option.bind_eq_some_iff.mp H
   obtain ⟨t298, A140, H⟩ := H
   replace H : ((spec_l1DrawNode.f k s0_0 t296 t297 3).bind fun bt301 => (if t298.length < 5864062014805 then (spec_l1DrawAny.j0 k s0_0 bt301.2.2.2.1 bt301.2.2.2.2 (t298 ++ [(⟨bt301.1, bt301.2.1, bt301.2.2.1⟩ : S55)])) else (none))) = some (r1, r2, r3) := H
   have A14 := Aside0.mk A140
   clear A140
   replace H := Option.bind_eq_some_iff.mp H
   obtain ⟨⟨t301, t302, t303, t304, t305⟩, A150, H⟩ := H
   replace H : (if t298.length < 5864062014805 then (spec_l1DrawAny.j0 k s0_0 t304 t305 (t298 ++ [(⟨t301, t302, t303⟩ : S55)])) else (none)) = some (r1, r2, r3) := H
   have A15 := Aside0.mk A150
   clear A150
   by_cases c16 : t298.length < 5864062014805
   ·rw [if_pos c16] at H
    have LMc16 := Aside0.mk c16
    clear c16
    obtain ⟨y306, hy306⟩ : ∃ y_ : List (S55), y_ = (t298 ++ [(⟨t301, t302, t303⟩ : S55)]) := ⟨_, rfl⟩
    replace H : (spec_l1DrawAny.j0 k s0_0 t304 t305 y306) = some (r1, r2, r3) := by first | (rw [hy306]; with_reducible exact H) | (have H2_ := (Option.bind_some _ _).symm.trans H; rw [hy306]; with_reducible exact H2_) | (have H2_ := (Option.bind_some _ _).symm.trans H; with_reducible exact H2_) | with_reducible exact H | (rw [hy306]; exact H) | exact H
    have Ny306 := Aside0.mk hy306
    clear hy306
    have H' := Aside0.mk H
    clear H
    have hnb17 := NB294_288.out
    have hnc17 := NB288_294.out
    have hnb18 := NB294_0.out
    have hnc18 := NB0_294.out
    have hcz19_0 : w12.cell? ⟨gb294, 0, none⟩ = some (.slice Ao8 t289.length co8) := (blk_cell BK294.out 0).trans rfl
    have hfz19_0 := blk_frozen BK294.out 0
    go_wp2_with (first | ((with_reducible refine gate_callee (f := 27) rfl ?_); refine goesL_ (some 11) rfl rfl Try.func27 (by kernel_rfl) rfl #[.agg #[.slice Ao8 t289.length co8]] rfl zl ?_; (with_reducible refine (spec_l1Copy.calls _ _ t289 t298 _ ?side1 ?side2 A14.out).mono ?_); (case side1 => exact zc (Kd.R_reads' HO291.out).2.2); (case side2 => exact (Kd.R_reads' HO291.out).2.1); rintro e w20 ⟨v299, rfl, ho0, hb⟩; refine ⟨_, rfl, ?_⟩; have n0_ := Aside0.mk (Kd.R_elder' (zr HO291.out) (Kd.R_base ho0) hb); have n1_ := Aside0.mk (Kd.R_lower (Kd.R_new' ho0 (Kd.R_lt (zr HO291.out))) (keep_size (w := w) (g := g) (row := none) (zq HK.out))); have n2_ := Aside0.mk (IsS86.below (zi86 HI0.out) hb); have n3_ := Aside0.mk (blk_below (zh BK288.out) hb); have n4_ := Aside0.mk (blk_below (zh BK294.out) hb); have n5_ := Aside0.mk (KeepBut.trans (zq HK.out) (KeepBut.of_below hb g none) (.inl rfl)); have n6_ := Aside0.mk (below_step (zj HB.out (IsS86.ge HI0.out)) hb); clear HO291; clear HI0; clear BK288; clear BK294; clear HK; clear HB; have HO291 := n0_; have HO300 := n1_; have HI0 := n2_; have BK288 := n3_; have BK294 := n4_; have HK := n5_; have HB := n6_; clear n0_ n1_ n2_ n3_ n4_ n5_ n6_; (try clear hb); (try clear hb2); (try clear hk); (try clear hi); (try clear ho0)) | ((with_reducible refine gate_callee (f := 71) rfl ?_); refine goesL_ (some 14) rfl rfl Try.func71 (by kernel_rfl) rfl #[.pointer (some ⟨g, 0, none⟩), .int .i64 3] rfl zl ?_; (with_reducible refine (spec_l1DrawNode.calls k g s0_0 t296 t297 3 t301 t302 t303 t304 t305 w0 _ ?side1 ?side2 A15.out).mono ?_); (case side1 => exact zi86 HI0.out); (case side2 => exact zj HB.out (IsS86.ge HI0.out)); rintro e w21 ⟨rfl, hi, hb, hk⟩; refine ⟨_, rfl, ?_⟩; have n0_ := Aside0.mk (KeepBut.blk hk (g' := gb288) (o := .cells #[.slice none 0 0] 28 (0, 0)) (zh BK288.out) NB288_0.out (by simp)); have n1_ := Aside0.mk (Kd.R_mono (Kd.R_keep (IsS86.apart (show IsS86 w0 _ g s0_0 t296 t297 from zi86 HI0.out) (zr HO291.out) (by decide)) hk (fun _ h => h.2)) (fun _ h => h.1)); have n2_ := Aside0.mk (KeepBut.blk hk (g' := gb294) (o := .cells #[.slice Ao8 t289.length co8] 28 (0, 0)) (zh BK294.out) NB294_0.out (by simp)); have n3_ := Aside0.mk (Kd.R_mono (Kd.R_keep (IsS86.apart (show IsS86 w0 _ g s0_0 t296 t297 from zi86 HI0.out) (zr HO300.out) (by decide)) hk (fun _ h => h.2)) (fun _ h => h.1)); have n4_ := Aside0.mk (KeepBut.trans (zq HK.out) hk (.inl rfl)); have n5_ := Aside0.mk (hb); have n6_ := Aside0.mk (hi); clear BK288; clear HO291; clear BK294; clear HO300; clear HK; clear HB; clear HI0; have BK288 := n0_; have HO291 := n1_; have BK294 := n2_; have HO300 := n3_; have HK := n4_; have HB := n5_; have HI0 := n6_; clear n0_ n1_ n2_ n3_ n4_ n5_ n6_; (try clear hb); (try clear hb2); (try clear hk); (try clear hi)) | ((with_reducible refine gate_builtin (b := .append) (xs := #[.tmp 12, .tmp 15]) rfl ?_); at_builtin; refine Kd.R_append k55 w.heap.size rfl (.tmp 12) (.tmp 15) 26 55 (.agg #[(.int .i64 0), (.int .i64 0), (.int .i64 0)]) 24 rfl Try.underlying26 info55 rfl (by decide) (by omega) v299 t298 (⟨t301, t302, t303⟩ : S55) [.int .i64 t301, .int .i64 t302, .int .i64 t303] (fun k_ => some k_ ≠ (.slice Ao8 t289.length co8 : Value).ownBlock) (fun _ => False) rfl rfl ?aP (fun _ hk => hk.elim) ?aF ?aO (Below.refl _ _) ?aS ?aL ?_; (case aP => exact k55_mkM _ _ _ (⟨t301, t302, t303⟩ : S55)); (case aF => exact (fun k_ hk => Kd.fresh' (Kd.R_lt (zr HO291.out)) k_ hk)); (case aO => exact (by (with_reducible repeat (first | apply Kd.R_alloc | apply Kd.R_drewN | apply Kd.R_drew)); exact Kd.R_mono HO300.out (fun _ hk => hk.2))); (case aS => exact (keep_size (w := w) (g := g) (row := none) (zq HK.out))); (case aL => have := LMc16.out; omega); intro v307 w22 ho hb hg hat; rw [← Ny306.out] at ho; have n0_ := Aside0.mk (IsS86.grown (zi86 HI0.out) hg (IsS86.own_ne HI0.out HO300.out (by decide))); have n1_ := Aside0.mk (blk_grown (zh BK288.out) hg (Kd.R_ne HO300.out BK288.out (by decide))); have n2_ := Aside0.mk (Kd.R_after (ok := (fun _ => True)) (zr HO291.out) hg hat); have n3_ := Aside0.mk (blk_grown (zh BK294.out) hg (Kd.R_ne HO300.out BK294.out (by decide))); have n4_ := Aside0.mk (below_weaken (zj HB.out (IsS86.ge HI0.out)) HL.out hb); have n5_ := Aside0.mk (KeepBut.trans (zq HK.out) (KeepBut.of_grown hg g) (Kd.R_base2 HO300.out)); have n6_ := Aside0.mk (ho); clear HI0; clear BK288; clear HO291; clear BK294; clear HB; clear HK; clear HO300; have HI0 := n0_; have BK288 := n1_; have HO291 := n2_; have BK294 := n3_; have HB := n4_; have HK := n5_; have HO308 := n6_; clear n0_ n1_ n2_ n3_ n4_ n5_ n6_; clear ho hb hg hat; obtain ⟨Ao23, co23, eo23⟩ := Kd.R_slice HO308.out; subst eo23; have hcz24_0 : w22.cell? ⟨gb294, 0, none⟩ = some (.slice Ao8 t289.length co8) := (blk_cell BK294.out 0).trans rfl; have hfz24_0 := blk_frozen BK294.out 0))
    go_meet
    case rel => exact ⟨_, (t304), (t305), (y306), (.slice Ao23 y306.length co23), H', ⟨by first | omega | exact Nat.le_refl _⟩, ⟨zr (Kd.R_mono (Kd.R_far (p := ⟨gb294, 0, none⟩) (Kd.R_types HO308.out BK294.out (by decide)) (fun _ hk => hk.2) (.slice Ao23 y306.length co23)) (fun _ hk => trivial))⟩, ⟨zf BK288.out⟩, ⟨by (with_reducible repeat (first | refine blk_drewN ?_ _ | refine blk_drew ?_ | refine blk_alloc ?_ _)); refine blk_put (cs := #[.slice Ao8 t289.length co8]) ?_ 0 _ rfl; (with_reducible repeat (first | refine blk_drewN ?_ _ | refine blk_drew ?_ | refine blk_alloc ?_ _)); exact BK294.out⟩, ⟨zi86 HI0.out⟩, ⟨zq HK.out⟩, ⟨zj HB.out (IsS86.ge HI0.out)⟩⟩
   ·rw [if_neg c16] at H
    exact absurd H (by simp)
  ·rw [if_neg c13] at H
   have c13b0 : (t295 == 0) = false := beq_eq_false_iff_ne.mpr c13
   have c13b1 : (t295 != 0) = true := bne_iff_ne.mpr c13
   (first | rw [c13b0] | (simp only [i64_w, i32_w]; rw [c13b0]) | skip)
   by_cases c25 : t295 = 1
   ·rw [if_pos c25] at H
    have c25b0 : (t295 == 1) = true := beq_iff_eq.mpr c25
    have c25b1 : (t295 != 1) = false := bne_eq_false_iff_eq.mpr c25
    clear c25
    replace H := Option.bind_eq_some_iff.mp H
    obtain ⟨t309, A260, H⟩ := H
    replace H : ((spec_l1Below.f s0_0 t296 t297 10).bind fun bt312 => ((spec_l1Below.f s0_0 bt312.2.1 bt312.2.2 30).bind fun bt315 => ((spec_l1Below.f s0_0 bt315.2.1 bt315.2.2 30).bind fun bt318 => (if t309.length < 5864062014805 then (spec_l1DrawAny.j0 k s0_0 bt318.2.1 bt318.2.2 (t309 ++ [(⟨bt312.1, wrap64 (bt315.1 - 1), wrap64 (bt318.1 - 1)⟩ : S55)])) else (none))))) = some (r1, r2, r3) := H
    have A26 := Aside0.mk A260
    clear A260
    replace H := Option.bind_eq_some_iff.mp H
    obtain ⟨⟨t312, t313, t314⟩, A270, H⟩ := H
    replace H : ((spec_l1Below.f s0_0 t313 t314 30).bind fun bt315 => ((spec_l1Below.f s0_0 bt315.2.1 bt315.2.2 30).bind fun bt318 => (if t309.length < 5864062014805 then (spec_l1DrawAny.j0 k s0_0 bt318.2.1 bt318.2.2 (t309 ++ [(⟨t312, wrap64 (bt315.1 - 1), wrap64 (bt318.1 - 1)⟩ : S55)])) else (none)))) = some (r1, r2, r3) := H
    have A27 := Aside0.mk A270
    clear A270
    replace H := Option.bind_eq_some_iff.mp H
    obtain ⟨⟨t315, t316, t317⟩, A280, H⟩ := H
    replace H : ((spec_l1Below.f s0_0 t316 t317 30).bind fun bt318 => (if t309.length < 5864062014805 then (spec_l1DrawAny.j0 k s0_0 bt318.2.1 bt318.2.2 (t309 ++ [(⟨t312, wrap64 (t315 - 1), wrap64 (bt318.1 - 1)⟩ : S55)])) else (none))) = some (r1, r2, r3) := H
    have A28 := Aside0.mk A280
    clear A280
    replace H := Option.bind_eq_some_iff.mp H
    obtain ⟨⟨t318, t319, t320⟩, A290, H⟩ := H
    replace H : (if t309.length < 5864062014805 then (spec_l1DrawAny.j0 k s0_0 t319 t320 (t309 ++ [(⟨t312, wrap64 (t315 - 1), wrap64 (t318 - 1)⟩ : S55)])) else (none)) = some (r1, r2, r3) := H
    have A29 := Aside0.mk A290
    clear A290
    by_cases c30 : t309.length < 5864062014805
    ·rw [if_pos c30] at H
     have LMc30 := Aside0.mk c30
     clear c30
     obtain ⟨y321, hy321⟩ : ∃ y_ : List (S55), y_ = (t309 ++ [(⟨t312, wrap64 (t315 - 1), wrap64 (t318 - 1)⟩ : S55)]) := ⟨_, rfl⟩
     replace H : (spec_l1DrawAny.j0 k s0_0 t319 t320 y321) = some (r1, r2, r3) := by first | (rw [hy321]; with_reducible exact H) | (have H2_ := (Option.bind_some _ _).symm.trans H; rw [hy321]; with_reducible exact H2_) | (have H2_ := (Option.bind_some _ _).symm.trans H; with_reducible exact H2_) | with_reducible exact H | (rw [hy321]; exact H) | exact H
     have Ny321 := Aside0.mk hy321
     clear hy321
     have H' := Aside0.mk H
     clear H
     have hnb31 := NB294_288.out
     have hnc31 := NB288_294.out
     have hnb32 := NB294_0.out
     have hnc32 := NB0_294.out
     have hcz33_0 : w12.cell? ⟨gb294, 0, none⟩ = some (.slice Ao8 t289.length co8) := (blk_cell BK294.out 0).trans rfl
     have hfz33_0 := blk_frozen BK294.out 0
     go_wp2_with (first | ((with_reducible refine gate_callee (f := 27) rfl ?_); refine goesL_ (some 21) rfl rfl Try.func27 (by kernel_rfl) rfl #[.agg #[.slice Ao8 t289.length co8]] rfl zl ?_; (with_reducible refine (spec_l1Copy.calls _ _ t289 t309 _ ?side1 ?side2 A26.out).mono ?_); (case side1 => exact zc (Kd.R_reads' HO291.out).2.2); (case side2 => exact (Kd.R_reads' HO291.out).2.1); rintro e w34 ⟨v310, rfl, ho0, hb⟩; refine ⟨_, rfl, ?_⟩; have n0_ := Aside0.mk (Kd.R_elder' (zr HO291.out) (Kd.R_base ho0) hb); have n1_ := Aside0.mk (Kd.R_lower (Kd.R_new' ho0 (Kd.R_lt (zr HO291.out))) (keep_size (w := w) (g := g) (row := none) (zq HK.out))); have n2_ := Aside0.mk (IsS86.below (zi86 HI0.out) hb); have n3_ := Aside0.mk (blk_below (zh BK288.out) hb); have n4_ := Aside0.mk (blk_below (zh BK294.out) hb); have n5_ := Aside0.mk (KeepBut.trans (zq HK.out) (KeepBut.of_below hb g none) (.inl rfl)); have n6_ := Aside0.mk (below_step (zj HB.out (IsS86.ge HI0.out)) hb); clear HO291; clear HI0; clear BK288; clear BK294; clear HK; clear HB; have HO291 := n0_; have HO311 := n1_; have HI0 := n2_; have BK288 := n3_; have BK294 := n4_; have HK := n5_; have HB := n6_; clear n0_ n1_ n2_ n3_ n4_ n5_ n6_; (try clear hb); (try clear hb2); (try clear hk); (try clear hi); (try clear ho0)) | ((with_reducible refine gate_callee (f := 68) rfl ?_); refine goesL_ (some 24) rfl rfl Try.func68 (by kernel_rfl) rfl #[.pointer (some ⟨g, 0, none⟩), .int .i64 10] rfl zl ?_; (with_reducible refine (spec_l1Below.calls g s0_0 t296 t297 10 t312 t313 t314 w0 _ ?side1 ?side2 A27.out).mono ?_); (case side1 => exact zi86 HI0.out); (case side2 => exact zj HB.out (IsS86.ge HI0.out)); rintro e w35 ⟨rfl, hi, hb, hk⟩; refine ⟨_, rfl, ?_⟩; have n0_ := Aside0.mk (KeepBut.blk hk (g' := gb288) (o := .cells #[.slice none 0 0] 28 (0, 0)) (zh BK288.out) NB288_0.out (by simp)); have n1_ := Aside0.mk (Kd.R_mono (Kd.R_keep (IsS86.apart (show IsS86 w0 _ g s0_0 t296 t297 from zi86 HI0.out) (zr HO291.out) (by decide)) hk (fun _ h => h.2)) (fun _ h => h.1)); have n2_ := Aside0.mk (KeepBut.blk hk (g' := gb294) (o := .cells #[.slice Ao8 t289.length co8] 28 (0, 0)) (zh BK294.out) NB294_0.out (by simp)); have n3_ := Aside0.mk (Kd.R_mono (Kd.R_keep (IsS86.apart (show IsS86 w0 _ g s0_0 t296 t297 from zi86 HI0.out) (zr HO311.out) (by decide)) hk (fun _ h => h.2)) (fun _ h => h.1)); have n4_ := Aside0.mk (KeepBut.trans (zq HK.out) hk (.inl rfl)); have n5_ := Aside0.mk (hb); have n6_ := Aside0.mk (hi); clear BK288; clear HO291; clear BK294; clear HO311; clear HK; clear HB; clear HI0; have BK288 := n0_; have HO291 := n1_; have BK294 := n2_; have HO311 := n3_; have HK := n4_; have HB := n5_; have HI0 := n6_; clear n0_ n1_ n2_ n3_ n4_ n5_ n6_; (try clear hb); (try clear hb2); (try clear hk); (try clear hi)) | ((with_reducible refine gate_callee (f := 68) rfl ?_); refine goesL_ (some 26) rfl rfl Try.func68 (by kernel_rfl) rfl #[.pointer (some ⟨g, 0, none⟩), .int .i64 30] rfl zl ?_; (with_reducible refine (spec_l1Below.calls g s0_0 t313 t314 30 t315 t316 t317 w0 _ ?side1 ?side2 A28.out).mono ?_); (case side1 => exact zi86 HI0.out); (case side2 => exact zj HB.out (IsS86.ge HI0.out)); rintro e w36 ⟨rfl, hi, hb, hk⟩; refine ⟨_, rfl, ?_⟩; have n0_ := Aside0.mk (KeepBut.blk hk (g' := gb288) (o := .cells #[.slice none 0 0] 28 (0, 0)) (zh BK288.out) NB288_0.out (by simp)); have n1_ := Aside0.mk (Kd.R_mono (Kd.R_keep (IsS86.apart (show IsS86 w0 _ g s0_0 t313 t314 from zi86 HI0.out) (zr HO291.out) (by decide)) hk (fun _ h => h.2)) (fun _ h => h.1)); have n2_ := Aside0.mk (KeepBut.blk hk (g' := gb294) (o := .cells #[.slice Ao8 t289.length co8] 28 (0, 0)) (zh BK294.out) NB294_0.out (by simp)); have n3_ := Aside0.mk (Kd.R_mono (Kd.R_keep (IsS86.apart (show IsS86 w0 _ g s0_0 t313 t314 from zi86 HI0.out) (zr HO311.out) (by decide)) hk (fun _ h => h.2)) (fun _ h => h.1)); have n4_ := Aside0.mk (KeepBut.trans (zq HK.out) hk (.inl rfl)); have n5_ := Aside0.mk (hb); have n6_ := Aside0.mk (hi); clear BK288; clear HO291; clear BK294; clear HO311; clear HK; clear HB; clear HI0; have BK288 := n0_; have HO291 := n1_; have BK294 := n2_; have HO311 := n3_; have HK := n4_; have HB := n5_; have HI0 := n6_; clear n0_ n1_ n2_ n3_ n4_ n5_ n6_; (try clear hb); (try clear hb2); (try clear hk); (try clear hi)) | ((with_reducible refine gate_callee (f := 68) rfl ?_); refine goesL_ (some 29) rfl rfl Try.func68 (by kernel_rfl) rfl #[.pointer (some ⟨g, 0, none⟩), .int .i64 30] rfl zl ?_; (with_reducible refine (spec_l1Below.calls g s0_0 t316 t317 30 t318 t319 t320 w0 _ ?side1 ?side2 A29.out).mono ?_); (case side1 => exact zi86 HI0.out); (case side2 => exact zj HB.out (IsS86.ge HI0.out)); rintro e w37 ⟨rfl, hi, hb, hk⟩; refine ⟨_, rfl, ?_⟩; have n0_ := Aside0.mk (KeepBut.blk hk (g' := gb288) (o := .cells #[.slice none 0 0] 28 (0, 0)) (zh BK288.out) NB288_0.out (by simp)); have n1_ := Aside0.mk (Kd.R_mono (Kd.R_keep (IsS86.apart (show IsS86 w0 _ g s0_0 t316 t317 from zi86 HI0.out) (zr HO291.out) (by decide)) hk (fun _ h => h.2)) (fun _ h => h.1)); have n2_ := Aside0.mk (KeepBut.blk hk (g' := gb294) (o := .cells #[.slice Ao8 t289.length co8] 28 (0, 0)) (zh BK294.out) NB294_0.out (by simp)); have n3_ := Aside0.mk (Kd.R_mono (Kd.R_keep (IsS86.apart (show IsS86 w0 _ g s0_0 t316 t317 from zi86 HI0.out) (zr HO311.out) (by decide)) hk (fun _ h => h.2)) (fun _ h => h.1)); have n4_ := Aside0.mk (KeepBut.trans (zq HK.out) hk (.inl rfl)); have n5_ := Aside0.mk (hb); have n6_ := Aside0.mk (hi); clear BK288; clear HO291; clear BK294; clear HO311; clear HK; clear HB; clear HI0; have BK288 := n0_; have HO291 := n1_; have BK294 := n2_; have HO311 := n3_; have HK := n4_; have HB := n5_; have HI0 := n6_; clear n0_ n1_ n2_ n3_ n4_ n5_ n6_; (try clear hb); (try clear hb2); (try clear hk); (try clear hi)) | ((with_reducible refine gate_builtin (b := .append) (xs := #[.tmp 22, .tmp 32]) rfl ?_); at_builtin; refine Kd.R_append k55 w.heap.size rfl (.tmp 22) (.tmp 32) 26 55 (.agg #[(.int .i64 0), (.int .i64 0), (.int .i64 0)]) 24 rfl Try.underlying26 info55 rfl (by decide) (by omega) v310 t309 (⟨t312, wrap64 (t315 - 1), wrap64 (t318 - 1)⟩ : S55) [.int .i64 t312, .int .i64 (wrap64 (t315 - 1)), .int .i64 (wrap64 (t318 - 1))] (fun k_ => some k_ ≠ (.slice Ao8 t289.length co8 : Value).ownBlock) (fun _ => False) rfl rfl ?aP (fun _ hk => hk.elim) ?aF ?aO (Below.refl _ _) ?aS ?aL ?_; (case aP => exact k55_mkM _ _ _ (⟨t312, wrap64 (t315 - 1), wrap64 (t318 - 1)⟩ : S55)); (case aF => exact (fun k_ hk => Kd.fresh' (Kd.R_lt (zr HO291.out)) k_ hk)); (case aO => exact (by (with_reducible repeat (first | apply Kd.R_alloc | apply Kd.R_drewN | apply Kd.R_drew)); exact Kd.R_mono HO311.out (fun _ hk => hk.2))); (case aS => exact (keep_size (w := w) (g := g) (row := none) (zq HK.out))); (case aL => have := LMc30.out; omega); intro v322 w38 ho hb hg hat; rw [← Ny321.out] at ho; have n0_ := Aside0.mk (IsS86.grown (zi86 HI0.out) hg (IsS86.own_ne HI0.out HO311.out (by decide))); have n1_ := Aside0.mk (blk_grown (zh BK288.out) hg (Kd.R_ne HO311.out BK288.out (by decide))); have n2_ := Aside0.mk (Kd.R_after (ok := (fun _ => True)) (zr HO291.out) hg hat); have n3_ := Aside0.mk (blk_grown (zh BK294.out) hg (Kd.R_ne HO311.out BK294.out (by decide))); have n4_ := Aside0.mk (below_weaken (zj HB.out (IsS86.ge HI0.out)) HL.out hb); have n5_ := Aside0.mk (KeepBut.trans (zq HK.out) (KeepBut.of_grown hg g) (Kd.R_base2 HO311.out)); have n6_ := Aside0.mk (ho); clear HI0; clear BK288; clear HO291; clear BK294; clear HB; clear HK; clear HO311; have HI0 := n0_; have BK288 := n1_; have HO291 := n2_; have BK294 := n3_; have HB := n4_; have HK := n5_; have HO323 := n6_; clear n0_ n1_ n2_ n3_ n4_ n5_ n6_; clear ho hb hg hat; obtain ⟨Ao39, co39, eo39⟩ := Kd.R_slice HO323.out; subst eo39; have hcz40_0 : w38.cell? ⟨gb294, 0, none⟩ = some (.slice Ao8 t289.length co8) := (blk_cell BK294.out 0).trans rfl; have hfz40_0 := blk_frozen BK294.out 0))
     go_meet
     case rel => exact ⟨_, (t319), (t320), (y321), (.slice Ao39 y321.length co39), H', ⟨by first | omega | exact Nat.le_refl _⟩, ⟨zr (Kd.R_mono (Kd.R_far (p := ⟨gb294, 0, none⟩) (Kd.R_types HO323.out BK294.out (by decide)) (fun _ hk => hk.2) (.slice Ao39 y321.length co39)) (fun _ hk => trivial))⟩, ⟨zf BK288.out⟩, ⟨by (with_reducible repeat (first | refine blk_drewN ?_ _ | refine blk_drew ?_ | refine blk_alloc ?_ _)); refine blk_put (cs := #[.slice Ao8 t289.length co8]) ?_ 0 _ rfl; (with_reducible repeat (first | refine blk_drewN ?_ _ | refine blk_drew ?_ | refine blk_alloc ?_ _)); exact BK294.out⟩, ⟨zi86 HI0.out⟩, ⟨zq HK.out⟩, ⟨zj HB.out (IsS86.ge HI0.out)⟩⟩
    ·rw [if_neg c30] at H
     exact absurd H (by simp)
   ·rw [if_neg c25] at H
    have c25b0 : (t295 == 1) = false := beq_eq_false_iff_ne.mpr c25
    have c25b1 : (t295 != 1) = true := bne_iff_ne.mpr c25
    have H' := Aside0.mk H
    clear H
    go_wp2
    go_meet
    case rel => exact ⟨_, (t296), (t297), (t289), (.slice Ao8 t289.length co8), H', ⟨by first | omega | exact Nat.le_refl _⟩, ⟨zr HO291.out⟩, ⟨zh BK288.out⟩, ⟨zh BK294.out⟩, ⟨zi86 HI0.out⟩, ⟨zq HK.out⟩, ⟨zj HB.out (IsS86.ge HI0.out)⟩⟩
 case rest =>
  clear HC4
  try clear c1
  try clear c2
  try clear p2
  try clear c3
  try clear c5
  try clear c6
  try clear p6
  try clear c7
  try clear c9
  try clear c10
  try clear c13
  try clear c13b0
  try clear c13b1
  try clear c16
  try clear c17
  try clear c18
  try clear c25
  try clear c25b0
  try clear c25b1
  try clear c27
  try clear c30
  try clear c31
  try clear c32
  try clear hcz11_0
  try clear hcz19_0
  try clear hcz24_0
  try clear hcz33_0
  try clear hcz40_0
  try clear hfz11_0
  try clear hfz19_0
  try clear hfz24_0
  try clear hfz33_0
  try clear hfz40_0
  obtain ⟨kq, x1001_3, x1002_3, x295000_3, u295000, HA, HJ3, HO_295000, BK288, BK294, HI0, HK, HB⟩ := hcut
  cases kq with
  | zero => exact absurd HA.out (by simp [spec_l1DrawAny.j0])
  | succ kj3 =>
   have H := HA.out
   clear HA
   simp only [spec_l1DrawAny.j0] at H
   replace H := Option.bind_eq_some_iff.mp H
   obtain ⟨⟨t324, t325, t326⟩, A410, H⟩ := H
   replace H : (if t324 = true then (spec_l1DrawAny.l0 kj3 s0_0 t325 t326 ([] : List (S55))) else (some (x295000_3, t325, t326))) = some (r1, r2, r3) := H
   have A41 := Aside0.mk A410
   clear A410
   by_cases c42 : t324 = true
   ·subst c42
    have H1 : (spec_l1DrawAny.l0 kj3 s0_0 t325 t326 ([] : List (S55))) = some (r1, r2, r3) := by rw [if_pos rfl] at H; exact H
    clear H
    have H := H1
    clear H1
    have H' := Aside0.mk H
    clear H
    go_wp2_with (first | ((with_reducible refine gate_callee (f := 44) rfl ?_); refine goesL_ (some 36) rfl rfl Try.func44 (by kernel_rfl) rfl #[.pointer (some ⟨g, 0, none⟩), .int .i64 80] rfl zl ?_; (with_reducible refine (spec_l1Once.calls g s0_0 x1001_3 x1002_3 80 true t325 t326 w0 _ ?side1 ?side2 A41.out).mono ?_); (case side1 => exact zi86 HI0.out); (case side2 => exact zj HB.out (IsS86.ge HI0.out)); rintro e w43 ⟨rfl, hi, hb, hk⟩; refine ⟨_, rfl, ?_⟩; have n0_ := Aside0.mk (Kd.R_mono (Kd.R_keep (IsS86.apart (show IsS86 w0 _ g s0_0 x1001_3 x1002_3 from zi86 HI0.out) (zr HO_295000.out) (by decide)) hk (fun _ h => h.2)) (fun _ h => h.1)); have n1_ := Aside0.mk (KeepBut.blk hk (g' := gb288) (o := .cells #[.slice none 0 0] 28 (0, 0)) (zh BK288.out) NB288_0.out (by simp)); have n2_ := Aside0.mk (KeepBut.blk hk (g' := gb294) (o := .cells #[u295000] 28 (0, 0)) (zh BK294.out) NB294_0.out (by simp)); have n3_ := Aside0.mk (KeepBut.trans (zq HK.out) hk (.inl rfl)); have n4_ := Aside0.mk (hb); have n5_ := Aside0.mk (hi); clear HO_295000; clear BK288; clear BK294; clear HK; clear HB; clear HI0; have HO_295000 := n0_; have BK288 := n1_; have BK294 := n2_; have HK := n3_; have HB := n4_; have HI0 := n5_; clear n0_ n1_ n2_ n3_ n4_ n5_; (try clear hb); (try clear hb2); (try clear hk); (try clear hi); have hnb44 := NB294_288.out; have hnc44 := NB288_294.out; have hnb45 := NB294_0.out; have hnc45 := NB0_294.out; have hcz46_0 : w43.cell? ⟨gb294, 0, none⟩ = some (u295000) := (blk_cell BK294.out 0).trans rfl; have hfz46_0 := blk_frozen BK294.out 0))
    go_loopg [] kj3 (fun kq w' => ∃ (x295000_2 : List (S55)) (u295000 : Value), Aside0 (spec_l1DrawAny.l0 kq s0_0 t325 t326 x295000_2 = some (r1, r2, r3)) ∧ Aside0 (kq ≤ kj3) ∧ Aside0 (Kd.R k55 55 w' w.heap.size (fun _ => True) u295000 x295000_2) ∧ Aside0 (w'.heap[gb288]? = some (.cells #[(.slice none 0 0)] 28 (0, 0))) ∧ Aside0 (w'.heap[gb294]? = some (.cells #[u295000] 28 (0, 0))) ∧ Aside0 (IsS86 w0 w' g s0_0 t325 t326) ∧ Aside0 (KeepBut w w' g none) ∧ Aside0 (Below w0.heap.size w0 w'))
    case atStart => exact ⟨(([] : List (S55))), (.slice none 0 0), H', ⟨Nat.le_refl _⟩, ⟨by first | exact Kd.R_nil _ _ _ _ _ | exact Kd.N_nil _ _ _ _ _ | exact Kd.V_nil _ _ _ _ _ | exact Kd.Q_nil _ _ _ _ _ | exact Kd.S_nil _ _ _ _ _⟩, ⟨zf BK288.out⟩, ⟨by (with_reducible repeat (first | refine blk_drewN ?_ _ | refine blk_drew ?_ | refine blk_alloc ?_ _)); refine blk_put (cs := #[u295000]) ?_ 0 _ rfl; (with_reducible repeat (first | refine blk_drewN ?_ _ | refine blk_drew ?_ | refine blk_alloc ?_ _)); exact BK294.out⟩, ⟨zi86 HI0.out⟩, ⟨zq HK.out⟩, ⟨zj HB.out (IsS86.ge HI0.out)⟩⟩
    case round =>
     clear H'
     try clear c1
     try clear c2
     try clear p2
     try clear c3
     try clear c4
     try clear c5
     try clear c6
     try clear p6
     try clear c7
     try clear c9
     try clear c10
     try clear c13
     try clear c13b0
     try clear c13b1
     try clear c16
     try clear c17
     try clear c18
     try clear c25
     try clear c25b0
     try clear c25b1
     try clear c27
     try clear c30
     try clear c31
     try clear c32
     try clear c42
     try clear c44
     try clear c45
     try clear hcz11_0
     try clear hcz19_0
     try clear hcz24_0
     try clear hcz33_0
     try clear hcz40_0
     try clear hcz46_0
     try clear hfz11_0
     try clear hfz19_0
     try clear hfz24_0
     try clear hfz33_0
     try clear hfz40_0
     try clear hfz46_0
     try clear p2
     try clear p6
     obtain ⟨x295000_2, u295000, HA, HK2, HO_295000, BK288, BK294, HI0, HK, HB⟩ := hrel
     cases gk with
     | zero => exact absurd HA.out (by simp [spec_l1DrawAny.l0])
     | succ k2 =>
      have H := HA.out
      clear HA
      simp only [spec_l1DrawAny.l0] at H
      by_cases c47 : (x295000_2.length : Int) < 500
      ·rw [if_pos c47] at H
       have c47b0 : decide ((x295000_2.length : Int) < 500) = true := decide_eq_true c47
       have c47b1 : decide (x295000_2.length < 500) = true := decide_eq_true (by omega)
       clear c47
       replace H := Option.bind_eq_some_iff.mp H
       obtain ⟨⟨t327, t330⟩, A480, H⟩ := H
       replace H : ((spec_l1Add.f k2 t327 5 (wrap64 ((t327.length : Int) - 1)) 0).bind fun bt331 => (spec_l1DrawAny.l0 k2 s0_0 t325 t326 bt331.1)) = some (r1, r2, r3) := H
       have A48 := Aside0.mk A480
       clear A480
       replace H := Option.bind_eq_some_iff.mp H
       obtain ⟨⟨t331, t334⟩, A490, H⟩ := H
       replace H : (spec_l1DrawAny.l0 k2 s0_0 t325 t326 t331) = some (r1, r2, r3) := H
       have A49 := Aside0.mk A490
       clear A490
       have H' := Aside0.mk H
       clear H
       have hnb50 := NB294_288.out
       have hnc50 := NB288_294.out
       have hnb51 := NB294_0.out
       have hnc51 := NB0_294.out
       have hcz52_0 : wr.cell? ⟨gb294, 0, none⟩ = some (u295000) := (blk_cell BK294.out 0).trans rfl
       have hfz52_0 := blk_frozen BK294.out 0
       obtain ⟨Ao53, co53, eo53⟩ := Kd.R_slice HO_295000.out
       subst eo53
       go_wp2_with (first | ((with_reducible refine gate_callee (f := 30) rfl ?_); refine goesL_ (some 49) rfl rfl Try.func30 (by kernel_rfl) rfl #[.agg #[.slice Ao53 x295000_2.length co53], .agg #[.int .i64 1, .int .i64 ((x295000_2.length : Int) % 200), .int .i64 0]] rfl zl ?_; (with_reducible refine (spec_l1Add.calls k2 (fun k_ => some k_ = (.slice Ao53 x295000_2.length co53 : Value).ownBlock) (.slice Ao53 x295000_2.length co53) x295000_2 1 ((x295000_2.length : Int) % 200) 0 t327 t330 w0 _ ?side1 ?side2 A48.out).mono ?_); (case side1 => exact zj HB.out (IsS86.ge HI0.out)); (case side2 => exact Kd.R_lower (Kd.R_tight rfl HO_295000.out) HL.out); rintro e w54 ⟨v328, rfl, ho0, hb, hkp⟩; refine ⟨_, rfl, ?_⟩; have n0_ := Aside0.mk (blk_kept (zh BK288.out) hkp (fun hs_ => (fun e_ => (Kd.R_ne HO_295000.out BK288.out (by decide)) e_) hs_)); have n1_ := Aside0.mk (blk_kept (zh BK294.out) hkp (fun hs_ => (fun e_ => (Kd.R_ne HO_295000.out BK294.out (by decide)) e_) hs_)); have n2_ := Aside0.mk (IsS86.kept (zi86 HI0.out) hkp (fun hs_ => (fun e_ => (IsS86.own_ne HI0.out HO_295000.out (by decide)) e_) hs_)); have n3_ := Aside0.mk (Kd.R_mono (ok' := fun k_ => True) (Kd.R_raise (d := k55) (b := w0.heap.size) (b' := w.heap.size) (fun _ _ _ _ h_ => h_) ho0 (fun k_ e_ => Or.elim (ho0.1 k_ e_) (fun hs_ => (fun e_ => Kd.R_base HO_295000.out k_ e_.symm) hs_) (fun hn_ => Nat.le_trans (keep_size (w := w) (g := g) (row := none) (zq HK.out)) hn_))) (fun k_ hk_ => trivial)); have n4_ := Aside0.mk (Kept.keepG (zq HK.out) hkp (fun k_ hs_ => (fun e_ => .inr (Kd.R_base HO_295000.out k_ e_.symm)) hs_)); have n5_ := Aside0.mk (hb); clear BK288; clear BK294; clear HI0; clear HK; clear HB; clear HO_295000; have BK288 := n0_; have BK294 := n1_; have HI0 := n2_; have HO329 := n3_; have HK := n4_; have HB := n5_; clear n0_ n1_ n2_ n3_ n4_ n5_; (try clear hb); (try clear hkp); (try clear ho0); obtain ⟨Ao55, co55, eo55⟩ := Kd.R_slice HO329.out; subst eo55; have hcz56_0 : w54.cell? ⟨gb294, 0, none⟩ = some (.slice Ao53 x295000_2.length co53) := (blk_cell BK294.out 0).trans rfl; have hfz56_0 := blk_frozen BK294.out 0) | ((with_reducible refine gate_store (t := 28) (p := 3) rfl ?_); refine store_event (t := 28) (p := 3) (v := ?vo_w57) (w1 := (w54.setCell ⟨gb294, 0, none⟩ (.slice Ao55 t327.length co55))) ?hg ?ho ?hn ?hr ?_; (case ho => rfl); (case hg => rfl); (case hn => rfl); (case hr => first | (go_simp; done) | (go_simp; rfl)); intro w57 hw; have n0_ : Aside0 (Kd.R k55 55 w57 w.heap.size (fun _ => True) (.slice Ao55 t327.length co55) t327) := ⟨(by rw [hw]; exact (by (with_reducible repeat (first | apply Kd.R_alloc | apply Kd.R_drewN | apply Kd.R_drew)); exact Kd.R_mono (Kd.R_far (p := ⟨gb294, 0, none⟩) (Kd.R_types HO329.out BK294.out (by decide)) (fun _ hk => hk.2) (.slice Ao55 t327.length co55)) (fun _ hk => trivial)))⟩; have n1_ : Aside0 (w57.heap[gb288]? = some (.cells #[.slice none 0 0] 28 (0, 0))) := ⟨(by rw [hw]; exact (zf BK288.out))⟩; have n2_ : Aside0 (w57.heap[gb294]? = some (.cells #[.slice Ao55 t327.length co55] 28 (0, 0))) := ⟨(by rw [hw]; exact (by (with_reducible repeat (first | refine blk_drewN ?_ _ | refine blk_drew ?_ | refine blk_alloc ?_ _)); refine blk_put (cs := #[.slice Ao53 x295000_2.length co53]) ?_ 0 _ rfl; (with_reducible repeat (first | refine blk_drewN ?_ _ | refine blk_drew ?_ | refine blk_alloc ?_ _)); exact BK294.out))⟩; have n3_ : Aside0 (IsS86 w0 w57 g s0_0 t325 t326) := ⟨(by rw [hw]; exact (zi86 HI0.out))⟩; have n4_ : Aside0 (KeepBut w w57 g none) := ⟨(by rw [hw]; exact (zq HK.out))⟩; have n5_ : Aside0 (Below w0.heap.size w0 w57) := ⟨(by rw [hw]; exact (zj HB.out (IsS86.ge HI0.out)))⟩; clear hw; clear HO329; clear BK288; clear BK294; clear HI0; clear HK; clear HB; have HO329 := n0_; have BK288 := n1_; have BK294 := n2_; have HI0 := n3_; have HK := n4_; have HB := n5_; clear n0_ n1_ n2_ n3_ n4_ n5_; have hcz58_0 : w57.cell? ⟨gb294, 0, none⟩ = some (.slice Ao55 t327.length co55) := (blk_cell BK294.out 0).trans rfl; have hfz58_0 := blk_frozen BK294.out 0) | ((with_reducible refine gate_callee (f := 30) rfl ?_); refine goesL_ (some 59) rfl rfl Try.func30 (by kernel_rfl) rfl #[.agg #[.slice Ao55 t327.length co55], .agg #[.int .i64 5, .int .i64 (wrap64 ((t327.length : Int) - 1)), .int .i64 0]] rfl zl ?_; (with_reducible refine (spec_l1Add.calls k2 (fun k_ => some k_ = (.slice Ao55 t327.length co55 : Value).ownBlock) (.slice Ao55 t327.length co55) t327 5 (wrap64 ((t327.length : Int) - 1)) 0 t331 t334 w0 _ ?side1 ?side2 A49.out).mono ?_); (case side1 => exact zj HB.out (IsS86.ge HI0.out)); (case side2 => exact Kd.R_lower (Kd.R_tight rfl HO329.out) HL.out); rintro e w59 ⟨v332, rfl, ho0, hb, hkp⟩; refine ⟨_, rfl, ?_⟩; have n0_ := Aside0.mk (blk_kept (zh BK288.out) hkp (fun hs_ => (fun e_ => (Kd.R_ne HO329.out BK288.out (by decide)) e_) hs_)); have n1_ := Aside0.mk (blk_kept (zh BK294.out) hkp (fun hs_ => (fun e_ => (Kd.R_ne HO329.out BK294.out (by decide)) e_) hs_)); have n2_ := Aside0.mk (IsS86.kept (zi86 HI0.out) hkp (fun hs_ => (fun e_ => (IsS86.own_ne HI0.out HO329.out (by decide)) e_) hs_)); have n3_ := Aside0.mk (Kd.R_mono (ok' := fun k_ => True) (Kd.R_raise (d := k55) (b := w0.heap.size) (b' := w.heap.size) (fun _ _ _ _ h_ => h_) ho0 (fun k_ e_ => Or.elim (ho0.1 k_ e_) (fun hs_ => (fun e_ => Kd.R_base HO329.out k_ e_.symm) hs_) (fun hn_ => Nat.le_trans (keep_size (w := w) (g := g) (row := none) (zq HK.out)) hn_))) (fun k_ hk_ => trivial)); have n4_ := Aside0.mk (Kept.keepG (zq HK.out) hkp (fun k_ hs_ => (fun e_ => .inr (Kd.R_base HO329.out k_ e_.symm)) hs_)); have n5_ := Aside0.mk (hb); clear BK288; clear BK294; clear HI0; clear HK; clear HB; clear HO329; have BK288 := n0_; have BK294 := n1_; have HI0 := n2_; have HO333 := n3_; have HK := n4_; have HB := n5_; clear n0_ n1_ n2_ n3_ n4_ n5_; (try clear hb); (try clear hkp); (try clear ho0); obtain ⟨Ao60, co60, eo60⟩ := Kd.R_slice HO333.out; subst eo60; have hcz61_0 : w59.cell? ⟨gb294, 0, none⟩ = some (.slice Ao55 t327.length co55) := (blk_cell BK294.out 0).trans rfl; have hfz61_0 := blk_frozen BK294.out 0))
       go_roundg k2
       case measure => have := HJ3.out; have := HK2.out; omega
       case rel => exact ⟨(t331), (.slice Ao60 t331.length co60), H', ⟨by have := HJ3.out; have := HK2.out; omega⟩, ⟨zr (Kd.R_mono (Kd.R_far (p := ⟨gb294, 0, none⟩) (Kd.R_types HO333.out BK294.out (by decide)) (fun _ hk => hk.2) (.slice Ao60 t331.length co60)) (fun _ hk => trivial))⟩, ⟨zf BK288.out⟩, ⟨by (with_reducible repeat (first | refine blk_drewN ?_ _ | refine blk_drew ?_ | refine blk_alloc ?_ _)); refine blk_put (cs := #[.slice Ao55 t327.length co55]) ?_ 0 _ rfl; (with_reducible repeat (first | refine blk_drewN ?_ _ | refine blk_drew ?_ | refine blk_alloc ?_ _)); exact BK294.out⟩, ⟨zi86 HI0.out⟩, ⟨zq HK.out⟩, ⟨zj HB.out (IsS86.ge HI0.out)⟩⟩
      ·rw [if_neg c47] at H
       have c47b0 : decide ((x295000_2.length : Int) < 500) = false := decide_eq_false c47
       have c47b1 : decide (x295000_2.length < 500) = false := decide_eq_false (by omega)
       clear c47
       simp only [Option.some.injEq, Prod.mk.injEq] at H
       obtain ⟨rfl, rfl, rfl⟩ := H
       have hnb62 := NB294_288.out
       have hnc62 := NB288_294.out
       have hnb63 := NB294_0.out
       have hnc63 := NB0_294.out
       have hcz64_0 : wr.cell? ⟨gb294, 0, none⟩ = some (u295000) := (blk_cell BK294.out 0).trans rfl
       have hfz64_0 := blk_frozen BK294.out 0
       obtain ⟨Ao65, co65, eo65⟩ := Kd.R_slice HO_295000.out
       subst eo65
       have hnb66 := NB288_0.out
       have hnc66 := NB0_288.out
       have hcz67_0 : wr.cell? ⟨gb288, 0, none⟩ = some (.slice none 0 0) := (blk_cell BK288.out 0).trans rfl
       have hfz67_0 := blk_frozen BK288.out 0
       go_wp2
       refine bodyPost_ret (results_cell_row rfl _ _ gb288 28 #[.slice Ao65 x295000_2.length co65] (0, 0) _ rfl (by (with_reducible repeat (first | refine blk_drewN ?_ _ | refine blk_drew ?_ | refine blk_alloc ?_ _)); refine blk_put (cs := #[.slice none 0 0]) ?_ 0 _ rfl; (with_reducible repeat (first | refine blk_drewN ?_ _ | refine blk_drew ?_ | refine blk_alloc ?_ _)); exact BK288.out) Try.underlying28 rfl (by kernel_rfl)) rfl ?_
       exact ⟨_, ze, zr (Kd.R_mono (Kd.R_far (p := ⟨gb288, 0, none⟩) (Kd.R_types HO_295000.out BK288.out (by decide)) (fun _ hk => hk.2) (.slice Ao65 x295000_2.length co65)) (fun _ hk => trivial)), zi86 HI0.out, zj HB.out (IsS86.ge HI0.out), zq HK.out⟩
   ·replace c42 := Bool.eq_false_iff.mpr c42
    subst c42
    have H1 : (some (x295000_3, t325, t326)) = some (r1, r2, r3) := by rw [if_neg (show ¬ (false = true) by decide)] at H; exact H
    clear H
    have H := H1
    clear H1
    simp only [Option.some.injEq, Prod.mk.injEq] at H
    obtain ⟨rfl, rfl, rfl⟩ := H
    go_wp2_with (first | ((with_reducible refine gate_callee (f := 44) rfl ?_); refine goesL_ (some 36) rfl rfl Try.func44 (by kernel_rfl) rfl #[.pointer (some ⟨g, 0, none⟩), .int .i64 80] rfl zl ?_; (with_reducible refine (spec_l1Once.calls g s0_0 x1001_3 x1002_3 80 false t325 t326 w0 _ ?side1 ?side2 A41.out).mono ?_); (case side1 => exact zi86 HI0.out); (case side2 => exact zj HB.out (IsS86.ge HI0.out)); rintro e w68 ⟨rfl, hi, hb, hk⟩; refine ⟨_, rfl, ?_⟩; have n0_ := Aside0.mk (Kd.R_mono (Kd.R_keep (IsS86.apart (show IsS86 w0 _ g s0_0 x1001_3 x1002_3 from zi86 HI0.out) (zr HO_295000.out) (by decide)) hk (fun _ h => h.2)) (fun _ h => h.1)); have n1_ := Aside0.mk (KeepBut.blk hk (g' := gb288) (o := .cells #[.slice none 0 0] 28 (0, 0)) (zh BK288.out) NB288_0.out (by simp)); have n2_ := Aside0.mk (KeepBut.blk hk (g' := gb294) (o := .cells #[u295000] 28 (0, 0)) (zh BK294.out) NB294_0.out (by simp)); have n3_ := Aside0.mk (KeepBut.trans (zq HK.out) hk (.inl rfl)); have n4_ := Aside0.mk (hb); have n5_ := Aside0.mk (hi); clear HO_295000; clear BK288; clear BK294; clear HK; clear HB; clear HI0; have HO_295000 := n0_; have BK288 := n1_; have BK294 := n2_; have HK := n3_; have HB := n4_; have HI0 := n5_; clear n0_ n1_ n2_ n3_ n4_ n5_; (try clear hb); (try clear hb2); (try clear hk); (try clear hi); have hnb69 := NB294_288.out; have hnc69 := NB288_294.out; have hnb70 := NB294_0.out; have hnc70 := NB0_294.out; have hcz71_0 : w68.cell? ⟨gb294, 0, none⟩ = some (u295000) := (blk_cell BK294.out 0).trans rfl; have hfz71_0 := blk_frozen BK294.out 0; obtain ⟨Ao72, co72, eo72⟩ := Kd.R_slice HO_295000.out; subst eo72; have hnb73 := NB288_0.out; have hnc73 := NB0_288.out; have hcz74_0 : w68.cell? ⟨gb288, 0, none⟩ = some (.slice none 0 0) := (blk_cell BK288.out 0).trans rfl; have hfz74_0 := blk_frozen BK288.out 0))
    refine bodyPost_ret (results_cell_row rfl _ _ gb288 28 #[.slice Ao72 x295000_3.length co72] (0, 0) _ rfl (by (with_reducible repeat (first | refine blk_drewN ?_ _ | refine blk_drew ?_ | refine blk_alloc ?_ _)); refine blk_put (cs := #[.slice none 0 0]) ?_ 0 _ rfl; (with_reducible repeat (first | refine blk_drewN ?_ _ | refine blk_drew ?_ | refine blk_alloc ?_ _)); exact BK288.out) Try.underlying28 rfl (by kernel_rfl)) rfl ?_
    exact ⟨_, ze, zr (Kd.R_mono (Kd.R_far (p := ⟨gb288, 0, none⟩) (Kd.R_types HO_295000.out BK288.out (by decide)) (fun _ hk => hk.2) (.slice Ao72 x295000_3.length co72)) (fun _ hk => trivial)), zi86 HI0.out, zj HB.out (IsS86.ge HI0.out), zq HK.out⟩

/-! ### spec_l3Draw: function 41 -/
def spec_l3Draw.f (k : Nat) (l0 : List Int) : Option ((List (S55)) × Int × Int) := (spec_l1New.f k l0).bind fun bt336 => ((spec_l1DrawAny.f k bt336.1 bt336.2.1 bt336.2.2).bind fun bt340 => ((spec_l1DrawTerm.f k bt336.1 bt340.2.1 bt340.2.2 bt340.1).bind fun bt346 => ((spec_l1DrawTerm.f k bt336.1 bt346.2.1 bt346.2.2 bt340.1).bind fun bt349 => (some (bt340.1, bt346.1, bt349.1)))))
theorem spec_l3Draw.mono : ∀ a0 k, LeO (spec_l3Draw.f k a0) (spec_l3Draw.f (k + 1) a0) := by
 intro a0 k
 unfold spec_l3Draw.f
 repeat' first
   | (with_reducible exact spec_l1DrawAny.mono _ _ _ _)
   | (with_reducible exact spec_l1DrawTerm.mono _ _ _ _ _)
   | (with_reducible exact spec_l1New.mono _ _)
   | (with_reducible exact LeO.refl _)
   | (with_reducible exact LeO.none _)
   | (with_reducible refine LeO.ite ?_ ?_)
   | (with_reducible refine LeO.bind ?_ (fun _ => ?_))
   | exact spec_l1DrawAny.mono _ _ _ _
   | exact spec_l1DrawTerm.mono _ _ _ _ _
   | exact spec_l1New.mono _ _
   | exact LeO.none _
   | refine LeO.ite ?_ ?_
   | refine LeO.bind ?_ (fun _ => ?_)
def spec_l3Draw.T4 : Bool × List (List Nat × List Nat) := (true, [([], []), ([], []), ([], []), ([], []), ([2, 3], [2, 3]), ([0, 4, 0], [0]), ([1, 5, 0, 1, 5], [1]), ([4, 6, 0, 1, 2, 3, 4, 5, 6], [4])])
def spec_l3Draw.B4 : List Nat := [0, 0, 0, 0, 12, 29, 63, 127]
theorem spec_l3Draw.tab4 : rtab .any (opsOf Try.f41 4) = spec_l3Draw.T4 := by kernel_rfl
theorem spec_l3Draw.bits4 : waitsOk spec_l3Draw.T4.2 spec_l3Draw.B4 = true := by kernel_rfl
set_option maxHeartbeats 8000000 in
set_option maxRecDepth 100000 in
theorem spec_l3Draw.calls (k : Nat) (A0 : Option Addr) (c0 : Nat) (l0 : List Int) (r1 : List (S55)) (r2 : Int) (r3 : Int) (w : World) (hr0 : Kd.C (Kd.int .u8) w A0 l0.length l0) (hc0 : l0.length ≤ c0) (h : spec_l3Draw.f k l0 = some (r1, r2, r3)) :
  Calls Try.prog 41 #[.slice A0 l0.length c0] w fun e w' => ∃ v0_ : Value, e = .returned (.tuple #[.agg #[v0_], .int .i64 r2, .int .i64 r3]) ∧ Kd.R k55 55 w' w.heap.size (fun _ => True) v0_ r1 ∧ Below w.heap.size w w' := by
 have hu28 := Try.underlying28
 have HR0 := Aside0.mk hr0
 have HC0 := Aside0.mk hc0
 clear hr0 hc0
 have HB := Aside0.mk (Below.refl w.heap.size w)
 have H : ((spec_l1New.f k l0).bind fun bt336 => ((spec_l1DrawAny.f k bt336.1 bt336.2.1 bt336.2.2).bind fun bt340 => ((spec_l1DrawTerm.f k bt336.1 bt340.2.1 bt340.2.2 bt340.1).bind fun bt346 => ((spec_l1DrawTerm.f k bt336.1 bt346.2.1 bt346.2.2 bt340.1).bind fun bt349 => (some (bt340.1, bt346.1, bt349.1)))))) = some (r1, r2, r3) := h
 clear h
 replace H := Option.bind_eq_some_iff.mp H
 obtain ⟨⟨t336, t337, t338⟩, A20, H⟩ := H
 replace H : ((spec_l1DrawAny.f k t336 t337 t338).bind fun bt340 => ((spec_l1DrawTerm.f k t336 bt340.2.1 bt340.2.2 bt340.1).bind fun bt346 => ((spec_l1DrawTerm.f k t336 bt346.2.1 bt346.2.2 bt340.1).bind fun bt349 => (some (bt340.1, bt346.1, bt349.1))))) = some (r1, r2, r3) := H
 have A2 := Aside0.mk A20
 clear A20
 replace H := Option.bind_eq_some_iff.mp H
 obtain ⟨⟨t340, t343, t344⟩, A30, H⟩ := H
 replace H : ((spec_l1DrawTerm.f k t336 t343 t344 t340).bind fun bt346 => ((spec_l1DrawTerm.f k t336 bt346.2.1 bt346.2.2 t340).bind fun bt349 => (some (t340, bt346.1, bt349.1)))) = some (r1, r2, r3) := H
 have A3 := Aside0.mk A30
 clear A30
 replace H := Option.bind_eq_some_iff.mp H
 obtain ⟨⟨t346, t347, t348⟩, A40, H⟩ := H
 replace H : ((spec_l1DrawTerm.f k t336 t347 t348 t340).bind fun bt349 => (some (t340, t346, bt349.1))) = some (r1, r2, r3) := H
 have A4 := Aside0.mk A40
 clear A40
 replace H := Option.bind_eq_some_iff.mp H
 obtain ⟨⟨t349, t350, t351⟩, A50, H⟩ := H
 replace H : (some (t340, t346, t349)) = some (r1, r2, r3) := H
 have A5 := Aside0.mk A50
 clear A50
 simp only [Option.some.injEq, Prod.mk.injEq] at H
 obtain ⟨rfl, rfl, rfl⟩ := H
 go_enter Try.func41, Try.ntmps41
 try go_wp2_with (first | ((with_reducible refine gate_dst (N := 2) rfl ?_); refine box_event ?hg (N := 2) ?hd (cs := #[.slice none 0 0]) (t := 28) ?hr ?_; (case hd => rfl); (case hg => rfl); (case hr => first | (go_simp; done) | (go_simp; rfl)); intro gb335 hg w6 hbox hb; have n0_ := Aside0.mk (below_step (zb HB.out) hb); have n1_ := Aside0.mk (hbox); have n2_ := Aside0.mk ((by rw [hg]; exact (below_size (zb HB.out)) : w.heap.size ≤ gb335)); have n3_ := Aside0.mk ((by rw [hg]; exact (below_size (zb HB.out)) : w.heap.size ≤ gb335)); clear HB; have HB := n0_; have BK335 := n1_; have GW335 := n2_; have GE335 := n3_; clear n0_ n1_ n2_ n3_; clear hb hbox hg) | ((with_reducible refine gate_callee (f := 42) rfl ?_); refine goesL_ (some 9) rfl rfl Try.func42 (by kernel_rfl) rfl #[.slice A0 l0.length c0] rfl zl ?_; (with_reducible refine (spec_l1New.calls k _ _ l0 t336 t337 t338 w _ ?side1 ?side2 ?side3 A2.out).mono ?_); (case side1 => exact zb HB.out); (case side2 => exact HR0.out); (case side3 => exact HC0.out); rintro e w7 ⟨g339, rfl, hi, hb, hb2⟩; refine ⟨_, rfl, ?_⟩; have n0_ := Aside0.mk (blk_below (zh BK335.out) hb2); have n1_ := Aside0.mk (hb); have n2_ := Aside0.mk (hi); have n3_ := Aside0.mk (IsS86.ne_blk hi (blk_below (zh BK335.out) hb2) (by decide)); have n4_ := Aside0.mk (Ne.symm (IsS86.ne_blk hi (blk_below (zh BK335.out) hb2) (by decide))); clear BK335; clear HB; have BK335 := n0_; have HB := n1_; have HI339 := n2_; have NB339_335 := n3_; have NB335_339 := n4_; clear n0_ n1_ n2_ n3_ n4_; (try clear hb); (try clear hb2); (try clear hk); (try clear hi)) | ((with_reducible refine gate_callee (f := 50) rfl ?_); refine goesL_ (some 11) rfl rfl Try.func50 (by kernel_rfl) rfl #[.pointer (some ⟨g339, 0, none⟩)] rfl zl ?_; (with_reducible refine (spec_l1DrawAny.calls k g339 t336 t337 t338 t340 t343 t344 w _ ?side1 ?side2 A3.out).mono ?_); (case side1 => exact zi86 HI339.out); (case side2 => exact zj HB.out (IsS86.ge HI339.out)); rintro e w8 ⟨v341, rfl, ho0, hi, hb, hk⟩; refine ⟨_, rfl, ?_⟩; have n0_ := Aside0.mk (KeepBut.blk hk (g' := gb335) (o := .cells #[.slice none 0 0] 28 (0, 0)) (zh BK335.out) NB335_339.out (by simp)); have n1_ := Aside0.mk (Kd.R_lower ho0 (below_size (zj HB.out (IsS86.ge HI339.out)))); have n2_ := Aside0.mk (hb); have n3_ := Aside0.mk (hi); clear BK335; clear HB; clear HI339; have BK335 := n0_; have HO342 := n1_; have HB := n2_; have HI339 := n3_; clear n0_ n1_ n2_ n3_; (try clear hb); (try clear hb2); (try clear hk); (try clear hi); (try clear ho0)) | ((with_reducible refine gate_dst (N := 6) rfl ?_); refine box_event ?hg (N := 6) ?hd (cs := #[.slice none 0 0]) (t := 28) ?hr ?_; (case hd => rfl); (case hg => rfl); (case hr => first | (go_simp; done) | (go_simp; rfl)); intro gb345 hg w9 hbox hb; have n0_ := Aside0.mk (Kd.R_below (zr HO342.out) hb); have n1_ := Aside0.mk (blk_below (zh BK335.out) hb); have n2_ := Aside0.mk (IsS86.below (zi86 HI339.out) hb); have n3_ := Aside0.mk (below_step (zj HB.out (IsS86.ge HI339.out)) hb); have n4_ := Aside0.mk (hbox); have n5_ := Aside0.mk ((by rw [hg]; exact (below_size (zj HB.out (IsS86.ge HI339.out))) : w.heap.size ≤ gb345)); have n6_ := Aside0.mk ((by rw [hg]; exact (below_size (zj HB.out (IsS86.ge HI339.out))) : w.heap.size ≤ gb345)); have n7_ := Aside0.mk ((by rw [hg]; exact Nat.ne_of_lt (blk_lt (zh BK335.out)) : gb335 ≠ gb345)); have n8_ := Aside0.mk ((by rw [hg]; exact Nat.ne_of_gt (blk_lt (zh BK335.out)) : gb345 ≠ gb335)); have n9_ := Aside0.mk ((by rw [hg]; exact Nat.ne_of_lt (IsS86.lt (show IsS86 w _ g339 t336 t343 t344 from zi86 HI339.out)) : g339 ≠ gb345)); have n10_ := Aside0.mk ((by rw [hg]; exact Nat.ne_of_gt (IsS86.lt (show IsS86 w _ g339 t336 t343 t344 from zi86 HI339.out)) : gb345 ≠ g339)); clear HO342; clear BK335; clear HI339; clear HB; have HO342 := n0_; have BK335 := n1_; have HI339 := n2_; have HB := n3_; have BK345 := n4_; have GW345 := n5_; have GE345 := n6_; have NB335_345 := n7_; have NB345_335 := n8_; have NB339_345 := n9_; have NB345_339 := n10_; clear n0_ n1_ n2_ n3_ n4_ n5_ n6_ n7_ n8_ n9_ n10_; clear hb hbox hg; obtain ⟨Ao10, co10, eo10⟩ := Kd.R_slice HO342.out; subst eo10; have hnb11 := NB345_335.out; have hnc11 := NB335_345.out; have hnb12 := NB345_339.out; have hnc12 := NB339_345.out; have hcz13_0 : w9.cell? ⟨gb345, 0, none⟩ = some (.slice none 0 0) := (blk_cell BK345.out 0).trans rfl; have hfz13_0 := blk_frozen BK345.out 0) | ((with_reducible refine gate_callee (f := 43) rfl ?_); refine goesL_ (some 14) rfl rfl Try.func43 (by kernel_rfl) rfl #[.pointer (some ⟨g339, 0, none⟩), .agg #[.slice Ao10 t340.length co10]] rfl zl ?_; (with_reducible refine (spec_l1DrawTerm.calls k g339 t336 t343 t344 _ _ t340 t346 t347 t348 w _ ?side1 ?side2 ?side3 ?side4 A4.out).mono ?_); (case side1 => exact zi86 HI339.out); (case side2 => exact zj HB.out (IsS86.ge HI339.out)); (case side3 => exact Kd.C_foot_own (IsS86.apart (show IsS86 w _ g339 t336 t343 t344 from zi86 HI339.out) (by (with_reducible repeat (first | apply Kd.R_alloc | apply Kd.R_drewN | apply Kd.R_drew)); exact (Kd.R_mono (Kd.R_far (p := ⟨gb345, 0, none⟩) (Kd.R_types HO342.out BK345.out (by decide)) (fun _ hk => hk.2) (.slice Ao10 t340.length co10)) (fun _ h_ => h_.1))) (by decide)) (fun _ h_ => h_.2)); (case side4 => exact (Kd.R_reads' HO342.out).2.1); rintro e w14 ⟨rfl, hi, hb, hk⟩; refine ⟨_, rfl, ?_⟩; have n0_ := Aside0.mk (KeepBut.blk hk (g' := gb335) (o := .cells #[.slice none 0 0] 28 (0, 0)) (zf BK335.out) NB335_339.out (by simp)); have n1_ := Aside0.mk (Kd.R_mono (Kd.R_keep (IsS86.apart (show IsS86 w _ g339 t336 t343 t344 from zi86 HI339.out) (by (with_reducible repeat (first | apply Kd.R_alloc | apply Kd.R_drewN | apply Kd.R_drew)); exact (Kd.R_mono (Kd.R_far (p := ⟨gb345, 0, none⟩) (Kd.R_types HO342.out BK345.out (by decide)) (fun _ hk => hk.2) (.slice Ao10 t340.length co10)) (fun _ h_ => h_.1))) (by decide)) hk (fun _ h => h.2)) (fun _ h => h.1)); have n2_ := Aside0.mk (KeepBut.blk hk (g' := gb345) (o := .cells #[.slice Ao10 t340.length co10] 28 (0, 0)) (by (with_reducible repeat (first | refine blk_drewN ?_ _ | refine blk_drew ?_ | refine blk_alloc ?_ _)); refine blk_put (cs := #[.slice none 0 0]) ?_ 0 _ rfl; (with_reducible repeat (first | refine blk_drewN ?_ _ | refine blk_drew ?_ | refine blk_alloc ?_ _)); exact BK345.out) NB345_339.out (by simp)); have n3_ := Aside0.mk (hb); have n4_ := Aside0.mk (hi); clear BK335; clear HO342; clear BK345; clear HB; clear HI339; have BK335 := n0_; have HO342 := n1_; have BK345 := n2_; have HB := n3_; have HI339 := n4_; clear n0_ n1_ n2_ n3_ n4_; (try clear hb); (try clear hb2); (try clear hk); (try clear hi)))
 have n0_ := Aside0.mk (Kd.R_drew HO342.out)
 have n1_ := Aside0.mk (blk_drew BK335.out)
 have n2_ := Aside0.mk (blk_drew BK345.out)
 have n3_ := Aside0.mk (IsS86.drew HI339.out)
 have n4_ := Aside0.mk (below_drew1 HB.out)
 clear HO342
 clear BK335
 clear BK345
 clear HI339
 clear HB
 have HO342 := n0_
 have BK335 := n1_
 have BK345 := n2_
 have HI339 := n3_
 have HB := n4_
 clear n0_ n1_ n2_ n3_ n4_
 refine start_ (n := 8) (S := fun w' => w'.cell? ⟨gb345, 0, none⟩ = some (.slice Ao10 t340.length co10)) (ds := []) #[false, false, false, false, false, false, false, false] (by kernel_rfl) rfl rfl ((blk_cell BK345.out 0).trans rfl) (fun hHeld => ?_); refine with_tabW spec_l3Draw.tab4 spec_l3Draw.bits4 (fun HT_ HW_ => ?_)
 generalize w14.drew = w15 at HO342 BK335 BK345 HI339 HB hHeld ⊢
 refine pure_ (i := 1) (N := some 16) (v := ?_) (a' := ?_) #[false, true, false, false, false, false, false, false] rfl rfl (any_of HT_.out (by kernel_rfl)) (fun _ _ _ h => h) (Or.inl ⟨by rfl, ?_⟩) ?_ ?_
 rotate_left
 ·intro w'
  go_simp
  with_reducible rfl
 rotate_left
 ·simp only [Act.put, List.setIfInBounds_toArray, List.set_cons_zero, List.set_cons_succ, i64_w, i32_w]
  rfl
 refine pure_ (i := 2) (N := some 17) (v := ?_) (a' := ?_) #[false, true, true, false, false, false, false, false] rfl rfl (any_of HT_.out (by kernel_rfl)) (fun _ _ _ h => h) (Or.inl ⟨by rfl, ?_⟩) ?_ ?_
 rotate_left
 ·intro w'
  go_simp
  with_reducible rfl
 rotate_left
 ·simp only [Act.put, List.setIfInBounds_toArray, List.set_cons_zero, List.set_cons_succ, i64_w, i32_w]
  rfl
 refine take_ (i := 0) (N := some 15) (v := ?_) (a' := ?_) #[true, true, true, false, false, false, false, false] rfl rfl (take_ofW HT_.out HW_.out (by kernel_rfl)) (fun _ _ _ h => h) (Or.inl ⟨by rfl, ?_⟩) hHeld ?_ ?_
 rotate_left
 ·intro w' s0
  go_simp
  with_reducible rfl
 rotate_left
 ·simp only [Act.put, List.setIfInBounds_toArray, List.set_cons_zero, List.set_cons_succ, i64_w, i32_w]
  rfl
 refine take_ (i := 3) (N := some 18) (v := ?_) (a' := ?_) #[true, true, true, true, false, false, false, false] rfl rfl (take_ofW HT_.out HW_.out (by kernel_rfl)) (fun _ _ _ h => h) (Or.inl ⟨by rfl, ?_⟩) hHeld ?_ ?_
 rotate_left
 ·intro w' s0
  go_simp
  with_reducible rfl
 rotate_left
 ·simp only [Act.put, List.setIfInBounds_toArray, List.set_cons_zero, List.set_cons_succ, i64_w, i32_w]
  rfl
 refine one_ (i := 4) (N := some 19) #[true, true, true, true, true, false, false, false] rfl rfl (one_of HT_.out (by kernel_rfl)) (by decide) (fun K hK => ?_)
 refine goes_ Try.func43 (by kernel_rfl) rfl #[.pointer (some ⟨g339, 0, none⟩), .agg #[.slice Ao10 t340.length co10]] (by rfl) rfl rfl zl ?_
 with_reducible refine (spec_l1DrawTerm.calls k g339 t336 t347 t348 _ _ t340 t349 t350 t351 w _ ?side1 ?side2 ?side3 ?side4 A5.out).mono ?_
 (case side1 => exact zi86 HI339.out)
 (case side2 => exact zj HB.out (IsS86.ge HI339.out))
 (case side3 => exact Kd.C_foot_own (IsS86.apart (show IsS86 w _ g339 t336 t347 t348 from zi86 HI339.out) (zr HO342.out) (by decide)) (fun _ h_ => h_.2))
 (case side4 => exact (Kd.R_reads' HO342.out).2.1)
 rintro e w16 ⟨rfl, hi, hb, hk⟩
 refine ⟨_, rfl, ?_⟩
 have n0_ := Aside0.mk (KeepBut.blk hk (g' := gb335) (o := .cells #[.slice none 0 0] 28 (0, 0)) (zh BK335.out) NB335_339.out (by simp))
 have n1_ := Aside0.mk (Kd.R_mono (Kd.R_keep (IsS86.apart (show IsS86 w _ g339 t336 t347 t348 from zi86 HI339.out) (zr HO342.out) (by decide)) hk (fun _ h => h.2)) (fun _ h => h.1))
 have n2_ := Aside0.mk (KeepBut.blk hk (g' := gb345) (o := .cells #[.slice Ao10 t340.length co10] 28 (0, 0)) (zh BK345.out) NB345_339.out (by simp))
 have n3_ := Aside0.mk (hb)
 have n4_ := Aside0.mk (hi)
 clear BK335
 clear HO342
 clear BK345
 clear HB
 clear HI339
 have BK335 := n0_
 have HO342 := n1_
 have BK345 := n2_
 have HB := n3_
 have HI339 := n4_
 clear n0_ n1_ n2_ n3_ n4_
 (try clear hb)
 (try clear hb2)
 (try clear hk)
 (try clear hi)
 refine hK.out _ _ ((blk_cell BK345.out 0).trans rfl) (fun hHeld => ?_)
 clear hK K
 refine norm_ (a' := ?_) ?_ ?_
 rotate_left
 ·show Act.put _ (some 19) _ = _
  simp only [Act.put, List.setIfInBounds_toArray, List.set_cons_zero, List.set_cons_succ, i64_w, i32_w]
  rfl
 refine one_ (i := 5) (N := none) #[true, true, true, true, true, true, false, false] rfl rfl (one_of HT_.out (by kernel_rfl)) (by decide) (fun K hK => ?_)
 have hs17 : w16.cell? ⟨gb335, 0, none⟩ = some (.slice none 0 0) := (blk_cell BK335.out 0).trans rfl
 have hfs17 := blk_frozen BK335.out 0
 have hns17_1 := NB345_335.out
 have hms17_1 := NB335_345.out
 refine skip_ (w1 := ?_) (by rfl) rfl ?_ ?_
 rotate_left
 ·go_simp
  rfl
 refine hK.out _ _ (((cell_far (p := ⟨gb335, _, none⟩) NB345_335.out _).trans (hHeld))) (fun hHeld => ?_)
 clear hK K
 refine pure_ (i := 6) (N := some 3) (v := ?_) (a' := ?_) #[true, true, true, true, true, true, true, false] rfl rfl (any_of HT_.out (by kernel_rfl)) (fun _ _ _ h => h) (Or.inl ⟨by rfl, ?_⟩) ?_ ?_
 rotate_left
 ·intro w'
  go_simp
  with_reducible rfl
 rotate_left
 ·simp only [Act.put, List.setIfInBounds_toArray, List.set_cons_zero, List.set_cons_succ, i64_w, i32_w]
  rfl
 refine pure_ (i := 7) (N := some 4) (v := ?_) (a' := ?_) #[true, true, true, true, true, true, true, true] rfl rfl (any_of HT_.out (by kernel_rfl)) (fun _ _ _ h => h) (Or.inl ⟨by rfl, ?_⟩) ?_ ?_
 rotate_left
 ·intro w'
  go_simp
  with_reducible rfl
 rotate_left
 ·simp only [Act.put, List.setIfInBounds_toArray, List.set_cons_zero, List.set_cons_succ, i64_w, i32_w]
  rfl
 refine done_ (done_of HT_.out (by kernel_rfl)) ?_
 try go_wp2
 refine bodyPost_ret (results_ctt rfl _ _ gb335 28 #[.slice Ao10 t340.length co10] (0, 0) _ rfl (by (with_reducible repeat (first | refine blk_drewN ?_ _ | refine blk_drew ?_ | refine blk_alloc ?_ _)); refine blk_put (cs := #[.slice none 0 0]) ?_ 0 _ rfl; (with_reducible repeat (first | refine blk_drewN ?_ _ | refine blk_drew ?_ | refine blk_alloc ?_ _)); exact BK335.out) Try.underlying28 rfl (by kernel_rfl)) rfl ?_
 exact ⟨_, ze, zr (Kd.R_mono (Kd.R_far (p := ⟨gb335, 0, none⟩) (Kd.R_types HO342.out BK335.out (by decide)) (fun _ hk => hk.2) (.slice Ao10 t340.length co10)) (fun _ hk => trivial)), zj HB.out (IsS86.ge HI339.out)⟩

end Go.Proofs.Ytobkledmbnacjaa.F
end

section
-- Written by this session's program (wip/tools/gprint.py over the kit's print) out of the translation; Lean checks it.
namespace Go.Proofs.Ytobkledmbnacjaa.F
open Go.RowKit Go.Proofs.YtobkledmbnacjaaW.PrintWords Go.Proofs.YtobkledmbnacjaaW.PrintLast Go.Proofs.YtobkledmbnacjaaW.PrintMore
attribute [local go_sem] max2_int min2_int max_two min_two max_three min_three max_four min_four   -- for this text's walks alone
set_option linter.unusedVariables false
set_option linter.unusedSimpArgs false
set_option maxRecDepth 100000

/-! ### spec_l1List: function 46 -/
def spec_l1List.l0 : Nat → List Bool → List Int → Int → Option (List Int)
 | 0, _, _, _ => none
 | k + 1, x0, x3, x4 => if x4 < (x0.length : Int) then (if 0 ≤ x4 then (if rdOf false x0 x4 = true then (if x3.length < 17592186044416 then (spec_l1List.l0 k x0 (x3 ++ [x4]) (wrap64 (x4 + 1))) else (none)) else (spec_l1List.l0 k x0 x3 (wrap64 (x4 + 1)))) else (none)) else (some x3)
def spec_l1List.f (k : Nat) (l0 : List Bool) : Option (List Int) := spec_l1List.l0 k l0 (([] : List Int)) 0
theorem spec_l1List.mono_l : ∀ k, (∀ y0 y1 y2, LeO (spec_l1List.l0 k y0 y1 y2) (spec_l1List.l0 (k + 1) y0 y1 y2))
 | 0 => fun _ _ _ r h => by simp [spec_l1List.l0] at h
 | k + 1 => by
  have ih0 := spec_l1List.mono_l k
  ·intro y0 y1 y2
   unfold spec_l1List.l0
   repeat' first
   | (with_reducible exact ih0 _ _ _)
   | (with_reducible exact LeO.refl _)
   | (with_reducible exact LeO.none _)
   | (with_reducible refine LeO.ite ?_ ?_)
   | (with_reducible refine LeO.bind ?_ (fun _ => ?_))
   | exact ih0 _ _ _
   | exact LeO.none _
   | refine LeO.ite ?_ ?_
   | refine LeO.bind ?_ (fun _ => ?_)
theorem spec_l1List.mono : ∀ a0 k, LeO (spec_l1List.f k a0) (spec_l1List.f (k + 1) a0) := by
 intro a0 k
 have ih0 := spec_l1List.mono_l k
 unfold spec_l1List.f
 repeat' first
   | (with_reducible exact ih0 _ _ _)
   | (with_reducible exact LeO.refl _)
   | (with_reducible exact LeO.none _)
   | (with_reducible refine LeO.ite ?_ ?_)
   | (with_reducible refine LeO.bind ?_ (fun _ => ?_))
   | exact ih0 _ _ _
   | exact LeO.none _
   | refine LeO.ite ?_ ?_
   | refine LeO.bind ?_ (fun _ => ?_)
set_option maxHeartbeats 8000000 in
set_option maxRecDepth 100000 in
theorem spec_l1List.calls (k : Nat) (A0 : Option Addr) (c0 : Nat) (l0 : List Bool) (r : List Int) (w : World) (hr0 : Kd.C Kd.bool w A0 l0.length l0) (hc0 : l0.length ≤ c0) (h : spec_l1List.f k l0 = some r) :
  Calls Try.prog 46 #[.slice A0 l0.length c0] w fun e w' => ∃ v0_ : Value, e = .returned (v0_) ∧ Kd.R (Kd.int .i64) 3 w' w.heap.size (fun _ => True) v0_ r ∧ Below w.heap.size w w' := by
 have HR0 := Aside0.mk hr0
 have HC0 := Aside0.mk hc0
 clear hr0 hc0
 have HB := Aside0.mk (Below.refl w.heap.size w)
 have H : (spec_l1List.l0 k l0 (([] : List Int)) 0) = some r := h
 clear h
 obtain ⟨y352, hy352⟩ : ∃ y_ : List Int, y_ = (([] : List Int)) := ⟨_, rfl⟩
 replace H : (spec_l1List.l0 k l0 y352 0) = some r := by first | (rw [hy352]; with_reducible exact H) | (have H2_ := (Option.bind_some _ _).symm.trans H; rw [hy352]; with_reducible exact H2_) | (have H2_ := (Option.bind_some _ _).symm.trans H; with_reducible exact H2_) | with_reducible exact H | (rw [hy352]; exact H) | exact H
 have Ny352 := Aside0.mk hy352
 clear hy352
 have H' := Aside0.mk H
 clear H
 go_enter Try.func46, Try.ntmps46
 go_wp2_with (first | ((with_reducible refine gate_dst (N := 5) rfl ?_); refine Kd.R_lit (Kd.int .i64) _ 3 ?hg (N := 5) ?hd (xs := ([] : List Int)) (inner := []) (ok := fun _ => True) (okp := fun _ => True) ?hr ?hp (fun _ hk => hk) trivial (Below.refl _ _) (Nat.le_refl _) (by simp) ?_; (case hd => rfl); (case hg => rfl); (case hr => first | (go_simp; done) | (go_simp; rfl)); (case hp => exact (Reps.none _ _)); intro v353 w2 ho3 hb hg_ hnew_; clear hg_ hnew_; (first | rw [← Ny352.out] at ho3 | (simp only [Int.reduceToNat] at ho3; rw [← Ny352.out] at ho3)); have n0_ := Aside0.mk (Kd.R_lower ho3 (below_size (zb HB.out))); have n1_ := Aside0.mk (below_step (zb HB.out) hb); clear HB; have HO354 := n0_; have HB := n1_; clear n0_ n1_; clear hb ho3))
 go_loopg [3, 4] k (fun kq v3 v4 w' => ∃ (x3_1 : List Int) (x4_1 : Int), v4 = .int .i64 x4_1 ∧ Aside0 (spec_l1List.l0 kq l0 x3_1 x4_1 = some r) ∧ Aside0 (kq ≤ k) ∧ Aside0 (Kd.R (Kd.int .i64) 3 w' w.heap.size (fun _ => True) v3 x3_1) ∧ Aside0 (Below w.heap.size w w'))
 case atStart => exact ⟨(y352), (0), (by first | rfl | (simp; done) | (simp [*]; done)), H', ⟨Nat.le_refl _⟩, ⟨zr HO354.out⟩, ⟨zb HB.out⟩⟩
 case round =>
  clear H'
  try clear p2
  obtain ⟨x3_1, x4_1, rfl, HA, HK1, HO_3, HB⟩ := hrel
  cases gk with
  | zero => exact absurd HA.out (by simp [spec_l1List.l0])
  | succ k1 =>
   have H := HA.out
   clear HA
   simp only [spec_l1List.l0] at H
   by_cases c4 : x4_1 < (l0.length : Int)
   ·rw [if_pos c4] at H
    have c4b0 : decide (x4_1 < (l0.length : Int)) = true := decide_eq_true c4
    clear c4
    by_cases c5 : 0 ≤ x4_1
    ·rw [if_pos c5] at H
     have c5b0 : decide (0 ≤ x4_1) = true := decide_eq_true c5
     clear c5
     obtain ⟨bq6, hbq6⟩ : ∃ b_ : Bool, b_ = (rdOf false l0 x4_1) := ⟨_, rfl⟩
     replace H : (if bq6 = true then (if x3_1.length < 17592186044416 then (spec_l1List.l0 k1 l0 (x3_1 ++ [x4_1]) (wrap64 (x4_1 + 1))) else (none)) else (spec_l1List.l0 k1 l0 x3_1 (wrap64 (x4_1 + 1)))) = some r := by rw [← hbq6] at H; exact H
     have Nbq6 := Aside0.mk hbq6
     clear hbq6
     by_cases c7 : bq6 = true
     ·subst c7
      have H1 : (if x3_1.length < 17592186044416 then (spec_l1List.l0 k1 l0 (x3_1 ++ [x4_1]) (wrap64 (x4_1 + 1))) else (none)) = some r := by rw [if_pos rfl] at H; exact H
      clear H
      have H := H1
      clear H1
      by_cases c8 : x3_1.length < 17592186044416
      ·rw [if_pos c8] at H
       have LMc8 := Aside0.mk c8
       clear c8
       obtain ⟨y356, hy356⟩ : ∃ y_ : List Int, y_ = (x3_1 ++ [x4_1]) := ⟨_, rfl⟩
       replace H : (spec_l1List.l0 k1 l0 y356 (wrap64 (x4_1 + 1))) = some r := by first | (rw [hy356]; with_reducible exact H) | (have H2_ := (Option.bind_some _ _).symm.trans H; rw [hy356]; with_reducible exact H2_) | (have H2_ := (Option.bind_some _ _).symm.trans H; with_reducible exact H2_) | with_reducible exact H | (rw [hy356]; exact H) | exact H
       have Ny356 := Aside0.mk hy356
       clear hy356
       have H' := Aside0.mk H
       clear H
       have p355 : 0 ≤ (x4_1 : Int) := of_decide_eq_true (by first | (with_reducible assumption) | assumption)
       have q355 : x4_1 < (l0.length : Int) := of_decide_eq_true (by first | (with_reducible assumption) | assumption)
       obtain ⟨ad355, e355, hx355_0⟩ := Kd.at_bool HR0.out x4_1 p355 q355
       (try rw [← Nbq6.out] at hx355_0)
       cases e355
       replace hx355_0 := (HB.out.cell (World.block_lt_of_cell? w _ hx355_0)).trans hx355_0
       replace p355 := eq_true p355
       replace q355 := eq_true q355
       go_wp2_with (first | ((with_reducible refine gate_builtin (b := .append) (xs := #[.tmp 16, .tmp 18]) rfl ?_); at_builtin; refine Kd.R_append (Kd.int .i64) (w0 := w) w.heap.size rfl (.tmp 16) (.tmp 18) 45 3 (.int .i64 0) 8 rfl Try.underlying45 info3 rfl (by decide) (by omega) u3 x3_1 x4_1 [.int .i64 x4_1] (fun _ => True) (fun _ => False) rfl rfl ?aP (fun _ hk => hk.elim) ?aF ?aO ?aB ?aS ?aL ?_; (case aP => exact rfl); (case aB => exact (zb HB.out)); (case aF => exact (fun _ _ => trivial)); (case aO => exact (zr HO_3.out)); (case aS => exact (below_size (zb HB.out))); (case aL => have := LMc8.out; omega); intro v357 w9 ho hb hg hat; rw [← Ny356.out] at ho; have n0_ := Aside0.mk (hb); have n1_ := Aside0.mk (ho); clear HB; clear HO_3; have HB := n0_; have HO358 := n1_; clear n0_ n1_; clear ho hb hg hat))
       go_roundg k1
       case measure => have := HK1.out; omega
       case rel => exact ⟨(y356), (wrap64 (x4_1 + 1)), (by first | rfl | (simp; done) | (simp [*]; done)), H', ⟨by have := HK1.out; omega⟩, ⟨zr HO358.out⟩, ⟨zb HB.out⟩⟩
      ·rw [if_neg c8] at H
       exact absurd H (by simp)
     ·replace c7 := Bool.eq_false_iff.mpr c7
      subst c7
      have H1 : (spec_l1List.l0 k1 l0 x3_1 (wrap64 (x4_1 + 1))) = some r := by rw [if_neg (show ¬ (false = true) by decide)] at H; exact H
      clear H
      have H := H1
      clear H1
      have H' := Aside0.mk H
      clear H
      have p355 : 0 ≤ (x4_1 : Int) := of_decide_eq_true (by first | (with_reducible assumption) | assumption)
      have q355 : x4_1 < (l0.length : Int) := of_decide_eq_true (by first | (with_reducible assumption) | assumption)
      obtain ⟨ad355, e355, hx355_0⟩ := Kd.at_bool HR0.out x4_1 p355 q355
      (try rw [← Nbq6.out] at hx355_0)
      cases e355
      replace hx355_0 := (HB.out.cell (World.block_lt_of_cell? w _ hx355_0)).trans hx355_0
      replace p355 := eq_true p355
      replace q355 := eq_true q355
      go_wp2
      go_roundg k1
      case measure => have := HK1.out; omega
      case rel => exact ⟨(x3_1), (wrap64 (x4_1 + 1)), (by first | rfl | (simp; done) | (simp [*]; done)), H', ⟨by have := HK1.out; omega⟩, ⟨zr HO_3.out⟩, ⟨zb HB.out⟩⟩
    ·rw [if_neg c5] at H
     exact absurd H (by simp)
   ·rw [if_neg c4] at H
    have c4b0 : decide (x4_1 < (l0.length : Int)) = false := decide_eq_false c4
    clear c4
    obtain rfl := Option.some.inj H
    go_wp2
    go_ret
    exact ⟨_, ze, zr HO_3.out, zb HB.out⟩

/-! ### spec_DrawTermSwap: function 17 -/
def spec_DrawTermSwap.j0 : Nat → Int → Int → Int → Bool → List (S55) → List Int → Int → Int → Option ((List (S55)) × Int × Int × Int)
 | 0, _, _, _, _, _, _, _, _ => none
 | k + 1, x7, x8, x10, x33, x366000, x370000, x370001, x370002 => if x33 = true then ((spec_l1Inside.f k x366000 x7).bind fun t378 => ((spec_l1List.f k t378).bind fun t381 => ((spec_l1PickInt.f x370000 x370001 x370002 t381).bind fun bt384 => (some (x366000, x7, bt384.1, x8))))) else (some (x366000, x7, x10, x8))
def spec_DrawTermSwap.f (k : Nat) (l0 : List Int) : Option ((List (S55)) × Int × Int × Int) := (spec_l3Draw.f k l0).bind fun bt360 => ((spec_l1New.f k l0).bind fun bt366 => ((spec_l1DrawTerm.f k bt366.1 bt366.2.1 bt366.2.2 bt360.1).bind fun bt370 => ((spec_PoolOk.f k bt360.1).bind fun t373 => (if t373 = true then ((spec_l1Has.f bt360.1 bt360.2.1).bind fun t374 => (if t374 = true then ((spec_l1Once.f bt366.1 bt370.2.1 bt370.2.2 4).bind fun bt375 => (spec_DrawTermSwap.j0 k bt360.2.1 bt360.2.2 bt370.1 (!bt375.1) bt360.1 bt366.1 bt375.2.1 bt375.2.2)) else (spec_DrawTermSwap.j0 k bt360.2.1 bt360.2.2 bt370.1 false bt360.1 bt366.1 bt370.2.1 bt370.2.2))) else (spec_DrawTermSwap.j0 k bt360.2.1 bt360.2.2 bt370.1 false bt360.1 bt366.1 bt370.2.1 bt370.2.2)))))
theorem spec_DrawTermSwap.mono_l : ∀ k, (∀ y0 y1 y2 y3 y4 y5 y6 y7, LeO (spec_DrawTermSwap.j0 k y0 y1 y2 y3 y4 y5 y6 y7) (spec_DrawTermSwap.j0 (k + 1) y0 y1 y2 y3 y4 y5 y6 y7))
 | 0 => fun _ _ _ _ _ _ _ _ r h => by simp [spec_DrawTermSwap.j0] at h
 | k + 1 => by
  have ih0 := spec_DrawTermSwap.mono_l k
  ·intro y0 y1 y2 y3 y4 y5 y6 y7
   unfold spec_DrawTermSwap.j0
   repeat' first
   | (with_reducible exact ih0 _ _ _ _ _ _ _ _)
   | (with_reducible exact spec_PoolOk.mono _ _)
   | (with_reducible exact spec_l1DrawTerm.mono _ _ _ _ _)
   | (with_reducible exact spec_l1Inside.mono _ _ _)
   | (with_reducible exact spec_l1List.mono _ _)
   | (with_reducible exact spec_l1New.mono _ _)
   | (with_reducible exact spec_l3Draw.mono _ _)
   | (with_reducible exact LeO.refl _)
   | (with_reducible exact LeO.none _)
   | (with_reducible refine LeO.ite ?_ ?_)
   | (with_reducible refine LeO.bind ?_ (fun _ => ?_))
   | exact ih0 _ _ _ _ _ _ _ _
   | exact spec_PoolOk.mono _ _
   | exact spec_l1DrawTerm.mono _ _ _ _ _
   | exact spec_l1Inside.mono _ _ _
   | exact spec_l1List.mono _ _
   | exact spec_l1New.mono _ _
   | exact spec_l3Draw.mono _ _
   | exact LeO.none _
   | refine LeO.ite ?_ ?_
   | refine LeO.bind ?_ (fun _ => ?_)
theorem spec_DrawTermSwap.mono : ∀ a0 k, LeO (spec_DrawTermSwap.f k a0) (spec_DrawTermSwap.f (k + 1) a0) := by
 intro a0 k
 have ih0 := spec_DrawTermSwap.mono_l k
 unfold spec_DrawTermSwap.f
 repeat' first
   | (with_reducible exact ih0 _ _ _ _ _ _ _ _)
   | (with_reducible exact spec_PoolOk.mono _ _)
   | (with_reducible exact spec_l1DrawTerm.mono _ _ _ _ _)
   | (with_reducible exact spec_l1Inside.mono _ _ _)
   | (with_reducible exact spec_l1List.mono _ _)
   | (with_reducible exact spec_l1New.mono _ _)
   | (with_reducible exact spec_l3Draw.mono _ _)
   | (with_reducible exact LeO.refl _)
   | (with_reducible exact LeO.none _)
   | (with_reducible refine LeO.ite ?_ ?_)
   | (with_reducible refine LeO.bind ?_ (fun _ => ?_))
   | exact ih0 _ _ _ _ _ _ _ _
   | exact spec_PoolOk.mono _ _
   | exact spec_l1DrawTerm.mono _ _ _ _ _
   | exact spec_l1Inside.mono _ _ _
   | exact spec_l1List.mono _ _
   | exact spec_l1New.mono _ _
   | exact spec_l3Draw.mono _ _
   | exact LeO.none _
   | refine LeO.ite ?_ ?_
   | refine LeO.bind ?_ (fun _ => ?_)
set_option maxHeartbeats 8000000 in
set_option maxRecDepth 100000 in
theorem spec_DrawTermSwap.calls (k : Nat) (A0 : Option Addr) (c0 : Nat) (l0 : List Int) (r1 : List (S55)) (r2 : Int) (r3 : Int) (r4 : Int) (w : World) (hr0 : Kd.C (Kd.int .u8) w A0 l0.length l0) (hc0 : l0.length ≤ c0) (h : spec_DrawTermSwap.f k l0 = some (r1, r2, r3, r4)) :
  Calls Try.prog 17 #[.slice A0 l0.length c0] w fun e w' => ∃ v0_ : Value, e = .returned (.tuple #[.agg #[v0_], .int .i64 r2, .int .i64 r3, .int .i64 r4]) ∧ Kd.R k55 55 w' w.heap.size (fun _ => True) v0_ r1 ∧ Below w.heap.size w w' := by
 have hu28 := Try.underlying28
 have HR0 := Aside0.mk hr0
 have HC0 := Aside0.mk hc0
 clear hr0 hc0
 have HB := Aside0.mk (Below.refl w.heap.size w)
 have H : ((spec_l3Draw.f k l0).bind fun bt360 => ((spec_l1New.f k l0).bind fun bt366 => ((spec_l1DrawTerm.f k bt366.1 bt366.2.1 bt366.2.2 bt360.1).bind fun bt370 => ((spec_PoolOk.f k bt360.1).bind fun t373 => (if t373 = true then ((spec_l1Has.f bt360.1 bt360.2.1).bind fun t374 => (if t374 = true then ((spec_l1Once.f bt366.1 bt370.2.1 bt370.2.2 4).bind fun bt375 => (spec_DrawTermSwap.j0 k bt360.2.1 bt360.2.2 bt370.1 (!bt375.1) bt360.1 bt366.1 bt375.2.1 bt375.2.2)) else (spec_DrawTermSwap.j0 k bt360.2.1 bt360.2.2 bt370.1 false bt360.1 bt366.1 bt370.2.1 bt370.2.2))) else (spec_DrawTermSwap.j0 k bt360.2.1 bt360.2.2 bt370.1 false bt360.1 bt366.1 bt370.2.1 bt370.2.2)))))) = some (r1, r2, r3, r4) := h
 clear h
 replace H := Option.bind_eq_some_iff.mp H
 obtain ⟨⟨t360, t363, t364⟩, A20, H⟩ := H
 replace H : ((spec_l1New.f k l0).bind fun bt366 => ((spec_l1DrawTerm.f k bt366.1 bt366.2.1 bt366.2.2 t360).bind fun bt370 => ((spec_PoolOk.f k t360).bind fun t373 => (if t373 = true then ((spec_l1Has.f t360 t363).bind fun t374 => (if t374 = true then ((spec_l1Once.f bt366.1 bt370.2.1 bt370.2.2 4).bind fun bt375 => (spec_DrawTermSwap.j0 k t363 t364 bt370.1 (!bt375.1) t360 bt366.1 bt375.2.1 bt375.2.2)) else (spec_DrawTermSwap.j0 k t363 t364 bt370.1 false t360 bt366.1 bt370.2.1 bt370.2.2))) else (spec_DrawTermSwap.j0 k t363 t364 bt370.1 false t360 bt366.1 bt370.2.1 bt370.2.2))))) = some (r1, r2, r3, r4) := H
 have A2 := Aside0.mk A20
 clear A20
 replace H := Option.bind_eq_some_iff.mp H
 obtain ⟨⟨t366, t367, t368⟩, A30, H⟩ := H
 replace H : ((spec_l1DrawTerm.f k t366 t367 t368 t360).bind fun bt370 => ((spec_PoolOk.f k t360).bind fun t373 => (if t373 = true then ((spec_l1Has.f t360 t363).bind fun t374 => (if t374 = true then ((spec_l1Once.f t366 bt370.2.1 bt370.2.2 4).bind fun bt375 => (spec_DrawTermSwap.j0 k t363 t364 bt370.1 (!bt375.1) t360 t366 bt375.2.1 bt375.2.2)) else (spec_DrawTermSwap.j0 k t363 t364 bt370.1 false t360 t366 bt370.2.1 bt370.2.2))) else (spec_DrawTermSwap.j0 k t363 t364 bt370.1 false t360 t366 bt370.2.1 bt370.2.2)))) = some (r1, r2, r3, r4) := H
 have A3 := Aside0.mk A30
 clear A30
 replace H := Option.bind_eq_some_iff.mp H
 obtain ⟨⟨t370, t371, t372⟩, A40, H⟩ := H
 replace H : ((spec_PoolOk.f k t360).bind fun t373 => (if t373 = true then ((spec_l1Has.f t360 t363).bind fun t374 => (if t374 = true then ((spec_l1Once.f t366 t371 t372 4).bind fun bt375 => (spec_DrawTermSwap.j0 k t363 t364 t370 (!bt375.1) t360 t366 bt375.2.1 bt375.2.2)) else (spec_DrawTermSwap.j0 k t363 t364 t370 false t360 t366 t371 t372))) else (spec_DrawTermSwap.j0 k t363 t364 t370 false t360 t366 t371 t372))) = some (r1, r2, r3, r4) := H
 have A4 := Aside0.mk A40
 clear A40
 have HC5 := Aside0.mk H
 clear H
 go_enter Try.func17, Try.ntmps17
 go_upto_region 4 with (first | ((with_reducible refine gate_dst (N := 2) rfl ?_); refine box_event ?hg (N := 2) ?hd (cs := #[.slice none 0 0]) (t := 28) ?hr ?_; (case hd => rfl); (case hg => rfl); (case hr => first | (go_simp; done) | (go_simp; rfl)); intro gb359 hg w6 hbox hb; have n0_ := Aside0.mk (below_step (zb HB.out) hb); have n1_ := Aside0.mk (hbox); have n2_ := Aside0.mk ((by rw [hg]; exact (below_size (zb HB.out)) : w.heap.size ≤ gb359)); have n3_ := Aside0.mk ((by rw [hg]; exact (below_size (zb HB.out)) : w.heap.size ≤ gb359)); clear HB; have HB := n0_; have BK359 := n1_; have GW359 := n2_; have GE359 := n3_; clear n0_ n1_ n2_ n3_; clear hb hbox hg) | ((with_reducible refine gate_callee (f := 41) rfl ?_); refine goesL_ (some 13) rfl rfl Try.func41 (by kernel_rfl) rfl #[.slice A0 l0.length c0] rfl zl ?_; (with_reducible refine (spec_l3Draw.calls k _ _ l0 t360 t363 t364 _ ?side1 ?side2 A2.out).mono ?_); (case side1 => exact zc (Kd.C_below HR0.out HB.out)); (case side2 => exact HC0.out); rintro e w7 ⟨v361, rfl, ho0, hb⟩; refine ⟨_, rfl, ?_⟩; have n0_ := Aside0.mk (Kd.R_lower ho0 (below_size (zb HB.out))); have n1_ := Aside0.mk (blk_below (zh BK359.out) hb); have n2_ := Aside0.mk (below_step (zb HB.out) hb); clear BK359; clear HB; have HO362 := n0_; have BK359 := n1_; have HB := n2_; clear n0_ n1_ n2_; (try clear hb); (try clear hb2); (try clear hk); (try clear hi); (try clear ho0)) | ((with_reducible refine gate_dst (N := 6) rfl ?_); refine box_event ?hg (N := 6) ?hd (cs := #[.slice none 0 0]) (t := 28) ?hr ?_; (case hd => rfl); (case hg => rfl); (case hr => first | (go_simp; done) | (go_simp; rfl)); intro gb365 hg w8 hbox hb; have n0_ := Aside0.mk (Kd.R_below (zr HO362.out) hb); have n1_ := Aside0.mk (blk_below (zh BK359.out) hb); have n2_ := Aside0.mk (below_step (zb HB.out) hb); have n3_ := Aside0.mk (hbox); have n4_ := Aside0.mk ((by rw [hg]; exact (below_size (zb HB.out)) : w.heap.size ≤ gb365)); have n5_ := Aside0.mk ((by rw [hg]; exact (below_size (zb HB.out)) : w.heap.size ≤ gb365)); have n6_ := Aside0.mk ((by rw [hg]; exact Nat.ne_of_lt (blk_lt (zh BK359.out)) : gb359 ≠ gb365)); have n7_ := Aside0.mk ((by rw [hg]; exact Nat.ne_of_gt (blk_lt (zh BK359.out)) : gb365 ≠ gb359)); clear HO362; clear BK359; clear HB; have HO362 := n0_; have BK359 := n1_; have HB := n2_; have BK365 := n3_; have GW365 := n4_; have GE365 := n5_; have NB359_365 := n6_; have NB365_359 := n7_; clear n0_ n1_ n2_ n3_ n4_ n5_ n6_ n7_; clear hb hbox hg; obtain ⟨Ao9, co9, eo9⟩ := Kd.R_slice HO362.out; subst eo9; have hnb10 := NB365_359.out; have hnc10 := NB359_365.out; have hcz11_0 : w8.cell? ⟨gb365, 0, none⟩ = some (.slice none 0 0) := (blk_cell BK365.out 0).trans rfl; have hfz11_0 := blk_frozen BK365.out 0) | ((with_reducible refine gate_callee (f := 42) rfl ?_); refine goesL_ (some 18) rfl rfl Try.func42 (by kernel_rfl) rfl #[.slice A0 l0.length c0] rfl zl ?_; (with_reducible refine (spec_l1New.calls k _ _ l0 t366 t367 t368 w _ ?side1 ?side2 ?side3 A3.out).mono ?_); (case side1 => exact zb HB.out); (case side2 => exact HR0.out); (case side3 => exact HC0.out); rintro e w12 ⟨g369, rfl, hi, hb, hb2⟩; refine ⟨_, rfl, ?_⟩; have n0_ := Aside0.mk (Kd.R_below (by (with_reducible repeat (first | apply Kd.R_alloc | apply Kd.R_drewN | apply Kd.R_drew)); exact (Kd.R_mono (Kd.R_far (p := ⟨gb365, 0, none⟩) (Kd.R_types HO362.out BK365.out (by decide)) (fun _ hk => hk.2) (.slice Ao9 t360.length co9)) (fun _ h_ => h_.1))) hb2); have n1_ := Aside0.mk (blk_below (g := gb359) (o := .cells #[.slice none 0 0] 28 (0, 0)) (zf BK359.out) hb2); have n2_ := Aside0.mk (blk_below (g := gb365) (o := .cells #[.slice Ao9 t360.length co9] 28 (0, 0)) (by (with_reducible repeat (first | refine blk_drewN ?_ _ | refine blk_drew ?_ | refine blk_alloc ?_ _)); refine blk_put (cs := #[.slice none 0 0]) ?_ 0 _ rfl; (with_reducible repeat (first | refine blk_drewN ?_ _ | refine blk_drew ?_ | refine blk_alloc ?_ _)); exact BK365.out) hb2); have n3_ := Aside0.mk (hb); have n4_ := Aside0.mk (hi); have n5_ := Aside0.mk (IsS86.ne_blk hi (blk_below (g := gb359) (o := .cells #[.slice none 0 0] 28 (0, 0)) (zf BK359.out) hb2) (by decide)); have n6_ := Aside0.mk (Ne.symm (IsS86.ne_blk hi (blk_below (g := gb359) (o := .cells #[.slice none 0 0] 28 (0, 0)) (zf BK359.out) hb2) (by decide))); have n7_ := Aside0.mk (IsS86.ne_blk hi (blk_below (g := gb365) (o := .cells #[.slice Ao9 t360.length co9] 28 (0, 0)) (by (with_reducible repeat (first | refine blk_drewN ?_ _ | refine blk_drew ?_ | refine blk_alloc ?_ _)); refine blk_put (cs := #[.slice none 0 0]) ?_ 0 _ rfl; (with_reducible repeat (first | refine blk_drewN ?_ _ | refine blk_drew ?_ | refine blk_alloc ?_ _)); exact BK365.out) hb2) (by decide)); have n8_ := Aside0.mk (Ne.symm (IsS86.ne_blk hi (blk_below (g := gb365) (o := .cells #[.slice Ao9 t360.length co9] 28 (0, 0)) (by (with_reducible repeat (first | refine blk_drewN ?_ _ | refine blk_drew ?_ | refine blk_alloc ?_ _)); refine blk_put (cs := #[.slice none 0 0]) ?_ 0 _ rfl; (with_reducible repeat (first | refine blk_drewN ?_ _ | refine blk_drew ?_ | refine blk_alloc ?_ _)); exact BK365.out) hb2) (by decide))); clear HO362; clear BK359; clear BK365; clear HB; have HO362 := n0_; have BK359 := n1_; have BK365 := n2_; have HB := n3_; have HI369 := n4_; have NB369_359 := n5_; have NB359_369 := n6_; have NB369_365 := n7_; have NB365_369 := n8_; clear n0_ n1_ n2_ n3_ n4_ n5_ n6_ n7_ n8_; (try clear hb); (try clear hb2); (try clear hk); (try clear hi); have hnb13 := NB365_369.out; have hnc13 := NB369_365.out; have hcz14_0 : w12.cell? ⟨gb365, 0, none⟩ = some (.slice Ao9 t360.length co9) := (blk_cell BK365.out 0).trans rfl; have hfz14_0 := blk_frozen BK365.out 0) | ((with_reducible refine gate_callee (f := 43) rfl ?_); refine goesL_ (some 21) rfl rfl Try.func43 (by kernel_rfl) rfl #[.pointer (some ⟨g369, 0, none⟩), .agg #[.slice Ao9 t360.length co9]] rfl zl ?_; (with_reducible refine (spec_l1DrawTerm.calls k g369 t366 t367 t368 _ _ t360 t370 t371 t372 w _ ?side1 ?side2 ?side3 ?side4 A4.out).mono ?_); (case side1 => exact zi86 HI369.out); (case side2 => exact zj HB.out (IsS86.ge HI369.out)); (case side3 => exact Kd.C_foot_own (IsS86.apart (show IsS86 w _ g369 t366 t367 t368 from zi86 HI369.out) (zr HO362.out) (by decide)) (fun _ h_ => h_.2)); (case side4 => exact (Kd.R_reads' HO362.out).2.1); rintro e w15 ⟨rfl, hi, hb, hk⟩; refine ⟨_, rfl, ?_⟩; have n0_ := Aside0.mk (KeepBut.blk hk (g' := gb359) (o := .cells #[.slice none 0 0] 28 (0, 0)) (zh BK359.out) NB359_369.out (by simp)); have n1_ := Aside0.mk (Kd.R_mono (Kd.R_keep (IsS86.apart (show IsS86 w _ g369 t366 t367 t368 from zi86 HI369.out) (zr HO362.out) (by decide)) hk (fun _ h => h.2)) (fun _ h => h.1)); have n2_ := Aside0.mk (KeepBut.blk hk (g' := gb365) (o := .cells #[.slice Ao9 t360.length co9] 28 (0, 0)) (zh BK365.out) NB365_369.out (by simp)); have n3_ := Aside0.mk (hb); have n4_ := Aside0.mk (hi); clear BK359; clear HO362; clear BK365; clear HB; clear HI369; have BK359 := n0_; have HO362 := n1_; have BK365 := n2_; have HB := n3_; have HI369 := n4_; clear n0_ n1_ n2_ n3_ n4_; (try clear hb); (try clear hb2); (try clear hk); (try clear hi)))
 (try simp only [Act.put, List.setIfInBounds_toArray, List.set_cons_zero, List.set_cons_succ])
 go_cut [33] (fun v33 wc => ∃ (kq : Nat) (x33_4 : Bool) (x370001_4 : Int) (x370002_4 : Int), v33 = .bool x33_4 ∧ Aside0 (spec_DrawTermSwap.j0 kq t363 t364 t370 x33_4 t360 t366 x370001_4 x370002_4 = some (r1, r2, r3, r4)) ∧ Aside0 (kq ≤ k) ∧ Aside0 (Kd.R k55 55 wc w.heap.size (fun _ => True) (.slice Ao9 t360.length co9) t360) ∧ Aside0 (wc.heap[gb359]? = some (.cells #[(.slice none 0 0)] 28 (0, 0))) ∧ Aside0 (wc.heap[gb365]? = some (.cells #[(.slice Ao9 t360.length co9)] 28 (0, 0))) ∧ Aside0 (IsS86 w wc g369 t366 x370001_4 x370002_4) ∧ Aside0 (Below w.heap.size w wc))
 case first =>
  have H := HC5.out
  clear HC5
  replace H := Option.bind_eq_some_iff.mp H
  obtain ⟨t373, A160, H⟩ := H
  replace H : (if t373 = true then ((spec_l1Has.f t360 t363).bind fun t374 => (if t374 = true then ((spec_l1Once.f t366 t371 t372 4).bind fun bt375 => (spec_DrawTermSwap.j0 k t363 t364 t370 (!bt375.1) t360 t366 bt375.2.1 bt375.2.2)) else (spec_DrawTermSwap.j0 k t363 t364 t370 false t360 t366 t371 t372))) else (spec_DrawTermSwap.j0 k t363 t364 t370 false t360 t366 t371 t372)) = some (r1, r2, r3, r4) := H
  have A16 := Aside0.mk A160
  clear A160
  by_cases c17 : t373 = true
  ·subst c17
   have H1 : ((spec_l1Has.f t360 t363).bind fun t374 => (if t374 = true then ((spec_l1Once.f t366 t371 t372 4).bind fun bt375 => (spec_DrawTermSwap.j0 k t363 t364 t370 (!bt375.1) t360 t366 bt375.2.1 bt375.2.2)) else (spec_DrawTermSwap.j0 k t363 t364 t370 false t360 t366 t371 t372))) = some (r1, r2, r3, r4) := by rw [if_pos rfl] at H; exact H
   clear H
   have H := H1
   clear H1
   replace H := Option.bind_eq_some_iff.mp H
   obtain ⟨t374, A180, H⟩ := H
   replace H : (if t374 = true then ((spec_l1Once.f t366 t371 t372 4).bind fun bt375 => (spec_DrawTermSwap.j0 k t363 t364 t370 (!bt375.1) t360 t366 bt375.2.1 bt375.2.2)) else (spec_DrawTermSwap.j0 k t363 t364 t370 false t360 t366 t371 t372)) = some (r1, r2, r3, r4) := H
   have A18 := Aside0.mk A180
   clear A180
   by_cases c19 : t374 = true
   ·subst c19
    have H1 : ((spec_l1Once.f t366 t371 t372 4).bind fun bt375 => (spec_DrawTermSwap.j0 k t363 t364 t370 (!bt375.1) t360 t366 bt375.2.1 bt375.2.2)) = some (r1, r2, r3, r4) := by rw [if_pos rfl] at H; exact H
    clear H
    have H := H1
    clear H1
    replace H := Option.bind_eq_some_iff.mp H
    obtain ⟨⟨t375, t376, t377⟩, A200, H⟩ := H
    replace H : (spec_DrawTermSwap.j0 k t363 t364 t370 (!t375) t360 t366 t376 t377) = some (r1, r2, r3, r4) := H
    have A20 := Aside0.mk A200
    clear A200
    have H' := Aside0.mk H
    clear H
    have hnb21 := NB365_359.out
    have hnc21 := NB359_365.out
    have hnb22 := NB365_369.out
    have hnc22 := NB369_365.out
    have hcz23_0 : w15.cell? ⟨gb365, 0, none⟩ = some (.slice Ao9 t360.length co9) := (blk_cell BK365.out 0).trans rfl
    have hfz23_0 := blk_frozen BK365.out 0
    go_wp2_with (first | ((with_reducible refine gate_callee (f := 25) rfl ?_); refine goesL_ (some 23) rfl rfl Try.func25 (by kernel_rfl) rfl #[.agg #[.slice Ao9 t360.length co9]] rfl zl ?_; (with_reducible refine (spec_PoolOk.calls k _ _ t360 true _ ?side1 ?side2 A16.out).mono ?_); (case side1 => exact zc (Kd.R_reads' HO362.out).2.2); (case side2 => exact (Kd.R_reads' HO362.out).2.1); rintro e w24 ⟨rfl, hb⟩; refine ⟨_, rfl, ?_⟩; have n0_ := Aside0.mk (Kd.R_below (zr HO362.out) hb); have n1_ := Aside0.mk (blk_below (zh BK359.out) hb); have n2_ := Aside0.mk (blk_below (zh BK365.out) hb); have n3_ := Aside0.mk (IsS86.below (zi86 HI369.out) hb); have n4_ := Aside0.mk (below_step (zj HB.out (IsS86.ge HI369.out)) hb); clear HO362; clear BK359; clear BK365; clear HI369; clear HB; have HO362 := n0_; have BK359 := n1_; have BK365 := n2_; have HI369 := n3_; have HB := n4_; clear n0_ n1_ n2_ n3_ n4_; (try clear hb); (try clear hb2); (try clear hk); (try clear hi); have hcz25_0 : w24.cell? ⟨gb365, 0, none⟩ = some (.slice Ao9 t360.length co9) := (blk_cell BK365.out 0).trans rfl; have hfz25_0 := blk_frozen BK365.out 0) | (go_at_call 26; (with_reducible refine (spec_l1Has.calls _ _ t360 t363 true _ ?side1 ?side2 A18.out).mono ?_); (case side1 => exact zc (Kd.R_reads' HO362.out).2.2); (case side2 => exact (Kd.R_reads' HO362.out).2.1); rintro e w26 ⟨rfl, hb⟩; have n0_ := Aside0.mk (Kd.R_below (zr HO362.out) hb); have n1_ := Aside0.mk (blk_below (zh BK359.out) hb); have n2_ := Aside0.mk (blk_below (zh BK365.out) hb); have n3_ := Aside0.mk (IsS86.below (zi86 HI369.out) hb); have n4_ := Aside0.mk (below_step (zj HB.out (IsS86.ge HI369.out)) hb); clear HO362; clear BK359; clear BK365; clear HI369; clear HB; have HO362 := n0_; have BK359 := n1_; have BK365 := n2_; have HI369 := n3_; have HB := n4_; clear n0_ n1_ n2_ n3_ n4_; (try clear hb); (try clear hb2); (try clear hk); (try clear hi)) | (go_at_call 44; (with_reducible refine (spec_l1Once.calls g369 t366 t371 t372 4 t375 t376 t377 w _ ?side1 ?side2 A20.out).mono ?_); (case side1 => exact zi86 HI369.out); (case side2 => exact zj HB.out (IsS86.ge HI369.out)); rintro e w27 ⟨rfl, hi, hb, hk⟩; have n0_ := Aside0.mk (KeepBut.blk hk (g' := gb359) (o := .cells #[.slice none 0 0] 28 (0, 0)) (zh BK359.out) NB359_369.out (by simp)); have n1_ := Aside0.mk (Kd.R_mono (Kd.R_keep (IsS86.apart (show IsS86 w _ g369 t366 t371 t372 from zi86 HI369.out) (zr HO362.out) (by decide)) hk (fun _ h => h.2)) (fun _ h => h.1)); have n2_ := Aside0.mk (KeepBut.blk hk (g' := gb365) (o := .cells #[.slice Ao9 t360.length co9] 28 (0, 0)) (zh BK365.out) NB365_369.out (by simp)); have n3_ := Aside0.mk (hb); have n4_ := Aside0.mk (hi); clear BK359; clear HO362; clear BK365; clear HB; clear HI369; have BK359 := n0_; have HO362 := n1_; have BK365 := n2_; have HB := n3_; have HI369 := n4_; clear n0_ n1_ n2_ n3_ n4_; (try clear hb); (try clear hb2); (try clear hk); (try clear hi)))
    go_meet
    case rel => exact ⟨_, (!t375), (t376), (t377), (by first | rfl | (simp; done) | (simp [*]; done)), H', ⟨by first | omega | exact Nat.le_refl _⟩, ⟨zr HO362.out⟩, ⟨zh BK359.out⟩, ⟨zh BK365.out⟩, ⟨zi86 HI369.out⟩, ⟨zj HB.out (IsS86.ge HI369.out)⟩⟩
   ·replace c19 := Bool.eq_false_iff.mpr c19
    subst c19
    have H1 : (spec_DrawTermSwap.j0 k t363 t364 t370 false t360 t366 t371 t372) = some (r1, r2, r3, r4) := by rw [if_neg (show ¬ (false = true) by decide)] at H; exact H
    clear H
    have H := H1
    clear H1
    have H' := Aside0.mk H
    clear H
    have hnb28 := NB365_359.out
    have hnc28 := NB359_365.out
    have hnb29 := NB365_369.out
    have hnc29 := NB369_365.out
    have hcz30_0 : w15.cell? ⟨gb365, 0, none⟩ = some (.slice Ao9 t360.length co9) := (blk_cell BK365.out 0).trans rfl
    have hfz30_0 := blk_frozen BK365.out 0
    go_wp2_with (first | ((with_reducible refine gate_callee (f := 25) rfl ?_); refine goesL_ (some 23) rfl rfl Try.func25 (by kernel_rfl) rfl #[.agg #[.slice Ao9 t360.length co9]] rfl zl ?_; (with_reducible refine (spec_PoolOk.calls k _ _ t360 true _ ?side1 ?side2 A16.out).mono ?_); (case side1 => exact zc (Kd.R_reads' HO362.out).2.2); (case side2 => exact (Kd.R_reads' HO362.out).2.1); rintro e w31 ⟨rfl, hb⟩; refine ⟨_, rfl, ?_⟩; have n0_ := Aside0.mk (Kd.R_below (zr HO362.out) hb); have n1_ := Aside0.mk (blk_below (zh BK359.out) hb); have n2_ := Aside0.mk (blk_below (zh BK365.out) hb); have n3_ := Aside0.mk (IsS86.below (zi86 HI369.out) hb); have n4_ := Aside0.mk (below_step (zj HB.out (IsS86.ge HI369.out)) hb); clear HO362; clear BK359; clear BK365; clear HI369; clear HB; have HO362 := n0_; have BK359 := n1_; have BK365 := n2_; have HI369 := n3_; have HB := n4_; clear n0_ n1_ n2_ n3_ n4_; (try clear hb); (try clear hb2); (try clear hk); (try clear hi); have hcz32_0 : w31.cell? ⟨gb365, 0, none⟩ = some (.slice Ao9 t360.length co9) := (blk_cell BK365.out 0).trans rfl; have hfz32_0 := blk_frozen BK365.out 0) | (go_at_call 26; (with_reducible refine (spec_l1Has.calls _ _ t360 t363 false _ ?side1 ?side2 A18.out).mono ?_); (case side1 => exact zc (Kd.R_reads' HO362.out).2.2); (case side2 => exact (Kd.R_reads' HO362.out).2.1); rintro e w33 ⟨rfl, hb⟩; have n0_ := Aside0.mk (Kd.R_below (zr HO362.out) hb); have n1_ := Aside0.mk (blk_below (zh BK359.out) hb); have n2_ := Aside0.mk (blk_below (zh BK365.out) hb); have n3_ := Aside0.mk (IsS86.below (zi86 HI369.out) hb); have n4_ := Aside0.mk (below_step (zj HB.out (IsS86.ge HI369.out)) hb); clear HO362; clear BK359; clear BK365; clear HI369; clear HB; have HO362 := n0_; have BK359 := n1_; have BK365 := n2_; have HI369 := n3_; have HB := n4_; clear n0_ n1_ n2_ n3_ n4_; (try clear hb); (try clear hb2); (try clear hk); (try clear hi)))
    go_meet
    case rel => exact ⟨_, (false), (t371), (t372), (by first | rfl | (simp; done) | (simp [*]; done)), H', ⟨by first | omega | exact Nat.le_refl _⟩, ⟨zr HO362.out⟩, ⟨zh BK359.out⟩, ⟨zh BK365.out⟩, ⟨zi86 HI369.out⟩, ⟨zj HB.out (IsS86.ge HI369.out)⟩⟩
  ·replace c17 := Bool.eq_false_iff.mpr c17
   subst c17
   have H1 : (spec_DrawTermSwap.j0 k t363 t364 t370 false t360 t366 t371 t372) = some (r1, r2, r3, r4) := by rw [if_neg (show ¬ (false = true) by decide)] at H; exact H
   clear H
   have H := H1
   clear H1
   have H' := Aside0.mk H
   clear H
   have hnb34 := NB365_359.out
   have hnc34 := NB359_365.out
   have hnb35 := NB365_369.out
   have hnc35 := NB369_365.out
   have hcz36_0 : w15.cell? ⟨gb365, 0, none⟩ = some (.slice Ao9 t360.length co9) := (blk_cell BK365.out 0).trans rfl
   have hfz36_0 := blk_frozen BK365.out 0
   go_wp2_with (first | ((with_reducible refine gate_callee (f := 25) rfl ?_); refine goesL_ (some 23) rfl rfl Try.func25 (by kernel_rfl) rfl #[.agg #[.slice Ao9 t360.length co9]] rfl zl ?_; (with_reducible refine (spec_PoolOk.calls k _ _ t360 false _ ?side1 ?side2 A16.out).mono ?_); (case side1 => exact zc (Kd.R_reads' HO362.out).2.2); (case side2 => exact (Kd.R_reads' HO362.out).2.1); rintro e w37 ⟨rfl, hb⟩; refine ⟨_, rfl, ?_⟩; have n0_ := Aside0.mk (Kd.R_below (zr HO362.out) hb); have n1_ := Aside0.mk (blk_below (zh BK359.out) hb); have n2_ := Aside0.mk (blk_below (zh BK365.out) hb); have n3_ := Aside0.mk (IsS86.below (zi86 HI369.out) hb); have n4_ := Aside0.mk (below_step (zj HB.out (IsS86.ge HI369.out)) hb); clear HO362; clear BK359; clear BK365; clear HI369; clear HB; have HO362 := n0_; have BK359 := n1_; have BK365 := n2_; have HI369 := n3_; have HB := n4_; clear n0_ n1_ n2_ n3_ n4_; (try clear hb); (try clear hb2); (try clear hk); (try clear hi)))
   go_meet
   case rel => exact ⟨_, (false), (t371), (t372), (by first | rfl | (simp; done) | (simp [*]; done)), H', ⟨by first | omega | exact Nat.le_refl _⟩, ⟨zr HO362.out⟩, ⟨zh BK359.out⟩, ⟨zh BK365.out⟩, ⟨zi86 HI369.out⟩, ⟨zj HB.out (IsS86.ge HI369.out)⟩⟩
 case rest =>
  clear HC5
  try clear c1
  try clear c2
  try clear p2
  try clear c3
  try clear c4
  try clear c10
  try clear c13
  try clear c17
  try clear c19
  try clear c21
  try clear c22
  try clear c25
  try clear c28
  try clear c29
  try clear c34
  try clear c35
  try clear hcz11_0
  try clear hcz14_0
  try clear hcz23_0
  try clear hcz25_0
  try clear hcz30_0
  try clear hcz32_0
  try clear hcz36_0
  try clear hfz11_0
  try clear hfz14_0
  try clear hfz23_0
  try clear hfz25_0
  try clear hfz30_0
  try clear hfz32_0
  try clear hfz36_0
  obtain ⟨kq, x33_4, x370001_4, x370002_4, rfl, HA, HJ4, HO_366000, BK359, BK365, HI369, HB⟩ := hcut
  cases kq with
  | zero => exact absurd HA.out (by simp [spec_DrawTermSwap.j0])
  | succ kj4 =>
   have H := HA.out
   clear HA
   simp only [spec_DrawTermSwap.j0] at H
   by_cases c38 : x33_4 = true
   ·subst c38
    have H1 : ((spec_l1Inside.f kj4 t360 t363).bind fun t378 => ((spec_l1List.f kj4 t378).bind fun t381 => ((spec_l1PickInt.f t366 x370001_4 x370002_4 t381).bind fun bt384 => (some (t360, t363, bt384.1, t364))))) = some (r1, r2, r3, r4) := by rw [if_pos rfl] at H; exact H
    clear H
    have H := H1
    clear H1
    replace H := Option.bind_eq_some_iff.mp H
    obtain ⟨t378, A390, H⟩ := H
    replace H : ((spec_l1List.f kj4 t378).bind fun t381 => ((spec_l1PickInt.f t366 x370001_4 x370002_4 t381).bind fun bt384 => (some (t360, t363, bt384.1, t364)))) = some (r1, r2, r3, r4) := H
    have A39 := Aside0.mk A390
    clear A390
    replace H := Option.bind_eq_some_iff.mp H
    obtain ⟨t381, A400, H⟩ := H
    replace H : ((spec_l1PickInt.f t366 x370001_4 x370002_4 t381).bind fun bt384 => (some (t360, t363, bt384.1, t364))) = some (r1, r2, r3, r4) := H
    have A40 := Aside0.mk A400
    clear A400
    replace H := Option.bind_eq_some_iff.mp H
    obtain ⟨⟨t384, t385, t386⟩, A410, H⟩ := H
    replace H : (some (t360, t363, t384, t364)) = some (r1, r2, r3, r4) := H
    have A41 := Aside0.mk A410
    clear A410
    simp only [Option.some.injEq, Prod.mk.injEq] at H
    obtain ⟨rfl, rfl, rfl, rfl⟩ := H
    have hnb42 := NB365_359.out
    have hnc42 := NB359_365.out
    have hnb43 := NB365_369.out
    have hnc43 := NB369_365.out
    have hcz44_0 : wc.cell? ⟨gb365, 0, none⟩ = some (.slice Ao9 t360.length co9) := (blk_cell BK365.out 0).trans rfl
    have hfz44_0 := blk_frozen BK365.out 0
    go_wp2_with (first | ((with_reducible refine gate_callee (f := 28) rfl ?_); refine goesL_ (some 37) rfl rfl Try.func28 (by kernel_rfl) rfl #[.agg #[.slice Ao9 t360.length co9], .int .i64 t363] rfl zl ?_; (with_reducible refine (spec_l1Inside.calls kj4 _ _ t360 t363 t378 _ ?side1 ?side2 A39.out).mono ?_); (case side1 => exact zc (Kd.R_reads' HO_366000.out).2.2); (case side2 => exact (Kd.R_reads' HO_366000.out).2.1); rintro e w45 ⟨v379, rfl, ho0, hb⟩; refine ⟨_, rfl, ?_⟩; have n0_ := Aside0.mk (Kd.R_below (zr HO_366000.out) hb); have n1_ := Aside0.mk (Kd.R_lower ho0 (below_size (zj HB.out (IsS86.ge HI369.out)))); have n2_ := Aside0.mk (blk_below (zh BK359.out) hb); have n3_ := Aside0.mk (blk_below (zh BK365.out) hb); have n4_ := Aside0.mk (IsS86.below (zi86 HI369.out) hb); have n5_ := Aside0.mk (below_step (zj HB.out (IsS86.ge HI369.out)) hb); clear HO_366000; clear BK359; clear BK365; clear HI369; clear HB; have HO_366000 := n0_; have HO380 := n1_; have BK359 := n2_; have BK365 := n3_; have HI369 := n4_; have HB := n5_; clear n0_ n1_ n2_ n3_ n4_ n5_; (try clear hb); (try clear hb2); (try clear hk); (try clear hi); (try clear ho0); obtain ⟨Ao46, co46, eo46⟩ := Kd.R_slice HO380.out; subst eo46) | ((with_reducible refine gate_callee (f := 46) rfl ?_); refine goesL_ (some 38) rfl rfl Try.func46 (by kernel_rfl) rfl #[.slice Ao46 t378.length co46] rfl zl ?_; (with_reducible refine (spec_l1List.calls kj4 _ _ t378 t381 _ ?side1 ?side2 A40.out).mono ?_); (case side1 => exact zc (Kd.R_reads' HO380.out).2.2); (case side2 => exact (Kd.R_reads' HO380.out).2.1); rintro e w47 ⟨v382, rfl, ho0, hb⟩; refine ⟨_, rfl, ?_⟩; have n0_ := Aside0.mk (Kd.R_below (zr HO_366000.out) hb); have n1_ := Aside0.mk (Kd.R_below (zr HO380.out) hb); have n2_ := Aside0.mk (Kd.R_lower ho0 (below_size (zj HB.out (IsS86.ge HI369.out)))); have n3_ := Aside0.mk (blk_below (zh BK359.out) hb); have n4_ := Aside0.mk (blk_below (zh BK365.out) hb); have n5_ := Aside0.mk (IsS86.below (zi86 HI369.out) hb); have n6_ := Aside0.mk (below_step (zj HB.out (IsS86.ge HI369.out)) hb); clear HO_366000; clear HO380; clear BK359; clear BK365; clear HI369; clear HB; have HO_366000 := n0_; have HO380 := n1_; have HO383 := n2_; have BK359 := n3_; have BK365 := n4_; have HI369 := n5_; have HB := n6_; clear n0_ n1_ n2_ n3_ n4_ n5_ n6_; (try clear hb); (try clear hb2); (try clear hk); (try clear hi); (try clear ho0); obtain ⟨Ao48, co48, eo48⟩ := Kd.R_slice HO383.out; subst eo48) | ((with_reducible refine gate_callee (f := 45) rfl ?_); refine goesL_ (some 39) rfl rfl Try.func45 (by kernel_rfl) rfl #[.pointer (some ⟨g369, 0, none⟩), .slice Ao48 t381.length co48] rfl zl ?_; (with_reducible refine (spec_l1PickInt.calls g369 t366 x370001_4 x370002_4 _ _ t381 t384 t385 t386 w _ ?side1 ?side2 ?side3 ?side4 ?side5 A41.out).mono ?_); (case side1 => exact zi86 HI369.out); (case side2 => exact zj HB.out (IsS86.ge HI369.out)); (case side3 => exact zc (Kd.R_reads' HO383.out).2.2); (case side4 => exact (Kd.R_reads' HO383.out).2.1); (case side5 => exact far_slice (IsS86.own_ne HI369.out HO383.out (by decide))); rintro e w49 ⟨rfl, hi, hb, hk⟩; refine ⟨_, rfl, ?_⟩; have n0_ := Aside0.mk (Kd.R_mono (Kd.R_keep (IsS86.apart (show IsS86 w _ g369 t366 x370001_4 x370002_4 from zi86 HI369.out) (zr HO_366000.out) (by decide)) hk (fun _ h => h.2)) (fun _ h => h.1)); have n1_ := Aside0.mk (KeepBut.blk hk (g' := gb359) (o := .cells #[.slice none 0 0] 28 (0, 0)) (zh BK359.out) NB359_369.out (by simp)); have n2_ := Aside0.mk (KeepBut.blk hk (g' := gb365) (o := .cells #[.slice Ao9 t360.length co9] 28 (0, 0)) (zh BK365.out) NB365_369.out (by simp)); have n3_ := Aside0.mk (Kd.R_mono (Kd.R_keep (IsS86.apart (show IsS86 w _ g369 t366 x370001_4 x370002_4 from zi86 HI369.out) (zr HO380.out) (by decide)) hk (fun _ h => h.2)) (fun _ h => h.1)); have n4_ := Aside0.mk (Kd.R_mono (Kd.R_keep (IsS86.apart (show IsS86 w _ g369 t366 x370001_4 x370002_4 from zi86 HI369.out) (zr HO383.out) (by decide)) hk (fun _ h => h.2)) (fun _ h => h.1)); have n5_ := Aside0.mk (hb); have n6_ := Aside0.mk (hi); clear HO_366000; clear BK359; clear BK365; clear HO380; clear HO383; clear HB; clear HI369; have HO_366000 := n0_; have BK359 := n1_; have BK365 := n2_; have HO380 := n3_; have HO383 := n4_; have HB := n5_; have HI369 := n6_; clear n0_ n1_ n2_ n3_ n4_ n5_ n6_; (try clear hb); (try clear hb2); (try clear hk); (try clear hi); have hcz50_0 : w49.cell? ⟨gb365, 0, none⟩ = some (.slice Ao9 t360.length co9) := (blk_cell BK365.out 0).trans rfl; have hfz50_0 := blk_frozen BK365.out 0; have hnb51 := NB359_369.out; have hnc51 := NB369_359.out; have hcz52_0 : w49.cell? ⟨gb359, 0, none⟩ = some (.slice none 0 0) := (blk_cell BK359.out 0).trans rfl; have hfz52_0 := blk_frozen BK359.out 0))
    refine bodyPost_ret (results_list (rs := [.cell 2 28, .tmp 3, .tmp 4, .tmp 5]) rfl (by simp) (.cell gb359 28 #[.slice Ao9 t360.length co9] (0, 0) _ rfl (by (with_reducible repeat (first | refine blk_drewN ?_ _ | refine blk_drew ?_ | refine blk_alloc ?_ _)); refine blk_put (cs := #[.slice none 0 0]) ?_ 0 _ rfl; (with_reducible repeat (first | refine blk_drewN ?_ _ | refine blk_drew ?_ | refine blk_alloc ?_ _)); exact BK359.out) Try.underlying28 rfl (by kernel_rfl) (.tmp (.tmp (.tmp .nil))))) rfl ?_
    exact ⟨_, ze, zr (Kd.R_mono (Kd.R_far (p := ⟨gb359, 0, none⟩) (Kd.R_types HO_366000.out BK359.out (by decide)) (fun _ hk => hk.2) (.slice Ao9 t360.length co9)) (fun _ hk => trivial)), zj HB.out (IsS86.ge HI369.out)⟩
   ·replace c38 := Bool.eq_false_iff.mpr c38
    subst c38
    have H1 : (some (t360, t363, t370, t364)) = some (r1, r2, r3, r4) := by rw [if_neg (show ¬ (false = true) by decide)] at H; exact H
    clear H
    have H := H1
    clear H1
    simp only [Option.some.injEq, Prod.mk.injEq] at H
    obtain ⟨rfl, rfl, rfl, rfl⟩ := H
    have hnb53 := NB365_359.out
    have hnc53 := NB359_365.out
    have hnb54 := NB365_369.out
    have hnc54 := NB369_365.out
    have hcz55_0 : wc.cell? ⟨gb365, 0, none⟩ = some (.slice Ao9 t360.length co9) := (blk_cell BK365.out 0).trans rfl
    have hfz55_0 := blk_frozen BK365.out 0
    have hnb56 := NB359_369.out
    have hnc56 := NB369_359.out
    have hcz57_0 : wc.cell? ⟨gb359, 0, none⟩ = some (.slice none 0 0) := (blk_cell BK359.out 0).trans rfl
    have hfz57_0 := blk_frozen BK359.out 0
    go_wp2
    refine bodyPost_ret (results_list (rs := [.cell 2 28, .tmp 3, .tmp 4, .tmp 5]) rfl (by simp) (.cell gb359 28 #[.slice Ao9 t360.length co9] (0, 0) _ rfl (by (with_reducible repeat (first | refine blk_drewN ?_ _ | refine blk_drew ?_ | refine blk_alloc ?_ _)); refine blk_put (cs := #[.slice none 0 0]) ?_ 0 _ rfl; (with_reducible repeat (first | refine blk_drewN ?_ _ | refine blk_drew ?_ | refine blk_alloc ?_ _)); exact BK359.out) Try.underlying28 rfl (by kernel_rfl) (.tmp (.tmp (.tmp .nil))))) rfl ?_
    exact ⟨_, ze, zr (Kd.R_mono (Kd.R_far (p := ⟨gb359, 0, none⟩) (Kd.R_types HO_366000.out BK359.out (by decide)) (fun _ hk => hk.2) (.slice Ao9 t360.length co9)) (fun _ hk => trivial)), zj HB.out (IsS86.ge HI369.out)⟩

/-! ### slices_Index_int_int: function 69 -/
def slices_Index_int_int.l0 : Nat → List Int → Int → Int → Int → Option (Int)
 | 0, _, _, _, _ => none
 | k + 1, x0, x1, x7, x8 => if x8 < x7 then (if 0 ≤ x8 then (if x8 < (x0.length : Int) then (if x1 = (rd x0 x8) then (some x8) else (slices_Index_int_int.l0 k x0 x1 x7 (wrap64 (x8 + 1)))) else (none)) else (none)) else (some (-1))
def slices_Index_int_int.f (k : Nat) (l0 : List Int) (a1 : Int) : Option (Int) := slices_Index_int_int.l0 k l0 a1 (l0.length : Int) 0
theorem slices_Index_int_int.mono_l : ∀ k, (∀ y0 y1 y2 y3, LeO (slices_Index_int_int.l0 k y0 y1 y2 y3) (slices_Index_int_int.l0 (k + 1) y0 y1 y2 y3))
 | 0 => fun _ _ _ _ r h => by simp [slices_Index_int_int.l0] at h
 | k + 1 => by
  have ih0 := slices_Index_int_int.mono_l k
  ·intro y0 y1 y2 y3
   unfold slices_Index_int_int.l0
   repeat' first
   | (with_reducible exact ih0 _ _ _ _)
   | (with_reducible exact LeO.refl _)
   | (with_reducible exact LeO.none _)
   | (with_reducible refine LeO.ite ?_ ?_)
   | (with_reducible refine LeO.bind ?_ (fun _ => ?_))
   | exact ih0 _ _ _ _
   | exact LeO.none _
   | refine LeO.ite ?_ ?_
   | refine LeO.bind ?_ (fun _ => ?_)
theorem slices_Index_int_int.mono : ∀ a0 a1 k, LeO (slices_Index_int_int.f k a0 a1) (slices_Index_int_int.f (k + 1) a0 a1) := by
 intro a0 a1 k
 have ih0 := slices_Index_int_int.mono_l k
 unfold slices_Index_int_int.f
 repeat' first
   | (with_reducible exact ih0 _ _ _ _)
   | (with_reducible exact LeO.refl _)
   | (with_reducible exact LeO.none _)
   | (with_reducible refine LeO.ite ?_ ?_)
   | (with_reducible refine LeO.bind ?_ (fun _ => ?_))
   | exact ih0 _ _ _ _
   | exact LeO.none _
   | refine LeO.ite ?_ ?_
   | refine LeO.bind ?_ (fun _ => ?_)
set_option maxHeartbeats 8000000 in
set_option maxRecDepth 100000 in
theorem slices_Index_int_int.calls (k : Nat) (A0 : Option Addr) (c0 : Nat) (l0 : List Int) (a1 : Int) (r : Int) (w : World) (hr0 : Kd.C (Kd.int .i64) w A0 l0.length l0) (hc0 : l0.length ≤ c0) (h : slices_Index_int_int.f k l0 a1 = some r) :
  Calls Try.prog 69 #[.slice A0 l0.length c0, .int .i64 a1] w fun e w' => e = .returned (.int .i64 r) ∧ Drawn0 w w' := by
 have HR0 := Aside0.mk hr0
 have HC0 := Aside0.mk hc0
 clear hr0 hc0
 have H : (slices_Index_int_int.l0 k l0 a1 (l0.length : Int) 0) = some r := h
 clear h
 have H' := Aside0.mk H
 clear H
 go_enter Try.func69, Try.ntmps69
 go_wp2
 go_loopg [8] k (fun kq v8 w' => ∃ (x8_1 : Int), v8 = .int .i64 x8_1 ∧ Aside0 (slices_Index_int_int.l0 kq l0 a1 (l0.length : Int) x8_1 = some r) ∧ Aside0 (kq ≤ k) ∧ Drawn0 w w')
 case atStart => exact ⟨(0), (by first | rfl | (simp; done) | (simp [*]; done)), H', ⟨Nat.le_refl _⟩, by repeat (first | exact Drawn0.refl _ | apply Drawn0.step)⟩
 case round =>
  clear H'
  try clear p2
  obtain ⟨x8_1, rfl, HA, HK1, ⟨m1, rfl⟩⟩ := hrel
  cases gk with
  | zero => exact absurd HA.out (by simp [slices_Index_int_int.l0])
  | succ k1 =>
   have H := HA.out
   clear HA
   simp only [slices_Index_int_int.l0] at H
   by_cases c3 : x8_1 < (l0.length : Int)
   ·rw [if_pos c3] at H
    have c3b0 : decide (x8_1 < (l0.length : Int)) = true := decide_eq_true c3
    clear c3
    by_cases c4 : 0 ≤ x8_1
    ·rw [if_pos c4] at H
     have c4b0 : decide (0 ≤ x8_1) = true := decide_eq_true c4
     clear c4
     by_cases c5 : x8_1 < (l0.length : Int)
     ·rw [if_pos c5] at H
      have c5b0 : decide (x8_1 < (l0.length : Int)) = true := decide_eq_true c5
      clear c5
      by_cases c6 : a1 = (rd l0 x8_1)
      ·rw [if_pos c6] at H
       have c6b0 : (a1 == (rd l0 x8_1)) = true := beq_iff_eq.mpr c6
       have c6b1 : (a1 != (rd l0 x8_1)) = false := bne_eq_false_iff_eq.mpr c6
       clear c6
       obtain rfl := Option.some.inj H
       have p387 : 0 ≤ (x8_1 : Int) := of_decide_eq_true (by first | (with_reducible assumption) | assumption)
       have q387 : x8_1 < (l0.length : Int) := of_decide_eq_true (by first | (with_reducible assumption) | assumption)
       obtain ⟨ad387, e387, hx387_0⟩ := Kd.at_int HR0.out x8_1 p387 q387
       cases e387
       replace p387 := eq_true p387
       replace q387 := eq_true q387
       go_wp2
       go_ret
       exact ⟨by first | rfl | (simp; done) | (simp [*]; done), by repeat (first | exact Drawn0.refl _ | apply Drawn0.step)⟩
      ·rw [if_neg c6] at H
       have c6b0 : (a1 == (rd l0 x8_1)) = false := beq_eq_false_iff_ne.mpr c6
       have c6b1 : (a1 != (rd l0 x8_1)) = true := bne_iff_ne.mpr c6
       have H' := Aside0.mk H
       clear H
       have p387 : 0 ≤ (x8_1 : Int) := of_decide_eq_true (by first | (with_reducible assumption) | assumption)
       have q387 : x8_1 < (l0.length : Int) := of_decide_eq_true (by first | (with_reducible assumption) | assumption)
       obtain ⟨ad387, e387, hx387_0⟩ := Kd.at_int HR0.out x8_1 p387 q387
       cases e387
       replace p387 := eq_true p387
       replace q387 := eq_true q387
       go_wp2
       go_roundg k1
       case measure => have := HK1.out; omega
       case rel => exact ⟨(wrap64 (x8_1 + 1)), (by first | rfl | (simp; done) | (simp [*]; done)), H', ⟨by have := HK1.out; omega⟩, by repeat (first | exact Drawn0.refl _ | apply Drawn0.step)⟩
     ·rw [if_neg c5] at H
      exact absurd H (by simp)
    ·rw [if_neg c4] at H
     exact absurd H (by simp)
   ·rw [if_neg c3] at H
    have c3b0 : decide (x8_1 < (l0.length : Int)) = false := decide_eq_false c3
    clear c3
    obtain rfl := Option.some.inj H
    go_wp2
    go_ret
    exact ⟨by first | rfl | (simp; done) | (simp [*]; done), by repeat (first | exact Drawn0.refl _ | apply Drawn0.step)⟩

/-! ### slices_Contains_int_int: function 47 -/
def slices_Contains_int_int.f (k : Nat) (l0 : List Int) (a1 : Int) : Option (Bool) := (slices_Index_int_int.f k l0 a1).bind fun t388 => (some (decide (t388 ≥ 0)))
theorem slices_Contains_int_int.mono : ∀ a0 a1 k, LeO (slices_Contains_int_int.f k a0 a1) (slices_Contains_int_int.f (k + 1) a0 a1) := by
 intro a0 a1 k
 unfold slices_Contains_int_int.f
 repeat' first
   | (with_reducible exact slices_Index_int_int.mono _ _ _)
   | (with_reducible exact LeO.refl _)
   | (with_reducible exact LeO.none _)
   | (with_reducible refine LeO.ite ?_ ?_)
   | (with_reducible refine LeO.bind ?_ (fun _ => ?_))
   | exact slices_Index_int_int.mono _ _ _
   | exact LeO.none _
   | refine LeO.ite ?_ ?_
   | refine LeO.bind ?_ (fun _ => ?_)
set_option maxHeartbeats 8000000 in
set_option maxRecDepth 100000 in
theorem slices_Contains_int_int.calls (k : Nat) (A0 : Option Addr) (c0 : Nat) (l0 : List Int) (a1 : Int) (r : Bool) (w : World) (hr0 : Kd.C (Kd.int .i64) w A0 l0.length l0) (hc0 : l0.length ≤ c0) (h : slices_Contains_int_int.f k l0 a1 = some r) :
  Calls Try.prog 47 #[.slice A0 l0.length c0, .int .i64 a1] w fun e w' => e = .returned (.bool r) ∧ Drawn0 w w' := by
 have HR0 := Aside0.mk hr0
 have HC0 := Aside0.mk hc0
 clear hr0 hc0
 have H : ((slices_Index_int_int.f k l0 a1).bind fun t388 => (some (decide (t388 ≥ 0)))) = some r := h
 clear h
 replace H := Option.bind_eq_some_iff.mp H
 obtain ⟨t388, A30, H⟩ := H
 replace H : (some (decide (t388 ≥ 0))) = some r := H
 have A3 := Aside0.mk A30
 clear A30
 obtain rfl := Option.some.inj H
 go_enter Try.func47, Try.ntmps47
 go_wp2_with (first | ((with_reducible refine gate_callee (f := 69) rfl ?_); refine goesL_ (some 7) rfl rfl Try.func69 (by kernel_rfl) rfl #[.slice A0 l0.length c0, .int .i64 a1] rfl zl ?_; (with_reducible refine (slices_Index_int_int.calls k _ _ l0 a1 t388 _ ?side1 ?side2 A3.out).mono ?_); (case side1 => exact zc HR0.out); (case side2 => exact HC0.out); rintro e w' ⟨rfl, ⟨nd, rfl⟩⟩; refine ⟨_, rfl, ?_⟩))
 go_ret
 exact ⟨by first | rfl | (simp; done) | (simp [*]; done), by repeat (first | exact Drawn0.refl _ | apply Drawn0.step)⟩

end Go.Proofs.Ytobkledmbnacjaa.F
end

section
-- Written by this session's program (wip/tools/gprint.py over the kit's print) out of the translation; Lean checks it.
namespace Go.Proofs.Ytobkledmbnacjaa.F
open Go.RowKit Go.Proofs.YtobkledmbnacjaaW.PrintWords Go.Proofs.YtobkledmbnacjaaW.PrintLast Go.Proofs.YtobkledmbnacjaaW.PrintMore
attribute [local go_sem] max2_int min2_int max_two min_two max_three min_three max_four min_four   -- for this text's walks alone
set_option linter.unusedVariables false
set_option linter.unusedSimpArgs false
set_option maxRecDepth 100000

/-! ### impl_TermBelow: function 48 -/
def impl_TermBelow.f (k : Nat) (l0_0 : List (S55)) (a1 : Int) : Option (List Int) := (impl_Pool_isTerm.f l0_0 a1).bind fun t390 => (if t390 = true then ((impl_PoolOk.f l0_0).bind fun t391 => (if t391 = true then ((impl_Pool_below.f k l0_0 a1).bind fun t392 => (some t392)) else (some ([] : List Int)))) else (some ([] : List Int)))
theorem impl_TermBelow.mono : ∀ a0 a1 k, LeO (impl_TermBelow.f k a0 a1) (impl_TermBelow.f (k + 1) a0 a1) := by
 intro a0 a1 k
 unfold impl_TermBelow.f
 repeat' first
   | (with_reducible exact impl_Pool_below.mono _ _ _)
   | (with_reducible exact LeO.refl _)
   | (with_reducible exact LeO.none _)
   | (with_reducible refine LeO.ite ?_ ?_)
   | (with_reducible refine LeO.bind ?_ (fun _ => ?_))
   | exact impl_Pool_below.mono _ _ _
   | exact LeO.none _
   | refine LeO.ite ?_ ?_
   | refine LeO.bind ?_ (fun _ => ?_)
set_option maxHeartbeats 8000000 in
set_option maxRecDepth 100000 in
theorem impl_TermBelow.calls (k : Nat) (A0_0 : Option Addr) (c0_0 : Nat) (l0_0 : List (S55)) (a1 : Int) (r : List Int) (w : World) (hr0_0 : Kd.C k55 w A0_0 l0_0.length l0_0) (hc0_0 : l0_0.length ≤ c0_0) (h : impl_TermBelow.f k l0_0 a1 = some r) :
  Calls Try.prog 48 #[.agg #[.slice A0_0 l0_0.length c0_0], .int .i64 a1] w fun e w' => ∃ v0_ : Value, e = .returned (v0_) ∧ Kd.R (Kd.int .i64) 3 w' w.heap.size (fun _ => True) v0_ r ∧ Below w.heap.size w w' := by
 have hu28 := Try.underlying28
 have HR0_0 := Aside0.mk hr0_0
 have HC0_0 := Aside0.mk hc0_0
 clear hr0_0 hc0_0
 have HB := Aside0.mk (Below.refl w.heap.size w)
 have H : ((impl_Pool_isTerm.f l0_0 a1).bind fun t390 => (if t390 = true then ((impl_PoolOk.f l0_0).bind fun t391 => (if t391 = true then ((impl_Pool_below.f k l0_0 a1).bind fun t392 => (some t392)) else (some ([] : List Int)))) else (some ([] : List Int)))) = some r := h
 clear h
 replace H := Option.bind_eq_some_iff.mp H
 obtain ⟨t390, A30, H⟩ := H
 replace H : (if t390 = true then ((impl_PoolOk.f l0_0).bind fun t391 => (if t391 = true then ((impl_Pool_below.f k l0_0 a1).bind fun t392 => (some t392)) else (some ([] : List Int)))) else (some ([] : List Int))) = some r := H
 have A3 := Aside0.mk A30
 clear A30
 by_cases c4 : t390 = true
 ·subst c4
  have H1 : ((impl_PoolOk.f l0_0).bind fun t391 => (if t391 = true then ((impl_Pool_below.f k l0_0 a1).bind fun t392 => (some t392)) else (some ([] : List Int)))) = some r := by rw [if_pos rfl] at H; exact H
  clear H
  have H := H1
  clear H1
  replace H := Option.bind_eq_some_iff.mp H
  obtain ⟨t391, A50, H⟩ := H
  replace H : (if t391 = true then ((impl_Pool_below.f k l0_0 a1).bind fun t392 => (some t392)) else (some ([] : List Int))) = some r := H
  have A5 := Aside0.mk A50
  clear A50
  by_cases c6 : t391 = true
  ·subst c6
   have H1 : ((impl_Pool_below.f k l0_0 a1).bind fun t392 => (some t392)) = some r := by rw [if_pos rfl] at H; exact H
   clear H
   have H := H1
   clear H1
   replace H := Option.bind_eq_some_iff.mp H
   obtain ⟨t392, A70, H⟩ := H
   replace H : (some t392) = some r := H
   have A7 := Aside0.mk A70
   clear A70
   obtain rfl := Option.some.inj H
   go_enter Try.func48, Try.ntmps48
   go_wp2_with (first | ((with_reducible refine gate_dst (N := 2) rfl ?_); refine box_event ?hg (N := 2) ?hd (cs := #[.slice A0_0 l0_0.length c0_0]) (t := 28) ?hr ?_; (case hd => rfl); (case hg => rfl); (case hr => first | (go_simp; done) | (go_simp; rfl)); intro gb389 hg w8 hbox hb; have n0_ := Aside0.mk (below_step (zb HB.out) hb); have n1_ := Aside0.mk (hbox); have n2_ := Aside0.mk ((by rw [hg]; exact (below_size (zb HB.out)) : w.heap.size ≤ gb389)); have n3_ := Aside0.mk ((by rw [hg]; exact (below_size (zb HB.out)) : w.heap.size ≤ gb389)); clear HB; have HB := n0_; have BK389 := n1_; have GW389 := n2_; have GE389 := n3_; clear n0_ n1_ n2_ n3_; clear hb hbox hg) | ((with_reducible refine gate_callee (f := 33) rfl ?_); refine goesL_ (some 6) rfl rfl Try.func33 (by kernel_rfl) rfl #[.pointer (some ⟨gb389, 0, none⟩), .int .i64 a1] rfl zl ?_; (with_reducible refine (impl_Pool_isTerm.calls _ A0_0 c0_0 l0_0 a1 true _ ?side1 ?side2 ?side3 A3.out).mono ?_); (case side1 => exact zh BK389.out); (case side2 => exact zc (Kd.C_below HR0_0.out HB.out)); (case side3 => exact HC0_0.out); rintro e w9 ⟨rfl, hb⟩; refine ⟨_, rfl, ?_⟩; have n0_ := Aside0.mk (blk_below (zh BK389.out) hb); have n1_ := Aside0.mk (below_step (zb HB.out) hb); clear BK389; clear HB; have BK389 := n0_; have HB := n1_; clear n0_ n1_; (try clear hb); (try clear hb2); (try clear hk); (try clear hi); have hcz10_0 : w9.cell? ⟨gb389, 0, none⟩ = some (.slice A0_0 l0_0.length c0_0) := (blk_cell BK389.out 0).trans rfl; have hfz10_0 := blk_frozen BK389.out 0) | (go_at_call 32; (with_reducible refine (impl_PoolOk.calls _ _ l0_0 true _ ?side1 ?side2 A5.out).mono ?_); (case side1 => exact zc (Kd.C_below HR0_0.out HB.out)); (case side2 => exact HC0_0.out); rintro e w11 ⟨rfl, hb⟩; have n0_ := Aside0.mk (blk_below (zh BK389.out) hb); have n1_ := Aside0.mk (below_step (zb HB.out) hb); clear BK389; clear HB; have BK389 := n0_; have HB := n1_; clear n0_ n1_; (try clear hb); (try clear hb2); (try clear hk); (try clear hi)) | ((with_reducible refine gate_callee (f := 35) rfl ?_); refine goesL_ (some 14) rfl rfl Try.func35 (by kernel_rfl) rfl #[.pointer (some ⟨gb389, 0, none⟩), .int .i64 a1] rfl zl ?_; (with_reducible refine (impl_Pool_below.calls k _ A0_0 c0_0 l0_0 a1 t392 _ ?side1 ?side2 ?side3 A7.out).mono ?_); (case side1 => exact zh BK389.out); (case side2 => exact zc (Kd.C_below HR0_0.out HB.out)); (case side3 => exact HC0_0.out); rintro e w12 ⟨v393, rfl, ho0, hb⟩; refine ⟨_, rfl, ?_⟩; have n0_ := Aside0.mk (Kd.R_lower ho0 (below_size (zb HB.out))); have n1_ := Aside0.mk (blk_below (zh BK389.out) hb); have n2_ := Aside0.mk (below_step (zb HB.out) hb); clear BK389; clear HB; have HO394 := n0_; have BK389 := n1_; have HB := n2_; clear n0_ n1_ n2_; (try clear hb); (try clear hb2); (try clear hk); (try clear hi); (try clear ho0)))
   go_ret
   exact ⟨_, ze, zr HO394.out, zb HB.out⟩
  ·replace c6 := Bool.eq_false_iff.mpr c6
   subst c6
   have H1 : (some ([] : List Int)) = some r := by rw [if_neg (show ¬ (false = true) by decide)] at H; exact H
   clear H
   have H := H1
   clear H1
   obtain rfl := Option.some.inj H
   go_enter Try.func48, Try.ntmps48
   go_wp2_with (first | ((with_reducible refine gate_dst (N := 2) rfl ?_); refine box_event ?hg (N := 2) ?hd (cs := #[.slice A0_0 l0_0.length c0_0]) (t := 28) ?hr ?_; (case hd => rfl); (case hg => rfl); (case hr => first | (go_simp; done) | (go_simp; rfl)); intro gb389 hg w13 hbox hb; have n0_ := Aside0.mk (below_step (zb HB.out) hb); have n1_ := Aside0.mk (hbox); have n2_ := Aside0.mk ((by rw [hg]; exact (below_size (zb HB.out)) : w.heap.size ≤ gb389)); have n3_ := Aside0.mk ((by rw [hg]; exact (below_size (zb HB.out)) : w.heap.size ≤ gb389)); clear HB; have HB := n0_; have BK389 := n1_; have GW389 := n2_; have GE389 := n3_; clear n0_ n1_ n2_ n3_; clear hb hbox hg) | ((with_reducible refine gate_callee (f := 33) rfl ?_); refine goesL_ (some 6) rfl rfl Try.func33 (by kernel_rfl) rfl #[.pointer (some ⟨gb389, 0, none⟩), .int .i64 a1] rfl zl ?_; (with_reducible refine (impl_Pool_isTerm.calls _ A0_0 c0_0 l0_0 a1 true _ ?side1 ?side2 ?side3 A3.out).mono ?_); (case side1 => exact zh BK389.out); (case side2 => exact zc (Kd.C_below HR0_0.out HB.out)); (case side3 => exact HC0_0.out); rintro e w14 ⟨rfl, hb⟩; refine ⟨_, rfl, ?_⟩; have n0_ := Aside0.mk (blk_below (zh BK389.out) hb); have n1_ := Aside0.mk (below_step (zb HB.out) hb); clear BK389; clear HB; have BK389 := n0_; have HB := n1_; clear n0_ n1_; (try clear hb); (try clear hb2); (try clear hk); (try clear hi); have hcz15_0 : w14.cell? ⟨gb389, 0, none⟩ = some (.slice A0_0 l0_0.length c0_0) := (blk_cell BK389.out 0).trans rfl; have hfz15_0 := blk_frozen BK389.out 0) | (go_at_call 32; (with_reducible refine (impl_PoolOk.calls _ _ l0_0 false _ ?side1 ?side2 A5.out).mono ?_); (case side1 => exact zc (Kd.C_below HR0_0.out HB.out)); (case side2 => exact HC0_0.out); rintro e w16 ⟨rfl, hb⟩; have n0_ := Aside0.mk (blk_below (zh BK389.out) hb); have n1_ := Aside0.mk (below_step (zb HB.out) hb); clear BK389; clear HB; have BK389 := n0_; have HB := n1_; clear n0_ n1_; (try clear hb); (try clear hb2); (try clear hk); (try clear hi)))
   go_ret
   exact ⟨_, ze, by first | exact Kd.R_nil _ _ _ _ _ | exact Kd.N_nil _ _ _ _ _ | exact Kd.V_nil _ _ _ _ _ | exact Kd.Q_nil _ _ _ _ _ | exact Kd.S_nil _ _ _ _ _, zb HB.out⟩
 ·replace c4 := Bool.eq_false_iff.mpr c4
  subst c4
  have H1 : (some ([] : List Int)) = some r := by rw [if_neg (show ¬ (false = true) by decide)] at H; exact H
  clear H
  have H := H1
  clear H1
  obtain rfl := Option.some.inj H
  go_enter Try.func48, Try.ntmps48
  go_wp2_with (first | ((with_reducible refine gate_dst (N := 2) rfl ?_); refine box_event ?hg (N := 2) ?hd (cs := #[.slice A0_0 l0_0.length c0_0]) (t := 28) ?hr ?_; (case hd => rfl); (case hg => rfl); (case hr => first | (go_simp; done) | (go_simp; rfl)); intro gb389 hg w17 hbox hb; have n0_ := Aside0.mk (below_step (zb HB.out) hb); have n1_ := Aside0.mk (hbox); have n2_ := Aside0.mk ((by rw [hg]; exact (below_size (zb HB.out)) : w.heap.size ≤ gb389)); have n3_ := Aside0.mk ((by rw [hg]; exact (below_size (zb HB.out)) : w.heap.size ≤ gb389)); clear HB; have HB := n0_; have BK389 := n1_; have GW389 := n2_; have GE389 := n3_; clear n0_ n1_ n2_ n3_; clear hb hbox hg) | ((with_reducible refine gate_callee (f := 33) rfl ?_); refine goesL_ (some 6) rfl rfl Try.func33 (by kernel_rfl) rfl #[.pointer (some ⟨gb389, 0, none⟩), .int .i64 a1] rfl zl ?_; (with_reducible refine (impl_Pool_isTerm.calls _ A0_0 c0_0 l0_0 a1 false _ ?side1 ?side2 ?side3 A3.out).mono ?_); (case side1 => exact zh BK389.out); (case side2 => exact zc (Kd.C_below HR0_0.out HB.out)); (case side3 => exact HC0_0.out); rintro e w18 ⟨rfl, hb⟩; refine ⟨_, rfl, ?_⟩; have n0_ := Aside0.mk (blk_below (zh BK389.out) hb); have n1_ := Aside0.mk (below_step (zb HB.out) hb); clear BK389; clear HB; have BK389 := n0_; have HB := n1_; clear n0_ n1_; (try clear hb); (try clear hb2); (try clear hk); (try clear hi)))
  go_ret
  exact ⟨_, ze, by first | exact Kd.R_nil _ _ _ _ _ | exact Kd.N_nil _ _ _ _ _ | exact Kd.V_nil _ _ _ _ _ | exact Kd.Q_nil _ _ _ _ _ | exact Kd.S_nil _ _ _ _ _, zb HB.out⟩

/-! ### impl_TermHas: function 18 -/
def impl_TermHas.f (k : Nat) (l0_0 : List (S55)) (a1 : Int) (a2 : Int) : Option (Bool) := (impl_TermBelow.f k l0_0 a1).bind fun t396 => ((slices_Contains_int_int.f k t396 a2).bind fun t399 => (some t399))
theorem impl_TermHas.mono : ∀ a0 a1 a2 k, LeO (impl_TermHas.f k a0 a1 a2) (impl_TermHas.f (k + 1) a0 a1 a2) := by
 intro a0 a1 a2 k
 unfold impl_TermHas.f
 repeat' first
   | (with_reducible exact impl_TermBelow.mono _ _ _)
   | (with_reducible exact slices_Contains_int_int.mono _ _ _)
   | (with_reducible exact LeO.refl _)
   | (with_reducible exact LeO.none _)
   | (with_reducible refine LeO.ite ?_ ?_)
   | (with_reducible refine LeO.bind ?_ (fun _ => ?_))
   | exact impl_TermBelow.mono _ _ _
   | exact slices_Contains_int_int.mono _ _ _
   | exact LeO.none _
   | refine LeO.ite ?_ ?_
   | refine LeO.bind ?_ (fun _ => ?_)
set_option maxHeartbeats 8000000 in
set_option maxRecDepth 100000 in
theorem impl_TermHas.calls (k : Nat) (A0_0 : Option Addr) (c0_0 : Nat) (l0_0 : List (S55)) (a1 : Int) (a2 : Int) (r : Bool) (w : World) (hr0_0 : Kd.C k55 w A0_0 l0_0.length l0_0) (hc0_0 : l0_0.length ≤ c0_0) (h : impl_TermHas.f k l0_0 a1 a2 = some r) :
  Calls Try.prog 18 #[.agg #[.slice A0_0 l0_0.length c0_0], .int .i64 a1, .int .i64 a2] w fun e w' => e = .returned (.bool r) ∧ Below w.heap.size w w' := by
 have hu28 := Try.underlying28
 have HR0_0 := Aside0.mk hr0_0
 have HC0_0 := Aside0.mk hc0_0
 clear hr0_0 hc0_0
 have HB := Aside0.mk (Below.refl w.heap.size w)
 have H : ((impl_TermBelow.f k l0_0 a1).bind fun t396 => ((slices_Contains_int_int.f k t396 a2).bind fun t399 => (some t399))) = some r := h
 clear h
 replace H := Option.bind_eq_some_iff.mp H
 obtain ⟨t396, A40, H⟩ := H
 replace H : ((slices_Contains_int_int.f k t396 a2).bind fun t399 => (some t399)) = some r := H
 have A4 := Aside0.mk A40
 clear A40
 replace H := Option.bind_eq_some_iff.mp H
 obtain ⟨t399, A50, H⟩ := H
 replace H : (some t399) = some r := H
 have A5 := Aside0.mk A50
 clear A50
 obtain rfl := Option.some.inj H
 go_enter Try.func18, Try.ntmps18
 go_wp2_with (first | ((with_reducible refine gate_dst (N := 3) rfl ?_); refine box_event ?hg (N := 3) ?hd (cs := #[.slice A0_0 l0_0.length c0_0]) (t := 28) ?hr ?_; (case hd => rfl); (case hg => rfl); (case hr => first | (go_simp; done) | (go_simp; rfl)); intro gb395 hg w6 hbox hb; have n0_ := Aside0.mk (below_step (zb HB.out) hb); have n1_ := Aside0.mk (hbox); have n2_ := Aside0.mk ((by rw [hg]; exact (below_size (zb HB.out)) : w.heap.size ≤ gb395)); have n3_ := Aside0.mk ((by rw [hg]; exact (below_size (zb HB.out)) : w.heap.size ≤ gb395)); clear HB; have HB := n0_; have BK395 := n1_; have GW395 := n2_; have GE395 := n3_; clear n0_ n1_ n2_ n3_; clear hb hbox hg; have hcz7_0 : w6.cell? ⟨gb395, 0, none⟩ = some (.slice A0_0 l0_0.length c0_0) := (blk_cell BK395.out 0).trans rfl; have hfz7_0 := blk_frozen BK395.out 0) | ((with_reducible refine gate_callee (f := 48) rfl ?_); refine goesL_ (some 9) rfl rfl Try.func48 (by kernel_rfl) rfl #[.agg #[.slice A0_0 l0_0.length c0_0], .int .i64 a1] rfl zl ?_; (with_reducible refine (impl_TermBelow.calls k _ _ l0_0 a1 t396 _ ?side1 ?side2 A4.out).mono ?_); (case side1 => exact zc (Kd.C_below HR0_0.out HB.out)); (case side2 => exact HC0_0.out); rintro e w8 ⟨v397, rfl, ho0, hb⟩; refine ⟨_, rfl, ?_⟩; have n0_ := Aside0.mk (Kd.R_lower ho0 (below_size (zb HB.out))); have n1_ := Aside0.mk (blk_below (zh BK395.out) hb); have n2_ := Aside0.mk (below_step (zb HB.out) hb); clear BK395; clear HB; have HO398 := n0_; have BK395 := n1_; have HB := n2_; clear n0_ n1_ n2_; (try clear hb); (try clear hb2); (try clear hk); (try clear hi); (try clear ho0); obtain ⟨Ao9, co9, eo9⟩ := Kd.R_slice HO398.out; subst eo9) | ((with_reducible refine gate_callee (f := 47) rfl ?_); refine goesL_ (some 11) rfl rfl Try.func47 (by kernel_rfl) rfl #[.slice Ao9 t396.length co9, .int .i64 a2] rfl zl ?_; (with_reducible refine (slices_Contains_int_int.calls k _ _ t396 a2 t399 _ ?side1 ?side2 A5.out).mono ?_); (case side1 => exact zc (Kd.R_reads' HO398.out).2.2); (case side2 => exact (Kd.R_reads' HO398.out).2.1); rintro e w' ⟨rfl, ⟨nd, rfl⟩⟩; refine ⟨_, rfl, ?_⟩))
 go_ret
 exact ⟨ze, zb HB.out⟩

end Go.Proofs.Ytobkledmbnacjaa.F
end
