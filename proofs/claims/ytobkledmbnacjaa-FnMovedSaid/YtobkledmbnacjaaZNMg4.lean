import Derived.Test.YtobkledmbnacjaaZNM0
import Derived.Test.YtobkledmbnacjaaZNMg0
import Derived.Test.YtobkledmbnacjaaZNMg3
import Derived.Test.YtobkledmbnacjaaZNMg2
import Derived.Test.YtobkledmbnacjaaZNLibSort
import Derived.Test.YtobkledmbnacjaaZNShelf
section
namespace Go.Proofs.Ytobkledmbnacjaa.M
open Go.RowKit Go.Proofs.YtobkledmbnacjaaW.PrintWords Go.Proofs.YtobkledmbnacjaaW.PrintLast Go.Proofs.YtobkledmbnacjaaW.PrintMore
attribute [local go_sem] max2_int min2_int max_two min_two max_three min_three max_four min_four   -- for this text's walks alone
set_option linter.unusedVariables false
set_option linter.unusedSimpArgs false
set_option maxRecDepth 100000

/-! ### spec_l1DrawAny: function 50 -/
mutual
def spec_l1DrawAny.j0 : Nat → List Int → Int → Int → List (S55) → Option ((List (S55)) × Int × Int)
 | 0, _, _, _, _ => none
 | k + 1, x1000, x1001, x1002, x295000 => (spec_l1Once.f x1000 x1001 x1002 80).bind fun bt324 => (if bt324.1 = true then (spec_l1DrawAny.l0 k x1000 bt324.2.1 bt324.2.2 ([] : List (S55))) else (some (x295000, bt324.2.1, bt324.2.2)))
def spec_l1DrawAny.l0 : Nat → List Int → Int → Int → List (S55) → Option ((List (S55)) × Int × Int)
 | 0, _, _, _, _ => none
 | k + 1, x1000, x1001, x1002, x295000 => if (x295000.length : Int) < 500 then ((spec_l1Add.f k x295000 1 ((x295000.length : Int) % 200) 0).bind fun bt327 => ((spec_l1Add.f k bt327.1 5 (wrap64 ((bt327.1.length : Int) - 1)) 0).bind fun bt331 => (spec_l1DrawAny.l0 k x1000 x1001 x1002 bt331.1))) else (some (x295000, x1001, x1002))
end
def spec_l1DrawAny.f (k : Nat) (s0_0 : List Int) (s0_1 : Int) (s0_2 : Int) : Option ((List (S55)) × Int × Int) := (spec_l1DrawPool.f k s0_0 s0_1 s0_2 24).bind fun bt289 => ((spec_l1Below.f s0_0 bt289.2.1 bt289.2.2 25).bind fun bt295 => (if bt295.1 = 0 then ((spec_l1Copy.f bt289.1).bind fun t298 => ((spec_l1DrawNode.f k s0_0 bt295.2.1 bt295.2.2 3).bind fun bt301 => (if t298.length < 5864062014805 then (spec_l1DrawAny.j0 k s0_0 bt301.2.2.2.1 bt301.2.2.2.2 (t298 ++ [(⟨bt301.1, bt301.2.1, bt301.2.2.1⟩ : S55)])) else (none)))) else (if bt295.1 = 1 then ((spec_l1Copy.f bt289.1).bind fun t309 => ((spec_l1Below.f s0_0 bt295.2.1 bt295.2.2 10).bind fun bt312 => ((spec_l1Below.f s0_0 bt312.2.1 bt312.2.2 30).bind fun bt315 => ((spec_l1Below.f s0_0 bt315.2.1 bt315.2.2 30).bind fun bt318 => (if t309.length < 5864062014805 then (spec_l1DrawAny.j0 k s0_0 bt318.2.1 bt318.2.2 (t309 ++ [(⟨bt312.1, wrap64 (bt315.1 - 1), wrap64 (bt318.1 - 1)⟩ : S55)])) else (none)))))) else (spec_l1DrawAny.j0 k s0_0 bt295.2.1 bt295.2.2 bt289.1))))
theorem fldP_ (w : World) (v : Value) : (Instr.field 28 (.agg #[v]) 0).run Try.prog w = .ok v w := by
 have hu := Try.underlying28
 simp [Instr.field, run_underlying hu, go_sem, asAgg, part, Result.andThen]
set_option maxHeartbeats 8000000 in
set_option maxRecDepth 100000 in
theorem spec_l1DrawAny.calls (k : Nat) (g : Nat) (s0_0 : List Int) (s0_1 : Int) (s0_2 : Int) (r1 : List (S55)) (r2 : Int) (r3 : Int) (w0 w : World) (hI : IsS86 w0 w g s0_0 s0_1 s0_2) (hB : Below w0.heap.size w0 w) (h : spec_l1DrawAny.f k s0_0 s0_1 s0_2 = some (r1, r2, r3)) :
  Calls Try.prog 50 #[.pointer (some ⟨g, 0, none⟩)] w fun e w' => ∃ v0_ : Value, e = .returned (.agg #[v0_]) ∧ Kd.R k55 55 w' w.heap.size (fun _ => True) v0_ r1 ∧ IsS86 w0 w' g s0_0 r2 r3 ∧ Below w0.heap.size w0 w' ∧ KeepBut w w' g none := by
 have hu28 := Try.underlying28
 have hu55 := Try.underlying55
 have HI0 := Aside0.mk hI
 have HK := Aside0.mk (KeepBut.refl w g none)
 have HL := Aside0.mk hB.size
 clear hI
 have HW0 := Aside0.mk hB.size
 have HB := Aside0.mk hB
 clear hB
 have H : ((spec_l1DrawPool.f k s0_0 s0_1 s0_2 24).bind fun bt289 => ((spec_l1Below.f s0_0 bt289.2.1 bt289.2.2 25).bind fun bt295 => (if bt295.1 = 0 then ((spec_l1Copy.f bt289.1).bind fun t298 => ((spec_l1DrawNode.f k s0_0 bt295.2.1 bt295.2.2 3).bind fun bt301 => (if t298.length < 5864062014805 then (spec_l1DrawAny.j0 k s0_0 bt301.2.2.2.1 bt301.2.2.2.2 (t298 ++ [(⟨bt301.1, bt301.2.1, bt301.2.2.1⟩ : S55)])) else (none)))) else (if bt295.1 = 1 then ((spec_l1Copy.f bt289.1).bind fun t309 => ((spec_l1Below.f s0_0 bt295.2.1 bt295.2.2 10).bind fun bt312 => ((spec_l1Below.f s0_0 bt312.2.1 bt312.2.2 30).bind fun bt315 => ((spec_l1Below.f s0_0 bt315.2.1 bt315.2.2 30).bind fun bt318 => (if t309.length < 5864062014805 then (spec_l1DrawAny.j0 k s0_0 bt318.2.1 bt318.2.2 (t309 ++ [(⟨bt312.1, wrap64 (bt315.1 - 1), wrap64 (bt318.1 - 1)⟩ : S55)])) else (none)))))) else (spec_l1DrawAny.j0 k s0_0 bt295.2.1 bt295.2.2 bt289.1))))) = some (r1, r2, r3) := h
 clear h
 replace H := Option.bind_eq_some_iff.mp H
 obtain ⟨⟨t289, t292, t293⟩, A20, H⟩ := H
 replace H : ((spec_l1Below.f s0_0 t292 t293 25).bind fun bt295 => (if bt295.1 = 0 then ((spec_l1Copy.f t289).bind fun t298 => ((spec_l1DrawNode.f k s0_0 bt295.2.1 bt295.2.2 3).bind fun bt301 => (if t298.length < 5864062014805 then (spec_l1DrawAny.j0 k s0_0 bt301.2.2.2.1 bt301.2.2.2.2 (t298 ++ [(⟨bt301.1, bt301.2.1, bt301.2.2.1⟩ : S55)])) else (none)))) else (if bt295.1 = 1 then ((spec_l1Copy.f t289).bind fun t309 => ((spec_l1Below.f s0_0 bt295.2.1 bt295.2.2 10).bind fun bt312 => ((spec_l1Below.f s0_0 bt312.2.1 bt312.2.2 30).bind fun bt315 => ((spec_l1Below.f s0_0 bt315.2.1 bt315.2.2 30).bind fun bt318 => (if t309.length < 5864062014805 then (spec_l1DrawAny.j0 k s0_0 bt318.2.1 bt318.2.2 (t309 ++ [(⟨bt312.1, wrap64 (bt315.1 - 1), wrap64 (bt318.1 - 1)⟩ : S55)])) else (none)))))) else (spec_l1DrawAny.j0 k s0_0 bt295.2.1 bt295.2.2 t289)))) = some (r1, r2, r3) := H
 have A2 := Aside0.mk A20
 clear A20
 replace H := Option.bind_eq_some_iff.mp H
 obtain ⟨⟨t295, t296, t297⟩, A30, H⟩ := H
 replace H : (if t295 = 0 then ((spec_l1Copy.f t289).bind fun t298 => ((spec_l1DrawNode.f k s0_0 t296 t297 3).bind fun bt301 => (if t298.length < 5864062014805 then (spec_l1DrawAny.j0 k s0_0 bt301.2.2.2.1 bt301.2.2.2.2 (t298 ++ [(⟨bt301.1, bt301.2.1, bt301.2.2.1⟩ : S55)])) else (none)))) else (if t295 = 1 then ((spec_l1Copy.f t289).bind fun t309 => ((spec_l1Below.f s0_0 t296 t297 10).bind fun bt312 => ((spec_l1Below.f s0_0 bt312.2.1 bt312.2.2 30).bind fun bt315 => ((spec_l1Below.f s0_0 bt315.2.1 bt315.2.2 30).bind fun bt318 => (if t309.length < 5864062014805 then (spec_l1DrawAny.j0 k s0_0 bt318.2.1 bt318.2.2 (t309 ++ [(⟨bt312.1, wrap64 (bt315.1 - 1), wrap64 (bt318.1 - 1)⟩ : S55)])) else (none)))))) else (spec_l1DrawAny.j0 k s0_0 t296 t297 t289))) = some (r1, r2, r3) := H
 have A3 := Aside0.mk A30
 clear A30
 have HC4 := Aside0.mk H
 clear H
 have hfldP := fldP_
 go_enter Try.func50, Try.ntmps50
 go_upto_block 0 with (first | ((with_reducible refine gate_dst (N := 2) rfl ?_); refine box_event ?hg (N := 2) ?hd (cs := #[.slice none 0 0]) (t := 28) ?hr ?_; (case hd => rfl); (case hg => rfl); (case hr => first | (go_simp; done) | (go_simp; rfl)); intro gb288 hg w5 hbox hb; have n0_ := Aside0.mk (IsS86.below (zi86 HI0.out) hb); have n1_ := Aside0.mk (KeepBut.trans (zq HK.out) (KeepBut.of_below hb g none) (.inl rfl)); have n2_ := Aside0.mk (below_step (zj HB.out (IsS86.ge HI0.out)) hb); have n3_ := Aside0.mk (hbox); have n4_ := Aside0.mk ((by rw [hg]; exact (keep_size (w := w) (g := g) (row := none) (zq HK.out)) : w.heap.size ≤ gb288)); have n5_ := Aside0.mk ((Nat.le_trans HW0.out (by rw [hg]; exact (keep_size (w := w) (g := g) (row := none) (zq HK.out)) : w.heap.size ≤ gb288) : w0.heap.size ≤ gb288)); have n6_ := Aside0.mk ((by rw [hg]; exact Nat.ne_of_lt (IsS86.lt (show IsS86 w0 _ g s0_0 s0_1 s0_2 from zi86 HI0.out)) : g ≠ gb288)); have n7_ := Aside0.mk ((by rw [hg]; exact Nat.ne_of_gt (IsS86.lt (show IsS86 w0 _ g s0_0 s0_1 s0_2 from zi86 HI0.out)) : gb288 ≠ g)); clear HI0 HK HB; have HI0 := n0_; have HK := n1_; have HB := n2_; have BK288 := n3_; have GW288 := n4_; have GE288 := n5_; have NB0_288 := n6_; have NB288_0 := n7_; clear n0_ n1_ n2_ n3_ n4_ n5_ n6_ n7_ hb hbox hg) | ((with_reducible refine gate_callee (f := 70) rfl ?_); refine goesL_ (some 5) rfl rfl Try.func70 (by kernel_rfl) rfl #[.pointer (some ⟨g, 0, none⟩), .int .i64 24] rfl zl ?_; (with_reducible refine (spec_l1DrawPool.calls k g s0_0 s0_1 s0_2 24 t289 t292 t293 w0 _ ?side1 ?side2 A2.out).mono ?_); (case side1 => exact zi86 HI0.out); (case side2 => exact zj HB.out (IsS86.ge HI0.out)); rintro e w6 ⟨v290, rfl, ho0, hi, hb, hk⟩; refine ⟨_, rfl, ?_⟩; have n0_ := Aside0.mk (KeepBut.blk hk (g' := gb288) (o := .cells #[.slice none 0 0] 28 (0, 0)) (zh BK288.out) NB288_0.out (by simp)); have n1_ := Aside0.mk (Kd.R_lower ho0 (keep_size (w := w) (g := g) (row := none) (zq HK.out))); have n2_ := Aside0.mk (KeepBut.trans (zq HK.out) hk (.inl rfl)); have n3_ := Aside0.mk (hb); have n4_ := Aside0.mk (hi); clear BK288 HK HB HI0; have BK288 := n0_; have HO291 := n1_; have HK := n2_; have HB := n3_; have HI0 := n4_; clear n0_ n1_ n2_ n3_ n4_; (try clear hb); (try clear hb2); (try clear hk); (try clear hi); (try clear ho0)) | ((with_reducible refine gate_dst (N := 3) rfl ?_); refine box_event ?hg (N := 3) ?hd (cs := #[.slice none 0 0]) (t := 28) ?hr ?_; (case hd => rfl); (case hg => rfl); (case hr => first | (go_simp; done) | (go_simp; rfl)); intro gb294 hg w7 hbox hb; have n0_ := Aside0.mk (Kd.R_below (zr HO291.out) hb); have n1_ := Aside0.mk (IsS86.below (zi86 HI0.out) hb); have n2_ := Aside0.mk (blk_below (zh BK288.out) hb); have n3_ := Aside0.mk (KeepBut.trans (zq HK.out) (KeepBut.of_below hb g none) (.inl rfl)); have n4_ := Aside0.mk (below_step (zj HB.out (IsS86.ge HI0.out)) hb); have n5_ := Aside0.mk (hbox); have n6_ := Aside0.mk ((by rw [hg]; exact (keep_size (w := w) (g := g) (row := none) (zq HK.out)) : w.heap.size ≤ gb294)); have n7_ := Aside0.mk ((Nat.le_trans HW0.out (by rw [hg]; exact (keep_size (w := w) (g := g) (row := none) (zq HK.out)) : w.heap.size ≤ gb294) : w0.heap.size ≤ gb294)); have n8_ := Aside0.mk ((by rw [hg]; exact Nat.ne_of_lt (blk_lt (zh BK288.out)) : gb288 ≠ gb294)); have n9_ := Aside0.mk ((by rw [hg]; exact Nat.ne_of_gt (blk_lt (zh BK288.out)) : gb294 ≠ gb288)); have n10_ := Aside0.mk ((by rw [hg]; exact Nat.ne_of_lt (IsS86.lt (show IsS86 w0 _ g s0_0 t292 t293 from zi86 HI0.out)) : g ≠ gb294)); have n11_ := Aside0.mk ((by rw [hg]; exact Nat.ne_of_gt (IsS86.lt (show IsS86 w0 _ g s0_0 t292 t293 from zi86 HI0.out)) : gb294 ≠ g)); clear HO291 HI0 BK288 HK HB; have HO291 := n0_; have HI0 := n1_; have BK288 := n2_; have HK := n3_; have HB := n4_; have BK294 := n5_; have GW294 := n6_; have GE294 := n7_; have NB288_294 := n8_; have NB294_288 := n9_; have NB0_294 := n10_; have NB294_0 := n11_; clear n0_ n1_ n2_ n3_ n4_ n5_ n6_ n7_ n8_ n9_ n10_ n11_ hb hbox hg; obtain ⟨Ao8, co8, eo8⟩ := Kd.R_slice HO291.out; subst eo8; have hnb9 := NB294_288.out; have hnc9 := NB288_294.out; have hnb10 := NB294_0.out; have hnc10 := NB0_294.out; have hcz11_0 : w7.cell? ⟨gb294, 0, none⟩ = some (.slice none 0 0) := (blk_cell BK294.out 0).trans rfl; have hfz11_0 := blk_frozen BK294.out 0) | ((with_reducible refine gate_callee (f := 68) rfl ?_); refine goesL_ (some 7) rfl rfl Try.func68 (by kernel_rfl) rfl #[.pointer (some ⟨g, 0, none⟩), .int .i64 25] rfl zl ?_; (with_reducible refine (spec_l1Below.calls g s0_0 t292 t293 25 t295 t296 t297 w0 _ ?side1 ?side2 A3.out).mono ?_); (case side1 => exact zi86 HI0.out); (case side2 => exact zj HB.out (IsS86.ge HI0.out)); rintro e w12 ⟨rfl, hi, hb, hk⟩; refine ⟨_, rfl, ?_⟩; have n0_ := Aside0.mk (KeepBut.blk hk (g' := gb288) (o := .cells #[.slice none 0 0] 28 (0, 0)) (zf BK288.out) NB288_0.out (by simp)); have n1_ := Aside0.mk (Kd.R_mono (Kd.R_keep (IsS86.apart (show IsS86 w0 _ g s0_0 t292 t293 from zi86 HI0.out) (by (with_reducible repeat (first | apply Kd.R_alloc | apply Kd.R_drewN | apply Kd.R_drew)); exact (Kd.R_mono (Kd.R_far (p := ⟨gb294, 0, none⟩) (Kd.R_types HO291.out BK294.out (by decide)) (fun _ hk => hk.2) (.slice Ao8 t289.length co8)) (fun _ h_ => h_.1))) (by decide)) hk (fun _ h => h.2)) (fun _ h => h.1)); have n2_ := Aside0.mk (KeepBut.blk hk (g' := gb294) (o := .cells #[.slice Ao8 t289.length co8] 28 (0, 0)) (by (with_reducible repeat (first | refine blk_drewN ?_ _ | refine blk_drew ?_ | refine blk_alloc ?_ _)); refine blk_put (cs := #[.slice none 0 0]) ?_ 0 _ rfl; (with_reducible repeat (first | refine blk_drewN ?_ _ | refine blk_drew ?_ | refine blk_alloc ?_ _)); exact BK294.out) NB294_0.out (by simp)); have n3_ := Aside0.mk (KeepBut.trans (zq HK.out) hk (.inl rfl)); have n4_ := Aside0.mk (hb); have n5_ := Aside0.mk (hi); clear BK288 HO291 BK294 HK HB HI0; have BK288 := n0_; have HO291 := n1_; have BK294 := n2_; have HK := n3_; have HB := n4_; have HI0 := n5_; clear n0_ n1_ n2_ n3_ n4_ n5_; (try clear hb); (try clear hb2); (try clear hk); (try clear hi)))
 (try simp only [Act.put, List.setIfInBounds_toArray, List.set_cons_zero, List.set_cons_succ])
 go_cut [] (fun wc => ∃ (kq : Nat) (x1001_3 : Int) (x1002_3 : Int) (x295000_3 : List (S55)) (u295000 : Value), Aside0 (spec_l1DrawAny.j0 kq s0_0 x1001_3 x1002_3 x295000_3 = some (r1, r2, r3)) ∧ Aside0 (kq ≤ k) ∧ Aside0 (Kd.R k55 55 wc w.heap.size (fun _ => True) u295000 x295000_3) ∧ Aside0 (wc.heap[gb288]? = some (.cells #[(.slice none 0 0)] 28 (0, 0))) ∧ Aside0 (wc.heap[gb294]? = some (.cells #[u295000] 28 (0, 0))) ∧ Aside0 (IsS86 w0 wc g s0_0 x1001_3 x1002_3) ∧ Aside0 (KeepBut w wc g none) ∧ Aside0 (Below w0.heap.size w0 wc))
 case first =>
  have H := HC4.out
  clear HC4
  by_cases c13 : t295 = 0
  ·rw [if_pos c13] at H
   have c13b0 : (t295 == 0) = true := beq_iff_eq.mpr c13
   have c13b1 : (t295 != 0) = false := bne_eq_false_iff_eq.mpr c13
   clear c13
   (first | rw [c13b0] | (simp only [i64_w, i32_w]; rw [c13b0]) | skip)
   replace H := Option.bind_eq_some_iff.mp H
   obtain ⟨t298, A140, H⟩ := H
   replace H : ((spec_l1DrawNode.f k s0_0 t296 t297 3).bind fun bt301 => (if t298.length < 5864062014805 then (spec_l1DrawAny.j0 k s0_0 bt301.2.2.2.1 bt301.2.2.2.2 (t298 ++ [(⟨bt301.1, bt301.2.1, bt301.2.2.1⟩ : S55)])) else (none))) = some (r1, r2, r3) := H
   have A14 := Aside0.mk A140
   clear A140
   replace H := Option.bind_eq_some_iff.mp H
   obtain ⟨⟨t301, t302, t303, t304, t305⟩, A150, H⟩ := H
   replace H : (if t298.length < 5864062014805 then (spec_l1DrawAny.j0 k s0_0 t304 t305 (t298 ++ [(⟨t301, t302, t303⟩ : S55)])) else (none)) = some (r1, r2, r3) := H
   have A15 := Aside0.mk A150
   clear A150
   by_cases c16 : t298.length < 5864062014805
   rotate_left
   ·rw [if_neg c16] at H
    exact absurd H (by simp)
   rw [if_pos c16] at H
   have LMc16 := Aside0.mk c16
   clear c16
   obtain ⟨y306, hy306⟩ : ∃ y_ : List (S55), y_ = (t298 ++ [(⟨t301, t302, t303⟩ : S55)]) := ⟨_, rfl⟩
   replace H : (spec_l1DrawAny.j0 k s0_0 t304 t305 y306) = some (r1, r2, r3) := by first | (rw [hy306]; with_reducible exact H) | (have H2_ := (Option.bind_some _ _).symm.trans H; rw [hy306]; with_reducible exact H2_) | (have H2_ := (Option.bind_some _ _).symm.trans H; with_reducible exact H2_) | with_reducible exact H | (rw [hy306]; exact H) | exact H
   have Ny306 := Aside0.mk hy306
   clear hy306
   have H' := Aside0.mk H
   clear H
   have hnb17 := NB294_288.out
   have hnc17 := NB288_294.out
   have hnb18 := NB294_0.out
   have hnc18 := NB0_294.out
   have hcz19_0 : w12.cell? ⟨gb294, 0, none⟩ = some (.slice Ao8 t289.length co8) := (blk_cell BK294.out 0).trans rfl
   have hfz19_0 := blk_frozen BK294.out 0
   go_wp2_with (first | ((with_reducible refine gate_callee (f := 27) rfl ?_); refine goesL_ (some 11) rfl rfl Try.func27 (by kernel_rfl) rfl #[.agg #[.slice Ao8 t289.length co8]] rfl zl ?_; (with_reducible refine (spec_l1Copy.calls _ _ t289 t298 _ ?side1 ?side2 A14.out).mono ?_); (case side1 => exact zc (Kd.R_reads' HO291.out).2.2); (case side2 => exact (Kd.R_reads' HO291.out).2.1); rintro e w20 ⟨v299, rfl, ho0, hb⟩; refine ⟨_, rfl, ?_⟩; have n0_ := Aside0.mk (Kd.R_elder' (zr HO291.out) (Kd.R_base ho0) hb); have n1_ := Aside0.mk (Kd.R_lower (Kd.R_new' ho0 (Kd.R_lt (zr HO291.out))) (keep_size (w := w) (g := g) (row := none) (zq HK.out))); have n2_ := Aside0.mk (IsS86.below (zi86 HI0.out) hb); have n3_ := Aside0.mk (blk_below (zh BK288.out) hb); have n4_ := Aside0.mk (blk_below (zh BK294.out) hb); have n5_ := Aside0.mk (KeepBut.trans (zq HK.out) (KeepBut.of_below hb g none) (.inl rfl)); have n6_ := Aside0.mk (below_step (zj HB.out (IsS86.ge HI0.out)) hb); clear HO291 HI0 BK288 BK294 HK HB; have HO291 := n0_; have HO300 := n1_; have HI0 := n2_; have BK288 := n3_; have BK294 := n4_; have HK := n5_; have HB := n6_; clear n0_ n1_ n2_ n3_ n4_ n5_ n6_; (try clear hb); (try clear hb2); (try clear hk); (try clear hi); (try clear ho0)) | ((with_reducible refine gate_callee (f := 71) rfl ?_); refine goesL_ (some 14) rfl rfl Try.func71 (by kernel_rfl) rfl #[.pointer (some ⟨g, 0, none⟩), .int .i64 3] rfl zl ?_; (with_reducible refine (spec_l1DrawNode.calls k g s0_0 t296 t297 3 t301 t302 t303 t304 t305 w0 _ ?side1 ?side2 A15.out).mono ?_); (case side1 => exact zi86 HI0.out); (case side2 => exact zj HB.out (IsS86.ge HI0.out)); rintro e w21 ⟨rfl, hi, hb, hk⟩; refine ⟨_, rfl, ?_⟩; have n0_ := Aside0.mk (KeepBut.blk hk (g' := gb288) (o := .cells #[.slice none 0 0] 28 (0, 0)) (zh BK288.out) NB288_0.out (by simp)); have n1_ := Aside0.mk (Kd.R_mono (Kd.R_keep (IsS86.apart (show IsS86 w0 _ g s0_0 t296 t297 from zi86 HI0.out) (zr HO291.out) (by decide)) hk (fun _ h => h.2)) (fun _ h => h.1)); have n2_ := Aside0.mk (KeepBut.blk hk (g' := gb294) (o := .cells #[.slice Ao8 t289.length co8] 28 (0, 0)) (zh BK294.out) NB294_0.out (by simp)); have n3_ := Aside0.mk (Kd.R_mono (Kd.R_keep (IsS86.apart (show IsS86 w0 _ g s0_0 t296 t297 from zi86 HI0.out) (zr HO300.out) (by decide)) hk (fun _ h => h.2)) (fun _ h => h.1)); have n4_ := Aside0.mk (KeepBut.trans (zq HK.out) hk (.inl rfl)); have n5_ := Aside0.mk (hb); have n6_ := Aside0.mk (hi); clear BK288 HO291 BK294 HO300 HK HB HI0; have BK288 := n0_; have HO291 := n1_; have BK294 := n2_; have HO300 := n3_; have HK := n4_; have HB := n5_; have HI0 := n6_; clear n0_ n1_ n2_ n3_ n4_ n5_ n6_; (try clear hb); (try clear hb2); (try clear hk); (try clear hi)) | ((with_reducible refine gate_builtin (b := .append) (xs := #[.tmp 12, .tmp 15]) rfl ?_); at_builtin; refine Kd.R_append k55 w.heap.size rfl (.tmp 12) (.tmp 15) 26 55 (.agg #[(.int .i64 0), (.int .i64 0), (.int .i64 0)]) 24 rfl Try.underlying26 info55 rfl (by decide) (by omega) v299 t298 (⟨t301, t302, t303⟩ : S55) [.int .i64 t301, .int .i64 t302, .int .i64 t303] (fun k_ => some k_ ≠ (.slice Ao8 t289.length co8 : Value).ownBlock) (fun _ => False) rfl rfl ?aP (fun _ hk => hk.elim) ?aF ?aO (Below.refl _ _) ?aS ?aL ?_; (case aP => exact k55_mkM _ _ _ (⟨t301, t302, t303⟩ : S55)); (case aF => exact (fun k_ hk => Kd.fresh' (Kd.R_lt (zr HO291.out)) k_ hk)); (case aO => exact (by (with_reducible repeat (first | apply Kd.R_alloc | apply Kd.R_drewN | apply Kd.R_drew)); exact Kd.R_mono HO300.out (fun _ hk => hk.2))); (case aS => exact (keep_size (w := w) (g := g) (row := none) (zq HK.out))); (case aL => have := LMc16.out; omega); intro v307 w22 ho hb hg hat; rw [← Ny306.out] at ho; have n0_ := Aside0.mk (IsS86.grown (zi86 HI0.out) hg (IsS86.own_ne HI0.out HO300.out (by decide))); have n1_ := Aside0.mk (blk_grown (zh BK288.out) hg (Kd.R_ne HO300.out BK288.out (by decide))); have n2_ := Aside0.mk (Kd.R_after (ok := (fun _ => True)) (zr HO291.out) hg hat); have n3_ := Aside0.mk (blk_grown (zh BK294.out) hg (Kd.R_ne HO300.out BK294.out (by decide))); have n4_ := Aside0.mk (below_weaken (zj HB.out (IsS86.ge HI0.out)) HL.out hb); have n5_ := Aside0.mk (KeepBut.trans (zq HK.out) (KeepBut.of_grown hg g) (Kd.R_base2 HO300.out)); have n6_ := Aside0.mk (ho); clear HI0 BK288 HO291 BK294 HB HK HO300; have HI0 := n0_; have BK288 := n1_; have HO291 := n2_; have BK294 := n3_; have HB := n4_; have HK := n5_; have HO308 := n6_; clear n0_ n1_ n2_ n3_ n4_ n5_ n6_ ho hb hg hat; obtain ⟨Ao23, co23, eo23⟩ := Kd.R_slice HO308.out; subst eo23; have hcz24_0 : w22.cell? ⟨gb294, 0, none⟩ = some (.slice Ao8 t289.length co8) := (blk_cell BK294.out 0).trans rfl; have hfz24_0 := blk_frozen BK294.out 0))
   go_meet
   case rel => exact ⟨_, (t304), (t305), (y306), (.slice Ao23 y306.length co23), H', ⟨by first | omega | exact Nat.le_refl _⟩, ⟨zr (Kd.R_mono (Kd.R_far (p := ⟨gb294, 0, none⟩) (Kd.R_types HO308.out BK294.out (by decide)) (fun _ hk => hk.2) (.slice Ao23 y306.length co23)) (fun _ hk => trivial))⟩, ⟨zf BK288.out⟩, ⟨by (with_reducible repeat (first | refine blk_drewN ?_ _ | refine blk_drew ?_ | refine blk_alloc ?_ _)); refine blk_put (cs := #[.slice Ao8 t289.length co8]) ?_ 0 _ rfl; (with_reducible repeat (first | refine blk_drewN ?_ _ | refine blk_drew ?_ | refine blk_alloc ?_ _)); exact BK294.out⟩, ⟨zi86 HI0.out⟩, ⟨zq HK.out⟩, ⟨zj HB.out (IsS86.ge HI0.out)⟩⟩
  rw [if_neg c13] at H
  have c13b0 : (t295 == 0) = false := beq_eq_false_iff_ne.mpr c13
  have c13b1 : (t295 != 0) = true := bne_iff_ne.mpr c13
  (first | rw [c13b0] | (simp only [i64_w, i32_w]; rw [c13b0]) | skip)
  by_cases c25 : t295 = 1
  rotate_left
  ·rw [if_neg c25] at H
   have c25b0 : (t295 == 1) = false := beq_eq_false_iff_ne.mpr c25
   have c25b1 : (t295 != 1) = true := bne_iff_ne.mpr c25
   have H' := Aside0.mk H
   clear H
   go_wp2
   go_meet
   case rel => exact ⟨_, (t296), (t297), (t289), (.slice Ao8 t289.length co8), H', ⟨by first | omega | exact Nat.le_refl _⟩, ⟨zr HO291.out⟩, ⟨zh BK288.out⟩, ⟨zh BK294.out⟩, ⟨zi86 HI0.out⟩, ⟨zq HK.out⟩, ⟨zj HB.out (IsS86.ge HI0.out)⟩⟩
  rw [if_pos c25] at H
  have c25b0 : (t295 == 1) = true := beq_iff_eq.mpr c25
  have c25b1 : (t295 != 1) = false := bne_eq_false_iff_eq.mpr c25
  clear c25
  replace H := Option.bind_eq_some_iff.mp H
  obtain ⟨t309, A260, H⟩ := H
  replace H : ((spec_l1Below.f s0_0 t296 t297 10).bind fun bt312 => ((spec_l1Below.f s0_0 bt312.2.1 bt312.2.2 30).bind fun bt315 => ((spec_l1Below.f s0_0 bt315.2.1 bt315.2.2 30).bind fun bt318 => (if t309.length < 5864062014805 then (spec_l1DrawAny.j0 k s0_0 bt318.2.1 bt318.2.2 (t309 ++ [(⟨bt312.1, wrap64 (bt315.1 - 1), wrap64 (bt318.1 - 1)⟩ : S55)])) else (none))))) = some (r1, r2, r3) := H
  have A26 := Aside0.mk A260
  clear A260
  replace H := Option.bind_eq_some_iff.mp H
  obtain ⟨⟨t312, t313, t314⟩, A270, H⟩ := H
  replace H : ((spec_l1Below.f s0_0 t313 t314 30).bind fun bt315 => ((spec_l1Below.f s0_0 bt315.2.1 bt315.2.2 30).bind fun bt318 => (if t309.length < 5864062014805 then (spec_l1DrawAny.j0 k s0_0 bt318.2.1 bt318.2.2 (t309 ++ [(⟨t312, wrap64 (bt315.1 - 1), wrap64 (bt318.1 - 1)⟩ : S55)])) else (none)))) = some (r1, r2, r3) := H
  have A27 := Aside0.mk A270
  clear A270
  replace H := Option.bind_eq_some_iff.mp H
  obtain ⟨⟨t315, t316, t317⟩, A280, H⟩ := H
  replace H : ((spec_l1Below.f s0_0 t316 t317 30).bind fun bt318 => (if t309.length < 5864062014805 then (spec_l1DrawAny.j0 k s0_0 bt318.2.1 bt318.2.2 (t309 ++ [(⟨t312, wrap64 (t315 - 1), wrap64 (bt318.1 - 1)⟩ : S55)])) else (none))) = some (r1, r2, r3) := H
  have A28 := Aside0.mk A280
  clear A280
  replace H := Option.bind_eq_some_iff.mp H
  obtain ⟨⟨t318, t319, t320⟩, A290, H⟩ := H
  replace H : (if t309.length < 5864062014805 then (spec_l1DrawAny.j0 k s0_0 t319 t320 (t309 ++ [(⟨t312, wrap64 (t315 - 1), wrap64 (t318 - 1)⟩ : S55)])) else (none)) = some (r1, r2, r3) := H
  have A29 := Aside0.mk A290
  clear A290
  by_cases c30 : t309.length < 5864062014805
  rotate_left
  ·rw [if_neg c30] at H
   exact absurd H (by simp)
  rw [if_pos c30] at H
  have LMc30 := Aside0.mk c30
  clear c30
  obtain ⟨y321, hy321⟩ : ∃ y_ : List (S55), y_ = (t309 ++ [(⟨t312, wrap64 (t315 - 1), wrap64 (t318 - 1)⟩ : S55)]) := ⟨_, rfl⟩
  replace H : (spec_l1DrawAny.j0 k s0_0 t319 t320 y321) = some (r1, r2, r3) := by first | (rw [hy321]; with_reducible exact H) | (have H2_ := (Option.bind_some _ _).symm.trans H; rw [hy321]; with_reducible exact H2_) | (have H2_ := (Option.bind_some _ _).symm.trans H; with_reducible exact H2_) | with_reducible exact H | (rw [hy321]; exact H) | exact H
  have Ny321 := Aside0.mk hy321
  clear hy321
  have H' := Aside0.mk H
  clear H
  have hnb31 := NB294_288.out
  have hnc31 := NB288_294.out
  have hnb32 := NB294_0.out
  have hnc32 := NB0_294.out
  have hcz33_0 : w12.cell? ⟨gb294, 0, none⟩ = some (.slice Ao8 t289.length co8) := (blk_cell BK294.out 0).trans rfl
  have hfz33_0 := blk_frozen BK294.out 0
  go_wp2_with (first | ((with_reducible refine gate_callee (f := 27) rfl ?_); refine goesL_ (some 21) rfl rfl Try.func27 (by kernel_rfl) rfl #[.agg #[.slice Ao8 t289.length co8]] rfl zl ?_; (with_reducible refine (spec_l1Copy.calls _ _ t289 t309 _ ?side1 ?side2 A26.out).mono ?_); (case side1 => exact zc (Kd.R_reads' HO291.out).2.2); (case side2 => exact (Kd.R_reads' HO291.out).2.1); rintro e w34 ⟨v310, rfl, ho0, hb⟩; refine ⟨_, rfl, ?_⟩; have n0_ := Aside0.mk (Kd.R_elder' (zr HO291.out) (Kd.R_base ho0) hb); have n1_ := Aside0.mk (Kd.R_lower (Kd.R_new' ho0 (Kd.R_lt (zr HO291.out))) (keep_size (w := w) (g := g) (row := none) (zq HK.out))); have n2_ := Aside0.mk (IsS86.below (zi86 HI0.out) hb); have n3_ := Aside0.mk (blk_below (zh BK288.out) hb); have n4_ := Aside0.mk (blk_below (zh BK294.out) hb); have n5_ := Aside0.mk (KeepBut.trans (zq HK.out) (KeepBut.of_below hb g none) (.inl rfl)); have n6_ := Aside0.mk (below_step (zj HB.out (IsS86.ge HI0.out)) hb); clear HO291 HI0 BK288 BK294 HK HB; have HO291 := n0_; have HO311 := n1_; have HI0 := n2_; have BK288 := n3_; have BK294 := n4_; have HK := n5_; have HB := n6_; clear n0_ n1_ n2_ n3_ n4_ n5_ n6_; (try clear hb); (try clear hb2); (try clear hk); (try clear hi); (try clear ho0)) | ((with_reducible refine gate_callee (f := 68) rfl ?_); refine goesL_ (some 24) rfl rfl Try.func68 (by kernel_rfl) rfl #[.pointer (some ⟨g, 0, none⟩), .int .i64 10] rfl zl ?_; (with_reducible refine (spec_l1Below.calls g s0_0 t296 t297 10 t312 t313 t314 w0 _ ?side1 ?side2 A27.out).mono ?_); (case side1 => exact zi86 HI0.out); (case side2 => exact zj HB.out (IsS86.ge HI0.out)); rintro e w35 ⟨rfl, hi, hb, hk⟩; refine ⟨_, rfl, ?_⟩; have n0_ := Aside0.mk (KeepBut.blk hk (g' := gb288) (o := .cells #[.slice none 0 0] 28 (0, 0)) (zh BK288.out) NB288_0.out (by simp)); have n1_ := Aside0.mk (Kd.R_mono (Kd.R_keep (IsS86.apart (show IsS86 w0 _ g s0_0 t296 t297 from zi86 HI0.out) (zr HO291.out) (by decide)) hk (fun _ h => h.2)) (fun _ h => h.1)); have n2_ := Aside0.mk (KeepBut.blk hk (g' := gb294) (o := .cells #[.slice Ao8 t289.length co8] 28 (0, 0)) (zh BK294.out) NB294_0.out (by simp)); have n3_ := Aside0.mk (Kd.R_mono (Kd.R_keep (IsS86.apart (show IsS86 w0 _ g s0_0 t296 t297 from zi86 HI0.out) (zr HO311.out) (by decide)) hk (fun _ h => h.2)) (fun _ h => h.1)); have n4_ := Aside0.mk (KeepBut.trans (zq HK.out) hk (.inl rfl)); have n5_ := Aside0.mk (hb); have n6_ := Aside0.mk (hi); clear BK288 HO291 BK294 HO311 HK HB HI0; have BK288 := n0_; have HO291 := n1_; have BK294 := n2_; have HO311 := n3_; have HK := n4_; have HB := n5_; have HI0 := n6_; clear n0_ n1_ n2_ n3_ n4_ n5_ n6_; (try clear hb); (try clear hb2); (try clear hk); (try clear hi)) | ((with_reducible refine gate_callee (f := 68) rfl ?_); refine goesL_ (some 26) rfl rfl Try.func68 (by kernel_rfl) rfl #[.pointer (some ⟨g, 0, none⟩), .int .i64 30] rfl zl ?_; (with_reducible refine (spec_l1Below.calls g s0_0 t313 t314 30 t315 t316 t317 w0 _ ?side1 ?side2 A28.out).mono ?_); (case side1 => exact zi86 HI0.out); (case side2 => exact zj HB.out (IsS86.ge HI0.out)); rintro e w36 ⟨rfl, hi, hb, hk⟩; refine ⟨_, rfl, ?_⟩; have n0_ := Aside0.mk (KeepBut.blk hk (g' := gb288) (o := .cells #[.slice none 0 0] 28 (0, 0)) (zh BK288.out) NB288_0.out (by simp)); have n1_ := Aside0.mk (Kd.R_mono (Kd.R_keep (IsS86.apart (show IsS86 w0 _ g s0_0 t313 t314 from zi86 HI0.out) (zr HO291.out) (by decide)) hk (fun _ h => h.2)) (fun _ h => h.1)); have n2_ := Aside0.mk (KeepBut.blk hk (g' := gb294) (o := .cells #[.slice Ao8 t289.length co8] 28 (0, 0)) (zh BK294.out) NB294_0.out (by simp)); have n3_ := Aside0.mk (Kd.R_mono (Kd.R_keep (IsS86.apart (show IsS86 w0 _ g s0_0 t313 t314 from zi86 HI0.out) (zr HO311.out) (by decide)) hk (fun _ h => h.2)) (fun _ h => h.1)); have n4_ := Aside0.mk (KeepBut.trans (zq HK.out) hk (.inl rfl)); have n5_ := Aside0.mk (hb); have n6_ := Aside0.mk (hi); clear BK288 HO291 BK294 HO311 HK HB HI0; have BK288 := n0_; have HO291 := n1_; have BK294 := n2_; have HO311 := n3_; have HK := n4_; have HB := n5_; have HI0 := n6_; clear n0_ n1_ n2_ n3_ n4_ n5_ n6_; (try clear hb); (try clear hb2); (try clear hk); (try clear hi)) | ((with_reducible refine gate_callee (f := 68) rfl ?_); refine goesL_ (some 29) rfl rfl Try.func68 (by kernel_rfl) rfl #[.pointer (some ⟨g, 0, none⟩), .int .i64 30] rfl zl ?_; (with_reducible refine (spec_l1Below.calls g s0_0 t316 t317 30 t318 t319 t320 w0 _ ?side1 ?side2 A29.out).mono ?_); (case side1 => exact zi86 HI0.out); (case side2 => exact zj HB.out (IsS86.ge HI0.out)); rintro e w37 ⟨rfl, hi, hb, hk⟩; refine ⟨_, rfl, ?_⟩; have n0_ := Aside0.mk (KeepBut.blk hk (g' := gb288) (o := .cells #[.slice none 0 0] 28 (0, 0)) (zh BK288.out) NB288_0.out (by simp)); have n1_ := Aside0.mk (Kd.R_mono (Kd.R_keep (IsS86.apart (show IsS86 w0 _ g s0_0 t316 t317 from zi86 HI0.out) (zr HO291.out) (by decide)) hk (fun _ h => h.2)) (fun _ h => h.1)); have n2_ := Aside0.mk (KeepBut.blk hk (g' := gb294) (o := .cells #[.slice Ao8 t289.length co8] 28 (0, 0)) (zh BK294.out) NB294_0.out (by simp)); have n3_ := Aside0.mk (Kd.R_mono (Kd.R_keep (IsS86.apart (show IsS86 w0 _ g s0_0 t316 t317 from zi86 HI0.out) (zr HO311.out) (by decide)) hk (fun _ h => h.2)) (fun _ h => h.1)); have n4_ := Aside0.mk (KeepBut.trans (zq HK.out) hk (.inl rfl)); have n5_ := Aside0.mk (hb); have n6_ := Aside0.mk (hi); clear BK288 HO291 BK294 HO311 HK HB HI0; have BK288 := n0_; have HO291 := n1_; have BK294 := n2_; have HO311 := n3_; have HK := n4_; have HB := n5_; have HI0 := n6_; clear n0_ n1_ n2_ n3_ n4_ n5_ n6_; (try clear hb); (try clear hb2); (try clear hk); (try clear hi)) | ((with_reducible refine gate_builtin (b := .append) (xs := #[.tmp 22, .tmp 32]) rfl ?_); at_builtin; refine Kd.R_append k55 w.heap.size rfl (.tmp 22) (.tmp 32) 26 55 (.agg #[(.int .i64 0), (.int .i64 0), (.int .i64 0)]) 24 rfl Try.underlying26 info55 rfl (by decide) (by omega) v310 t309 (⟨t312, wrap64 (t315 - 1), wrap64 (t318 - 1)⟩ : S55) [.int .i64 t312, .int .i64 (wrap64 (t315 - 1)), .int .i64 (wrap64 (t318 - 1))] (fun k_ => some k_ ≠ (.slice Ao8 t289.length co8 : Value).ownBlock) (fun _ => False) rfl rfl ?aP (fun _ hk => hk.elim) ?aF ?aO (Below.refl _ _) ?aS ?aL ?_; (case aP => exact k55_mkM _ _ _ (⟨t312, wrap64 (t315 - 1), wrap64 (t318 - 1)⟩ : S55)); (case aF => exact (fun k_ hk => Kd.fresh' (Kd.R_lt (zr HO291.out)) k_ hk)); (case aO => exact (by (with_reducible repeat (first | apply Kd.R_alloc | apply Kd.R_drewN | apply Kd.R_drew)); exact Kd.R_mono HO311.out (fun _ hk => hk.2))); (case aS => exact (keep_size (w := w) (g := g) (row := none) (zq HK.out))); (case aL => have := LMc30.out; omega); intro v322 w38 ho hb hg hat; rw [← Ny321.out] at ho; have n0_ := Aside0.mk (IsS86.grown (zi86 HI0.out) hg (IsS86.own_ne HI0.out HO311.out (by decide))); have n1_ := Aside0.mk (blk_grown (zh BK288.out) hg (Kd.R_ne HO311.out BK288.out (by decide))); have n2_ := Aside0.mk (Kd.R_after (ok := (fun _ => True)) (zr HO291.out) hg hat); have n3_ := Aside0.mk (blk_grown (zh BK294.out) hg (Kd.R_ne HO311.out BK294.out (by decide))); have n4_ := Aside0.mk (below_weaken (zj HB.out (IsS86.ge HI0.out)) HL.out hb); have n5_ := Aside0.mk (KeepBut.trans (zq HK.out) (KeepBut.of_grown hg g) (Kd.R_base2 HO311.out)); have n6_ := Aside0.mk (ho); clear HI0 BK288 HO291 BK294 HB HK HO311; have HI0 := n0_; have BK288 := n1_; have HO291 := n2_; have BK294 := n3_; have HB := n4_; have HK := n5_; have HO323 := n6_; clear n0_ n1_ n2_ n3_ n4_ n5_ n6_ ho hb hg hat; obtain ⟨Ao39, co39, eo39⟩ := Kd.R_slice HO323.out; subst eo39; have hcz40_0 : w38.cell? ⟨gb294, 0, none⟩ = some (.slice Ao8 t289.length co8) := (blk_cell BK294.out 0).trans rfl; have hfz40_0 := blk_frozen BK294.out 0))
  go_meet
  case rel => exact ⟨_, (t319), (t320), (y321), (.slice Ao39 y321.length co39), H', ⟨by first | omega | exact Nat.le_refl _⟩, ⟨zr (Kd.R_mono (Kd.R_far (p := ⟨gb294, 0, none⟩) (Kd.R_types HO323.out BK294.out (by decide)) (fun _ hk => hk.2) (.slice Ao39 y321.length co39)) (fun _ hk => trivial))⟩, ⟨zf BK288.out⟩, ⟨by (with_reducible repeat (first | refine blk_drewN ?_ _ | refine blk_drew ?_ | refine blk_alloc ?_ _)); refine blk_put (cs := #[.slice Ao8 t289.length co8]) ?_ 0 _ rfl; (with_reducible repeat (first | refine blk_drewN ?_ _ | refine blk_drew ?_ | refine blk_alloc ?_ _)); exact BK294.out⟩, ⟨zi86 HI0.out⟩, ⟨zq HK.out⟩, ⟨zj HB.out (IsS86.ge HI0.out)⟩⟩
 case rest =>
  clear HC4
  try clear c1
  try clear c2
  try clear p2
  try clear c3
  try clear c5
  try clear c6
  try clear p6
  try clear c7
  try clear c9
  try clear c10
  try clear c13
  try clear c13b0
  try clear c13b1
  try clear c16
  try clear c17
  try clear c18
  try clear c25
  try clear c25b0
  try clear c25b1
  try clear c27
  try clear c30
  try clear c31
  try clear c32
  try clear hcz11_0
  try clear hcz19_0
  try clear hcz24_0
  try clear hcz33_0
  try clear hcz40_0
  try clear hfz11_0
  try clear hfz19_0
  try clear hfz24_0
  try clear hfz33_0
  try clear hfz40_0
  obtain ⟨kq, x1001_3, x1002_3, x295000_3, u295000, HA, HJ3, HO_295000, BK288, BK294, HI0, HK, HB⟩ := hcut
  cases kq with
  | zero => exact absurd HA.out (by simp [spec_l1DrawAny.j0])
  | succ kj3 =>
   have H := HA.out
   clear HA
   simp only [spec_l1DrawAny.j0] at H
   replace H := Option.bind_eq_some_iff.mp H
   obtain ⟨⟨t324, t325, t326⟩, A410, H⟩ := H
   replace H : (if t324 = true then (spec_l1DrawAny.l0 kj3 s0_0 t325 t326 ([] : List (S55))) else (some (x295000_3, t325, t326))) = some (r1, r2, r3) := H
   have A41 := Aside0.mk A410
   clear A410
   by_cases c42 : t324 = true
   rotate_left
   ·replace c42 := Bool.eq_false_iff.mpr c42
    subst c42
    have H1 : (some (x295000_3, t325, t326)) = some (r1, r2, r3) := by rw [if_neg (show ¬ (false = true) by decide)] at H; exact H
    clear H
    have H := H1
    clear H1
    simp only [Option.some.injEq, Prod.mk.injEq] at H
    obtain ⟨rfl, rfl, rfl⟩ := H
    go_wp2_with (first | ((with_reducible refine gate_callee (f := 44) rfl ?_); refine goesL_ (some 36) rfl rfl Try.func44 (by kernel_rfl) rfl #[.pointer (some ⟨g, 0, none⟩), .int .i64 80] rfl zl ?_; (with_reducible refine (spec_l1Once.calls g s0_0 x1001_3 x1002_3 80 false t325 t326 w0 _ ?side1 ?side2 A41.out).mono ?_); (case side1 => exact zi86 HI0.out); (case side2 => exact zj HB.out (IsS86.ge HI0.out)); rintro e w68 ⟨rfl, hi, hb, hk⟩; refine ⟨_, rfl, ?_⟩; have n0_ := Aside0.mk (Kd.R_mono (Kd.R_keep (IsS86.apart (show IsS86 w0 _ g s0_0 x1001_3 x1002_3 from zi86 HI0.out) (zr HO_295000.out) (by decide)) hk (fun _ h => h.2)) (fun _ h => h.1)); have n1_ := Aside0.mk (KeepBut.blk hk (g' := gb288) (o := .cells #[.slice none 0 0] 28 (0, 0)) (zh BK288.out) NB288_0.out (by simp)); have n2_ := Aside0.mk (KeepBut.blk hk (g' := gb294) (o := .cells #[u295000] 28 (0, 0)) (zh BK294.out) NB294_0.out (by simp)); have n3_ := Aside0.mk (KeepBut.trans (zq HK.out) hk (.inl rfl)); have n4_ := Aside0.mk (hb); have n5_ := Aside0.mk (hi); clear HO_295000 BK288 BK294 HK HB HI0; have HO_295000 := n0_; have BK288 := n1_; have BK294 := n2_; have HK := n3_; have HB := n4_; have HI0 := n5_; clear n0_ n1_ n2_ n3_ n4_ n5_; (try clear hb); (try clear hb2); (try clear hk); (try clear hi); have hnb69 := NB294_288.out; have hnc69 := NB288_294.out; have hnb70 := NB294_0.out; have hnc70 := NB0_294.out; have hcz71_0 : w68.cell? ⟨gb294, 0, none⟩ = some (u295000) := (blk_cell BK294.out 0).trans rfl; have hfz71_0 := blk_frozen BK294.out 0; obtain ⟨Ao72, co72, eo72⟩ := Kd.R_slice HO_295000.out; subst eo72; have hnb73 := NB288_0.out; have hnc73 := NB0_288.out; have hcz74_0 : w68.cell? ⟨gb288, 0, none⟩ = some (.slice none 0 0) := (blk_cell BK288.out 0).trans rfl; have hfz74_0 := blk_frozen BK288.out 0))
    refine bodyPost_ret (results_cell_row rfl _ _ gb288 28 #[.slice Ao72 x295000_3.length co72] (0, 0) _ rfl (by (with_reducible repeat (first | refine blk_drewN ?_ _ | refine blk_drew ?_ | refine blk_alloc ?_ _)); refine blk_put (cs := #[.slice none 0 0]) ?_ 0 _ rfl; (with_reducible repeat (first | refine blk_drewN ?_ _ | refine blk_drew ?_ | refine blk_alloc ?_ _)); exact BK288.out) Try.underlying28 rfl (by kernel_rfl)) rfl ?_
    exact ⟨_, ze, zr (Kd.R_mono (Kd.R_far (p := ⟨gb288, 0, none⟩) (Kd.R_types HO_295000.out BK288.out (by decide)) (fun _ hk => hk.2) (.slice Ao72 x295000_3.length co72)) (fun _ hk => trivial)), zi86 HI0.out, zj HB.out (IsS86.ge HI0.out), zq HK.out⟩

   subst c42
   have H1 : (spec_l1DrawAny.l0 kj3 s0_0 t325 t326 ([] : List (S55))) = some (r1, r2, r3) := by rw [if_pos rfl] at H; exact H
   clear H
   have H := H1
   clear H1
   have H' := Aside0.mk H
   clear H
   go_wp2_with (first | ((with_reducible refine gate_callee (f := 44) rfl ?_); refine goesL_ (some 36) rfl rfl Try.func44 (by kernel_rfl) rfl #[.pointer (some ⟨g, 0, none⟩), .int .i64 80] rfl zl ?_; (with_reducible refine (spec_l1Once.calls g s0_0 x1001_3 x1002_3 80 true t325 t326 w0 _ ?side1 ?side2 A41.out).mono ?_); (case side1 => exact zi86 HI0.out); (case side2 => exact zj HB.out (IsS86.ge HI0.out)); rintro e w43 ⟨rfl, hi, hb, hk⟩; refine ⟨_, rfl, ?_⟩; have n0_ := Aside0.mk (Kd.R_mono (Kd.R_keep (IsS86.apart (show IsS86 w0 _ g s0_0 x1001_3 x1002_3 from zi86 HI0.out) (zr HO_295000.out) (by decide)) hk (fun _ h => h.2)) (fun _ h => h.1)); have n1_ := Aside0.mk (KeepBut.blk hk (g' := gb288) (o := .cells #[.slice none 0 0] 28 (0, 0)) (zh BK288.out) NB288_0.out (by simp)); have n2_ := Aside0.mk (KeepBut.blk hk (g' := gb294) (o := .cells #[u295000] 28 (0, 0)) (zh BK294.out) NB294_0.out (by simp)); have n3_ := Aside0.mk (KeepBut.trans (zq HK.out) hk (.inl rfl)); have n4_ := Aside0.mk (hb); have n5_ := Aside0.mk (hi); clear HO_295000 BK288 BK294 HK HB HI0; have HO_295000 := n0_; have BK288 := n1_; have BK294 := n2_; have HK := n3_; have HB := n4_; have HI0 := n5_; clear n0_ n1_ n2_ n3_ n4_ n5_; (try clear hb); (try clear hb2); (try clear hk); (try clear hi); have hnb44 := NB294_288.out; have hnc44 := NB288_294.out; have hnb45 := NB294_0.out; have hnc45 := NB0_294.out; have hcz46_0 : w43.cell? ⟨gb294, 0, none⟩ = some (u295000) := (blk_cell BK294.out 0).trans rfl; have hfz46_0 := blk_frozen BK294.out 0))
   go_loopg [] kj3 (fun kq w' => ∃ (x295000_2 : List (S55)) (u295000 : Value), Aside0 (spec_l1DrawAny.l0 kq s0_0 t325 t326 x295000_2 = some (r1, r2, r3)) ∧ Aside0 (kq ≤ kj3) ∧ Aside0 (Kd.R k55 55 w' w.heap.size (fun _ => True) u295000 x295000_2) ∧ Aside0 (w'.heap[gb288]? = some (.cells #[(.slice none 0 0)] 28 (0, 0))) ∧ Aside0 (w'.heap[gb294]? = some (.cells #[u295000] 28 (0, 0))) ∧ Aside0 (IsS86 w0 w' g s0_0 t325 t326) ∧ Aside0 (KeepBut w w' g none) ∧ Aside0 (Below w0.heap.size w0 w'))
   case atStart => exact ⟨(([] : List (S55))), (.slice none 0 0), H', ⟨Nat.le_refl _⟩, ⟨by first | exact Kd.R_nil _ _ _ _ _ | exact Kd.N_nil _ _ _ _ _ | exact Kd.V_nil _ _ _ _ _ | exact Kd.Q_nil _ _ _ _ _ | exact Kd.S_nil _ _ _ _ _⟩, ⟨zf BK288.out⟩, ⟨by (with_reducible repeat (first | refine blk_drewN ?_ _ | refine blk_drew ?_ | refine blk_alloc ?_ _)); refine blk_put (cs := #[u295000]) ?_ 0 _ rfl; (with_reducible repeat (first | refine blk_drewN ?_ _ | refine blk_drew ?_ | refine blk_alloc ?_ _)); exact BK294.out⟩, ⟨zi86 HI0.out⟩, ⟨zq HK.out⟩, ⟨zj HB.out (IsS86.ge HI0.out)⟩⟩
   case round =>
    clear H'
    try clear c1
    try clear c2
    try clear p2
    try clear c3
    try clear c4
    try clear c5
    try clear c6
    try clear p6
    try clear c7
    try clear c9
    try clear c10
    try clear c13
    try clear c13b0
    try clear c13b1
    try clear c16
    try clear c17
    try clear c18
    try clear c25
    try clear c25b0
    try clear c25b1
    try clear c27
    try clear c30
    try clear c31
    try clear c32
    try clear c42
    try clear c44
    try clear c45
    try clear hcz11_0
    try clear hcz19_0
    try clear hcz24_0
    try clear hcz33_0
    try clear hcz40_0
    try clear hcz46_0
    try clear hfz11_0
    try clear hfz19_0
    try clear hfz24_0
    try clear hfz33_0
    try clear hfz40_0
    try clear hfz46_0
    try clear p2
    try clear p6
    obtain ⟨x295000_2, u295000, HA, HK2, HO_295000, BK288, BK294, HI0, HK, HB⟩ := hrel
    cases gk with
    | zero => exact absurd HA.out (by simp [spec_l1DrawAny.l0])
    | succ k2 =>
     have H := HA.out
     clear HA
     simp only [spec_l1DrawAny.l0] at H
     by_cases c47 : (x295000_2.length : Int) < 500
     rotate_left
     ·rw [if_neg c47] at H
      have c47b0 : decide ((x295000_2.length : Int) < 500) = false := decide_eq_false c47
      have c47b1 : decide (x295000_2.length < 500) = false := decide_eq_false (by omega)
      clear c47
      simp only [Option.some.injEq, Prod.mk.injEq] at H
      obtain ⟨rfl, rfl, rfl⟩ := H
      have hnb62 := NB294_288.out
      have hnc62 := NB288_294.out
      have hnb63 := NB294_0.out
      have hnc63 := NB0_294.out
      have hcz64_0 : wr.cell? ⟨gb294, 0, none⟩ = some (u295000) := (blk_cell BK294.out 0).trans rfl
      have hfz64_0 := blk_frozen BK294.out 0
      obtain ⟨Ao65, co65, eo65⟩ := Kd.R_slice HO_295000.out
      subst eo65
      have hnb66 := NB288_0.out
      have hnc66 := NB0_288.out
      have hcz67_0 : wr.cell? ⟨gb288, 0, none⟩ = some (.slice none 0 0) := (blk_cell BK288.out 0).trans rfl
      have hfz67_0 := blk_frozen BK288.out 0
      go_wp2
      refine bodyPost_ret (results_cell_row rfl _ _ gb288 28 #[.slice Ao65 x295000_2.length co65] (0, 0) _ rfl (by (with_reducible repeat (first | refine blk_drewN ?_ _ | refine blk_drew ?_ | refine blk_alloc ?_ _)); refine blk_put (cs := #[.slice none 0 0]) ?_ 0 _ rfl; (with_reducible repeat (first | refine blk_drewN ?_ _ | refine blk_drew ?_ | refine blk_alloc ?_ _)); exact BK288.out) Try.underlying28 rfl (by kernel_rfl)) rfl ?_
      exact ⟨_, ze, zr (Kd.R_mono (Kd.R_far (p := ⟨gb288, 0, none⟩) (Kd.R_types HO_295000.out BK288.out (by decide)) (fun _ hk => hk.2) (.slice Ao65 x295000_2.length co65)) (fun _ hk => trivial)), zi86 HI0.out, zj HB.out (IsS86.ge HI0.out), zq HK.out⟩
     rw [if_pos c47] at H
     have c47b0 : decide ((x295000_2.length : Int) < 500) = true := decide_eq_true c47
     have c47b1 : decide (x295000_2.length < 500) = true := decide_eq_true (by omega)
     clear c47
     replace H := Option.bind_eq_some_iff.mp H
     obtain ⟨⟨t327, t330⟩, A480, H⟩ := H
     replace H : ((spec_l1Add.f k2 t327 5 (wrap64 ((t327.length : Int) - 1)) 0).bind fun bt331 => (spec_l1DrawAny.l0 k2 s0_0 t325 t326 bt331.1)) = some (r1, r2, r3) := H
     have A48 := Aside0.mk A480
     clear A480
     replace H := Option.bind_eq_some_iff.mp H
     obtain ⟨⟨t331, t334⟩, A490, H⟩ := H
     replace H : (spec_l1DrawAny.l0 k2 s0_0 t325 t326 t331) = some (r1, r2, r3) := H
     have A49 := Aside0.mk A490
     clear A490
     have H' := Aside0.mk H
     clear H
     have hnb50 := NB294_288.out
     have hnc50 := NB288_294.out
     have hnb51 := NB294_0.out
     have hnc51 := NB0_294.out
     have hcz52_0 : wr.cell? ⟨gb294, 0, none⟩ = some (u295000) := (blk_cell BK294.out 0).trans rfl
     have hfz52_0 := blk_frozen BK294.out 0
     obtain ⟨Ao53, co53, eo53⟩ := Kd.R_slice HO_295000.out
     subst eo53
     go_wp2_with (first | ((with_reducible refine gate_callee (f := 30) rfl ?_); refine goesL_ (some 49) rfl rfl Try.func30 (by kernel_rfl) rfl #[.agg #[.slice Ao53 x295000_2.length co53], .agg #[.int .i64 1, .int .i64 ((x295000_2.length : Int) % 200), .int .i64 0]] rfl zl ?_; (with_reducible refine (spec_l1Add.calls k2 (fun k_ => some k_ = (.slice Ao53 x295000_2.length co53 : Value).ownBlock) (.slice Ao53 x295000_2.length co53) x295000_2 1 ((x295000_2.length : Int) % 200) 0 t327 t330 w0 _ ?side1 ?side2 A48.out).mono ?_); (case side1 => exact zj HB.out (IsS86.ge HI0.out)); (case side2 => exact Kd.R_lower (Kd.R_tight rfl HO_295000.out) HL.out); rintro e w54 ⟨v328, rfl, ho0, hb, hkp⟩; refine ⟨_, rfl, ?_⟩; have n0_ := Aside0.mk (blk_kept (zh BK288.out) hkp (fun hs_ => (fun e_ => (Kd.R_ne HO_295000.out BK288.out (by decide)) e_) hs_)); have n1_ := Aside0.mk (blk_kept (zh BK294.out) hkp (fun hs_ => (fun e_ => (Kd.R_ne HO_295000.out BK294.out (by decide)) e_) hs_)); have n2_ := Aside0.mk (IsS86.kept (zi86 HI0.out) hkp (fun hs_ => (fun e_ => (IsS86.own_ne HI0.out HO_295000.out (by decide)) e_) hs_)); have n3_ := Aside0.mk (Kd.R_mono (ok' := fun k_ => True) (Kd.R_raise (d := k55) (b := w0.heap.size) (b' := w.heap.size) (fun _ _ _ _ h_ => h_) ho0 (fun k_ e_ => Or.elim (ho0.1 k_ e_) (fun hs_ => (fun e_ => Kd.R_base HO_295000.out k_ e_.symm) hs_) (fun hn_ => Nat.le_trans (keep_size (w := w) (g := g) (row := none) (zq HK.out)) hn_))) (fun k_ hk_ => trivial)); have n4_ := Aside0.mk (Kept.keepG (zq HK.out) hkp (fun k_ hs_ => (fun e_ => .inr (Kd.R_base HO_295000.out k_ e_.symm)) hs_)); have n5_ := Aside0.mk (hb); clear BK288 BK294 HI0 HK HB HO_295000; have BK288 := n0_; have BK294 := n1_; have HI0 := n2_; have HO329 := n3_; have HK := n4_; have HB := n5_; clear n0_ n1_ n2_ n3_ n4_ n5_; (try clear hb); (try clear hkp); (try clear ho0); obtain ⟨Ao55, co55, eo55⟩ := Kd.R_slice HO329.out; subst eo55; have hcz56_0 : w54.cell? ⟨gb294, 0, none⟩ = some (.slice Ao53 x295000_2.length co53) := (blk_cell BK294.out 0).trans rfl; have hfz56_0 := blk_frozen BK294.out 0) | ((with_reducible refine gate_store (t := 28) (p := 3) rfl ?_); refine store_event (t := 28) (p := 3) (v := ?vo_w57) (w1 := (w54.setCell ⟨gb294, 0, none⟩ (.slice Ao55 t327.length co55))) ?hg ?ho ?hn ?hr ?_; (case ho => rfl); (case hg => rfl); (case hn => rfl); (case hr => first | (go_simp; done) | (go_simp; rfl)); intro w57 hw; have n0_ : Aside0 (Kd.R k55 55 w57 w.heap.size (fun _ => True) (.slice Ao55 t327.length co55) t327) := ⟨(by rw [hw]; exact (by (with_reducible repeat (first | apply Kd.R_alloc | apply Kd.R_drewN | apply Kd.R_drew)); exact Kd.R_mono (Kd.R_far (p := ⟨gb294, 0, none⟩) (Kd.R_types HO329.out BK294.out (by decide)) (fun _ hk => hk.2) (.slice Ao55 t327.length co55)) (fun _ hk => trivial)))⟩; have n1_ : Aside0 (w57.heap[gb288]? = some (.cells #[.slice none 0 0] 28 (0, 0))) := ⟨(by rw [hw]; exact (zf BK288.out))⟩; have n2_ : Aside0 (w57.heap[gb294]? = some (.cells #[.slice Ao55 t327.length co55] 28 (0, 0))) := ⟨(by rw [hw]; exact (by (with_reducible repeat (first | refine blk_drewN ?_ _ | refine blk_drew ?_ | refine blk_alloc ?_ _)); refine blk_put (cs := #[.slice Ao53 x295000_2.length co53]) ?_ 0 _ rfl; (with_reducible repeat (first | refine blk_drewN ?_ _ | refine blk_drew ?_ | refine blk_alloc ?_ _)); exact BK294.out))⟩; have n3_ : Aside0 (IsS86 w0 w57 g s0_0 t325 t326) := ⟨(by rw [hw]; exact (zi86 HI0.out))⟩; have n4_ : Aside0 (KeepBut w w57 g none) := ⟨(by rw [hw]; exact (zq HK.out))⟩; have n5_ : Aside0 (Below w0.heap.size w0 w57) := ⟨(by rw [hw]; exact (zj HB.out (IsS86.ge HI0.out)))⟩; clear hw HO329 BK288 BK294 HI0 HK HB; have HO329 := n0_; have BK288 := n1_; have BK294 := n2_; have HI0 := n3_; have HK := n4_; have HB := n5_; clear n0_ n1_ n2_ n3_ n4_ n5_; have hcz58_0 : w57.cell? ⟨gb294, 0, none⟩ = some (.slice Ao55 t327.length co55) := (blk_cell BK294.out 0).trans rfl; have hfz58_0 := blk_frozen BK294.out 0) | ((with_reducible refine gate_callee (f := 30) rfl ?_); refine goesL_ (some 59) rfl rfl Try.func30 (by kernel_rfl) rfl #[.agg #[.slice Ao55 t327.length co55], .agg #[.int .i64 5, .int .i64 (wrap64 ((t327.length : Int) - 1)), .int .i64 0]] rfl zl ?_; (with_reducible refine (spec_l1Add.calls k2 (fun k_ => some k_ = (.slice Ao55 t327.length co55 : Value).ownBlock) (.slice Ao55 t327.length co55) t327 5 (wrap64 ((t327.length : Int) - 1)) 0 t331 t334 w0 _ ?side1 ?side2 A49.out).mono ?_); (case side1 => exact zj HB.out (IsS86.ge HI0.out)); (case side2 => exact Kd.R_lower (Kd.R_tight rfl HO329.out) HL.out); rintro e w59 ⟨v332, rfl, ho0, hb, hkp⟩; refine ⟨_, rfl, ?_⟩; have n0_ := Aside0.mk (blk_kept (zh BK288.out) hkp (fun hs_ => (fun e_ => (Kd.R_ne HO329.out BK288.out (by decide)) e_) hs_)); have n1_ := Aside0.mk (blk_kept (zh BK294.out) hkp (fun hs_ => (fun e_ => (Kd.R_ne HO329.out BK294.out (by decide)) e_) hs_)); have n2_ := Aside0.mk (IsS86.kept (zi86 HI0.out) hkp (fun hs_ => (fun e_ => (IsS86.own_ne HI0.out HO329.out (by decide)) e_) hs_)); have n3_ := Aside0.mk (Kd.R_mono (ok' := fun k_ => True) (Kd.R_raise (d := k55) (b := w0.heap.size) (b' := w.heap.size) (fun _ _ _ _ h_ => h_) ho0 (fun k_ e_ => Or.elim (ho0.1 k_ e_) (fun hs_ => (fun e_ => Kd.R_base HO329.out k_ e_.symm) hs_) (fun hn_ => Nat.le_trans (keep_size (w := w) (g := g) (row := none) (zq HK.out)) hn_))) (fun k_ hk_ => trivial)); have n4_ := Aside0.mk (Kept.keepG (zq HK.out) hkp (fun k_ hs_ => (fun e_ => .inr (Kd.R_base HO329.out k_ e_.symm)) hs_)); have n5_ := Aside0.mk (hb); clear BK288 BK294 HI0 HK HB HO329; have BK288 := n0_; have BK294 := n1_; have HI0 := n2_; have HO333 := n3_; have HK := n4_; have HB := n5_; clear n0_ n1_ n2_ n3_ n4_ n5_; (try clear hb); (try clear hkp); (try clear ho0); obtain ⟨Ao60, co60, eo60⟩ := Kd.R_slice HO333.out; subst eo60; have hcz61_0 : w59.cell? ⟨gb294, 0, none⟩ = some (.slice Ao55 t327.length co55) := (blk_cell BK294.out 0).trans rfl; have hfz61_0 := blk_frozen BK294.out 0))
     go_roundg k2
     case measure => have := HJ3.out; have := HK2.out; omega
     case rel => exact ⟨(t331), (.slice Ao60 t331.length co60), H', ⟨by have := HJ3.out; have := HK2.out; omega⟩, ⟨zr (Kd.R_mono (Kd.R_far (p := ⟨gb294, 0, none⟩) (Kd.R_types HO333.out BK294.out (by decide)) (fun _ hk => hk.2) (.slice Ao60 t331.length co60)) (fun _ hk => trivial))⟩, ⟨zf BK288.out⟩, ⟨by (with_reducible repeat (first | refine blk_drewN ?_ _ | refine blk_drew ?_ | refine blk_alloc ?_ _)); refine blk_put (cs := #[.slice Ao55 t327.length co55]) ?_ 0 _ rfl; (with_reducible repeat (first | refine blk_drewN ?_ _ | refine blk_drew ?_ | refine blk_alloc ?_ _)); exact BK294.out⟩, ⟨zi86 HI0.out⟩, ⟨zq HK.out⟩, ⟨zj HB.out (IsS86.ge HI0.out)⟩⟩
/-! ### spec_l1DrawBoth: function 49 -/
def spec_l1DrawBoth.f (k : Nat) (l0 : List Int) : Option ((List (S55)) × Int) := (spec_l1New.f k l0).bind fun bt336 => ((spec_l1DrawAny.f k bt336.1 bt336.2.1 bt336.2.2).bind fun bt340 => ((spec_l1DrawTerm.f k bt336.1 bt340.2.1 bt340.2.2 bt340.1).bind fun bt346 => (some (bt340.1, bt346.1))))
set_option maxHeartbeats 8000000 in
set_option maxRecDepth 100000 in
theorem spec_l1DrawBoth.calls (k : Nat) (A0 : Option Addr) (c0 : Nat) (l0 : List Int) (r1 : List (S55)) (r2 : Int) (w : World) (hr0 : Kd.C (Kd.int .u8) w A0 l0.length l0) (hc0 : l0.length ≤ c0) (h : spec_l1DrawBoth.f k l0 = some (r1, r2)) :
  Calls Try.prog 49 #[.slice A0 l0.length c0] w fun e w' => ∃ v0_ : Value, e = .returned (.tuple #[.agg #[v0_], .int .i64 r2]) ∧ Kd.R k55 55 w' w.heap.size (fun _ => True) v0_ r1 ∧ Below w.heap.size w w' := by
 have hu28 := Try.underlying28
 have HR0 := Aside0.mk hr0
 have HC0 := Aside0.mk hc0
 clear hr0 hc0
 have HB := Aside0.mk (Below.refl w.heap.size w)
 have H : ((spec_l1New.f k l0).bind fun bt336 => ((spec_l1DrawAny.f k bt336.1 bt336.2.1 bt336.2.2).bind fun bt340 => ((spec_l1DrawTerm.f k bt336.1 bt340.2.1 bt340.2.2 bt340.1).bind fun bt346 => (some (bt340.1, bt346.1))))) = some (r1, r2) := h
 clear h
 replace H := Option.bind_eq_some_iff.mp H
 obtain ⟨⟨t336, t337, t338⟩, A20, H⟩ := H
 replace H : ((spec_l1DrawAny.f k t336 t337 t338).bind fun bt340 => ((spec_l1DrawTerm.f k t336 bt340.2.1 bt340.2.2 bt340.1).bind fun bt346 => (some (bt340.1, bt346.1)))) = some (r1, r2) := H
 have A2 := Aside0.mk A20
 clear A20
 replace H := Option.bind_eq_some_iff.mp H
 obtain ⟨⟨t340, t343, t344⟩, A30, H⟩ := H
 replace H : ((spec_l1DrawTerm.f k t336 t343 t344 t340).bind fun bt346 => (some (t340, bt346.1))) = some (r1, r2) := H
 have A3 := Aside0.mk A30
 clear A30
 replace H := Option.bind_eq_some_iff.mp H
 obtain ⟨⟨t346, t347, t348⟩, A40, H⟩ := H
 replace H : (some (t340, t346)) = some (r1, r2) := H
 have A4 := Aside0.mk A40
 clear A40
 simp only [Option.some.injEq, Prod.mk.injEq] at H
 obtain ⟨rfl, rfl⟩ := H
 go_enter Try.func49, Try.ntmps49
 try go_wp2_with (first | ((with_reducible refine gate_dst (N := 2) rfl ?_); refine box_event ?hg (N := 2) ?hd (cs := #[.slice none 0 0]) (t := 28) ?hr ?_; (case hd => rfl); (case hg => rfl); (case hr => first | (go_simp; done) | (go_simp; rfl)); intro gb335 hg w5 hbox hb; have n0_ := Aside0.mk (below_step (zb HB.out) hb); have n1_ := Aside0.mk (hbox); have n2_ := Aside0.mk ((by rw [hg]; exact (below_size (zb HB.out)) : w.heap.size ≤ gb335)); have n3_ := Aside0.mk ((by rw [hg]; exact (below_size (zb HB.out)) : w.heap.size ≤ gb335)); clear HB; have HB := n0_; have BK335 := n1_; have GW335 := n2_; have GE335 := n3_; clear n0_ n1_ n2_ n3_ hb hbox hg) | ((with_reducible refine gate_callee (f := 42) rfl ?_); refine goesL_ (some 7) rfl rfl Try.func42 (by kernel_rfl) rfl #[.slice A0 l0.length c0] rfl zl ?_; (with_reducible refine (spec_l1New.calls k _ _ l0 t336 t337 t338 w _ ?side1 ?side2 ?side3 A2.out).mono ?_); (case side1 => exact zb HB.out); (case side2 => exact HR0.out); (case side3 => exact HC0.out); rintro e w6 ⟨g339, rfl, hi, hb, hb2⟩; refine ⟨_, rfl, ?_⟩; have n0_ := Aside0.mk (blk_below (zh BK335.out) hb2); have n1_ := Aside0.mk (hb); have n2_ := Aside0.mk (hi); have n3_ := Aside0.mk (IsS86.ne_blk hi (blk_below (zh BK335.out) hb2) (by decide)); have n4_ := Aside0.mk (Ne.symm (IsS86.ne_blk hi (blk_below (zh BK335.out) hb2) (by decide))); clear BK335 HB; have BK335 := n0_; have HB := n1_; have HI339 := n2_; have NB339_335 := n3_; have NB335_339 := n4_; clear n0_ n1_ n2_ n3_ n4_; (try clear hb); (try clear hb2); (try clear hk); (try clear hi)) | ((with_reducible refine gate_callee (f := 50) rfl ?_); refine goesL_ (some 9) rfl rfl Try.func50 (by kernel_rfl) rfl #[.pointer (some ⟨g339, 0, none⟩)] rfl zl ?_; (with_reducible refine (spec_l1DrawAny.calls k g339 t336 t337 t338 t340 t343 t344 w _ ?side1 ?side2 A3.out).mono ?_); (case side1 => exact zi86 HI339.out); (case side2 => exact zj HB.out (IsS86.ge HI339.out)); rintro e w7 ⟨v341, rfl, ho0, hi, hb, hk⟩; refine ⟨_, rfl, ?_⟩; have n0_ := Aside0.mk (KeepBut.blk hk (g' := gb335) (o := .cells #[.slice none 0 0] 28 (0, 0)) (zh BK335.out) NB335_339.out (by simp)); have n1_ := Aside0.mk (Kd.R_lower ho0 (below_size (zj HB.out (IsS86.ge HI339.out)))); have n2_ := Aside0.mk (hb); have n3_ := Aside0.mk (hi); clear BK335 HB HI339; have BK335 := n0_; have HO342 := n1_; have HB := n2_; have HI339 := n3_; clear n0_ n1_ n2_ n3_; (try clear hb); (try clear hb2); (try clear hk); (try clear hi); (try clear ho0)) | ((with_reducible refine gate_dst (N := 5) rfl ?_); refine box_event ?hg (N := 5) ?hd (cs := #[.slice none 0 0]) (t := 28) ?hr ?_; (case hd => rfl); (case hg => rfl); (case hr => first | (go_simp; done) | (go_simp; rfl)); intro gb345 hg w8 hbox hb; have n0_ := Aside0.mk (Kd.R_below (zr HO342.out) hb); have n1_ := Aside0.mk (blk_below (zh BK335.out) hb); have n2_ := Aside0.mk (IsS86.below (zi86 HI339.out) hb); have n3_ := Aside0.mk (below_step (zj HB.out (IsS86.ge HI339.out)) hb); have n4_ := Aside0.mk (hbox); have n5_ := Aside0.mk ((by rw [hg]; exact (below_size (zj HB.out (IsS86.ge HI339.out))) : w.heap.size ≤ gb345)); have n6_ := Aside0.mk ((by rw [hg]; exact (below_size (zj HB.out (IsS86.ge HI339.out))) : w.heap.size ≤ gb345)); have n7_ := Aside0.mk ((by rw [hg]; exact Nat.ne_of_lt (blk_lt (zh BK335.out)) : gb335 ≠ gb345)); have n8_ := Aside0.mk ((by rw [hg]; exact Nat.ne_of_gt (blk_lt (zh BK335.out)) : gb345 ≠ gb335)); have n9_ := Aside0.mk ((by rw [hg]; exact Nat.ne_of_lt (IsS86.lt (show IsS86 w _ g339 t336 t343 t344 from zi86 HI339.out)) : g339 ≠ gb345)); have n10_ := Aside0.mk ((by rw [hg]; exact Nat.ne_of_gt (IsS86.lt (show IsS86 w _ g339 t336 t343 t344 from zi86 HI339.out)) : gb345 ≠ g339)); clear HO342 BK335 HI339 HB; have HO342 := n0_; have BK335 := n1_; have HI339 := n2_; have HB := n3_; have BK345 := n4_; have GW345 := n5_; have GE345 := n6_; have NB335_345 := n7_; have NB345_335 := n8_; have NB339_345 := n9_; have NB345_339 := n10_; clear n0_ n1_ n2_ n3_ n4_ n5_ n6_ n7_ n8_ n9_ n10_ hb hbox hg; obtain ⟨Ao9, co9, eo9⟩ := Kd.R_slice HO342.out; subst eo9; have hnb10 := NB345_335.out; have hnc10 := NB335_345.out; have hnb11 := NB345_339.out; have hnc11 := NB339_345.out; have hcz12_0 : w8.cell? ⟨gb345, 0, none⟩ = some (.slice none 0 0) := (blk_cell BK345.out 0).trans rfl; have hfz12_0 := blk_frozen BK345.out 0))
 have n0_ : Aside0 (Kd.R k55 55 (w8.setCell ⟨gb345, 0, none⟩ (.slice Ao9 t340.length co9)) w.heap.size (fun _ => True) (.slice Ao9 t340.length co9) t340) := ⟨zr (Kd.R_mono (Kd.R_far (p := ⟨gb345, 0, none⟩) (Kd.R_types HO342.out BK345.out (by decide)) (fun _ hk => hk.2) (.slice Ao9 t340.length co9)) (fun _ hk => trivial))⟩
 have n1_ : Aside0 ((w8.setCell ⟨gb345, 0, none⟩ (.slice Ao9 t340.length co9)).heap[gb335]? = some (.cells #[.slice none 0 0] 28 (0, 0))) := ⟨zf BK335.out⟩
 have n2_ : Aside0 ((w8.setCell ⟨gb345, 0, none⟩ (.slice Ao9 t340.length co9)).heap[gb345]? = some (.cells #[.slice Ao9 t340.length co9] 28 (0, 0))) := ⟨by (with_reducible repeat (first | refine blk_drewN ?_ _ | refine blk_drew ?_ | refine blk_alloc ?_ _)); refine blk_put (cs := #[.slice none 0 0]) ?_ 0 _ rfl; (with_reducible repeat (first | refine blk_drewN ?_ _ | refine blk_drew ?_ | refine blk_alloc ?_ _)); exact BK345.out⟩
 have n3_ : Aside0 (IsS86 w (w8.setCell ⟨gb345, 0, none⟩ (.slice Ao9 t340.length co9)) g339 t336 t343 t344) := ⟨zi86 HI339.out⟩
 have n4_ : Aside0 (Below w.heap.size w (w8.setCell ⟨gb345, 0, none⟩ (.slice Ao9 t340.length co9))) := ⟨zj HB.out (IsS86.ge HI339.out)⟩
 (try clear HO342)
 (try clear BK335)
 (try clear BK345)
 (try clear HI339)
 (try clear HB)
 generalize (w8.setCell ⟨gb345, 0, none⟩ (.slice Ao9 t340.length co9)) = w13 at n0_ n1_ n2_ n3_ n4_ ⊢
 have HO342 := n0_
 have BK335 := n1_
 have BK345 := n2_
 have HI339 := n3_
 have HB := n4_
 clear n0_ n1_ n2_ n3_ n4_
 have n0_ := Aside0.mk (Kd.R_drew HO342.out)
 have n1_ := Aside0.mk (blk_drew BK335.out)
 have n2_ := Aside0.mk (blk_drew BK345.out)
 have n3_ := Aside0.mk (IsS86.drew HI339.out)
 have n4_ := Aside0.mk (below_drew1 HB.out)
 clear HO342 BK335 BK345 HI339 HB
 have HO342 := n0_
 have BK335 := n1_
 have BK345 := n2_
 have HI339 := n3_
 have HB := n4_
 clear n0_ n1_ n2_ n3_ n4_
 refine start_ (n := 6) (S := fun w' => w'.cell? ⟨gb345, 0, none⟩ = some (.slice Ao9 t340.length co9)) (ds := []) #[false, false, false, false, false, false] (by kernel_rfl) rfl rfl ((blk_cell BK345.out 0).trans rfl) (fun hHeld => ?_)
 generalize w13.drew = w14 at HO342 BK335 BK345 HI339 HB hHeld ⊢
 refine pure_ (i := 1) (N := some 11) (v := ?_) (a' := ?_) (zB 6 2) rfl rfl (by kernel_rfl) (fun _ _ _ h => h) (Or.inl ⟨by rfl, ?_⟩) ?_ ?_
 rotate_left
 ·intro w'
  go_simp
  with_reducible rfl
 rotate_left
 ·exact zn
 refine take_ (i := 0) (N := some 10) (v := ?_) (a' := ?_) (zB 6 3) rfl rfl (by kernel_rfl) (fun _ _ _ h => h) (Or.inl ⟨by rfl, ?_⟩) hHeld ?_ ?_
 rotate_left
 ·intro w' s0
  go_simp
  with_reducible rfl
 rotate_left
 ·exact zn
 refine take_ (i := 2) (N := some 12) (v := ?_) (a' := ?_) (zB 6 7) rfl rfl (by kernel_rfl) (fun _ _ _ h => h) (Or.inl ⟨by rfl, ?_⟩) hHeld ?_ ?_
 rotate_left
 ·intro w' s0
  go_simp
  with_reducible rfl
 rotate_left
 ·exact zn
 refine one_ (i := 3) (N := some 13) (zB 6 15) rfl rfl (by kernel_rfl) (by decide) (fun K hK => ?_)
 refine goes_ Try.func43 (by kernel_rfl) rfl #[.pointer (some ⟨g339, 0, none⟩), .agg #[.slice Ao9 t340.length co9]] (by rfl) rfl rfl zl ?_
 with_reducible refine (spec_l1DrawTerm.calls k g339 t336 t343 t344 _ _ t340 t346 t347 t348 w _ ?side1 ?side2 ?side3 ?side4 A4.out).mono ?_
 (case side1 => exact zi86 HI339.out)
 (case side2 => exact zj HB.out (IsS86.ge HI339.out))
 (case side3 => exact Kd.C_foot_own (IsS86.apart (show IsS86 w _ g339 t336 t343 t344 from zi86 HI339.out) (zr HO342.out) (by decide)) (fun _ h_ => h_.2))
 (case side4 => exact (Kd.R_reads' HO342.out).2.1)
 rintro e w15 ⟨rfl, hi, hb, hk⟩
 refine ⟨_, rfl, ?_⟩
 have n0_ := Aside0.mk (KeepBut.blk hk (g' := gb335) (o := .cells #[.slice none 0 0] 28 (0, 0)) (zh BK335.out) NB335_339.out (by simp))
 have n1_ := Aside0.mk (Kd.R_mono (Kd.R_keep (IsS86.apart (show IsS86 w _ g339 t336 t343 t344 from zi86 HI339.out) (zr HO342.out) (by decide)) hk (fun _ h => h.2)) (fun _ h => h.1))
 have n2_ := Aside0.mk (KeepBut.blk hk (g' := gb345) (o := .cells #[.slice Ao9 t340.length co9] 28 (0, 0)) (zh BK345.out) NB345_339.out (by simp))
 have n3_ := Aside0.mk (hb)
 have n4_ := Aside0.mk (hi)
 clear BK335 HO342 BK345 HB HI339
 have BK335 := n0_
 have HO342 := n1_
 have BK345 := n2_
 have HB := n3_
 have HI339 := n4_
 clear n0_ n1_ n2_ n3_ n4_
 (try clear hb)
 (try clear hb2)
 (try clear hk)
 (try clear hi)
 refine hK.out _ _ ((blk_cell BK345.out 0).trans rfl) (fun hHeld => ?_)
 clear hK K
 refine norm_ (a' := ?_) ?_ ?_
 rotate_left
 ·exact zn (N := some 13)
 refine one_ (i := 4) (N := none) (zB 6 31) rfl rfl (by kernel_rfl) (by decide) (fun K hK => ?_)
 have hs16 : w15.cell? ⟨gb335, 0, none⟩ = some (.slice none 0 0) := (blk_cell BK335.out 0).trans rfl
 have hfs16 := blk_frozen BK335.out 0
 have hns16_1 := NB345_335.out
 have hms16_1 := NB335_345.out
 refine skip_ (w1 := ?_) (by rfl) rfl ?_ ?_
 rotate_left
 ·go_simp
  rfl
 refine hK.out _ _ (((cell_far (p := ⟨gb335, _, none⟩) NB345_335.out _).trans (hHeld))) (fun hHeld => ?_)
 clear hK K
 refine pure_ (i := 5) (N := some 3) (v := ?_) (a' := ?_) (zB 6 63) rfl rfl (by kernel_rfl) (fun _ _ _ h => h) (Or.inl ⟨by rfl, ?_⟩) ?_ ?_
 rotate_left
 ·intro w'
  go_simp
  with_reducible rfl
 rotate_left
 ·exact zn
 refine done_ (by kernel_rfl) ?_
 try go_wp2
 refine bodyPost_ret (results_ct rfl _ _ gb335 28 #[.slice Ao9 t340.length co9] (0, 0) _ rfl (by (with_reducible repeat (first | refine blk_drewN ?_ _ | refine blk_drew ?_ | refine blk_alloc ?_ _)); refine blk_put (cs := #[.slice none 0 0]) ?_ 0 _ rfl; (with_reducible repeat (first | refine blk_drewN ?_ _ | refine blk_drew ?_ | refine blk_alloc ?_ _)); exact BK335.out) Try.underlying28 rfl (by kernel_rfl)) rfl ?_
 exact ⟨_, ze, zr (Kd.R_mono (Kd.R_far (p := ⟨gb335, 0, none⟩) (Kd.R_types HO342.out BK335.out (by decide)) (fun _ hk => hk.2) (.slice Ao9 t340.length co9)) (fun _ hk => trivial)), zj HB.out (IsS86.ge HI339.out)⟩

end Go.Proofs.Ytobkledmbnacjaa.M
end

section
namespace Go.Proofs.Ytobkledmbnacjaa.M
open Go.RowKit Go.Proofs.YtobkledmbnacjaaW.PrintWords Go.Proofs.YtobkledmbnacjaaW.PrintLast Go.Proofs.YtobkledmbnacjaaW.PrintMore
attribute [local go_sem] max2_int min2_int max_two min_two max_three min_three max_four min_four   -- for this text's walks alone
set_option linter.unusedVariables false
set_option linter.unusedSimpArgs false
set_option maxRecDepth 100000


/-! ### spec_DrawTermMove: function 19 -/
def spec_DrawTermMove.f (k : Nat) (l0 : List Int) : Option ((List (S55)) × Int × (List (S55))) := (spec_l1DrawBoth.f k l0).bind fun bt351 => (if (([7] : List Int)).length + l0.length < 140737488355328 then ((spec_l1New.f k (([7] : List Int) ++ l0)).bind fun bt362 => ((spec_l1DrawAny.f k bt362.1 bt362.2.1 bt362.2.2).bind fun bt366 => (some (bt351.1, bt351.2, bt366.1)))) else (none))
set_option maxHeartbeats 8000000 in
set_option maxRecDepth 100000 in
theorem spec_DrawTermMove.calls (k : Nat) (A0 : Option Addr) (c0 : Nat) (l0 : List Int) (r1 : List (S55)) (r2 : Int) (r3 : List (S55)) (w : World) (hr0 : Kd.C (Kd.int .u8) w A0 l0.length l0) (hc0 : l0.length ≤ c0) (h : spec_DrawTermMove.f k l0 = some (r1, r2, r3)) :
  Calls Try.prog 19 #[.slice A0 l0.length c0] w fun e w' => ∃ v0_ v2_ : Value, e = .returned (.tuple #[.agg #[v0_], .int .i64 r2, .agg #[v2_]]) ∧ Kd.R k55 55 w' w.heap.size (fun k_ => some k_ ≠ (v2_ : Value).ownBlock) v0_ r1 ∧ Kd.R k55 55 w' w.heap.size (fun k_ => some k_ ≠ (v0_ : Value).ownBlock) v2_ r3 ∧ Below w.heap.size w w' := by
 have hu28 := Try.underlying28
 have HR0 := Aside0.mk hr0
 have HC0 := Aside0.mk hc0
 clear hr0 hc0
 have HB := Aside0.mk (Below.refl w.heap.size w)
 have H : ((spec_l1DrawBoth.f k l0).bind fun bt351 => (if (([7] : List Int)).length + l0.length < 140737488355328 then ((spec_l1New.f k (([7] : List Int) ++ l0)).bind fun bt362 => ((spec_l1DrawAny.f k bt362.1 bt362.2.1 bt362.2.2).bind fun bt366 => (some (bt351.1, bt351.2, bt366.1)))) else (none))) = some (r1, r2, r3) := h
 clear h
 replace H := Option.bind_eq_some_iff.mp H
 obtain ⟨⟨t351, t354⟩, A20, H⟩ := H
 replace H : (if (([7] : List Int)).length + l0.length < 140737488355328 then ((spec_l1New.f k (([7] : List Int) ++ l0)).bind fun bt362 => ((spec_l1DrawAny.f k bt362.1 bt362.2.1 bt362.2.2).bind fun bt366 => (some (t351, t354, bt366.1)))) else (none)) = some (r1, r2, r3) := H
 have A2 := Aside0.mk A20
 clear A20
 obtain ⟨y356, hy356⟩ : ∃ y_ : List Int, y_ = (([7] : List Int)) := ⟨_, rfl⟩
 replace H : (if y356.length + l0.length < 140737488355328 then ((spec_l1New.f k (y356 ++ l0)).bind fun bt362 => ((spec_l1DrawAny.f k bt362.1 bt362.2.1 bt362.2.2).bind fun bt366 => (some (t351, t354, bt366.1)))) else (none)) = some (r1, r2, r3) := by first | (rw [hy356]; with_reducible exact H) | (have H2_ := (Option.bind_some _ _).symm.trans H; rw [hy356]; with_reducible exact H2_) | (have H2_ := (Option.bind_some _ _).symm.trans H; with_reducible exact H2_) | with_reducible exact H | (rw [hy356]; exact H) | exact H
 have Ny356 := Aside0.mk hy356
 clear hy356
 by_cases c3 : y356.length + l0.length < 140737488355328
 rotate_left
 ·rw [if_neg c3] at H
  exact absurd H (by simp)



 rw [if_pos c3] at H
 have LMc3 := Aside0.mk c3
 clear c3
 obtain ⟨y359, hy359⟩ : ∃ y_ : List Int, y_ = (y356 ++ l0) := ⟨_, rfl⟩
 replace H : ((spec_l1New.f k y359).bind fun bt362 => ((spec_l1DrawAny.f k bt362.1 bt362.2.1 bt362.2.2).bind fun bt366 => (some (t351, t354, bt366.1)))) = some (r1, r2, r3) := by first | (rw [hy359]; with_reducible exact H) | (have H2_ := (Option.bind_some _ _).symm.trans H; rw [hy359]; with_reducible exact H2_) | (have H2_ := (Option.bind_some _ _).symm.trans H; with_reducible exact H2_) | with_reducible exact H | (rw [hy359]; exact H) | exact H
 have Ny359 := Aside0.mk hy359
 clear hy359
 replace H := Option.bind_eq_some_iff.mp H
 obtain ⟨⟨t362, t363, t364⟩, A40, H⟩ := H
 replace H : ((spec_l1DrawAny.f k t362 t363 t364).bind fun bt366 => (some (t351, t354, bt366.1))) = some (r1, r2, r3) := H
 have A4 := Aside0.mk A40
 clear A40
 replace H := Option.bind_eq_some_iff.mp H
 obtain ⟨⟨t366, t369, t370⟩, A50, H⟩ := H
 replace H : (some (t351, t354, t366)) = some (r1, r2, r3) := H
 have A5 := Aside0.mk A50
 clear A50
 simp only [Option.some.injEq, Prod.mk.injEq] at H
 obtain ⟨rfl, rfl, rfl⟩ := H
 go_enter Try.func19, Try.ntmps19
 try go_wp2_with (first | ((with_reducible refine gate_dst (N := 2) rfl ?_); refine box_event ?hg (N := 2) ?hd (cs := #[.slice none 0 0]) (t := 28) ?hr ?_; (case hd => rfl); (case hg => rfl); (case hr => first | (go_simp; done) | (go_simp; rfl)); intro gb349 hg w6 hbox hb; have n0_ := Aside0.mk (below_step (zb HB.out) hb); have n1_ := Aside0.mk (hbox); have n2_ := Aside0.mk ((by rw [hg]; exact (below_size (zb HB.out)) : w.heap.size ≤ gb349)); have n3_ := Aside0.mk ((by rw [hg]; exact (below_size (zb HB.out)) : w.heap.size ≤ gb349)); clear HB; have HB := n0_; have BK349 := n1_; have GW349 := n2_; have GE349 := n3_; clear n0_ n1_ n2_ n3_ hb hbox hg) | ((with_reducible refine gate_dst (N := 4) rfl ?_); refine box_event ?hg (N := 4) ?hd (cs := #[.slice none 0 0]) (t := 28) ?hr ?_; (case hd => rfl); (case hg => rfl); (case hr => first | (go_simp; done) | (go_simp; rfl)); intro gb350 hg w7 hbox hb; have n0_ := Aside0.mk (blk_below (zh BK349.out) hb); have n1_ := Aside0.mk (below_step (zb HB.out) hb); have n2_ := Aside0.mk (hbox); have n3_ := Aside0.mk ((by rw [hg]; exact (below_size (zb HB.out)) : w.heap.size ≤ gb350)); have n4_ := Aside0.mk ((by rw [hg]; exact (below_size (zb HB.out)) : w.heap.size ≤ gb350)); have n5_ := Aside0.mk ((by rw [hg]; exact Nat.ne_of_lt (blk_lt (zh BK349.out)) : gb349 ≠ gb350)); have n6_ := Aside0.mk ((by rw [hg]; exact Nat.ne_of_gt (blk_lt (zh BK349.out)) : gb350 ≠ gb349)); clear BK349 HB; have BK349 := n0_; have HB := n1_; have BK350 := n2_; have GW350 := n3_; have GE350 := n4_; have NB349_350 := n5_; have NB350_349 := n6_; clear n0_ n1_ n2_ n3_ n4_ n5_ n6_ hb hbox hg) | ((with_reducible refine gate_callee (f := 49) rfl ?_); refine goesL_ (some 10) rfl rfl Try.func49 (by kernel_rfl) rfl #[.slice A0 l0.length c0] rfl zl ?_; (with_reducible refine (spec_l1DrawBoth.calls k _ _ l0 t351 t354 _ ?side1 ?side2 A2.out).mono ?_); (case side1 => exact zc (Kd.C_below HR0.out HB.out)); (case side2 => exact HC0.out); rintro e w8 ⟨v352, rfl, ho0, hb⟩; refine ⟨_, rfl, ?_⟩; have n0_ := Aside0.mk (Kd.R_lower ho0 (below_size (zb HB.out))); have n1_ := Aside0.mk (blk_below (zh BK349.out) hb); have n2_ := Aside0.mk (blk_below (zh BK350.out) hb); have n3_ := Aside0.mk (below_step (zb HB.out) hb); clear BK349 BK350 HB; have HO353 := n0_; have BK349 := n1_; have BK350 := n2_; have HB := n3_; clear n0_ n1_ n2_ n3_; (try clear hb); (try clear hb2); (try clear hk); (try clear hi); (try clear ho0)) | ((with_reducible refine gate_dst (N := 5) rfl ?_); refine box_event ?hg (N := 5) ?hd (cs := #[.slice none 0 0]) (t := 28) ?hr ?_; (case hd => rfl); (case hg => rfl); (case hr => first | (go_simp; done) | (go_simp; rfl)); intro gb355 hg w9 hbox hb; have n0_ := Aside0.mk (Kd.R_below (zr HO353.out) hb); have n1_ := Aside0.mk (blk_below (zh BK349.out) hb); have n2_ := Aside0.mk (blk_below (zh BK350.out) hb); have n3_ := Aside0.mk (below_step (zb HB.out) hb); have n4_ := Aside0.mk (hbox); have n5_ := Aside0.mk ((by rw [hg]; exact (below_size (zb HB.out)) : w.heap.size ≤ gb355)); have n6_ := Aside0.mk ((by rw [hg]; exact (below_size (zb HB.out)) : w.heap.size ≤ gb355)); have n7_ := Aside0.mk ((by rw [hg]; exact Nat.ne_of_lt (blk_lt (zh BK349.out)) : gb349 ≠ gb355)); have n8_ := Aside0.mk ((by rw [hg]; exact Nat.ne_of_gt (blk_lt (zh BK349.out)) : gb355 ≠ gb349)); have n9_ := Aside0.mk ((by rw [hg]; exact Nat.ne_of_lt (blk_lt (zh BK350.out)) : gb350 ≠ gb355)); have n10_ := Aside0.mk ((by rw [hg]; exact Nat.ne_of_gt (blk_lt (zh BK350.out)) : gb355 ≠ gb350)); clear HO353 BK349 BK350 HB; have HO353 := n0_; have BK349 := n1_; have BK350 := n2_; have HB := n3_; have BK355 := n4_; have GW355 := n5_; have GE355 := n6_; have NB349_355 := n7_; have NB355_349 := n8_; have NB350_355 := n9_; have NB355_350 := n10_; clear n0_ n1_ n2_ n3_ n4_ n5_ n6_ n7_ n8_ n9_ n10_ hb hbox hg; obtain ⟨Ao10, co10, eo10⟩ := Kd.R_slice HO353.out; subst eo10; have hnb11 := NB355_349.out; have hnc11 := NB349_355.out; have hnb12 := NB355_350.out; have hnc12 := NB350_355.out; have hcz13_0 : w9.cell? ⟨gb355, 0, none⟩ = some (.slice none 0 0) := (blk_cell BK355.out 0).trans rfl; have hfz13_0 := blk_frozen BK355.out 0) | ((with_reducible refine gate_dst (N := 13) rfl ?_); refine Kd.R_lit (Kd.int .u8) _ 5 ?hg (N := 13) ?hd (xs := ([7] : List Int)) (inner := [.int .u8 7]) (ok := fun _ => True) (okp := fun _ => True) ?hr ?hp (fun _ hk => hk) trivial (Below.refl _ _) (Nat.le_refl _) (by simp) ?_; (case hd => rfl); (case hg => rfl); (case hr => first | (go_simp; done) | (go_simp; rfl)); (case hp => exact (Reps.one (show Kd.M (Kd.int .u8) _ _ _ 7 [.int .u8 7] from rfl) (Reps.none _ _))); intro v357 w14 ho15 hb hg_ hnew_; clear hg_ hnew_; (first | rw [← Ny356.out] at ho15 | (simp only [Int.reduceToNat] at ho15; rw [← Ny356.out] at ho15)); have n0_ := Aside0.mk (Kd.R_below (by (with_reducible repeat (first | apply Kd.R_alloc | apply Kd.R_drewN | apply Kd.R_drew)); exact (Kd.R_mono (Kd.R_far (p := ⟨gb355, 0, none⟩) (Kd.R_types HO353.out BK355.out (by decide)) (fun _ hk => hk.2) (.slice Ao10 t351.length co10)) (fun _ h_ => h_.1))) hb); have n1_ := Aside0.mk (Kd.R_lower ho15 (below_size (zb HB.out))); have n2_ := Aside0.mk (blk_below (g := gb349) (o := .cells #[.slice none 0 0] 28 (0, 0)) (zf BK349.out) hb); have n3_ := Aside0.mk (blk_below (g := gb350) (o := .cells #[.slice none 0 0] 28 (0, 0)) (zf BK350.out) hb); have n4_ := Aside0.mk (blk_below (g := gb355) (o := .cells #[.slice Ao10 t351.length co10] 28 (0, 0)) (by (with_reducible repeat (first | refine blk_drewN ?_ _ | refine blk_drew ?_ | refine blk_alloc ?_ _)); refine blk_put (cs := #[.slice none 0 0]) ?_ 0 _ rfl; (with_reducible repeat (first | refine blk_drewN ?_ _ | refine blk_drew ?_ | refine blk_alloc ?_ _)); exact BK355.out) hb); have n5_ := Aside0.mk (below_step (zb HB.out) hb); clear HO353 BK349 BK350 BK355 HB; have HO353 := n0_; have HO358 := n1_; have BK349 := n2_; have BK350 := n3_; have BK355 := n4_; have HB := n5_; clear n0_ n1_ n2_ n3_ n4_ n5_ hb ho15) | ((with_reducible refine gate_builtin (b := .append) (xs := #[.tmp 13, .tmp 14]) rfl ?_); at_builtin; refine Kd.R_append_rows (Kd.int .u8) (w0 := w) w.heap.size rfl (.tmp 13) (.tmp 14) 37 5 (.int .u8 0) 1 rfl Try.underlying37 info5 rfl (by decide) (by omega) v357 y356 l0 _ _ _ (fun _ => True) (fun _ => False) rfl rfl ?aO ?aR (fun _ _ h => h) (fun _ h => h.elim) ?aF ?aB ?aS ?aL ?_; (case aR => exact zc (Kd.C_below HR0.out HB.out)); (case aB => exact (zb HB.out)); (case aF => exact (fun _ _ => trivial)); (case aO => exact (zr HO358.out)); (case aS => exact (below_size (zb HB.out))); (case aL => have := LMc3.out; omega); intro v360 w16 ho hb hg hat; rw [← Ny359.out] at ho; have n0_ := Aside0.mk (blk_grown (zh BK349.out) hg (Kd.R_ne HO358.out BK349.out (by decide))); have n1_ := Aside0.mk (blk_grown (zh BK350.out) hg (Kd.R_ne HO358.out BK350.out (by decide))); have n2_ := Aside0.mk (Kd.R_over' (zr HO353.out) (Kd.R_typed (zr HO358.out)) (by decide) hg); have n3_ := Aside0.mk (blk_grown (zh BK355.out) hg (Kd.R_ne HO358.out BK355.out (by decide))); have n4_ := Aside0.mk (hb); have n5_ := Aside0.mk (ho); clear BK349 BK350 HO353 BK355 HB HO358; have BK349 := n0_; have BK350 := n1_; have HO353 := n2_; have BK355 := n3_; have HB := n4_; have HO361 := n5_; clear n0_ n1_ n2_ n3_ n4_ n5_ ho hb hg hat; obtain ⟨Ao99, co99, eo99⟩ := Kd.R_slice HO361.out; subst eo99) | ((with_reducible refine gate_callee (f := 42) rfl ?_); refine goesL_ (some 16) rfl rfl Try.func42 (by kernel_rfl) rfl #[.slice Ao99 y359.length co99] rfl zl ?_; (with_reducible refine (spec_l1New.calls k _ _ y359 t362 t363 t364 ?w0w _ ?side1 ?side2 ?side3 A4.out).mono ?_); (case side1 => exact Below.refl _ _); (case side2 => exact (Kd.R_reads' (zr HO361.out)).2.2); (case side3 => exact (Kd.R_reads' HO361.out).2.1); rintro e w17 ⟨g365, rfl, hi, hb, hb2⟩; refine ⟨_, rfl, ?_⟩; have n0_ := Aside0.mk (Kd.R_below (zr HO353.out) hb2); have n1_ := Aside0.mk (Kd.R_below (zr HO361.out) hb2); have n2_ := Aside0.mk (blk_below (zh BK349.out) hb2); have n3_ := Aside0.mk (blk_below (zh BK350.out) hb2); have n4_ := Aside0.mk (blk_below (zh BK355.out) hb2); have n5_ := Aside0.mk (below_step (zb HB.out) hb2); have n20_ := Aside0.mk (show Below w.heap.size w _ from zb HB.out); have n21_ := Aside0.mk (below_step n20_.out hb); have n22_ := Aside0.mk hb; clear n21_; have n6_ := Aside0.mk (hi); have n7_ := Aside0.mk (IsS86.ne_blk hi (blk_below (zh BK349.out) hb2) (by decide)); have n8_ := Aside0.mk (Ne.symm (IsS86.ne_blk hi (blk_below (zh BK349.out) hb2) (by decide))); have n9_ := Aside0.mk (IsS86.ne_blk hi (blk_below (zh BK350.out) hb2) (by decide)); have n10_ := Aside0.mk (Ne.symm (IsS86.ne_blk hi (blk_below (zh BK350.out) hb2) (by decide))); have n11_ := Aside0.mk (IsS86.ne_blk hi (blk_below (zh BK355.out) hb2) (by decide)); have n12_ := Aside0.mk (Ne.symm (IsS86.ne_blk hi (blk_below (zh BK355.out) hb2) (by decide))); clear HO353 HO361 BK349 BK350 BK355 HB; have HO353 := n0_; have HO361 := n1_; have BK349 := n2_; have BK350 := n3_; have BK355 := n4_; have HB := n5_; have HB0 := n20_; have HBN := n22_; have HI365 := n6_; have NB365_349 := n7_; have NB349_365 := n8_; have NB365_350 := n9_; have NB350_365 := n10_; have NB365_355 := n11_; have NB355_365 := n12_; clear n0_ n1_ n2_ n3_ n4_ n5_ n6_ n7_ n8_ n9_ n10_ n11_ n12_ n20_ n22_; (try clear hb); (try clear hb2); (try clear hk); (try clear hi)))
 have n0_ := Aside0.mk (Kd.R_drew HO353.out)
 have n1_ := Aside0.mk (Kd.R_drew HO361.out)
 have n2_ := Aside0.mk (blk_drew BK349.out)
 have n3_ := Aside0.mk (blk_drew BK350.out)
 have n4_ := Aside0.mk (blk_drew BK355.out)
 have n5_ := Aside0.mk (IsS86.drew HI365.out)
 have n6_ := Aside0.mk (below_drew1 HB.out)
 have n7_ := Aside0.mk (below_drew1 HBN.out)
 clear HO353 HO361 BK349 BK350 BK355 HI365 HB HBN
 have HO353 := n0_
 have HO361 := n1_
 have BK349 := n2_
 have BK350 := n3_
 have BK355 := n4_
 have HI365 := n5_
 have HB := n6_
 have HBN := n7_
 clear n0_ n1_ n2_ n3_ n4_ n5_ n6_ n7_
 refine start_ (n := 7) (S := fun w' => w'.cell? ⟨gb355, 0, none⟩ = some (.slice Ao10 t351.length co10)) (ds := []) #[false, false, false, false, false, false, false] (by kernel_rfl) rfl rfl ((blk_cell BK355.out 0).trans rfl) (fun hHeld => ?_)
 generalize w17.drew = w18 at HO353 HO361 BK349 BK350 BK355 HI365 HB HBN hHeld ⊢
 refine pure_ (i := 1) (N := some 18) (v := ?_) (a' := ?_) (zB 7 2) rfl rfl (by kernel_rfl) (fun _ _ _ h => h) (Or.inl ⟨by rfl, ?_⟩) ?_ ?_
 rotate_left
 ·intro w'
  go_simp
  with_reducible rfl
 rotate_left
 ·exact zn
 refine pure_ (i := 2) (N := some 19) (v := ?_) (a' := ?_) (zB 7 6) rfl rfl (by kernel_rfl) (fun _ _ _ h => h) (Or.inl ⟨by rfl, ?_⟩) ?_ ?_
 rotate_left
 ·intro w'
  go_simp
  with_reducible rfl
 rotate_left
 ·exact zn
 refine take_ (i := 0) (N := some 17) (v := ?_) (a' := ?_) (zB 7 7) rfl rfl (by kernel_rfl) (fun _ _ _ h => h) (Or.inl ⟨by rfl, ?_⟩) hHeld ?_ ?_
 rotate_left
 ·intro w' s0
  go_simp
  with_reducible rfl
 rotate_left
 ·exact zn
 refine one_ (i := 3) (N := some 20) (zB 7 15) rfl rfl (by kernel_rfl) (by decide) (fun K hK => ?_)
 refine goes_ Try.func50 (by kernel_rfl) rfl #[.pointer (some ⟨g365, 0, none⟩)] (by rfl) rfl rfl zl ?_
 with_reducible refine (spec_l1DrawAny.calls k g365 t362 t363 t364 t366 t369 t370 ?w0w _ ?side1 ?side2 A5.out).mono ?_
 (case side1 => exact HI365.out)
 (case side2 => exact HBN.out)
 rintro e w19 ⟨v367, rfl, ho0, hi, hb, hk⟩
 refine ⟨_, rfl, ?_⟩
 have n0_ := Aside0.mk (KeepBut.blk hk (g' := gb349) (o := .cells #[.slice none 0 0] 28 (0, 0)) (zh BK349.out) NB349_365.out (by simp))
 have n1_ := Aside0.mk (KeepBut.blk hk (g' := gb350) (o := .cells #[.slice none 0 0] 28 (0, 0)) (zh BK350.out) NB350_365.out (by simp))
 have n2_ := Aside0.mk (Kd.R_mono (Kd.R_told (Kd.R_oldK (IsS86.apart HI365.out (zr HO353.out) (by decide)) hk) (Kd.R_base ho0)) (fun _ h_ => h_.1))
 have n3_ := Aside0.mk (KeepBut.blk hk (g' := gb355) (o := .cells #[.slice Ao10 t351.length co10] 28 (0, 0)) (zh BK355.out) NB355_365.out (by simp))
 have n4_ := Aside0.mk (Kd.R_mono (Kd.R_keep (IsS86.apart HI365.out (zr HO361.out) (by decide)) hk (fun _ h => h.2)) (fun _ h => h.1))
 have n5_ := Aside0.mk (Kd.R_lower (Kd.R_new' ho0 (Kd.R_lt (zr HO353.out))) (below_size (zb HB.out)))
 have n6_ := Aside0.mk (below_step HB0.out hb)
 have n7_ := Aside0.mk (hi)
 clear BK349 BK350 HO353 BK355 HO361 HB HI365
 have BK349 := n0_
 have BK350 := n1_
 have HO353 := n2_
 have BK355 := n3_
 have HO361 := n4_
 have HO368 := n5_
 have HB := n6_
 have HI365 := n7_
 clear n0_ n1_ n2_ n3_ n4_ n5_ n6_ n7_
 (try clear hb)
 (try clear hb2)
 (try clear hk)
 (try clear hi)
 (try clear ho0)
 obtain ⟨Ao21, co21, eo21⟩ := Kd.R_slice HO368.out
 (first | subst eo21 | (injection eo21 with f1_ f2_ f3_; have f4_ := f1_.symm; have f5_ := f3_.symm; clear f1_ f2_ f3_; subst f4_; subst f5_))
 refine hK.out _ _ ((blk_cell BK355.out 0).trans rfl) (fun hHeld => ?_)
 clear hK K
 refine norm_ (a' := ?_) ?_ ?_
 rotate_left
 ·exact zn (N := some 20)
 refine one_ (i := 4) (N := none) (zB 7 31) rfl rfl (by kernel_rfl) (by decide) (fun K hK => ?_)
 have hs20 : w19.cell? ⟨gb349, 0, none⟩ = some (.slice none 0 0) := (blk_cell BK349.out 0).trans rfl
 have hfs20 := blk_frozen BK349.out 0
 have hns20_1 := NB350_349.out
 have hns20_2 := NB355_349.out
 have hms20_1 := NB349_350.out
 have hms20_2 := NB349_355.out
 refine skip_ (w1 := ?_) (by rfl) rfl ?_ ?_
 rotate_left
 ·go_simp
  rfl
 refine hK.out _ _ (((cell_far (p := ⟨gb349, _, none⟩) NB355_349.out _).trans (hHeld))) (fun hHeld => ?_)
 clear hK K
 refine pure_ (i := 5) (N := some 3) (v := ?_) (a' := ?_) (zB 7 63) rfl rfl (by kernel_rfl) (fun _ _ _ h => h) (Or.inl ⟨by rfl, ?_⟩) ?_ ?_
 rotate_left
 ·intro w'
  go_simp
  with_reducible rfl
 rotate_left
 ·exact zn
 refine one_ (i := 6) (N := none) (zB 7 127) rfl rfl (by kernel_rfl) (by decide) (fun K hK => ?_)
 have hs22 : w19.cell? ⟨gb350, 0, none⟩ = some (.slice none 0 0) := (blk_cell BK350.out 0).trans rfl
 have hfs22 := blk_frozen BK350.out 0
 have hns22_0 := NB349_350.out
 have hns22_2 := NB355_350.out
 have hms22_0 := NB350_349.out
 have hms22_2 := NB350_355.out
 refine skip_ (w1 := ?_) (by rfl) rfl ?_ ?_
 rotate_left
 ·go_simp
  rfl
 refine hK.out _ _ (((cell_far (p := ⟨gb350, _, none⟩) NB355_350.out _).trans (hHeld))) (fun hHeld => ?_)
 clear hK K
 refine done_ (by kernel_rfl) ?_
 try go_wp2
 refine bodyPost_ret (results_list (rs := [.cell 2 28, .tmp 3, .cell 4 28]) rfl (by simp) (.cell gb349 28 #[.slice Ao10 t351.length co10] (0, 0) _ rfl (by (with_reducible repeat (first | refine blk_drewN ?_ _ | refine blk_drew ?_ | refine blk_alloc ?_ _)); refine blk_far ?_ NB349_350.out _; (with_reducible repeat (first | refine blk_drewN ?_ _ | refine blk_drew ?_ | refine blk_alloc ?_ _)); refine blk_put (cs := #[.slice none 0 0]) ?_ 0 _ rfl; (with_reducible repeat (first | refine blk_drewN ?_ _ | refine blk_drew ?_ | refine blk_alloc ?_ _)); exact BK349.out) Try.underlying28 rfl (by kernel_rfl) (.tmp (.cell gb350 28 #[.slice Ao21 t366.length co21] (0, 0) _ rfl (by (with_reducible repeat (first | refine blk_drewN ?_ _ | refine blk_drew ?_ | refine blk_alloc ?_ _)); refine blk_put (cs := #[.slice none 0 0]) ?_ 0 _ rfl; (with_reducible repeat (first | refine blk_drewN ?_ _ | refine blk_drew ?_ | refine blk_alloc ?_ _)); refine blk_far ?_ NB350_349.out _; (with_reducible repeat (first | refine blk_drewN ?_ _ | refine blk_drew ?_ | refine blk_alloc ?_ _)); exact BK350.out) Try.underlying28 rfl (by kernel_rfl) .nil)))) rfl ?_
 exact ⟨_, _, ze, zr (Kd.R_mono (Kd.R_far (p := ⟨gb350, 0, none⟩) (Kd.R_far (p := ⟨gb349, 0, none⟩) (Kd.R_types (Kd.R_types HO353.out BK349.out (by decide)) BK350.out (by decide)) (fun _ hk => hk.1.2) (.slice Ao10 t351.length co10)) (fun _ hk => hk.2) (.slice Ao21 t366.length co21)) (fun _ hk => hk.1.1.2)), zr (Kd.R_mono (Kd.R_far (p := ⟨gb350, 0, none⟩) (Kd.R_far (p := ⟨gb349, 0, none⟩) (Kd.R_types (Kd.R_types HO368.out BK349.out (by decide)) BK350.out (by decide)) (fun _ hk => hk.1.2) (.slice Ao10 t351.length co10)) (fun _ hk => hk.2) (.slice Ao21 t366.length co21)) (fun _ hk => hk.1.1.2)), zb HB.out⟩
end Go.Proofs.Ytobkledmbnacjaa.M
end

section
namespace Go.Proofs.Ytobkledmbnacjaa.M
open Go.RowKit Go.Proofs.YtobkledmbnacjaaW.PrintWords Go.Proofs.YtobkledmbnacjaaW.PrintLast Go.Proofs.YtobkledmbnacjaaW.PrintMore
attribute [local go_sem] max2_int min2_int max_two min_two max_three min_three max_four min_four   -- for this text's walks alone
set_option linter.unusedVariables false
set_option linter.unusedSimpArgs false
set_option maxRecDepth 100000

/-! ### impl_Pool_size: function 51 -/
mutual
def impl_Pool_size.l0 : Nat → Int → List Int → Int → Int → List (S55) → Option (Int)
 | 0, _, _, _, _, _ => none
 | k + 1, x1, x5, x13, x14, x1000 => if x14 < x13 then (if 0 ≤ x14 then (if x14 < (x5.length : Int) then ((impl_Pool_parts.f k x1000 x14).bind fun t354 => (impl_Pool_size.l1 k x1 (x5.set (x14 : Int).toNat 1) x14 x13 x14 t354 (t354.length : Int) 0 x1000)) else (none)) else (none)) else (if 0 ≤ x1 then (if x1 < (x5.length : Int) then (some (rd x5 x1)) else (none)) else (none))
def impl_Pool_size.l1 : Nat → Int → List Int → Int → Int → Int → List Int → Int → Int → List (S55) → Option (Int)
 | 0, _, _, _, _, _, _, _, _, _ => none
 | k + 1, x1, x5, x6, x13, x14, x22, x23, x24, x1000 => if x24 < x23 then (if 0 ≤ x24 then (if x24 < (x22.length : Int) then (if 0 ≤ x6 then (if x6 < (x5.length : Int) then (if 0 ≤ (rd x22 x24) then (if (rd x22 x24) < (x5.length : Int) then (impl_Pool_size.l1 k x1 (x5.set (x6 : Int).toNat (mn (wrap64 ((rd x5 x6) + (rd x5 (rd x22 x24)))) 1001)) x6 x13 x14 x22 x23 (wrap64 (x24 + 1)) x1000) else (none)) else (none)) else (none)) else (none)) else (none)) else (none)) else (impl_Pool_size.l0 k x1 x5 x13 (wrap64 (x14 + 1)) x1000)
end
def impl_Pool_size.f (k : Nat) (l0_0 : List (S55)) (a1 : Int) : Option (Int) := if 0 ≤ (wrap64 (a1 + 1)) then (if (wrap64 (a1 + 1) : Int).toNat ≤ 35184372088832 then ((some (List.replicate (wrap64 (a1 + 1) : Int).toNat 0 : List Int)).bind fun y349 => (impl_Pool_size.l0 k a1 y349 (y349.length : Int) 0 l0_0)) else (none)) else (none)
def impl_Pool_size.T9 : Bool × List (List Nat × List Nat) := (true, [([], []), ([], []), ([], []), ([], []), ([2, 3], [2, 3]), ([4], [4]), ([], []), ([], []), ([6, 7], [6, 7]), ([8], [8]), ([5, 9], [5, 9]), ([10], [10]), ([0, 1, 0, 1, 2, 3, 4, 5, 6, 7, 8, 9, 10, 11], [0, 1]), ([12, 11, 0, 1, 2, 3, 4, 5, 6, 7, 8, 9, 10, 11], [11, 12])])
def impl_Pool_size.B9 : List Nat := [0, 0, 0, 0, 12, 28, 0, 0, 192, 448, 1020, 2044, 4095, 8191]
theorem impl_Pool_size.tab9 : rtab .any (opsOf Try.f51 9) = impl_Pool_size.T9 := by kernel_rfl
theorem impl_Pool_size.bits9 : waitsOk impl_Pool_size.T9.2 impl_Pool_size.B9 = true := by kernel_rfl
set_option maxHeartbeats 8000000 in
set_option maxRecDepth 100000 in
theorem impl_Pool_size.calls (k : Nat) (g0_ : Nat) (A0_0 : Option Addr) (c0_0 : Nat) (l0_0 : List (S55)) (a1 : Int) (r : Int) (w : World) (hk0_ : w.heap[g0_]? = some (.cells #[.slice A0_0 l0_0.length c0_0] 28 (0, 0))) (hr0_0 : Kd.C k55 w A0_0 l0_0.length l0_0) (hc0_0 : l0_0.length ≤ c0_0) (h : impl_Pool_size.f k l0_0 a1 = some r) :
  Calls Try.prog 51 #[.pointer (some ⟨g0_, 0, none⟩), .int .i64 a1] w fun e w' => e = .returned (.int .i64 r) ∧ Below w.heap.size w w' := by
 have HR0_0 := Aside0.mk hr0_0
 have HC0_0 := Aside0.mk hc0_0
 clear hr0_0 hc0_0
 have BK0 := Aside0.mk hk0_
 clear hk0_
 have HB := Aside0.mk (Below.refl w.heap.size w)
 have H : (if 0 ≤ (wrap64 (a1 + 1)) then (if (wrap64 (a1 + 1) : Int).toNat ≤ 35184372088832 then ((some (List.replicate (wrap64 (a1 + 1) : Int).toNat 0 : List Int)).bind fun y349 => (impl_Pool_size.l0 k a1 y349 (y349.length : Int) 0 l0_0)) else (none)) else (none)) = some r := h
 clear h
 obtain ⟨ji3, hji3⟩ : ∃ j_ : Int, (wrap64 (a1 + 1)) = j_ := ⟨_, rfl⟩
 replace H : (if 0 ≤ (ji3) then (if (ji3 : Int).toNat ≤ 35184372088832 then ((some (List.replicate (ji3 : Int).toNat 0 : List Int)).bind fun y349 => (impl_Pool_size.l0 k a1 y349 (y349.length : Int) 0 l0_0)) else (none)) else (none)) = some r := by first | (rw [hji3] at H; exact H) | (simp only [hji3] at H ⊢; exact H)
 have hji3w : (IntKind.i64.wrap (a1 + 1)) = ji3 := (i64_w _).trans hji3
 by_cases c4 : 0 ≤ (ji3)
 rotate_left
 ·rw [if_neg c4] at H
  exact absurd H (by simp)

 rw [if_pos c4] at H
 have c4b0 := eq_true c4
 have c4b1 : decide (0 ≤ (ji3)) = true := decide_eq_true c4
 clear c4
 by_cases c5 : (ji3 : Int).toNat ≤ 35184372088832
 rotate_left
 ·rw [if_neg c5] at H
  exact absurd H (by simp)
 rw [if_pos c5] at H
 have c5b0 := eq_true c5
 have c5b1 : decide ((ji3 : Int).toNat ≤ 35184372088832) = true := decide_eq_true c5
 clear c5
 obtain ⟨y349, hy349⟩ : ∃ y_ : List Int, y_ = (List.replicate (ji3 : Int).toNat 0) := ⟨_, rfl⟩
 replace H : (impl_Pool_size.l0 k a1 y349 (y349.length : Int) 0 l0_0) = some r := by first | (rw [hy349]; with_reducible exact H) | (have H2_ := (Option.bind_some _ _).symm.trans H; rw [hy349]; with_reducible exact H2_) | (have H2_ := (Option.bind_some _ _).symm.trans H; with_reducible exact H2_) | with_reducible exact H | (rw [hy349]; exact H) | exact H
 have Ny349 := Aside0.mk hy349
 clear hy349
 have H' := Aside0.mk H
 clear H
 go_enter Try.func51, Try.ntmps51
 go_wp2_with (first | ((with_reducible refine gate_dst (N := 11) rfl ?_); refine Kd.R_make (Kd.int .i64) _ 3 rfl (N := 11) rfl 45 _ _ rfl ji3 rfl rfl Try.underlying45 (.int .i64 0) 8 info3 rfl (by decide) (by omega) 0 (ok := fun _ => True) (okp := fun _ => True) rfl (fun _ hk => hk) trivial (of_decide_eq_true (by first | (with_reducible assumption) | assumption)) (Nat.le_trans (Nat.mul_le_mul_right _ (of_decide_eq_true (by first | (with_reducible assumption) | assumption) : ji3.toNat ≤ 35184372088832)) (by omega)) (Below.refl _ _) (Nat.le_refl _) ?_; intro v350 w6 ho7 hb hg_ hnew_; clear hg_ hnew_; (first | rw [← Ny349.out] at ho7 | (simp only [Int.reduceToNat] at ho7; rw [← Ny349.out] at ho7)); have n0_ := Aside0.mk (Kd.R_lower ho7 (below_size (zb HB.out))); have n1_ := Aside0.mk (blk_below (zh BK0.out) hb); have n2_ := Aside0.mk (below_step (zb HB.out) hb); clear BK0 HB; have HO351 := n0_; have BK0 := n1_; have HB := n2_; clear n0_ n1_ n2_ hb ho7; obtain ⟨Ao8, co8, eo8⟩ := Kd.R_slice HO351.out; subst eo8))
 go_loopg [14] k (fun kq v14 w' => ∃ (x5_1 : List Int) (x14_1 : Int), v14 = .int .i64 x14_1 ∧ Aside0 (impl_Pool_size.l0 kq a1 x5_1 (y349.length : Int) x14_1 l0_0 = some r) ∧ Aside0 (kq ≤ k) ∧ Aside0 (Kd.R (Kd.int .i64) 3 w' w.heap.size (fun _ => True) (.slice Ao8 y349.length co8) x5_1) ∧ Aside0 (w'.heap[g0_]? = some (.cells #[(.slice A0_0 l0_0.length c0_0)] 28 (0, 0))) ∧ Aside0 (Below w.heap.size w w'))
 case atStart => exact ⟨(y349), (0), (by first | rfl | (simp; done) | (simp [*]; done)), H', ⟨Nat.le_refl _⟩, ⟨zr HO351.out⟩, ⟨zh BK0.out⟩, ⟨zb HB.out⟩⟩
 case round =>
  clear H'
  try clear p2
  try clear c4
  try clear c4b0
  try clear c4b1
  try clear c5
  try clear c5b0
  try clear c5b1
  try clear p6
  obtain ⟨x5_1, x14_1, rfl, HA, HK1, HO_5, BK0, HB⟩ := hrel
  have hl5_1 := (Kd.R_reads' HO_5.out).1
  rw [hl5_1] at HO_5
  (try simp only [hl5_1])
  (try simp only [hl5_1] at BK0)
  cases gk with
  | zero => exact absurd HA.out (by simp [impl_Pool_size.l0])
  | succ k1 =>
   have H := HA.out
   clear HA
   simp only [impl_Pool_size.l0] at H
   by_cases c9 : x14_1 < (y349.length : Int)
   rotate_left
   ·rw [if_neg c9] at H
    have c9b0 : decide (x14_1 < (y349.length : Int)) = false := decide_eq_false c9
    (try (have c9b0h := c9b0; simp only [hl5_1] at c9b0h))
    clear c9
    by_cases c29 : 0 ≤ a1
    rotate_left
    ·rw [if_neg c29] at H
     exact absurd H (by simp)
    rw [if_pos c29] at H
    have c29b0 : decide (0 ≤ a1) = true := decide_eq_true c29
    clear c29
    by_cases c30 : a1 < (x5_1.length : Int)
    rotate_left
    ·rw [if_neg c30] at H
     exact absurd H (by simp)
    rw [if_pos c30] at H
    have c30b0 : decide (a1 < (x5_1.length : Int)) = true := decide_eq_true c30
    (try (have c30b0h := c30b0; simp only [hl5_1] at c30b0h))
    clear c30
    obtain rfl := Option.some.inj H
    have p352 : 0 ≤ (a1 : Int) := of_decide_eq_true (by first | (with_reducible assumption) | assumption)
    have q352 : a1 < (x5_1.length : Int) := of_decide_eq_true (by first | (with_reducible assumption) | assumption)
    obtain ⟨ad352, e352, hx352_0⟩ := Kd.at_int (Kd.R_reads' HO_5.out).2.2 a1 p352 q352
    cases e352
    replace p352 := eq_true p352
    replace q352 := eq_true q352
    go_wp2
    go_ret
    exact ⟨by first | rfl | (simp [errW_none, errW_some] <;> rfl) | (simp only [← hji3]; first | rfl | (simp [errW_none, errW_some] <;> rfl)) | (simp [*, errW_none, errW_some] <;> rfl), zb HB.out⟩
   rw [if_pos c9] at H
   have c9b0 : decide (x14_1 < (y349.length : Int)) = true := decide_eq_true c9
   (try (have c9b0h := c9b0; simp only [hl5_1] at c9b0h))
   clear c9
   by_cases c10 : 0 ≤ x14_1
   rotate_left
   ·rw [if_neg c10] at H
    exact absurd H (by simp)
   rw [if_pos c10] at H
   have c10b0 : decide (0 ≤ x14_1) = true := decide_eq_true c10
   clear c10
   by_cases c11 : x14_1 < (x5_1.length : Int)
   rotate_left
   ·rw [if_neg c11] at H
    exact absurd H (by simp)
   rw [if_pos c11] at H
   have c11b0 : decide (x14_1 < (x5_1.length : Int)) = true := decide_eq_true c11
   (try (have c11b0h := c11b0; simp only [hl5_1] at c11b0h))
   clear c11
   obtain ⟨y353, hy353⟩ : ∃ y_ : List Int, y_ = (x5_1.set (x14_1 : Int).toNat 1) := ⟨_, rfl⟩
   replace H : ((impl_Pool_parts.f k1 l0_0 x14_1).bind fun t354 => (impl_Pool_size.l1 k1 a1 y353 x14_1 (y349.length : Int) x14_1 t354 (t354.length : Int) 0 l0_0)) = some r := by first | (rw [hy353]; with_reducible exact H) | (have H2_ := (Option.bind_some _ _).symm.trans H; rw [hy353]; with_reducible exact H2_) | (have H2_ := (Option.bind_some _ _).symm.trans H; with_reducible exact H2_) | with_reducible exact H | (rw [hy353]; exact H) | exact H
   have Ny353 := Aside0.mk hy353
   clear hy353
   replace H := Option.bind_eq_some_iff.mp H
   obtain ⟨t354, A130, H⟩ := H
   replace H : (impl_Pool_size.l1 k1 a1 y353 x14_1 (y349.length : Int) x14_1 t354 (t354.length : Int) 0 l0_0) = some r := H
   have A13 := Aside0.mk A130
   clear A130
   have H' := Aside0.mk H
   clear H
   have p12 : 0 ≤ (x14_1 : Int) := of_decide_eq_true (by first | (with_reducible assumption) | assumption)
   have q12 : (x14_1 : Int) < ((x5_1.length : Int) : Int) := of_decide_eq_true (by first | (with_reducible assumption) | assumption)
   obtain ⟨go12, co12, eo12, gb12, gl12, cl12, HG12⟩ := Kd.R_form HO_5.out (by omega)
   (first | cases eo12 | (injection eo12 with ea_ en_ ec_; (first | subst ea_ | (injection ea_ with ea_; subst ea_)); subst ec_; clear en_))
   have GB12 := Aside0.mk gb12
   have GG12 := Aside0.mk HG12
   clear gb12 gl12 HG12
   obtain ⟨hx12_0, hf12_0⟩ := Kd.R_celln 0 HO_5.out (x14_1 : Int) p12 q12
   replace p12 := eq_true p12
   replace q12 := eq_true q12
   have HP14 := Kd.R_putg HO_5.out (x14_1 : Int) 1
   go_wp2_with (first | ((with_reducible refine gate_store (t := 3) (p := 19) rfl ?_); refine store_event (t := 3) (p := 19) (v := ?vo_w15) (w1 := (wr.setCell ⟨go12, (x14_1 : Int).toNat, none⟩ (.int .i64 1))) ?hg ?ho ?hn ?hr ?_; (case ho => rfl); (case hg => rfl); (case hn => rfl); (case hr => first | (go_simp; done) | (go_simp; rfl)); intro w15 hw; have hg : wr.grownBy w15 (some go12) := (by rw [hw]; exact HP14.2); have hp_ : Kd.R (Kd.int .i64) 3 w15 w.heap.size (fun _ => True) (.slice (some ⟨go12, 0, none⟩) x5_1.length co8) y353 := (by rw [hw, Ny353.out]; exact HP14.1); clear HP14; have n0_ := Aside0.mk (hp_); have n1_ := Aside0.mk (blk_grown (zh BK0.out) hg (Kd.R_ne HO_5.out BK0.out (by decide))); have n2_ := Aside0.mk ((by rw [hw]; exact below_set (HB.out) GB12.out : Below w.heap.size w w15)); clear HO_5 BK0 HB; have HO_5 := n0_; have BK0 := n1_; have HB := n2_; clear n0_ n1_ n2_ hg hw hp_) | ((with_reducible refine gate_callee (f := 52) rfl ?_); refine goesL_ (some 22) rfl rfl Try.func52 (by kernel_rfl) rfl #[.pointer (some ⟨g0_, 0, none⟩), .int .i64 x14_1] rfl zl ?_; (with_reducible refine (impl_Pool_parts.calls k1 _ A0_0 c0_0 l0_0 x14_1 t354 _ ?side1 ?side2 ?side3 A13.out).mono ?_); (case side1 => exact zh BK0.out); (case side2 => exact zc (Kd.C_below HR0_0.out HB.out)); (case side3 => exact HC0_0.out); rintro e w16 ⟨v355, rfl, ho0, hb⟩; refine ⟨_, rfl, ?_⟩; have n0_ := Aside0.mk (Kd.R_elder' (zr HO_5.out) (Kd.R_base ho0) hb); have n1_ := Aside0.mk (Kd.R_lower (Kd.R_new' ho0 (Kd.R_lt (zr HO_5.out))) (below_size (zb HB.out))); have n2_ := Aside0.mk (blk_below (zh BK0.out) hb); have n3_ := Aside0.mk (below_step (zb HB.out) hb); clear HO_5 BK0 HB; have HO_5 := n0_; have HO356 := n1_; have BK0 := n2_; have HB := n3_; clear n0_ n1_ n2_ n3_; (try clear hb); (try clear hb2); (try clear hk); (try clear hi); (try clear ho0); obtain ⟨Ao17, co17, eo17⟩ := Kd.R_slice HO356.out; subst eo17))
   go_loopg [24] k1 (fun kq v24 w' => ∃ (x5_2 : List Int) (x24_2 : Int), v24 = .int .i64 x24_2 ∧ Aside0 (impl_Pool_size.l1 kq a1 x5_2 x14_1 (y349.length : Int) x14_1 t354 (t354.length : Int) x24_2 l0_0 = some r) ∧ Aside0 (kq ≤ k1) ∧ Aside0 (Kd.R (Kd.int .i64) 3 w' w.heap.size (fun k_ => some k_ ≠ ((.slice Ao17 t354.length co17) : Value).ownBlock) (.slice (some ⟨go12, 0, none⟩) x5_1.length co8) x5_2) ∧ Aside0 (Kd.R (Kd.int .i64) 3 w' w.heap.size (fun k_ => some k_ ≠ ((.slice (some ⟨go12, 0, none⟩) x5_1.length co8) : Value).ownBlock) (.slice Ao17 t354.length co17) t354) ∧ Aside0 (w'.heap[g0_]? = some (.cells #[(.slice A0_0 l0_0.length c0_0)] 28 (0, 0))) ∧ Aside0 (Below w.heap.size w w'))
   case atStart => exact ⟨(y353), (0), (by first | rfl | (simp; done) | (simp [*]; done)), H', ⟨Nat.le_refl _⟩, ⟨by (try simp only [hl5_1]); (with_reducible repeat (first | apply Kd.R_alloc | apply Kd.R_drewN | apply Kd.R_drew)); exact Kd.R_mono HO_5.out (fun _ hk => hk.2)⟩, ⟨by (try simp only [hl5_1]); (with_reducible repeat (first | apply Kd.R_alloc | apply Kd.R_drewN | apply Kd.R_drew)); exact Kd.R_mono HO356.out (fun _ hk => hk.2)⟩, ⟨by (try simp only [hl5_1]); (with_reducible repeat (first | refine blk_drewN ?_ _ | refine blk_drew ?_ | refine blk_alloc ?_ _)); exact BK0.out⟩, ⟨zb HB.out⟩⟩
   case round =>
    clear H'
    try clear c1
    try clear p1
    try clear q1
    try clear hx1
    try clear p2
    try clear c4
    try clear c4b0
    try clear c4b1
    try clear c5
    try clear c5b0
    try clear c5b1
    try clear p6
    try clear c9
    try clear c9b0
    try clear c10
    try clear c10b0
    try clear c11
    try clear c11b0
    try clear p12
    try clear q12
    try clear hx12
    try clear hf12
    try clear hx12_0
    try clear p12
    try clear p2
    try clear p6
    try clear q12
    obtain ⟨x5_2, x24_2, rfl, HA, HK2, HO_5, HO_22, BK0, HB⟩ := hrel
    have hl5_2 := (Kd.R_reads' HO_5.out).1
    rw [hl5_2] at HO_5
    (try simp only [hl5_2])
    (try simp only [hl5_2] at BK0)
    (try simp only [hl5_2] at HO_22)
    cases gk with
    | zero => exact absurd HA.out (by simp [impl_Pool_size.l1])
    | succ k2 =>
     have H := HA.out
     clear HA
     simp only [impl_Pool_size.l1] at H
     by_cases c18 : x24_2 < (t354.length : Int)
     rotate_left
     ·rw [if_neg c18] at H
      have c18b0 : decide (x24_2 < (t354.length : Int)) = false := decide_eq_false c18
      (try (have c18b0h := c18b0; simp only [hl5_1, hl5_2] at c18b0h))
      clear c18
      have H' := Aside0.mk H
      clear H
      go_wp2
      (try simp only [← hl5_1, ← hl5_2])
      go_roundg k2
      case measure => have := HK1.out; have := HK2.out; omega
      case rel => exact ⟨(x5_2), (wrap64 (x14_1 + 1)), (by first | rfl | (simp; done) | (simp [*]; done)), H', ⟨by have := HK1.out; have := HK2.out; omega⟩, ⟨by (try simp only [hl5_1]); (try simp only [hl5_2]); (with_reducible repeat (first | apply Kd.R_alloc | apply Kd.R_drewN | apply Kd.R_drew)); exact Kd.R_mono HO_5.out (fun _ hk => trivial)⟩, ⟨by (try simp only [hl5_1]); (try simp only [hl5_2]); (with_reducible repeat (first | refine blk_drewN ?_ _ | refine blk_drew ?_ | refine blk_alloc ?_ _)); exact BK0.out⟩, ⟨zb HB.out⟩⟩
     rw [if_pos c18] at H
     have c18b0 : decide (x24_2 < (t354.length : Int)) = true := decide_eq_true c18
     (try (have c18b0h := c18b0; simp only [hl5_1, hl5_2] at c18b0h))
     clear c18
     by_cases c19 : 0 ≤ x24_2
     rotate_left
     ·rw [if_neg c19] at H
      exact absurd H (by simp)
     rw [if_pos c19] at H
     have c19b0 : decide (0 ≤ x24_2) = true := decide_eq_true c19
     clear c19
     by_cases c20 : x24_2 < (t354.length : Int)
     rotate_left
     ·rw [if_neg c20] at H
      exact absurd H (by simp)
     rw [if_pos c20] at H
     have c20b0 : decide (x24_2 < (t354.length : Int)) = true := decide_eq_true c20
     (try (have c20b0h := c20b0; simp only [hl5_1, hl5_2] at c20b0h))
     clear c20
     by_cases c21 : 0 ≤ x14_1
     rotate_left
     ·rw [if_neg c21] at H
      exact absurd H (by simp)
     rw [if_pos c21] at H
     have c21b0 : decide (0 ≤ x14_1) = true := decide_eq_true c21
     clear c21
     by_cases c22 : x14_1 < (x5_2.length : Int)
     rotate_left
     ·rw [if_neg c22] at H
      exact absurd H (by simp)
     rw [if_pos c22] at H
     have c22b0 : decide (x14_1 < (x5_2.length : Int)) = true := decide_eq_true c22
     (try (have c22b0h := c22b0; simp only [hl5_1, hl5_2] at c22b0h))
     clear c22
     by_cases c23 : 0 ≤ (rd t354 x24_2)
     rotate_left
     ·rw [if_neg c23] at H
      exact absurd H (by simp)
     rw [if_pos c23] at H
     have c23b0 : decide (0 ≤ (rd t354 x24_2)) = true := decide_eq_true c23
     clear c23
     by_cases c24 : (rd t354 x24_2) < (x5_2.length : Int)
     rotate_left
     ·rw [if_neg c24] at H
      exact absurd H (by simp)
     rw [if_pos c24] at H
     have c24b0 : decide ((rd t354 x24_2) < (x5_2.length : Int)) = true := decide_eq_true c24
     (try (have c24b0h := c24b0; simp only [hl5_1, hl5_2] at c24b0h))
     clear c24
     obtain ⟨ji25, hji25⟩ : ∃ j_ : Int, (mn (wrap64 ((rd x5_2 x14_1) + (rd x5_2 (rd t354 x24_2)))) 1001) = j_ := ⟨_, rfl⟩
     replace H : (impl_Pool_size.l1 k2 a1 (x5_2.set (x14_1 : Int).toNat (ji25)) x14_1 (y349.length : Int) x14_1 t354 (t354.length : Int) (wrap64 (x24_2 + 1)) l0_0) = some r := by first | (rw [hji25] at H; exact H) | (simp only [hji25] at H ⊢; exact H)
     have hji25_ : (if 1001 < (wrap64 ((rd x5_2 x14_1) + (rd x5_2 (rd t354 x24_2)))) then 1001 else (wrap64 ((rd x5_2 x14_1) + (rd x5_2 (rd t354 x24_2))))) = ji25 := hji25
     obtain ⟨y360, hy360⟩ : ∃ y_ : List Int, y_ = (x5_2.set (x14_1 : Int).toNat (ji25)) := ⟨_, rfl⟩
     replace H : (impl_Pool_size.l1 k2 a1 y360 x14_1 (y349.length : Int) x14_1 t354 (t354.length : Int) (wrap64 (x24_2 + 1)) l0_0) = some r := by first | (rw [hy360]; with_reducible exact H) | (have H2_ := (Option.bind_some _ _).symm.trans H; rw [hy360]; with_reducible exact H2_) | (have H2_ := (Option.bind_some _ _).symm.trans H; with_reducible exact H2_) | with_reducible exact H | (rw [hy360]; exact H) | exact H
     have Ny360 := Aside0.mk hy360
     clear hy360
     have H' := Aside0.mk H
     clear H
     have p357 : 0 ≤ (x24_2 : Int) := of_decide_eq_true (by first | (with_reducible assumption) | assumption)
     have q357 : x24_2 < (t354.length : Int) := of_decide_eq_true (by first | (with_reducible assumption) | assumption)
     obtain ⟨ad357, e357, hx357_0⟩ := Kd.at_int (Kd.R_reads' HO_22.out).2.2 x24_2 p357 q357
     cases e357
     replace p357 := eq_true p357
     replace q357 := eq_true q357
     try go_wp2
     have n0_ := Aside0.mk (Kd.R_drew HO_5.out)
     have n1_ := Aside0.mk (Kd.R_drew HO_22.out)
     have n2_ := Aside0.mk (blk_drew BK0.out)
     have n3_ := Aside0.mk (below_drew1 HB.out)
     clear HO_5 HO_22 BK0 HB
     have HO_5 := n0_
     have HO_22 := n1_
     have BK0 := n2_
     have HB := n3_
     clear n0_ n1_ n2_ n3_
     have p358 : 0 ≤ (x14_1 : Int) := of_decide_eq_true (by first | (with_reducible assumption) | assumption)
     have q358 : x14_1 < (x5_2.length : Int) := of_decide_eq_true (by first | (with_reducible assumption) | assumption)
     obtain ⟨ad358, e358, hx358_0⟩ := Kd.at_int (Kd.R_reads' HO_5.out).2.2 x14_1 p358 q358
     obtain rfl : (⟨go12, 0, none⟩ : Addr) = ad358 := (by injection e358)
     (first | simp only [add_plain] at hx358_0 | simp only [add_at] at hx358_0 | simp only [Addr.add, Nat.zero_add] at hx358_0 | skip)
     replace p358 := eq_true p358
     replace q358 := eq_true q358
     have p359 : 0 ≤ ((rd t354 x24_2) : Int) := of_decide_eq_true (by first | (with_reducible assumption) | assumption)
     have q359 : (rd t354 x24_2) < (x5_2.length : Int) := of_decide_eq_true (by first | (with_reducible assumption) | assumption)
     obtain ⟨ad359, e359, hx359_0⟩ := Kd.at_int (Kd.R_reads' HO_5.out).2.2 (rd t354 x24_2) p359 q359
     obtain rfl : (⟨go12, 0, none⟩ : Addr) = ad359 := (by injection e359)
     (first | simp only [add_plain] at hx359_0 | simp only [add_at] at hx359_0 | simp only [Addr.add, Nat.zero_add] at hx359_0 | skip)
     replace p359 := eq_true p359
     replace q359 := eq_true q359
     have p26 : 0 ≤ (x14_1 : Int) := of_decide_eq_true (by first | (with_reducible assumption) | assumption)
     have q26 : (x14_1 : Int) < ((x5_2.length : Int) : Int) := of_decide_eq_true (by first | (with_reducible assumption) | assumption)
     obtain ⟨hx26_0, hf26_0⟩ := Kd.R_celln 0 HO_5.out (x14_1 : Int) p26 q26
     replace p26 := eq_true p26
     replace q26 := eq_true q26
     have HP28 := Kd.R_putn HO_5.out (x14_1 : Int) ji25
     rw [← Ny360.out] at HP28
     have HQ28 := Aside0.mk HP28
     clear HP28
     refine start_ (n := 14) (S := fun w' => w'.cell? ⟨go12, (x14_1).toNat, none⟩ = some (.int .i64 (rd x5_2 x14_1)) ∧ w'.cell? ⟨go12, ((rd t354 x24_2)).toNat, none⟩ = some (.int .i64 (rd x5_2 (rd t354 x24_2)))) (ds := [13]) #[false, false, false, false, false, false, false, false, false, false, false, false, false, false] (by kernel_rfl) rfl rfl ⟨hx358_0, hx359_0⟩ (fun hHeld => ?_); refine with_tabW impl_Pool_size.tab9 impl_Pool_size.bits9 (fun HT_ HW_ => ?_)
     generalize wr.drew = w27 at HO_5 HO_22 BK0 HB HQ28 hf26_0 hx26_0 hx358_0 hx359_0 hHeld ⊢
     refine pure_ (i := 0) (N := some 28) (v := ?_) (a' := ?_) (zB 14 1) rfl rfl (any_of HT_.out (by kernel_rfl)) (fun _ _ _ h => h) (Or.inl ⟨by rfl, ?_⟩) ?_ ?_
     rotate_left
     ·intro w'
      go_simp
      with_reducible rfl
     rotate_left
     ·exact zn
     refine pure_ (i := 1) (N := some 29) (v := ?_) (a' := ?_) (zB 14 3) rfl rfl (any_of HT_.out (by kernel_rfl)) (fun _ _ _ h => h) (Or.inl ⟨by rfl, ?_⟩) ?_ ?_
     rotate_left
     ·intro w'
      go_simp
      with_reducible rfl
     rotate_left
     ·exact zn
     refine pure_ (i := 2) (N := some 30) (v := ?_) (a' := ?_) (zB 14 7) rfl rfl (any_of HT_.out (by kernel_rfl)) (fun _ _ _ h => h) (Or.inl ⟨by rfl, ?_⟩) ?_ ?_
     rotate_left
     ·intro w'
      go_simp
      with_reducible rfl
     rotate_left
     ·exact zn
     refine pure_ (i := 3) (N := some 31) (v := ?_) (a' := ?_) (zB 14 15) rfl rfl (any_of HT_.out (by kernel_rfl)) (fun _ _ _ h => h) (Or.inl ⟨by rfl, ?_⟩) ?_ ?_
     rotate_left
     ·intro w'
      go_simp
      with_reducible rfl
     rotate_left
     ·exact zn
     refine pure_ (i := 4) (N := some 32) (v := ?_) (a' := ?_) (zB 14 31) rfl rfl (any_of HT_.out (by kernel_rfl)) (fun _ _ _ h => h) (Or.inl ⟨by rfl, ?_⟩) ?_ ?_
     rotate_left
     ·intro w'
      go_simp
      with_reducible rfl
     rotate_left
     ·exact zn
     refine pure_ (i := 6) (N := some 34) (v := ?_) (a' := ?_) (zB 14 95) rfl rfl (any_of HT_.out (by kernel_rfl)) (fun _ _ _ h => h) (Or.inl ⟨by rfl, ?_⟩) ?_ ?_
     rotate_left
     ·intro w'
      go_simp
      with_reducible rfl
     rotate_left
     ·exact zn
     refine pure_ (i := 7) (N := some 35) (v := ?_) (a' := ?_) (zB 14 223) rfl rfl (any_of HT_.out (by kernel_rfl)) (fun _ _ _ h => h) (Or.inl ⟨by rfl, ?_⟩) ?_ ?_
     rotate_left
     ·intro w'
      go_simp
      with_reducible rfl
     rotate_left
     ·exact zn
     refine pure_ (i := 8) (N := some 36) (v := ?_) (a' := ?_) (zB 14 479) rfl rfl (any_of HT_.out (by kernel_rfl)) (fun _ _ _ h => h) (Or.inl ⟨by rfl, ?_⟩) ?_ ?_
     rotate_left
     ·intro w'
      go_simp
      with_reducible rfl
     rotate_left
     ·exact zn
     refine take_ (i := 5) (N := some 33) (v := ?_) (a' := ?_) (zB 14 511) rfl rfl (take_ofW HT_.out HW_.out (by kernel_rfl)) (fun _ _ _ h => h) (Or.inl ⟨by rfl, ?_⟩) hHeld ?_ ?_
     rotate_left
     ·rintro w' ⟨s0, s1⟩
      go_simp
      with_reducible rfl
     rotate_left
     ·exact zn
     refine take_ (i := 9) (N := some 37) (v := ?_) (a' := ?_) (zB 14 1023) rfl rfl (take_ofW HT_.out HW_.out (by kernel_rfl)) (fun _ _ _ h => h) (Or.inl ⟨by rfl, ?_⟩) hHeld ?_ ?_
     rotate_left
     ·rintro w' ⟨s0, s1⟩
      go_simp
      with_reducible rfl
     rotate_left
     ·exact zn
     refine pure_ (i := 10) (N := some 38) (v := ?_) (a' := ?_) (zB 14 2047) rfl rfl (any_of HT_.out (by kernel_rfl)) (fun _ _ _ h => h) (Or.inl ⟨by rfl, ?_⟩) ?_ ?_
     rotate_left
     ·intro w'
      go_simp
      with_reducible rfl
     rotate_left
     ·exact zn
     refine pure_ (i := 11) (N := some 39) (v := ?_) (a' := ?_) (zB 14 4095) rfl rfl (any_of HT_.out (by kernel_rfl)) (fun _ _ _ h => h) (Or.inl ⟨by rfl, ?_⟩) ?_ ?_
     rotate_left
     ·intro w'
      go_simp
      with_reducible rfl
     rotate_left
     ·exact zn
     refine pure_ (i := 12) (N := some 40) (v := ?_) (a' := ?_) (zB 14 8191) rfl rfl (any_of HT_.out (by kernel_rfl)) (fun _ _ _ h => h) (Or.inl ⟨by rfl, ?_⟩) ?_ ?_
     rotate_left
     ·intro w'
      go_simp
      with_reducible rfl
     rotate_left
     ·exact zn
     refine last_ (i := 13) (N := none) (zB 14 16383) rfl rfl (one_of HT_.out (by kernel_rfl)) (by decide) (fun K hK => ?_)
     refine skip_ (w1 := ?_) (by rfl) rfl ?_ ?_
     rotate_left
     ·go_simp
      rfl
     refine hK.out _ _ ?_
     clear hK K
     refine done_ (done_of HT_.out (by kernel_rfl)) ?_
     try go_wp2
     (try simp only [← hl5_2])
     go_roundg k2
     case measure => have := HK1.out; have := HK2.out; omega
     case rel => exact ⟨(y360), (wrap64 (x24_2 + 1)), (by first | rfl | (simp; done) | (simp [*]; done)), H', ⟨by have := HK1.out; have := HK2.out; omega⟩, ⟨by (try simp only [hl5_1]); (try simp only [hl5_2]); (with_reducible repeat (first | apply Kd.R_alloc | apply Kd.R_drewN | apply Kd.R_drew)); exact HQ28.out⟩, ⟨by (try simp only [hl5_1]); (try simp only [hl5_2]); (with_reducible repeat (first | apply Kd.R_alloc | apply Kd.R_drewN | apply Kd.R_drew)); exact Kd.R_mono (Kd.R_far (p := ⟨go12, (x14_1 : Int).toNat, none⟩) (Kd.R_mono HO_22.out (fun k_ hk => (⟨hk, fun e_ => hk (by rw [e_]; rfl)⟩ : _ ∧ k_ ≠ go12))) (fun _ hk => hk.2) (.int .i64 ji25)) (fun _ hk => hk.1)⟩, ⟨by (try simp only [hl5_1]); (try simp only [hl5_2]); (with_reducible repeat (first | refine blk_drewN ?_ _ | refine blk_drew ?_ | refine blk_alloc ?_ _)); refine blk_far ?_ (by have h_ := Kd.R_ne HO_5.out BK0.out (by decide); intro e_; exact h_ (by rw [e_]; rfl)) _; (with_reducible repeat (first | refine blk_drewN ?_ _ | refine blk_drew ?_ | refine blk_alloc ?_ _)); exact BK0.out⟩, ⟨zb HB.out⟩⟩
/-! ### impl_TermSize: function 20 -/
def impl_TermSize.f (k : Nat) (l0_0 : List (S55)) (a1 : Int) : Option (Int) := (impl_Pool_isTerm.f l0_0 a1).bind fun t362 => (if t362 = true then ((impl_PoolOk.f l0_0).bind fun t363 => (if t363 = true then ((impl_Pool_size.f k l0_0 a1).bind fun t364 => (some t364)) else (some 0))) else (some 0))
set_option maxHeartbeats 8000000 in
set_option maxRecDepth 100000 in
theorem impl_TermSize.calls (k : Nat) (A0_0 : Option Addr) (c0_0 : Nat) (l0_0 : List (S55)) (a1 : Int) (r : Int) (w : World) (hr0_0 : Kd.C k55 w A0_0 l0_0.length l0_0) (hc0_0 : l0_0.length ≤ c0_0) (h : impl_TermSize.f k l0_0 a1 = some r) :
  Calls Try.prog 20 #[.agg #[.slice A0_0 l0_0.length c0_0], .int .i64 a1] w fun e w' => e = .returned (.int .i64 r) ∧ Below w.heap.size w w' := by
 have hu28 := Try.underlying28
 have HR0_0 := Aside0.mk hr0_0
 have HC0_0 := Aside0.mk hc0_0
 clear hr0_0 hc0_0
 have HB := Aside0.mk (Below.refl w.heap.size w)
 have H : ((impl_Pool_isTerm.f l0_0 a1).bind fun t362 => (if t362 = true then ((impl_PoolOk.f l0_0).bind fun t363 => (if t363 = true then ((impl_Pool_size.f k l0_0 a1).bind fun t364 => (some t364)) else (some 0))) else (some 0))) = some r := h
 clear h
 replace H := Option.bind_eq_some_iff.mp H
 obtain ⟨t362, A30, H⟩ := H
 replace H : (if t362 = true then ((impl_PoolOk.f l0_0).bind fun t363 => (if t363 = true then ((impl_Pool_size.f k l0_0 a1).bind fun t364 => (some t364)) else (some 0))) else (some 0)) = some r := H
 have A3 := Aside0.mk A30
 clear A30
 by_cases c4 : t362 = true
 rotate_left
 ·replace c4 := Bool.eq_false_iff.mpr c4
  subst c4
  have H1 : (some 0) = some r := by rw [if_neg (show ¬ (false = true) by decide)] at H; exact H
  clear H
  have H := H1
  clear H1
  obtain rfl := Option.some.inj H
  go_enter Try.func20, Try.ntmps20
  go_wp2_with (first | ((with_reducible refine gate_dst (N := 2) rfl ?_); refine box_event ?hg (N := 2) ?hd (cs := #[.slice A0_0 l0_0.length c0_0]) (t := 28) ?hr ?_; (case hd => rfl); (case hg => rfl); (case hr => first | (go_simp; done) | (go_simp; rfl)); intro gb361 hg w17 hbox hb; have n0_ := Aside0.mk (below_step (zb HB.out) hb); have n1_ := Aside0.mk (hbox); have n2_ := Aside0.mk ((by rw [hg]; exact (below_size (zb HB.out)) : w.heap.size ≤ gb361)); have n3_ := Aside0.mk ((by rw [hg]; exact (below_size (zb HB.out)) : w.heap.size ≤ gb361)); clear HB; have HB := n0_; have BK361 := n1_; have GW361 := n2_; have GE361 := n3_; clear n0_ n1_ n2_ n3_ hb hbox hg) | ((with_reducible refine gate_callee (f := 33) rfl ?_); refine goesL_ (some 6) rfl rfl Try.func33 (by kernel_rfl) rfl #[.pointer (some ⟨gb361, 0, none⟩), .int .i64 a1] rfl zl ?_; (with_reducible refine (impl_Pool_isTerm.calls _ A0_0 c0_0 l0_0 a1 false _ ?side1 ?side2 ?side3 A3.out).mono ?_); (case side1 => exact zh BK361.out); (case side2 => exact zc (Kd.C_below HR0_0.out HB.out)); (case side3 => exact HC0_0.out); rintro e w18 ⟨rfl, hb⟩; refine ⟨_, rfl, ?_⟩; have n0_ := Aside0.mk (blk_below (zh BK361.out) hb); have n1_ := Aside0.mk (below_step (zb HB.out) hb); clear BK361 HB; have BK361 := n0_; have HB := n1_; clear n0_ n1_; (try clear hb); (try clear hb2); (try clear hk); (try clear hi)))
  go_ret
  exact ⟨ze, zb HB.out⟩

 subst c4
 have H1 : ((impl_PoolOk.f l0_0).bind fun t363 => (if t363 = true then ((impl_Pool_size.f k l0_0 a1).bind fun t364 => (some t364)) else (some 0))) = some r := by rw [if_pos rfl] at H; exact H
 clear H
 have H := H1
 clear H1
 replace H := Option.bind_eq_some_iff.mp H
 obtain ⟨t363, A50, H⟩ := H
 replace H : (if t363 = true then ((impl_Pool_size.f k l0_0 a1).bind fun t364 => (some t364)) else (some 0)) = some r := H
 have A5 := Aside0.mk A50
 clear A50
 by_cases c6 : t363 = true
 rotate_left
 ·replace c6 := Bool.eq_false_iff.mpr c6
  subst c6
  have H1 : (some 0) = some r := by rw [if_neg (show ¬ (false = true) by decide)] at H; exact H
  clear H
  have H := H1
  clear H1
  obtain rfl := Option.some.inj H
  go_enter Try.func20, Try.ntmps20
  go_wp2_with (first | ((with_reducible refine gate_dst (N := 2) rfl ?_); refine box_event ?hg (N := 2) ?hd (cs := #[.slice A0_0 l0_0.length c0_0]) (t := 28) ?hr ?_; (case hd => rfl); (case hg => rfl); (case hr => first | (go_simp; done) | (go_simp; rfl)); intro gb361 hg w13 hbox hb; have n0_ := Aside0.mk (below_step (zb HB.out) hb); have n1_ := Aside0.mk (hbox); have n2_ := Aside0.mk ((by rw [hg]; exact (below_size (zb HB.out)) : w.heap.size ≤ gb361)); have n3_ := Aside0.mk ((by rw [hg]; exact (below_size (zb HB.out)) : w.heap.size ≤ gb361)); clear HB; have HB := n0_; have BK361 := n1_; have GW361 := n2_; have GE361 := n3_; clear n0_ n1_ n2_ n3_ hb hbox hg) | ((with_reducible refine gate_callee (f := 33) rfl ?_); refine goesL_ (some 6) rfl rfl Try.func33 (by kernel_rfl) rfl #[.pointer (some ⟨gb361, 0, none⟩), .int .i64 a1] rfl zl ?_; (with_reducible refine (impl_Pool_isTerm.calls _ A0_0 c0_0 l0_0 a1 true _ ?side1 ?side2 ?side3 A3.out).mono ?_); (case side1 => exact zh BK361.out); (case side2 => exact zc (Kd.C_below HR0_0.out HB.out)); (case side3 => exact HC0_0.out); rintro e w14 ⟨rfl, hb⟩; refine ⟨_, rfl, ?_⟩; have n0_ := Aside0.mk (blk_below (zh BK361.out) hb); have n1_ := Aside0.mk (below_step (zb HB.out) hb); clear BK361 HB; have BK361 := n0_; have HB := n1_; clear n0_ n1_; (try clear hb); (try clear hb2); (try clear hk); (try clear hi); have hcz15_0 : w14.cell? ⟨gb361, 0, none⟩ = some (.slice A0_0 l0_0.length c0_0) := (blk_cell BK361.out 0).trans rfl; have hfz15_0 := blk_frozen BK361.out 0) | (go_at_call 32; (with_reducible refine (impl_PoolOk.calls _ _ l0_0 false _ ?side1 ?side2 A5.out).mono ?_); (case side1 => exact zc (Kd.C_below HR0_0.out HB.out)); (case side2 => exact HC0_0.out); rintro e w16 ⟨rfl, hb⟩; have n0_ := Aside0.mk (blk_below (zh BK361.out) hb); have n1_ := Aside0.mk (below_step (zb HB.out) hb); clear BK361 HB; have BK361 := n0_; have HB := n1_; clear n0_ n1_; (try clear hb); (try clear hb2); (try clear hk); (try clear hi)))
  go_ret
  exact ⟨ze, zb HB.out⟩
 subst c6
 have H1 : ((impl_Pool_size.f k l0_0 a1).bind fun t364 => (some t364)) = some r := by rw [if_pos rfl] at H; exact H
 clear H
 have H := H1
 clear H1
 replace H := Option.bind_eq_some_iff.mp H
 obtain ⟨t364, A70, H⟩ := H
 replace H : (some t364) = some r := H
 have A7 := Aside0.mk A70
 clear A70
 obtain rfl := Option.some.inj H
 go_enter Try.func20, Try.ntmps20
 go_wp2_with (first | ((with_reducible refine gate_dst (N := 2) rfl ?_); refine box_event ?hg (N := 2) ?hd (cs := #[.slice A0_0 l0_0.length c0_0]) (t := 28) ?hr ?_; (case hd => rfl); (case hg => rfl); (case hr => first | (go_simp; done) | (go_simp; rfl)); intro gb361 hg w8 hbox hb; have n0_ := Aside0.mk (below_step (zb HB.out) hb); have n1_ := Aside0.mk (hbox); have n2_ := Aside0.mk ((by rw [hg]; exact (below_size (zb HB.out)) : w.heap.size ≤ gb361)); have n3_ := Aside0.mk ((by rw [hg]; exact (below_size (zb HB.out)) : w.heap.size ≤ gb361)); clear HB; have HB := n0_; have BK361 := n1_; have GW361 := n2_; have GE361 := n3_; clear n0_ n1_ n2_ n3_ hb hbox hg) | ((with_reducible refine gate_callee (f := 33) rfl ?_); refine goesL_ (some 6) rfl rfl Try.func33 (by kernel_rfl) rfl #[.pointer (some ⟨gb361, 0, none⟩), .int .i64 a1] rfl zl ?_; (with_reducible refine (impl_Pool_isTerm.calls _ A0_0 c0_0 l0_0 a1 true _ ?side1 ?side2 ?side3 A3.out).mono ?_); (case side1 => exact zh BK361.out); (case side2 => exact zc (Kd.C_below HR0_0.out HB.out)); (case side3 => exact HC0_0.out); rintro e w9 ⟨rfl, hb⟩; refine ⟨_, rfl, ?_⟩; have n0_ := Aside0.mk (blk_below (zh BK361.out) hb); have n1_ := Aside0.mk (below_step (zb HB.out) hb); clear BK361 HB; have BK361 := n0_; have HB := n1_; clear n0_ n1_; (try clear hb); (try clear hb2); (try clear hk); (try clear hi); have hcz10_0 : w9.cell? ⟨gb361, 0, none⟩ = some (.slice A0_0 l0_0.length c0_0) := (blk_cell BK361.out 0).trans rfl; have hfz10_0 := blk_frozen BK361.out 0) | (go_at_call 32; (with_reducible refine (impl_PoolOk.calls _ _ l0_0 true _ ?side1 ?side2 A5.out).mono ?_); (case side1 => exact zc (Kd.C_below HR0_0.out HB.out)); (case side2 => exact HC0_0.out); rintro e w11 ⟨rfl, hb⟩; have n0_ := Aside0.mk (blk_below (zh BK361.out) hb); have n1_ := Aside0.mk (below_step (zb HB.out) hb); clear BK361 HB; have BK361 := n0_; have HB := n1_; clear n0_ n1_; (try clear hb); (try clear hb2); (try clear hk); (try clear hi)) | ((with_reducible refine gate_callee (f := 51) rfl ?_); refine goesL_ (some 14) rfl rfl Try.func51 (by kernel_rfl) rfl #[.pointer (some ⟨gb361, 0, none⟩), .int .i64 a1] rfl zl ?_; (with_reducible refine (impl_Pool_size.calls k _ A0_0 c0_0 l0_0 a1 t364 _ ?side1 ?side2 ?side3 A7.out).mono ?_); (case side1 => exact zh BK361.out); (case side2 => exact zc (Kd.C_below HR0_0.out HB.out)); (case side3 => exact HC0_0.out); rintro e w12 ⟨rfl, hb⟩; refine ⟨_, rfl, ?_⟩; have n0_ := Aside0.mk (blk_below (zh BK361.out) hb); have n1_ := Aside0.mk (below_step (zb HB.out) hb); clear BK361 HB; have BK361 := n0_; have HB := n1_; clear n0_ n1_; (try clear hb); (try clear hb2); (try clear hk); (try clear hi)))
 go_ret
 exact ⟨ze, zb HB.out⟩
end Go.Proofs.Ytobkledmbnacjaa.M
end

section
namespace Go.Proofs.Ytobkledmbnacjaa.M
open Go.RowKit Go.Proofs.YtobkledmbnacjaaW.PrintWords Go.Proofs.YtobkledmbnacjaaW.PrintLast Go.Proofs.YtobkledmbnacjaaW.PrintMore
attribute [local go_sem] max2_int min2_int max_two min_two max_three min_three max_four min_four   -- for this text's walks alone
set_option linter.unusedVariables false
set_option linter.unusedSimpArgs false
set_option maxRecDepth 100000

/-! ### impl_TermDeep: function 21 -/
mutual
def impl_TermDeep.j0 : Nat → Int → Bool → List (S55) → Option (Int)
 | 0, _, _, _ => none
 | k + 1, x1, x16, x366000 => if x16 = true then (some 0) else (if 0 ≤ (wrap64 (x1 + 1)) then (if (wrap64 (x1 + 1) : Int).toNat ≤ 35184372088832 then ((some (List.replicate (wrap64 (x1 + 1) : Int).toNat 0 : List Int)).bind fun y368 => (impl_TermDeep.l0 k x1 y368 (y368.length : Int) 0 x366000)) else (none)) else (none))
def impl_TermDeep.l0 : Nat → Int → List Int → Int → Int → List (S55) → Option (Int)
 | 0, _, _, _, _, _ => none
 | k + 1, x1, x5, x21, x22, x366000 => if x22 < x21 then (if 0 ≤ x22 then (if x22 < (x5.length : Int) then ((impl_Pool_parts.f k x366000 x22).bind fun t373 => (impl_TermDeep.l1 k x1 (x5.set (x22 : Int).toNat 1) x22 x21 x22 t373 (t373.length : Int) 0 x366000)) else (none)) else (none)) else (if 0 ≤ x1 then (if x1 < (x5.length : Int) then (some (rd x5 x1)) else (none)) else (none))
def impl_TermDeep.l1 : Nat → Int → List Int → Int → Int → Int → List Int → Int → Int → List (S55) → Option (Int)
 | 0, _, _, _, _, _, _, _, _, _ => none
 | k + 1, x1, x5, x6, x21, x22, x29, x30, x31, x366000 => if x31 < x30 then (if 0 ≤ x31 then (if x31 < (x29.length : Int) then (if 0 ≤ x6 then (if x6 < (x5.length : Int) then (if 0 ≤ (rd x29 x31) then (if (rd x29 x31) < (x5.length : Int) then (impl_TermDeep.l1 k x1 (x5.set (x6 : Int).toNat (mx (rd x5 x6) (wrap64 ((rd x5 (rd x29 x31)) + 1)))) x6 x21 x22 x29 x30 (wrap64 (x31 + 1)) x366000) else (none)) else (none)) else (none)) else (none)) else (none)) else (none)) else (impl_TermDeep.l0 k x1 x5 x21 (wrap64 (x22 + 1)) x366000)
end
def impl_TermDeep.f (k : Nat) (l0_0 : List (S55)) (a1 : Int) : Option (Int) := (impl_Pool_isTerm.f l0_0 a1).bind fun t366 => (if t366 = true then ((impl_PoolOk.f l0_0).bind fun t367 => (impl_TermDeep.j0 k a1 (!t367) l0_0)) else (impl_TermDeep.j0 k a1 true l0_0))
def impl_TermDeep.T11 : Bool × List (List Nat × List Nat) := (true, [([], []), ([], []), ([], []), ([], []), ([2, 3], [2, 3]), ([4], [4]), ([], []), ([], []), ([6, 7], [6, 7]), ([8], [8]), ([9], [9]), ([5, 10], [5, 10]), ([0, 1, 0, 1, 2, 3, 4, 5, 6, 7, 8, 9, 10, 11], [0, 1]), ([12, 11, 0, 1, 2, 3, 4, 5, 6, 7, 8, 9, 10, 11], [11, 12])])
def impl_TermDeep.B11 : List Nat := [0, 0, 0, 0, 12, 28, 0, 0, 192, 448, 960, 2044, 4095, 8191]
theorem impl_TermDeep.tab11 : rtab .any (opsOf Try.f21 11) = impl_TermDeep.T11 := by kernel_rfl
theorem impl_TermDeep.bits11 : waitsOk impl_TermDeep.T11.2 impl_TermDeep.B11 = true := by kernel_rfl
set_option maxHeartbeats 8000000 in
set_option maxRecDepth 100000 in
theorem impl_TermDeep.calls (k : Nat) (A0_0 : Option Addr) (c0_0 : Nat) (l0_0 : List (S55)) (a1 : Int) (r : Int) (w : World) (hr0_0 : Kd.C k55 w A0_0 l0_0.length l0_0) (hc0_0 : l0_0.length ≤ c0_0) (h : impl_TermDeep.f k l0_0 a1 = some r) :
  Calls Try.prog 21 #[.agg #[.slice A0_0 l0_0.length c0_0], .int .i64 a1] w fun e w' => e = .returned (.int .i64 r) ∧ Below w.heap.size w w' := by
 have hu28 := Try.underlying28
 have HR0_0 := Aside0.mk hr0_0
 have HC0_0 := Aside0.mk hc0_0
 clear hr0_0 hc0_0
 have HB := Aside0.mk (Below.refl w.heap.size w)
 have H : ((impl_Pool_isTerm.f l0_0 a1).bind fun t366 => (if t366 = true then ((impl_PoolOk.f l0_0).bind fun t367 => (impl_TermDeep.j0 k a1 (!t367) l0_0)) else (impl_TermDeep.j0 k a1 true l0_0))) = some r := h
 clear h
 have HC3 := Aside0.mk H
 clear H
 go_enter Try.func21, Try.ntmps21
 go_upto_region 1 with (first | ((with_reducible refine gate_dst (N := 2) rfl ?_); refine box_event ?hg (N := 2) ?hd (cs := #[.slice A0_0 l0_0.length c0_0]) (t := 28) ?hr ?_; (case hd => rfl); (case hg => rfl); (case hr => first | (go_simp; done) | (go_simp; rfl)); intro gb365 hg w4 hbox hb; have n0_ := Aside0.mk (below_step (zb HB.out) hb); have n1_ := Aside0.mk (hbox); have n2_ := Aside0.mk ((by rw [hg]; exact (below_size (zb HB.out)) : w.heap.size ≤ gb365)); have n3_ := Aside0.mk ((by rw [hg]; exact (below_size (zb HB.out)) : w.heap.size ≤ gb365)); clear HB; have HB := n0_; have BK365 := n1_; have GW365 := n2_; have GE365 := n3_; clear n0_ n1_ n2_ n3_ hb hbox hg))
 (try simp only [Act.put, List.setIfInBounds_toArray, List.set_cons_zero, List.set_cons_succ])
 go_cut [16] (fun v16 wc => ∃ (kq : Nat) (x16_2 : Bool), v16 = .bool x16_2 ∧ Aside0 (impl_TermDeep.j0 kq a1 x16_2 l0_0 = some r) ∧ Aside0 (kq ≤ k) ∧ Aside0 (wc.heap[gb365]? = some (.cells #[(.slice A0_0 l0_0.length c0_0)] 28 (0, 0))) ∧ Aside0 (Below w.heap.size w wc))
 case first =>
  have H := HC3.out
  clear HC3
  replace H := Option.bind_eq_some_iff.mp H
  obtain ⟨t366, A50, H⟩ := H
  replace H : (if t366 = true then ((impl_PoolOk.f l0_0).bind fun t367 => (impl_TermDeep.j0 k a1 (!t367) l0_0)) else (impl_TermDeep.j0 k a1 true l0_0)) = some r := H
  have A5 := Aside0.mk A50
  clear A50
  by_cases c6 : t366 = true
  rotate_left
  ·replace c6 := Bool.eq_false_iff.mpr c6
   subst c6
   have H1 : (impl_TermDeep.j0 k a1 true l0_0) = some r := by rw [if_neg (show ¬ (false = true) by decide)] at H; exact H
   clear H
   have H := H1
   clear H1
   have H' := Aside0.mk H
   clear H
   go_wp2_with (first | ((with_reducible refine gate_callee (f := 33) rfl ?_); refine goesL_ (some 10) rfl rfl Try.func33 (by kernel_rfl) rfl #[.pointer (some ⟨gb365, 0, none⟩), .int .i64 a1] rfl zl ?_; (with_reducible refine (impl_Pool_isTerm.calls _ A0_0 c0_0 l0_0 a1 false _ ?side1 ?side2 ?side3 A5.out).mono ?_); (case side1 => exact zh BK365.out); (case side2 => exact zc (Kd.C_below HR0_0.out HB.out)); (case side3 => exact HC0_0.out); rintro e w11 ⟨rfl, hb⟩; refine ⟨_, rfl, ?_⟩; have n0_ := Aside0.mk (blk_below (zh BK365.out) hb); have n1_ := Aside0.mk (below_step (zb HB.out) hb); clear BK365 HB; have BK365 := n0_; have HB := n1_; clear n0_ n1_; (try clear hb); (try clear hb2); (try clear hk); (try clear hi)))
   go_meet
   case rel => exact ⟨_, (true), (by first | rfl | (simp; done) | (simp [*]; done)), H', ⟨by first | omega | exact Nat.le_refl _⟩, ⟨zh BK365.out⟩, ⟨zb HB.out⟩⟩
  subst c6
  have H1 : ((impl_PoolOk.f l0_0).bind fun t367 => (impl_TermDeep.j0 k a1 (!t367) l0_0)) = some r := by rw [if_pos rfl] at H; exact H
  clear H
  have H := H1
  clear H1
  replace H := Option.bind_eq_some_iff.mp H
  obtain ⟨t367, A70, H⟩ := H
  replace H : (impl_TermDeep.j0 k a1 (!t367) l0_0) = some r := H
  have A7 := Aside0.mk A70
  clear A70
  have H' := Aside0.mk H
  clear H
  go_wp2_with (first | ((with_reducible refine gate_callee (f := 33) rfl ?_); refine goesL_ (some 10) rfl rfl Try.func33 (by kernel_rfl) rfl #[.pointer (some ⟨gb365, 0, none⟩), .int .i64 a1] rfl zl ?_; (with_reducible refine (impl_Pool_isTerm.calls _ A0_0 c0_0 l0_0 a1 true _ ?side1 ?side2 ?side3 A5.out).mono ?_); (case side1 => exact zh BK365.out); (case side2 => exact zc (Kd.C_below HR0_0.out HB.out)); (case side3 => exact HC0_0.out); rintro e w8 ⟨rfl, hb⟩; refine ⟨_, rfl, ?_⟩; have n0_ := Aside0.mk (blk_below (zh BK365.out) hb); have n1_ := Aside0.mk (below_step (zb HB.out) hb); clear BK365 HB; have BK365 := n0_; have HB := n1_; clear n0_ n1_; (try clear hb); (try clear hb2); (try clear hk); (try clear hi); have hcz9_0 : w8.cell? ⟨gb365, 0, none⟩ = some (.slice A0_0 l0_0.length c0_0) := (blk_cell BK365.out 0).trans rfl; have hfz9_0 := blk_frozen BK365.out 0) | (go_at_call 32; (with_reducible refine (impl_PoolOk.calls _ _ l0_0 t367 _ ?side1 ?side2 A7.out).mono ?_); (case side1 => exact zc (Kd.C_below HR0_0.out HB.out)); (case side2 => exact HC0_0.out); rintro e w10 ⟨rfl, hb⟩; have n0_ := Aside0.mk (blk_below (zh BK365.out) hb); have n1_ := Aside0.mk (below_step (zb HB.out) hb); clear BK365 HB; have BK365 := n0_; have HB := n1_; clear n0_ n1_; (try clear hb); (try clear hb2); (try clear hk); (try clear hi)))
  go_meet
  case rel => exact ⟨_, (!t367), (by first | rfl | (simp; done) | (simp [*]; done)), H', ⟨by first | omega | exact Nat.le_refl _⟩, ⟨zh BK365.out⟩, ⟨zb HB.out⟩⟩
 case rest =>
  clear HC3
  try clear c2
  try clear p2
  try clear c3
  try clear c6
  try clear hcz9_0
  try clear hfz9_0
  obtain ⟨kq, x16_2, rfl, HA, HJ2, BK365, HB⟩ := hcut
  cases kq with
  | zero => exact absurd HA.out (by simp [impl_TermDeep.j0])
  | succ kj2 =>
   have H := HA.out
   clear HA
   simp only [impl_TermDeep.j0] at H
   by_cases c12 : x16_2 = true
   ·subst c12
    have H1 : (some 0) = some r := by rw [if_pos rfl] at H; exact H
    clear H
    have H := H1
    clear H1
    obtain rfl := Option.some.inj H
    go_wp2
    go_ret
    exact ⟨ze, zb HB.out⟩
   replace c12 := Bool.eq_false_iff.mpr c12
   subst c12
   have H1 : (if 0 ≤ (wrap64 (a1 + 1)) then (if (wrap64 (a1 + 1) : Int).toNat ≤ 35184372088832 then ((some (List.replicate (wrap64 (a1 + 1) : Int).toNat 0 : List Int)).bind fun y368 => (impl_TermDeep.l0 kj2 a1 y368 (y368.length : Int) 0 l0_0)) else (none)) else (none)) = some r := by rw [if_neg (show ¬ (false = true) by decide)] at H; exact H
   clear H
   have H := H1
   clear H1
   obtain ⟨ji13, hji13⟩ : ∃ j_ : Int, (wrap64 (a1 + 1)) = j_ := ⟨_, rfl⟩
   replace H : (if 0 ≤ (ji13) then (if (ji13 : Int).toNat ≤ 35184372088832 then ((some (List.replicate (ji13 : Int).toNat 0 : List Int)).bind fun y368 => (impl_TermDeep.l0 kj2 a1 y368 (y368.length : Int) 0 l0_0)) else (none)) else (none)) = some r := by first | (rw [hji13] at H; exact H) | (simp only [hji13] at H ⊢; exact H)
   have hji13w : (IntKind.i64.wrap (a1 + 1)) = ji13 := (i64_w _).trans hji13
   by_cases c14 : 0 ≤ (ji13)
   rotate_left
   ·rw [if_neg c14] at H
    exact absurd H (by simp)

   rw [if_pos c14] at H
   have c14b0 := eq_true c14
   have c14b1 : decide (0 ≤ (ji13)) = true := decide_eq_true c14
   clear c14
   by_cases c15 : (ji13 : Int).toNat ≤ 35184372088832
   rotate_left
   ·rw [if_neg c15] at H
    exact absurd H (by simp)
   rw [if_pos c15] at H
   have c15b0 := eq_true c15
   have c15b1 : decide ((ji13 : Int).toNat ≤ 35184372088832) = true := decide_eq_true c15
   clear c15
   obtain ⟨y368, hy368⟩ : ∃ y_ : List Int, y_ = (List.replicate (ji13 : Int).toNat 0) := ⟨_, rfl⟩
   replace H : (impl_TermDeep.l0 kj2 a1 y368 (y368.length : Int) 0 l0_0) = some r := by first | (rw [hy368]; with_reducible exact H) | (have H2_ := (Option.bind_some _ _).symm.trans H; rw [hy368]; with_reducible exact H2_) | (have H2_ := (Option.bind_some _ _).symm.trans H; with_reducible exact H2_) | with_reducible exact H | (rw [hy368]; exact H) | exact H
   have Ny368 := Aside0.mk hy368
   clear hy368
   have H' := Aside0.mk H
   clear H
   go_wp2_with (first | ((with_reducible refine gate_dst (N := 19) rfl ?_); refine Kd.R_make (Kd.int .i64) _ 3 rfl (N := 19) rfl 45 _ _ rfl ji13 rfl rfl Try.underlying45 (.int .i64 0) 8 info3 rfl (by decide) (by omega) 0 (ok := fun _ => True) (okp := fun _ => True) rfl (fun _ hk => hk) trivial (of_decide_eq_true (by first | (with_reducible assumption) | assumption)) (Nat.le_trans (Nat.mul_le_mul_right _ (of_decide_eq_true (by first | (with_reducible assumption) | assumption) : ji13.toNat ≤ 35184372088832)) (by omega)) (Below.refl _ _) (Nat.le_refl _) ?_; intro v369 w16 ho17 hb hg_ hnew_; clear hg_ hnew_; (first | rw [← Ny368.out] at ho17 | (simp only [Int.reduceToNat] at ho17; rw [← Ny368.out] at ho17)); have n0_ := Aside0.mk (Kd.R_lower ho17 (below_size (zb HB.out))); have n1_ := Aside0.mk (blk_below (zh BK365.out) hb); have n2_ := Aside0.mk (below_step (zb HB.out) hb); clear BK365 HB; have HO370 := n0_; have BK365 := n1_; have HB := n2_; clear n0_ n1_ n2_ hb ho17; obtain ⟨Ao18, co18, eo18⟩ := Kd.R_slice HO370.out; subst eo18))
   go_loopg [22] kj2 (fun kq v22 w' => ∃ (x5_2 : List Int) (x22_2 : Int), v22 = .int .i64 x22_2 ∧ Aside0 (impl_TermDeep.l0 kq a1 x5_2 (y368.length : Int) x22_2 l0_0 = some r) ∧ Aside0 (kq ≤ kj2) ∧ Aside0 (Kd.R (Kd.int .i64) 3 w' w.heap.size (fun _ => True) (.slice Ao18 y368.length co18) x5_2) ∧ Aside0 (w'.heap[gb365]? = some (.cells #[(.slice A0_0 l0_0.length c0_0)] 28 (0, 0))) ∧ Aside0 (Below w.heap.size w w'))
   case atStart => exact ⟨(y368), (0), (by first | rfl | (simp; done) | (simp [*]; done)), H', ⟨Nat.le_refl _⟩, ⟨zr HO370.out⟩, ⟨zh BK365.out⟩, ⟨zb HB.out⟩⟩
   case round =>
    clear H'
    try clear c1
    try clear c2
    try clear p2
    try clear c3
    try clear c6
    try clear p6
    try clear c12
    try clear c14
    try clear c14b0
    try clear c14b1
    try clear c15
    try clear c15b0
    try clear c15b1
    try clear hcz9_0
    try clear hfz9_0
    try clear p2
    obtain ⟨x5_2, x22_2, rfl, HA, HK2, HO_5, BK365, HB⟩ := hrel
    have hl5_2 := (Kd.R_reads' HO_5.out).1
    rw [hl5_2] at HO_5
    (try simp only [hl5_2])
    (try simp only [hl5_2] at BK365)
    cases gk with
    | zero => exact absurd HA.out (by simp [impl_TermDeep.l0])
    | succ k2 =>
     have H := HA.out
     clear HA
     simp only [impl_TermDeep.l0] at H
     by_cases c19 : x22_2 < (y368.length : Int)
     rotate_left
     ·rw [if_neg c19] at H
      have c19b0 : decide (x22_2 < (y368.length : Int)) = false := decide_eq_false c19
      (try (have c19b0h := c19b0; simp only [hl5_2] at c19b0h))
      clear c19
      by_cases c39 : 0 ≤ a1
      rotate_left
      ·rw [if_neg c39] at H
       exact absurd H (by simp)
      rw [if_pos c39] at H
      have c39b0 : decide (0 ≤ a1) = true := decide_eq_true c39
      clear c39
      by_cases c40 : a1 < (x5_2.length : Int)
      rotate_left
      ·rw [if_neg c40] at H
       exact absurd H (by simp)
      rw [if_pos c40] at H
      have c40b0 : decide (a1 < (x5_2.length : Int)) = true := decide_eq_true c40
      (try (have c40b0h := c40b0; simp only [hl5_2] at c40b0h))
      clear c40
      obtain rfl := Option.some.inj H
      have p371 : 0 ≤ (a1 : Int) := of_decide_eq_true (by first | (with_reducible assumption) | assumption)
      have q371 : a1 < (x5_2.length : Int) := of_decide_eq_true (by first | (with_reducible assumption) | assumption)
      obtain ⟨ad371, e371, hx371_0⟩ := Kd.at_int (Kd.R_reads' HO_5.out).2.2 a1 p371 q371
      cases e371
      replace p371 := eq_true p371
      replace q371 := eq_true q371
      go_wp2
      go_ret
      exact ⟨by first | rfl | (simp [errW_none, errW_some] <;> rfl) | (simp only [← hji13]; first | rfl | (simp [errW_none, errW_some] <;> rfl)) | (simp [*, errW_none, errW_some] <;> rfl), zb HB.out⟩
     rw [if_pos c19] at H
     have c19b0 : decide (x22_2 < (y368.length : Int)) = true := decide_eq_true c19
     (try (have c19b0h := c19b0; simp only [hl5_2] at c19b0h))
     clear c19
     by_cases c20 : 0 ≤ x22_2
     rotate_left
     ·rw [if_neg c20] at H
      exact absurd H (by simp)
     rw [if_pos c20] at H
     have c20b0 : decide (0 ≤ x22_2) = true := decide_eq_true c20
     clear c20
     by_cases c21 : x22_2 < (x5_2.length : Int)
     rotate_left
     ·rw [if_neg c21] at H
      exact absurd H (by simp)
     rw [if_pos c21] at H
     have c21b0 : decide (x22_2 < (x5_2.length : Int)) = true := decide_eq_true c21
     (try (have c21b0h := c21b0; simp only [hl5_2] at c21b0h))
     clear c21
     obtain ⟨y372, hy372⟩ : ∃ y_ : List Int, y_ = (x5_2.set (x22_2 : Int).toNat 1) := ⟨_, rfl⟩
     replace H : ((impl_Pool_parts.f k2 l0_0 x22_2).bind fun t373 => (impl_TermDeep.l1 k2 a1 y372 x22_2 (y368.length : Int) x22_2 t373 (t373.length : Int) 0 l0_0)) = some r := by first | (rw [hy372]; with_reducible exact H) | (have H2_ := (Option.bind_some _ _).symm.trans H; rw [hy372]; with_reducible exact H2_) | (have H2_ := (Option.bind_some _ _).symm.trans H; with_reducible exact H2_) | with_reducible exact H | (rw [hy372]; exact H) | exact H
     have Ny372 := Aside0.mk hy372
     clear hy372
     replace H := Option.bind_eq_some_iff.mp H
     obtain ⟨t373, A230, H⟩ := H
     replace H : (impl_TermDeep.l1 k2 a1 y372 x22_2 (y368.length : Int) x22_2 t373 (t373.length : Int) 0 l0_0) = some r := H
     have A23 := Aside0.mk A230
     clear A230
     have H' := Aside0.mk H
     clear H
     have p22 : 0 ≤ (x22_2 : Int) := of_decide_eq_true (by first | (with_reducible assumption) | assumption)
     have q22 : (x22_2 : Int) < ((x5_2.length : Int) : Int) := of_decide_eq_true (by first | (with_reducible assumption) | assumption)
     obtain ⟨go22, co22, eo22, gb22, gl22, cl22, HG22⟩ := Kd.R_form HO_5.out (by omega)
     (first | cases eo22 | (injection eo22 with ea_ en_ ec_; (first | subst ea_ | (injection ea_ with ea_; subst ea_)); subst ec_; clear en_))
     have GB22 := Aside0.mk gb22
     have GG22 := Aside0.mk HG22
     clear gb22 gl22 HG22
     obtain ⟨hx22_0, hf22_0⟩ := Kd.R_celln 0 HO_5.out (x22_2 : Int) p22 q22
     replace p22 := eq_true p22
     replace q22 := eq_true q22
     have HP24 := Kd.R_putg HO_5.out (x22_2 : Int) 1
     go_wp2_with (first | ((with_reducible refine gate_store (t := 3) (p := 27) rfl ?_); refine store_event (t := 3) (p := 27) (v := ?vo_w25) (w1 := (wr.setCell ⟨go22, (x22_2 : Int).toNat, none⟩ (.int .i64 1))) ?hg ?ho ?hn ?hr ?_; (case ho => rfl); (case hg => rfl); (case hn => rfl); (case hr => first | (go_simp; done) | (go_simp; rfl)); intro w25 hw; have hg : wr.grownBy w25 (some go22) := (by rw [hw]; exact HP24.2); have hp_ : Kd.R (Kd.int .i64) 3 w25 w.heap.size (fun _ => True) (.slice (some ⟨go22, 0, none⟩) x5_2.length co18) y372 := (by rw [hw, Ny372.out]; exact HP24.1); clear HP24; have n0_ := Aside0.mk (hp_); have n1_ := Aside0.mk (blk_grown (zh BK365.out) hg (Kd.R_ne HO_5.out BK365.out (by decide))); have n2_ := Aside0.mk ((by rw [hw]; exact below_set (HB.out) GB22.out : Below w.heap.size w w25)); clear HO_5 BK365 HB; have HO_5 := n0_; have BK365 := n1_; have HB := n2_; clear n0_ n1_ n2_ hg hw hp_) | ((with_reducible refine gate_callee (f := 52) rfl ?_); refine goesL_ (some 29) rfl rfl Try.func52 (by kernel_rfl) rfl #[.pointer (some ⟨gb365, 0, none⟩), .int .i64 x22_2] rfl zl ?_; (with_reducible refine (impl_Pool_parts.calls k2 _ A0_0 c0_0 l0_0 x22_2 t373 _ ?side1 ?side2 ?side3 A23.out).mono ?_); (case side1 => exact zh BK365.out); (case side2 => exact zc (Kd.C_below HR0_0.out HB.out)); (case side3 => exact HC0_0.out); rintro e w26 ⟨v374, rfl, ho0, hb⟩; refine ⟨_, rfl, ?_⟩; have n0_ := Aside0.mk (Kd.R_elder' (zr HO_5.out) (Kd.R_base ho0) hb); have n1_ := Aside0.mk (Kd.R_lower (Kd.R_new' ho0 (Kd.R_lt (zr HO_5.out))) (below_size (zb HB.out))); have n2_ := Aside0.mk (blk_below (zh BK365.out) hb); have n3_ := Aside0.mk (below_step (zb HB.out) hb); clear HO_5 BK365 HB; have HO_5 := n0_; have HO375 := n1_; have BK365 := n2_; have HB := n3_; clear n0_ n1_ n2_ n3_; (try clear hb); (try clear hb2); (try clear hk); (try clear hi); (try clear ho0); obtain ⟨Ao27, co27, eo27⟩ := Kd.R_slice HO375.out; subst eo27))
     go_loopg [31] k2 (fun kq v31 w' => ∃ (x5_3 : List Int) (x31_3 : Int), v31 = .int .i64 x31_3 ∧ Aside0 (impl_TermDeep.l1 kq a1 x5_3 x22_2 (y368.length : Int) x22_2 t373 (t373.length : Int) x31_3 l0_0 = some r) ∧ Aside0 (kq ≤ k2) ∧ Aside0 (Kd.R (Kd.int .i64) 3 w' w.heap.size (fun k_ => some k_ ≠ ((.slice Ao27 t373.length co27) : Value).ownBlock) (.slice (some ⟨go22, 0, none⟩) x5_2.length co18) x5_3) ∧ Aside0 (Kd.R (Kd.int .i64) 3 w' w.heap.size (fun k_ => some k_ ≠ ((.slice (some ⟨go22, 0, none⟩) x5_2.length co18) : Value).ownBlock) (.slice Ao27 t373.length co27) t373) ∧ Aside0 (w'.heap[gb365]? = some (.cells #[(.slice A0_0 l0_0.length c0_0)] 28 (0, 0))) ∧ Aside0 (Below w.heap.size w w'))
     case atStart => exact ⟨(y372), (0), (by first | rfl | (simp; done) | (simp [*]; done)), H', ⟨Nat.le_refl _⟩, ⟨by (try simp only [hl5_2]); (with_reducible repeat (first | apply Kd.R_alloc | apply Kd.R_drewN | apply Kd.R_drew)); exact Kd.R_mono HO_5.out (fun _ hk => hk.2)⟩, ⟨by (try simp only [hl5_2]); (with_reducible repeat (first | apply Kd.R_alloc | apply Kd.R_drewN | apply Kd.R_drew)); exact Kd.R_mono HO375.out (fun _ hk => hk.2)⟩, ⟨by (try simp only [hl5_2]); (with_reducible repeat (first | refine blk_drewN ?_ _ | refine blk_drew ?_ | refine blk_alloc ?_ _)); exact BK365.out⟩, ⟨zb HB.out⟩⟩
     case round =>
      clear H'
      try clear c1
      try clear c2
      try clear p2
      try clear q2
      try clear hx2
      try clear hf2
      try clear c3
      try clear c5
      try clear c6
      try clear p6
      try clear c12
      try clear c14
      try clear c14b0
      try clear c14b1
      try clear c15
      try clear c15b0
      try clear c15b1
      try clear c19
      try clear c19b0
      try clear c20
      try clear c20b0
      try clear c21
      try clear c21b0
      try clear p22
      try clear q22
      try clear hx22
      try clear hf22
      try clear hcz9_0
      try clear hfz9_0
      try clear hx22_0
      try clear p2
      try clear p22
      try clear p6
      try clear q22
      obtain ⟨x5_3, x31_3, rfl, HA, HK3, HO_5, HO_29, BK365, HB⟩ := hrel
      have hl5_3 := (Kd.R_reads' HO_5.out).1
      rw [hl5_3] at HO_5
      (try simp only [hl5_3])
      (try simp only [hl5_3] at BK365)
      (try simp only [hl5_3] at HO_29)
      cases gk with
      | zero => exact absurd HA.out (by simp [impl_TermDeep.l1])
      | succ k3 =>
       have H := HA.out
       clear HA
       simp only [impl_TermDeep.l1] at H
       by_cases c28 : x31_3 < (t373.length : Int)
       rotate_left
       ·rw [if_neg c28] at H
        have c28b0 : decide (x31_3 < (t373.length : Int)) = false := decide_eq_false c28
        (try (have c28b0h := c28b0; simp only [hl5_2, hl5_3] at c28b0h))
        clear c28
        have H' := Aside0.mk H
        clear H
        go_wp2
        (try simp only [← hl5_2, ← hl5_3])
        go_roundg k3
        case measure => have := HJ2.out; have := HK2.out; have := HK3.out; omega
        case rel => exact ⟨(x5_3), (wrap64 (x22_2 + 1)), (by first | rfl | (simp; done) | (simp [*]; done)), H', ⟨by have := HJ2.out; have := HK2.out; have := HK3.out; omega⟩, ⟨by (try simp only [hl5_2]); (try simp only [hl5_3]); (with_reducible repeat (first | apply Kd.R_alloc | apply Kd.R_drewN | apply Kd.R_drew)); exact Kd.R_mono HO_5.out (fun _ hk => trivial)⟩, ⟨by (try simp only [hl5_2]); (try simp only [hl5_3]); (with_reducible repeat (first | refine blk_drewN ?_ _ | refine blk_drew ?_ | refine blk_alloc ?_ _)); exact BK365.out⟩, ⟨zb HB.out⟩⟩
       rw [if_pos c28] at H
       have c28b0 : decide (x31_3 < (t373.length : Int)) = true := decide_eq_true c28
       (try (have c28b0h := c28b0; simp only [hl5_2, hl5_3] at c28b0h))
       clear c28
       by_cases c29 : 0 ≤ x31_3
       rotate_left
       ·rw [if_neg c29] at H
        exact absurd H (by simp)
       rw [if_pos c29] at H
       have c29b0 : decide (0 ≤ x31_3) = true := decide_eq_true c29
       clear c29
       by_cases c30 : x31_3 < (t373.length : Int)
       rotate_left
       ·rw [if_neg c30] at H
        exact absurd H (by simp)
       rw [if_pos c30] at H
       have c30b0 : decide (x31_3 < (t373.length : Int)) = true := decide_eq_true c30
       (try (have c30b0h := c30b0; simp only [hl5_2, hl5_3] at c30b0h))
       clear c30
       by_cases c31 : 0 ≤ x22_2
       rotate_left
       ·rw [if_neg c31] at H
        exact absurd H (by simp)
       rw [if_pos c31] at H
       have c31b0 : decide (0 ≤ x22_2) = true := decide_eq_true c31
       clear c31
       by_cases c32 : x22_2 < (x5_3.length : Int)
       rotate_left
       ·rw [if_neg c32] at H
        exact absurd H (by simp)
       rw [if_pos c32] at H
       have c32b0 : decide (x22_2 < (x5_3.length : Int)) = true := decide_eq_true c32
       (try (have c32b0h := c32b0; simp only [hl5_2, hl5_3] at c32b0h))
       clear c32
       by_cases c33 : 0 ≤ (rd t373 x31_3)
       rotate_left
       ·rw [if_neg c33] at H
        exact absurd H (by simp)
       rw [if_pos c33] at H
       have c33b0 : decide (0 ≤ (rd t373 x31_3)) = true := decide_eq_true c33
       clear c33
       by_cases c34 : (rd t373 x31_3) < (x5_3.length : Int)
       rotate_left
       ·rw [if_neg c34] at H
        exact absurd H (by simp)
       rw [if_pos c34] at H
       have c34b0 : decide ((rd t373 x31_3) < (x5_3.length : Int)) = true := decide_eq_true c34
       (try (have c34b0h := c34b0; simp only [hl5_2, hl5_3] at c34b0h))
       clear c34
       obtain ⟨ji35, hji35⟩ : ∃ j_ : Int, (mx (rd x5_3 x22_2) (wrap64 ((rd x5_3 (rd t373 x31_3)) + 1))) = j_ := ⟨_, rfl⟩
       replace H : (impl_TermDeep.l1 k3 a1 (x5_3.set (x22_2 : Int).toNat (ji35)) x22_2 (y368.length : Int) x22_2 t373 (t373.length : Int) (wrap64 (x31_3 + 1)) l0_0) = some r := by first | (rw [hji35] at H; exact H) | (simp only [hji35] at H ⊢; exact H)
       have hji35_ : (if (rd x5_3 x22_2) < (wrap64 ((rd x5_3 (rd t373 x31_3)) + 1)) then (wrap64 ((rd x5_3 (rd t373 x31_3)) + 1)) else (rd x5_3 x22_2)) = ji35 := hji35
       obtain ⟨y379, hy379⟩ : ∃ y_ : List Int, y_ = (x5_3.set (x22_2 : Int).toNat (ji35)) := ⟨_, rfl⟩
       replace H : (impl_TermDeep.l1 k3 a1 y379 x22_2 (y368.length : Int) x22_2 t373 (t373.length : Int) (wrap64 (x31_3 + 1)) l0_0) = some r := by first | (rw [hy379]; with_reducible exact H) | (have H2_ := (Option.bind_some _ _).symm.trans H; rw [hy379]; with_reducible exact H2_) | (have H2_ := (Option.bind_some _ _).symm.trans H; with_reducible exact H2_) | with_reducible exact H | (rw [hy379]; exact H) | exact H
       have Ny379 := Aside0.mk hy379
       clear hy379
       have H' := Aside0.mk H
       clear H
       have p376 : 0 ≤ (x31_3 : Int) := of_decide_eq_true (by first | (with_reducible assumption) | assumption)
       have q376 : x31_3 < (t373.length : Int) := of_decide_eq_true (by first | (with_reducible assumption) | assumption)
       obtain ⟨ad376, e376, hx376_0⟩ := Kd.at_int (Kd.R_reads' HO_29.out).2.2 x31_3 p376 q376
       cases e376
       replace p376 := eq_true p376
       replace q376 := eq_true q376
       try go_wp2
       have n0_ := Aside0.mk (Kd.R_drew HO_5.out)
       have n1_ := Aside0.mk (Kd.R_drew HO_29.out)
       have n2_ := Aside0.mk (blk_drew BK365.out)
       have n3_ := Aside0.mk (below_drew1 HB.out)
       clear HO_5 HO_29 BK365 HB
       have HO_5 := n0_
       have HO_29 := n1_
       have BK365 := n2_
       have HB := n3_
       clear n0_ n1_ n2_ n3_
       have p377 : 0 ≤ (x22_2 : Int) := of_decide_eq_true (by first | (with_reducible assumption) | assumption)
       have q377 : x22_2 < (x5_3.length : Int) := of_decide_eq_true (by first | (with_reducible assumption) | assumption)
       obtain ⟨ad377, e377, hx377_0⟩ := Kd.at_int (Kd.R_reads' HO_5.out).2.2 x22_2 p377 q377
       obtain rfl : (⟨go22, 0, none⟩ : Addr) = ad377 := (by injection e377)
       (first | simp only [add_plain] at hx377_0 | simp only [add_at] at hx377_0 | simp only [Addr.add, Nat.zero_add] at hx377_0 | skip)
       replace p377 := eq_true p377
       replace q377 := eq_true q377
       have p378 : 0 ≤ ((rd t373 x31_3) : Int) := of_decide_eq_true (by first | (with_reducible assumption) | assumption)
       have q378 : (rd t373 x31_3) < (x5_3.length : Int) := of_decide_eq_true (by first | (with_reducible assumption) | assumption)
       obtain ⟨ad378, e378, hx378_0⟩ := Kd.at_int (Kd.R_reads' HO_5.out).2.2 (rd t373 x31_3) p378 q378
       obtain rfl : (⟨go22, 0, none⟩ : Addr) = ad378 := (by injection e378)
       (first | simp only [add_plain] at hx378_0 | simp only [add_at] at hx378_0 | simp only [Addr.add, Nat.zero_add] at hx378_0 | skip)
       replace p378 := eq_true p378
       replace q378 := eq_true q378
       have p36 : 0 ≤ (x22_2 : Int) := of_decide_eq_true (by first | (with_reducible assumption) | assumption)
       have q36 : (x22_2 : Int) < ((x5_3.length : Int) : Int) := of_decide_eq_true (by first | (with_reducible assumption) | assumption)
       obtain ⟨hx36_0, hf36_0⟩ := Kd.R_celln 0 HO_5.out (x22_2 : Int) p36 q36
       replace p36 := eq_true p36
       replace q36 := eq_true q36
       have HP38 := Kd.R_putn HO_5.out (x22_2 : Int) ji35
       rw [← Ny379.out] at HP38
       have HQ38 := Aside0.mk HP38
       clear HP38
       refine start_ (n := 14) (S := fun w' => w'.cell? ⟨go22, (x22_2).toNat, none⟩ = some (.int .i64 (rd x5_3 x22_2)) ∧ w'.cell? ⟨go22, ((rd t373 x31_3)).toNat, none⟩ = some (.int .i64 (rd x5_3 (rd t373 x31_3)))) (ds := [13]) #[false, false, false, false, false, false, false, false, false, false, false, false, false, false] (by kernel_rfl) rfl rfl ⟨hx377_0, hx378_0⟩ (fun hHeld => ?_); refine with_tabW impl_TermDeep.tab11 impl_TermDeep.bits11 (fun HT_ HW_ => ?_)
       generalize wr.drew = w37 at HO_5 HO_29 BK365 HB HQ38 hf36_0 hx36_0 hx377_0 hx378_0 hHeld ⊢
       refine pure_ (i := 0) (N := some 35) (v := ?_) (a' := ?_) (zB 14 1) rfl rfl (any_of HT_.out (by kernel_rfl)) (fun _ _ _ h => h) (Or.inl ⟨by rfl, ?_⟩) ?_ ?_
       rotate_left
       ·intro w'
        go_simp
        with_reducible rfl
       rotate_left
       ·exact zn
       refine pure_ (i := 1) (N := some 36) (v := ?_) (a' := ?_) (zB 14 3) rfl rfl (any_of HT_.out (by kernel_rfl)) (fun _ _ _ h => h) (Or.inl ⟨by rfl, ?_⟩) ?_ ?_
       rotate_left
       ·intro w'
        go_simp
        with_reducible rfl
       rotate_left
       ·exact zn
       refine pure_ (i := 2) (N := some 37) (v := ?_) (a' := ?_) (zB 14 7) rfl rfl (any_of HT_.out (by kernel_rfl)) (fun _ _ _ h => h) (Or.inl ⟨by rfl, ?_⟩) ?_ ?_
       rotate_left
       ·intro w'
        go_simp
        with_reducible rfl
       rotate_left
       ·exact zn
       refine pure_ (i := 3) (N := some 38) (v := ?_) (a' := ?_) (zB 14 15) rfl rfl (any_of HT_.out (by kernel_rfl)) (fun _ _ _ h => h) (Or.inl ⟨by rfl, ?_⟩) ?_ ?_
       rotate_left
       ·intro w'
        go_simp
        with_reducible rfl
       rotate_left
       ·exact zn
       refine pure_ (i := 4) (N := some 39) (v := ?_) (a' := ?_) (zB 14 31) rfl rfl (any_of HT_.out (by kernel_rfl)) (fun _ _ _ h => h) (Or.inl ⟨by rfl, ?_⟩) ?_ ?_
       rotate_left
       ·intro w'
        go_simp
        with_reducible rfl
       rotate_left
       ·exact zn
       refine pure_ (i := 6) (N := some 41) (v := ?_) (a' := ?_) (zB 14 95) rfl rfl (any_of HT_.out (by kernel_rfl)) (fun _ _ _ h => h) (Or.inl ⟨by rfl, ?_⟩) ?_ ?_
       rotate_left
       ·intro w'
        go_simp
        with_reducible rfl
       rotate_left
       ·exact zn
       refine pure_ (i := 7) (N := some 42) (v := ?_) (a' := ?_) (zB 14 223) rfl rfl (any_of HT_.out (by kernel_rfl)) (fun _ _ _ h => h) (Or.inl ⟨by rfl, ?_⟩) ?_ ?_
       rotate_left
       ·intro w'
        go_simp
        with_reducible rfl
       rotate_left
       ·exact zn
       refine pure_ (i := 8) (N := some 43) (v := ?_) (a' := ?_) (zB 14 479) rfl rfl (any_of HT_.out (by kernel_rfl)) (fun _ _ _ h => h) (Or.inl ⟨by rfl, ?_⟩) ?_ ?_
       rotate_left
       ·intro w'
        go_simp
        with_reducible rfl
       rotate_left
       ·exact zn
       refine take_ (i := 5) (N := some 40) (v := ?_) (a' := ?_) (zB 14 511) rfl rfl (take_ofW HT_.out HW_.out (by kernel_rfl)) (fun _ _ _ h => h) (Or.inl ⟨by rfl, ?_⟩) hHeld ?_ ?_
       rotate_left
       ·rintro w' ⟨s0, s1⟩
        go_simp
        with_reducible rfl
       rotate_left
       ·exact zn
       refine take_ (i := 9) (N := some 44) (v := ?_) (a' := ?_) (zB 14 1023) rfl rfl (take_ofW HT_.out HW_.out (by kernel_rfl)) (fun _ _ _ h => h) (Or.inl ⟨by rfl, ?_⟩) hHeld ?_ ?_
       rotate_left
       ·rintro w' ⟨s0, s1⟩
        go_simp
        with_reducible rfl
       rotate_left
       ·exact zn
       refine pure_ (i := 10) (N := some 45) (v := ?_) (a' := ?_) (zB 14 2047) rfl rfl (any_of HT_.out (by kernel_rfl)) (fun _ _ _ h => h) (Or.inl ⟨by rfl, ?_⟩) ?_ ?_
       rotate_left
       ·intro w'
        go_simp
        with_reducible rfl
       rotate_left
       ·exact zn
       refine pure_ (i := 11) (N := some 46) (v := ?_) (a' := ?_) (zB 14 4095) rfl rfl (any_of HT_.out (by kernel_rfl)) (fun _ _ _ h => h) (Or.inl ⟨by rfl, ?_⟩) ?_ ?_
       rotate_left
       ·intro w'
        go_simp
        with_reducible rfl
       rotate_left
       ·exact zn
       refine pure_ (i := 12) (N := some 47) (v := ?_) (a' := ?_) (zB 14 8191) rfl rfl (any_of HT_.out (by kernel_rfl)) (fun _ _ _ h => h) (Or.inl ⟨by rfl, ?_⟩) ?_ ?_
       rotate_left
       ·intro w'
        go_simp
        with_reducible rfl
       rotate_left
       ·exact zn
       refine last_ (i := 13) (N := none) (zB 14 16383) rfl rfl (one_of HT_.out (by kernel_rfl)) (by decide) (fun K hK => ?_)
       refine skip_ (w1 := ?_) (by rfl) rfl ?_ ?_
       rotate_left
       ·go_simp
        rfl
       refine hK.out _ _ ?_
       clear hK K
       refine done_ (done_of HT_.out (by kernel_rfl)) ?_
       try go_wp2
       (try simp only [← hl5_3])
       go_roundg k3
       case measure => have := HJ2.out; have := HK2.out; have := HK3.out; omega
       case rel => exact ⟨(y379), (wrap64 (x31_3 + 1)), (by first | rfl | (simp; done) | (simp [*]; done)), H', ⟨by have := HJ2.out; have := HK2.out; have := HK3.out; omega⟩, ⟨by (try simp only [hl5_2]); (try simp only [hl5_3]); (with_reducible repeat (first | apply Kd.R_alloc | apply Kd.R_drewN | apply Kd.R_drew)); exact HQ38.out⟩, ⟨by (try simp only [hl5_2]); (try simp only [hl5_3]); (with_reducible repeat (first | apply Kd.R_alloc | apply Kd.R_drewN | apply Kd.R_drew)); exact Kd.R_mono (Kd.R_far (p := ⟨go22, (x22_2 : Int).toNat, none⟩) (Kd.R_mono HO_29.out (fun k_ hk => (⟨hk, fun e_ => hk (by rw [e_]; rfl)⟩ : _ ∧ k_ ≠ go22))) (fun _ hk => hk.2) (.int .i64 ji35)) (fun _ hk => hk.1)⟩, ⟨by (try simp only [hl5_2]); (try simp only [hl5_3]); (with_reducible repeat (first | refine blk_drewN ?_ _ | refine blk_drew ?_ | refine blk_alloc ?_ _)); refine blk_far ?_ (by have h_ := Kd.R_ne HO_5.out BK365.out (by decide); intro e_; exact h_ (by rw [e_]; rfl)) _; (with_reducible repeat (first | refine blk_drewN ?_ _ | refine blk_drew ?_ | refine blk_alloc ?_ _)); exact BK365.out⟩, ⟨zb HB.out⟩⟩
end Go.Proofs.Ytobkledmbnacjaa.M
end

section
namespace Go.Proofs.Ytobkledmbnacjaa.M
open Go.RowKit Go.Proofs.YtobkledmbnacjaaW.PrintWords Go.Proofs.YtobkledmbnacjaaW.PrintLast Go.Proofs.YtobkledmbnacjaaW.PrintMore
attribute [local go_sem] max2_int min2_int max_two min_two max_three min_three max_four min_four   -- for this text's walks alone
set_option linter.unusedVariables false
set_option linter.unusedSimpArgs false
set_option maxRecDepth 100000

/-! ### laws_sameInts: function 22 -/
def laws_sameInts.l0 : Nat → List Int → List Int → Int → Option (Bool)
 | 0, _, _, _ => none
 | k + 1, x0, x1, x5 => if x5 < (x0.length : Int) then (if 0 ≤ x5 then (if x5 < (x1.length : Int) then (if (rd x0 x5) = (rd x1 x5) then (laws_sameInts.l0 k x0 x1 (wrap64 (x5 + 1))) else (some false)) else (none)) else (none)) else (some true)
def laws_sameInts.f (k : Nat) (l0 : List Int) (l1 : List Int) : Option (Bool) := if (l0.length : Int) = (l1.length : Int) then (laws_sameInts.l0 k l0 l1 0) else (some false)
set_option maxHeartbeats 8000000 in
set_option maxRecDepth 100000 in
theorem laws_sameInts.calls (k : Nat) (A0 : Option Addr) (c0 : Nat) (l0 : List Int) (A1 : Option Addr) (c1 : Nat) (l1 : List Int) (r : Bool) (w : World) (hr0 : Kd.C (Kd.int .i64) w A0 l0.length l0) (hc0 : l0.length ≤ c0) (hr1 : Kd.C (Kd.int .i64) w A1 l1.length l1) (hc1 : l1.length ≤ c1) (h : laws_sameInts.f k l0 l1 = some r) :
  Calls Try.prog 22 #[.slice A0 l0.length c0, .slice A1 l1.length c1] w fun e w' => e = .returned (.bool r) ∧ Drawn0 w w' := by
 have HR0 := Aside0.mk hr0
 have HC0 := Aside0.mk hc0
 clear hr0 hc0
 have HR1 := Aside0.mk hr1
 have HC1 := Aside0.mk hc1
 clear hr1 hc1
 have H : (if (l0.length : Int) = (l1.length : Int) then (laws_sameInts.l0 k l0 l1 0) else (some false)) = some r := h
 clear h
 by_cases c3 : (l0.length : Int) = (l1.length : Int)
 rotate_left
 ·rw [if_neg c3] at H
  have c3b0 : ((l0.length : Int) == (l1.length : Int)) = false := beq_eq_false_iff_ne.mpr c3
  have c3b1 : ((l0.length : Int) != (l1.length : Int)) = true := bne_iff_ne.mpr c3
  have c3b2 : (l0.length == l1.length) = false := by first | simpa using c3 | (simp at c3 ⊢; omega)
  obtain rfl := Option.some.inj H
  go_enter Try.func22, Try.ntmps22
  go_wp2
  repeat (go_quiet (fail); try go_wp2)
  go_ret
  exact ⟨by first | rfl | (simp; done) | (simp [*]; done), by repeat (first | exact Drawn0.refl _ | apply Drawn0.step)⟩

 rw [if_pos c3] at H
 have c3b0 : ((l0.length : Int) == (l1.length : Int)) = true := beq_iff_eq.mpr c3
 have c3b1 : ((l0.length : Int) != (l1.length : Int)) = false := bne_eq_false_iff_eq.mpr c3
 have c3b2 : (l0.length == l1.length) = true := by first | simpa using c3 | (simp at c3 ⊢; omega)
 clear c3
 have H' := Aside0.mk H
 clear H
 go_enter Try.func22, Try.ntmps22
 go_wp2
 repeat (go_quiet (fail); try go_wp2)
 go_loopg [5] k (fun kq v5 w' => ∃ (x5_1 : Int), v5 = .int .i64 x5_1 ∧ Aside0 (laws_sameInts.l0 kq l0 l1 x5_1 = some r) ∧ Aside0 (kq ≤ k) ∧ Drawn0 w w')
 case atStart => exact ⟨(0), (by first | rfl | (simp; done) | (simp [*]; done)), H', ⟨Nat.le_refl _⟩, by repeat (first | exact Drawn0.refl _ | apply Drawn0.step)⟩
 case round =>
  clear H'
  try clear c1
  try clear c2
  try clear p2
  try clear c3
  try clear c3b0
  try clear c3b1
  try clear c3b2
  obtain ⟨x5_1, rfl, HA, HK1, ⟨m1, rfl⟩⟩ := hrel
  cases gk with
  | zero => exact absurd HA.out (by simp [laws_sameInts.l0])
  | succ k1 =>
   have H := HA.out
   clear HA
   simp only [laws_sameInts.l0] at H
   by_cases c4 : x5_1 < (l0.length : Int)
   rotate_left
   ·rw [if_neg c4] at H
    have c4b0 : decide (x5_1 < (l0.length : Int)) = false := decide_eq_false c4
    clear c4
    obtain rfl := Option.some.inj H
    go_wp2
    repeat (go_quiet (fail); try go_wp2)
    go_ret
    exact ⟨by first | rfl | (simp; done) | (simp [*]; done), by repeat (first | exact Drawn0.refl _ | apply Drawn0.step)⟩
   rw [if_pos c4] at H
   have c4b0 : decide (x5_1 < (l0.length : Int)) = true := decide_eq_true c4
   clear c4
   by_cases c5 : 0 ≤ x5_1
   rotate_left
   ·rw [if_neg c5] at H
    exact absurd H (by simp)
   rw [if_pos c5] at H
   have c5b0 : decide (0 ≤ x5_1) = true := decide_eq_true c5
   clear c5
   by_cases c6 : x5_1 < (l1.length : Int)
   rotate_left
   ·rw [if_neg c6] at H
    exact absurd H (by simp)
   rw [if_pos c6] at H
   have c6b0 : decide (x5_1 < (l1.length : Int)) = true := decide_eq_true c6
   clear c6
   by_cases c7 : (rd l0 x5_1) = (rd l1 x5_1)
   rotate_left
   ·rw [if_neg c7] at H
    have c7b0 : ((rd l0 x5_1) == (rd l1 x5_1)) = false := beq_eq_false_iff_ne.mpr c7
    have c7b1 : ((rd l0 x5_1) != (rd l1 x5_1)) = true := bne_iff_ne.mpr c7
    obtain rfl := Option.some.inj H
    have p380 : 0 ≤ (x5_1 : Int) := of_decide_eq_true (by first | (with_reducible assumption) | assumption)
    have q380 : x5_1 < (l0.length : Int) := of_decide_eq_true (by first | (with_reducible assumption) | assumption)
    obtain ⟨ad380, e380, hx380_0⟩ := Kd.at_int HR0.out x5_1 p380 q380
    cases e380
    replace p380 := eq_true p380
    replace q380 := eq_true q380
    have p381 : 0 ≤ (x5_1 : Int) := of_decide_eq_true (by first | (with_reducible assumption) | assumption)
    have q381 : x5_1 < (l1.length : Int) := of_decide_eq_true (by first | (with_reducible assumption) | assumption)
    obtain ⟨ad381, e381, hx381_0⟩ := Kd.at_int HR1.out x5_1 p381 q381
    cases e381
    replace p381 := eq_true p381
    replace q381 := eq_true q381
    go_wp2
    repeat (go_quiet (fail); try go_wp2)
    go_ret
    exact ⟨by first | rfl | (simp; done) | (simp [*]; done), by repeat (first | exact Drawn0.refl _ | apply Drawn0.step)⟩
   rw [if_pos c7] at H
   have c7b0 : ((rd l0 x5_1) == (rd l1 x5_1)) = true := beq_iff_eq.mpr c7
   have c7b1 : ((rd l0 x5_1) != (rd l1 x5_1)) = false := bne_eq_false_iff_eq.mpr c7
   clear c7
   have H' := Aside0.mk H
   clear H
   have p380 : 0 ≤ (x5_1 : Int) := of_decide_eq_true (by first | (with_reducible assumption) | assumption)
   have q380 : x5_1 < (l0.length : Int) := of_decide_eq_true (by first | (with_reducible assumption) | assumption)
   obtain ⟨ad380, e380, hx380_0⟩ := Kd.at_int HR0.out x5_1 p380 q380
   cases e380
   replace p380 := eq_true p380
   replace q380 := eq_true q380
   have p381 : 0 ≤ (x5_1 : Int) := of_decide_eq_true (by first | (with_reducible assumption) | assumption)
   have q381 : x5_1 < (l1.length : Int) := of_decide_eq_true (by first | (with_reducible assumption) | assumption)
   obtain ⟨ad381, e381, hx381_0⟩ := Kd.at_int HR1.out x5_1 p381 q381
   cases e381
   replace p381 := eq_true p381
   replace q381 := eq_true q381
   go_wp2
   repeat (go_quiet (fail); try go_wp2)
   go_roundg k1
   case measure => have := HK1.out; omega
   case rel => exact ⟨(wrap64 (x5_1 + 1)), (by first | rfl | (simp; done) | (simp [*]; done)), H', ⟨by have := HK1.out; omega⟩, by repeat (first | exact Drawn0.refl _ | apply Drawn0.step)⟩
/-! ### impl_TermBelow: function 48 -/
def impl_TermBelow.f (k : Nat) (l0_0 : List (S55)) (a1 : Int) : Option (List Int) := (impl_Pool_isTerm.f l0_0 a1).bind fun t383 => (if t383 = true then ((impl_PoolOk.f l0_0).bind fun t384 => (if t384 = true then ((impl_Pool_below.f k l0_0 a1).bind fun t385 => (some t385)) else (some ([] : List Int)))) else (some ([] : List Int)))
set_option maxHeartbeats 8000000 in
set_option maxRecDepth 100000 in
theorem impl_TermBelow.calls (k : Nat) (A0_0 : Option Addr) (c0_0 : Nat) (l0_0 : List (S55)) (a1 : Int) (r : List Int) (w : World) (hr0_0 : Kd.C k55 w A0_0 l0_0.length l0_0) (hc0_0 : l0_0.length ≤ c0_0) (h : impl_TermBelow.f k l0_0 a1 = some r) :
  Calls Try.prog 48 #[.agg #[.slice A0_0 l0_0.length c0_0], .int .i64 a1] w fun e w' => ∃ v0_ : Value, e = .returned (v0_) ∧ Kd.R (Kd.int .i64) 3 w' w.heap.size (fun _ => True) v0_ r ∧ Below w.heap.size w w' := by
 have hu28 := Try.underlying28
 have HR0_0 := Aside0.mk hr0_0
 have HC0_0 := Aside0.mk hc0_0
 clear hr0_0 hc0_0
 have HB := Aside0.mk (Below.refl w.heap.size w)
 have H : ((impl_Pool_isTerm.f l0_0 a1).bind fun t383 => (if t383 = true then ((impl_PoolOk.f l0_0).bind fun t384 => (if t384 = true then ((impl_Pool_below.f k l0_0 a1).bind fun t385 => (some t385)) else (some ([] : List Int)))) else (some ([] : List Int)))) = some r := h
 clear h
 replace H := Option.bind_eq_some_iff.mp H
 obtain ⟨t383, A30, H⟩ := H
 replace H : (if t383 = true then ((impl_PoolOk.f l0_0).bind fun t384 => (if t384 = true then ((impl_Pool_below.f k l0_0 a1).bind fun t385 => (some t385)) else (some ([] : List Int)))) else (some ([] : List Int))) = some r := H
 have A3 := Aside0.mk A30
 clear A30
 by_cases c4 : t383 = true
 rotate_left
 ·replace c4 := Bool.eq_false_iff.mpr c4
  subst c4
  have H1 : (some ([] : List Int)) = some r := by rw [if_neg (show ¬ (false = true) by decide)] at H; exact H
  clear H
  have H := H1
  clear H1
  obtain rfl := Option.some.inj H
  go_enter Try.func48, Try.ntmps48
  go_wp2_with (first | ((with_reducible refine gate_dst (N := 2) rfl ?_); refine box_event ?hg (N := 2) ?hd (cs := #[.slice A0_0 l0_0.length c0_0]) (t := 28) ?hr ?_; (case hd => rfl); (case hg => rfl); (case hr => first | (go_simp; done) | (go_simp; rfl)); intro gb382 hg w17 hbox hb; have n0_ := Aside0.mk (below_step (zb HB.out) hb); have n1_ := Aside0.mk (hbox); have n2_ := Aside0.mk ((by rw [hg]; exact (below_size (zb HB.out)) : w.heap.size ≤ gb382)); have n3_ := Aside0.mk ((by rw [hg]; exact (below_size (zb HB.out)) : w.heap.size ≤ gb382)); clear HB; have HB := n0_; have BK382 := n1_; have GW382 := n2_; have GE382 := n3_; clear n0_ n1_ n2_ n3_ hb hbox hg) | ((with_reducible refine gate_callee (f := 33) rfl ?_); refine goesL_ (some 6) rfl rfl Try.func33 (by kernel_rfl) rfl #[.pointer (some ⟨gb382, 0, none⟩), .int .i64 a1] rfl zl ?_; (with_reducible refine (impl_Pool_isTerm.calls _ A0_0 c0_0 l0_0 a1 false _ ?side1 ?side2 ?side3 A3.out).mono ?_); (case side1 => exact zh BK382.out); (case side2 => exact zc (Kd.C_below HR0_0.out HB.out)); (case side3 => exact HC0_0.out); rintro e w18 ⟨rfl, hb⟩; refine ⟨_, rfl, ?_⟩; have n0_ := Aside0.mk (blk_below (zh BK382.out) hb); have n1_ := Aside0.mk (below_step (zb HB.out) hb); clear BK382 HB; have BK382 := n0_; have HB := n1_; clear n0_ n1_; (try clear hb); (try clear hb2); (try clear hk); (try clear hi)))
  go_ret
  exact ⟨_, ze, by first | exact Kd.R_nil _ _ _ _ _ | exact Kd.N_nil _ _ _ _ _ | exact Kd.V_nil _ _ _ _ _ | exact Kd.Q_nil _ _ _ _ _ | exact Kd.S_nil _ _ _ _ _, zb HB.out⟩


 subst c4
 have H1 : ((impl_PoolOk.f l0_0).bind fun t384 => (if t384 = true then ((impl_Pool_below.f k l0_0 a1).bind fun t385 => (some t385)) else (some ([] : List Int)))) = some r := by rw [if_pos rfl] at H; exact H
 clear H
 have H := H1
 clear H1
 replace H := Option.bind_eq_some_iff.mp H
 obtain ⟨t384, A50, H⟩ := H
 replace H : (if t384 = true then ((impl_Pool_below.f k l0_0 a1).bind fun t385 => (some t385)) else (some ([] : List Int))) = some r := H
 have A5 := Aside0.mk A50
 clear A50
 by_cases c6 : t384 = true
 rotate_left
 ·replace c6 := Bool.eq_false_iff.mpr c6
  subst c6
  have H1 : (some ([] : List Int)) = some r := by rw [if_neg (show ¬ (false = true) by decide)] at H; exact H
  clear H
  have H := H1
  clear H1
  obtain rfl := Option.some.inj H
  go_enter Try.func48, Try.ntmps48
  go_wp2_with (first | ((with_reducible refine gate_dst (N := 2) rfl ?_); refine box_event ?hg (N := 2) ?hd (cs := #[.slice A0_0 l0_0.length c0_0]) (t := 28) ?hr ?_; (case hd => rfl); (case hg => rfl); (case hr => first | (go_simp; done) | (go_simp; rfl)); intro gb382 hg w13 hbox hb; have n0_ := Aside0.mk (below_step (zb HB.out) hb); have n1_ := Aside0.mk (hbox); have n2_ := Aside0.mk ((by rw [hg]; exact (below_size (zb HB.out)) : w.heap.size ≤ gb382)); have n3_ := Aside0.mk ((by rw [hg]; exact (below_size (zb HB.out)) : w.heap.size ≤ gb382)); clear HB; have HB := n0_; have BK382 := n1_; have GW382 := n2_; have GE382 := n3_; clear n0_ n1_ n2_ n3_ hb hbox hg) | ((with_reducible refine gate_callee (f := 33) rfl ?_); refine goesL_ (some 6) rfl rfl Try.func33 (by kernel_rfl) rfl #[.pointer (some ⟨gb382, 0, none⟩), .int .i64 a1] rfl zl ?_; (with_reducible refine (impl_Pool_isTerm.calls _ A0_0 c0_0 l0_0 a1 true _ ?side1 ?side2 ?side3 A3.out).mono ?_); (case side1 => exact zh BK382.out); (case side2 => exact zc (Kd.C_below HR0_0.out HB.out)); (case side3 => exact HC0_0.out); rintro e w14 ⟨rfl, hb⟩; refine ⟨_, rfl, ?_⟩; have n0_ := Aside0.mk (blk_below (zh BK382.out) hb); have n1_ := Aside0.mk (below_step (zb HB.out) hb); clear BK382 HB; have BK382 := n0_; have HB := n1_; clear n0_ n1_; (try clear hb); (try clear hb2); (try clear hk); (try clear hi); have hcz15_0 : w14.cell? ⟨gb382, 0, none⟩ = some (.slice A0_0 l0_0.length c0_0) := (blk_cell BK382.out 0).trans rfl; have hfz15_0 := blk_frozen BK382.out 0) | (go_at_call 32; (with_reducible refine (impl_PoolOk.calls _ _ l0_0 false _ ?side1 ?side2 A5.out).mono ?_); (case side1 => exact zc (Kd.C_below HR0_0.out HB.out)); (case side2 => exact HC0_0.out); rintro e w16 ⟨rfl, hb⟩; have n0_ := Aside0.mk (blk_below (zh BK382.out) hb); have n1_ := Aside0.mk (below_step (zb HB.out) hb); clear BK382 HB; have BK382 := n0_; have HB := n1_; clear n0_ n1_; (try clear hb); (try clear hb2); (try clear hk); (try clear hi)))
  go_ret
  exact ⟨_, ze, by first | exact Kd.R_nil _ _ _ _ _ | exact Kd.N_nil _ _ _ _ _ | exact Kd.V_nil _ _ _ _ _ | exact Kd.Q_nil _ _ _ _ _ | exact Kd.S_nil _ _ _ _ _, zb HB.out⟩
 subst c6
 have H1 : ((impl_Pool_below.f k l0_0 a1).bind fun t385 => (some t385)) = some r := by rw [if_pos rfl] at H; exact H
 clear H
 have H := H1
 clear H1
 replace H := Option.bind_eq_some_iff.mp H
 obtain ⟨t385, A70, H⟩ := H
 replace H : (some t385) = some r := H
 have A7 := Aside0.mk A70
 clear A70
 obtain rfl := Option.some.inj H
 go_enter Try.func48, Try.ntmps48
 go_wp2_with (first | ((with_reducible refine gate_dst (N := 2) rfl ?_); refine box_event ?hg (N := 2) ?hd (cs := #[.slice A0_0 l0_0.length c0_0]) (t := 28) ?hr ?_; (case hd => rfl); (case hg => rfl); (case hr => first | (go_simp; done) | (go_simp; rfl)); intro gb382 hg w8 hbox hb; have n0_ := Aside0.mk (below_step (zb HB.out) hb); have n1_ := Aside0.mk (hbox); have n2_ := Aside0.mk ((by rw [hg]; exact (below_size (zb HB.out)) : w.heap.size ≤ gb382)); have n3_ := Aside0.mk ((by rw [hg]; exact (below_size (zb HB.out)) : w.heap.size ≤ gb382)); clear HB; have HB := n0_; have BK382 := n1_; have GW382 := n2_; have GE382 := n3_; clear n0_ n1_ n2_ n3_ hb hbox hg) | ((with_reducible refine gate_callee (f := 33) rfl ?_); refine goesL_ (some 6) rfl rfl Try.func33 (by kernel_rfl) rfl #[.pointer (some ⟨gb382, 0, none⟩), .int .i64 a1] rfl zl ?_; (with_reducible refine (impl_Pool_isTerm.calls _ A0_0 c0_0 l0_0 a1 true _ ?side1 ?side2 ?side3 A3.out).mono ?_); (case side1 => exact zh BK382.out); (case side2 => exact zc (Kd.C_below HR0_0.out HB.out)); (case side3 => exact HC0_0.out); rintro e w9 ⟨rfl, hb⟩; refine ⟨_, rfl, ?_⟩; have n0_ := Aside0.mk (blk_below (zh BK382.out) hb); have n1_ := Aside0.mk (below_step (zb HB.out) hb); clear BK382 HB; have BK382 := n0_; have HB := n1_; clear n0_ n1_; (try clear hb); (try clear hb2); (try clear hk); (try clear hi); have hcz10_0 : w9.cell? ⟨gb382, 0, none⟩ = some (.slice A0_0 l0_0.length c0_0) := (blk_cell BK382.out 0).trans rfl; have hfz10_0 := blk_frozen BK382.out 0) | (go_at_call 32; (with_reducible refine (impl_PoolOk.calls _ _ l0_0 true _ ?side1 ?side2 A5.out).mono ?_); (case side1 => exact zc (Kd.C_below HR0_0.out HB.out)); (case side2 => exact HC0_0.out); rintro e w11 ⟨rfl, hb⟩; have n0_ := Aside0.mk (blk_below (zh BK382.out) hb); have n1_ := Aside0.mk (below_step (zb HB.out) hb); clear BK382 HB; have BK382 := n0_; have HB := n1_; clear n0_ n1_; (try clear hb); (try clear hb2); (try clear hk); (try clear hi)) | ((with_reducible refine gate_callee (f := 35) rfl ?_); refine goesL_ (some 14) rfl rfl Try.func35 (by kernel_rfl) rfl #[.pointer (some ⟨gb382, 0, none⟩), .int .i64 a1] rfl zl ?_; (with_reducible refine (impl_Pool_below.calls k _ A0_0 c0_0 l0_0 a1 t385 _ ?side1 ?side2 ?side3 A7.out).mono ?_); (case side1 => exact zh BK382.out); (case side2 => exact zc (Kd.C_below HR0_0.out HB.out)); (case side3 => exact HC0_0.out); rintro e w12 ⟨v386, rfl, ho0, hb⟩; refine ⟨_, rfl, ?_⟩; have n0_ := Aside0.mk (Kd.R_lower ho0 (below_size (zb HB.out))); have n1_ := Aside0.mk (blk_below (zh BK382.out) hb); have n2_ := Aside0.mk (below_step (zb HB.out) hb); clear BK382 HB; have HO387 := n0_; have BK382 := n1_; have HB := n2_; clear n0_ n1_ n2_; (try clear hb); (try clear hb2); (try clear hk); (try clear hi); (try clear ho0)))
 go_ret
 exact ⟨_, ze, zr HO387.out, zb HB.out⟩
/-! ### slices_Sort_int_int: function 53 -/
-- IMPORT Derived.Test.YtobkledmbnacjaaLibSort
-- IMPORT Derived.Test.YtobkledmbnacjaaShelf
def slices_Sort_int_int.f (l0 : List Int) : Option (List Int) := if l0.length < 1000000 then some (l0.mergeSort fun x y => decide (x ≤ y)) else none
set_option maxHeartbeats 8000000 in
set_option maxRecDepth 100000 in
theorem slices_Sort_int_int.calls (P0_ : Nat → Prop) (u9000_ : Value) (l0 : List Int) (r : List Int) (w0 w : World) (hB : Below w0.heap.size w0 w) (ho0 : Kd.R (Kd.int .i64) 3 w w0.heap.size P0_ u9000_ l0) (h : slices_Sort_int_int.f l0 = some r) :
  Calls Try.prog 53 #[u9000_] w fun e w' => e = .returned (.tuple #[]) ∧ Kd.R (Kd.int .i64) 3 w' w0.heap.size (fun k_ => (P0_ k_ ∨ w.heap.size ≤ k_)) u9000_ r ∧ Below w0.heap.size w0 w' ∧ Kept w w' (fun k_ => P0_ k_) := by
 unfold slices_Sort_int_int.f at h
 by_cases hc : l0.length < 1000000
 case neg => rw [if_neg hc] at h; exact absurd h (by simp)
 rw [if_pos hc] at h
 obtain rfl := Option.some.inj h
 exact RowSort.sortR Try.lays189 P0_ u9000_ l0 w0 w hB ho0 hc


/-! ### impl_TermNames: function 23 -/
def impl_TermNames.l0 : Nat → List Int → List Int → Int → Int → List (S55) → Option (List Int)
 | 0, _, _, _, _, _ => none
 | k + 1, x5, x10, x11, x12, x389000 => if x12 < x11 then (if 0 ≤ x12 then (if x12 < (x10.length : Int) then (if 0 ≤ (rd x10 x12) then (if (rd x10 x12) < (x389000.length : Int) then (if ((rd_T55 x389000 (rd x10 x12)).f0) = 1 then (if x5.length < 17592186044416 then (impl_TermNames.l0 k (x5 ++ [(rd_T55 x389000 (rd x10 x12)).f1]) x10 x11 (wrap64 (x12 + 1)) x389000) else (none)) else (impl_TermNames.l0 k x5 x10 x11 (wrap64 (x12 + 1)) x389000)) else (none)) else (none)) else (none)) else (none)) else ((slices_Sort_int_int.f x5).bind fun t398 => (some t398))
def impl_TermNames.f (k : Nat) (l0_0 : List (S55)) (a1 : Int) : Option (List Int) := (impl_TermBelow.f k l0_0 a1).bind fun t389 => (impl_TermNames.l0 k ([] : List Int) t389 (t389.length : Int) 0 l0_0)
set_option maxHeartbeats 8000000 in
set_option maxRecDepth 100000 in
theorem impl_TermNames.calls (k : Nat) (A0_0 : Option Addr) (c0_0 : Nat) (l0_0 : List (S55)) (a1 : Int) (r : List Int) (w : World) (hr0_0 : Kd.C k55 w A0_0 l0_0.length l0_0) (hc0_0 : l0_0.length ≤ c0_0) (h : impl_TermNames.f k l0_0 a1 = some r) :
  Calls Try.prog 23 #[.agg #[.slice A0_0 l0_0.length c0_0], .int .i64 a1] w fun e w' => ∃ v0_ : Value, e = .returned (v0_) ∧ Kd.R (Kd.int .i64) 3 w' w.heap.size (fun _ => True) v0_ r ∧ Below w.heap.size w w' := by
 have hu28 := Try.underlying28
 have HR0_0 := Aside0.mk hr0_0
 have HC0_0 := Aside0.mk hc0_0
 clear hr0_0 hc0_0
 have HB := Aside0.mk (Below.refl w.heap.size w)
 have H : ((impl_TermBelow.f k l0_0 a1).bind fun t389 => (impl_TermNames.l0 k ([] : List Int) t389 (t389.length : Int) 0 l0_0)) = some r := h
 clear h
 replace H := Option.bind_eq_some_iff.mp H
 obtain ⟨t389, A30, H⟩ := H
 replace H : (impl_TermNames.l0 k ([] : List Int) t389 (t389.length : Int) 0 l0_0) = some r := H
 have A3 := Aside0.mk A30
 clear A30
 have H' := Aside0.mk H
 clear H
 go_enter Try.func23, Try.ntmps23
 go_wp2_with (first | ((with_reducible refine gate_dst (N := 2) rfl ?_); refine box_event ?hg (N := 2) ?hd (cs := #[.slice A0_0 l0_0.length c0_0]) (t := 28) ?hr ?_; (case hd => rfl); (case hg => rfl); (case hr => first | (go_simp; done) | (go_simp; rfl)); intro gb388 hg w4 hbox hb; have n0_ := Aside0.mk (below_step (zb HB.out) hb); have n1_ := Aside0.mk (hbox); have n2_ := Aside0.mk ((by rw [hg]; exact (below_size (zb HB.out)) : w.heap.size ≤ gb388)); have n3_ := Aside0.mk ((by rw [hg]; exact (below_size (zb HB.out)) : w.heap.size ≤ gb388)); clear HB; have HB := n0_; have BK388 := n1_; have GW388 := n2_; have GE388 := n3_; clear n0_ n1_ n2_ n3_ hb hbox hg; have hcz5_0 : w4.cell? ⟨gb388, 0, none⟩ = some (.slice A0_0 l0_0.length c0_0) := (blk_cell BK388.out 0).trans rfl; have hfz5_0 := blk_frozen BK388.out 0) | ((with_reducible refine gate_callee (f := 48) rfl ?_); refine goesL_ (some 10) rfl rfl Try.func48 (by kernel_rfl) rfl #[.agg #[.slice A0_0 l0_0.length c0_0], .int .i64 a1] rfl zl ?_; (with_reducible refine (impl_TermBelow.calls k _ _ l0_0 a1 t389 _ ?side1 ?side2 A3.out).mono ?_); (case side1 => exact zc (Kd.C_below HR0_0.out HB.out)); (case side2 => exact HC0_0.out); rintro e w6 ⟨v390, rfl, ho0, hb⟩; refine ⟨_, rfl, ?_⟩; have n0_ := Aside0.mk (Kd.R_lower ho0 (below_size (zb HB.out))); have n1_ := Aside0.mk (blk_below (zh BK388.out) hb); have n2_ := Aside0.mk (below_step (zb HB.out) hb); clear BK388 HB; have HO391 := n0_; have BK388 := n1_; have HB := n2_; clear n0_ n1_ n2_; (try clear hb); (try clear hb2); (try clear hk); (try clear hi); (try clear ho0); obtain ⟨Ao7, co7, eo7⟩ := Kd.R_slice HO391.out; subst eo7))
 go_loopg [5, 12] k (fun kq v5 v12 w' => ∃ (x5_1 : List Int) (x12_1 : Int), v12 = .int .i64 x12_1 ∧ Aside0 (impl_TermNames.l0 kq x5_1 t389 (t389.length : Int) x12_1 l0_0 = some r) ∧ Aside0 (kq ≤ k) ∧ Aside0 (Kd.R (Kd.int .i64) 3 w' w.heap.size (fun k_ => some k_ ≠ ((.slice Ao7 t389.length co7) : Value).ownBlock) v5 x5_1) ∧ Aside0 (Kd.R (Kd.int .i64) 3 w' w.heap.size (fun k_ => some k_ ≠ (v5 : Value).ownBlock) (.slice Ao7 t389.length co7) t389) ∧ Aside0 (w'.heap[gb388]? = some (.cells #[(.slice A0_0 l0_0.length c0_0)] 28 (0, 0))) ∧ Aside0 (Below w.heap.size w w'))
 case atStart => exact ⟨(([] : List Int)), (0), (by first | rfl | (simp; done) | (simp [*]; done)), H', ⟨Nat.le_refl _⟩, ⟨by first | exact Kd.R_nil _ _ _ _ _ | exact Kd.N_nil _ _ _ _ _ | exact Kd.V_nil _ _ _ _ _ | exact Kd.Q_nil _ _ _ _ _ | exact Kd.S_nil _ _ _ _ _⟩, ⟨zr (Kd.R_mono HO391.out (fun _ hk => (by simp [Value.ownBlock])))⟩, ⟨zh BK388.out⟩, ⟨zb HB.out⟩⟩
 case round =>
  clear H'
  try clear c2
  try clear p2
  try clear c4
  try clear hcz5_0
  try clear hfz5_0
  obtain ⟨x5_1, x12_1, rfl, HA, HK1, HO_5, HO_10, BK388, HB⟩ := hrel
  cases gk with
  | zero => exact absurd HA.out (by simp [impl_TermNames.l0])
  | succ k1 =>
   have H := HA.out
   clear HA
   simp only [impl_TermNames.l0] at H
   by_cases c8 : x12_1 < (t389.length : Int)
   rotate_left
   ·rw [if_neg c8] at H
    have c8b0 : decide (x12_1 < (t389.length : Int)) = false := decide_eq_false c8
    clear c8
    replace H := Option.bind_eq_some_iff.mp H
    obtain ⟨t398, A180, H⟩ := H
    replace H : (some t398) = some r := H
    have A18 := Aside0.mk A180
    clear A180
    obtain rfl := Option.some.inj H
    obtain ⟨Ao19, co19, eo19⟩ := Kd.R_slice HO_5.out
    subst eo19
    go_wp2_with (first | ((with_reducible refine gate_callee (f := 53) rfl ?_); refine goesL_ (some 34) rfl rfl Try.func53 (by kernel_rfl) rfl #[.slice Ao19 x5_1.length co19] rfl zl ?_; (with_reducible refine (slices_Sort_int_int.calls (fun k_ => some k_ = (.slice Ao19 x5_1.length co19 : Value).ownBlock) (.slice Ao19 x5_1.length co19) x5_1 t398 w _ ?side1 ?side2 A18.out).mono ?_); (case side1 => exact zb HB.out); (case side2 => exact Kd.R_tight rfl HO_5.out); rintro e w20 ⟨rfl, hy0, hb, hkp⟩; refine ⟨_, rfl, ?_⟩; have n0_ := Aside0.mk (Kd.R_reok rfl hy0 (fun k_ e_ => HO_5.out.1 k_ e_)); have n1_ := Aside0.mk (Kd.R_mono (ok' := fun k_ => some k_ ≠ (.slice Ao19 x5_1.length co19 : Value).ownBlock) (Kd.R_keptB (HO_10.out) hkp (fun k_ hk_ hs_ => by first | exact (hk_) hs_ | (revert hk_; simp only [and_imp]; intros; exact absurd hs_ (by assumption)))) (fun k_ hk_ => by first | exact hk_.1 | (revert hk_; simp only [and_imp]; intros; and_intros <;> assumption))); have n2_ := Aside0.mk (blk_kept (zh BK388.out) hkp (fun hs_ => (fun e_ => (Kd.R_ne HO_5.out BK388.out (by decide)) e_) hs_)); have n3_ := Aside0.mk (hb); clear HO_5 HO_10 BK388 HB; have HO_5 := n0_; have HO_10 := n1_; have BK388 := n2_; have HB := n3_; clear n0_ n1_ n2_ n3_; (try clear hb); (try clear hkp); (try clear hy0)))
    go_ret
    exact ⟨_, ze, zr (Kd.R_mono HO_5.out (fun _ hk => trivial)), zb HB.out⟩

   rw [if_pos c8] at H
   have c8b0 : decide (x12_1 < (t389.length : Int)) = true := decide_eq_true c8
   clear c8
   by_cases c9 : 0 ≤ x12_1
   rotate_left
   ·rw [if_neg c9] at H
    exact absurd H (by simp)
   rw [if_pos c9] at H
   have c9b0 : decide (0 ≤ x12_1) = true := decide_eq_true c9
   clear c9
   by_cases c10 : x12_1 < (t389.length : Int)
   rotate_left
   ·rw [if_neg c10] at H
    exact absurd H (by simp)
   rw [if_pos c10] at H
   have c10b0 : decide (x12_1 < (t389.length : Int)) = true := decide_eq_true c10
   clear c10
   by_cases c11 : 0 ≤ (rd t389 x12_1)
   rotate_left
   ·rw [if_neg c11] at H
    exact absurd H (by simp)
   rw [if_pos c11] at H
   have c11b0 : decide (0 ≤ (rd t389 x12_1)) = true := decide_eq_true c11
   clear c11
   by_cases c12 : (rd t389 x12_1) < (l0_0.length : Int)
   rotate_left
   ·rw [if_neg c12] at H
    exact absurd H (by simp)
   rw [if_pos c12] at H
   have c12b0 : decide ((rd t389 x12_1) < (l0_0.length : Int)) = true := decide_eq_true c12
   clear c12
   by_cases c13 : ((rd_T55 l0_0 (rd t389 x12_1)).f0) = 1
   rotate_left
   ·rw [if_neg c13] at H
    have c13b0 : (((rd_T55 l0_0 (rd t389 x12_1)).f0) == 1) = false := beq_eq_false_iff_ne.mpr c13
    have c13b1 : (((rd_T55 l0_0 (rd t389 x12_1)).f0) != 1) = true := bne_iff_ne.mpr c13
    have H' := Aside0.mk H
    clear H
    have p392 : 0 ≤ (x12_1 : Int) := of_decide_eq_true (by first | (with_reducible assumption) | assumption)
    have q392 : x12_1 < (t389.length : Int) := of_decide_eq_true (by first | (with_reducible assumption) | assumption)
    obtain ⟨ad392, e392, hx392_0⟩ := Kd.at_int (Kd.R_reads' HO_10.out).2.2 x12_1 p392 q392
    cases e392
    replace p392 := eq_true p392
    replace q392 := eq_true q392
    have hcz17_0 : wr.cell? ⟨gb388, 0, none⟩ = some (.slice A0_0 l0_0.length c0_0) := (blk_cell BK388.out 0).trans rfl
    have hfz17_0 := blk_frozen BK388.out 0
    have p393 : 0 ≤ ((rd t389 x12_1) : Int) := of_decide_eq_true (by first | (with_reducible assumption) | assumption)
    have q393 : (rd t389 x12_1) < (l0_0.length : Int) := of_decide_eq_true (by first | (with_reducible assumption) | assumption)
    obtain ⟨ad393, e393, hx393_0, hx393_1, hx393_2⟩ := at_T55 HR0_0.out (rd t389 x12_1) p393 q393
    cases e393
    replace hx393_0 := (HB.out.cell (World.block_lt_of_cell? w _ hx393_0)).trans hx393_0
    replace hx393_1 := (HB.out.cell (World.block_lt_of_cell? w _ hx393_1)).trans hx393_1
    replace hx393_2 := (HB.out.cell (World.block_lt_of_cell? w _ hx393_2)).trans hx393_2
    replace p393 := eq_true p393
    replace q393 := eq_true q393
    go_wp2
    go_roundg k1
    case measure => have := HK1.out; omega
    case rel => exact ⟨(x5_1), (wrap64 (x12_1 + 1)), (by first | rfl | (simp; done) | (simp [*]; done)), H', ⟨by have := HK1.out; omega⟩, ⟨zr HO_5.out⟩, ⟨zr HO_10.out⟩, ⟨zh BK388.out⟩, ⟨zb HB.out⟩⟩
   rw [if_pos c13] at H
   have c13b0 : (((rd_T55 l0_0 (rd t389 x12_1)).f0) == 1) = true := beq_iff_eq.mpr c13
   have c13b1 : (((rd_T55 l0_0 (rd t389 x12_1)).f0) != 1) = false := bne_eq_false_iff_eq.mpr c13
   clear c13
   by_cases c14 : x5_1.length < 17592186044416
   rotate_left
   ·rw [if_neg c14] at H
    exact absurd H (by simp)
   rw [if_pos c14] at H
   have LMc14 := Aside0.mk c14
   clear c14
   obtain ⟨y395, hy395⟩ : ∃ y_ : List Int, y_ = (x5_1 ++ [(rd_T55 l0_0 (rd t389 x12_1)).f1]) := ⟨_, rfl⟩
   replace H : (impl_TermNames.l0 k1 y395 t389 (t389.length : Int) (wrap64 (x12_1 + 1)) l0_0) = some r := by first | (rw [hy395]; with_reducible exact H) | (have H2_ := (Option.bind_some _ _).symm.trans H; rw [hy395]; with_reducible exact H2_) | (have H2_ := (Option.bind_some _ _).symm.trans H; with_reducible exact H2_) | with_reducible exact H | (rw [hy395]; exact H) | exact H
   have Ny395 := Aside0.mk hy395
   clear hy395
   have H' := Aside0.mk H
   clear H
   have p392 : 0 ≤ (x12_1 : Int) := of_decide_eq_true (by first | (with_reducible assumption) | assumption)
   have q392 : x12_1 < (t389.length : Int) := of_decide_eq_true (by first | (with_reducible assumption) | assumption)
   obtain ⟨ad392, e392, hx392_0⟩ := Kd.at_int (Kd.R_reads' HO_10.out).2.2 x12_1 p392 q392
   cases e392
   replace p392 := eq_true p392
   replace q392 := eq_true q392
   have hcz15_0 : wr.cell? ⟨gb388, 0, none⟩ = some (.slice A0_0 l0_0.length c0_0) := (blk_cell BK388.out 0).trans rfl
   have hfz15_0 := blk_frozen BK388.out 0
   have p393 : 0 ≤ ((rd t389 x12_1) : Int) := of_decide_eq_true (by first | (with_reducible assumption) | assumption)
   have q393 : (rd t389 x12_1) < (l0_0.length : Int) := of_decide_eq_true (by first | (with_reducible assumption) | assumption)
   obtain ⟨ad393, e393, hx393_0, hx393_1, hx393_2⟩ := at_T55 HR0_0.out (rd t389 x12_1) p393 q393
   cases e393
   replace hx393_0 := (HB.out.cell (World.block_lt_of_cell? w _ hx393_0)).trans hx393_0
   replace hx393_1 := (HB.out.cell (World.block_lt_of_cell? w _ hx393_1)).trans hx393_1
   replace hx393_2 := (HB.out.cell (World.block_lt_of_cell? w _ hx393_2)).trans hx393_2
   replace p393 := eq_true p393
   replace q393 := eq_true q393
   have p394 : 0 ≤ ((rd t389 x12_1) : Int) := of_decide_eq_true (by first | (with_reducible assumption) | assumption)
   have q394 : (rd t389 x12_1) < (l0_0.length : Int) := of_decide_eq_true (by first | (with_reducible assumption) | assumption)
   obtain ⟨ad394, e394, hx394_0, hx394_1, hx394_2⟩ := at_T55 HR0_0.out (rd t389 x12_1) p394 q394
   obtain rfl : ad393 = ad394 := (by injection e394)
   replace hx394_0 := (HB.out.cell (World.block_lt_of_cell? w _ hx394_0)).trans hx394_0
   replace hx394_1 := (HB.out.cell (World.block_lt_of_cell? w _ hx394_1)).trans hx394_1
   replace hx394_2 := (HB.out.cell (World.block_lt_of_cell? w _ hx394_2)).trans hx394_2
   replace p394 := eq_true p394
   replace q394 := eq_true q394
   go_wp2_with (first | ((with_reducible refine gate_builtin (b := .append) (xs := #[.tmp 23, .tmp 30]) rfl ?_); at_builtin; refine Kd.R_append (Kd.int .i64) (w0 := w) w.heap.size rfl (.tmp 23) (.tmp 30) 45 3 (.int .i64 0) 8 rfl Try.underlying45 info3 rfl (by decide) (by omega) u5 x5_1 ((rd_T55 l0_0 (rd t389 x12_1)).f1) [.int .i64 ((rd_T55 l0_0 (rd t389 x12_1)).f1)] (fun k_ => some k_ ≠ (.slice (some ad392) t389.length co7 : Value).ownBlock) (fun _ => False) rfl rfl ?aP (fun _ hk => hk.elim) ?aF ?aO ?aB ?aS ?aL ?_; (case aP => exact rfl); (case aB => exact (zb HB.out)); (case aF => exact (fun k_ hk => Kd.fresh' (Kd.R_lt (zr HO_10.out)) k_ hk)); (case aO => exact (zr HO_5.out)); (case aS => exact (below_size (zb HB.out))); (case aL => have := LMc14.out; omega); intro v396 w16 ho hb hg hat; rw [← Ny395.out] at ho; have n0_ := Aside0.mk (Kd.R_after (ok := (fun _ => True)) (by (with_reducible repeat (first | apply Kd.R_alloc | apply Kd.R_drewN | apply Kd.R_drew)); exact Kd.R_mono HO_10.out (fun _ hk => ⟨trivial, hk⟩)) hg hat); have n1_ := Aside0.mk (blk_grown (zh BK388.out) hg (Kd.R_ne HO_5.out BK388.out (by decide))); have n2_ := Aside0.mk (hb); have n3_ := Aside0.mk (ho); clear HO_10 BK388 HB HO_5; have HO_10 := n0_; have BK388 := n1_; have HB := n2_; have HO397 := n3_; clear n0_ n1_ n2_ n3_ ho hb hg hat))
   go_roundg k1
   case measure => have := HK1.out; omega
   case rel => exact ⟨(y395), (wrap64 (x12_1 + 1)), (by first | rfl | (simp; done) | (simp [*]; done)), H', ⟨by have := HK1.out; omega⟩, ⟨zr HO397.out⟩, ⟨zr (Kd.R_mono HO_10.out (fun _ hk => hk.2))⟩, ⟨zh BK388.out⟩, ⟨zb HB.out⟩⟩
end Go.Proofs.Ytobkledmbnacjaa.M
end
