import Derived.Test.YtdgahpigcaejbaaXD0
import Derived.Test.YtdgahpigcaejbaaXDg1
import Derived.Test.YtdgahpigcaejbaaXDg2
section
-- Written by this session's program (wip/tools/gprint.py over the kit's print) out of the translation; Lean checks it.
namespace Go.Proofs.Ytdgahpigcaejbaa.D
open Go.RowKit Go.Proofs.YtdgahpigcaejbaaW.PrintWords Go.Proofs.YtdgahpigcaejbaaW.PrintLast Go.Proofs.YtdgahpigcaejbaaW.PrintMore
attribute [local go_sem] max2_int min2_int max_two min_two max_three min_three max_four min_four   -- for this text's walks alone
set_option linter.unusedVariables false
set_option linter.unusedSimpArgs false
set_option maxRecDepth 100000

/-! ### spec_l1DrawAny: function 44 -/
mutual
def spec_l1DrawAny.j0 : Nat → List Int → Int → Int → List (S44) → Option ((List (S44)) × Int × Int)
 | 0, _, _, _, _ => none
 | k + 1, x1000, x1001, x1002, x295000 => (spec_l1Once.f x1000 x1001 x1002 80).bind fun bt324 => (if bt324.1 = true then (spec_l1DrawAny.l0 k x1000 bt324.2.1 bt324.2.2 ([] : List (S44))) else (some (x295000, bt324.2.1, bt324.2.2)))
def spec_l1DrawAny.l0 : Nat → List Int → Int → Int → List (S44) → Option ((List (S44)) × Int × Int)
 | 0, _, _, _, _ => none
 | k + 1, x1000, x1001, x1002, x295000 => if (x295000.length : Int) < 500 then ((spec_l1Add.f k x295000 1 ((x295000.length : Int) % 200) 0).bind fun bt327 => ((spec_l1Add.f k bt327.1 5 (wrap64 ((bt327.1.length : Int) - 1)) 0).bind fun bt331 => (spec_l1DrawAny.l0 k x1000 x1001 x1002 bt331.1))) else (some (x295000, x1001, x1002))
end
def spec_l1DrawAny.f (k : Nat) (s0_0 : List Int) (s0_1 : Int) (s0_2 : Int) : Option ((List (S44)) × Int × Int) := (spec_l1DrawPool.f k s0_0 s0_1 s0_2 24).bind fun bt289 => ((spec_l1Below.f s0_0 bt289.2.1 bt289.2.2 25).bind fun bt295 => (if bt295.1 = 0 then ((spec_l1Copy.f bt289.1).bind fun t298 => ((spec_l1DrawNode.f k s0_0 bt295.2.1 bt295.2.2 3).bind fun bt301 => (if t298.length < 5864062014805 then (spec_l1DrawAny.j0 k s0_0 bt301.2.2.2.1 bt301.2.2.2.2 (t298 ++ [(⟨bt301.1, bt301.2.1, bt301.2.2.1⟩ : S44)])) else (none)))) else (if bt295.1 = 1 then ((spec_l1Copy.f bt289.1).bind fun t309 => ((spec_l1Below.f s0_0 bt295.2.1 bt295.2.2 10).bind fun bt312 => ((spec_l1Below.f s0_0 bt312.2.1 bt312.2.2 30).bind fun bt315 => ((spec_l1Below.f s0_0 bt315.2.1 bt315.2.2 30).bind fun bt318 => (if t309.length < 5864062014805 then (spec_l1DrawAny.j0 k s0_0 bt318.2.1 bt318.2.2 (t309 ++ [(⟨bt312.1, wrap64 (bt315.1 - 1), wrap64 (bt318.1 - 1)⟩ : S44)])) else (none)))))) else (spec_l1DrawAny.j0 k s0_0 bt295.2.1 bt295.2.2 bt289.1))))
theorem spec_l1DrawAny.mono_l : ∀ k, (∀ y0 y1 y2 y3, LeO (spec_l1DrawAny.j0 k y0 y1 y2 y3) (spec_l1DrawAny.j0 (k + 1) y0 y1 y2 y3)) ∧ (∀ y0 y1 y2 y3, LeO (spec_l1DrawAny.l0 k y0 y1 y2 y3) (spec_l1DrawAny.l0 (k + 1) y0 y1 y2 y3))
 | 0 => ⟨fun _ _ _ _ r h => by simp [spec_l1DrawAny.j0] at h, fun _ _ _ _ r h => by simp [spec_l1DrawAny.l0] at h⟩
 | k + 1 => by
  obtain ⟨ih0, ih1⟩ := spec_l1DrawAny.mono_l k
  refine ⟨?_, ?_⟩
  ·intro y0 y1 y2 y3
   unfold spec_l1DrawAny.j0
   repeat' first
   | (with_reducible exact ih0 _ _ _ _)
   | (with_reducible exact ih1 _ _ _ _)
   | (with_reducible exact spec_l1Add.mono _ _ _ _ _)
   | (with_reducible exact spec_l1DrawNode.mono _ _ _ _ _)
   | (with_reducible exact spec_l1DrawPool.mono _ _ _ _ _)
   | (with_reducible exact LeO.refl _)
   | (with_reducible exact LeO.none _)
   | (with_reducible refine LeO.ite ?_ ?_)
   | (with_reducible refine LeO.bind ?_ (fun _ => ?_))
   | exact ih0 _ _ _ _
   | exact ih1 _ _ _ _
   | exact spec_l1Add.mono _ _ _ _ _
   | exact spec_l1DrawNode.mono _ _ _ _ _
   | exact spec_l1DrawPool.mono _ _ _ _ _
   | exact LeO.none _
   | refine LeO.ite ?_ ?_
   | refine LeO.bind ?_ (fun _ => ?_)
  ·intro y0 y1 y2 y3
   unfold spec_l1DrawAny.l0
   repeat' first
   | (with_reducible exact ih0 _ _ _ _)
   | (with_reducible exact ih1 _ _ _ _)
   | (with_reducible exact spec_l1Add.mono _ _ _ _ _)
   | (with_reducible exact spec_l1DrawNode.mono _ _ _ _ _)
   | (with_reducible exact spec_l1DrawPool.mono _ _ _ _ _)
   | (with_reducible exact LeO.refl _)
   | (with_reducible exact LeO.none _)
   | (with_reducible refine LeO.ite ?_ ?_)
   | (with_reducible refine LeO.bind ?_ (fun _ => ?_))
   | exact ih0 _ _ _ _
   | exact ih1 _ _ _ _
   | exact spec_l1Add.mono _ _ _ _ _
   | exact spec_l1DrawNode.mono _ _ _ _ _
   | exact spec_l1DrawPool.mono _ _ _ _ _
   | exact LeO.none _
   | refine LeO.ite ?_ ?_
   | refine LeO.bind ?_ (fun _ => ?_)
theorem spec_l1DrawAny.mono : ∀ a0 a1 a2 k, LeO (spec_l1DrawAny.f k a0 a1 a2) (spec_l1DrawAny.f (k + 1) a0 a1 a2) := by
 intro a0 a1 a2 k
 obtain ⟨ih0, ih1⟩ := spec_l1DrawAny.mono_l k
 unfold spec_l1DrawAny.f
 repeat' first
   | (with_reducible exact ih0 _ _ _ _)
   | (with_reducible exact ih1 _ _ _ _)
   | (with_reducible exact spec_l1Add.mono _ _ _ _ _)
   | (with_reducible exact spec_l1DrawNode.mono _ _ _ _ _)
   | (with_reducible exact spec_l1DrawPool.mono _ _ _ _ _)
   | (with_reducible exact LeO.refl _)
   | (with_reducible exact LeO.none _)
   | (with_reducible refine LeO.ite ?_ ?_)
   | (with_reducible refine LeO.bind ?_ (fun _ => ?_))
   | exact ih0 _ _ _ _
   | exact ih1 _ _ _ _
   | exact spec_l1Add.mono _ _ _ _ _
   | exact spec_l1DrawNode.mono _ _ _ _ _
   | exact spec_l1DrawPool.mono _ _ _ _ _
   | exact LeO.none _
   | refine LeO.ite ?_ ?_
   | refine LeO.bind ?_ (fun _ => ?_)
theorem fldP_ (w : World) (v : Value) : (Instr.field 30 (.agg #[v]) 0).run Try.prog w = .ok v w := by
 have hu := Try.underlying30
 simp [Instr.field, run_underlying hu, go_sem, asAgg, part, Result.andThen]
set_option maxHeartbeats 8000000 in
set_option maxRecDepth 100000 in
theorem spec_l1DrawAny.calls (k : Nat) (g : Nat) (s0_0 : List Int) (s0_1 : Int) (s0_2 : Int) (r1 : List (S44)) (r2 : Int) (r3 : Int) (w0 w : World) (hI : IsS89 w0 w g s0_0 s0_1 s0_2) (hB : Below w0.heap.size w0 w) (h : spec_l1DrawAny.f k s0_0 s0_1 s0_2 = some (r1, r2, r3)) :
  Calls Try.prog 44 #[.pointer (some ⟨g, 0, none⟩)] w fun e w' => ∃ v0_ : Value, e = .returned (.agg #[v0_]) ∧ Kd.R k44 44 w' w.heap.size (fun _ => True) v0_ r1 ∧ IsS89 w0 w' g s0_0 r2 r3 ∧ Below w0.heap.size w0 w' ∧ KeepBut w w' g none := by
 have hu30 := Try.underlying30
 have hu44 := Try.underlying44
 have HI0 := Aside0.mk hI
 have HK := Aside0.mk (KeepBut.refl w g none)
 have HL := Aside0.mk hB.size
 clear hI
 have HW0 := Aside0.mk hB.size
 have HB := Aside0.mk hB
 clear hB
 have H : ((spec_l1DrawPool.f k s0_0 s0_1 s0_2 24).bind fun bt289 => ((spec_l1Below.f s0_0 bt289.2.1 bt289.2.2 25).bind fun bt295 => (if bt295.1 = 0 then ((spec_l1Copy.f bt289.1).bind fun t298 => ((spec_l1DrawNode.f k s0_0 bt295.2.1 bt295.2.2 3).bind fun bt301 => (if t298.length < 5864062014805 then (spec_l1DrawAny.j0 k s0_0 bt301.2.2.2.1 bt301.2.2.2.2 (t298 ++ [(⟨bt301.1, bt301.2.1, bt301.2.2.1⟩ : S44)])) else (none)))) else (if bt295.1 = 1 then ((spec_l1Copy.f bt289.1).bind fun t309 => ((spec_l1Below.f s0_0 bt295.2.1 bt295.2.2 10).bind fun bt312 => ((spec_l1Below.f s0_0 bt312.2.1 bt312.2.2 30).bind fun bt315 => ((spec_l1Below.f s0_0 bt315.2.1 bt315.2.2 30).bind fun bt318 => (if t309.length < 5864062014805 then (spec_l1DrawAny.j0 k s0_0 bt318.2.1 bt318.2.2 (t309 ++ [(⟨bt312.1, wrap64 (bt315.1 - 1), wrap64 (bt318.1 - 1)⟩ : S44)])) else (none)))))) else (spec_l1DrawAny.j0 k s0_0 bt295.2.1 bt295.2.2 bt289.1))))) = some (r1, r2, r3) := h
 clear h
 replace H := Option.bind_eq_some_iff.mp H
 obtain ⟨⟨t289, t292, t293⟩, A20, H⟩ := H
 replace H : ((spec_l1Below.f s0_0 t292 t293 25).bind fun bt295 => (if bt295.1 = 0 then ((spec_l1Copy.f t289).bind fun t298 => ((spec_l1DrawNode.f k s0_0 bt295.2.1 bt295.2.2 3).bind fun bt301 => (if t298.length < 5864062014805 then (spec_l1DrawAny.j0 k s0_0 bt301.2.2.2.1 bt301.2.2.2.2 (t298 ++ [(⟨bt301.1, bt301.2.1, bt301.2.2.1⟩ : S44)])) else (none)))) else (if bt295.1 = 1 then ((spec_l1Copy.f t289).bind fun t309 => ((spec_l1Below.f s0_0 bt295.2.1 bt295.2.2 10).bind fun bt312 => ((spec_l1Below.f s0_0 bt312.2.1 bt312.2.2 30).bind fun bt315 => ((spec_l1Below.f s0_0 bt315.2.1 bt315.2.2 30).bind fun bt318 => (if t309.length < 5864062014805 then (spec_l1DrawAny.j0 k s0_0 bt318.2.1 bt318.2.2 (t309 ++ [(⟨bt312.1, wrap64 (bt315.1 - 1), wrap64 (bt318.1 - 1)⟩ : S44)])) else (none)))))) else (spec_l1DrawAny.j0 k s0_0 bt295.2.1 bt295.2.2 t289)))) = some (r1, r2, r3) := H
 have A2 := Aside0.mk A20
 clear A20
 replace H := Option.bind_eq_some_iff.mp H
 obtain ⟨⟨t295, t296, t297⟩, A30, H⟩ := H
 replace H : (if t295 = 0 then ((spec_l1Copy.f t289).bind fun t298 => ((spec_l1DrawNode.f k s0_0 t296 t297 3).bind fun bt301 => (if t298.length < 5864062014805 then (spec_l1DrawAny.j0 k s0_0 bt301.2.2.2.1 bt301.2.2.2.2 (t298 ++ [(⟨bt301.1, bt301.2.1, bt301.2.2.1⟩ : S44)])) else (none)))) else (if t295 = 1 then ((spec_l1Copy.f t289).bind fun t309 => ((spec_l1Below.f s0_0 t296 t297 10).bind fun bt312 => ((spec_l1Below.f s0_0 bt312.2.1 bt312.2.2 30).bind fun bt315 => ((spec_l1Below.f s0_0 bt315.2.1 bt315.2.2 30).bind fun bt318 => (if t309.length < 5864062014805 then (spec_l1DrawAny.j0 k s0_0 bt318.2.1 bt318.2.2 (t309 ++ [(⟨bt312.1, wrap64 (bt315.1 - 1), wrap64 (bt318.1 - 1)⟩ : S44)])) else (none)))))) else (spec_l1DrawAny.j0 k s0_0 t296 t297 t289))) = some (r1, r2, r3) := H
 have A3 := Aside0.mk A30
 clear A30
 have HC4 := Aside0.mk H
 clear H
 have hfldP := fldP_
 go_enter Try.func44, Try.ntmps44
 go_upto_block 0 with (first | ((with_reducible refine gate_dst (N := 2) rfl ?_); refine box_event ?hg (N := 2) ?hd (cs := #[.slice none 0 0]) (t := 30) ?hr ?_; (case hd => rfl); (case hg => rfl); (case hr => first | (go_simp; done) | (go_simp; rfl)); intro gb288 hg w5 hbox hb; have n0_ := Aside0.mk (IsS89.below (zi89 HI0.out) hb); have n1_ := Aside0.mk (KeepBut.trans (zq HK.out) (KeepBut.of_below hb g none) (.inl rfl)); have n2_ := Aside0.mk (below_step (zj HB.out (IsS89.ge HI0.out)) hb); have n3_ := Aside0.mk (hbox); have n4_ := Aside0.mk ((by rw [hg]; exact (keep_size (w := w) (g := g) (row := none) (zq HK.out)) : w.heap.size ≤ gb288)); have n5_ := Aside0.mk ((Nat.le_trans HW0.out (by rw [hg]; exact (keep_size (w := w) (g := g) (row := none) (zq HK.out)) : w.heap.size ≤ gb288) : w0.heap.size ≤ gb288)); have n6_ := Aside0.mk ((by rw [hg]; exact Nat.ne_of_lt (IsS89.lt (show IsS89 w0 _ g s0_0 s0_1 s0_2 from zi89 HI0.out)) : g ≠ gb288)); have n7_ := Aside0.mk ((by rw [hg]; exact Nat.ne_of_gt (IsS89.lt (show IsS89 w0 _ g s0_0 s0_1 s0_2 from zi89 HI0.out)) : gb288 ≠ g)); clear HI0; clear HK; clear HB; have HI0 := n0_; have HK := n1_; have HB := n2_; have BK288 := n3_; have GW288 := n4_; have GE288 := n5_; have NB0_288 := n6_; have NB288_0 := n7_; clear n0_ n1_ n2_ n3_ n4_ n5_ n6_ n7_; clear hb hbox hg) | ((with_reducible refine gate_callee (f := 73) rfl ?_); refine goesL_ (some 5) rfl rfl Try.func73 (by kernel_rfl) rfl #[.pointer (some ⟨g, 0, none⟩), .int .i64 24] rfl zl ?_; (with_reducible refine (spec_l1DrawPool.calls k g s0_0 s0_1 s0_2 24 t289 t292 t293 w0 _ ?side1 ?side2 A2.out).mono ?_); (case side1 => exact zi89 HI0.out); (case side2 => exact zj HB.out (IsS89.ge HI0.out)); rintro e w6 ⟨v290, rfl, ho0, hi, hb, hk⟩; refine ⟨_, rfl, ?_⟩; have n0_ := Aside0.mk (KeepBut.blk hk (g' := gb288) (o := .cells #[.slice none 0 0] 30 (0, 0)) (zh BK288.out) NB288_0.out (by simp)); have n1_ := Aside0.mk (Kd.R_lower ho0 (keep_size (w := w) (g := g) (row := none) (zq HK.out))); have n2_ := Aside0.mk (KeepBut.trans (zq HK.out) hk (.inl rfl)); have n3_ := Aside0.mk (hb); have n4_ := Aside0.mk (hi); clear BK288; clear HK; clear HB; clear HI0; have BK288 := n0_; have HO291 := n1_; have HK := n2_; have HB := n3_; have HI0 := n4_; clear n0_ n1_ n2_ n3_ n4_; (try clear hb); (try clear hb2); (try clear hk); (try clear hi); (try clear ho0)) | ((with_reducible refine gate_dst (N := 3) rfl ?_); refine box_event ?hg (N := 3) ?hd (cs := #[.slice none 0 0]) (t := 30) ?hr ?_; (case hd => rfl); (case hg => rfl); (case hr => first | (go_simp; done) | (go_simp; rfl)); intro gb294 hg w7 hbox hb; have n0_ := Aside0.mk (Kd.R_below (zr HO291.out) hb); have n1_ := Aside0.mk (IsS89.below (zi89 HI0.out) hb); have n2_ := Aside0.mk (blk_below (zh BK288.out) hb); have n3_ := Aside0.mk (KeepBut.trans (zq HK.out) (KeepBut.of_below hb g none) (.inl rfl)); have n4_ := Aside0.mk (below_step (zj HB.out (IsS89.ge HI0.out)) hb); have n5_ := Aside0.mk (hbox); have n6_ := Aside0.mk ((by rw [hg]; exact (keep_size (w := w) (g := g) (row := none) (zq HK.out)) : w.heap.size ≤ gb294)); have n7_ := Aside0.mk ((Nat.le_trans HW0.out (by rw [hg]; exact (keep_size (w := w) (g := g) (row := none) (zq HK.out)) : w.heap.size ≤ gb294) : w0.heap.size ≤ gb294)); have n8_ := Aside0.mk ((by rw [hg]; exact Nat.ne_of_lt (blk_lt (zh BK288.out)) : gb288 ≠ gb294)); have n9_ := Aside0.mk ((by rw [hg]; exact Nat.ne_of_gt (blk_lt (zh BK288.out)) : gb294 ≠ gb288)); have n10_ := Aside0.mk ((by rw [hg]; exact Nat.ne_of_lt (IsS89.lt (show IsS89 w0 _ g s0_0 t292 t293 from zi89 HI0.out)) : g ≠ gb294)); have n11_ := Aside0.mk ((by rw [hg]; exact Nat.ne_of_gt (IsS89.lt (show IsS89 w0 _ g s0_0 t292 t293 from zi89 HI0.out)) : gb294 ≠ g)); clear HO291; clear HI0; clear BK288; clear HK; clear HB; have HO291 := n0_; have HI0 := n1_; have BK288 := n2_; have HK := n3_; have HB := n4_; have BK294 := n5_; have GW294 := n6_; have GE294 := n7_; have NB288_294 := n8_; have NB294_288 := n9_; have NB0_294 := n10_; have NB294_0 := n11_; clear n0_ n1_ n2_ n3_ n4_ n5_ n6_ n7_ n8_ n9_ n10_ n11_; clear hb hbox hg; obtain ⟨Ao8, co8, eo8⟩ := Kd.R_slice HO291.out; subst eo8; have hnb9 := NB294_288.out; have hnc9 := NB288_294.out; have hnb10 := NB294_0.out; have hnc10 := NB0_294.out; have hcz11_0 : w7.cell? ⟨gb294, 0, none⟩ = some (.slice none 0 0) := (blk_cell BK294.out 0).trans rfl; have hfz11_0 := blk_frozen BK294.out 0) | ((with_reducible refine gate_callee (f := 74) rfl ?_); refine goesL_ (some 7) rfl rfl Try.func74 (by kernel_rfl) rfl #[.pointer (some ⟨g, 0, none⟩), .int .i64 25] rfl zl ?_; (with_reducible refine (spec_l1Below.calls g s0_0 t292 t293 25 t295 t296 t297 w0 _ ?side1 ?side2 A3.out).mono ?_); (case side1 => exact zi89 HI0.out); (case side2 => exact zj HB.out (IsS89.ge HI0.out)); rintro e w12 ⟨rfl, hi, hb, hk⟩; refine ⟨_, rfl, ?_⟩; have n0_ := Aside0.mk (KeepBut.blk hk (g' := gb288) (o := .cells #[.slice none 0 0] 30 (0, 0)) (zf BK288.out) NB288_0.out (by simp)); have n1_ := Aside0.mk (Kd.R_mono (Kd.R_keep (IsS89.apart (show IsS89 w0 _ g s0_0 t292 t293 from zi89 HI0.out) (by (with_reducible repeat (first | apply Kd.R_alloc | apply Kd.R_drewN | apply Kd.R_drew)); exact (Kd.R_mono (Kd.R_far (p := ⟨gb294, 0, none⟩) (Kd.R_types HO291.out BK294.out (by decide)) (fun _ hk => hk.2) (.slice Ao8 t289.length co8)) (fun _ h_ => h_.1))) (by decide)) hk (fun _ h => h.2)) (fun _ h => h.1)); have n2_ := Aside0.mk (KeepBut.blk hk (g' := gb294) (o := .cells #[.slice Ao8 t289.length co8] 30 (0, 0)) (by (with_reducible repeat (first | refine blk_drewN ?_ _ | refine blk_drew ?_ | refine blk_alloc ?_ _)); refine blk_put (cs := #[.slice none 0 0]) ?_ 0 _ rfl; (with_reducible repeat (first | refine blk_drewN ?_ _ | refine blk_drew ?_ | refine blk_alloc ?_ _)); exact BK294.out) NB294_0.out (by simp)); have n3_ := Aside0.mk (KeepBut.trans (zq HK.out) hk (.inl rfl)); have n4_ := Aside0.mk (hb); have n5_ := Aside0.mk (hi); clear BK288; clear HO291; clear BK294; clear HK; clear HB; clear HI0; have BK288 := n0_; have HO291 := n1_; have BK294 := n2_; have HK := n3_; have HB := n4_; have HI0 := n5_; clear n0_ n1_ n2_ n3_ n4_ n5_; (try clear hb); (try clear hb2); (try clear hk); (try clear hi)))
 (try simp only [Act.put, List.setIfInBounds_toArray, List.set_cons_zero, List.set_cons_succ])
 go_cut [] (fun wc => ∃ (kq : Nat) (x1001_3 : Int) (x1002_3 : Int) (x295000_3 : List (S44)) (u295000 : Value), Aside0 (spec_l1DrawAny.j0 kq s0_0 x1001_3 x1002_3 x295000_3 = some (r1, r2, r3)) ∧ Aside0 (kq ≤ k) ∧ Aside0 (Kd.R k44 44 wc w.heap.size (fun _ => True) u295000 x295000_3) ∧ Aside0 (wc.heap[gb288]? = some (.cells #[(.slice none 0 0)] 30 (0, 0))) ∧ Aside0 (wc.heap[gb294]? = some (.cells #[u295000] 30 (0, 0))) ∧ Aside0 (IsS89 w0 wc g s0_0 x1001_3 x1002_3) ∧ Aside0 (KeepBut w wc g none) ∧ Aside0 (Below w0.heap.size w0 wc))
 case first =>
  have H := HC4.out
  clear HC4
  by_cases c13 : t295 = 0
  ·rw [if_pos c13] at H
   have c13b0 : (t295 == 0) = true := beq_iff_eq.mpr c13
   have c13b1 : (t295 != 0) = false := bne_eq_false_iff_eq.mpr c13
   clear c13
   (first | rw [c13b0] | (simp only [i64_w, i32_w]; rw [c13b0]) | skip)
   replace H := Option.bind_eq_some_iff.mp H
   obtain ⟨t298, A140, H⟩ := H
   replace H : ((spec_l1DrawNode.f k s0_0 t296 t297 3).bind fun bt301 => (if t298.length < 5864062014805 then (spec_l1DrawAny.j0 k s0_0 bt301.2.2.2.1 bt301.2.2.2.2 (t298 ++ [(⟨bt301.1, bt301.2.1, bt301.2.2.1⟩ : S44)])) else (none))) = some (r1, r2, r3) := H
   have A14 := Aside0.mk A140
   clear A140
   replace H := Option.bind_eq_some_iff.mp H
   obtain ⟨⟨t301, t302, t303, t304, t305⟩, A150, H⟩ := H
   replace H : (if t298.length < 5864062014805 then (spec_l1DrawAny.j0 k s0_0 t304 t305 (t298 ++ [(⟨t301, t302, t303⟩ : S44)])) else (none)) = some (r1, r2, r3) := H
   have A15 := Aside0.mk A150
   clear A150
   by_cases c16 : t298.length < 5864062014805
   ·rw [if_pos c16] at H
    have LMc16 := Aside0.mk c16
    clear c16
    obtain ⟨y306, hy306⟩ : ∃ y_ : List (S44), y_ = (t298 ++ [(⟨t301, t302, t303⟩ : S44)]) := ⟨_, rfl⟩
    replace H : (spec_l1DrawAny.j0 k s0_0 t304 t305 y306) = some (r1, r2, r3) := by first | (rw [hy306]; with_reducible exact H) | (have H2_ := (Option.bind_some _ _).symm.trans H; rw [hy306]; with_reducible exact H2_) | (have H2_ := (Option.bind_some _ _).symm.trans H; with_reducible exact H2_) | with_reducible exact H | (rw [hy306]; exact H) | exact H
    have Ny306 := Aside0.mk hy306
    clear hy306
    have H' := Aside0.mk H
    clear H
    have hnb17 := NB294_288.out
    have hnc17 := NB288_294.out
    have hnb18 := NB294_0.out
    have hnc18 := NB0_294.out
    have hcz19_0 : w12.cell? ⟨gb294, 0, none⟩ = some (.slice Ao8 t289.length co8) := (blk_cell BK294.out 0).trans rfl
    have hfz19_0 := blk_frozen BK294.out 0
    go_wp2_with (first | ((with_reducible refine gate_callee (f := 75) rfl ?_); refine goesL_ (some 11) rfl rfl Try.func75 (by kernel_rfl) rfl #[.agg #[.slice Ao8 t289.length co8]] rfl zl ?_; (with_reducible refine (spec_l1Copy.calls _ _ t289 t298 _ ?side1 ?side2 A14.out).mono ?_); (case side1 => exact zc (Kd.R_reads' HO291.out).2.2); (case side2 => exact (Kd.R_reads' HO291.out).2.1); rintro e w20 ⟨v299, rfl, ho0, hb⟩; refine ⟨_, rfl, ?_⟩; have n0_ := Aside0.mk (Kd.R_elder' (zr HO291.out) (Kd.R_base ho0) hb); have n1_ := Aside0.mk (Kd.R_lower (Kd.R_new' ho0 (Kd.R_lt (zr HO291.out))) (keep_size (w := w) (g := g) (row := none) (zq HK.out))); have n2_ := Aside0.mk (IsS89.below (zi89 HI0.out) hb); have n3_ := Aside0.mk (blk_below (zh BK288.out) hb); have n4_ := Aside0.mk (blk_below (zh BK294.out) hb); have n5_ := Aside0.mk (KeepBut.trans (zq HK.out) (KeepBut.of_below hb g none) (.inl rfl)); have n6_ := Aside0.mk (below_step (zj HB.out (IsS89.ge HI0.out)) hb); clear HO291; clear HI0; clear BK288; clear BK294; clear HK; clear HB; have HO291 := n0_; have HO300 := n1_; have HI0 := n2_; have BK288 := n3_; have BK294 := n4_; have HK := n5_; have HB := n6_; clear n0_ n1_ n2_ n3_ n4_ n5_ n6_; (try clear hb); (try clear hb2); (try clear hk); (try clear hi); (try clear ho0)) | ((with_reducible refine gate_callee (f := 76) rfl ?_); refine goesL_ (some 14) rfl rfl Try.func76 (by kernel_rfl) rfl #[.pointer (some ⟨g, 0, none⟩), .int .i64 3] rfl zl ?_; (with_reducible refine (spec_l1DrawNode.calls k g s0_0 t296 t297 3 t301 t302 t303 t304 t305 w0 _ ?side1 ?side2 A15.out).mono ?_); (case side1 => exact zi89 HI0.out); (case side2 => exact zj HB.out (IsS89.ge HI0.out)); rintro e w21 ⟨rfl, hi, hb, hk⟩; refine ⟨_, rfl, ?_⟩; have n0_ := Aside0.mk (KeepBut.blk hk (g' := gb288) (o := .cells #[.slice none 0 0] 30 (0, 0)) (zh BK288.out) NB288_0.out (by simp)); have n1_ := Aside0.mk (Kd.R_mono (Kd.R_keep (IsS89.apart (show IsS89 w0 _ g s0_0 t296 t297 from zi89 HI0.out) (zr HO291.out) (by decide)) hk (fun _ h => h.2)) (fun _ h => h.1)); have n2_ := Aside0.mk (KeepBut.blk hk (g' := gb294) (o := .cells #[.slice Ao8 t289.length co8] 30 (0, 0)) (zh BK294.out) NB294_0.out (by simp)); have n3_ := Aside0.mk (Kd.R_mono (Kd.R_keep (IsS89.apart (show IsS89 w0 _ g s0_0 t296 t297 from zi89 HI0.out) (zr HO300.out) (by decide)) hk (fun _ h => h.2)) (fun _ h => h.1)); have n4_ := Aside0.mk (KeepBut.trans (zq HK.out) hk (.inl rfl)); have n5_ := Aside0.mk (hb); have n6_ := Aside0.mk (hi); clear BK288; clear HO291; clear BK294; clear HO300; clear HK; clear HB; clear HI0; have BK288 := n0_; have HO291 := n1_; have BK294 := n2_; have HO300 := n3_; have HK := n4_; have HB := n5_; have HI0 := n6_; clear n0_ n1_ n2_ n3_ n4_ n5_ n6_; (try clear hb); (try clear hb2); (try clear hk); (try clear hi)) | ((with_reducible refine gate_builtin (b := .append) (xs := #[.tmp 12, .tmp 15]) rfl ?_); at_builtin; refine Kd.R_append k44 w.heap.size rfl (.tmp 12) (.tmp 15) 28 44 (.agg #[(.int .i64 0), (.int .i64 0), (.int .i64 0)]) 24 rfl Try.underlying28 info44 rfl (by decide) (by omega) v299 t298 (⟨t301, t302, t303⟩ : S44) [.int .i64 t301, .int .i64 t302, .int .i64 t303] (fun k_ => some k_ ≠ (.slice Ao8 t289.length co8 : Value).ownBlock) (fun _ => False) rfl rfl ?aP (fun _ hk => hk.elim) ?aF ?aO (Below.refl _ _) ?aS ?aL ?_; (case aP => exact k44_mkM _ _ _ (⟨t301, t302, t303⟩ : S44)); (case aF => exact (fun k_ hk => Kd.fresh' (Kd.R_lt (zr HO291.out)) k_ hk)); (case aO => exact (by (with_reducible repeat (first | apply Kd.R_alloc | apply Kd.R_drewN | apply Kd.R_drew)); exact Kd.R_mono HO300.out (fun _ hk => hk.2))); (case aS => exact (keep_size (w := w) (g := g) (row := none) (zq HK.out))); (case aL => have := LMc16.out; omega); intro v307 w22 ho hb hg hat; rw [← Ny306.out] at ho; have n0_ := Aside0.mk (IsS89.grown (zi89 HI0.out) hg (IsS89.own_ne HI0.out HO300.out (by decide))); have n1_ := Aside0.mk (blk_grown (zh BK288.out) hg (Kd.R_ne HO300.out BK288.out (by decide))); have n2_ := Aside0.mk (Kd.R_after (ok := (fun _ => True)) (zr HO291.out) hg hat); have n3_ := Aside0.mk (blk_grown (zh BK294.out) hg (Kd.R_ne HO300.out BK294.out (by decide))); have n4_ := Aside0.mk (below_weaken (zj HB.out (IsS89.ge HI0.out)) HL.out hb); have n5_ := Aside0.mk (KeepBut.trans (zq HK.out) (KeepBut.of_grown hg g) (Kd.R_base2 HO300.out)); have n6_ := Aside0.mk (ho); clear HI0; clear BK288; clear HO291; clear BK294; clear HB; clear HK; clear HO300; have HI0 := n0_; have BK288 := n1_; have HO291 := n2_; have BK294 := n3_; have HB := n4_; have HK := n5_; have HO308 := n6_; clear n0_ n1_ n2_ n3_ n4_ n5_ n6_; clear ho hb hg hat; obtain ⟨Ao23, co23, eo23⟩ := Kd.R_slice HO308.out; subst eo23; have hcz24_0 : w22.cell? ⟨gb294, 0, none⟩ = some (.slice Ao8 t289.length co8) := (blk_cell BK294.out 0).trans rfl; have hfz24_0 := blk_frozen BK294.out 0))
    go_meet
    case rel => exact ⟨_, (t304), (t305), (y306), (.slice Ao23 y306.length co23), H', ⟨by first | omega | exact Nat.le_refl _⟩, ⟨zr (Kd.R_mono (Kd.R_far (p := ⟨gb294, 0, none⟩) (Kd.R_types HO308.out BK294.out (by decide)) (fun _ hk => hk.2) (.slice Ao23 y306.length co23)) (fun _ hk => trivial))⟩, ⟨zf BK288.out⟩, ⟨by (with_reducible repeat (first | refine blk_drewN ?_ _ | refine blk_drew ?_ | refine blk_alloc ?_ _)); refine blk_put (cs := #[.slice Ao8 t289.length co8]) ?_ 0 _ rfl; (with_reducible repeat (first | refine blk_drewN ?_ _ | refine blk_drew ?_ | refine blk_alloc ?_ _)); exact BK294.out⟩, ⟨zi89 HI0.out⟩, ⟨zq HK.out⟩, ⟨zj HB.out (IsS89.ge HI0.out)⟩⟩
   ·rw [if_neg c16] at H
    exact absurd H (by simp)
  ·rw [if_neg c13] at H
   have c13b0 : (t295 == 0) = false := beq_eq_false_iff_ne.mpr c13
   have c13b1 : (t295 != 0) = true := bne_iff_ne.mpr c13
   (first | rw [c13b0] | (simp only [i64_w, i32_w]; rw [c13b0]) | skip)
   by_cases c25 : t295 = 1
   ·rw [if_pos c25] at H
    have c25b0 : (t295 == 1) = true := beq_iff_eq.mpr c25
    have c25b1 : (t295 != 1) = false := bne_eq_false_iff_eq.mpr c25
    clear c25
    replace H := Option.bind_eq_some_iff.mp H
    obtain ⟨t309, A260, H⟩ := H
    replace H : ((spec_l1Below.f s0_0 t296 t297 10).bind fun bt312 => ((spec_l1Below.f s0_0 bt312.2.1 bt312.2.2 30).bind fun bt315 => ((spec_l1Below.f s0_0 bt315.2.1 bt315.2.2 30).bind fun bt318 => (if t309.length < 5864062014805 then (spec_l1DrawAny.j0 k s0_0 bt318.2.1 bt318.2.2 (t309 ++ [(⟨bt312.1, wrap64 (bt315.1 - 1), wrap64 (bt318.1 - 1)⟩ : S44)])) else (none))))) = some (r1, r2, r3) := H
    have A26 := Aside0.mk A260
    clear A260
    replace H := Option.bind_eq_some_iff.mp H
    obtain ⟨⟨t312, t313, t314⟩, A270, H⟩ := H
    replace H : ((spec_l1Below.f s0_0 t313 t314 30).bind fun bt315 => ((spec_l1Below.f s0_0 bt315.2.1 bt315.2.2 30).bind fun bt318 => (if t309.length < 5864062014805 then (spec_l1DrawAny.j0 k s0_0 bt318.2.1 bt318.2.2 (t309 ++ [(⟨t312, wrap64 (bt315.1 - 1), wrap64 (bt318.1 - 1)⟩ : S44)])) else (none)))) = some (r1, r2, r3) := H
    have A27 := Aside0.mk A270
    clear A270
    replace H := Option.bind_eq_some_iff.mp H
    obtain ⟨⟨t315, t316, t317⟩, A280, H⟩ := H
    replace H : ((spec_l1Below.f s0_0 t316 t317 30).bind fun bt318 => (if t309.length < 5864062014805 then (spec_l1DrawAny.j0 k s0_0 bt318.2.1 bt318.2.2 (t309 ++ [(⟨t312, wrap64 (t315 - 1), wrap64 (bt318.1 - 1)⟩ : S44)])) else (none))) = some (r1, r2, r3) := H
    have A28 := Aside0.mk A280
    clear A280
    replace H := Option.bind_eq_some_iff.mp H
    obtain ⟨⟨t318, t319, t320⟩, A290, H⟩ := H
    replace H : (if t309.length < 5864062014805 then (spec_l1DrawAny.j0 k s0_0 t319 t320 (t309 ++ [(⟨t312, wrap64 (t315 - 1), wrap64 (t318 - 1)⟩ : S44)])) else (none)) = some (r1, r2, r3) := H
    have A29 := Aside0.mk A290
    clear A290
    by_cases c30 : t309.length < 5864062014805
    ·rw [if_pos c30] at H
     have LMc30 := Aside0.mk c30
     clear c30
     obtain ⟨y321, hy321⟩ : ∃ y_ : List (S44), y_ = (t309 ++ [(⟨t312, wrap64 (t315 - 1), wrap64 (t318 - 1)⟩ : S44)]) := ⟨_, rfl⟩
     replace H : (spec_l1DrawAny.j0 k s0_0 t319 t320 y321) = some (r1, r2, r3) := by first | (rw [hy321]; with_reducible exact H) | (have H2_ := (Option.bind_some _ _).symm.trans H; rw [hy321]; with_reducible exact H2_) | (have H2_ := (Option.bind_some _ _).symm.trans H; with_reducible exact H2_) | with_reducible exact H | (rw [hy321]; exact H) | exact H
     have Ny321 := Aside0.mk hy321
     clear hy321
     have H' := Aside0.mk H
     clear H
     have hnb31 := NB294_288.out
     have hnc31 := NB288_294.out
     have hnb32 := NB294_0.out
     have hnc32 := NB0_294.out
     have hcz33_0 : w12.cell? ⟨gb294, 0, none⟩ = some (.slice Ao8 t289.length co8) := (blk_cell BK294.out 0).trans rfl
     have hfz33_0 := blk_frozen BK294.out 0
     go_wp2_with (first | ((with_reducible refine gate_callee (f := 75) rfl ?_); refine goesL_ (some 21) rfl rfl Try.func75 (by kernel_rfl) rfl #[.agg #[.slice Ao8 t289.length co8]] rfl zl ?_; (with_reducible refine (spec_l1Copy.calls _ _ t289 t309 _ ?side1 ?side2 A26.out).mono ?_); (case side1 => exact zc (Kd.R_reads' HO291.out).2.2); (case side2 => exact (Kd.R_reads' HO291.out).2.1); rintro e w34 ⟨v310, rfl, ho0, hb⟩; refine ⟨_, rfl, ?_⟩; have n0_ := Aside0.mk (Kd.R_elder' (zr HO291.out) (Kd.R_base ho0) hb); have n1_ := Aside0.mk (Kd.R_lower (Kd.R_new' ho0 (Kd.R_lt (zr HO291.out))) (keep_size (w := w) (g := g) (row := none) (zq HK.out))); have n2_ := Aside0.mk (IsS89.below (zi89 HI0.out) hb); have n3_ := Aside0.mk (blk_below (zh BK288.out) hb); have n4_ := Aside0.mk (blk_below (zh BK294.out) hb); have n5_ := Aside0.mk (KeepBut.trans (zq HK.out) (KeepBut.of_below hb g none) (.inl rfl)); have n6_ := Aside0.mk (below_step (zj HB.out (IsS89.ge HI0.out)) hb); clear HO291; clear HI0; clear BK288; clear BK294; clear HK; clear HB; have HO291 := n0_; have HO311 := n1_; have HI0 := n2_; have BK288 := n3_; have BK294 := n4_; have HK := n5_; have HB := n6_; clear n0_ n1_ n2_ n3_ n4_ n5_ n6_; (try clear hb); (try clear hb2); (try clear hk); (try clear hi); (try clear ho0)) | ((with_reducible refine gate_callee (f := 74) rfl ?_); refine goesL_ (some 24) rfl rfl Try.func74 (by kernel_rfl) rfl #[.pointer (some ⟨g, 0, none⟩), .int .i64 10] rfl zl ?_; (with_reducible refine (spec_l1Below.calls g s0_0 t296 t297 10 t312 t313 t314 w0 _ ?side1 ?side2 A27.out).mono ?_); (case side1 => exact zi89 HI0.out); (case side2 => exact zj HB.out (IsS89.ge HI0.out)); rintro e w35 ⟨rfl, hi, hb, hk⟩; refine ⟨_, rfl, ?_⟩; have n0_ := Aside0.mk (KeepBut.blk hk (g' := gb288) (o := .cells #[.slice none 0 0] 30 (0, 0)) (zh BK288.out) NB288_0.out (by simp)); have n1_ := Aside0.mk (Kd.R_mono (Kd.R_keep (IsS89.apart (show IsS89 w0 _ g s0_0 t296 t297 from zi89 HI0.out) (zr HO291.out) (by decide)) hk (fun _ h => h.2)) (fun _ h => h.1)); have n2_ := Aside0.mk (KeepBut.blk hk (g' := gb294) (o := .cells #[.slice Ao8 t289.length co8] 30 (0, 0)) (zh BK294.out) NB294_0.out (by simp)); have n3_ := Aside0.mk (Kd.R_mono (Kd.R_keep (IsS89.apart (show IsS89 w0 _ g s0_0 t296 t297 from zi89 HI0.out) (zr HO311.out) (by decide)) hk (fun _ h => h.2)) (fun _ h => h.1)); have n4_ := Aside0.mk (KeepBut.trans (zq HK.out) hk (.inl rfl)); have n5_ := Aside0.mk (hb); have n6_ := Aside0.mk (hi); clear BK288; clear HO291; clear BK294; clear HO311; clear HK; clear HB; clear HI0; have BK288 := n0_; have HO291 := n1_; have BK294 := n2_; have HO311 := n3_; have HK := n4_; have HB := n5_; have HI0 := n6_; clear n0_ n1_ n2_ n3_ n4_ n5_ n6_; (try clear hb); (try clear hb2); (try clear hk); (try clear hi)) | ((with_reducible refine gate_callee (f := 74) rfl ?_); refine goesL_ (some 26) rfl rfl Try.func74 (by kernel_rfl) rfl #[.pointer (some ⟨g, 0, none⟩), .int .i64 30] rfl zl ?_; (with_reducible refine (spec_l1Below.calls g s0_0 t313 t314 30 t315 t316 t317 w0 _ ?side1 ?side2 A28.out).mono ?_); (case side1 => exact zi89 HI0.out); (case side2 => exact zj HB.out (IsS89.ge HI0.out)); rintro e w36 ⟨rfl, hi, hb, hk⟩; refine ⟨_, rfl, ?_⟩; have n0_ := Aside0.mk (KeepBut.blk hk (g' := gb288) (o := .cells #[.slice none 0 0] 30 (0, 0)) (zh BK288.out) NB288_0.out (by simp)); have n1_ := Aside0.mk (Kd.R_mono (Kd.R_keep (IsS89.apart (show IsS89 w0 _ g s0_0 t313 t314 from zi89 HI0.out) (zr HO291.out) (by decide)) hk (fun _ h => h.2)) (fun _ h => h.1)); have n2_ := Aside0.mk (KeepBut.blk hk (g' := gb294) (o := .cells #[.slice Ao8 t289.length co8] 30 (0, 0)) (zh BK294.out) NB294_0.out (by simp)); have n3_ := Aside0.mk (Kd.R_mono (Kd.R_keep (IsS89.apart (show IsS89 w0 _ g s0_0 t313 t314 from zi89 HI0.out) (zr HO311.out) (by decide)) hk (fun _ h => h.2)) (fun _ h => h.1)); have n4_ := Aside0.mk (KeepBut.trans (zq HK.out) hk (.inl rfl)); have n5_ := Aside0.mk (hb); have n6_ := Aside0.mk (hi); clear BK288; clear HO291; clear BK294; clear HO311; clear HK; clear HB; clear HI0; have BK288 := n0_; have HO291 := n1_; have BK294 := n2_; have HO311 := n3_; have HK := n4_; have HB := n5_; have HI0 := n6_; clear n0_ n1_ n2_ n3_ n4_ n5_ n6_; (try clear hb); (try clear hb2); (try clear hk); (try clear hi)) | ((with_reducible refine gate_callee (f := 74) rfl ?_); refine goesL_ (some 29) rfl rfl Try.func74 (by kernel_rfl) rfl #[.pointer (some ⟨g, 0, none⟩), .int .i64 30] rfl zl ?_; (with_reducible refine (spec_l1Below.calls g s0_0 t316 t317 30 t318 t319 t320 w0 _ ?side1 ?side2 A29.out).mono ?_); (case side1 => exact zi89 HI0.out); (case side2 => exact zj HB.out (IsS89.ge HI0.out)); rintro e w37 ⟨rfl, hi, hb, hk⟩; refine ⟨_, rfl, ?_⟩; have n0_ := Aside0.mk (KeepBut.blk hk (g' := gb288) (o := .cells #[.slice none 0 0] 30 (0, 0)) (zh BK288.out) NB288_0.out (by simp)); have n1_ := Aside0.mk (Kd.R_mono (Kd.R_keep (IsS89.apart (show IsS89 w0 _ g s0_0 t316 t317 from zi89 HI0.out) (zr HO291.out) (by decide)) hk (fun _ h => h.2)) (fun _ h => h.1)); have n2_ := Aside0.mk (KeepBut.blk hk (g' := gb294) (o := .cells #[.slice Ao8 t289.length co8] 30 (0, 0)) (zh BK294.out) NB294_0.out (by simp)); have n3_ := Aside0.mk (Kd.R_mono (Kd.R_keep (IsS89.apart (show IsS89 w0 _ g s0_0 t316 t317 from zi89 HI0.out) (zr HO311.out) (by decide)) hk (fun _ h => h.2)) (fun _ h => h.1)); have n4_ := Aside0.mk (KeepBut.trans (zq HK.out) hk (.inl rfl)); have n5_ := Aside0.mk (hb); have n6_ := Aside0.mk (hi); clear BK288; clear HO291; clear BK294; clear HO311; clear HK; clear HB; clear HI0; have BK288 := n0_; have HO291 := n1_; have BK294 := n2_; have HO311 := n3_; have HK := n4_; have HB := n5_; have HI0 := n6_; clear n0_ n1_ n2_ n3_ n4_ n5_ n6_; (try clear hb); (try clear hb2); (try clear hk); (try clear hi)) | ((with_reducible refine gate_builtin (b := .append) (xs := #[.tmp 22, .tmp 32]) rfl ?_); at_builtin; refine Kd.R_append k44 w.heap.size rfl (.tmp 22) (.tmp 32) 28 44 (.agg #[(.int .i64 0), (.int .i64 0), (.int .i64 0)]) 24 rfl Try.underlying28 info44 rfl (by decide) (by omega) v310 t309 (⟨t312, wrap64 (t315 - 1), wrap64 (t318 - 1)⟩ : S44) [.int .i64 t312, .int .i64 (wrap64 (t315 - 1)), .int .i64 (wrap64 (t318 - 1))] (fun k_ => some k_ ≠ (.slice Ao8 t289.length co8 : Value).ownBlock) (fun _ => False) rfl rfl ?aP (fun _ hk => hk.elim) ?aF ?aO (Below.refl _ _) ?aS ?aL ?_; (case aP => exact k44_mkM _ _ _ (⟨t312, wrap64 (t315 - 1), wrap64 (t318 - 1)⟩ : S44)); (case aF => exact (fun k_ hk => Kd.fresh' (Kd.R_lt (zr HO291.out)) k_ hk)); (case aO => exact (by (with_reducible repeat (first | apply Kd.R_alloc | apply Kd.R_drewN | apply Kd.R_drew)); exact Kd.R_mono HO311.out (fun _ hk => hk.2))); (case aS => exact (keep_size (w := w) (g := g) (row := none) (zq HK.out))); (case aL => have := LMc30.out; omega); intro v322 w38 ho hb hg hat; rw [← Ny321.out] at ho; have n0_ := Aside0.mk (IsS89.grown (zi89 HI0.out) hg (IsS89.own_ne HI0.out HO311.out (by decide))); have n1_ := Aside0.mk (blk_grown (zh BK288.out) hg (Kd.R_ne HO311.out BK288.out (by decide))); have n2_ := Aside0.mk (Kd.R_after (ok := (fun _ => True)) (zr HO291.out) hg hat); have n3_ := Aside0.mk (blk_grown (zh BK294.out) hg (Kd.R_ne HO311.out BK294.out (by decide))); have n4_ := Aside0.mk (below_weaken (zj HB.out (IsS89.ge HI0.out)) HL.out hb); have n5_ := Aside0.mk (KeepBut.trans (zq HK.out) (KeepBut.of_grown hg g) (Kd.R_base2 HO311.out)); have n6_ := Aside0.mk (ho); clear HI0; clear BK288; clear HO291; clear BK294; clear HB; clear HK; clear HO311; have HI0 := n0_; have BK288 := n1_; have HO291 := n2_; have BK294 := n3_; have HB := n4_; have HK := n5_; have HO323 := n6_; clear n0_ n1_ n2_ n3_ n4_ n5_ n6_; clear ho hb hg hat; obtain ⟨Ao39, co39, eo39⟩ := Kd.R_slice HO323.out; subst eo39; have hcz40_0 : w38.cell? ⟨gb294, 0, none⟩ = some (.slice Ao8 t289.length co8) := (blk_cell BK294.out 0).trans rfl; have hfz40_0 := blk_frozen BK294.out 0))
     go_meet
     case rel => exact ⟨_, (t319), (t320), (y321), (.slice Ao39 y321.length co39), H', ⟨by first | omega | exact Nat.le_refl _⟩, ⟨zr (Kd.R_mono (Kd.R_far (p := ⟨gb294, 0, none⟩) (Kd.R_types HO323.out BK294.out (by decide)) (fun _ hk => hk.2) (.slice Ao39 y321.length co39)) (fun _ hk => trivial))⟩, ⟨zf BK288.out⟩, ⟨by (with_reducible repeat (first | refine blk_drewN ?_ _ | refine blk_drew ?_ | refine blk_alloc ?_ _)); refine blk_put (cs := #[.slice Ao8 t289.length co8]) ?_ 0 _ rfl; (with_reducible repeat (first | refine blk_drewN ?_ _ | refine blk_drew ?_ | refine blk_alloc ?_ _)); exact BK294.out⟩, ⟨zi89 HI0.out⟩, ⟨zq HK.out⟩, ⟨zj HB.out (IsS89.ge HI0.out)⟩⟩
    ·rw [if_neg c30] at H
     exact absurd H (by simp)
   ·rw [if_neg c25] at H
    have c25b0 : (t295 == 1) = false := beq_eq_false_iff_ne.mpr c25
    have c25b1 : (t295 != 1) = true := bne_iff_ne.mpr c25
    have H' := Aside0.mk H
    clear H
    go_wp2
    go_meet
    case rel => exact ⟨_, (t296), (t297), (t289), (.slice Ao8 t289.length co8), H', ⟨by first | omega | exact Nat.le_refl _⟩, ⟨zr HO291.out⟩, ⟨zh BK288.out⟩, ⟨zh BK294.out⟩, ⟨zi89 HI0.out⟩, ⟨zq HK.out⟩, ⟨zj HB.out (IsS89.ge HI0.out)⟩⟩
 case rest =>
  clear HC4
  try clear c1
  try clear c2
  try clear p2
  try clear c3
  try clear c4
  try clear p6
  try clear c7
  try clear c9
  try clear c10
  try clear c13
  try clear c13b0
  try clear c13b1
  try clear c16
  try clear c17
  try clear c18
  try clear c25
  try clear c25b0
  try clear c25b1
  try clear c30
  try clear c31
  try clear c32
  try clear hcz11_0
  try clear hcz19_0
  try clear hcz24_0
  try clear hcz33_0
  try clear hcz40_0
  try clear hfz11_0
  try clear hfz19_0
  try clear hfz24_0
  try clear hfz33_0
  try clear hfz40_0
  obtain ⟨kq, x1001_3, x1002_3, x295000_3, u295000, HA, HJ3, HO_295000, BK288, BK294, HI0, HK, HB⟩ := hcut
  cases kq with
  | zero => exact absurd HA.out (by simp [spec_l1DrawAny.j0])
  | succ kj3 =>
   have H := HA.out
   clear HA
   simp only [spec_l1DrawAny.j0] at H
   replace H := Option.bind_eq_some_iff.mp H
   obtain ⟨⟨t324, t325, t326⟩, A410, H⟩ := H
   replace H : (if t324 = true then (spec_l1DrawAny.l0 kj3 s0_0 t325 t326 ([] : List (S44))) else (some (x295000_3, t325, t326))) = some (r1, r2, r3) := H
   have A41 := Aside0.mk A410
   clear A410
   by_cases c42 : t324 = true
   ·subst c42
    have H1 : (spec_l1DrawAny.l0 kj3 s0_0 t325 t326 ([] : List (S44))) = some (r1, r2, r3) := by rw [if_pos rfl] at H; exact H
    clear H
    have H := H1
    clear H1
    have H' := Aside0.mk H
    clear H
    go_wp2_with (first | ((with_reducible refine gate_callee (f := 77) rfl ?_); refine goesL_ (some 36) rfl rfl Try.func77 (by kernel_rfl) rfl #[.pointer (some ⟨g, 0, none⟩), .int .i64 80] rfl zl ?_; (with_reducible refine (spec_l1Once.calls g s0_0 x1001_3 x1002_3 80 true t325 t326 w0 _ ?side1 ?side2 A41.out).mono ?_); (case side1 => exact zi89 HI0.out); (case side2 => exact zj HB.out (IsS89.ge HI0.out)); rintro e w43 ⟨rfl, hi, hb, hk⟩; refine ⟨_, rfl, ?_⟩; have n0_ := Aside0.mk (Kd.R_mono (Kd.R_keep (IsS89.apart (show IsS89 w0 _ g s0_0 x1001_3 x1002_3 from zi89 HI0.out) (zr HO_295000.out) (by decide)) hk (fun _ h => h.2)) (fun _ h => h.1)); have n1_ := Aside0.mk (KeepBut.blk hk (g' := gb288) (o := .cells #[.slice none 0 0] 30 (0, 0)) (zh BK288.out) NB288_0.out (by simp)); have n2_ := Aside0.mk (KeepBut.blk hk (g' := gb294) (o := .cells #[u295000] 30 (0, 0)) (zh BK294.out) NB294_0.out (by simp)); have n3_ := Aside0.mk (KeepBut.trans (zq HK.out) hk (.inl rfl)); have n4_ := Aside0.mk (hb); have n5_ := Aside0.mk (hi); clear HO_295000; clear BK288; clear BK294; clear HK; clear HB; clear HI0; have HO_295000 := n0_; have BK288 := n1_; have BK294 := n2_; have HK := n3_; have HB := n4_; have HI0 := n5_; clear n0_ n1_ n2_ n3_ n4_ n5_; (try clear hb); (try clear hb2); (try clear hk); (try clear hi); have hnb44 := NB294_288.out; have hnc44 := NB288_294.out; have hnb45 := NB294_0.out; have hnc45 := NB0_294.out; have hcz46_0 : w43.cell? ⟨gb294, 0, none⟩ = some (u295000) := (blk_cell BK294.out 0).trans rfl; have hfz46_0 := blk_frozen BK294.out 0))
    go_loopg [] kj3 (fun kq w' => ∃ (x295000_2 : List (S44)) (u295000 : Value), Aside0 (spec_l1DrawAny.l0 kq s0_0 t325 t326 x295000_2 = some (r1, r2, r3)) ∧ Aside0 (kq ≤ kj3) ∧ Aside0 (Kd.R k44 44 w' w.heap.size (fun _ => True) u295000 x295000_2) ∧ Aside0 (w'.heap[gb288]? = some (.cells #[(.slice none 0 0)] 30 (0, 0))) ∧ Aside0 (w'.heap[gb294]? = some (.cells #[u295000] 30 (0, 0))) ∧ Aside0 (IsS89 w0 w' g s0_0 t325 t326) ∧ Aside0 (KeepBut w w' g none) ∧ Aside0 (Below w0.heap.size w0 w'))
    case atStart => exact ⟨(([] : List (S44))), (.slice none 0 0), H', ⟨Nat.le_refl _⟩, ⟨by first | exact Kd.R_nil _ _ _ _ _ | exact Kd.N_nil _ _ _ _ _ | exact Kd.V_nil _ _ _ _ _ | exact Kd.Q_nil _ _ _ _ _ | exact Kd.S_nil _ _ _ _ _⟩, ⟨zf BK288.out⟩, ⟨by (with_reducible repeat (first | refine blk_drewN ?_ _ | refine blk_drew ?_ | refine blk_alloc ?_ _)); refine blk_put (cs := #[u295000]) ?_ 0 _ rfl; (with_reducible repeat (first | refine blk_drewN ?_ _ | refine blk_drew ?_ | refine blk_alloc ?_ _)); exact BK294.out⟩, ⟨zi89 HI0.out⟩, ⟨zq HK.out⟩, ⟨zj HB.out (IsS89.ge HI0.out)⟩⟩
    case round =>
     clear H'
     try clear c1
     try clear c2
     try clear p2
     try clear c3
     try clear c4
     try clear p6
     try clear c7
     try clear c9
     try clear c10
     try clear c13
     try clear c13b0
     try clear c13b1
     try clear c16
     try clear c17
     try clear c18
     try clear c25
     try clear c25b0
     try clear c25b1
     try clear c30
     try clear c31
     try clear c32
     try clear c42
     try clear c44
     try clear c45
     try clear hcz11_0
     try clear hcz19_0
     try clear hcz24_0
     try clear hcz33_0
     try clear hcz40_0
     try clear hcz46_0
     try clear hfz11_0
     try clear hfz19_0
     try clear hfz24_0
     try clear hfz33_0
     try clear hfz40_0
     try clear hfz46_0
     try clear p2
     try clear p6
     obtain ⟨x295000_2, u295000, HA, HK2, HO_295000, BK288, BK294, HI0, HK, HB⟩ := hrel
     cases gk with
     | zero => exact absurd HA.out (by simp [spec_l1DrawAny.l0])
     | succ k2 =>
      have H := HA.out
      clear HA
      simp only [spec_l1DrawAny.l0] at H
      by_cases c47 : (x295000_2.length : Int) < 500
      ·rw [if_pos c47] at H
       have c47b0 : decide ((x295000_2.length : Int) < 500) = true := decide_eq_true c47
       have c47b1 : decide (x295000_2.length < 500) = true := decide_eq_true (by omega)
       clear c47
       replace H := Option.bind_eq_some_iff.mp H
       obtain ⟨⟨t327, t330⟩, A480, H⟩ := H
       replace H : ((spec_l1Add.f k2 t327 5 (wrap64 ((t327.length : Int) - 1)) 0).bind fun bt331 => (spec_l1DrawAny.l0 k2 s0_0 t325 t326 bt331.1)) = some (r1, r2, r3) := H
       have A48 := Aside0.mk A480
       clear A480
       replace H := Option.bind_eq_some_iff.mp H
       obtain ⟨⟨t331, t334⟩, A490, H⟩ := H
       replace H : (spec_l1DrawAny.l0 k2 s0_0 t325 t326 t331) = some (r1, r2, r3) := H
       have A49 := Aside0.mk A490
       clear A490
       have H' := Aside0.mk H
       clear H
       have hnb50 := NB294_288.out
       have hnc50 := NB288_294.out
       have hnb51 := NB294_0.out
       have hnc51 := NB0_294.out
       have hcz52_0 : wr.cell? ⟨gb294, 0, none⟩ = some (u295000) := (blk_cell BK294.out 0).trans rfl
       have hfz52_0 := blk_frozen BK294.out 0
       obtain ⟨Ao53, co53, eo53⟩ := Kd.R_slice HO_295000.out
       subst eo53
       go_wp2_with (first | ((with_reducible refine gate_callee (f := 78) rfl ?_); refine goesL_ (some 49) rfl rfl Try.func78 (by kernel_rfl) rfl #[.agg #[.slice Ao53 x295000_2.length co53], .agg #[.int .i64 1, .int .i64 ((x295000_2.length : Int) % 200), .int .i64 0]] rfl zl ?_; (with_reducible refine (spec_l1Add.calls k2 (fun k_ => some k_ = (.slice Ao53 x295000_2.length co53 : Value).ownBlock) (.slice Ao53 x295000_2.length co53) x295000_2 1 ((x295000_2.length : Int) % 200) 0 t327 t330 w0 _ ?side1 ?side2 A48.out).mono ?_); (case side1 => exact zj HB.out (IsS89.ge HI0.out)); (case side2 => exact Kd.R_lower (Kd.R_tight rfl HO_295000.out) HL.out); rintro e w54 ⟨v328, rfl, ho0, hb, hkp⟩; refine ⟨_, rfl, ?_⟩; have n0_ := Aside0.mk (blk_kept (zh BK288.out) hkp (fun hs_ => (fun e_ => (Kd.R_ne HO_295000.out BK288.out (by decide)) e_) hs_)); have n1_ := Aside0.mk (blk_kept (zh BK294.out) hkp (fun hs_ => (fun e_ => (Kd.R_ne HO_295000.out BK294.out (by decide)) e_) hs_)); have n2_ := Aside0.mk (IsS89.kept (zi89 HI0.out) hkp (fun hs_ => (fun e_ => (IsS89.own_ne HI0.out HO_295000.out (by decide)) e_) hs_)); have n3_ := Aside0.mk (Kd.R_mono (ok' := fun k_ => True) (Kd.R_raise (d := k44) (b := w0.heap.size) (b' := w.heap.size) (fun _ _ _ _ h_ => h_) ho0 (fun k_ e_ => Or.elim (ho0.1 k_ e_) (fun hs_ => (fun e_ => Kd.R_base HO_295000.out k_ e_.symm) hs_) (fun hn_ => Nat.le_trans (keep_size (w := w) (g := g) (row := none) (zq HK.out)) hn_))) (fun k_ hk_ => trivial)); have n4_ := Aside0.mk (Kept.keepG (zq HK.out) hkp (fun k_ hs_ => (fun e_ => .inr (Kd.R_base HO_295000.out k_ e_.symm)) hs_)); have n5_ := Aside0.mk (hb); clear BK288; clear BK294; clear HI0; clear HK; clear HB; clear HO_295000; have BK288 := n0_; have BK294 := n1_; have HI0 := n2_; have HO329 := n3_; have HK := n4_; have HB := n5_; clear n0_ n1_ n2_ n3_ n4_ n5_; (try clear hb); (try clear hkp); (try clear ho0); obtain ⟨Ao55, co55, eo55⟩ := Kd.R_slice HO329.out; subst eo55; have hcz56_0 : w54.cell? ⟨gb294, 0, none⟩ = some (.slice Ao53 x295000_2.length co53) := (blk_cell BK294.out 0).trans rfl; have hfz56_0 := blk_frozen BK294.out 0) | ((with_reducible refine gate_store (t := 30) (p := 3) rfl ?_); refine store_event (t := 30) (p := 3) (v := ?vo_w57) (w1 := (w54.setCell ⟨gb294, 0, none⟩ (.slice Ao55 t327.length co55))) ?hg ?ho ?hn ?hr ?_; (case ho => rfl); (case hg => rfl); (case hn => rfl); (case hr => first | (go_simp; done) | (go_simp; rfl)); intro w57 hw; have n0_ : Aside0 (Kd.R k44 44 w57 w.heap.size (fun _ => True) (.slice Ao55 t327.length co55) t327) := ⟨(by rw [hw]; exact (by (with_reducible repeat (first | apply Kd.R_alloc | apply Kd.R_drewN | apply Kd.R_drew)); exact Kd.R_mono (Kd.R_far (p := ⟨gb294, 0, none⟩) (Kd.R_types HO329.out BK294.out (by decide)) (fun _ hk => hk.2) (.slice Ao55 t327.length co55)) (fun _ hk => trivial)))⟩; have n1_ : Aside0 (w57.heap[gb288]? = some (.cells #[.slice none 0 0] 30 (0, 0))) := ⟨(by rw [hw]; exact (zf BK288.out))⟩; have n2_ : Aside0 (w57.heap[gb294]? = some (.cells #[.slice Ao55 t327.length co55] 30 (0, 0))) := ⟨(by rw [hw]; exact (by (with_reducible repeat (first | refine blk_drewN ?_ _ | refine blk_drew ?_ | refine blk_alloc ?_ _)); refine blk_put (cs := #[.slice Ao53 x295000_2.length co53]) ?_ 0 _ rfl; (with_reducible repeat (first | refine blk_drewN ?_ _ | refine blk_drew ?_ | refine blk_alloc ?_ _)); exact BK294.out))⟩; have n3_ : Aside0 (IsS89 w0 w57 g s0_0 t325 t326) := ⟨(by rw [hw]; exact (zi89 HI0.out))⟩; have n4_ : Aside0 (KeepBut w w57 g none) := ⟨(by rw [hw]; exact (zq HK.out))⟩; have n5_ : Aside0 (Below w0.heap.size w0 w57) := ⟨(by rw [hw]; exact (zj HB.out (IsS89.ge HI0.out)))⟩; clear hw; clear HO329; clear BK288; clear BK294; clear HI0; clear HK; clear HB; have HO329 := n0_; have BK288 := n1_; have BK294 := n2_; have HI0 := n3_; have HK := n4_; have HB := n5_; clear n0_ n1_ n2_ n3_ n4_ n5_; have hcz58_0 : w57.cell? ⟨gb294, 0, none⟩ = some (.slice Ao55 t327.length co55) := (blk_cell BK294.out 0).trans rfl; have hfz58_0 := blk_frozen BK294.out 0) | ((with_reducible refine gate_callee (f := 78) rfl ?_); refine goesL_ (some 59) rfl rfl Try.func78 (by kernel_rfl) rfl #[.agg #[.slice Ao55 t327.length co55], .agg #[.int .i64 5, .int .i64 (wrap64 ((t327.length : Int) - 1)), .int .i64 0]] rfl zl ?_; (with_reducible refine (spec_l1Add.calls k2 (fun k_ => some k_ = (.slice Ao55 t327.length co55 : Value).ownBlock) (.slice Ao55 t327.length co55) t327 5 (wrap64 ((t327.length : Int) - 1)) 0 t331 t334 w0 _ ?side1 ?side2 A49.out).mono ?_); (case side1 => exact zj HB.out (IsS89.ge HI0.out)); (case side2 => exact Kd.R_lower (Kd.R_tight rfl HO329.out) HL.out); rintro e w59 ⟨v332, rfl, ho0, hb, hkp⟩; refine ⟨_, rfl, ?_⟩; have n0_ := Aside0.mk (blk_kept (zh BK288.out) hkp (fun hs_ => (fun e_ => (Kd.R_ne HO329.out BK288.out (by decide)) e_) hs_)); have n1_ := Aside0.mk (blk_kept (zh BK294.out) hkp (fun hs_ => (fun e_ => (Kd.R_ne HO329.out BK294.out (by decide)) e_) hs_)); have n2_ := Aside0.mk (IsS89.kept (zi89 HI0.out) hkp (fun hs_ => (fun e_ => (IsS89.own_ne HI0.out HO329.out (by decide)) e_) hs_)); have n3_ := Aside0.mk (Kd.R_mono (ok' := fun k_ => True) (Kd.R_raise (d := k44) (b := w0.heap.size) (b' := w.heap.size) (fun _ _ _ _ h_ => h_) ho0 (fun k_ e_ => Or.elim (ho0.1 k_ e_) (fun hs_ => (fun e_ => Kd.R_base HO329.out k_ e_.symm) hs_) (fun hn_ => Nat.le_trans (keep_size (w := w) (g := g) (row := none) (zq HK.out)) hn_))) (fun k_ hk_ => trivial)); have n4_ := Aside0.mk (Kept.keepG (zq HK.out) hkp (fun k_ hs_ => (fun e_ => .inr (Kd.R_base HO329.out k_ e_.symm)) hs_)); have n5_ := Aside0.mk (hb); clear BK288; clear BK294; clear HI0; clear HK; clear HB; clear HO329; have BK288 := n0_; have BK294 := n1_; have HI0 := n2_; have HO333 := n3_; have HK := n4_; have HB := n5_; clear n0_ n1_ n2_ n3_ n4_ n5_; (try clear hb); (try clear hkp); (try clear ho0); obtain ⟨Ao60, co60, eo60⟩ := Kd.R_slice HO333.out; subst eo60; have hcz61_0 : w59.cell? ⟨gb294, 0, none⟩ = some (.slice Ao55 t327.length co55) := (blk_cell BK294.out 0).trans rfl; have hfz61_0 := blk_frozen BK294.out 0))
       go_roundg k2
       case measure => have := HJ3.out; have := HK2.out; omega
       case rel => exact ⟨(t331), (.slice Ao60 t331.length co60), H', ⟨by have := HJ3.out; have := HK2.out; omega⟩, ⟨zr (Kd.R_mono (Kd.R_far (p := ⟨gb294, 0, none⟩) (Kd.R_types HO333.out BK294.out (by decide)) (fun _ hk => hk.2) (.slice Ao60 t331.length co60)) (fun _ hk => trivial))⟩, ⟨zf BK288.out⟩, ⟨by (with_reducible repeat (first | refine blk_drewN ?_ _ | refine blk_drew ?_ | refine blk_alloc ?_ _)); refine blk_put (cs := #[.slice Ao55 t327.length co55]) ?_ 0 _ rfl; (with_reducible repeat (first | refine blk_drewN ?_ _ | refine blk_drew ?_ | refine blk_alloc ?_ _)); exact BK294.out⟩, ⟨zi89 HI0.out⟩, ⟨zq HK.out⟩, ⟨zj HB.out (IsS89.ge HI0.out)⟩⟩
      ·rw [if_neg c47] at H
       have c47b0 : decide ((x295000_2.length : Int) < 500) = false := decide_eq_false c47
       have c47b1 : decide (x295000_2.length < 500) = false := decide_eq_false (by omega)
       clear c47
       simp only [Option.some.injEq, Prod.mk.injEq] at H
       obtain ⟨rfl, rfl, rfl⟩ := H
       have hnb62 := NB294_288.out
       have hnc62 := NB288_294.out
       have hnb63 := NB294_0.out
       have hnc63 := NB0_294.out
       have hcz64_0 : wr.cell? ⟨gb294, 0, none⟩ = some (u295000) := (blk_cell BK294.out 0).trans rfl
       have hfz64_0 := blk_frozen BK294.out 0
       obtain ⟨Ao65, co65, eo65⟩ := Kd.R_slice HO_295000.out
       subst eo65
       have hnb66 := NB288_0.out
       have hnc66 := NB0_288.out
       have hcz67_0 : wr.cell? ⟨gb288, 0, none⟩ = some (.slice none 0 0) := (blk_cell BK288.out 0).trans rfl
       have hfz67_0 := blk_frozen BK288.out 0
       go_wp2
       refine bodyPost_ret (results_cell_row rfl _ _ gb288 30 #[.slice Ao65 x295000_2.length co65] (0, 0) _ rfl (by (with_reducible repeat (first | refine blk_drewN ?_ _ | refine blk_drew ?_ | refine blk_alloc ?_ _)); refine blk_put (cs := #[.slice none 0 0]) ?_ 0 _ rfl; (with_reducible repeat (first | refine blk_drewN ?_ _ | refine blk_drew ?_ | refine blk_alloc ?_ _)); exact BK288.out) Try.underlying30 rfl (by kernel_rfl)) rfl ?_
       exact ⟨_, ze, zr (Kd.R_mono (Kd.R_far (p := ⟨gb288, 0, none⟩) (Kd.R_types HO_295000.out BK288.out (by decide)) (fun _ hk => hk.2) (.slice Ao65 x295000_2.length co65)) (fun _ hk => trivial)), zi89 HI0.out, zj HB.out (IsS89.ge HI0.out), zq HK.out⟩
   ·replace c42 := Bool.eq_false_iff.mpr c42
    subst c42
    have H1 : (some (x295000_3, t325, t326)) = some (r1, r2, r3) := by rw [if_neg (show ¬ (false = true) by decide)] at H; exact H
    clear H
    have H := H1
    clear H1
    simp only [Option.some.injEq, Prod.mk.injEq] at H
    obtain ⟨rfl, rfl, rfl⟩ := H
    go_wp2_with (first | ((with_reducible refine gate_callee (f := 77) rfl ?_); refine goesL_ (some 36) rfl rfl Try.func77 (by kernel_rfl) rfl #[.pointer (some ⟨g, 0, none⟩), .int .i64 80] rfl zl ?_; (with_reducible refine (spec_l1Once.calls g s0_0 x1001_3 x1002_3 80 false t325 t326 w0 _ ?side1 ?side2 A41.out).mono ?_); (case side1 => exact zi89 HI0.out); (case side2 => exact zj HB.out (IsS89.ge HI0.out)); rintro e w68 ⟨rfl, hi, hb, hk⟩; refine ⟨_, rfl, ?_⟩; have n0_ := Aside0.mk (Kd.R_mono (Kd.R_keep (IsS89.apart (show IsS89 w0 _ g s0_0 x1001_3 x1002_3 from zi89 HI0.out) (zr HO_295000.out) (by decide)) hk (fun _ h => h.2)) (fun _ h => h.1)); have n1_ := Aside0.mk (KeepBut.blk hk (g' := gb288) (o := .cells #[.slice none 0 0] 30 (0, 0)) (zh BK288.out) NB288_0.out (by simp)); have n2_ := Aside0.mk (KeepBut.blk hk (g' := gb294) (o := .cells #[u295000] 30 (0, 0)) (zh BK294.out) NB294_0.out (by simp)); have n3_ := Aside0.mk (KeepBut.trans (zq HK.out) hk (.inl rfl)); have n4_ := Aside0.mk (hb); have n5_ := Aside0.mk (hi); clear HO_295000; clear BK288; clear BK294; clear HK; clear HB; clear HI0; have HO_295000 := n0_; have BK288 := n1_; have BK294 := n2_; have HK := n3_; have HB := n4_; have HI0 := n5_; clear n0_ n1_ n2_ n3_ n4_ n5_; (try clear hb); (try clear hb2); (try clear hk); (try clear hi); have hnb69 := NB294_288.out; have hnc69 := NB288_294.out; have hnb70 := NB294_0.out; have hnc70 := NB0_294.out; have hcz71_0 : w68.cell? ⟨gb294, 0, none⟩ = some (u295000) := (blk_cell BK294.out 0).trans rfl; have hfz71_0 := blk_frozen BK294.out 0; obtain ⟨Ao72, co72, eo72⟩ := Kd.R_slice HO_295000.out; subst eo72; have hnb73 := NB288_0.out; have hnc73 := NB0_288.out; have hcz74_0 : w68.cell? ⟨gb288, 0, none⟩ = some (.slice none 0 0) := (blk_cell BK288.out 0).trans rfl; have hfz74_0 := blk_frozen BK288.out 0))
    refine bodyPost_ret (results_cell_row rfl _ _ gb288 30 #[.slice Ao72 x295000_3.length co72] (0, 0) _ rfl (by (with_reducible repeat (first | refine blk_drewN ?_ _ | refine blk_drew ?_ | refine blk_alloc ?_ _)); refine blk_put (cs := #[.slice none 0 0]) ?_ 0 _ rfl; (with_reducible repeat (first | refine blk_drewN ?_ _ | refine blk_drew ?_ | refine blk_alloc ?_ _)); exact BK288.out) Try.underlying30 rfl (by kernel_rfl)) rfl ?_
    exact ⟨_, ze, zr (Kd.R_mono (Kd.R_far (p := ⟨gb288, 0, none⟩) (Kd.R_types HO_295000.out BK288.out (by decide)) (fun _ hk => hk.2) (.slice Ao72 x295000_3.length co72)) (fun _ hk => trivial)), zi89 HI0.out, zj HB.out (IsS89.ge HI0.out), zq HK.out⟩

/-! ### spec_l6DrawKnow: function 90 -/
mutual
def spec_l6DrawKnow.l0 : Nat → List Int → Int → Int → List Int → Int → Int → List (S44) → Option (List Int × Int × Int)
 | 0, _, _, _, _, _, _, _ => none
 | k + 1, x5, x6, x7, x1000, x1001, x1002, x336000 => if x7 < x6 then (spec_l6DrawKnow.j1 k x5 x6 x7 (decide ((x336000.length : Int) > 0)) x1000 x1001 x1002 x336000) else (spec_l6DrawKnow.j1 k x5 x6 x7 false x1000 x1001 x1002 x336000)
def spec_l6DrawKnow.j1 : Nat → List Int → Int → Int → Bool → List Int → Int → Int → List (S44) → Option (List Int × Int × Int)
 | 0, _, _, _, _, _, _, _, _ => none
 | k + 1, x5, x6, x7, x19, x1000, x1001, x1002, x336000 => if x19 = true then ((spec_l1Draw.f k x1000 x1001 x1002 (x336000.length : Int)).bind fun bt342 => ((spec_l6Put.f k x5 bt342.1).bind fun t345 => (spec_l6DrawKnow.l0 k t345 x6 (wrap64 (x7 + 1)) x1000 bt342.2.1 bt342.2.2 x336000))) else (some (x5, x1001, x1002))
end
def spec_l6DrawKnow.f (k : Nat) (s0_0 : List Int) (s0_1 : Int) (s0_2 : Int) (l1_0 : List (S44)) : Option (List Int × Int × Int) := (spec_l1Below.f s0_0 s0_1 s0_2 8).bind fun bt339 => (spec_l6DrawKnow.l0 k (([] : List Int)) bt339.1 0 s0_0 bt339.2.1 bt339.2.2 l1_0)
theorem spec_l6DrawKnow.mono_l : ∀ k, (∀ y0 y1 y2 y3 y4 y5 y6, LeO (spec_l6DrawKnow.l0 k y0 y1 y2 y3 y4 y5 y6) (spec_l6DrawKnow.l0 (k + 1) y0 y1 y2 y3 y4 y5 y6)) ∧ (∀ y0 y1 y2 y3 y4 y5 y6 y7, LeO (spec_l6DrawKnow.j1 k y0 y1 y2 y3 y4 y5 y6 y7) (spec_l6DrawKnow.j1 (k + 1) y0 y1 y2 y3 y4 y5 y6 y7))
 | 0 => ⟨fun _ _ _ _ _ _ _ r h => by simp [spec_l6DrawKnow.l0] at h, fun _ _ _ _ _ _ _ _ r h => by simp [spec_l6DrawKnow.j1] at h⟩
 | k + 1 => by
  obtain ⟨ih0, ih1⟩ := spec_l6DrawKnow.mono_l k
  refine ⟨?_, ?_⟩
  ·intro y0 y1 y2 y3 y4 y5 y6
   unfold spec_l6DrawKnow.l0
   repeat' first
   | (with_reducible exact ih0 _ _ _ _ _ _ _)
   | (with_reducible exact ih1 _ _ _ _ _ _ _ _)
   | (with_reducible exact spec_l1Draw.mono _ _ _ _ _)
   | (with_reducible exact spec_l6Put.mono _ _ _)
   | (with_reducible exact LeO.refl _)
   | (with_reducible exact LeO.none _)
   | (with_reducible refine LeO.ite ?_ ?_)
   | (with_reducible refine LeO.bind ?_ (fun _ => ?_))
   | exact ih0 _ _ _ _ _ _ _
   | exact ih1 _ _ _ _ _ _ _ _
   | exact spec_l1Draw.mono _ _ _ _ _
   | exact spec_l6Put.mono _ _ _
   | exact LeO.none _
   | refine LeO.ite ?_ ?_
   | refine LeO.bind ?_ (fun _ => ?_)
  ·intro y0 y1 y2 y3 y4 y5 y6 y7
   unfold spec_l6DrawKnow.j1
   repeat' first
   | (with_reducible exact ih0 _ _ _ _ _ _ _)
   | (with_reducible exact ih1 _ _ _ _ _ _ _ _)
   | (with_reducible exact spec_l1Draw.mono _ _ _ _ _)
   | (with_reducible exact spec_l6Put.mono _ _ _)
   | (with_reducible exact LeO.refl _)
   | (with_reducible exact LeO.none _)
   | (with_reducible refine LeO.ite ?_ ?_)
   | (with_reducible refine LeO.bind ?_ (fun _ => ?_))
   | exact ih0 _ _ _ _ _ _ _
   | exact ih1 _ _ _ _ _ _ _ _
   | exact spec_l1Draw.mono _ _ _ _ _
   | exact spec_l6Put.mono _ _ _
   | exact LeO.none _
   | refine LeO.ite ?_ ?_
   | refine LeO.bind ?_ (fun _ => ?_)
theorem spec_l6DrawKnow.mono : ∀ a0 a1 a2 a3 k, LeO (spec_l6DrawKnow.f k a0 a1 a2 a3) (spec_l6DrawKnow.f (k + 1) a0 a1 a2 a3) := by
 intro a0 a1 a2 a3 k
 obtain ⟨ih0, ih1⟩ := spec_l6DrawKnow.mono_l k
 unfold spec_l6DrawKnow.f
 repeat' first
   | (with_reducible exact ih0 _ _ _ _ _ _ _)
   | (with_reducible exact ih1 _ _ _ _ _ _ _ _)
   | (with_reducible exact spec_l1Draw.mono _ _ _ _ _)
   | (with_reducible exact spec_l6Put.mono _ _ _)
   | (with_reducible exact LeO.refl _)
   | (with_reducible exact LeO.none _)
   | (with_reducible refine LeO.ite ?_ ?_)
   | (with_reducible refine LeO.bind ?_ (fun _ => ?_))
   | exact ih0 _ _ _ _ _ _ _
   | exact ih1 _ _ _ _ _ _ _ _
   | exact spec_l1Draw.mono _ _ _ _ _
   | exact spec_l6Put.mono _ _ _
   | exact LeO.none _
   | refine LeO.ite ?_ ?_
   | refine LeO.bind ?_ (fun _ => ?_)
set_option maxHeartbeats 8000000 in
set_option maxRecDepth 100000 in
theorem spec_l6DrawKnow.calls (k : Nat) (g : Nat) (s0_0 : List Int) (s0_1 : Int) (s0_2 : Int) (A1_0 : Option Addr) (c1_0 : Nat) (l1_0 : List (S44)) (r1 : List Int) (r2 : Int) (r3 : Int) (w0 w : World) (hI : IsS89 w0 w g s0_0 s0_1 s0_2) (hB : Below w0.heap.size w0 w) (hr1_0 : ∀ W_, KeepBut w W_ g none → Kd.C k44 W_ A1_0 l1_0.length l1_0) (hc1_0 : l1_0.length ≤ c1_0) (h : spec_l6DrawKnow.f k s0_0 s0_1 s0_2 l1_0 = some (r1, r2, r3)) :
  Calls Try.prog 90 #[.pointer (some ⟨g, 0, none⟩), .agg #[.slice A1_0 l1_0.length c1_0]] w fun e w' => ∃ v0_ : Value, e = .returned (v0_) ∧ Kd.R (Kd.int .i64) 3 w' w.heap.size (fun _ => True) v0_ r1 ∧ IsS89 w0 w' g s0_0 r2 r3 ∧ Below w0.heap.size w0 w' ∧ KeepBut w w' g none := by
 have hu30 := Try.underlying30
 have HR1_0 := Aside0.mk hr1_0
 have HC1_0 := Aside0.mk hc1_0
 clear hr1_0 hc1_0
 have HI0 := Aside0.mk hI
 have HK := Aside0.mk (KeepBut.refl w g none)
 have HL := Aside0.mk hB.size
 clear hI
 have HW0 := Aside0.mk hB.size
 have HB := Aside0.mk hB
 clear hB
 have H : ((spec_l1Below.f s0_0 s0_1 s0_2 8).bind fun bt339 => (spec_l6DrawKnow.l0 k (([] : List Int)) bt339.1 0 s0_0 bt339.2.1 bt339.2.2 l1_0)) = some (r1, r2, r3) := h
 clear h
 obtain ⟨y336, hy336⟩ : ∃ y_ : List Int, y_ = (([] : List Int)) := ⟨_, rfl⟩
 replace H : ((spec_l1Below.f s0_0 s0_1 s0_2 8).bind fun bt339 => (spec_l6DrawKnow.l0 k y336 bt339.1 0 s0_0 bt339.2.1 bt339.2.2 l1_0)) = some (r1, r2, r3) := by first | (rw [hy336]; with_reducible exact H) | (have H2_ := (Option.bind_some _ _).symm.trans H; rw [hy336]; with_reducible exact H2_) | (have H2_ := (Option.bind_some _ _).symm.trans H; with_reducible exact H2_) | with_reducible exact H | (rw [hy336]; exact H) | exact H
 have Ny336 := Aside0.mk hy336
 clear hy336
 replace H := Option.bind_eq_some_iff.mp H
 obtain ⟨⟨t339, t340, t341⟩, A30, H⟩ := H
 replace H : (spec_l6DrawKnow.l0 k y336 t339 0 s0_0 t340 t341 l1_0) = some (r1, r2, r3) := H
 have A3 := Aside0.mk A30
 clear A30
 have H' := Aside0.mk H
 clear H
 go_enter Try.func90, Try.ntmps90
 go_wp2_with (first | ((with_reducible refine gate_dst (N := 3) rfl ?_); (try (refine gate_guard (by rfl) ?_; dsimp only)); refine box_event ?hg (N := 3) ?hd (cs := #[.slice A1_0 l1_0.length c1_0]) (t := 30) ?hr ?_; (case hd => rfl); (case hg => rfl); (case hr => first | (go_simp; done) | (go_simp; rfl)); intro gb335 hg w4 hbox hb; have n0_ := Aside0.mk (IsS89.below (zi89 HI0.out) hb); have n1_ := Aside0.mk (KeepBut.trans (zq HK.out) (KeepBut.of_below hb g none) (.inl rfl)); have n2_ := Aside0.mk (below_step (zj HB.out (IsS89.ge HI0.out)) hb); have n3_ := Aside0.mk (hbox); have n4_ := Aside0.mk ((by rw [hg]; exact (keep_size (w := w) (g := g) (row := none) (zq HK.out)) : w.heap.size ≤ gb335)); have n5_ := Aside0.mk ((Nat.le_trans HW0.out (by rw [hg]; exact (keep_size (w := w) (g := g) (row := none) (zq HK.out)) : w.heap.size ≤ gb335) : w0.heap.size ≤ gb335)); have n6_ := Aside0.mk ((by rw [hg]; exact Nat.ne_of_lt (IsS89.lt (show IsS89 w0 _ g s0_0 s0_1 s0_2 from zi89 HI0.out)) : g ≠ gb335)); have n7_ := Aside0.mk ((by rw [hg]; exact Nat.ne_of_gt (IsS89.lt (show IsS89 w0 _ g s0_0 s0_1 s0_2 from zi89 HI0.out)) : gb335 ≠ g)); clear HI0; clear HK; clear HB; have HI0 := n0_; have HK := n1_; have HB := n2_; have BK335 := n3_; have GW335 := n4_; have GE335 := n5_; have NB0_335 := n6_; have NB335_0 := n7_; clear n0_ n1_ n2_ n3_ n4_ n5_ n6_ n7_; clear hb hbox hg) | ((with_reducible refine gate_dst (N := 8) rfl ?_); (try (refine gate_guard (by rfl) ?_; dsimp only)); refine Kd.R_lit (Kd.int .i64) _ 3 ?hg (N := 8) ?hd (xs := ([] : List Int)) (inner := []) (ok := fun _ => True) (okp := fun _ => True) ?hr ?hp (fun _ hk => hk) trivial (Below.refl _ _) (Nat.le_refl _) (by simp) ?_; (case hd => rfl); (case hg => rfl); (case hr => first | (go_simp; done) | (go_simp; rfl)); (case hp => exact (Reps.none _ _)); intro v337 w5 ho6 hb hg_ hnew_; clear hg_ hnew_; (first | rw [← Ny336.out] at ho6 | (simp only [Int.reduceToNat] at ho6; rw [← Ny336.out] at ho6)); have n0_ := Aside0.mk (Kd.R_lower ho6 (keep_size (w := w) (g := g) (row := none) (zq HK.out))); have n1_ := Aside0.mk (IsS89.below (zi89 HI0.out) hb); have n2_ := Aside0.mk (blk_below (zh BK335.out) hb); have n3_ := Aside0.mk (KeepBut.trans (zq HK.out) (KeepBut.of_below hb g none) (.inl rfl)); have n4_ := Aside0.mk (below_step (zj HB.out (IsS89.ge HI0.out)) hb); clear HI0; clear BK335; clear HK; clear HB; have HO338 := n0_; have HI0 := n1_; have BK335 := n2_; have HK := n3_; have HB := n4_; clear n0_ n1_ n2_ n3_ n4_; clear hb ho6) | ((with_reducible refine gate_callee (f := 74) rfl ?_); refine goesL_ (some 10) rfl rfl Try.func74 (by kernel_rfl) rfl #[.pointer (some ⟨g, 0, none⟩), .int .i64 8] rfl zl ?_; (with_reducible refine (spec_l1Below.calls g s0_0 s0_1 s0_2 8 t339 t340 t341 w0 _ ?side1 ?side2 A3.out).mono ?_); (case side1 => exact zi89 HI0.out); (case side2 => exact zj HB.out (IsS89.ge HI0.out)); rintro e w7 ⟨rfl, hi, hb, hk⟩; refine ⟨_, rfl, ?_⟩; have n0_ := Aside0.mk (KeepBut.blk hk (g' := gb335) (o := .cells #[.slice A1_0 l1_0.length c1_0] 30 (0, 0)) (zh BK335.out) NB335_0.out (by simp)); have n1_ := Aside0.mk (Kd.R_mono (Kd.R_keep (IsS89.apart (show IsS89 w0 _ g s0_0 s0_1 s0_2 from zi89 HI0.out) (zr HO338.out) (by decide)) hk (fun _ h => h.2)) (fun _ h => h.1)); have n2_ := Aside0.mk (KeepBut.trans (zq HK.out) hk (.inl rfl)); have n3_ := Aside0.mk (hb); have n4_ := Aside0.mk (hi); clear BK335; clear HO338; clear HK; clear HB; clear HI0; have BK335 := n0_; have HO338 := n1_; have HK := n2_; have HB := n3_; have HI0 := n4_; clear n0_ n1_ n2_ n3_ n4_; (try clear hb); (try clear hb2); (try clear hk); (try clear hi)))
 go_loopg [5, 7] k (fun kq v5 v7 w' => ∃ (x5_1 : List Int) (x7_1 : Int) (x1001_1 : Int) (x1002_1 : Int), v7 = .int .i64 x7_1 ∧ Aside0 (spec_l6DrawKnow.l0 kq x5_1 t339 x7_1 s0_0 x1001_1 x1002_1 l1_0 = some (r1, r2, r3)) ∧ Aside0 (kq ≤ k) ∧ Aside0 (Kd.R (Kd.int .i64) 3 w' w.heap.size (fun _ => True) v5 x5_1) ∧ Aside0 (w'.heap[gb335]? = some (.cells #[(.slice A1_0 l1_0.length c1_0)] 30 (0, 0))) ∧ Aside0 (IsS89 w0 w' g s0_0 x1001_1 x1002_1) ∧ Aside0 (KeepBut w w' g none) ∧ Aside0 (Below w0.heap.size w0 w'))
 case atStart => exact ⟨(y336), (0), (t340), (t341), (by first | rfl | (simp; done) | (simp [*]; done)), H', ⟨Nat.le_refl _⟩, ⟨zr HO338.out⟩, ⟨zh BK335.out⟩, ⟨zi89 HI0.out⟩, ⟨zq HK.out⟩, ⟨zj HB.out (IsS89.ge HI0.out)⟩⟩
 case round =>
  clear H'
  try clear c1
  try clear p2
  try clear c7
  obtain ⟨x5_1, x7_1, x1001_1, x1002_1, rfl, HA, HK1, HO_5, BK335, HI0, HK, HB⟩ := hrel
  cases gk with
  | zero => exact absurd HA.out (by simp [spec_l6DrawKnow.l0])
  | succ k1 =>
   have H := HA.out
   clear HA
   simp only [spec_l6DrawKnow.l0] at H
   have HC8 := Aside0.mk H
   clear H
   go_upto_region 4 with (fail)
   go_cut [19] (fun v19 wc => ∃ (kq : Nat) (x19_7 : Bool), v19 = .bool x19_7 ∧ Aside0 (spec_l6DrawKnow.j1 kq x5_1 t339 x7_1 x19_7 s0_0 x1001_1 x1002_1 l1_0 = some (r1, r2, r3)) ∧ Aside0 (kq ≤ k1) ∧ Aside0 (Kd.R (Kd.int .i64) 3 wc w.heap.size (fun _ => True) u5 x5_1) ∧ Aside0 (wc.heap[gb335]? = some (.cells #[(.slice A1_0 l1_0.length c1_0)] 30 (0, 0))) ∧ Aside0 (IsS89 w0 wc g s0_0 x1001_1 x1002_1) ∧ Aside0 (KeepBut w wc g none) ∧ Aside0 (Below w0.heap.size w0 wc))
   case first =>
    have H := HC8.out
    clear HC8
    by_cases c9 : x7_1 < t339
    ·rw [if_pos c9] at H
     have c9b0 : decide (x7_1 < t339) = true := decide_eq_true c9
     clear c9
     (first | rw [c9b0] | (simp only [i64_w, i32_w]; rw [c9b0]) | skip)
     have H' := Aside0.mk H
     clear H
     have hnb10 := NB335_0.out
     have hnc10 := NB0_335.out
     have hcz11_0 : wr.cell? ⟨gb335, 0, none⟩ = some (.slice A1_0 l1_0.length c1_0) := (blk_cell BK335.out 0).trans rfl
     have hfz11_0 := blk_frozen BK335.out 0
     go_wp2
     go_meet
     case rel => exact ⟨_, (decide ((l1_0.length : Int) > 0)), (by first | rfl | (simp; done) | (simp [*]; done)), H', ⟨by have := HK1.out; first | omega | exact Nat.le_refl _⟩, ⟨zr HO_5.out⟩, ⟨zh BK335.out⟩, ⟨zi89 HI0.out⟩, ⟨zq HK.out⟩, ⟨zj HB.out (IsS89.ge HI0.out)⟩⟩
    ·rw [if_neg c9] at H
     have c9b0 : decide (x7_1 < t339) = false := decide_eq_false c9
     clear c9
     (first | rw [c9b0] | (simp only [i64_w, i32_w]; rw [c9b0]) | skip)
     have H' := Aside0.mk H
     clear H
     go_wp2
     go_meet
     case rel => exact ⟨_, (false), (by first | rfl | (simp; done) | (simp [*]; done)), H', ⟨by have := HK1.out; first | omega | exact Nat.le_refl _⟩, ⟨zr HO_5.out⟩, ⟨zh BK335.out⟩, ⟨zi89 HI0.out⟩, ⟨zq HK.out⟩, ⟨zj HB.out (IsS89.ge HI0.out)⟩⟩
   case rest =>
    clear HC8
    try clear c1
    try clear p2
    try clear c7
    try clear c9
    try clear c9b0
    try clear c10
    try clear hcz11_0
    try clear hfz11_0
    try clear p2
    obtain ⟨kq, x19_7, rfl, HA, HJ7, HO_5, BK335, HI0, HK, HB⟩ := hcut
    cases kq with
    | zero => exact absurd HA.out (by simp [spec_l6DrawKnow.j1])
    | succ kj7 =>
     have H := HA.out
     clear HA
     simp only [spec_l6DrawKnow.j1] at H
     by_cases c12 : x19_7 = true
     ·subst c12
      have H1 : ((spec_l1Draw.f kj7 s0_0 x1001_1 x1002_1 (l1_0.length : Int)).bind fun bt342 => ((spec_l6Put.f kj7 x5_1 bt342.1).bind fun t345 => (spec_l6DrawKnow.l0 kj7 t345 t339 (wrap64 (x7_1 + 1)) s0_0 bt342.2.1 bt342.2.2 l1_0))) = some (r1, r2, r3) := by rw [if_pos rfl] at H; exact H
      clear H
      have H := H1
      clear H1
      replace H := Option.bind_eq_some_iff.mp H
      obtain ⟨⟨t342, t343, t344⟩, A130, H⟩ := H
      replace H : ((spec_l6Put.f kj7 x5_1 t342).bind fun t345 => (spec_l6DrawKnow.l0 kj7 t345 t339 (wrap64 (x7_1 + 1)) s0_0 t343 t344 l1_0)) = some (r1, r2, r3) := H
      have A13 := Aside0.mk A130
      clear A130
      replace H := Option.bind_eq_some_iff.mp H
      obtain ⟨t345, A140, H⟩ := H
      replace H : (spec_l6DrawKnow.l0 kj7 t345 t339 (wrap64 (x7_1 + 1)) s0_0 t343 t344 l1_0) = some (r1, r2, r3) := H
      have A14 := Aside0.mk A140
      clear A140
      have H' := Aside0.mk H
      clear H
      have hnb15 := NB335_0.out
      have hnc15 := NB0_335.out
      have hcz16_0 : wc.cell? ⟨gb335, 0, none⟩ = some (.slice A1_0 l1_0.length c1_0) := (blk_cell BK335.out 0).trans rfl
      have hfz16_0 := blk_frozen BK335.out 0
      go_wp2_with (first | ((with_reducible refine gate_callee (f := 109) rfl ?_); refine goesL_ (some 27) rfl rfl Try.func109 (by kernel_rfl) rfl #[.pointer (some ⟨g, 0, none⟩), .int .i64 (l1_0.length : Int)] rfl zl ?_; (with_reducible refine (spec_l1Draw.calls kj7 g s0_0 x1001_1 x1002_1 (l1_0.length : Int) t342 t343 t344 w0 _ ?side1 ?side2 A13.out).mono ?_); (case side1 => exact zi89 HI0.out); (case side2 => exact zj HB.out (IsS89.ge HI0.out)); rintro e w17 ⟨rfl, hi, hb, hk⟩; refine ⟨_, rfl, ?_⟩; have n0_ := Aside0.mk (Kd.R_mono (Kd.R_keep (IsS89.apart (show IsS89 w0 _ g s0_0 x1001_1 x1002_1 from zi89 HI0.out) (zr HO_5.out) (by decide)) hk (fun _ h => h.2)) (fun _ h => h.1)); have n1_ := Aside0.mk (KeepBut.blk hk (g' := gb335) (o := .cells #[.slice A1_0 l1_0.length c1_0] 30 (0, 0)) (zh BK335.out) NB335_0.out (by simp)); have n2_ := Aside0.mk (KeepBut.trans (zq HK.out) hk (.inl rfl)); have n3_ := Aside0.mk (hb); have n4_ := Aside0.mk (hi); clear HO_5; clear BK335; clear HK; clear HB; clear HI0; have HO_5 := n0_; have BK335 := n1_; have HK := n2_; have HB := n3_; have HI0 := n4_; clear n0_ n1_ n2_ n3_ n4_; (try clear hb); (try clear hb2); (try clear hk); (try clear hi); obtain ⟨Ao18, co18, eo18⟩ := Kd.R_slice HO_5.out; subst eo18) | ((with_reducible refine gate_callee (f := 55) rfl ?_); refine goesL_ (some 28) rfl rfl Try.func55 (by kernel_rfl) rfl #[.slice Ao18 x5_1.length co18, .int .i64 t342] rfl zl ?_; (with_reducible refine (spec_l6Put.calls kj7 _ _ x5_1 t342 t345 _ ?side1 ?side2 A14.out).mono ?_); (case side1 => exact zc (Kd.R_reads' HO_5.out).2.2); (case side2 => exact (Kd.R_reads' HO_5.out).2.1); rintro e w19 ⟨v346, rfl, ho0, hb⟩; refine ⟨_, rfl, ?_⟩; have n0_ := Aside0.mk (Kd.R_elder' (zr HO_5.out) (Kd.R_base ho0) hb); have n1_ := Aside0.mk (Kd.R_lower (Kd.R_new' ho0 (Kd.R_lt (zr HO_5.out))) (keep_size (w := w) (g := g) (row := none) (zq HK.out))); have n2_ := Aside0.mk (blk_below (zh BK335.out) hb); have n3_ := Aside0.mk (IsS89.below (zi89 HI0.out) hb); have n4_ := Aside0.mk (KeepBut.trans (zq HK.out) (KeepBut.of_below hb g none) (.inl rfl)); have n5_ := Aside0.mk (below_step (zj HB.out (IsS89.ge HI0.out)) hb); clear HO_5; clear BK335; clear HI0; clear HK; clear HB; have HO_5 := n0_; have HO347 := n1_; have BK335 := n2_; have HI0 := n3_; have HK := n4_; have HB := n5_; clear n0_ n1_ n2_ n3_ n4_ n5_; (try clear hb); (try clear hb2); (try clear hk); (try clear hi); (try clear ho0)))
      go_roundg kj7
      case measure => have := HK1.out; have := HJ7.out; omega
      case rel => exact ⟨(t345), (wrap64 (x7_1 + 1)), (t343), (t344), (by first | rfl | (simp; done) | (simp [*]; done)), H', ⟨by have := HK1.out; have := HJ7.out; omega⟩, ⟨zr (Kd.R_mono HO347.out (fun _ hk => trivial))⟩, ⟨zh BK335.out⟩, ⟨zi89 HI0.out⟩, ⟨zq HK.out⟩, ⟨zj HB.out (IsS89.ge HI0.out)⟩⟩
     ·replace c12 := Bool.eq_false_iff.mpr c12
      subst c12
      have H1 : (some (x5_1, x1001_1, x1002_1)) = some (r1, r2, r3) := by rw [if_neg (show ¬ (false = true) by decide)] at H; exact H
      clear H
      have H := H1
      clear H1
      simp only [Option.some.injEq, Prod.mk.injEq] at H
      obtain ⟨rfl, rfl, rfl⟩ := H
      go_wp2
      go_ret
      exact ⟨_, ze, zr HO_5.out, zi89 HI0.out, zj HB.out (IsS89.ge HI0.out), zq HK.out⟩

end Go.Proofs.Ytdgahpigcaejbaa.D
end

section
-- Written by this session's program (wip/tools/gprint.py over the kit's print) out of the translation; Lean checks it.
namespace Go.Proofs.Ytdgahpigcaejbaa.D
open Go.RowKit Go.Proofs.YtdgahpigcaejbaaW.PrintWords Go.Proofs.YtdgahpigcaejbaaW.PrintLast Go.Proofs.YtdgahpigcaejbaaW.PrintMore
attribute [local go_sem] max2_int min2_int max_two min_two max_three min_three max_four min_four   -- for this text's walks alone
set_option linter.unusedVariables false
set_option linter.unusedSimpArgs false
set_option maxRecDepth 100000

/-! ### spec_l6DrawAny: function 61 -/
def spec_l6DrawAny.l0 : Nat → List Int → Int → List Int → Int → Int → Option (List Int × Int × Int)
 | 0, _, _, _, _, _ => none
 | k + 1, x5, x6, x1000, x1001, x1002 => (spec_l1Below.f x1000 x1001 x1002 2).bind fun bt363 => (if x6 < (wrap64 (200 + bt363.1)) then ((spec_l6Put.f k x5 x6).bind fun t366 => (spec_l6DrawAny.l0 k t366 (wrap64 (x6 + 1)) x1000 bt363.2.1 bt363.2.2)) else (some (x5, bt363.2.1, bt363.2.2)))
def spec_l6DrawAny.f (k : Nat) (s0_0 : List Int) (s0_1 : Int) (s0_2 : Int) (l1_0 : List (S44)) : Option (List Int × Int × Int) := (spec_l6DrawKnow.f k s0_0 s0_1 s0_2 l1_0).bind fun bt349 => ((spec_l1Below.f s0_0 bt349.2.1 bt349.2.2 30).bind fun bt354 => (if bt354.1 = 0 then (if bt349.1.length < 17592186044416 then (some ((bt349.1 ++ [(l1_0.length : Int)]), bt354.2.1, bt354.2.2)) else (none)) else (if bt354.1 = 1 then (if bt349.1.length + bt349.1.length < 17592186044416 then (some ((bt349.1 ++ bt349.1), bt354.2.1, bt354.2.2)) else (none)) else (if bt354.1 = 2 then (spec_l6DrawAny.l0 k bt349.1 0 s0_0 bt354.2.1 bt354.2.2) else (some (bt349.1, bt354.2.1, bt354.2.2))))))
theorem spec_l6DrawAny.mono_l : ∀ k, (∀ y0 y1 y2 y3 y4, LeO (spec_l6DrawAny.l0 k y0 y1 y2 y3 y4) (spec_l6DrawAny.l0 (k + 1) y0 y1 y2 y3 y4))
 | 0 => fun _ _ _ _ _ r h => by simp [spec_l6DrawAny.l0] at h
 | k + 1 => by
  have ih0 := spec_l6DrawAny.mono_l k
  ·intro y0 y1 y2 y3 y4
   unfold spec_l6DrawAny.l0
   repeat' first
   | (with_reducible exact ih0 _ _ _ _ _)
   | (with_reducible exact spec_l6DrawKnow.mono _ _ _ _ _)
   | (with_reducible exact spec_l6Put.mono _ _ _)
   | (with_reducible exact LeO.refl _)
   | (with_reducible exact LeO.none _)
   | (with_reducible refine LeO.ite ?_ ?_)
   | (with_reducible refine LeO.bind ?_ (fun _ => ?_))
   | exact ih0 _ _ _ _ _
   | exact spec_l6DrawKnow.mono _ _ _ _ _
   | exact spec_l6Put.mono _ _ _
   | exact LeO.none _
   | refine LeO.ite ?_ ?_
   | refine LeO.bind ?_ (fun _ => ?_)
theorem spec_l6DrawAny.mono : ∀ a0 a1 a2 a3 k, LeO (spec_l6DrawAny.f k a0 a1 a2 a3) (spec_l6DrawAny.f (k + 1) a0 a1 a2 a3) := by
 intro a0 a1 a2 a3 k
 have ih0 := spec_l6DrawAny.mono_l k
 unfold spec_l6DrawAny.f
 repeat' first
   | (with_reducible exact ih0 _ _ _ _ _)
   | (with_reducible exact spec_l6DrawKnow.mono _ _ _ _ _)
   | (with_reducible exact spec_l6Put.mono _ _ _)
   | (with_reducible exact LeO.refl _)
   | (with_reducible exact LeO.none _)
   | (with_reducible refine LeO.ite ?_ ?_)
   | (with_reducible refine LeO.bind ?_ (fun _ => ?_))
   | exact ih0 _ _ _ _ _
   | exact spec_l6DrawKnow.mono _ _ _ _ _
   | exact spec_l6Put.mono _ _ _
   | exact LeO.none _
   | refine LeO.ite ?_ ?_
   | refine LeO.bind ?_ (fun _ => ?_)
set_option maxHeartbeats 8000000 in
set_option maxRecDepth 100000 in
theorem spec_l6DrawAny.calls (k : Nat) (g : Nat) (s0_0 : List Int) (s0_1 : Int) (s0_2 : Int) (A1_0 : Option Addr) (c1_0 : Nat) (l1_0 : List (S44)) (r1 : List Int) (r2 : Int) (r3 : Int) (w0 w : World) (hI : IsS89 w0 w g s0_0 s0_1 s0_2) (hB : Below w0.heap.size w0 w) (hr1_0 : ∀ W_, KeepBut w W_ g none → Kd.C k44 W_ A1_0 l1_0.length l1_0) (hc1_0 : l1_0.length ≤ c1_0) (h : spec_l6DrawAny.f k s0_0 s0_1 s0_2 l1_0 = some (r1, r2, r3)) :
  Calls Try.prog 61 #[.pointer (some ⟨g, 0, none⟩), .agg #[.slice A1_0 l1_0.length c1_0]] w fun e w' => ∃ v0_ : Value, e = .returned (v0_) ∧ Kd.R (Kd.int .i64) 3 w' w.heap.size (fun _ => True) v0_ r1 ∧ IsS89 w0 w' g s0_0 r2 r3 ∧ Below w0.heap.size w0 w' ∧ KeepBut w w' g none := by
 have hu30 := Try.underlying30
 have HR1_0 := Aside0.mk hr1_0
 have HC1_0 := Aside0.mk hc1_0
 clear hr1_0 hc1_0
 have HI0 := Aside0.mk hI
 have HK := Aside0.mk (KeepBut.refl w g none)
 have HL := Aside0.mk hB.size
 clear hI
 have HW0 := Aside0.mk hB.size
 have HB := Aside0.mk hB
 clear hB
 have H : ((spec_l6DrawKnow.f k s0_0 s0_1 s0_2 l1_0).bind fun bt349 => ((spec_l1Below.f s0_0 bt349.2.1 bt349.2.2 30).bind fun bt354 => (if bt354.1 = 0 then (if bt349.1.length < 17592186044416 then (some ((bt349.1 ++ [(l1_0.length : Int)]), bt354.2.1, bt354.2.2)) else (none)) else (if bt354.1 = 1 then (if bt349.1.length + bt349.1.length < 17592186044416 then (some ((bt349.1 ++ bt349.1), bt354.2.1, bt354.2.2)) else (none)) else (if bt354.1 = 2 then (spec_l6DrawAny.l0 k bt349.1 0 s0_0 bt354.2.1 bt354.2.2) else (some (bt349.1, bt354.2.1, bt354.2.2))))))) = some (r1, r2, r3) := h
 clear h
 replace H := Option.bind_eq_some_iff.mp H
 obtain ⟨⟨t349, t352, t353⟩, A30, H⟩ := H
 replace H : ((spec_l1Below.f s0_0 t352 t353 30).bind fun bt354 => (if bt354.1 = 0 then (if t349.length < 17592186044416 then (some ((t349 ++ [(l1_0.length : Int)]), bt354.2.1, bt354.2.2)) else (none)) else (if bt354.1 = 1 then (if t349.length + t349.length < 17592186044416 then (some ((t349 ++ t349), bt354.2.1, bt354.2.2)) else (none)) else (if bt354.1 = 2 then (spec_l6DrawAny.l0 k t349 0 s0_0 bt354.2.1 bt354.2.2) else (some (t349, bt354.2.1, bt354.2.2)))))) = some (r1, r2, r3) := H
 have A3 := Aside0.mk A30
 clear A30
 replace H := Option.bind_eq_some_iff.mp H
 obtain ⟨⟨t354, t355, t356⟩, A40, H⟩ := H
 replace H : (if t354 = 0 then (if t349.length < 17592186044416 then (some ((t349 ++ [(l1_0.length : Int)]), t355, t356)) else (none)) else (if t354 = 1 then (if t349.length + t349.length < 17592186044416 then (some ((t349 ++ t349), t355, t356)) else (none)) else (if t354 = 2 then (spec_l6DrawAny.l0 k t349 0 s0_0 t355 t356) else (some (t349, t355, t356))))) = some (r1, r2, r3) := H
 have A4 := Aside0.mk A40
 clear A40
 by_cases c5 : t354 = 0
 ·rw [if_pos c5] at H
  have c5b0 : (t354 == 0) = true := beq_iff_eq.mpr c5
  have c5b1 : (t354 != 0) = false := bne_eq_false_iff_eq.mpr c5
  clear c5
  by_cases c6 : t349.length < 17592186044416
  ·rw [if_pos c6] at H
   have LMc6 := Aside0.mk c6
   clear c6
   obtain ⟨y357, hy357⟩ : ∃ y_ : List Int, y_ = (t349 ++ [(l1_0.length : Int)]) := ⟨_, rfl⟩
   replace H : (some (y357, t355, t356)) = some (r1, r2, r3) := by first | (rw [hy357]; with_reducible exact H) | (have H2_ := (Option.bind_some _ _).symm.trans H; rw [hy357]; with_reducible exact H2_) | (have H2_ := (Option.bind_some _ _).symm.trans H; with_reducible exact H2_) | with_reducible exact H | (rw [hy357]; exact H) | exact H
   have Ny357 := Aside0.mk hy357
   clear hy357
   simp only [Option.some.injEq, Prod.mk.injEq] at H
   obtain ⟨rfl, rfl, rfl⟩ := H
   go_enter Try.func61, Try.ntmps61
   go_wp2_with (first | ((with_reducible refine gate_dst (N := 3) rfl ?_); refine box_event ?hg (N := 3) ?hd (cs := #[.slice A1_0 l1_0.length c1_0]) (t := 30) ?hr ?_; (case hd => rfl); (case hg => rfl); (case hr => first | (go_simp; done) | (go_simp; rfl)); intro gb348 hg w7 hbox hb; have n0_ := Aside0.mk (IsS89.below (zi89 HI0.out) hb); have n1_ := Aside0.mk (KeepBut.trans (zq HK.out) (KeepBut.of_below hb g none) (.inl rfl)); have n2_ := Aside0.mk (below_step (zj HB.out (IsS89.ge HI0.out)) hb); have n3_ := Aside0.mk (hbox); have n4_ := Aside0.mk ((by rw [hg]; exact (keep_size (w := w) (g := g) (row := none) (zq HK.out)) : w.heap.size ≤ gb348)); have n5_ := Aside0.mk ((Nat.le_trans HW0.out (by rw [hg]; exact (keep_size (w := w) (g := g) (row := none) (zq HK.out)) : w.heap.size ≤ gb348) : w0.heap.size ≤ gb348)); have n6_ := Aside0.mk ((by rw [hg]; exact Nat.ne_of_lt (IsS89.lt (show IsS89 w0 _ g s0_0 s0_1 s0_2 from zi89 HI0.out)) : g ≠ gb348)); have n7_ := Aside0.mk ((by rw [hg]; exact Nat.ne_of_gt (IsS89.lt (show IsS89 w0 _ g s0_0 s0_1 s0_2 from zi89 HI0.out)) : gb348 ≠ g)); clear HI0; clear HK; clear HB; have HI0 := n0_; have HK := n1_; have HB := n2_; have BK348 := n3_; have GW348 := n4_; have GE348 := n5_; have NB0_348 := n6_; have NB348_0 := n7_; clear n0_ n1_ n2_ n3_ n4_ n5_ n6_ n7_; clear hb hbox hg; have hnb8 := NB348_0.out; have hnc8 := NB0_348.out; have hcz9_0 : w7.cell? ⟨gb348, 0, none⟩ = some (.slice A1_0 l1_0.length c1_0) := (blk_cell BK348.out 0).trans rfl; have hfz9_0 := blk_frozen BK348.out 0) | ((with_reducible refine gate_callee (f := 90) rfl ?_); refine goesL_ (some 9) rfl rfl Try.func90 (by kernel_rfl) rfl #[.pointer (some ⟨g, 0, none⟩), .agg #[.slice A1_0 l1_0.length c1_0]] rfl zl ?_; (with_reducible refine (spec_l6DrawKnow.calls k g s0_0 s0_1 s0_2 _ _ l1_0 t349 t352 t353 w0 _ ?side1 ?side2 ?side3 ?side4 A3.out).mono ?_); (case side1 => exact zi89 HI0.out); (case side2 => exact zj HB.out (IsS89.ge HI0.out)); (case side3 => exact Kd.C_foot_step HR1_0.out (zq HK.out)); (case side4 => exact HC1_0.out); rintro e w10 ⟨v350, rfl, ho0, hi, hb, hk⟩; refine ⟨_, rfl, ?_⟩; have n0_ := Aside0.mk (KeepBut.blk hk (g' := gb348) (o := .cells #[.slice A1_0 l1_0.length c1_0] 30 (0, 0)) (zh BK348.out) NB348_0.out (by simp)); have n1_ := Aside0.mk (Kd.R_lower ho0 (keep_size (w := w) (g := g) (row := none) (zq HK.out))); have n2_ := Aside0.mk (KeepBut.trans (zq HK.out) hk (.inl rfl)); have n3_ := Aside0.mk (hb); have n4_ := Aside0.mk (hi); clear BK348; clear HK; clear HB; clear HI0; have BK348 := n0_; have HO351 := n1_; have HK := n2_; have HB := n3_; have HI0 := n4_; clear n0_ n1_ n2_ n3_ n4_; (try clear hb); (try clear hb2); (try clear hk); (try clear hi); (try clear ho0)) | ((with_reducible refine gate_callee (f := 74) rfl ?_); refine goesL_ (some 11) rfl rfl Try.func74 (by kernel_rfl) rfl #[.pointer (some ⟨g, 0, none⟩), .int .i64 30] rfl zl ?_; (with_reducible refine (spec_l1Below.calls g s0_0 t352 t353 30 t354 t355 t356 w0 _ ?side1 ?side2 A4.out).mono ?_); (case side1 => exact zi89 HI0.out); (case side2 => exact zj HB.out (IsS89.ge HI0.out)); rintro e w11 ⟨rfl, hi, hb, hk⟩; refine ⟨_, rfl, ?_⟩; have n0_ := Aside0.mk (KeepBut.blk hk (g' := gb348) (o := .cells #[.slice A1_0 l1_0.length c1_0] 30 (0, 0)) (zh BK348.out) NB348_0.out (by simp)); have n1_ := Aside0.mk (Kd.R_mono (Kd.R_keep (IsS89.apart (show IsS89 w0 _ g s0_0 t352 t353 from zi89 HI0.out) (zr HO351.out) (by decide)) hk (fun _ h => h.2)) (fun _ h => h.1)); have n2_ := Aside0.mk (KeepBut.trans (zq HK.out) hk (.inl rfl)); have n3_ := Aside0.mk (hb); have n4_ := Aside0.mk (hi); clear BK348; clear HO351; clear HK; clear HB; clear HI0; have BK348 := n0_; have HO351 := n1_; have HK := n2_; have HB := n3_; have HI0 := n4_; clear n0_ n1_ n2_ n3_ n4_; (try clear hb); (try clear hb2); (try clear hk); (try clear hi); have hcz12_0 : w11.cell? ⟨gb348, 0, none⟩ = some (.slice A1_0 l1_0.length c1_0) := (blk_cell BK348.out 0).trans rfl; have hfz12_0 := blk_frozen BK348.out 0) | ((with_reducible refine gate_builtin (b := .append) (xs := #[.tmp 14, .tmp 18]) rfl ?_); at_builtin; refine Kd.R_append (Kd.int .i64) w.heap.size rfl (.tmp 14) (.tmp 18) 26 3 (.int .i64 0) 8 rfl Try.underlying26 info3 rfl (by decide) (by omega) v350 t349 (l1_0.length : Int) [.int .i64 (l1_0.length : Int)] (fun _ => True) (fun _ => False) rfl rfl ?aP (fun _ hk => hk.elim) ?aF ?aO (Below.refl _ _) ?aS ?aL ?_; (case aP => exact rfl); (case aF => exact (fun _ _ => trivial)); (case aO => exact (zr HO351.out)); (case aS => exact (keep_size (w := w) (g := g) (row := none) (zq HK.out))); (case aL => have := LMc6.out; omega); intro v358 w13 ho hb hg hat; rw [← Ny357.out] at ho; have n0_ := Aside0.mk (IsS89.grown (zi89 HI0.out) hg (IsS89.own_ne HI0.out HO351.out (by decide))); have n1_ := Aside0.mk (blk_grown (zh BK348.out) hg (Kd.R_ne HO351.out BK348.out (by decide))); have n2_ := Aside0.mk (below_weaken (zj HB.out (IsS89.ge HI0.out)) HL.out hb); have n3_ := Aside0.mk (KeepBut.trans (zq HK.out) (KeepBut.of_grown hg g) (Kd.R_base2 HO351.out)); have n4_ := Aside0.mk (ho); clear HI0; clear BK348; clear HB; clear HK; clear HO351; have HI0 := n0_; have BK348 := n1_; have HB := n2_; have HK := n3_; have HO359 := n4_; clear n0_ n1_ n2_ n3_ n4_; clear ho hb hg hat))
   go_ret
   exact ⟨_, ze, zr HO359.out, zi89 HI0.out, zj HB.out (IsS89.ge HI0.out), zq HK.out⟩
  ·rw [if_neg c6] at H
   exact absurd H (by simp)
 ·rw [if_neg c5] at H
  have c5b0 : (t354 == 0) = false := beq_eq_false_iff_ne.mpr c5
  have c5b1 : (t354 != 0) = true := bne_iff_ne.mpr c5
  by_cases c14 : t354 = 1
  ·rw [if_pos c14] at H
   have c14b0 : (t354 == 1) = true := beq_iff_eq.mpr c14
   have c14b1 : (t354 != 1) = false := bne_eq_false_iff_eq.mpr c14
   clear c14
   by_cases c15 : t349.length + t349.length < 17592186044416
   ·rw [if_pos c15] at H
    have LMc15 := Aside0.mk c15
    clear c15
    obtain ⟨y360, hy360⟩ : ∃ y_ : List Int, y_ = (t349 ++ t349) := ⟨_, rfl⟩
    replace H : (some (y360, t355, t356)) = some (r1, r2, r3) := by first | (rw [hy360]; with_reducible exact H) | (have H2_ := (Option.bind_some _ _).symm.trans H; rw [hy360]; with_reducible exact H2_) | (have H2_ := (Option.bind_some _ _).symm.trans H; with_reducible exact H2_) | with_reducible exact H | (rw [hy360]; exact H) | exact H
    have Ny360 := Aside0.mk hy360
    clear hy360
    simp only [Option.some.injEq, Prod.mk.injEq] at H
    obtain ⟨rfl, rfl, rfl⟩ := H
    go_enter Try.func61, Try.ntmps61
    go_wp2_with (first | ((with_reducible refine gate_dst (N := 3) rfl ?_); refine box_event ?hg (N := 3) ?hd (cs := #[.slice A1_0 l1_0.length c1_0]) (t := 30) ?hr ?_; (case hd => rfl); (case hg => rfl); (case hr => first | (go_simp; done) | (go_simp; rfl)); intro gb348 hg w16 hbox hb; have n0_ := Aside0.mk (IsS89.below (zi89 HI0.out) hb); have n1_ := Aside0.mk (KeepBut.trans (zq HK.out) (KeepBut.of_below hb g none) (.inl rfl)); have n2_ := Aside0.mk (below_step (zj HB.out (IsS89.ge HI0.out)) hb); have n3_ := Aside0.mk (hbox); have n4_ := Aside0.mk ((by rw [hg]; exact (keep_size (w := w) (g := g) (row := none) (zq HK.out)) : w.heap.size ≤ gb348)); have n5_ := Aside0.mk ((Nat.le_trans HW0.out (by rw [hg]; exact (keep_size (w := w) (g := g) (row := none) (zq HK.out)) : w.heap.size ≤ gb348) : w0.heap.size ≤ gb348)); have n6_ := Aside0.mk ((by rw [hg]; exact Nat.ne_of_lt (IsS89.lt (show IsS89 w0 _ g s0_0 s0_1 s0_2 from zi89 HI0.out)) : g ≠ gb348)); have n7_ := Aside0.mk ((by rw [hg]; exact Nat.ne_of_gt (IsS89.lt (show IsS89 w0 _ g s0_0 s0_1 s0_2 from zi89 HI0.out)) : gb348 ≠ g)); clear HI0; clear HK; clear HB; have HI0 := n0_; have HK := n1_; have HB := n2_; have BK348 := n3_; have GW348 := n4_; have GE348 := n5_; have NB0_348 := n6_; have NB348_0 := n7_; clear n0_ n1_ n2_ n3_ n4_ n5_ n6_ n7_; clear hb hbox hg; have hnb17 := NB348_0.out; have hnc17 := NB0_348.out; have hcz18_0 : w16.cell? ⟨gb348, 0, none⟩ = some (.slice A1_0 l1_0.length c1_0) := (blk_cell BK348.out 0).trans rfl; have hfz18_0 := blk_frozen BK348.out 0) | ((with_reducible refine gate_callee (f := 90) rfl ?_); refine goesL_ (some 9) rfl rfl Try.func90 (by kernel_rfl) rfl #[.pointer (some ⟨g, 0, none⟩), .agg #[.slice A1_0 l1_0.length c1_0]] rfl zl ?_; (with_reducible refine (spec_l6DrawKnow.calls k g s0_0 s0_1 s0_2 _ _ l1_0 t349 t352 t353 w0 _ ?side1 ?side2 ?side3 ?side4 A3.out).mono ?_); (case side1 => exact zi89 HI0.out); (case side2 => exact zj HB.out (IsS89.ge HI0.out)); (case side3 => exact Kd.C_foot_step HR1_0.out (zq HK.out)); (case side4 => exact HC1_0.out); rintro e w19 ⟨v350, rfl, ho0, hi, hb, hk⟩; refine ⟨_, rfl, ?_⟩; have n0_ := Aside0.mk (KeepBut.blk hk (g' := gb348) (o := .cells #[.slice A1_0 l1_0.length c1_0] 30 (0, 0)) (zh BK348.out) NB348_0.out (by simp)); have n1_ := Aside0.mk (Kd.R_lower ho0 (keep_size (w := w) (g := g) (row := none) (zq HK.out))); have n2_ := Aside0.mk (KeepBut.trans (zq HK.out) hk (.inl rfl)); have n3_ := Aside0.mk (hb); have n4_ := Aside0.mk (hi); clear BK348; clear HK; clear HB; clear HI0; have BK348 := n0_; have HO351 := n1_; have HK := n2_; have HB := n3_; have HI0 := n4_; clear n0_ n1_ n2_ n3_ n4_; (try clear hb); (try clear hb2); (try clear hk); (try clear hi); (try clear ho0)) | ((with_reducible refine gate_callee (f := 74) rfl ?_); refine goesL_ (some 11) rfl rfl Try.func74 (by kernel_rfl) rfl #[.pointer (some ⟨g, 0, none⟩), .int .i64 30] rfl zl ?_; (with_reducible refine (spec_l1Below.calls g s0_0 t352 t353 30 t354 t355 t356 w0 _ ?side1 ?side2 A4.out).mono ?_); (case side1 => exact zi89 HI0.out); (case side2 => exact zj HB.out (IsS89.ge HI0.out)); rintro e w20 ⟨rfl, hi, hb, hk⟩; refine ⟨_, rfl, ?_⟩; have n0_ := Aside0.mk (KeepBut.blk hk (g' := gb348) (o := .cells #[.slice A1_0 l1_0.length c1_0] 30 (0, 0)) (zh BK348.out) NB348_0.out (by simp)); have n1_ := Aside0.mk (Kd.R_mono (Kd.R_keep (IsS89.apart (show IsS89 w0 _ g s0_0 t352 t353 from zi89 HI0.out) (zr HO351.out) (by decide)) hk (fun _ h => h.2)) (fun _ h => h.1)); have n2_ := Aside0.mk (KeepBut.trans (zq HK.out) hk (.inl rfl)); have n3_ := Aside0.mk (hb); have n4_ := Aside0.mk (hi); clear BK348; clear HO351; clear HK; clear HB; clear HI0; have BK348 := n0_; have HO351 := n1_; have HK := n2_; have HB := n3_; have HI0 := n4_; clear n0_ n1_ n2_ n3_ n4_; (try clear hb); (try clear hb2); (try clear hk); (try clear hi); obtain ⟨Ao22, co22, eo22⟩ := Kd.R_slice HO351.out; subst eo22) | ((with_reducible refine gate_builtin (b := .append) (xs := #[.tmp 22, .tmp 23]) rfl ?_); at_builtin; refine Kd.R_append_rows (Kd.int .i64) w.heap.size rfl (.tmp 22) (.tmp 23) 26 3 (.int .i64 0) 8 rfl Try.underlying26 info3 rfl (by decide) (by omega) (.slice Ao22 t349.length co22) t349 t349 _ _ _ (fun _ => True) (fun _ => False) rfl rfl ?aO ?aR (fun _ _ h => h) (fun _ h => h.elim) ?aF (Below.refl _ _) ?aS ?aL ?_; (case aR => exact zc (Kd.R_reads' HO351.out).2.2); (case aF => exact (fun _ _ => trivial)); (case aO => exact (zr HO351.out)); (case aS => exact (keep_size (w := w) (g := g) (row := none) (zq HK.out))); (case aL => have := LMc15.out; omega); intro v361 w21 ho hb hg hat; rw [← Ny360.out] at ho; have n0_ := Aside0.mk (IsS89.grown (zi89 HI0.out) hg (IsS89.own_ne HI0.out HO351.out (by decide))); have n1_ := Aside0.mk (blk_grown (zh BK348.out) hg (Kd.R_ne HO351.out BK348.out (by decide))); have n2_ := Aside0.mk (below_weaken (zj HB.out (IsS89.ge HI0.out)) HL.out hb); have n3_ := Aside0.mk (KeepBut.trans (zq HK.out) (KeepBut.of_grown hg g) (Kd.R_base2 HO351.out)); have n4_ := Aside0.mk (ho); clear HI0; clear BK348; clear HB; clear HK; clear HO351; have HI0 := n0_; have BK348 := n1_; have HB := n2_; have HK := n3_; have HO362 := n4_; clear n0_ n1_ n2_ n3_ n4_; clear ho hb hg hat))
    go_ret
    exact ⟨_, ze, zr HO362.out, zi89 HI0.out, zj HB.out (IsS89.ge HI0.out), zq HK.out⟩
   ·rw [if_neg c15] at H
    exact absurd H (by simp)
  ·rw [if_neg c14] at H
   have c14b0 : (t354 == 1) = false := beq_eq_false_iff_ne.mpr c14
   have c14b1 : (t354 != 1) = true := bne_iff_ne.mpr c14
   by_cases c23 : t354 = 2
   ·rw [if_pos c23] at H
    have c23b0 : (t354 == 2) = true := beq_iff_eq.mpr c23
    have c23b1 : (t354 != 2) = false := bne_eq_false_iff_eq.mpr c23
    clear c23
    have H' := Aside0.mk H
    clear H
    go_enter Try.func61, Try.ntmps61
    go_wp2_with (first | ((with_reducible refine gate_dst (N := 3) rfl ?_); refine box_event ?hg (N := 3) ?hd (cs := #[.slice A1_0 l1_0.length c1_0]) (t := 30) ?hr ?_; (case hd => rfl); (case hg => rfl); (case hr => first | (go_simp; done) | (go_simp; rfl)); intro gb348 hg w24 hbox hb; have n0_ := Aside0.mk (IsS89.below (zi89 HI0.out) hb); have n1_ := Aside0.mk (KeepBut.trans (zq HK.out) (KeepBut.of_below hb g none) (.inl rfl)); have n2_ := Aside0.mk (below_step (zj HB.out (IsS89.ge HI0.out)) hb); have n3_ := Aside0.mk (hbox); have n4_ := Aside0.mk ((by rw [hg]; exact (keep_size (w := w) (g := g) (row := none) (zq HK.out)) : w.heap.size ≤ gb348)); have n5_ := Aside0.mk ((Nat.le_trans HW0.out (by rw [hg]; exact (keep_size (w := w) (g := g) (row := none) (zq HK.out)) : w.heap.size ≤ gb348) : w0.heap.size ≤ gb348)); have n6_ := Aside0.mk ((by rw [hg]; exact Nat.ne_of_lt (IsS89.lt (show IsS89 w0 _ g s0_0 s0_1 s0_2 from zi89 HI0.out)) : g ≠ gb348)); have n7_ := Aside0.mk ((by rw [hg]; exact Nat.ne_of_gt (IsS89.lt (show IsS89 w0 _ g s0_0 s0_1 s0_2 from zi89 HI0.out)) : gb348 ≠ g)); clear HI0; clear HK; clear HB; have HI0 := n0_; have HK := n1_; have HB := n2_; have BK348 := n3_; have GW348 := n4_; have GE348 := n5_; have NB0_348 := n6_; have NB348_0 := n7_; clear n0_ n1_ n2_ n3_ n4_ n5_ n6_ n7_; clear hb hbox hg; have hnb25 := NB348_0.out; have hnc25 := NB0_348.out; have hcz26_0 : w24.cell? ⟨gb348, 0, none⟩ = some (.slice A1_0 l1_0.length c1_0) := (blk_cell BK348.out 0).trans rfl; have hfz26_0 := blk_frozen BK348.out 0) | ((with_reducible refine gate_callee (f := 90) rfl ?_); refine goesL_ (some 9) rfl rfl Try.func90 (by kernel_rfl) rfl #[.pointer (some ⟨g, 0, none⟩), .agg #[.slice A1_0 l1_0.length c1_0]] rfl zl ?_; (with_reducible refine (spec_l6DrawKnow.calls k g s0_0 s0_1 s0_2 _ _ l1_0 t349 t352 t353 w0 _ ?side1 ?side2 ?side3 ?side4 A3.out).mono ?_); (case side1 => exact zi89 HI0.out); (case side2 => exact zj HB.out (IsS89.ge HI0.out)); (case side3 => exact Kd.C_foot_step HR1_0.out (zq HK.out)); (case side4 => exact HC1_0.out); rintro e w27 ⟨v350, rfl, ho0, hi, hb, hk⟩; refine ⟨_, rfl, ?_⟩; have n0_ := Aside0.mk (KeepBut.blk hk (g' := gb348) (o := .cells #[.slice A1_0 l1_0.length c1_0] 30 (0, 0)) (zh BK348.out) NB348_0.out (by simp)); have n1_ := Aside0.mk (Kd.R_lower ho0 (keep_size (w := w) (g := g) (row := none) (zq HK.out))); have n2_ := Aside0.mk (KeepBut.trans (zq HK.out) hk (.inl rfl)); have n3_ := Aside0.mk (hb); have n4_ := Aside0.mk (hi); clear BK348; clear HK; clear HB; clear HI0; have BK348 := n0_; have HO351 := n1_; have HK := n2_; have HB := n3_; have HI0 := n4_; clear n0_ n1_ n2_ n3_ n4_; (try clear hb); (try clear hb2); (try clear hk); (try clear hi); (try clear ho0)) | ((with_reducible refine gate_callee (f := 74) rfl ?_); refine goesL_ (some 11) rfl rfl Try.func74 (by kernel_rfl) rfl #[.pointer (some ⟨g, 0, none⟩), .int .i64 30] rfl zl ?_; (with_reducible refine (spec_l1Below.calls g s0_0 t352 t353 30 t354 t355 t356 w0 _ ?side1 ?side2 A4.out).mono ?_); (case side1 => exact zi89 HI0.out); (case side2 => exact zj HB.out (IsS89.ge HI0.out)); rintro e w28 ⟨rfl, hi, hb, hk⟩; refine ⟨_, rfl, ?_⟩; have n0_ := Aside0.mk (KeepBut.blk hk (g' := gb348) (o := .cells #[.slice A1_0 l1_0.length c1_0] 30 (0, 0)) (zh BK348.out) NB348_0.out (by simp)); have n1_ := Aside0.mk (Kd.R_mono (Kd.R_keep (IsS89.apart (show IsS89 w0 _ g s0_0 t352 t353 from zi89 HI0.out) (zr HO351.out) (by decide)) hk (fun _ h => h.2)) (fun _ h => h.1)); have n2_ := Aside0.mk (KeepBut.trans (zq HK.out) hk (.inl rfl)); have n3_ := Aside0.mk (hb); have n4_ := Aside0.mk (hi); clear BK348; clear HO351; clear HK; clear HB; clear HI0; have BK348 := n0_; have HO351 := n1_; have HK := n2_; have HB := n3_; have HI0 := n4_; clear n0_ n1_ n2_ n3_ n4_; (try clear hb); (try clear hb2); (try clear hk); (try clear hi)))
    go_loopg [5, 6] k (fun kq v5 v6 w' => ∃ (x5_1 : List Int) (x6_1 : Int) (x1001_1 : Int) (x1002_1 : Int), v6 = .int .i64 x6_1 ∧ Aside0 (spec_l6DrawAny.l0 kq x5_1 x6_1 s0_0 x1001_1 x1002_1 = some (r1, r2, r3)) ∧ Aside0 (kq ≤ k) ∧ Aside0 (Kd.R (Kd.int .i64) 3 w' w.heap.size (fun _ => True) v5 x5_1) ∧ Aside0 (w'.heap[gb348]? = some (.cells #[(.slice A1_0 l1_0.length c1_0)] 30 (0, 0))) ∧ Aside0 (IsS89 w0 w' g s0_0 x1001_1 x1002_1) ∧ Aside0 (KeepBut w w' g none) ∧ Aside0 (Below w0.heap.size w0 w'))
    case atStart => exact ⟨(t349), (0), (t355), (t356), (by first | rfl | (simp; done) | (simp [*]; done)), H', ⟨Nat.le_refl _⟩, ⟨zr HO351.out⟩, ⟨zh BK348.out⟩, ⟨zi89 HI0.out⟩, ⟨zq HK.out⟩, ⟨zj HB.out (IsS89.ge HI0.out)⟩⟩
    case round =>
     clear H'
     try clear c1
     try clear c2
     try clear p2
     try clear c5
     try clear c5b0
     try clear c5b1
     try clear c6
     try clear c7
     try clear c8
     try clear c9
     try clear c14
     try clear c14b0
     try clear c14b1
     try clear c15
     try clear c17
     try clear c23
     try clear c23b0
     try clear c23b1
     try clear c25
     try clear hcz12_0
     try clear hcz18_0
     try clear hcz26_0
     try clear hcz9_0
     try clear hfz12_0
     try clear hfz18_0
     try clear hfz26_0
     try clear hfz9_0
     obtain ⟨x5_1, x6_1, x1001_1, x1002_1, rfl, HA, HK1, HO_5, BK348, HI0, HK, HB⟩ := hrel
     cases gk with
     | zero => exact absurd HA.out (by simp [spec_l6DrawAny.l0])
     | succ k1 =>
      have H := HA.out
      clear HA
      simp only [spec_l6DrawAny.l0] at H
      replace H := Option.bind_eq_some_iff.mp H
      obtain ⟨⟨t363, t364, t365⟩, A290, H⟩ := H
      replace H : (if x6_1 < (wrap64 (200 + t363)) then ((spec_l6Put.f k1 x5_1 x6_1).bind fun t366 => (spec_l6DrawAny.l0 k1 t366 (wrap64 (x6_1 + 1)) s0_0 t364 t365)) else (some (x5_1, t364, t365))) = some (r1, r2, r3) := H
      have A29 := Aside0.mk A290
      clear A290
      by_cases c30 : x6_1 < (wrap64 (200 + t363))
      ·rw [if_pos c30] at H
       have c30b0 : decide (x6_1 < (wrap64 (200 + t363))) = true := decide_eq_true c30
       clear c30
       replace H := Option.bind_eq_some_iff.mp H
       obtain ⟨t366, A310, H⟩ := H
       replace H : (spec_l6DrawAny.l0 k1 t366 (wrap64 (x6_1 + 1)) s0_0 t364 t365) = some (r1, r2, r3) := H
       have A31 := Aside0.mk A310
       clear A310
       have H' := Aside0.mk H
       clear H
       go_wp2_with (first | ((with_reducible refine gate_callee (f := 74) rfl ?_); refine goesL_ (some 29) rfl rfl Try.func74 (by kernel_rfl) rfl #[.pointer (some ⟨g, 0, none⟩), .int .i64 2] rfl zl ?_; (with_reducible refine (spec_l1Below.calls g s0_0 x1001_1 x1002_1 2 t363 t364 t365 w0 _ ?side1 ?side2 A29.out).mono ?_); (case side1 => exact zi89 HI0.out); (case side2 => exact zj HB.out (IsS89.ge HI0.out)); rintro e w32 ⟨rfl, hi, hb, hk⟩; refine ⟨_, rfl, ?_⟩; have n0_ := Aside0.mk (Kd.R_mono (Kd.R_keep (IsS89.apart (show IsS89 w0 _ g s0_0 x1001_1 x1002_1 from zi89 HI0.out) (zr HO_5.out) (by decide)) hk (fun _ h => h.2)) (fun _ h => h.1)); have n1_ := Aside0.mk (KeepBut.blk hk (g' := gb348) (o := .cells #[.slice A1_0 l1_0.length c1_0] 30 (0, 0)) (zh BK348.out) NB348_0.out (by simp)); have n2_ := Aside0.mk (KeepBut.trans (zq HK.out) hk (.inl rfl)); have n3_ := Aside0.mk (hb); have n4_ := Aside0.mk (hi); clear HO_5; clear BK348; clear HK; clear HB; clear HI0; have HO_5 := n0_; have BK348 := n1_; have HK := n2_; have HB := n3_; have HI0 := n4_; clear n0_ n1_ n2_ n3_ n4_; (try clear hb); (try clear hb2); (try clear hk); (try clear hi); obtain ⟨Ao33, co33, eo33⟩ := Kd.R_slice HO_5.out; subst eo33) | ((with_reducible refine gate_callee (f := 55) rfl ?_); refine goesL_ (some 36) rfl rfl Try.func55 (by kernel_rfl) rfl #[.slice Ao33 x5_1.length co33, .int .i64 x6_1] rfl zl ?_; (with_reducible refine (spec_l6Put.calls k1 _ _ x5_1 x6_1 t366 _ ?side1 ?side2 A31.out).mono ?_); (case side1 => exact zc (Kd.R_reads' HO_5.out).2.2); (case side2 => exact (Kd.R_reads' HO_5.out).2.1); rintro e w34 ⟨v367, rfl, ho0, hb⟩; refine ⟨_, rfl, ?_⟩; have n0_ := Aside0.mk (Kd.R_elder' (zr HO_5.out) (Kd.R_base ho0) hb); have n1_ := Aside0.mk (Kd.R_lower (Kd.R_new' ho0 (Kd.R_lt (zr HO_5.out))) (keep_size (w := w) (g := g) (row := none) (zq HK.out))); have n2_ := Aside0.mk (blk_below (zh BK348.out) hb); have n3_ := Aside0.mk (IsS89.below (zi89 HI0.out) hb); have n4_ := Aside0.mk (KeepBut.trans (zq HK.out) (KeepBut.of_below hb g none) (.inl rfl)); have n5_ := Aside0.mk (below_step (zj HB.out (IsS89.ge HI0.out)) hb); clear HO_5; clear BK348; clear HI0; clear HK; clear HB; have HO_5 := n0_; have HO368 := n1_; have BK348 := n2_; have HI0 := n3_; have HK := n4_; have HB := n5_; clear n0_ n1_ n2_ n3_ n4_ n5_; (try clear hb); (try clear hb2); (try clear hk); (try clear hi); (try clear ho0)))
       go_roundg k1
       case measure => have := HK1.out; omega
       case rel => exact ⟨(t366), (wrap64 (x6_1 + 1)), (t364), (t365), (by first | rfl | (simp; done) | (simp [*]; done)), H', ⟨by have := HK1.out; omega⟩, ⟨zr (Kd.R_mono HO368.out (fun _ hk => trivial))⟩, ⟨zh BK348.out⟩, ⟨zi89 HI0.out⟩, ⟨zq HK.out⟩, ⟨zj HB.out (IsS89.ge HI0.out)⟩⟩
      ·rw [if_neg c30] at H
       have c30b0 : decide (x6_1 < (wrap64 (200 + t363))) = false := decide_eq_false c30
       clear c30
       simp only [Option.some.injEq, Prod.mk.injEq] at H
       obtain ⟨rfl, rfl, rfl⟩ := H
       go_wp2_with (first | ((with_reducible refine gate_callee (f := 74) rfl ?_); refine goesL_ (some 29) rfl rfl Try.func74 (by kernel_rfl) rfl #[.pointer (some ⟨g, 0, none⟩), .int .i64 2] rfl zl ?_; (with_reducible refine (spec_l1Below.calls g s0_0 x1001_1 x1002_1 2 t363 t364 t365 w0 _ ?side1 ?side2 A29.out).mono ?_); (case side1 => exact zi89 HI0.out); (case side2 => exact zj HB.out (IsS89.ge HI0.out)); rintro e w35 ⟨rfl, hi, hb, hk⟩; refine ⟨_, rfl, ?_⟩; have n0_ := Aside0.mk (Kd.R_mono (Kd.R_keep (IsS89.apart (show IsS89 w0 _ g s0_0 x1001_1 x1002_1 from zi89 HI0.out) (zr HO_5.out) (by decide)) hk (fun _ h => h.2)) (fun _ h => h.1)); have n1_ := Aside0.mk (KeepBut.blk hk (g' := gb348) (o := .cells #[.slice A1_0 l1_0.length c1_0] 30 (0, 0)) (zh BK348.out) NB348_0.out (by simp)); have n2_ := Aside0.mk (KeepBut.trans (zq HK.out) hk (.inl rfl)); have n3_ := Aside0.mk (hb); have n4_ := Aside0.mk (hi); clear HO_5; clear BK348; clear HK; clear HB; clear HI0; have HO_5 := n0_; have BK348 := n1_; have HK := n2_; have HB := n3_; have HI0 := n4_; clear n0_ n1_ n2_ n3_ n4_; (try clear hb); (try clear hb2); (try clear hk); (try clear hi)))
       go_ret
       exact ⟨_, ze, zr HO_5.out, zi89 HI0.out, zj HB.out (IsS89.ge HI0.out), zq HK.out⟩
   ·rw [if_neg c23] at H
    have c23b0 : (t354 == 2) = false := beq_eq_false_iff_ne.mpr c23
    have c23b1 : (t354 != 2) = true := bne_iff_ne.mpr c23
    simp only [Option.some.injEq, Prod.mk.injEq] at H
    obtain ⟨rfl, rfl, rfl⟩ := H
    go_enter Try.func61, Try.ntmps61
    go_wp2_with (first | ((with_reducible refine gate_dst (N := 3) rfl ?_); refine box_event ?hg (N := 3) ?hd (cs := #[.slice A1_0 l1_0.length c1_0]) (t := 30) ?hr ?_; (case hd => rfl); (case hg => rfl); (case hr => first | (go_simp; done) | (go_simp; rfl)); intro gb348 hg w36 hbox hb; have n0_ := Aside0.mk (IsS89.below (zi89 HI0.out) hb); have n1_ := Aside0.mk (KeepBut.trans (zq HK.out) (KeepBut.of_below hb g none) (.inl rfl)); have n2_ := Aside0.mk (below_step (zj HB.out (IsS89.ge HI0.out)) hb); have n3_ := Aside0.mk (hbox); have n4_ := Aside0.mk ((by rw [hg]; exact (keep_size (w := w) (g := g) (row := none) (zq HK.out)) : w.heap.size ≤ gb348)); have n5_ := Aside0.mk ((Nat.le_trans HW0.out (by rw [hg]; exact (keep_size (w := w) (g := g) (row := none) (zq HK.out)) : w.heap.size ≤ gb348) : w0.heap.size ≤ gb348)); have n6_ := Aside0.mk ((by rw [hg]; exact Nat.ne_of_lt (IsS89.lt (show IsS89 w0 _ g s0_0 s0_1 s0_2 from zi89 HI0.out)) : g ≠ gb348)); have n7_ := Aside0.mk ((by rw [hg]; exact Nat.ne_of_gt (IsS89.lt (show IsS89 w0 _ g s0_0 s0_1 s0_2 from zi89 HI0.out)) : gb348 ≠ g)); clear HI0; clear HK; clear HB; have HI0 := n0_; have HK := n1_; have HB := n2_; have BK348 := n3_; have GW348 := n4_; have GE348 := n5_; have NB0_348 := n6_; have NB348_0 := n7_; clear n0_ n1_ n2_ n3_ n4_ n5_ n6_ n7_; clear hb hbox hg; have hnb37 := NB348_0.out; have hnc37 := NB0_348.out; have hcz38_0 : w36.cell? ⟨gb348, 0, none⟩ = some (.slice A1_0 l1_0.length c1_0) := (blk_cell BK348.out 0).trans rfl; have hfz38_0 := blk_frozen BK348.out 0) | ((with_reducible refine gate_callee (f := 90) rfl ?_); refine goesL_ (some 9) rfl rfl Try.func90 (by kernel_rfl) rfl #[.pointer (some ⟨g, 0, none⟩), .agg #[.slice A1_0 l1_0.length c1_0]] rfl zl ?_; (with_reducible refine (spec_l6DrawKnow.calls k g s0_0 s0_1 s0_2 _ _ l1_0 t349 t352 t353 w0 _ ?side1 ?side2 ?side3 ?side4 A3.out).mono ?_); (case side1 => exact zi89 HI0.out); (case side2 => exact zj HB.out (IsS89.ge HI0.out)); (case side3 => exact Kd.C_foot_step HR1_0.out (zq HK.out)); (case side4 => exact HC1_0.out); rintro e w39 ⟨v350, rfl, ho0, hi, hb, hk⟩; refine ⟨_, rfl, ?_⟩; have n0_ := Aside0.mk (KeepBut.blk hk (g' := gb348) (o := .cells #[.slice A1_0 l1_0.length c1_0] 30 (0, 0)) (zh BK348.out) NB348_0.out (by simp)); have n1_ := Aside0.mk (Kd.R_lower ho0 (keep_size (w := w) (g := g) (row := none) (zq HK.out))); have n2_ := Aside0.mk (KeepBut.trans (zq HK.out) hk (.inl rfl)); have n3_ := Aside0.mk (hb); have n4_ := Aside0.mk (hi); clear BK348; clear HK; clear HB; clear HI0; have BK348 := n0_; have HO351 := n1_; have HK := n2_; have HB := n3_; have HI0 := n4_; clear n0_ n1_ n2_ n3_ n4_; (try clear hb); (try clear hb2); (try clear hk); (try clear hi); (try clear ho0)) | ((with_reducible refine gate_callee (f := 74) rfl ?_); refine goesL_ (some 11) rfl rfl Try.func74 (by kernel_rfl) rfl #[.pointer (some ⟨g, 0, none⟩), .int .i64 30] rfl zl ?_; (with_reducible refine (spec_l1Below.calls g s0_0 t352 t353 30 t354 t355 t356 w0 _ ?side1 ?side2 A4.out).mono ?_); (case side1 => exact zi89 HI0.out); (case side2 => exact zj HB.out (IsS89.ge HI0.out)); rintro e w40 ⟨rfl, hi, hb, hk⟩; refine ⟨_, rfl, ?_⟩; have n0_ := Aside0.mk (KeepBut.blk hk (g' := gb348) (o := .cells #[.slice A1_0 l1_0.length c1_0] 30 (0, 0)) (zh BK348.out) NB348_0.out (by simp)); have n1_ := Aside0.mk (Kd.R_mono (Kd.R_keep (IsS89.apart (show IsS89 w0 _ g s0_0 t352 t353 from zi89 HI0.out) (zr HO351.out) (by decide)) hk (fun _ h => h.2)) (fun _ h => h.1)); have n2_ := Aside0.mk (KeepBut.trans (zq HK.out) hk (.inl rfl)); have n3_ := Aside0.mk (hb); have n4_ := Aside0.mk (hi); clear BK348; clear HO351; clear HK; clear HB; clear HI0; have BK348 := n0_; have HO351 := n1_; have HK := n2_; have HB := n3_; have HI0 := n4_; clear n0_ n1_ n2_ n3_ n4_; (try clear hb); (try clear hb2); (try clear hk); (try clear hi)))
    go_ret
    exact ⟨_, ze, zr HO351.out, zi89 HI0.out, zj HB.out (IsS89.ge HI0.out), zq HK.out⟩

/-! ### spec_l1Max: function 112 -/
def spec_l1Max.f (a0 : Int) (a1 : Int) : Option (Int) := if a0 > a1 then (some a0) else (some a1)
set_option maxHeartbeats 8000000 in
set_option maxRecDepth 100000 in
theorem spec_l1Max.calls (a0 : Int) (a1 : Int) (r : Int) (w : World) (h : spec_l1Max.f a0 a1 = some r) :
  Calls Try.prog 112 #[.int .i64 a0, .int .i64 a1] w fun e w' => e = .returned (.int .i64 r) ∧ Drawn0 w w' := by
 have H : (if a0 > a1 then (some a0) else (some a1)) = some r := h
 clear h
 by_cases c3 : a0 > a1
 ·rw [if_pos c3] at H
  have c3b0 : decide (a1 < a0) = true := decide_eq_true c3
  clear c3
  obtain rfl := Option.some.inj H
  go_enter Try.func112, Try.ntmps112
  go_wp2
  go_ret
  exact ⟨by first | rfl | (simp; done) | (simp [*]; done), by repeat (first | exact Drawn0.refl _ | apply Drawn0.step)⟩
 ·rw [if_neg c3] at H
  have c3b0 : decide (a1 < a0) = false := decide_eq_false c3
  clear c3
  obtain rfl := Option.some.inj H
  go_enter Try.func112, Try.ntmps112
  go_wp2
  go_ret
  exact ⟨by first | rfl | (simp; done) | (simp [*]; done), by repeat (first | exact Drawn0.refl _ | apply Drawn0.step)⟩

/-! ### spec_l1DrawTerm: function 83 -/
def spec_l1DrawTerm.f (k : Nat) (s0_0 : List Int) (s0_1 : Int) (s0_2 : Int) (l1_0 : List (S44)) : Option (Int × Int × Int) := (spec_l1Once.f s0_0 s0_1 s0_2 25).bind fun bt370 => (if bt370.1 = true then ((spec_l1PickInt.f s0_0 bt370.2.1 bt370.2.2 (([(-1), (l1_0.length : Int)] : List Int))).bind fun bt376 => (some (bt376.1, bt376.2.1, bt376.2.2))) else ((spec_l1Max.f (l1_0.length : Int) 1).bind fun t379 => ((spec_l1Draw.f k s0_0 bt370.2.1 bt370.2.2 t379).bind fun bt380 => (some (bt380.1, bt380.2.1, bt380.2.2)))))
theorem spec_l1DrawTerm.mono : ∀ a0 a1 a2 a3 k, LeO (spec_l1DrawTerm.f k a0 a1 a2 a3) (spec_l1DrawTerm.f (k + 1) a0 a1 a2 a3) := by
 intro a0 a1 a2 a3 k
 unfold spec_l1DrawTerm.f
 repeat' first
   | (with_reducible exact spec_l1Draw.mono _ _ _ _ _)
   | (with_reducible exact LeO.refl _)
   | (with_reducible exact LeO.none _)
   | (with_reducible refine LeO.ite ?_ ?_)
   | (with_reducible refine LeO.bind ?_ (fun _ => ?_))
   | exact spec_l1Draw.mono _ _ _ _ _
   | exact LeO.none _
   | refine LeO.ite ?_ ?_
   | refine LeO.bind ?_ (fun _ => ?_)
set_option maxHeartbeats 8000000 in
set_option maxRecDepth 100000 in
theorem spec_l1DrawTerm.calls (k : Nat) (g : Nat) (s0_0 : List Int) (s0_1 : Int) (s0_2 : Int) (A1_0 : Option Addr) (c1_0 : Nat) (l1_0 : List (S44)) (r1 : Int) (r2 : Int) (r3 : Int) (w0 w : World) (hI : IsS89 w0 w g s0_0 s0_1 s0_2) (hB : Below w0.heap.size w0 w) (hr1_0 : ∀ W_, KeepBut w W_ g none → Kd.C k44 W_ A1_0 l1_0.length l1_0) (hc1_0 : l1_0.length ≤ c1_0) (h : spec_l1DrawTerm.f k s0_0 s0_1 s0_2 l1_0 = some (r1, r2, r3)) :
  Calls Try.prog 83 #[.pointer (some ⟨g, 0, none⟩), .agg #[.slice A1_0 l1_0.length c1_0]] w fun e w' => e = .returned (.int .i64 r1) ∧ IsS89 w0 w' g s0_0 r2 r3 ∧ Below w0.heap.size w0 w' ∧ KeepBut w w' g none := by
 have hu30 := Try.underlying30
 have HR1_0 := Aside0.mk hr1_0
 have HC1_0 := Aside0.mk hc1_0
 clear hr1_0 hc1_0
 have HI0 := Aside0.mk hI
 have HK := Aside0.mk (KeepBut.refl w g none)
 have HL := Aside0.mk hB.size
 clear hI
 have HW0 := Aside0.mk hB.size
 have HB := Aside0.mk hB
 clear hB
 have H : ((spec_l1Once.f s0_0 s0_1 s0_2 25).bind fun bt370 => (if bt370.1 = true then ((spec_l1PickInt.f s0_0 bt370.2.1 bt370.2.2 (([(-1), (l1_0.length : Int)] : List Int))).bind fun bt376 => (some (bt376.1, bt376.2.1, bt376.2.2))) else ((spec_l1Max.f (l1_0.length : Int) 1).bind fun t379 => ((spec_l1Draw.f k s0_0 bt370.2.1 bt370.2.2 t379).bind fun bt380 => (some (bt380.1, bt380.2.1, bt380.2.2)))))) = some (r1, r2, r3) := h
 clear h
 replace H := Option.bind_eq_some_iff.mp H
 obtain ⟨⟨t370, t371, t372⟩, A30, H⟩ := H
 replace H : (if t370 = true then ((spec_l1PickInt.f s0_0 t371 t372 (([(-1), (l1_0.length : Int)] : List Int))).bind fun bt376 => (some (bt376.1, bt376.2.1, bt376.2.2))) else ((spec_l1Max.f (l1_0.length : Int) 1).bind fun t379 => ((spec_l1Draw.f k s0_0 t371 t372 t379).bind fun bt380 => (some (bt380.1, bt380.2.1, bt380.2.2))))) = some (r1, r2, r3) := H
 have A3 := Aside0.mk A30
 clear A30
 by_cases c4 : t370 = true
 ·subst c4
  have H1 : ((spec_l1PickInt.f s0_0 t371 t372 (([(-1), (l1_0.length : Int)] : List Int))).bind fun bt376 => (some (bt376.1, bt376.2.1, bt376.2.2))) = some (r1, r2, r3) := by rw [if_pos rfl] at H; exact H
  clear H
  have H := H1
  clear H1
  obtain ⟨y373, hy373⟩ : ∃ y_ : List Int, y_ = (([(-1), (l1_0.length : Int)] : List Int)) := ⟨_, rfl⟩
  replace H : ((spec_l1PickInt.f s0_0 t371 t372 y373).bind fun bt376 => (some (bt376.1, bt376.2.1, bt376.2.2))) = some (r1, r2, r3) := by first | (rw [hy373]; with_reducible exact H) | (have H2_ := (Option.bind_some _ _).symm.trans H; rw [hy373]; with_reducible exact H2_) | (have H2_ := (Option.bind_some _ _).symm.trans H; with_reducible exact H2_) | with_reducible exact H | (rw [hy373]; exact H) | exact H
  have Ny373 := Aside0.mk hy373
  clear hy373
  replace H := Option.bind_eq_some_iff.mp H
  obtain ⟨⟨t376, t377, t378⟩, A50, H⟩ := H
  replace H : (some (t376, t377, t378)) = some (r1, r2, r3) := H
  have A5 := Aside0.mk A50
  clear A50
  simp only [Option.some.injEq, Prod.mk.injEq] at H
  obtain ⟨rfl, rfl, rfl⟩ := H
  go_enter Try.func83, Try.ntmps83
  go_wp2_with (first | ((with_reducible refine gate_dst (N := 3) rfl ?_); refine box_event ?hg (N := 3) ?hd (cs := #[.slice A1_0 l1_0.length c1_0]) (t := 30) ?hr ?_; (case hd => rfl); (case hg => rfl); (case hr => first | (go_simp; done) | (go_simp; rfl)); intro gb369 hg w6 hbox hb; have n0_ := Aside0.mk (IsS89.below (zi89 HI0.out) hb); have n1_ := Aside0.mk (KeepBut.trans (zq HK.out) (KeepBut.of_below hb g none) (.inl rfl)); have n2_ := Aside0.mk (below_step (zj HB.out (IsS89.ge HI0.out)) hb); have n3_ := Aside0.mk (hbox); have n4_ := Aside0.mk ((by rw [hg]; exact (keep_size (w := w) (g := g) (row := none) (zq HK.out)) : w.heap.size ≤ gb369)); have n5_ := Aside0.mk ((Nat.le_trans HW0.out (by rw [hg]; exact (keep_size (w := w) (g := g) (row := none) (zq HK.out)) : w.heap.size ≤ gb369) : w0.heap.size ≤ gb369)); have n6_ := Aside0.mk ((by rw [hg]; exact Nat.ne_of_lt (IsS89.lt (show IsS89 w0 _ g s0_0 s0_1 s0_2 from zi89 HI0.out)) : g ≠ gb369)); have n7_ := Aside0.mk ((by rw [hg]; exact Nat.ne_of_gt (IsS89.lt (show IsS89 w0 _ g s0_0 s0_1 s0_2 from zi89 HI0.out)) : gb369 ≠ g)); clear HI0; clear HK; clear HB; have HI0 := n0_; have HK := n1_; have HB := n2_; have BK369 := n3_; have GW369 := n4_; have GE369 := n5_; have NB0_369 := n6_; have NB369_0 := n7_; clear n0_ n1_ n2_ n3_ n4_ n5_ n6_ n7_; clear hb hbox hg) | ((with_reducible refine gate_callee (f := 77) rfl ?_); refine goesL_ (some 6) rfl rfl Try.func77 (by kernel_rfl) rfl #[.pointer (some ⟨g, 0, none⟩), .int .i64 25] rfl zl ?_; (with_reducible refine (spec_l1Once.calls g s0_0 s0_1 s0_2 25 true t371 t372 w0 _ ?side1 ?side2 A3.out).mono ?_); (case side1 => exact zi89 HI0.out); (case side2 => exact zj HB.out (IsS89.ge HI0.out)); rintro e w7 ⟨rfl, hi, hb, hk⟩; refine ⟨_, rfl, ?_⟩; have n0_ := Aside0.mk (KeepBut.blk hk (g' := gb369) (o := .cells #[.slice A1_0 l1_0.length c1_0] 30 (0, 0)) (zh BK369.out) NB369_0.out (by simp)); have n1_ := Aside0.mk (KeepBut.trans (zq HK.out) hk (.inl rfl)); have n2_ := Aside0.mk (hb); have n3_ := Aside0.mk (hi); clear BK369; clear HK; clear HB; clear HI0; have BK369 := n0_; have HK := n1_; have HB := n2_; have HI0 := n3_; clear n0_ n1_ n2_ n3_; (try clear hb); (try clear hb2); (try clear hk); (try clear hi); have hnb8 := NB369_0.out; have hnc8 := NB0_369.out; have hcz9_0 : w7.cell? ⟨gb369, 0, none⟩ = some (.slice A1_0 l1_0.length c1_0) := (blk_cell BK369.out 0).trans rfl; have hfz9_0 := blk_frozen BK369.out 0) | ((with_reducible refine gate_dst (N := 11) rfl ?_); refine Kd.R_lit (Kd.int .i64) _ 3 ?hg (N := 11) ?hd (xs := ([(-1), (l1_0.length : Int)] : List Int)) (inner := [.int .i64 (-1), .int .i64 (l1_0.length : Int)]) (ok := fun _ => True) (okp := fun _ => True) ?hr ?hp (fun _ hk => hk) trivial (Below.refl _ _) (Nat.le_refl _) (by simp) ?_; (case hd => rfl); (case hg => rfl); (case hr => first | (go_simp; done) | (go_simp; rfl)); (case hp => exact (Reps.one (show Kd.M (Kd.int .i64) _ _ _ (-1) [.int .i64 (-1)] from rfl) (Reps.one (show Kd.M (Kd.int .i64) _ _ _ (l1_0.length : Int) [.int .i64 (l1_0.length : Int)] from rfl) (Reps.none _ _)))); intro v374 w10 ho11 hb hg_ hnew_; clear hg_ hnew_; (first | rw [← Ny373.out] at ho11 | (simp only [Int.reduceToNat] at ho11; rw [← Ny373.out] at ho11)); have n0_ := Aside0.mk (Kd.R_lower ho11 (keep_size (w := w) (g := g) (row := none) (zq HK.out))); have n1_ := Aside0.mk (IsS89.below (zi89 HI0.out) hb); have n2_ := Aside0.mk (blk_below (zh BK369.out) hb); have n3_ := Aside0.mk (KeepBut.trans (zq HK.out) (KeepBut.of_below hb g none) (.inl rfl)); have n4_ := Aside0.mk (below_step (zj HB.out (IsS89.ge HI0.out)) hb); clear HI0; clear BK369; clear HK; clear HB; have HO375 := n0_; have HI0 := n1_; have BK369 := n2_; have HK := n3_; have HB := n4_; clear n0_ n1_ n2_ n3_ n4_; clear hb ho11; obtain ⟨Ao12, co12, eo12⟩ := Kd.R_slice HO375.out; subst eo12) | ((with_reducible refine gate_callee (f := 79) rfl ?_); refine goesL_ (some 12) rfl rfl Try.func79 (by kernel_rfl) rfl #[.pointer (some ⟨g, 0, none⟩), .slice Ao12 y373.length co12] rfl zl ?_; (with_reducible refine (spec_l1PickInt.calls g s0_0 t371 t372 _ _ y373 t376 t377 t378 w0 _ ?side1 ?side2 ?side3 ?side4 ?side5 A5.out).mono ?_); (case side1 => exact zi89 HI0.out); (case side2 => exact zj HB.out (IsS89.ge HI0.out)); (case side3 => exact zc (Kd.R_reads' HO375.out).2.2); (case side4 => exact (Kd.R_reads' HO375.out).2.1); (case side5 => exact far_slice (IsS89.own_ne HI0.out HO375.out (by decide))); rintro e w13 ⟨rfl, hi, hb, hk⟩; refine ⟨_, rfl, ?_⟩; have n0_ := Aside0.mk (KeepBut.blk hk (g' := gb369) (o := .cells #[.slice A1_0 l1_0.length c1_0] 30 (0, 0)) (zh BK369.out) NB369_0.out (by simp)); have n1_ := Aside0.mk (Kd.R_mono (Kd.R_keep (IsS89.apart (show IsS89 w0 _ g s0_0 t371 t372 from zi89 HI0.out) (zr HO375.out) (by decide)) hk (fun _ h => h.2)) (fun _ h => h.1)); have n2_ := Aside0.mk (KeepBut.trans (zq HK.out) hk (.inl rfl)); have n3_ := Aside0.mk (hb); have n4_ := Aside0.mk (hi); clear BK369; clear HO375; clear HK; clear HB; clear HI0; have BK369 := n0_; have HO375 := n1_; have HK := n2_; have HB := n3_; have HI0 := n4_; clear n0_ n1_ n2_ n3_ n4_; (try clear hb); (try clear hb2); (try clear hk); (try clear hi)))
  go_ret
  exact ⟨ze, zi89 HI0.out, zj HB.out (IsS89.ge HI0.out), zq HK.out⟩
 ·replace c4 := Bool.eq_false_iff.mpr c4
  subst c4
  have H1 : ((spec_l1Max.f (l1_0.length : Int) 1).bind fun t379 => ((spec_l1Draw.f k s0_0 t371 t372 t379).bind fun bt380 => (some (bt380.1, bt380.2.1, bt380.2.2)))) = some (r1, r2, r3) := by rw [if_neg (show ¬ (false = true) by decide)] at H; exact H
  clear H
  have H := H1
  clear H1
  replace H := Option.bind_eq_some_iff.mp H
  obtain ⟨t379, A140, H⟩ := H
  replace H : ((spec_l1Draw.f k s0_0 t371 t372 t379).bind fun bt380 => (some (bt380.1, bt380.2.1, bt380.2.2))) = some (r1, r2, r3) := H
  have A14 := Aside0.mk A140
  clear A140
  replace H := Option.bind_eq_some_iff.mp H
  obtain ⟨⟨t380, t381, t382⟩, A150, H⟩ := H
  replace H : (some (t380, t381, t382)) = some (r1, r2, r3) := H
  have A15 := Aside0.mk A150
  clear A150
  simp only [Option.some.injEq, Prod.mk.injEq] at H
  obtain ⟨rfl, rfl, rfl⟩ := H
  go_enter Try.func83, Try.ntmps83
  go_wp2_with (first | ((with_reducible refine gate_dst (N := 3) rfl ?_); refine box_event ?hg (N := 3) ?hd (cs := #[.slice A1_0 l1_0.length c1_0]) (t := 30) ?hr ?_; (case hd => rfl); (case hg => rfl); (case hr => first | (go_simp; done) | (go_simp; rfl)); intro gb369 hg w16 hbox hb; have n0_ := Aside0.mk (IsS89.below (zi89 HI0.out) hb); have n1_ := Aside0.mk (KeepBut.trans (zq HK.out) (KeepBut.of_below hb g none) (.inl rfl)); have n2_ := Aside0.mk (below_step (zj HB.out (IsS89.ge HI0.out)) hb); have n3_ := Aside0.mk (hbox); have n4_ := Aside0.mk ((by rw [hg]; exact (keep_size (w := w) (g := g) (row := none) (zq HK.out)) : w.heap.size ≤ gb369)); have n5_ := Aside0.mk ((Nat.le_trans HW0.out (by rw [hg]; exact (keep_size (w := w) (g := g) (row := none) (zq HK.out)) : w.heap.size ≤ gb369) : w0.heap.size ≤ gb369)); have n6_ := Aside0.mk ((by rw [hg]; exact Nat.ne_of_lt (IsS89.lt (show IsS89 w0 _ g s0_0 s0_1 s0_2 from zi89 HI0.out)) : g ≠ gb369)); have n7_ := Aside0.mk ((by rw [hg]; exact Nat.ne_of_gt (IsS89.lt (show IsS89 w0 _ g s0_0 s0_1 s0_2 from zi89 HI0.out)) : gb369 ≠ g)); clear HI0; clear HK; clear HB; have HI0 := n0_; have HK := n1_; have HB := n2_; have BK369 := n3_; have GW369 := n4_; have GE369 := n5_; have NB0_369 := n6_; have NB369_0 := n7_; clear n0_ n1_ n2_ n3_ n4_ n5_ n6_ n7_; clear hb hbox hg) | ((with_reducible refine gate_callee (f := 77) rfl ?_); refine goesL_ (some 6) rfl rfl Try.func77 (by kernel_rfl) rfl #[.pointer (some ⟨g, 0, none⟩), .int .i64 25] rfl zl ?_; (with_reducible refine (spec_l1Once.calls g s0_0 s0_1 s0_2 25 false t371 t372 w0 _ ?side1 ?side2 A3.out).mono ?_); (case side1 => exact zi89 HI0.out); (case side2 => exact zj HB.out (IsS89.ge HI0.out)); rintro e w17 ⟨rfl, hi, hb, hk⟩; refine ⟨_, rfl, ?_⟩; have n0_ := Aside0.mk (KeepBut.blk hk (g' := gb369) (o := .cells #[.slice A1_0 l1_0.length c1_0] 30 (0, 0)) (zh BK369.out) NB369_0.out (by simp)); have n1_ := Aside0.mk (KeepBut.trans (zq HK.out) hk (.inl rfl)); have n2_ := Aside0.mk (hb); have n3_ := Aside0.mk (hi); clear BK369; clear HK; clear HB; clear HI0; have BK369 := n0_; have HK := n1_; have HB := n2_; have HI0 := n3_; clear n0_ n1_ n2_ n3_; (try clear hb); (try clear hb2); (try clear hk); (try clear hi); have hnb18 := NB369_0.out; have hnc18 := NB0_369.out; have hcz19_0 : w17.cell? ⟨gb369, 0, none⟩ = some (.slice A1_0 l1_0.length c1_0) := (blk_cell BK369.out 0).trans rfl; have hfz19_0 := blk_frozen BK369.out 0) | ((with_reducible refine gate_callee (f := 112) rfl ?_); refine goesL_ (some 17) rfl rfl Try.func112 (by kernel_rfl) rfl #[.int .i64 (l1_0.length : Int), .int .i64 1] rfl zl ?_; (with_reducible refine (spec_l1Max.calls (l1_0.length : Int) 1 t379 _ A14.out).mono ?_); rintro e w' ⟨rfl, ⟨nd, rfl⟩⟩; refine ⟨_, rfl, ?_⟩) | ((with_reducible refine gate_callee (f := 109) rfl ?_); refine goesL_ (some 18) rfl rfl Try.func109 (by kernel_rfl) rfl #[.pointer (some ⟨g, 0, none⟩), .int .i64 t379] rfl zl ?_; (with_reducible refine (spec_l1Draw.calls k g s0_0 t371 t372 t379 t380 t381 t382 w0 _ ?side1 ?side2 A15.out).mono ?_); (case side1 => exact zi89 HI0.out); (case side2 => exact zj HB.out (IsS89.ge HI0.out)); rintro e w20 ⟨rfl, hi, hb, hk⟩; refine ⟨_, rfl, ?_⟩; have n0_ := Aside0.mk (KeepBut.blk hk (g' := gb369) (o := .cells #[.slice A1_0 l1_0.length c1_0] 30 (0, 0)) (zh BK369.out) NB369_0.out (by simp)); have n1_ := Aside0.mk (KeepBut.trans (zq HK.out) hk (.inl rfl)); have n2_ := Aside0.mk (hb); have n3_ := Aside0.mk (hi); clear BK369; clear HK; clear HB; clear HI0; have BK369 := n0_; have HK := n1_; have HB := n2_; have HI0 := n3_; clear n0_ n1_ n2_ n3_; (try clear hb); (try clear hb2); (try clear hk); (try clear hi)))
  go_ret
  exact ⟨ze, zi89 HI0.out, zj HB.out (IsS89.ge HI0.out), zq HK.out⟩

/-! ### spec_l6Draw: function 60 -/
def spec_l6Draw.f (k : Nat) (l0 : List Int) : Option ((List (S44)) × List Int × Int) := (spec_l1New.f k l0).bind fun bt384 => ((spec_l1DrawAny.f k bt384.1 bt384.2.1 bt384.2.2).bind fun bt388 => ((spec_l6DrawAny.f k bt384.1 bt388.2.1 bt388.2.2 bt388.1).bind fun bt394 => ((spec_l1DrawTerm.f k bt384.1 bt394.2.1 bt394.2.2 bt388.1).bind fun bt399 => (some (bt388.1, bt394.1, bt399.1)))))
theorem spec_l6Draw.mono : ∀ a0 k, LeO (spec_l6Draw.f k a0) (spec_l6Draw.f (k + 1) a0) := by
 intro a0 k
 unfold spec_l6Draw.f
 repeat' first
   | (with_reducible exact spec_l1DrawAny.mono _ _ _ _)
   | (with_reducible exact spec_l1DrawTerm.mono _ _ _ _ _)
   | (with_reducible exact spec_l1New.mono _ _)
   | (with_reducible exact spec_l6DrawAny.mono _ _ _ _ _)
   | (with_reducible exact LeO.refl _)
   | (with_reducible exact LeO.none _)
   | (with_reducible refine LeO.ite ?_ ?_)
   | (with_reducible refine LeO.bind ?_ (fun _ => ?_))
   | exact spec_l1DrawAny.mono _ _ _ _
   | exact spec_l1DrawTerm.mono _ _ _ _ _
   | exact spec_l1New.mono _ _
   | exact spec_l6DrawAny.mono _ _ _ _ _
   | exact LeO.none _
   | refine LeO.ite ?_ ?_
   | refine LeO.bind ?_ (fun _ => ?_)
def spec_l6Draw.T4 : Bool × List (List Nat × List Nat) := (true, [([], []), ([], []), ([], []), ([], []), ([2, 3], [2, 3]), ([0, 4, 0], [0]), ([1, 5, 0, 1, 5], [1]), ([4, 6, 0, 1, 2, 3, 4, 5, 6], [4])])
def spec_l6Draw.B4 : List Nat := [0, 0, 0, 0, 12, 29, 63, 127]
theorem spec_l6Draw.tab4 : rtab .any (opsOf Try.f60 4) = spec_l6Draw.T4 := by kernel_rfl
theorem spec_l6Draw.bits4 : waitsOk spec_l6Draw.T4.2 spec_l6Draw.B4 = true := by kernel_rfl
set_option maxHeartbeats 8000000 in
set_option maxRecDepth 100000 in
theorem spec_l6Draw.calls (k : Nat) (A0 : Option Addr) (c0 : Nat) (l0 : List Int) (r1 : List (S44)) (r2 : List Int) (r3 : Int) (w : World) (hr0 : Kd.C (Kd.int .u8) w A0 l0.length l0) (hc0 : l0.length ≤ c0) (h : spec_l6Draw.f k l0 = some (r1, r2, r3)) :
  Calls Try.prog 60 #[.slice A0 l0.length c0] w fun e w' => ∃ v0_ v1_ : Value, e = .returned (.tuple #[.agg #[v0_], v1_, .int .i64 r3]) ∧ Kd.R k44 44 w' w.heap.size (fun _ => True) v0_ r1 ∧ Kd.R (Kd.int .i64) 3 w' w.heap.size (fun _ => True) v1_ r2 ∧ Below w.heap.size w w' := by
 have hu30 := Try.underlying30
 have HR0 := Aside0.mk hr0
 have HC0 := Aside0.mk hc0
 clear hr0 hc0
 have HB := Aside0.mk (Below.refl w.heap.size w)
 have H : ((spec_l1New.f k l0).bind fun bt384 => ((spec_l1DrawAny.f k bt384.1 bt384.2.1 bt384.2.2).bind fun bt388 => ((spec_l6DrawAny.f k bt384.1 bt388.2.1 bt388.2.2 bt388.1).bind fun bt394 => ((spec_l1DrawTerm.f k bt384.1 bt394.2.1 bt394.2.2 bt388.1).bind fun bt399 => (some (bt388.1, bt394.1, bt399.1)))))) = some (r1, r2, r3) := h
 clear h
 replace H := Option.bind_eq_some_iff.mp H
 obtain ⟨⟨t384, t385, t386⟩, A20, H⟩ := H
 replace H : ((spec_l1DrawAny.f k t384 t385 t386).bind fun bt388 => ((spec_l6DrawAny.f k t384 bt388.2.1 bt388.2.2 bt388.1).bind fun bt394 => ((spec_l1DrawTerm.f k t384 bt394.2.1 bt394.2.2 bt388.1).bind fun bt399 => (some (bt388.1, bt394.1, bt399.1))))) = some (r1, r2, r3) := H
 have A2 := Aside0.mk A20
 clear A20
 replace H := Option.bind_eq_some_iff.mp H
 obtain ⟨⟨t388, t391, t392⟩, A30, H⟩ := H
 replace H : ((spec_l6DrawAny.f k t384 t391 t392 t388).bind fun bt394 => ((spec_l1DrawTerm.f k t384 bt394.2.1 bt394.2.2 t388).bind fun bt399 => (some (t388, bt394.1, bt399.1)))) = some (r1, r2, r3) := H
 have A3 := Aside0.mk A30
 clear A30
 replace H := Option.bind_eq_some_iff.mp H
 obtain ⟨⟨t394, t397, t398⟩, A40, H⟩ := H
 replace H : ((spec_l1DrawTerm.f k t384 t397 t398 t388).bind fun bt399 => (some (t388, t394, bt399.1))) = some (r1, r2, r3) := H
 have A4 := Aside0.mk A40
 clear A40
 replace H := Option.bind_eq_some_iff.mp H
 obtain ⟨⟨t399, t400, t401⟩, A50, H⟩ := H
 replace H : (some (t388, t394, t399)) = some (r1, r2, r3) := H
 have A5 := Aside0.mk A50
 clear A50
 simp only [Option.some.injEq, Prod.mk.injEq] at H
 obtain ⟨rfl, rfl, rfl⟩ := H
 go_enter Try.func60, Try.ntmps60
 try go_wp2_with (first | ((with_reducible refine gate_dst (N := 2) rfl ?_); refine box_event ?hg (N := 2) ?hd (cs := #[.slice none 0 0]) (t := 30) ?hr ?_; (case hd => rfl); (case hg => rfl); (case hr => first | (go_simp; done) | (go_simp; rfl)); intro gb383 hg w6 hbox hb; have n0_ := Aside0.mk (below_step (zb HB.out) hb); have n1_ := Aside0.mk (hbox); have n2_ := Aside0.mk ((by rw [hg]; exact (below_size (zb HB.out)) : w.heap.size ≤ gb383)); have n3_ := Aside0.mk ((by rw [hg]; exact (below_size (zb HB.out)) : w.heap.size ≤ gb383)); clear HB; have HB := n0_; have BK383 := n1_; have GW383 := n2_; have GE383 := n3_; clear n0_ n1_ n2_ n3_; clear hb hbox hg) | ((with_reducible refine gate_callee (f := 43) rfl ?_); refine goesL_ (some 9) rfl rfl Try.func43 (by kernel_rfl) rfl #[.slice A0 l0.length c0] rfl zl ?_; (with_reducible refine (spec_l1New.calls k _ _ l0 t384 t385 t386 w _ ?side1 ?side2 ?side3 A2.out).mono ?_); (case side1 => exact zb HB.out); (case side2 => exact HR0.out); (case side3 => exact HC0.out); rintro e w7 ⟨g387, rfl, hi, hb, hb2⟩; refine ⟨_, rfl, ?_⟩; have n0_ := Aside0.mk (blk_below (zh BK383.out) hb2); have n1_ := Aside0.mk (hb); have n2_ := Aside0.mk (hi); have n3_ := Aside0.mk (IsS89.ne_blk hi (blk_below (zh BK383.out) hb2) (by decide)); have n4_ := Aside0.mk (Ne.symm (IsS89.ne_blk hi (blk_below (zh BK383.out) hb2) (by decide))); clear BK383; clear HB; have BK383 := n0_; have HB := n1_; have HI387 := n2_; have NB387_383 := n3_; have NB383_387 := n4_; clear n0_ n1_ n2_ n3_ n4_; (try clear hb); (try clear hb2); (try clear hk); (try clear hi)) | ((with_reducible refine gate_callee (f := 44) rfl ?_); refine goesL_ (some 11) rfl rfl Try.func44 (by kernel_rfl) rfl #[.pointer (some ⟨g387, 0, none⟩)] rfl zl ?_; (with_reducible refine (spec_l1DrawAny.calls k g387 t384 t385 t386 t388 t391 t392 w _ ?side1 ?side2 A3.out).mono ?_); (case side1 => exact zi89 HI387.out); (case side2 => exact zj HB.out (IsS89.ge HI387.out)); rintro e w8 ⟨v389, rfl, ho0, hi, hb, hk⟩; refine ⟨_, rfl, ?_⟩; have n0_ := Aside0.mk (KeepBut.blk hk (g' := gb383) (o := .cells #[.slice none 0 0] 30 (0, 0)) (zh BK383.out) NB383_387.out (by simp)); have n1_ := Aside0.mk (Kd.R_lower ho0 (below_size (zj HB.out (IsS89.ge HI387.out)))); have n2_ := Aside0.mk (hb); have n3_ := Aside0.mk (hi); clear BK383; clear HB; clear HI387; have BK383 := n0_; have HO390 := n1_; have HB := n2_; have HI387 := n3_; clear n0_ n1_ n2_ n3_; (try clear hb); (try clear hb2); (try clear hk); (try clear hi); (try clear ho0)) | ((with_reducible refine gate_dst (N := 6) rfl ?_); refine box_event ?hg (N := 6) ?hd (cs := #[.slice none 0 0]) (t := 30) ?hr ?_; (case hd => rfl); (case hg => rfl); (case hr => first | (go_simp; done) | (go_simp; rfl)); intro gb393 hg w9 hbox hb; have n0_ := Aside0.mk (Kd.R_below (zr HO390.out) hb); have n1_ := Aside0.mk (blk_below (zh BK383.out) hb); have n2_ := Aside0.mk (IsS89.below (zi89 HI387.out) hb); have n3_ := Aside0.mk (below_step (zj HB.out (IsS89.ge HI387.out)) hb); have n4_ := Aside0.mk (hbox); have n5_ := Aside0.mk ((by rw [hg]; exact (below_size (zj HB.out (IsS89.ge HI387.out))) : w.heap.size ≤ gb393)); have n6_ := Aside0.mk ((by rw [hg]; exact (below_size (zj HB.out (IsS89.ge HI387.out))) : w.heap.size ≤ gb393)); have n7_ := Aside0.mk ((by rw [hg]; exact Nat.ne_of_lt (blk_lt (zh BK383.out)) : gb383 ≠ gb393)); have n8_ := Aside0.mk ((by rw [hg]; exact Nat.ne_of_gt (blk_lt (zh BK383.out)) : gb393 ≠ gb383)); have n9_ := Aside0.mk ((by rw [hg]; exact Nat.ne_of_lt (IsS89.lt (show IsS89 w _ g387 t384 t391 t392 from zi89 HI387.out)) : g387 ≠ gb393)); have n10_ := Aside0.mk ((by rw [hg]; exact Nat.ne_of_gt (IsS89.lt (show IsS89 w _ g387 t384 t391 t392 from zi89 HI387.out)) : gb393 ≠ g387)); clear HO390; clear BK383; clear HI387; clear HB; have HO390 := n0_; have BK383 := n1_; have HI387 := n2_; have HB := n3_; have BK393 := n4_; have GW393 := n5_; have GE393 := n6_; have NB383_393 := n7_; have NB393_383 := n8_; have NB387_393 := n9_; have NB393_387 := n10_; clear n0_ n1_ n2_ n3_ n4_ n5_ n6_ n7_ n8_ n9_ n10_; clear hb hbox hg; obtain ⟨Ao10, co10, eo10⟩ := Kd.R_slice HO390.out; subst eo10; have hnb11 := NB393_383.out; have hnc11 := NB383_393.out; have hnb12 := NB393_387.out; have hnc12 := NB387_393.out; have hcz13_0 : w9.cell? ⟨gb393, 0, none⟩ = some (.slice none 0 0) := (blk_cell BK393.out 0).trans rfl; have hfz13_0 := blk_frozen BK393.out 0) | ((with_reducible refine gate_callee (f := 61) rfl ?_); refine goesL_ (some 14) rfl rfl Try.func61 (by kernel_rfl) rfl #[.pointer (some ⟨g387, 0, none⟩), .agg #[.slice Ao10 t388.length co10]] rfl zl ?_; (with_reducible refine (spec_l6DrawAny.calls k g387 t384 t391 t392 _ _ t388 t394 t397 t398 w _ ?side1 ?side2 ?side3 ?side4 A4.out).mono ?_); (case side1 => exact zi89 HI387.out); (case side2 => exact zj HB.out (IsS89.ge HI387.out)); (case side3 => exact Kd.C_foot_own (IsS89.apart (show IsS89 w _ g387 t384 t391 t392 from zi89 HI387.out) (by (with_reducible repeat (first | apply Kd.R_alloc | apply Kd.R_drewN | apply Kd.R_drew)); exact (Kd.R_mono (Kd.R_far (p := ⟨gb393, 0, none⟩) (Kd.R_types HO390.out BK393.out (by decide)) (fun _ hk => hk.2) (.slice Ao10 t388.length co10)) (fun _ h_ => h_.1))) (by decide)) (fun _ h_ => h_.2)); (case side4 => exact (Kd.R_reads' HO390.out).2.1); rintro e w14 ⟨v395, rfl, ho0, hi, hb, hk⟩; refine ⟨_, rfl, ?_⟩; have n0_ := Aside0.mk (KeepBut.blk hk (g' := gb383) (o := .cells #[.slice none 0 0] 30 (0, 0)) (zf BK383.out) NB383_387.out (by simp)); have n1_ := Aside0.mk (Kd.R_mono (Kd.R_keep (IsS89.apart (show IsS89 w _ g387 t384 t391 t392 from zi89 HI387.out) (by (with_reducible repeat (first | apply Kd.R_alloc | apply Kd.R_drewN | apply Kd.R_drew)); exact (Kd.R_mono (Kd.R_far (p := ⟨gb393, 0, none⟩) (Kd.R_types HO390.out BK393.out (by decide)) (fun _ hk => hk.2) (.slice Ao10 t388.length co10)) (fun _ h_ => h_.1))) (by decide)) hk (fun _ h => h.2)) (fun _ h => h.1)); have n2_ := Aside0.mk (KeepBut.blk hk (g' := gb393) (o := .cells #[.slice Ao10 t388.length co10] 30 (0, 0)) (by (with_reducible repeat (first | refine blk_drewN ?_ _ | refine blk_drew ?_ | refine blk_alloc ?_ _)); refine blk_put (cs := #[.slice none 0 0]) ?_ 0 _ rfl; (with_reducible repeat (first | refine blk_drewN ?_ _ | refine blk_drew ?_ | refine blk_alloc ?_ _)); exact BK393.out) NB393_387.out (by simp)); have n3_ := Aside0.mk (Kd.R_lower ho0 (below_size (zj HB.out (IsS89.ge HI387.out)))); have n4_ := Aside0.mk (hb); have n5_ := Aside0.mk (hi); clear BK383; clear HO390; clear BK393; clear HB; clear HI387; have BK383 := n0_; have HO390 := n1_; have BK393 := n2_; have HO396 := n3_; have HB := n4_; have HI387 := n5_; clear n0_ n1_ n2_ n3_ n4_ n5_; (try clear hb); (try clear hb2); (try clear hk); (try clear hi); (try clear ho0)))
 have n0_ := Aside0.mk (Kd.R_drew HO390.out)
 have n1_ := Aside0.mk (Kd.R_drew HO396.out)
 have n2_ := Aside0.mk (blk_drew BK383.out)
 have n3_ := Aside0.mk (blk_drew BK393.out)
 have n4_ := Aside0.mk (IsS89.drew HI387.out)
 have n5_ := Aside0.mk (below_drew1 HB.out)
 clear HO390
 clear HO396
 clear BK383
 clear BK393
 clear HI387
 clear HB
 have HO390 := n0_
 have HO396 := n1_
 have BK383 := n2_
 have BK393 := n3_
 have HI387 := n4_
 have HB := n5_
 clear n0_ n1_ n2_ n3_ n4_ n5_
 refine start_ (n := 8) (S := fun w' => w'.cell? ⟨gb393, 0, none⟩ = some (.slice Ao10 t388.length co10)) (ds := []) #[false, false, false, false, false, false, false, false] (by kernel_rfl) rfl rfl ((blk_cell BK393.out 0).trans rfl) (fun hHeld => ?_); refine with_tabW spec_l6Draw.tab4 spec_l6Draw.bits4 (fun HT_ HW_ => ?_)
 generalize w14.drew = w15 at HO390 HO396 BK383 BK393 HI387 HB hHeld ⊢
 refine pure_ (i := 1) (N := some 16) (v := ?_) (a' := ?_) #[false, true, false, false, false, false, false, false] rfl rfl (any_of HT_.out (by kernel_rfl)) (fun _ _ _ h => h) (Or.inl ⟨by rfl, ?_⟩) ?_ ?_
 rotate_left
 ·intro w'
  go_simp
  with_reducible rfl
 rotate_left
 ·simp only [Act.put, List.setIfInBounds_toArray, List.set_cons_zero, List.set_cons_succ, i64_w, i32_w]
  rfl
 refine pure_ (i := 2) (N := some 17) (v := ?_) (a' := ?_) #[false, true, true, false, false, false, false, false] rfl rfl (any_of HT_.out (by kernel_rfl)) (fun _ _ _ h => h) (Or.inl ⟨by rfl, ?_⟩) ?_ ?_
 rotate_left
 ·intro w'
  go_simp
  with_reducible rfl
 rotate_left
 ·simp only [Act.put, List.setIfInBounds_toArray, List.set_cons_zero, List.set_cons_succ, i64_w, i32_w]
  rfl
 refine take_ (i := 0) (N := some 15) (v := ?_) (a' := ?_) #[true, true, true, false, false, false, false, false] rfl rfl (take_ofW HT_.out HW_.out (by kernel_rfl)) (fun _ _ _ h => h) (Or.inl ⟨by rfl, ?_⟩) hHeld ?_ ?_
 rotate_left
 ·intro w' s0
  go_simp
  with_reducible rfl
 rotate_left
 ·simp only [Act.put, List.setIfInBounds_toArray, List.set_cons_zero, List.set_cons_succ, i64_w, i32_w]
  rfl
 refine take_ (i := 3) (N := some 18) (v := ?_) (a' := ?_) #[true, true, true, true, false, false, false, false] rfl rfl (take_ofW HT_.out HW_.out (by kernel_rfl)) (fun _ _ _ h => h) (Or.inl ⟨by rfl, ?_⟩) hHeld ?_ ?_
 rotate_left
 ·intro w' s0
  go_simp
  with_reducible rfl
 rotate_left
 ·simp only [Act.put, List.setIfInBounds_toArray, List.set_cons_zero, List.set_cons_succ, i64_w, i32_w]
  rfl
 refine one_ (i := 4) (N := some 19) #[true, true, true, true, true, false, false, false] rfl rfl (one_of HT_.out (by kernel_rfl)) (by decide) (fun K hK => ?_)
 refine goes_ Try.func83 (by kernel_rfl) rfl #[.pointer (some ⟨g387, 0, none⟩), .agg #[.slice Ao10 t388.length co10]] (by rfl) rfl rfl zl ?_
 with_reducible refine (spec_l1DrawTerm.calls k g387 t384 t397 t398 _ _ t388 t399 t400 t401 w _ ?side1 ?side2 ?side3 ?side4 A5.out).mono ?_
 (case side1 => exact zi89 HI387.out)
 (case side2 => exact zj HB.out (IsS89.ge HI387.out))
 (case side3 => exact Kd.C_foot_own (IsS89.apart (show IsS89 w _ g387 t384 t397 t398 from zi89 HI387.out) (zr HO390.out) (by decide)) (fun _ h_ => h_.2))
 (case side4 => exact (Kd.R_reads' HO390.out).2.1)
 rintro e w16 ⟨rfl, hi, hb, hk⟩
 refine ⟨_, rfl, ?_⟩
 have n0_ := Aside0.mk (KeepBut.blk hk (g' := gb383) (o := .cells #[.slice none 0 0] 30 (0, 0)) (zh BK383.out) NB383_387.out (by simp))
 have n1_ := Aside0.mk (Kd.R_mono (Kd.R_keep (IsS89.apart (show IsS89 w _ g387 t384 t397 t398 from zi89 HI387.out) (zr HO390.out) (by decide)) hk (fun _ h => h.2)) (fun _ h => h.1))
 have n2_ := Aside0.mk (KeepBut.blk hk (g' := gb393) (o := .cells #[.slice Ao10 t388.length co10] 30 (0, 0)) (zh BK393.out) NB393_387.out (by simp))
 have n3_ := Aside0.mk (Kd.R_mono (Kd.R_keep (IsS89.apart (show IsS89 w _ g387 t384 t397 t398 from zi89 HI387.out) (zr HO396.out) (by decide)) hk (fun _ h => h.2)) (fun _ h => h.1))
 have n4_ := Aside0.mk (hb)
 have n5_ := Aside0.mk (hi)
 clear BK383
 clear HO390
 clear BK393
 clear HO396
 clear HB
 clear HI387
 have BK383 := n0_
 have HO390 := n1_
 have BK393 := n2_
 have HO396 := n3_
 have HB := n4_
 have HI387 := n5_
 clear n0_ n1_ n2_ n3_ n4_ n5_
 (try clear hb)
 (try clear hb2)
 (try clear hk)
 (try clear hi)
 refine hK.out _ _ ((blk_cell BK393.out 0).trans rfl) (fun hHeld => ?_)
 clear hK K
 refine norm_ (a' := ?_) ?_ ?_
 rotate_left
 ·show Act.put _ (some 19) _ = _
  simp only [Act.put, List.setIfInBounds_toArray, List.set_cons_zero, List.set_cons_succ, i64_w, i32_w]
  rfl
 refine one_ (i := 5) (N := none) #[true, true, true, true, true, true, false, false] rfl rfl (one_of HT_.out (by kernel_rfl)) (by decide) (fun K hK => ?_)
 have hs17 : w16.cell? ⟨gb383, 0, none⟩ = some (.slice none 0 0) := (blk_cell BK383.out 0).trans rfl
 have hfs17 := blk_frozen BK383.out 0
 have hns17_1 := NB393_383.out
 have hms17_1 := NB383_393.out
 refine skip_ (w1 := ?_) (by rfl) rfl ?_ ?_
 rotate_left
 ·go_simp
  rfl
 refine hK.out _ _ (((cell_far (p := ⟨gb383, _, none⟩) NB393_383.out _).trans (hHeld))) (fun hHeld => ?_)
 clear hK K
 refine pure_ (i := 6) (N := some 3) (v := ?_) (a' := ?_) #[true, true, true, true, true, true, true, false] rfl rfl (any_of HT_.out (by kernel_rfl)) (fun _ _ _ h => h) (Or.inl ⟨by rfl, ?_⟩) ?_ ?_
 rotate_left
 ·intro w'
  go_simp
  with_reducible rfl
 rotate_left
 ·simp only [Act.put, List.setIfInBounds_toArray, List.set_cons_zero, List.set_cons_succ, i64_w, i32_w]
  rfl
 refine pure_ (i := 7) (N := some 4) (v := ?_) (a' := ?_) #[true, true, true, true, true, true, true, true] rfl rfl (any_of HT_.out (by kernel_rfl)) (fun _ _ _ h => h) (Or.inl ⟨by rfl, ?_⟩) ?_ ?_
 rotate_left
 ·intro w'
  go_simp
  with_reducible rfl
 rotate_left
 ·simp only [Act.put, List.setIfInBounds_toArray, List.set_cons_zero, List.set_cons_succ, i64_w, i32_w]
  rfl
 refine done_ (done_of HT_.out (by kernel_rfl)) ?_
 try go_wp2
 refine bodyPost_ret (results_ctt rfl _ _ gb383 30 #[.slice Ao10 t388.length co10] (0, 0) _ rfl (by (with_reducible repeat (first | refine blk_drewN ?_ _ | refine blk_drew ?_ | refine blk_alloc ?_ _)); refine blk_put (cs := #[.slice none 0 0]) ?_ 0 _ rfl; (with_reducible repeat (first | refine blk_drewN ?_ _ | refine blk_drew ?_ | refine blk_alloc ?_ _)); exact BK383.out) Try.underlying30 rfl (by kernel_rfl)) rfl ?_
 exact ⟨_, _, ze, zr (Kd.R_mono (Kd.R_far (p := ⟨gb383, 0, none⟩) (Kd.R_types HO390.out BK383.out (by decide)) (fun _ hk => hk.2) (.slice Ao10 t388.length co10)) (fun _ hk => trivial)), zr (Kd.R_mono (Kd.R_far (p := ⟨gb383, 0, none⟩) (Kd.R_types HO396.out BK383.out (by decide)) (fun _ hk => hk.2) (.slice Ao10 t388.length co10)) (fun _ hk => trivial)), zj HB.out (IsS89.ge HI387.out)⟩

end Go.Proofs.Ytdgahpigcaejbaa.D
end

section
-- Written by this session's program (wip/tools/gprint.py over the kit's print) out of the translation; Lean checks it.
namespace Go.Proofs.Ytdgahpigcaejbaa.D
open Go.RowKit Go.Proofs.YtdgahpigcaejbaaW.PrintWords Go.Proofs.YtdgahpigcaejbaaW.PrintLast Go.Proofs.YtdgahpigcaejbaaW.PrintMore
attribute [local go_sem] max2_int min2_int max_two min_two max_three min_three max_four min_four   -- for this text's walks alone
set_option linter.unusedVariables false
set_option linter.unusedSimpArgs false
set_option maxRecDepth 100000


/-! ### spec_DrawKnowJoin: function 30 -/
-- INFO 5
def spec_DrawKnowJoin.f (k : Nat) (l0 : List Int) : Option ((List (S44)) × List Int × List Int) := (spec_l6Draw.f k l0).bind fun bt411 => (if (([3] : List Int)).length + l0.length < 140737488355328 then ((spec_l1New.f k (([3] : List Int) ++ l0)).bind fun bt425 => ((spec_l6DrawAny.f k bt425.1 bt425.2.1 bt425.2.2 bt411.1).bind fun bt429 => (some (bt411.1, bt411.2.1, bt429.1)))) else (none))
theorem spec_DrawKnowJoin.mono : ∀ a0 k, LeO (spec_DrawKnowJoin.f k a0) (spec_DrawKnowJoin.f (k + 1) a0) := by
 intro a0 k
 unfold spec_DrawKnowJoin.f
 repeat' first
   | (with_reducible exact spec_l1New.mono _ _)
   | (with_reducible exact spec_l6Draw.mono _ _)
   | (with_reducible exact spec_l6DrawAny.mono _ _ _ _ _)
   | (with_reducible exact LeO.refl _)
   | (with_reducible exact LeO.none _)
   | (with_reducible refine LeO.ite ?_ ?_)
   | (with_reducible refine LeO.bind ?_ (fun _ => ?_))
   | exact spec_l1New.mono _ _
   | exact spec_l6Draw.mono _ _
   | exact spec_l6DrawAny.mono _ _ _ _ _
   | exact LeO.none _
   | refine LeO.ite ?_ ?_
   | refine LeO.bind ?_ (fun _ => ?_)
def spec_DrawKnowJoin.T3 : Bool × List (List Nat × List Nat) := (true, [([], []), ([], []), ([], []), ([], []), ([2, 3], [2, 3]), ([0, 4, 0], [0]), ([1, 5, 0, 1, 5], [1]), ([4, 6, 0, 1, 2, 3, 4, 5, 6], [4])])
def spec_DrawKnowJoin.B3 : List Nat := [0, 0, 0, 0, 12, 29, 63, 127]
theorem spec_DrawKnowJoin.tab3 : rtab .any (opsOf Try.f30 3) = spec_DrawKnowJoin.T3 := by kernel_rfl
theorem spec_DrawKnowJoin.bits3 : waitsOk spec_DrawKnowJoin.T3.2 spec_DrawKnowJoin.B3 = true := by kernel_rfl
set_option maxHeartbeats 8000000 in
set_option maxRecDepth 100000 in
theorem spec_DrawKnowJoin.calls (k : Nat) (A0 : Option Addr) (c0 : Nat) (l0 : List Int) (r1 : List (S44)) (r2 : List Int) (r3 : List Int) (w : World) (hr0 : Kd.C (Kd.int .u8) w A0 l0.length l0) (hc0 : l0.length ≤ c0) (h : spec_DrawKnowJoin.f k l0 = some (r1, r2, r3)) :
  Calls Try.prog 30 #[.slice A0 l0.length c0] w fun e w' => ∃ v0_ v1_ v2_ : Value, e = .returned (.tuple #[.agg #[v0_], v1_, v2_]) ∧ Kd.R k44 44 w' w.heap.size (fun _ => True) v0_ r1 ∧ Kd.R (Kd.int .i64) 3 w' w.heap.size (fun k_ => some k_ ≠ (v2_ : Value).ownBlock) v1_ r2 ∧ Kd.R (Kd.int .i64) 3 w' w.heap.size (fun k_ => some k_ ≠ (v1_ : Value).ownBlock) v2_ r3 ∧ Below w.heap.size w w' := by
 have hu30 := Try.underlying30
 have HR0 := Aside0.mk hr0
 have HC0 := Aside0.mk hc0
 clear hr0 hc0
 have HB := Aside0.mk (Below.refl w.heap.size w)
 have H : ((spec_l6Draw.f k l0).bind fun bt411 => (if (([3] : List Int)).length + l0.length < 140737488355328 then ((spec_l1New.f k (([3] : List Int) ++ l0)).bind fun bt425 => ((spec_l6DrawAny.f k bt425.1 bt425.2.1 bt425.2.2 bt411.1).bind fun bt429 => (some (bt411.1, bt411.2.1, bt429.1)))) else (none))) = some (r1, r2, r3) := h
 clear h
 replace H := Option.bind_eq_some_iff.mp H
 obtain ⟨⟨t411, t414, t417⟩, A20, H⟩ := H
 replace H : (if (([3] : List Int)).length + l0.length < 140737488355328 then ((spec_l1New.f k (([3] : List Int) ++ l0)).bind fun bt425 => ((spec_l6DrawAny.f k bt425.1 bt425.2.1 bt425.2.2 t411).bind fun bt429 => (some (t411, t414, bt429.1)))) else (none)) = some (r1, r2, r3) := H
 have A2 := Aside0.mk A20
 clear A20
 obtain ⟨y419, hy419⟩ : ∃ y_ : List Int, y_ = (([3] : List Int)) := ⟨_, rfl⟩
 replace H : (if y419.length + l0.length < 140737488355328 then ((spec_l1New.f k (y419 ++ l0)).bind fun bt425 => ((spec_l6DrawAny.f k bt425.1 bt425.2.1 bt425.2.2 t411).bind fun bt429 => (some (t411, t414, bt429.1)))) else (none)) = some (r1, r2, r3) := by first | (rw [hy419]; with_reducible exact H) | (have H2_ := (Option.bind_some _ _).symm.trans H; rw [hy419]; with_reducible exact H2_) | (have H2_ := (Option.bind_some _ _).symm.trans H; with_reducible exact H2_) | with_reducible exact H | (rw [hy419]; exact H) | exact H
 have Ny419 := Aside0.mk hy419
 clear hy419
 by_cases c3 : y419.length + l0.length < 140737488355328
 ·rw [if_pos c3] at H
  have LMc3 := Aside0.mk c3
  clear c3
  obtain ⟨y422, hy422⟩ : ∃ y_ : List Int, y_ = (y419 ++ l0) := ⟨_, rfl⟩
  replace H : ((spec_l1New.f k y422).bind fun bt425 => ((spec_l6DrawAny.f k bt425.1 bt425.2.1 bt425.2.2 t411).bind fun bt429 => (some (t411, t414, bt429.1)))) = some (r1, r2, r3) := by first | (rw [hy422]; with_reducible exact H) | (have H2_ := (Option.bind_some _ _).symm.trans H; rw [hy422]; with_reducible exact H2_) | (have H2_ := (Option.bind_some _ _).symm.trans H; with_reducible exact H2_) | with_reducible exact H | (rw [hy422]; exact H) | exact H
  have Ny422 := Aside0.mk hy422
  clear hy422
  replace H := Option.bind_eq_some_iff.mp H
  obtain ⟨⟨t425, t426, t427⟩, A40, H⟩ := H
  replace H : ((spec_l6DrawAny.f k t425 t426 t427 t411).bind fun bt429 => (some (t411, t414, bt429.1))) = some (r1, r2, r3) := H
  have A4 := Aside0.mk A40
  clear A40
  replace H := Option.bind_eq_some_iff.mp H
  obtain ⟨⟨t429, t432, t433⟩, A50, H⟩ := H
  replace H : (some (t411, t414, t429)) = some (r1, r2, r3) := H
  have A5 := Aside0.mk A50
  clear A50
  simp only [Option.some.injEq, Prod.mk.injEq] at H
  obtain ⟨rfl, rfl, rfl⟩ := H
  go_enter Try.func30, Try.ntmps30
  try go_wp2_with (first | ((with_reducible refine gate_dst (N := 2) rfl ?_); refine box_event ?hg (N := 2) ?hd (cs := #[.slice none 0 0]) (t := 30) ?hr ?_; (case hd => rfl); (case hg => rfl); (case hr => first | (go_simp; done) | (go_simp; rfl)); intro gb410 hg w6 hbox hb; have n0_ := Aside0.mk (below_step (zb HB.out) hb); have n1_ := Aside0.mk (hbox); have n2_ := Aside0.mk ((by rw [hg]; exact (below_size (zb HB.out)) : w.heap.size ≤ gb410)); have n3_ := Aside0.mk ((by rw [hg]; exact (below_size (zb HB.out)) : w.heap.size ≤ gb410)); clear HB; have HB := n0_; have BK410 := n1_; have GW410 := n2_; have GE410 := n3_; clear n0_ n1_ n2_ n3_; clear hb hbox hg) | ((with_reducible refine gate_callee (f := 60) rfl ?_); refine goesL_ (some 11) rfl rfl Try.func60 (by kernel_rfl) rfl #[.slice A0 l0.length c0] rfl zl ?_; (with_reducible refine (spec_l6Draw.calls k _ _ l0 t411 t414 t417 _ ?side1 ?side2 A2.out).mono ?_); (case side1 => exact zc (Kd.C_below HR0.out HB.out)); (case side2 => exact HC0.out); rintro e w7 ⟨v412, v415, rfl, ho0, ho1, hb⟩; refine ⟨_, rfl, ?_⟩; have n0_ := Aside0.mk (Kd.R_lower ho0 (below_size (zb HB.out))); have n1_ := Aside0.mk (Kd.R_lower ho1 (below_size (zb HB.out))); have n2_ := Aside0.mk (blk_below (zh BK410.out) hb); have n3_ := Aside0.mk (below_step (zb HB.out) hb); clear BK410; clear HB; have HO413 := n0_; have HO416 := n1_; have BK410 := n2_; have HB := n3_; clear n0_ n1_ n2_ n3_; (try clear hb); (try clear hb2); (try clear hk); (try clear hi); (try clear ho0); (try clear ho1)) | ((with_reducible refine gate_dst (N := 5) rfl ?_); refine box_event ?hg (N := 5) ?hd (cs := #[.slice none 0 0]) (t := 30) ?hr ?_; (case hd => rfl); (case hg => rfl); (case hr => first | (go_simp; done) | (go_simp; rfl)); intro gb418 hg w8 hbox hb; have n0_ := Aside0.mk (Kd.R_below (zr HO413.out) hb); have n1_ := Aside0.mk (Kd.R_below (zr HO416.out) hb); have n2_ := Aside0.mk (blk_below (zh BK410.out) hb); have n3_ := Aside0.mk (below_step (zb HB.out) hb); have n4_ := Aside0.mk (hbox); have n5_ := Aside0.mk ((by rw [hg]; exact (below_size (zb HB.out)) : w.heap.size ≤ gb418)); have n6_ := Aside0.mk ((by rw [hg]; exact (below_size (zb HB.out)) : w.heap.size ≤ gb418)); have n7_ := Aside0.mk ((by rw [hg]; exact Nat.ne_of_lt (blk_lt (zh BK410.out)) : gb410 ≠ gb418)); have n8_ := Aside0.mk ((by rw [hg]; exact Nat.ne_of_gt (blk_lt (zh BK410.out)) : gb418 ≠ gb410)); clear HO413; clear HO416; clear BK410; clear HB; have HO413 := n0_; have HO416 := n1_; have BK410 := n2_; have HB := n3_; have BK418 := n4_; have GW418 := n5_; have GE418 := n6_; have NB410_418 := n7_; have NB418_410 := n8_; clear n0_ n1_ n2_ n3_ n4_ n5_ n6_ n7_ n8_; clear hb hbox hg; obtain ⟨Ao9, co9, eo9⟩ := Kd.R_slice HO413.out; subst eo9; have hnb10 := NB418_410.out; have hnc10 := NB410_418.out; have hcz11_0 : w8.cell? ⟨gb418, 0, none⟩ = some (.slice none 0 0) := (blk_cell BK418.out 0).trans rfl; have hfz11_0 := blk_frozen BK418.out 0) | ((with_reducible refine gate_dst (N := 15) rfl ?_); refine Kd.R_lit (Kd.int .u8) _ 5 ?hg (N := 15) ?hd (xs := ([3] : List Int)) (inner := [.int .u8 3]) (ok := fun _ => True) (okp := fun _ => True) ?hr ?hp (fun _ hk => hk) trivial (Below.refl _ _) (Nat.le_refl _) (by simp) ?_; (case hd => rfl); (case hg => rfl); (case hr => first | (go_simp; done) | (go_simp; rfl)); (case hp => exact (Reps.one (show Kd.M (Kd.int .u8) _ _ _ 3 [.int .u8 3] from rfl) (Reps.none _ _))); intro v420 w12 ho13 hb hg_ hnew_; clear hg_ hnew_; (first | rw [← Ny419.out] at ho13 | (simp only [Int.reduceToNat] at ho13; rw [← Ny419.out] at ho13)); have n0_ := Aside0.mk (Kd.R_below (by (with_reducible repeat (first | apply Kd.R_alloc | apply Kd.R_drewN | apply Kd.R_drew)); exact (Kd.R_mono (Kd.R_far (p := ⟨gb418, 0, none⟩) (Kd.R_types HO413.out BK418.out (by decide)) (fun _ hk => hk.2) (.slice Ao9 t411.length co9)) (fun _ h_ => h_.1))) hb); have n1_ := Aside0.mk (Kd.R_below (by (with_reducible repeat (first | apply Kd.R_alloc | apply Kd.R_drewN | apply Kd.R_drew)); exact (Kd.R_mono (Kd.R_far (p := ⟨gb418, 0, none⟩) (Kd.R_types HO416.out BK418.out (by decide)) (fun _ hk => hk.2) (.slice Ao9 t411.length co9)) (fun _ h_ => h_.1))) hb); have n2_ := Aside0.mk (Kd.R_lower ho13 (below_size (zb HB.out))); have n3_ := Aside0.mk (blk_below (g := gb410) (o := .cells #[.slice none 0 0] 30 (0, 0)) (zf BK410.out) hb); have n4_ := Aside0.mk (blk_below (g := gb418) (o := .cells #[.slice Ao9 t411.length co9] 30 (0, 0)) (by (with_reducible repeat (first | refine blk_drewN ?_ _ | refine blk_drew ?_ | refine blk_alloc ?_ _)); refine blk_put (cs := #[.slice none 0 0]) ?_ 0 _ rfl; (with_reducible repeat (first | refine blk_drewN ?_ _ | refine blk_drew ?_ | refine blk_alloc ?_ _)); exact BK418.out) hb); have n5_ := Aside0.mk (below_step (zb HB.out) hb); clear HO413; clear HO416; clear BK410; clear BK418; clear HB; have HO413 := n0_; have HO416 := n1_; have HO421 := n2_; have BK410 := n3_; have BK418 := n4_; have HB := n5_; clear n0_ n1_ n2_ n3_ n4_ n5_; clear hb ho13) | ((with_reducible refine gate_builtin (b := .append) (xs := #[.tmp 15, .tmp 16]) rfl ?_); at_builtin; refine Kd.R_append_rows (Kd.int .u8) (w0 := w) w.heap.size rfl (.tmp 15) (.tmp 16) 37 5 (.int .u8 0) 1 rfl Try.underlying37 info5 rfl (by decide) (by omega) v420 y419 l0 _ _ _ (fun _ => True) (fun _ => False) rfl rfl ?aO ?aR (fun _ _ h => h) (fun _ h => h.elim) ?aF ?aB ?aS ?aL ?_; (case aR => exact zc (Kd.C_below HR0.out HB.out)); (case aB => exact (zb HB.out)); (case aF => exact (fun _ _ => trivial)); (case aO => exact (zr HO421.out)); (case aS => exact (below_size (zb HB.out))); (case aL => have := LMc3.out; omega); intro v423 w14 ho hb hg hat; rw [← Ny422.out] at ho; have n0_ := Aside0.mk (blk_grown (zh BK410.out) hg (Kd.R_ne HO421.out BK410.out (by decide))); have n1_ := Aside0.mk (Kd.R_over' (zr HO413.out) (Kd.R_typed (zr HO421.out)) (by decide) hg); have n2_ := Aside0.mk (Kd.R_over' (zr HO416.out) (Kd.R_typed (zr HO421.out)) (by decide) hg); have n3_ := Aside0.mk (blk_grown (zh BK418.out) hg (Kd.R_ne HO421.out BK418.out (by decide))); have n4_ := Aside0.mk (hb); have n5_ := Aside0.mk (ho); clear BK410; clear HO413; clear HO416; clear BK418; clear HB; clear HO421; have BK410 := n0_; have HO413 := n1_; have HO416 := n2_; have BK418 := n3_; have HB := n4_; have HO424 := n5_; clear n0_ n1_ n2_ n3_ n4_ n5_; clear ho hb hg hat; obtain ⟨Ao99, co99, eo99⟩ := Kd.R_slice HO424.out; subst eo99) | ((with_reducible refine gate_callee (f := 43) rfl ?_); refine goesL_ (some 18) rfl rfl Try.func43 (by kernel_rfl) rfl #[.slice Ao99 y422.length co99] rfl zl ?_; (with_reducible refine (spec_l1New.calls k _ _ y422 t425 t426 t427 ?w0w _ ?side1 ?side2 ?side3 A4.out).mono ?_); (case side1 => exact Below.refl _ _); (case side2 => exact (Kd.R_reads' (zr HO424.out)).2.2); (case side3 => exact (Kd.R_reads' HO424.out).2.1); rintro e w15 ⟨g428, rfl, hi, hb, hb2⟩; refine ⟨_, rfl, ?_⟩; have n0_ := Aside0.mk (Kd.R_below (zr HO413.out) hb2); have n1_ := Aside0.mk (Kd.R_below (zr HO416.out) hb2); have n2_ := Aside0.mk (Kd.R_below (zr HO424.out) hb2); have n3_ := Aside0.mk (blk_below (zh BK410.out) hb2); have n4_ := Aside0.mk (blk_below (zh BK418.out) hb2); have n5_ := Aside0.mk (below_step (zb HB.out) hb2); have n20_ := Aside0.mk (show Below w.heap.size w _ from zb HB.out); have n21_ := Aside0.mk (below_step n20_.out hb); have n22_ := Aside0.mk hb; clear n21_; have n6_ := Aside0.mk (hi); have n7_ := Aside0.mk (IsS89.ne_blk hi (blk_below (zh BK410.out) hb2) (by decide)); have n8_ := Aside0.mk (Ne.symm (IsS89.ne_blk hi (blk_below (zh BK410.out) hb2) (by decide))); have n9_ := Aside0.mk (IsS89.ne_blk hi (blk_below (zh BK418.out) hb2) (by decide)); have n10_ := Aside0.mk (Ne.symm (IsS89.ne_blk hi (blk_below (zh BK418.out) hb2) (by decide))); clear HO413; clear HO416; clear HO424; clear BK410; clear BK418; clear HB; have HO413 := n0_; have HO416 := n1_; have HO424 := n2_; have BK410 := n3_; have BK418 := n4_; have HB := n5_; have HB0 := n20_; have HBN := n22_; have HI428 := n6_; have NB428_410 := n7_; have NB410_428 := n8_; have NB428_418 := n9_; have NB418_428 := n10_; clear n0_ n1_ n2_ n3_ n4_ n5_ n6_ n7_ n8_ n9_ n10_ n20_ n22_; (try clear hb); (try clear hb2); (try clear hk); (try clear hi)))
  have n0_ := Aside0.mk (Kd.R_drew HO413.out)
  have n1_ := Aside0.mk (Kd.R_drew HO416.out)
  have n2_ := Aside0.mk (Kd.R_drew HO424.out)
  have n3_ := Aside0.mk (blk_drew BK410.out)
  have n4_ := Aside0.mk (blk_drew BK418.out)
  have n5_ := Aside0.mk (IsS89.drew HI428.out)
  have n6_ := Aside0.mk (below_drew1 HB.out)
  have n7_ := Aside0.mk (below_drew1 HBN.out)
  clear HO413
  clear HO416
  clear HO424
  clear BK410
  clear BK418
  clear HI428
  clear HB HBN
  have HO413 := n0_
  have HO416 := n1_
  have HO424 := n2_
  have BK410 := n3_
  have BK418 := n4_
  have HI428 := n5_
  have HB := n6_
  have HBN := n7_
  clear n0_ n1_ n2_ n3_ n4_ n5_ n6_ n7_
  refine start_ (n := 8) (S := fun w' => w'.cell? ⟨gb418, 0, none⟩ = some (.slice Ao9 t411.length co9)) (ds := []) #[false, false, false, false, false, false, false, false] (by kernel_rfl) rfl rfl ((blk_cell BK418.out 0).trans rfl) (fun hHeld => ?_); refine with_tabW spec_DrawKnowJoin.tab3 spec_DrawKnowJoin.bits3 (fun HT_ HW_ => ?_)
  generalize w15.drew = w16 at HO413 HO416 HO424 BK410 BK418 HI428 HB HBN hHeld ⊢
  refine pure_ (i := 1) (N := some 20) (v := ?_) (a' := ?_) #[false, true, false, false, false, false, false, false] rfl rfl (any_of HT_.out (by kernel_rfl)) (fun _ _ _ h => h) (Or.inl ⟨by rfl, ?_⟩) ?_ ?_
  rotate_left
  ·intro w'
   go_simp
   with_reducible rfl
  rotate_left
  ·simp only [Act.put, List.setIfInBounds_toArray, List.set_cons_zero, List.set_cons_succ, i64_w, i32_w]
   rfl
  refine pure_ (i := 2) (N := some 21) (v := ?_) (a' := ?_) #[false, true, true, false, false, false, false, false] rfl rfl (any_of HT_.out (by kernel_rfl)) (fun _ _ _ h => h) (Or.inl ⟨by rfl, ?_⟩) ?_ ?_
  rotate_left
  ·intro w'
   go_simp
   with_reducible rfl
  rotate_left
  ·simp only [Act.put, List.setIfInBounds_toArray, List.set_cons_zero, List.set_cons_succ, i64_w, i32_w]
   rfl
  refine take_ (i := 0) (N := some 19) (v := ?_) (a' := ?_) #[true, true, true, false, false, false, false, false] rfl rfl (take_ofW HT_.out HW_.out (by kernel_rfl)) (fun _ _ _ h => h) (Or.inl ⟨by rfl, ?_⟩) hHeld ?_ ?_
  rotate_left
  ·intro w' s0
   go_simp
   with_reducible rfl
  rotate_left
  ·simp only [Act.put, List.setIfInBounds_toArray, List.set_cons_zero, List.set_cons_succ, i64_w, i32_w]
   rfl
  refine take_ (i := 3) (N := some 22) (v := ?_) (a' := ?_) #[true, true, true, true, false, false, false, false] rfl rfl (take_ofW HT_.out HW_.out (by kernel_rfl)) (fun _ _ _ h => h) (Or.inl ⟨by rfl, ?_⟩) hHeld ?_ ?_
  rotate_left
  ·intro w' s0
   go_simp
   with_reducible rfl
  rotate_left
  ·simp only [Act.put, List.setIfInBounds_toArray, List.set_cons_zero, List.set_cons_succ, i64_w, i32_w]
   rfl
  refine one_ (i := 4) (N := some 23) #[true, true, true, true, true, false, false, false] rfl rfl (one_of HT_.out (by kernel_rfl)) (by decide) (fun K hK => ?_)
  refine goes_ Try.func61 (by kernel_rfl) rfl #[.pointer (some ⟨g428, 0, none⟩), .agg #[.slice Ao9 t411.length co9]] (by rfl) rfl rfl zl ?_
  with_reducible refine (spec_l6DrawAny.calls k g428 t425 t426 t427 _ _ t411 t429 t432 t433 ?w0w _ ?side1 ?side2 ?side3 ?side4 A5.out).mono ?_
  (case side1 => exact HI428.out)
  (case side2 => exact HBN.out)
  (case side3 => exact Kd.C_foot_own (IsS89.apart HI428.out (zr HO413.out) (by decide)) (fun _ h_ => h_.2))
  (case side4 => exact (Kd.R_reads' HO413.out).2.1)
  rintro e w17 ⟨v430, rfl, ho0, hi, hb, hk⟩
  refine ⟨_, rfl, ?_⟩
  have n0_ := Aside0.mk (KeepBut.blk hk (g' := gb410) (o := .cells #[.slice none 0 0] 30 (0, 0)) (zh BK410.out) NB410_428.out (by simp))
  have n1_ := Aside0.mk (Kd.R_mono (Kd.R_keep (IsS89.apart HI428.out (zr HO413.out) (by decide)) hk (fun _ h => h.2)) (fun _ h => h.1))
  have n2_ := Aside0.mk (Kd.R_mono (Kd.R_told (Kd.R_oldK (IsS89.apart HI428.out (zr HO416.out) (by decide)) hk) (Kd.R_base ho0)) (fun _ h_ => h_.1))
  have n3_ := Aside0.mk (KeepBut.blk hk (g' := gb418) (o := .cells #[.slice Ao9 t411.length co9] 30 (0, 0)) (zh BK418.out) NB418_428.out (by simp))
  have n4_ := Aside0.mk (Kd.R_mono (Kd.R_keep (IsS89.apart HI428.out (zr HO424.out) (by decide)) hk (fun _ h => h.2)) (fun _ h => h.1))
  have n5_ := Aside0.mk (Kd.R_lower (Kd.R_new' ho0 (Kd.R_lt (zr HO416.out))) (below_size (zb HB.out)))
  have n6_ := Aside0.mk (below_step HB0.out hb)
  have n7_ := Aside0.mk (hi)
  clear BK410
  clear HO413
  clear HO416
  clear BK418
  clear HO424
  clear HB
  clear HI428
  have BK410 := n0_
  have HO413 := n1_
  have HO416 := n2_
  have BK418 := n3_
  have HO424 := n4_
  have HO431 := n5_
  have HB := n6_
  have HI428 := n7_
  clear n0_ n1_ n2_ n3_ n4_ n5_ n6_ n7_
  (try clear hb)
  (try clear hb2)
  (try clear hk)
  (try clear hi)
  (try clear ho0)
  refine hK.out _ _ ((blk_cell BK418.out 0).trans rfl) (fun hHeld => ?_)
  clear hK K
  refine norm_ (a' := ?_) ?_ ?_
  rotate_left
  ·show Act.put _ (some 23) _ = _
   simp only [Act.put, List.setIfInBounds_toArray, List.set_cons_zero, List.set_cons_succ, i64_w, i32_w]
   rfl
  refine one_ (i := 5) (N := none) #[true, true, true, true, true, true, false, false] rfl rfl (one_of HT_.out (by kernel_rfl)) (by decide) (fun K hK => ?_)
  have hs18 : w17.cell? ⟨gb410, 0, none⟩ = some (.slice none 0 0) := (blk_cell BK410.out 0).trans rfl
  have hfs18 := blk_frozen BK410.out 0
  have hns18_1 := NB418_410.out
  have hms18_1 := NB410_418.out
  refine skip_ (w1 := ?_) (by rfl) rfl ?_ ?_
  rotate_left
  ·go_simp
   rfl
  refine hK.out _ _ (((cell_far (p := ⟨gb410, _, none⟩) NB418_410.out _).trans (hHeld))) (fun hHeld => ?_)
  clear hK K
  refine pure_ (i := 6) (N := some 3) (v := ?_) (a' := ?_) #[true, true, true, true, true, true, true, false] rfl rfl (any_of HT_.out (by kernel_rfl)) (fun _ _ _ h => h) (Or.inl ⟨by rfl, ?_⟩) ?_ ?_
  rotate_left
  ·intro w'
   go_simp
   with_reducible rfl
  rotate_left
  ·simp only [Act.put, List.setIfInBounds_toArray, List.set_cons_zero, List.set_cons_succ, i64_w, i32_w]
   rfl
  refine pure_ (i := 7) (N := some 4) (v := ?_) (a' := ?_) #[true, true, true, true, true, true, true, true] rfl rfl (any_of HT_.out (by kernel_rfl)) (fun _ _ _ h => h) (Or.inl ⟨by rfl, ?_⟩) ?_ ?_
  rotate_left
  ·intro w'
   go_simp
   with_reducible rfl
  rotate_left
  ·simp only [Act.put, List.setIfInBounds_toArray, List.set_cons_zero, List.set_cons_succ, i64_w, i32_w]
   rfl
  refine done_ (done_of HT_.out (by kernel_rfl)) ?_
  try go_wp2
  refine bodyPost_ret (results_ctt rfl _ _ gb410 30 #[.slice Ao9 t411.length co9] (0, 0) _ rfl (by (with_reducible repeat (first | refine blk_drewN ?_ _ | refine blk_drew ?_ | refine blk_alloc ?_ _)); refine blk_put (cs := #[.slice none 0 0]) ?_ 0 _ rfl; (with_reducible repeat (first | refine blk_drewN ?_ _ | refine blk_drew ?_ | refine blk_alloc ?_ _)); exact BK410.out) Try.underlying30 rfl (by kernel_rfl)) rfl ?_
  exact ⟨_, _, _, ze, zr (Kd.R_mono (Kd.R_far (p := ⟨gb410, 0, none⟩) (Kd.R_types HO413.out BK410.out (by decide)) (fun _ hk => hk.2) (.slice Ao9 t411.length co9)) (fun _ hk => trivial)), zr (Kd.R_mono (Kd.R_far (p := ⟨gb410, 0, none⟩) (Kd.R_types HO416.out BK410.out (by decide)) (fun _ hk => hk.2) (.slice Ao9 t411.length co9)) (fun _ hk => hk.1.2)), zr (Kd.R_mono (Kd.R_far (p := ⟨gb410, 0, none⟩) (Kd.R_types HO431.out BK410.out (by decide)) (fun _ hk => hk.2) (.slice Ao9 t411.length co9)) (fun _ hk => hk.1.2)), zb HB.out⟩
 ·rw [if_neg c3] at H
  exact absurd H (by simp)



/-! ### slices_Index_int_int: function 91 -/
def slices_Index_int_int.l0 : Nat → List Int → Int → Int → Int → Option (Int)
 | 0, _, _, _, _ => none
 | k + 1, x0, x1, x7, x8 => if x8 < x7 then (if 0 ≤ x8 then (if x8 < (x0.length : Int) then (if x1 = (rd x0 x8) then (some x8) else (slices_Index_int_int.l0 k x0 x1 x7 (wrap64 (x8 + 1)))) else (none)) else (none)) else (some (-1))
def slices_Index_int_int.f (k : Nat) (l0 : List Int) (a1 : Int) : Option (Int) := slices_Index_int_int.l0 k l0 a1 (l0.length : Int) 0
theorem slices_Index_int_int.mono_l : ∀ k, (∀ y0 y1 y2 y3, LeO (slices_Index_int_int.l0 k y0 y1 y2 y3) (slices_Index_int_int.l0 (k + 1) y0 y1 y2 y3))
 | 0 => fun _ _ _ _ r h => by simp [slices_Index_int_int.l0] at h
 | k + 1 => by
  have ih0 := slices_Index_int_int.mono_l k
  ·intro y0 y1 y2 y3
   unfold slices_Index_int_int.l0
   repeat' first
   | (with_reducible exact ih0 _ _ _ _)
   | (with_reducible exact LeO.refl _)
   | (with_reducible exact LeO.none _)
   | (with_reducible refine LeO.ite ?_ ?_)
   | (with_reducible refine LeO.bind ?_ (fun _ => ?_))
   | exact ih0 _ _ _ _
   | exact LeO.none _
   | refine LeO.ite ?_ ?_
   | refine LeO.bind ?_ (fun _ => ?_)
theorem slices_Index_int_int.mono : ∀ a0 a1 k, LeO (slices_Index_int_int.f k a0 a1) (slices_Index_int_int.f (k + 1) a0 a1) := by
 intro a0 a1 k
 have ih0 := slices_Index_int_int.mono_l k
 unfold slices_Index_int_int.f
 repeat' first
   | (with_reducible exact ih0 _ _ _ _)
   | (with_reducible exact LeO.refl _)
   | (with_reducible exact LeO.none _)
   | (with_reducible refine LeO.ite ?_ ?_)
   | (with_reducible refine LeO.bind ?_ (fun _ => ?_))
   | exact ih0 _ _ _ _
   | exact LeO.none _
   | refine LeO.ite ?_ ?_
   | refine LeO.bind ?_ (fun _ => ?_)
set_option maxHeartbeats 8000000 in
set_option maxRecDepth 100000 in
theorem slices_Index_int_int.calls (k : Nat) (A0 : Option Addr) (c0 : Nat) (l0 : List Int) (a1 : Int) (r : Int) (w : World) (hr0 : Kd.C (Kd.int .i64) w A0 l0.length l0) (hc0 : l0.length ≤ c0) (h : slices_Index_int_int.f k l0 a1 = some r) :
  Calls Try.prog 91 #[.slice A0 l0.length c0, .int .i64 a1] w fun e w' => e = .returned (.int .i64 r) ∧ Drawn0 w w' := by
 have HR0 := Aside0.mk hr0
 have HC0 := Aside0.mk hc0
 clear hr0 hc0
 have H : (slices_Index_int_int.l0 k l0 a1 (l0.length : Int) 0) = some r := h
 clear h
 have H' := Aside0.mk H
 clear H
 go_enter Try.func91, Try.ntmps91
 go_wp2
 go_loopg [8] k (fun kq v8 w' => ∃ (x8_1 : Int), v8 = .int .i64 x8_1 ∧ Aside0 (slices_Index_int_int.l0 kq l0 a1 (l0.length : Int) x8_1 = some r) ∧ Aside0 (kq ≤ k) ∧ Drawn0 w w')
 case atStart => exact ⟨(0), (by first | rfl | (simp; done) | (simp [*]; done)), H', ⟨Nat.le_refl _⟩, by repeat (first | exact Drawn0.refl _ | apply Drawn0.step)⟩
 case round =>
  clear H'
  try clear p2
  obtain ⟨x8_1, rfl, HA, HK1, ⟨m1, rfl⟩⟩ := hrel
  cases gk with
  | zero => exact absurd HA.out (by simp [slices_Index_int_int.l0])
  | succ k1 =>
   have H := HA.out
   clear HA
   simp only [slices_Index_int_int.l0] at H
   by_cases c3 : x8_1 < (l0.length : Int)
   ·rw [if_pos c3] at H
    have c3b0 : decide (x8_1 < (l0.length : Int)) = true := decide_eq_true c3
    clear c3
    by_cases c4 : 0 ≤ x8_1
    ·rw [if_pos c4] at H
     have c4b0 : decide (0 ≤ x8_1) = true := decide_eq_true c4
     clear c4
     by_cases c5 : x8_1 < (l0.length : Int)
     ·rw [if_pos c5] at H
      have c5b0 : decide (x8_1 < (l0.length : Int)) = true := decide_eq_true c5
      clear c5
      by_cases c6 : a1 = (rd l0 x8_1)
      ·rw [if_pos c6] at H
       have c6b0 : (a1 == (rd l0 x8_1)) = true := beq_iff_eq.mpr c6
       have c6b1 : (a1 != (rd l0 x8_1)) = false := bne_eq_false_iff_eq.mpr c6
       clear c6
       obtain rfl := Option.some.inj H
       have p402 : 0 ≤ (x8_1 : Int) := of_decide_eq_true (by first | (with_reducible assumption) | assumption)
       have q402 : x8_1 < (l0.length : Int) := of_decide_eq_true (by first | (with_reducible assumption) | assumption)
       obtain ⟨ad402, e402, hx402_0⟩ := Kd.at_int HR0.out x8_1 p402 q402
       cases e402
       replace p402 := eq_true p402
       replace q402 := eq_true q402
       go_wp2
       go_ret
       exact ⟨by first | rfl | (simp; done) | (simp [*]; done), by repeat (first | exact Drawn0.refl _ | apply Drawn0.step)⟩
      ·rw [if_neg c6] at H
       have c6b0 : (a1 == (rd l0 x8_1)) = false := beq_eq_false_iff_ne.mpr c6
       have c6b1 : (a1 != (rd l0 x8_1)) = true := bne_iff_ne.mpr c6
       have H' := Aside0.mk H
       clear H
       have p402 : 0 ≤ (x8_1 : Int) := of_decide_eq_true (by first | (with_reducible assumption) | assumption)
       have q402 : x8_1 < (l0.length : Int) := of_decide_eq_true (by first | (with_reducible assumption) | assumption)
       obtain ⟨ad402, e402, hx402_0⟩ := Kd.at_int HR0.out x8_1 p402 q402
       cases e402
       replace p402 := eq_true p402
       replace q402 := eq_true q402
       go_wp2
       go_roundg k1
       case measure => have := HK1.out; omega
       case rel => exact ⟨(wrap64 (x8_1 + 1)), (by first | rfl | (simp; done) | (simp [*]; done)), H', ⟨by have := HK1.out; omega⟩, by repeat (first | exact Drawn0.refl _ | apply Drawn0.step)⟩
     ·rw [if_neg c5] at H
      exact absurd H (by simp)
    ·rw [if_neg c4] at H
     exact absurd H (by simp)
   ·rw [if_neg c3] at H
    have c3b0 : decide (x8_1 < (l0.length : Int)) = false := decide_eq_false c3
    clear c3
    obtain rfl := Option.some.inj H
    go_wp2
    go_ret
    exact ⟨by first | rfl | (simp; done) | (simp [*]; done), by repeat (first | exact Drawn0.refl _ | apply Drawn0.step)⟩

/-! ### slices_Contains_int_int: function 62 -/
def slices_Contains_int_int.f (k : Nat) (l0 : List Int) (a1 : Int) : Option (Bool) := (slices_Index_int_int.f k l0 a1).bind fun t403 => (some (decide (t403 ≥ 0)))
theorem slices_Contains_int_int.mono : ∀ a0 a1 k, LeO (slices_Contains_int_int.f k a0 a1) (slices_Contains_int_int.f (k + 1) a0 a1) := by
 intro a0 a1 k
 unfold slices_Contains_int_int.f
 repeat' first
   | (with_reducible exact slices_Index_int_int.mono _ _ _)
   | (with_reducible exact LeO.refl _)
   | (with_reducible exact LeO.none _)
   | (with_reducible refine LeO.ite ?_ ?_)
   | (with_reducible refine LeO.bind ?_ (fun _ => ?_))
   | exact slices_Index_int_int.mono _ _ _
   | exact LeO.none _
   | refine LeO.ite ?_ ?_
   | refine LeO.bind ?_ (fun _ => ?_)
set_option maxHeartbeats 8000000 in
set_option maxRecDepth 100000 in
theorem slices_Contains_int_int.calls (k : Nat) (A0 : Option Addr) (c0 : Nat) (l0 : List Int) (a1 : Int) (r : Bool) (w : World) (hr0 : Kd.C (Kd.int .i64) w A0 l0.length l0) (hc0 : l0.length ≤ c0) (h : slices_Contains_int_int.f k l0 a1 = some r) :
  Calls Try.prog 62 #[.slice A0 l0.length c0, .int .i64 a1] w fun e w' => e = .returned (.bool r) ∧ Drawn0 w w' := by
 have HR0 := Aside0.mk hr0
 have HC0 := Aside0.mk hc0
 clear hr0 hc0
 have H : ((slices_Index_int_int.f k l0 a1).bind fun t403 => (some (decide (t403 ≥ 0)))) = some r := h
 clear h
 replace H := Option.bind_eq_some_iff.mp H
 obtain ⟨t403, A30, H⟩ := H
 replace H : (some (decide (t403 ≥ 0))) = some r := H
 have A3 := Aside0.mk A30
 clear A30
 obtain rfl := Option.some.inj H
 go_enter Try.func62, Try.ntmps62
 go_wp2_with (first | ((with_reducible refine gate_callee (f := 91) rfl ?_); refine goesL_ (some 7) rfl rfl Try.func91 (by kernel_rfl) rfl #[.slice A0 l0.length c0, .int .i64 a1] rfl zl ?_; (with_reducible refine (slices_Index_int_int.calls k _ _ l0 a1 t403 _ ?side1 ?side2 A3.out).mono ?_); (case side1 => exact zc HR0.out); (case side2 => exact HC0.out); rintro e w' ⟨rfl, ⟨nd, rfl⟩⟩; refine ⟨_, rfl, ?_⟩))
 go_ret
 exact ⟨by first | rfl | (simp; done) | (simp [*]; done), by repeat (first | exact Drawn0.refl _ | apply Drawn0.step)⟩

/-! ### impl_KnowHas: function 31 -/
def impl_KnowHas.f (k : Nat) (l0 : List Int) (a1 : Int) : Option (Bool) := (slices_Contains_int_int.f k l0 a1).bind fun t404 => (some t404)
theorem impl_KnowHas.mono : ∀ a0 a1 k, LeO (impl_KnowHas.f k a0 a1) (impl_KnowHas.f (k + 1) a0 a1) := by
 intro a0 a1 k
 unfold impl_KnowHas.f
 repeat' first
   | (with_reducible exact slices_Contains_int_int.mono _ _ _)
   | (with_reducible exact LeO.refl _)
   | (with_reducible exact LeO.none _)
   | (with_reducible refine LeO.ite ?_ ?_)
   | (with_reducible refine LeO.bind ?_ (fun _ => ?_))
   | exact slices_Contains_int_int.mono _ _ _
   | exact LeO.none _
   | refine LeO.ite ?_ ?_
   | refine LeO.bind ?_ (fun _ => ?_)
set_option maxHeartbeats 8000000 in
set_option maxRecDepth 100000 in
theorem impl_KnowHas.calls (k : Nat) (A0 : Option Addr) (c0 : Nat) (l0 : List Int) (a1 : Int) (r : Bool) (w : World) (hr0 : Kd.C (Kd.int .i64) w A0 l0.length l0) (hc0 : l0.length ≤ c0) (h : impl_KnowHas.f k l0 a1 = some r) :
  Calls Try.prog 31 #[.slice A0 l0.length c0, .int .i64 a1] w fun e w' => e = .returned (.bool r) ∧ Drawn0 w w' := by
 have HR0 := Aside0.mk hr0
 have HC0 := Aside0.mk hc0
 clear hr0 hc0
 have H : ((slices_Contains_int_int.f k l0 a1).bind fun t404 => (some t404)) = some r := h
 clear h
 replace H := Option.bind_eq_some_iff.mp H
 obtain ⟨t404, A30, H⟩ := H
 replace H : (some t404) = some r := H
 have A3 := Aside0.mk A30
 clear A30
 obtain rfl := Option.some.inj H
 go_enter Try.func31, Try.ntmps31
 go_wp2_with (first | ((with_reducible refine gate_callee (f := 62) rfl ?_); refine goesL_ (some 7) rfl rfl Try.func62 (by kernel_rfl) rfl #[.slice A0 l0.length c0, .int .i64 a1] rfl zl ?_; (with_reducible refine (slices_Contains_int_int.calls k _ _ l0 a1 t404 _ ?side1 ?side2 A3.out).mono ?_); (case side1 => exact zc HR0.out); (case side2 => exact HC0.out); rintro e w' ⟨rfl, ⟨nd, rfl⟩⟩; refine ⟨_, rfl, ?_⟩))
 go_ret
 exact ⟨by first | rfl | (simp; done) | (simp [*]; done), by repeat (first | exact Drawn0.refl _ | apply Drawn0.step)⟩

end Go.Proofs.Ytdgahpigcaejbaa.D
end
