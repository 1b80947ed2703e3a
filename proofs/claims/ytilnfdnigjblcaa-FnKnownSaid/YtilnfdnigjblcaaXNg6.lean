import Derived.Test.YtilnfdnigjblcaaXN0
import Derived.Test.YtilnfdnigjblcaaXNg2
import Derived.Test.YtilnfdnigjblcaaXNg3
import Derived.Test.YtilnfdnigjblcaaXNg4
import Derived.Test.YtilnfdnigjblcaaXNg5
section
-- Written by this session's program (wip/tools/gprint.py over the kit's print) out of the translation; Lean checks it.
namespace Go.Proofs.Ytilnfdnigjblcaa.N
open Go.RowKit Go.Proofs.YtilnfdnigjblcaaW.PrintWords Go.Proofs.YtilnfdnigjblcaaW.PrintLast Go.Proofs.YtilnfdnigjblcaaW.PrintMore
attribute [local go_sem] max2_int min2_int max_two min_two max_three min_three max_four min_four   -- for this text's walks alone
set_option linter.unusedVariables false
set_option linter.unusedSimpArgs false
set_option maxRecDepth 100000

/-! ### spec_l1DrawAny: function 61 -/
mutual
def spec_l1DrawAny.j0 : Nat → List Int → Int → Int → List (S67) → Option ((List (S67)) × Int × Int)
 | 0, _, _, _, _ => none
 | k + 1, x1000, x1001, x1002, x305000 => (spec_l1Once.f x1000 x1001 x1002 80).bind fun bt334 => (if bt334.1 = true then (spec_l1DrawAny.l0 k x1000 bt334.2.1 bt334.2.2 ([] : List (S67))) else (some (x305000, bt334.2.1, bt334.2.2)))
def spec_l1DrawAny.l0 : Nat → List Int → Int → Int → List (S67) → Option ((List (S67)) × Int × Int)
 | 0, _, _, _, _ => none
 | k + 1, x1000, x1001, x1002, x305000 => if (x305000.length : Int) < 500 then ((spec_l1Add.f k x305000 1 ((x305000.length : Int) % 200) 0).bind fun bt337 => ((spec_l1Add.f k bt337.1 5 (wrap64 ((bt337.1.length : Int) - 1)) 0).bind fun bt341 => (spec_l1DrawAny.l0 k x1000 x1001 x1002 bt341.1))) else (some (x305000, x1001, x1002))
end
def spec_l1DrawAny.f (k : Nat) (s0_0 : List Int) (s0_1 : Int) (s0_2 : Int) : Option ((List (S67)) × Int × Int) := (spec_l1DrawPool.f k s0_0 s0_1 s0_2 24).bind fun bt299 => ((spec_l1Below.f s0_0 bt299.2.1 bt299.2.2 25).bind fun bt305 => (if bt305.1 = 0 then ((spec_l1Copy.f bt299.1).bind fun t308 => ((spec_l1DrawNode.f k s0_0 bt305.2.1 bt305.2.2 3).bind fun bt311 => (if t308.length < 5864062014805 then (spec_l1DrawAny.j0 k s0_0 bt311.2.2.2.1 bt311.2.2.2.2 (t308 ++ [(⟨bt311.1, bt311.2.1, bt311.2.2.1⟩ : S67)])) else (none)))) else (if bt305.1 = 1 then ((spec_l1Copy.f bt299.1).bind fun t319 => ((spec_l1Below.f s0_0 bt305.2.1 bt305.2.2 10).bind fun bt322 => ((spec_l1Below.f s0_0 bt322.2.1 bt322.2.2 30).bind fun bt325 => ((spec_l1Below.f s0_0 bt325.2.1 bt325.2.2 30).bind fun bt328 => (if t319.length < 5864062014805 then (spec_l1DrawAny.j0 k s0_0 bt328.2.1 bt328.2.2 (t319 ++ [(⟨bt322.1, wrap64 (bt325.1 - 1), wrap64 (bt328.1 - 1)⟩ : S67)])) else (none)))))) else (spec_l1DrawAny.j0 k s0_0 bt305.2.1 bt305.2.2 bt299.1))))
theorem spec_l1DrawAny.mono_l : ∀ k, (∀ y0 y1 y2 y3, LeO (spec_l1DrawAny.j0 k y0 y1 y2 y3) (spec_l1DrawAny.j0 (k + 1) y0 y1 y2 y3)) ∧ (∀ y0 y1 y2 y3, LeO (spec_l1DrawAny.l0 k y0 y1 y2 y3) (spec_l1DrawAny.l0 (k + 1) y0 y1 y2 y3))
 | 0 => ⟨fun _ _ _ _ r h => by simp [spec_l1DrawAny.j0] at h, fun _ _ _ _ r h => by simp [spec_l1DrawAny.l0] at h⟩
 | k + 1 => by
  obtain ⟨ih0, ih1⟩ := spec_l1DrawAny.mono_l k
  refine ⟨?_, ?_⟩
  ·intro y0 y1 y2 y3
   unfold spec_l1DrawAny.j0
   repeat' first
   | (with_reducible exact ih0 _ _ _ _)
   | (with_reducible exact ih1 _ _ _ _)
   | (with_reducible exact spec_l1Add.mono _ _ _ _ _)
   | (with_reducible exact spec_l1DrawNode.mono _ _ _ _ _)
   | (with_reducible exact spec_l1DrawPool.mono _ _ _ _ _)
   | (with_reducible exact LeO.refl _)
   | (with_reducible exact LeO.none _)
   | (with_reducible refine LeO.ite ?_ ?_)
   | (with_reducible refine LeO.bind ?_ (fun _ => ?_))
   | exact ih0 _ _ _ _
   | exact ih1 _ _ _ _
   | exact spec_l1Add.mono _ _ _ _ _
   | exact spec_l1DrawNode.mono _ _ _ _ _
   | exact spec_l1DrawPool.mono _ _ _ _ _
   | exact LeO.none _
   | refine LeO.ite ?_ ?_
   | refine LeO.bind ?_ (fun _ => ?_)
  ·intro y0 y1 y2 y3
   unfold spec_l1DrawAny.l0
   repeat' first
   | (with_reducible exact ih0 _ _ _ _)
   | (with_reducible exact ih1 _ _ _ _)
   | (with_reducible exact spec_l1Add.mono _ _ _ _ _)
   | (with_reducible exact spec_l1DrawNode.mono _ _ _ _ _)
   | (with_reducible exact spec_l1DrawPool.mono _ _ _ _ _)
   | (with_reducible exact LeO.refl _)
   | (with_reducible exact LeO.none _)
   | (with_reducible refine LeO.ite ?_ ?_)
   | (with_reducible refine LeO.bind ?_ (fun _ => ?_))
   | exact ih0 _ _ _ _
   | exact ih1 _ _ _ _
   | exact spec_l1Add.mono _ _ _ _ _
   | exact spec_l1DrawNode.mono _ _ _ _ _
   | exact spec_l1DrawPool.mono _ _ _ _ _
   | exact LeO.none _
   | refine LeO.ite ?_ ?_
   | refine LeO.bind ?_ (fun _ => ?_)
theorem spec_l1DrawAny.mono : ∀ a0 a1 a2 k, LeO (spec_l1DrawAny.f k a0 a1 a2) (spec_l1DrawAny.f (k + 1) a0 a1 a2) := by
 intro a0 a1 a2 k
 obtain ⟨ih0, ih1⟩ := spec_l1DrawAny.mono_l k
 unfold spec_l1DrawAny.f
 repeat' first
   | (with_reducible exact ih0 _ _ _ _)
   | (with_reducible exact ih1 _ _ _ _)
   | (with_reducible exact spec_l1Add.mono _ _ _ _ _)
   | (with_reducible exact spec_l1DrawNode.mono _ _ _ _ _)
   | (with_reducible exact spec_l1DrawPool.mono _ _ _ _ _)
   | (with_reducible exact LeO.refl _)
   | (with_reducible exact LeO.none _)
   | (with_reducible refine LeO.ite ?_ ?_)
   | (with_reducible refine LeO.bind ?_ (fun _ => ?_))
   | exact ih0 _ _ _ _
   | exact ih1 _ _ _ _
   | exact spec_l1Add.mono _ _ _ _ _
   | exact spec_l1DrawNode.mono _ _ _ _ _
   | exact spec_l1DrawPool.mono _ _ _ _ _
   | exact LeO.none _
   | refine LeO.ite ?_ ?_
   | refine LeO.bind ?_ (fun _ => ?_)
theorem fldP_ (w : World) (v : Value) : (Instr.field 31 (.agg #[v]) 0).run Try.prog w = .ok v w := by
 have hu := Try.underlying31
 simp [Instr.field, run_underlying hu, go_sem, asAgg, part, Result.andThen]
set_option maxHeartbeats 8000000 in
set_option maxRecDepth 100000 in
theorem spec_l1DrawAny.calls (k : Nat) (g : Nat) (s0_0 : List Int) (s0_1 : Int) (s0_2 : Int) (r1 : List (S67)) (r2 : Int) (r3 : Int) (w0 w : World) (hI : IsS92 w0 w g s0_0 s0_1 s0_2) (hB : Below w0.heap.size w0 w) (h : spec_l1DrawAny.f k s0_0 s0_1 s0_2 = some (r1, r2, r3)) :
  Calls Try.prog 61 #[.pointer (some ⟨g, 0, none⟩)] w fun e w' => ∃ v0_ : Value, e = .returned (.agg #[v0_]) ∧ Kd.R k67 67 w' w.heap.size (fun _ => True) v0_ r1 ∧ IsS92 w0 w' g s0_0 r2 r3 ∧ Below w0.heap.size w0 w' ∧ KeepBut w w' g none := by
 have hu31 := Try.underlying31
 have hu67 := Try.underlying67
 have HI0 := Aside0.mk hI
 have HK := Aside0.mk (KeepBut.refl w g none)
 have HL := Aside0.mk hB.size
 clear hI
 have HW0 := Aside0.mk hB.size
 have HB := Aside0.mk hB
 clear hB
 have H : ((spec_l1DrawPool.f k s0_0 s0_1 s0_2 24).bind fun bt299 => ((spec_l1Below.f s0_0 bt299.2.1 bt299.2.2 25).bind fun bt305 => (if bt305.1 = 0 then ((spec_l1Copy.f bt299.1).bind fun t308 => ((spec_l1DrawNode.f k s0_0 bt305.2.1 bt305.2.2 3).bind fun bt311 => (if t308.length < 5864062014805 then (spec_l1DrawAny.j0 k s0_0 bt311.2.2.2.1 bt311.2.2.2.2 (t308 ++ [(⟨bt311.1, bt311.2.1, bt311.2.2.1⟩ : S67)])) else (none)))) else (if bt305.1 = 1 then ((spec_l1Copy.f bt299.1).bind fun t319 => ((spec_l1Below.f s0_0 bt305.2.1 bt305.2.2 10).bind fun bt322 => ((spec_l1Below.f s0_0 bt322.2.1 bt322.2.2 30).bind fun bt325 => ((spec_l1Below.f s0_0 bt325.2.1 bt325.2.2 30).bind fun bt328 => (if t319.length < 5864062014805 then (spec_l1DrawAny.j0 k s0_0 bt328.2.1 bt328.2.2 (t319 ++ [(⟨bt322.1, wrap64 (bt325.1 - 1), wrap64 (bt328.1 - 1)⟩ : S67)])) else (none)))))) else (spec_l1DrawAny.j0 k s0_0 bt305.2.1 bt305.2.2 bt299.1))))) = some (r1, r2, r3) := h
 clear h
 replace H := Option.bind_eq_some_iff.mp H
 obtain ⟨⟨t299, t302, t303⟩, A20, H⟩ := H
 replace H : ((spec_l1Below.f s0_0 t302 t303 25).bind fun bt305 => (if bt305.1 = 0 then ((spec_l1Copy.f t299).bind fun t308 => ((spec_l1DrawNode.f k s0_0 bt305.2.1 bt305.2.2 3).bind fun bt311 => (if t308.length < 5864062014805 then (spec_l1DrawAny.j0 k s0_0 bt311.2.2.2.1 bt311.2.2.2.2 (t308 ++ [(⟨bt311.1, bt311.2.1, bt311.2.2.1⟩ : S67)])) else (none)))) else (if bt305.1 = 1 then ((spec_l1Copy.f t299).bind fun t319 => ((spec_l1Below.f s0_0 bt305.2.1 bt305.2.2 10).bind fun bt322 => ((spec_l1Below.f s0_0 bt322.2.1 bt322.2.2 30).bind fun bt325 => ((spec_l1Below.f s0_0 bt325.2.1 bt325.2.2 30).bind fun bt328 => (if t319.length < 5864062014805 then (spec_l1DrawAny.j0 k s0_0 bt328.2.1 bt328.2.2 (t319 ++ [(⟨bt322.1, wrap64 (bt325.1 - 1), wrap64 (bt328.1 - 1)⟩ : S67)])) else (none)))))) else (spec_l1DrawAny.j0 k s0_0 bt305.2.1 bt305.2.2 t299)))) = some (r1, r2, r3) := H
 have A2 := Aside0.mk A20
 clear A20
 replace H := Option.bind_eq_some_iff.mp H
 obtain ⟨⟨t305, t306, t307⟩, A30, H⟩ := H
 replace H : (if t305 = 0 then ((spec_l1Copy.f t299).bind fun t308 => ((spec_l1DrawNode.f k s0_0 t306 t307 3).bind fun bt311 => (if t308.length < 5864062014805 then (spec_l1DrawAny.j0 k s0_0 bt311.2.2.2.1 bt311.2.2.2.2 (t308 ++ [(⟨bt311.1, bt311.2.1, bt311.2.2.1⟩ : S67)])) else (none)))) else (if t305 = 1 then ((spec_l1Copy.f t299).bind fun t319 => ((spec_l1Below.f s0_0 t306 t307 10).bind fun bt322 => ((spec_l1Below.f s0_0 bt322.2.1 bt322.2.2 30).bind fun bt325 => ((spec_l1Below.f s0_0 bt325.2.1 bt325.2.2 30).bind fun bt328 => (if t319.length < 5864062014805 then (spec_l1DrawAny.j0 k s0_0 bt328.2.1 bt328.2.2 (t319 ++ [(⟨bt322.1, wrap64 (bt325.1 - 1), wrap64 (bt328.1 - 1)⟩ : S67)])) else (none)))))) else (spec_l1DrawAny.j0 k s0_0 t306 t307 t299))) = some (r1, r2, r3) := H
 have A3 := Aside0.mk A30
 clear A30
 have HC4 := Aside0.mk H
 clear H
 have hfldP := fldP_
 go_enter Try.func61, Try.ntmps61
 go_upto_block 0 with (first | ((with_reducible refine gate_dst (N := 2) rfl ?_); refine box_event ?hg (N := 2) ?hd (cs := #[.slice none 0 0]) (t := 31) ?hr ?_; (case hd => rfl); (case hg => rfl); (case hr => first | (go_simp; done) | (go_simp; rfl)); intro gb298 hg w5 hbox hb; have n0_ := Aside0.mk (IsS92.below (by repeat (first | (with_reducible first | exact HI0.out | apply IsS92.alloc | apply IsS92.drewN | apply IsS92.drew | apply IsS92.set_1 | apply IsS92.set_2) | exact HI0.out)) hb); have n1_ := Aside0.mk (KeepBut.trans (by repeat (first | (with_reducible first | exact HK.out | apply KeepBut.set_ | apply keep_drewN | apply keep_drew | apply keep_alloc) | exact HK.out)) (KeepBut.of_below hb g none) (.inl rfl)); have n2_ := Aside0.mk (below_step (by repeat (first | (with_reducible first | exact HB.out | apply below_alloc | apply pw_below_drewN | apply below_drew1 | refine below_set ?_ (IsS92.ge HI0.out)) | exact HB.out)) hb); have n3_ := Aside0.mk (hbox); have n4_ := Aside0.mk ((by rw [hg]; exact (keep_size (w := w) (g := g) (row := none) (by repeat (first | (with_reducible first | exact HK.out | apply KeepBut.set_ | apply keep_drewN | apply keep_drew | apply keep_alloc) | exact HK.out))) : w.heap.size ≤ gb298)); have n5_ := Aside0.mk ((Nat.le_trans HW0.out (by rw [hg]; exact (keep_size (w := w) (g := g) (row := none) (by repeat (first | (with_reducible first | exact HK.out | apply KeepBut.set_ | apply keep_drewN | apply keep_drew | apply keep_alloc) | exact HK.out))) : w.heap.size ≤ gb298) : w0.heap.size ≤ gb298)); have n6_ := Aside0.mk ((by rw [hg]; exact Nat.ne_of_lt (IsS92.lt (show IsS92 w0 _ g s0_0 s0_1 s0_2 from by repeat (first | (with_reducible first | exact HI0.out | apply IsS92.alloc | apply IsS92.drewN | apply IsS92.drew | apply IsS92.set_1 | apply IsS92.set_2) | exact HI0.out))) : g ≠ gb298)); have n7_ := Aside0.mk ((by rw [hg]; exact Nat.ne_of_gt (IsS92.lt (show IsS92 w0 _ g s0_0 s0_1 s0_2 from by repeat (first | (with_reducible first | exact HI0.out | apply IsS92.alloc | apply IsS92.drewN | apply IsS92.drew | apply IsS92.set_1 | apply IsS92.set_2) | exact HI0.out))) : gb298 ≠ g)); clear HI0; clear HK; clear HB; have HI0 := n0_; have HK := n1_; have HB := n2_; have BK298 := n3_; have GW298 := n4_; have GE298 := n5_; have NB0_298 := n6_; have NB298_0 := n7_; clear n0_ n1_ n2_ n3_ n4_ n5_ n6_ n7_; clear hb hbox hg) | ((with_reducible refine gate_callee (f := 78) rfl ?_); refine goesL_ (some 5) rfl rfl Try.func78 (by kernel_rfl) rfl #[.pointer (some ⟨g, 0, none⟩), .int .i64 24] rfl zl ?_; (with_reducible refine (spec_l1DrawPool.calls k g s0_0 s0_1 s0_2 24 t299 t302 t303 w0 _ ?side1 ?side2 A2.out).mono ?_); (case side1 => repeat (first | (with_reducible first | exact HI0.out | apply IsS92.alloc | apply IsS92.drewN | apply IsS92.drew | apply IsS92.set_1 | apply IsS92.set_2 | refine IsS92.far ?_ NB0_298.out _) | exact HI0.out)); (case side2 => repeat (first | (with_reducible first | exact HB.out | apply below_alloc | apply pw_below_drewN | apply below_drew1 | refine below_set ?_ (IsS92.ge HI0.out) | refine below_set ?_ GE298.out) | exact HB.out)); rintro e w6 ⟨v300, rfl, ho0, hi, hb, hk⟩; refine ⟨_, rfl, ?_⟩; have n0_ := Aside0.mk (KeepBut.blk hk (g' := gb298) (o := .cells #[.slice none 0 0] 31 (0, 0)) (zh BK298.out) NB298_0.out (by simp)); have n1_ := Aside0.mk (Kd.R_lower ho0 (keep_size (w := w) (g := g) (row := none) (by repeat (first | (with_reducible first | exact HK.out | apply KeepBut.set_ | apply keep_drewN | apply keep_drew | apply keep_alloc | refine keep_far ?_ GW298.out _) | exact HK.out)))); have n2_ := Aside0.mk (KeepBut.trans (by repeat (first | (with_reducible first | exact HK.out | apply KeepBut.set_ | apply keep_drewN | apply keep_drew | apply keep_alloc | refine keep_far ?_ GW298.out _) | exact HK.out)) hk (.inl rfl)); have n3_ := Aside0.mk (hb); have n4_ := Aside0.mk (hi); clear BK298; clear HK; clear HB; clear HI0; have BK298 := n0_; have HO301 := n1_; have HK := n2_; have HB := n3_; have HI0 := n4_; clear n0_ n1_ n2_ n3_ n4_; (try clear hb); (try clear hb2); (try clear hk); (try clear hi); (try clear ho0)) | ((with_reducible refine gate_dst (N := 3) rfl ?_); refine box_event ?hg (N := 3) ?hd (cs := #[.slice none 0 0]) (t := 31) ?hr ?_; (case hd => rfl); (case hg => rfl); (case hr => first | (go_simp; done) | (go_simp; rfl)); intro gb304 hg w7 hbox hb; have n0_ := Aside0.mk (Kd.R_below (zr HO301.out) hb); have n1_ := Aside0.mk (IsS92.below (by repeat (first | (with_reducible first | exact HI0.out | apply IsS92.alloc | apply IsS92.drewN | apply IsS92.drew | apply IsS92.set_1 | apply IsS92.set_2 | refine IsS92.far ?_ NB0_298.out _) | exact HI0.out)) hb); have n2_ := Aside0.mk (blk_below (zh BK298.out) hb); have n3_ := Aside0.mk (KeepBut.trans (by repeat (first | (with_reducible first | exact HK.out | apply KeepBut.set_ | apply keep_drewN | apply keep_drew | apply keep_alloc | refine keep_far ?_ GW298.out _) | exact HK.out)) (KeepBut.of_below hb g none) (.inl rfl)); have n4_ := Aside0.mk (below_step (by repeat (first | (with_reducible first | exact HB.out | apply below_alloc | apply pw_below_drewN | apply below_drew1 | refine below_set ?_ (IsS92.ge HI0.out) | refine below_set ?_ GE298.out) | exact HB.out)) hb); have n5_ := Aside0.mk (hbox); have n6_ := Aside0.mk ((by rw [hg]; exact (keep_size (w := w) (g := g) (row := none) (by repeat (first | (with_reducible first | exact HK.out | apply KeepBut.set_ | apply keep_drewN | apply keep_drew | apply keep_alloc | refine keep_far ?_ GW298.out _) | exact HK.out))) : w.heap.size ≤ gb304)); have n7_ := Aside0.mk ((Nat.le_trans HW0.out (by rw [hg]; exact (keep_size (w := w) (g := g) (row := none) (by repeat (first | (with_reducible first | exact HK.out | apply KeepBut.set_ | apply keep_drewN | apply keep_drew | apply keep_alloc | refine keep_far ?_ GW298.out _) | exact HK.out))) : w.heap.size ≤ gb304) : w0.heap.size ≤ gb304)); have n8_ := Aside0.mk ((by rw [hg]; exact Nat.ne_of_lt (blk_lt (zh BK298.out)) : gb298 ≠ gb304)); have n9_ := Aside0.mk ((by rw [hg]; exact Nat.ne_of_gt (blk_lt (zh BK298.out)) : gb304 ≠ gb298)); have n10_ := Aside0.mk ((by rw [hg]; exact Nat.ne_of_lt (IsS92.lt (show IsS92 w0 _ g s0_0 t302 t303 from by repeat (first | (with_reducible first | exact HI0.out | apply IsS92.alloc | apply IsS92.drewN | apply IsS92.drew | apply IsS92.set_1 | apply IsS92.set_2 | refine IsS92.far ?_ NB0_298.out _) | exact HI0.out))) : g ≠ gb304)); have n11_ := Aside0.mk ((by rw [hg]; exact Nat.ne_of_gt (IsS92.lt (show IsS92 w0 _ g s0_0 t302 t303 from by repeat (first | (with_reducible first | exact HI0.out | apply IsS92.alloc | apply IsS92.drewN | apply IsS92.drew | apply IsS92.set_1 | apply IsS92.set_2 | refine IsS92.far ?_ NB0_298.out _) | exact HI0.out))) : gb304 ≠ g)); clear HO301; clear HI0; clear BK298; clear HK; clear HB; have HO301 := n0_; have HI0 := n1_; have BK298 := n2_; have HK := n3_; have HB := n4_; have BK304 := n5_; have GW304 := n6_; have GE304 := n7_; have NB298_304 := n8_; have NB304_298 := n9_; have NB0_304 := n10_; have NB304_0 := n11_; clear n0_ n1_ n2_ n3_ n4_ n5_ n6_ n7_ n8_ n9_ n10_ n11_; clear hb hbox hg; obtain ⟨Ao8, co8, eo8⟩ := Kd.R_slice HO301.out; subst eo8; have hnb9 := NB304_298.out; have hnc9 := NB298_304.out; have hnb10 := NB304_0.out; have hnc10 := NB0_304.out; have hcz11_0 : w7.cell? ⟨gb304, 0, none⟩ = some (.slice none 0 0) := (blk_cell BK304.out 0).trans rfl; have hfz11_0 := blk_frozen BK304.out 0) | ((with_reducible refine gate_callee (f := 79) rfl ?_); refine goesL_ (some 7) rfl rfl Try.func79 (by kernel_rfl) rfl #[.pointer (some ⟨g, 0, none⟩), .int .i64 25] rfl zl ?_; (with_reducible refine (spec_l1Below.calls g s0_0 t302 t303 25 t305 t306 t307 w0 _ ?side1 ?side2 A3.out).mono ?_); (case side1 => repeat (first | (with_reducible first | exact HI0.out | apply IsS92.alloc | apply IsS92.drewN | apply IsS92.drew | apply IsS92.set_1 | apply IsS92.set_2 | refine IsS92.far ?_ NB0_298.out _ | refine IsS92.far ?_ NB0_304.out _) | exact HI0.out)); (case side2 => repeat (first | (with_reducible first | exact HB.out | apply below_alloc | apply pw_below_drewN | apply below_drew1 | refine below_set ?_ (IsS92.ge HI0.out) | refine below_set ?_ GE298.out | refine below_set ?_ GE304.out) | exact HB.out)); rintro e w12 ⟨rfl, hi, hb, hk⟩; refine ⟨_, rfl, ?_⟩; have n0_ := Aside0.mk (KeepBut.blk hk (g' := gb298) (o := .cells #[.slice none 0 0] 31 (0, 0)) (zf BK298.out) NB298_0.out (by simp)); have n1_ := Aside0.mk (Kd.R_mono (Kd.R_keep (IsS92.apart (show IsS92 w0 _ g s0_0 t302 t303 from by repeat (first | (with_reducible first | exact HI0.out | apply IsS92.alloc | apply IsS92.drewN | apply IsS92.drew | apply IsS92.set_1 | apply IsS92.set_2 | refine IsS92.far ?_ NB0_298.out _ | refine IsS92.far ?_ NB0_304.out _) | exact HI0.out)) (by (with_reducible repeat (first | apply Kd.R_alloc | apply Kd.R_drewN | apply Kd.R_drew)); exact (Kd.R_mono (Kd.R_far (p := ⟨gb304, 0, none⟩) (Kd.R_types HO301.out BK304.out (by decide)) (fun _ hk => hk.2) (.slice Ao8 t299.length co8)) (fun _ h_ => h_.1))) (by decide)) hk (fun _ h => h.2)) (fun _ h => h.1)); have n2_ := Aside0.mk (KeepBut.blk hk (g' := gb304) (o := .cells #[.slice Ao8 t299.length co8] 31 (0, 0)) (by (with_reducible repeat (first | refine blk_drewN ?_ _ | refine blk_drew ?_ | refine blk_alloc ?_ _)); refine blk_put (cs := #[.slice none 0 0]) ?_ 0 _ rfl; (with_reducible repeat (first | refine blk_drewN ?_ _ | refine blk_drew ?_ | refine blk_alloc ?_ _)); exact BK304.out) NB304_0.out (by simp)); have n3_ := Aside0.mk (KeepBut.trans (by repeat (first | (with_reducible first | exact HK.out | apply KeepBut.set_ | apply keep_drewN | apply keep_drew | apply keep_alloc | refine keep_far ?_ GW298.out _ | refine keep_far ?_ GW304.out _) | exact HK.out)) hk (.inl rfl)); have n4_ := Aside0.mk (hb); have n5_ := Aside0.mk (hi); clear BK298; clear HO301; clear BK304; clear HK; clear HB; clear HI0; have BK298 := n0_; have HO301 := n1_; have BK304 := n2_; have HK := n3_; have HB := n4_; have HI0 := n5_; clear n0_ n1_ n2_ n3_ n4_ n5_; (try clear hb); (try clear hb2); (try clear hk); (try clear hi)))
 (try simp only [Act.put, List.setIfInBounds_toArray, List.set_cons_zero, List.set_cons_succ])
 go_cut [] (fun wc => ∃ (kq : Nat) (x1001_3 : Int) (x1002_3 : Int) (x305000_3 : List (S67)) (u305000 : Value), Aside0 (spec_l1DrawAny.j0 kq s0_0 x1001_3 x1002_3 x305000_3 = some (r1, r2, r3)) ∧ Aside0 (kq ≤ k) ∧ Aside0 (Kd.R k67 67 wc w.heap.size (fun _ => True) u305000 x305000_3) ∧ Aside0 (wc.heap[gb298]? = some (.cells #[(.slice none 0 0)] 31 (0, 0))) ∧ Aside0 (wc.heap[gb304]? = some (.cells #[u305000] 31 (0, 0))) ∧ Aside0 (IsS92 w0 wc g s0_0 x1001_3 x1002_3) ∧ Aside0 (KeepBut w wc g none) ∧ Aside0 (Below w0.heap.size w0 wc))
 case first =>
  have H := HC4.out
  clear HC4
  by_cases c13 : t305 = 0
  ·rw [if_pos c13] at H
   have c13b0 : (t305 == 0) = true := beq_iff_eq.mpr c13
   have c13b1 : (t305 != 0) = false := bne_eq_false_iff_eq.mpr c13
   clear c13
   (first | rw [c13b0] | (simp only [i64_w, i32_w]; rw [c13b0]) | skip)
   replace H := Option.bind_eq_some_iff.mp H
   obtain ⟨t308, A140, H⟩ := H
   replace H : ((spec_l1DrawNode.f k s0_0 t306 t307 3).bind fun bt311 => (if t308.length < 5864062014805 then (spec_l1DrawAny.j0 k s0_0 bt311.2.2.2.1 bt311.2.2.2.2 (t308 ++ [(⟨bt311.1, bt311.2.1, bt311.2.2.1⟩ : S67)])) else (none))) = some (r1, r2, r3) := H
   have A14 := Aside0.mk A140
   clear A140
   replace H := Option.bind_eq_some_iff.mp H
   obtain ⟨⟨t311, t312, t313, t314, t315⟩, A150, H⟩ := H
   replace H : (if t308.length < 5864062014805 then (spec_l1DrawAny.j0 k s0_0 t314 t315 (t308 ++ [(⟨t311, t312, t313⟩ : S67)])) else (none)) = some (r1, r2, r3) := H
   have A15 := Aside0.mk A150
   clear A150
   by_cases c16 : t308.length < 5864062014805
   ·rw [if_pos c16] at H
    have LMc16 := Aside0.mk c16
    clear c16
    obtain ⟨y316, hy316⟩ : ∃ y_ : List (S67), y_ = (t308 ++ [(⟨t311, t312, t313⟩ : S67)]) := ⟨_, rfl⟩
    replace H : (spec_l1DrawAny.j0 k s0_0 t314 t315 y316) = some (r1, r2, r3) := by first | (rw [hy316]; with_reducible exact H) | (have H2_ := (Option.bind_some _ _).symm.trans H; rw [hy316]; with_reducible exact H2_) | (have H2_ := (Option.bind_some _ _).symm.trans H; with_reducible exact H2_) | with_reducible exact H | (rw [hy316]; exact H) | exact H
    have Ny316 := Aside0.mk hy316
    clear hy316
    have H' := Aside0.mk H
    clear H
    have hnb17 := NB304_298.out
    have hnc17 := NB298_304.out
    have hnb18 := NB304_0.out
    have hnc18 := NB0_304.out
    have hcz19_0 : w12.cell? ⟨gb304, 0, none⟩ = some (.slice Ao8 t299.length co8) := (blk_cell BK304.out 0).trans rfl
    have hfz19_0 := blk_frozen BK304.out 0
    go_wp2_with (first | ((with_reducible refine gate_callee (f := 72) rfl ?_); refine goesL_ (some 11) rfl rfl Try.func72 (by kernel_rfl) rfl #[.agg #[.slice Ao8 t299.length co8]] rfl zl ?_; (with_reducible refine (spec_l1Copy.calls _ _ t299 t308 _ ?side1 ?side2 A14.out).mono ?_); (case side1 => exact zc (Kd.R_reads' HO301.out).2.2); (case side2 => exact (Kd.R_reads' HO301.out).2.1); rintro e w20 ⟨v309, rfl, ho0, hb⟩; refine ⟨_, rfl, ?_⟩; have n0_ := Aside0.mk (Kd.R_elder' (zr HO301.out) (Kd.R_base ho0) hb); have n1_ := Aside0.mk (Kd.R_lower (Kd.R_new' ho0 (Kd.R_lt (zr HO301.out))) (keep_size (w := w) (g := g) (row := none) (by repeat (first | (with_reducible first | exact HK.out | apply KeepBut.set_ | apply keep_drewN | apply keep_drew | apply keep_alloc | refine keep_far ?_ GW298.out _ | refine keep_far ?_ GW304.out _) | exact HK.out)))); have n2_ := Aside0.mk (IsS92.below (by repeat (first | (with_reducible first | exact HI0.out | apply IsS92.alloc | apply IsS92.drewN | apply IsS92.drew | apply IsS92.set_1 | apply IsS92.set_2 | refine IsS92.far ?_ NB0_298.out _ | refine IsS92.far ?_ NB0_304.out _) | exact HI0.out)) hb); have n3_ := Aside0.mk (blk_below (zh BK298.out) hb); have n4_ := Aside0.mk (blk_below (zh BK304.out) hb); have n5_ := Aside0.mk (KeepBut.trans (by repeat (first | (with_reducible first | exact HK.out | apply KeepBut.set_ | apply keep_drewN | apply keep_drew | apply keep_alloc | refine keep_far ?_ GW298.out _ | refine keep_far ?_ GW304.out _) | exact HK.out)) (KeepBut.of_below hb g none) (.inl rfl)); have n6_ := Aside0.mk (below_step (by repeat (first | (with_reducible first | exact HB.out | apply below_alloc | apply pw_below_drewN | apply below_drew1 | refine below_set ?_ (IsS92.ge HI0.out) | refine below_set ?_ GE298.out | refine below_set ?_ GE304.out) | exact HB.out)) hb); clear HO301; clear HI0; clear BK298; clear BK304; clear HK; clear HB; have HO301 := n0_; have HO310 := n1_; have HI0 := n2_; have BK298 := n3_; have BK304 := n4_; have HK := n5_; have HB := n6_; clear n0_ n1_ n2_ n3_ n4_ n5_ n6_; (try clear hb); (try clear hb2); (try clear hk); (try clear hi); (try clear ho0)) | ((with_reducible refine gate_callee (f := 80) rfl ?_); refine goesL_ (some 14) rfl rfl Try.func80 (by kernel_rfl) rfl #[.pointer (some ⟨g, 0, none⟩), .int .i64 3] rfl zl ?_; (with_reducible refine (spec_l1DrawNode.calls k g s0_0 t306 t307 3 t311 t312 t313 t314 t315 w0 _ ?side1 ?side2 A15.out).mono ?_); (case side1 => repeat (first | (with_reducible first | exact HI0.out | apply IsS92.alloc | apply IsS92.drewN | apply IsS92.drew | apply IsS92.set_1 | apply IsS92.set_2 | refine IsS92.far ?_ NB0_298.out _ | refine IsS92.far ?_ NB0_304.out _) | exact HI0.out)); (case side2 => repeat (first | (with_reducible first | exact HB.out | apply below_alloc | apply pw_below_drewN | apply below_drew1 | refine below_set ?_ (IsS92.ge HI0.out) | refine below_set ?_ GE298.out | refine below_set ?_ GE304.out) | exact HB.out)); rintro e w21 ⟨rfl, hi, hb, hk⟩; refine ⟨_, rfl, ?_⟩; have n0_ := Aside0.mk (KeepBut.blk hk (g' := gb298) (o := .cells #[.slice none 0 0] 31 (0, 0)) (zh BK298.out) NB298_0.out (by simp)); have n1_ := Aside0.mk (Kd.R_mono (Kd.R_keep (IsS92.apart (show IsS92 w0 _ g s0_0 t306 t307 from by repeat (first | (with_reducible first | exact HI0.out | apply IsS92.alloc | apply IsS92.drewN | apply IsS92.drew | apply IsS92.set_1 | apply IsS92.set_2 | refine IsS92.far ?_ NB0_298.out _ | refine IsS92.far ?_ NB0_304.out _) | exact HI0.out)) (zr HO301.out) (by decide)) hk (fun _ h => h.2)) (fun _ h => h.1)); have n2_ := Aside0.mk (KeepBut.blk hk (g' := gb304) (o := .cells #[.slice Ao8 t299.length co8] 31 (0, 0)) (zh BK304.out) NB304_0.out (by simp)); have n3_ := Aside0.mk (Kd.R_mono (Kd.R_keep (IsS92.apart (show IsS92 w0 _ g s0_0 t306 t307 from by repeat (first | (with_reducible first | exact HI0.out | apply IsS92.alloc | apply IsS92.drewN | apply IsS92.drew | apply IsS92.set_1 | apply IsS92.set_2 | refine IsS92.far ?_ NB0_298.out _ | refine IsS92.far ?_ NB0_304.out _) | exact HI0.out)) (zr HO310.out) (by decide)) hk (fun _ h => h.2)) (fun _ h => h.1)); have n4_ := Aside0.mk (KeepBut.trans (by repeat (first | (with_reducible first | exact HK.out | apply KeepBut.set_ | apply keep_drewN | apply keep_drew | apply keep_alloc | refine keep_far ?_ GW298.out _ | refine keep_far ?_ GW304.out _) | exact HK.out)) hk (.inl rfl)); have n5_ := Aside0.mk (hb); have n6_ := Aside0.mk (hi); clear BK298; clear HO301; clear BK304; clear HO310; clear HK; clear HB; clear HI0; have BK298 := n0_; have HO301 := n1_; have BK304 := n2_; have HO310 := n3_; have HK := n4_; have HB := n5_; have HI0 := n6_; clear n0_ n1_ n2_ n3_ n4_ n5_ n6_; (try clear hb); (try clear hb2); (try clear hk); (try clear hi)) | ((with_reducible refine gate_builtin (b := .append) (xs := #[.tmp 12, .tmp 15]) rfl ?_); at_builtin; refine Kd.R_append k67 w.heap.size rfl (.tmp 12) (.tmp 15) 29 67 (.agg #[(.int .i64 0), (.int .i64 0), (.int .i64 0)]) 24 rfl Try.underlying29 info67 rfl (by decide) (by omega) v309 t308 (⟨t311, t312, t313⟩ : S67) [.int .i64 t311, .int .i64 t312, .int .i64 t313] (fun k_ => some k_ ≠ (.slice Ao8 t299.length co8 : Value).ownBlock) (fun _ => False) rfl rfl ?aP (fun _ hk => hk.elim) ?aF ?aO (Below.refl _ _) ?aS ?aL ?_; (case aP => exact k67_mkM _ _ _ (⟨t311, t312, t313⟩ : S67)); (case aF => exact (fun k_ hk => Kd.fresh' (Kd.R_lt (zr HO301.out)) k_ hk)); (case aO => exact (by (with_reducible repeat (first | apply Kd.R_alloc | apply Kd.R_drewN | apply Kd.R_drew)); exact Kd.R_mono HO310.out (fun _ hk => hk.2))); (case aS => exact (keep_size (w := w) (g := g) (row := none) (by repeat (first | (with_reducible first | exact HK.out | apply KeepBut.set_ | apply keep_drewN | apply keep_drew | apply keep_alloc | refine keep_far ?_ GW298.out _ | refine keep_far ?_ GW304.out _) | exact HK.out)))); (case aL => have := LMc16.out; omega); intro v317 w22 ho hb hg hat; rw [← Ny316.out] at ho; have n0_ := Aside0.mk (IsS92.grown (by repeat (first | (with_reducible first | exact HI0.out | apply IsS92.alloc | apply IsS92.drewN | apply IsS92.drew | apply IsS92.set_1 | apply IsS92.set_2 | refine IsS92.far ?_ NB0_298.out _ | refine IsS92.far ?_ NB0_304.out _) | exact HI0.out)) hg (IsS92.own_ne HI0.out HO310.out (by decide))); have n1_ := Aside0.mk (blk_grown (zh BK298.out) hg (Kd.R_ne HO310.out BK298.out (by decide))); have n2_ := Aside0.mk (Kd.R_after (ok := (fun _ => True)) (zr HO301.out) hg hat); have n3_ := Aside0.mk (blk_grown (zh BK304.out) hg (Kd.R_ne HO310.out BK304.out (by decide))); have n4_ := Aside0.mk (below_weaken (by repeat (first | (with_reducible first | exact HB.out | apply below_alloc | apply pw_below_drewN | apply below_drew1 | refine below_set ?_ (IsS92.ge HI0.out) | refine below_set ?_ GE298.out | refine below_set ?_ GE304.out) | exact HB.out)) HL.out hb); have n5_ := Aside0.mk (KeepBut.trans (by repeat (first | (with_reducible first | exact HK.out | apply KeepBut.set_ | apply keep_drewN | apply keep_drew | apply keep_alloc | refine keep_far ?_ GW298.out _ | refine keep_far ?_ GW304.out _) | exact HK.out)) (KeepBut.of_grown hg g) (Kd.R_base2 HO310.out)); have n6_ := Aside0.mk (ho); clear HI0; clear BK298; clear HO301; clear BK304; clear HB; clear HK; clear HO310; have HI0 := n0_; have BK298 := n1_; have HO301 := n2_; have BK304 := n3_; have HB := n4_; have HK := n5_; have HO318 := n6_; clear n0_ n1_ n2_ n3_ n4_ n5_ n6_; clear ho hb hg hat; obtain ⟨Ao23, co23, eo23⟩ := Kd.R_slice HO318.out; subst eo23; have hcz24_0 : w22.cell? ⟨gb304, 0, none⟩ = some (.slice Ao8 t299.length co8) := (blk_cell BK304.out 0).trans rfl; have hfz24_0 := blk_frozen BK304.out 0))
    go_meet
    case rel => exact ⟨_, (t314), (t315), (y316), (.slice Ao23 y316.length co23), H', ⟨by first | omega | exact Nat.le_refl _⟩, ⟨zr (Kd.R_mono (Kd.R_far (p := ⟨gb304, 0, none⟩) (Kd.R_types HO318.out BK304.out (by decide)) (fun _ hk => hk.2) (.slice Ao23 y316.length co23)) (fun _ hk => trivial))⟩, ⟨zf BK298.out⟩, ⟨by (with_reducible repeat (first | refine blk_drewN ?_ _ | refine blk_drew ?_ | refine blk_alloc ?_ _)); refine blk_put (cs := #[.slice Ao8 t299.length co8]) ?_ 0 _ rfl; (with_reducible repeat (first | refine blk_drewN ?_ _ | refine blk_drew ?_ | refine blk_alloc ?_ _)); exact BK304.out⟩, ⟨by repeat (first | (with_reducible first | exact HI0.out | apply IsS92.alloc | apply IsS92.drewN | apply IsS92.drew | apply IsS92.set_1 | apply IsS92.set_2 | refine IsS92.far ?_ NB0_298.out _ | refine IsS92.far ?_ NB0_304.out _) | exact HI0.out)⟩, ⟨by repeat (first | (with_reducible first | exact HK.out | apply KeepBut.set_ | apply keep_drewN | apply keep_drew | apply keep_alloc | refine keep_far ?_ GW298.out _ | refine keep_far ?_ GW304.out _) | exact HK.out)⟩, ⟨by repeat (first | (with_reducible first | exact HB.out | apply below_alloc | apply pw_below_drewN | apply below_drew1 | refine below_set ?_ (IsS92.ge HI0.out) | refine below_set ?_ GE298.out | refine below_set ?_ GE304.out) | exact HB.out)⟩⟩
   ·rw [if_neg c16] at H
    exact absurd H (by simp)
  ·rw [if_neg c13] at H
   have c13b0 : (t305 == 0) = false := beq_eq_false_iff_ne.mpr c13
   have c13b1 : (t305 != 0) = true := bne_iff_ne.mpr c13
   (first | rw [c13b0] | (simp only [i64_w, i32_w]; rw [c13b0]) | skip)
   by_cases c25 : t305 = 1
   ·rw [if_pos c25] at H
    have c25b0 : (t305 == 1) = true := beq_iff_eq.mpr c25
    have c25b1 : (t305 != 1) = false := bne_eq_false_iff_eq.mpr c25
    clear c25
    replace H := Option.bind_eq_some_iff.mp H
    obtain ⟨t319, A260, H⟩ := H
    replace H : ((spec_l1Below.f s0_0 t306 t307 10).bind fun bt322 => ((spec_l1Below.f s0_0 bt322.2.1 bt322.2.2 30).bind fun bt325 => ((spec_l1Below.f s0_0 bt325.2.1 bt325.2.2 30).bind fun bt328 => (if t319.length < 5864062014805 then (spec_l1DrawAny.j0 k s0_0 bt328.2.1 bt328.2.2 (t319 ++ [(⟨bt322.1, wrap64 (bt325.1 - 1), wrap64 (bt328.1 - 1)⟩ : S67)])) else (none))))) = some (r1, r2, r3) := H
    have A26 := Aside0.mk A260
    clear A260
    replace H := Option.bind_eq_some_iff.mp H
    obtain ⟨⟨t322, t323, t324⟩, A270, H⟩ := H
    replace H : ((spec_l1Below.f s0_0 t323 t324 30).bind fun bt325 => ((spec_l1Below.f s0_0 bt325.2.1 bt325.2.2 30).bind fun bt328 => (if t319.length < 5864062014805 then (spec_l1DrawAny.j0 k s0_0 bt328.2.1 bt328.2.2 (t319 ++ [(⟨t322, wrap64 (bt325.1 - 1), wrap64 (bt328.1 - 1)⟩ : S67)])) else (none)))) = some (r1, r2, r3) := H
    have A27 := Aside0.mk A270
    clear A270
    replace H := Option.bind_eq_some_iff.mp H
    obtain ⟨⟨t325, t326, t327⟩, A280, H⟩ := H
    replace H : ((spec_l1Below.f s0_0 t326 t327 30).bind fun bt328 => (if t319.length < 5864062014805 then (spec_l1DrawAny.j0 k s0_0 bt328.2.1 bt328.2.2 (t319 ++ [(⟨t322, wrap64 (t325 - 1), wrap64 (bt328.1 - 1)⟩ : S67)])) else (none))) = some (r1, r2, r3) := H
    have A28 := Aside0.mk A280
    clear A280
    replace H := Option.bind_eq_some_iff.mp H
    obtain ⟨⟨t328, t329, t330⟩, A290, H⟩ := H
    replace H : (if t319.length < 5864062014805 then (spec_l1DrawAny.j0 k s0_0 t329 t330 (t319 ++ [(⟨t322, wrap64 (t325 - 1), wrap64 (t328 - 1)⟩ : S67)])) else (none)) = some (r1, r2, r3) := H
    have A29 := Aside0.mk A290
    clear A290
    by_cases c30 : t319.length < 5864062014805
    ·rw [if_pos c30] at H
     have LMc30 := Aside0.mk c30
     clear c30
     obtain ⟨y331, hy331⟩ : ∃ y_ : List (S67), y_ = (t319 ++ [(⟨t322, wrap64 (t325 - 1), wrap64 (t328 - 1)⟩ : S67)]) := ⟨_, rfl⟩
     replace H : (spec_l1DrawAny.j0 k s0_0 t329 t330 y331) = some (r1, r2, r3) := by first | (rw [hy331]; with_reducible exact H) | (have H2_ := (Option.bind_some _ _).symm.trans H; rw [hy331]; with_reducible exact H2_) | (have H2_ := (Option.bind_some _ _).symm.trans H; with_reducible exact H2_) | with_reducible exact H | (rw [hy331]; exact H) | exact H
     have Ny331 := Aside0.mk hy331
     clear hy331
     have H' := Aside0.mk H
     clear H
     have hnb31 := NB304_298.out
     have hnc31 := NB298_304.out
     have hnb32 := NB304_0.out
     have hnc32 := NB0_304.out
     have hcz33_0 : w12.cell? ⟨gb304, 0, none⟩ = some (.slice Ao8 t299.length co8) := (blk_cell BK304.out 0).trans rfl
     have hfz33_0 := blk_frozen BK304.out 0
     go_wp2_with (first | ((with_reducible refine gate_callee (f := 72) rfl ?_); refine goesL_ (some 21) rfl rfl Try.func72 (by kernel_rfl) rfl #[.agg #[.slice Ao8 t299.length co8]] rfl zl ?_; (with_reducible refine (spec_l1Copy.calls _ _ t299 t319 _ ?side1 ?side2 A26.out).mono ?_); (case side1 => exact zc (Kd.R_reads' HO301.out).2.2); (case side2 => exact (Kd.R_reads' HO301.out).2.1); rintro e w34 ⟨v320, rfl, ho0, hb⟩; refine ⟨_, rfl, ?_⟩; have n0_ := Aside0.mk (Kd.R_elder' (zr HO301.out) (Kd.R_base ho0) hb); have n1_ := Aside0.mk (Kd.R_lower (Kd.R_new' ho0 (Kd.R_lt (zr HO301.out))) (keep_size (w := w) (g := g) (row := none) (by repeat (first | (with_reducible first | exact HK.out | apply KeepBut.set_ | apply keep_drewN | apply keep_drew | apply keep_alloc | refine keep_far ?_ GW298.out _ | refine keep_far ?_ GW304.out _) | exact HK.out)))); have n2_ := Aside0.mk (IsS92.below (by repeat (first | (with_reducible first | exact HI0.out | apply IsS92.alloc | apply IsS92.drewN | apply IsS92.drew | apply IsS92.set_1 | apply IsS92.set_2 | refine IsS92.far ?_ NB0_298.out _ | refine IsS92.far ?_ NB0_304.out _) | exact HI0.out)) hb); have n3_ := Aside0.mk (blk_below (zh BK298.out) hb); have n4_ := Aside0.mk (blk_below (zh BK304.out) hb); have n5_ := Aside0.mk (KeepBut.trans (by repeat (first | (with_reducible first | exact HK.out | apply KeepBut.set_ | apply keep_drewN | apply keep_drew | apply keep_alloc | refine keep_far ?_ GW298.out _ | refine keep_far ?_ GW304.out _) | exact HK.out)) (KeepBut.of_below hb g none) (.inl rfl)); have n6_ := Aside0.mk (below_step (by repeat (first | (with_reducible first | exact HB.out | apply below_alloc | apply pw_below_drewN | apply below_drew1 | refine below_set ?_ (IsS92.ge HI0.out) | refine below_set ?_ GE298.out | refine below_set ?_ GE304.out) | exact HB.out)) hb); clear HO301; clear HI0; clear BK298; clear BK304; clear HK; clear HB; have HO301 := n0_; have HO321 := n1_; have HI0 := n2_; have BK298 := n3_; have BK304 := n4_; have HK := n5_; have HB := n6_; clear n0_ n1_ n2_ n3_ n4_ n5_ n6_; (try clear hb); (try clear hb2); (try clear hk); (try clear hi); (try clear ho0)) | ((with_reducible refine gate_callee (f := 79) rfl ?_); refine goesL_ (some 24) rfl rfl Try.func79 (by kernel_rfl) rfl #[.pointer (some ⟨g, 0, none⟩), .int .i64 10] rfl zl ?_; (with_reducible refine (spec_l1Below.calls g s0_0 t306 t307 10 t322 t323 t324 w0 _ ?side1 ?side2 A27.out).mono ?_); (case side1 => repeat (first | (with_reducible first | exact HI0.out | apply IsS92.alloc | apply IsS92.drewN | apply IsS92.drew | apply IsS92.set_1 | apply IsS92.set_2 | refine IsS92.far ?_ NB0_298.out _ | refine IsS92.far ?_ NB0_304.out _) | exact HI0.out)); (case side2 => repeat (first | (with_reducible first | exact HB.out | apply below_alloc | apply pw_below_drewN | apply below_drew1 | refine below_set ?_ (IsS92.ge HI0.out) | refine below_set ?_ GE298.out | refine below_set ?_ GE304.out) | exact HB.out)); rintro e w35 ⟨rfl, hi, hb, hk⟩; refine ⟨_, rfl, ?_⟩; have n0_ := Aside0.mk (KeepBut.blk hk (g' := gb298) (o := .cells #[.slice none 0 0] 31 (0, 0)) (zh BK298.out) NB298_0.out (by simp)); have n1_ := Aside0.mk (Kd.R_mono (Kd.R_keep (IsS92.apart (show IsS92 w0 _ g s0_0 t306 t307 from by repeat (first | (with_reducible first | exact HI0.out | apply IsS92.alloc | apply IsS92.drewN | apply IsS92.drew | apply IsS92.set_1 | apply IsS92.set_2 | refine IsS92.far ?_ NB0_298.out _ | refine IsS92.far ?_ NB0_304.out _) | exact HI0.out)) (zr HO301.out) (by decide)) hk (fun _ h => h.2)) (fun _ h => h.1)); have n2_ := Aside0.mk (KeepBut.blk hk (g' := gb304) (o := .cells #[.slice Ao8 t299.length co8] 31 (0, 0)) (zh BK304.out) NB304_0.out (by simp)); have n3_ := Aside0.mk (Kd.R_mono (Kd.R_keep (IsS92.apart (show IsS92 w0 _ g s0_0 t306 t307 from by repeat (first | (with_reducible first | exact HI0.out | apply IsS92.alloc | apply IsS92.drewN | apply IsS92.drew | apply IsS92.set_1 | apply IsS92.set_2 | refine IsS92.far ?_ NB0_298.out _ | refine IsS92.far ?_ NB0_304.out _) | exact HI0.out)) (zr HO321.out) (by decide)) hk (fun _ h => h.2)) (fun _ h => h.1)); have n4_ := Aside0.mk (KeepBut.trans (by repeat (first | (with_reducible first | exact HK.out | apply KeepBut.set_ | apply keep_drewN | apply keep_drew | apply keep_alloc | refine keep_far ?_ GW298.out _ | refine keep_far ?_ GW304.out _) | exact HK.out)) hk (.inl rfl)); have n5_ := Aside0.mk (hb); have n6_ := Aside0.mk (hi); clear BK298; clear HO301; clear BK304; clear HO321; clear HK; clear HB; clear HI0; have BK298 := n0_; have HO301 := n1_; have BK304 := n2_; have HO321 := n3_; have HK := n4_; have HB := n5_; have HI0 := n6_; clear n0_ n1_ n2_ n3_ n4_ n5_ n6_; (try clear hb); (try clear hb2); (try clear hk); (try clear hi)) | ((with_reducible refine gate_callee (f := 79) rfl ?_); refine goesL_ (some 26) rfl rfl Try.func79 (by kernel_rfl) rfl #[.pointer (some ⟨g, 0, none⟩), .int .i64 30] rfl zl ?_; (with_reducible refine (spec_l1Below.calls g s0_0 t323 t324 30 t325 t326 t327 w0 _ ?side1 ?side2 A28.out).mono ?_); (case side1 => repeat (first | (with_reducible first | exact HI0.out | apply IsS92.alloc | apply IsS92.drewN | apply IsS92.drew | apply IsS92.set_1 | apply IsS92.set_2 | refine IsS92.far ?_ NB0_298.out _ | refine IsS92.far ?_ NB0_304.out _) | exact HI0.out)); (case side2 => repeat (first | (with_reducible first | exact HB.out | apply below_alloc | apply pw_below_drewN | apply below_drew1 | refine below_set ?_ (IsS92.ge HI0.out) | refine below_set ?_ GE298.out | refine below_set ?_ GE304.out) | exact HB.out)); rintro e w36 ⟨rfl, hi, hb, hk⟩; refine ⟨_, rfl, ?_⟩; have n0_ := Aside0.mk (KeepBut.blk hk (g' := gb298) (o := .cells #[.slice none 0 0] 31 (0, 0)) (zh BK298.out) NB298_0.out (by simp)); have n1_ := Aside0.mk (Kd.R_mono (Kd.R_keep (IsS92.apart (show IsS92 w0 _ g s0_0 t323 t324 from by repeat (first | (with_reducible first | exact HI0.out | apply IsS92.alloc | apply IsS92.drewN | apply IsS92.drew | apply IsS92.set_1 | apply IsS92.set_2 | refine IsS92.far ?_ NB0_298.out _ | refine IsS92.far ?_ NB0_304.out _) | exact HI0.out)) (zr HO301.out) (by decide)) hk (fun _ h => h.2)) (fun _ h => h.1)); have n2_ := Aside0.mk (KeepBut.blk hk (g' := gb304) (o := .cells #[.slice Ao8 t299.length co8] 31 (0, 0)) (zh BK304.out) NB304_0.out (by simp)); have n3_ := Aside0.mk (Kd.R_mono (Kd.R_keep (IsS92.apart (show IsS92 w0 _ g s0_0 t323 t324 from by repeat (first | (with_reducible first | exact HI0.out | apply IsS92.alloc | apply IsS92.drewN | apply IsS92.drew | apply IsS92.set_1 | apply IsS92.set_2 | refine IsS92.far ?_ NB0_298.out _ | refine IsS92.far ?_ NB0_304.out _) | exact HI0.out)) (zr HO321.out) (by decide)) hk (fun _ h => h.2)) (fun _ h => h.1)); have n4_ := Aside0.mk (KeepBut.trans (by repeat (first | (with_reducible first | exact HK.out | apply KeepBut.set_ | apply keep_drewN | apply keep_drew | apply keep_alloc | refine keep_far ?_ GW298.out _ | refine keep_far ?_ GW304.out _) | exact HK.out)) hk (.inl rfl)); have n5_ := Aside0.mk (hb); have n6_ := Aside0.mk (hi); clear BK298; clear HO301; clear BK304; clear HO321; clear HK; clear HB; clear HI0; have BK298 := n0_; have HO301 := n1_; have BK304 := n2_; have HO321 := n3_; have HK := n4_; have HB := n5_; have HI0 := n6_; clear n0_ n1_ n2_ n3_ n4_ n5_ n6_; (try clear hb); (try clear hb2); (try clear hk); (try clear hi)) | ((with_reducible refine gate_callee (f := 79) rfl ?_); refine goesL_ (some 29) rfl rfl Try.func79 (by kernel_rfl) rfl #[.pointer (some ⟨g, 0, none⟩), .int .i64 30] rfl zl ?_; (with_reducible refine (spec_l1Below.calls g s0_0 t326 t327 30 t328 t329 t330 w0 _ ?side1 ?side2 A29.out).mono ?_); (case side1 => repeat (first | (with_reducible first | exact HI0.out | apply IsS92.alloc | apply IsS92.drewN | apply IsS92.drew | apply IsS92.set_1 | apply IsS92.set_2 | refine IsS92.far ?_ NB0_298.out _ | refine IsS92.far ?_ NB0_304.out _) | exact HI0.out)); (case side2 => repeat (first | (with_reducible first | exact HB.out | apply below_alloc | apply pw_below_drewN | apply below_drew1 | refine below_set ?_ (IsS92.ge HI0.out) | refine below_set ?_ GE298.out | refine below_set ?_ GE304.out) | exact HB.out)); rintro e w37 ⟨rfl, hi, hb, hk⟩; refine ⟨_, rfl, ?_⟩; have n0_ := Aside0.mk (KeepBut.blk hk (g' := gb298) (o := .cells #[.slice none 0 0] 31 (0, 0)) (zh BK298.out) NB298_0.out (by simp)); have n1_ := Aside0.mk (Kd.R_mono (Kd.R_keep (IsS92.apart (show IsS92 w0 _ g s0_0 t326 t327 from by repeat (first | (with_reducible first | exact HI0.out | apply IsS92.alloc | apply IsS92.drewN | apply IsS92.drew | apply IsS92.set_1 | apply IsS92.set_2 | refine IsS92.far ?_ NB0_298.out _ | refine IsS92.far ?_ NB0_304.out _) | exact HI0.out)) (zr HO301.out) (by decide)) hk (fun _ h => h.2)) (fun _ h => h.1)); have n2_ := Aside0.mk (KeepBut.blk hk (g' := gb304) (o := .cells #[.slice Ao8 t299.length co8] 31 (0, 0)) (zh BK304.out) NB304_0.out (by simp)); have n3_ := Aside0.mk (Kd.R_mono (Kd.R_keep (IsS92.apart (show IsS92 w0 _ g s0_0 t326 t327 from by repeat (first | (with_reducible first | exact HI0.out | apply IsS92.alloc | apply IsS92.drewN | apply IsS92.drew | apply IsS92.set_1 | apply IsS92.set_2 | refine IsS92.far ?_ NB0_298.out _ | refine IsS92.far ?_ NB0_304.out _) | exact HI0.out)) (zr HO321.out) (by decide)) hk (fun _ h => h.2)) (fun _ h => h.1)); have n4_ := Aside0.mk (KeepBut.trans (by repeat (first | (with_reducible first | exact HK.out | apply KeepBut.set_ | apply keep_drewN | apply keep_drew | apply keep_alloc | refine keep_far ?_ GW298.out _ | refine keep_far ?_ GW304.out _) | exact HK.out)) hk (.inl rfl)); have n5_ := Aside0.mk (hb); have n6_ := Aside0.mk (hi); clear BK298; clear HO301; clear BK304; clear HO321; clear HK; clear HB; clear HI0; have BK298 := n0_; have HO301 := n1_; have BK304 := n2_; have HO321 := n3_; have HK := n4_; have HB := n5_; have HI0 := n6_; clear n0_ n1_ n2_ n3_ n4_ n5_ n6_; (try clear hb); (try clear hb2); (try clear hk); (try clear hi)) | ((with_reducible refine gate_builtin (b := .append) (xs := #[.tmp 22, .tmp 32]) rfl ?_); at_builtin; refine Kd.R_append k67 w.heap.size rfl (.tmp 22) (.tmp 32) 29 67 (.agg #[(.int .i64 0), (.int .i64 0), (.int .i64 0)]) 24 rfl Try.underlying29 info67 rfl (by decide) (by omega) v320 t319 (⟨t322, wrap64 (t325 - 1), wrap64 (t328 - 1)⟩ : S67) [.int .i64 t322, .int .i64 (wrap64 (t325 - 1)), .int .i64 (wrap64 (t328 - 1))] (fun k_ => some k_ ≠ (.slice Ao8 t299.length co8 : Value).ownBlock) (fun _ => False) rfl rfl ?aP (fun _ hk => hk.elim) ?aF ?aO (Below.refl _ _) ?aS ?aL ?_; (case aP => exact k67_mkM _ _ _ (⟨t322, wrap64 (t325 - 1), wrap64 (t328 - 1)⟩ : S67)); (case aF => exact (fun k_ hk => Kd.fresh' (Kd.R_lt (zr HO301.out)) k_ hk)); (case aO => exact (by (with_reducible repeat (first | apply Kd.R_alloc | apply Kd.R_drewN | apply Kd.R_drew)); exact Kd.R_mono HO321.out (fun _ hk => hk.2))); (case aS => exact (keep_size (w := w) (g := g) (row := none) (by repeat (first | (with_reducible first | exact HK.out | apply KeepBut.set_ | apply keep_drewN | apply keep_drew | apply keep_alloc | refine keep_far ?_ GW298.out _ | refine keep_far ?_ GW304.out _) | exact HK.out)))); (case aL => have := LMc30.out; omega); intro v332 w38 ho hb hg hat; rw [← Ny331.out] at ho; have n0_ := Aside0.mk (IsS92.grown (by repeat (first | (with_reducible first | exact HI0.out | apply IsS92.alloc | apply IsS92.drewN | apply IsS92.drew | apply IsS92.set_1 | apply IsS92.set_2 | refine IsS92.far ?_ NB0_298.out _ | refine IsS92.far ?_ NB0_304.out _) | exact HI0.out)) hg (IsS92.own_ne HI0.out HO321.out (by decide))); have n1_ := Aside0.mk (blk_grown (zh BK298.out) hg (Kd.R_ne HO321.out BK298.out (by decide))); have n2_ := Aside0.mk (Kd.R_after (ok := (fun _ => True)) (zr HO301.out) hg hat); have n3_ := Aside0.mk (blk_grown (zh BK304.out) hg (Kd.R_ne HO321.out BK304.out (by decide))); have n4_ := Aside0.mk (below_weaken (by repeat (first | (with_reducible first | exact HB.out | apply below_alloc | apply pw_below_drewN | apply below_drew1 | refine below_set ?_ (IsS92.ge HI0.out) | refine below_set ?_ GE298.out | refine below_set ?_ GE304.out) | exact HB.out)) HL.out hb); have n5_ := Aside0.mk (KeepBut.trans (by repeat (first | (with_reducible first | exact HK.out | apply KeepBut.set_ | apply keep_drewN | apply keep_drew | apply keep_alloc | refine keep_far ?_ GW298.out _ | refine keep_far ?_ GW304.out _) | exact HK.out)) (KeepBut.of_grown hg g) (Kd.R_base2 HO321.out)); have n6_ := Aside0.mk (ho); clear HI0; clear BK298; clear HO301; clear BK304; clear HB; clear HK; clear HO321; have HI0 := n0_; have BK298 := n1_; have HO301 := n2_; have BK304 := n3_; have HB := n4_; have HK := n5_; have HO333 := n6_; clear n0_ n1_ n2_ n3_ n4_ n5_ n6_; clear ho hb hg hat; obtain ⟨Ao39, co39, eo39⟩ := Kd.R_slice HO333.out; subst eo39; have hcz40_0 : w38.cell? ⟨gb304, 0, none⟩ = some (.slice Ao8 t299.length co8) := (blk_cell BK304.out 0).trans rfl; have hfz40_0 := blk_frozen BK304.out 0))
     go_meet
     case rel => exact ⟨_, (t329), (t330), (y331), (.slice Ao39 y331.length co39), H', ⟨by first | omega | exact Nat.le_refl _⟩, ⟨zr (Kd.R_mono (Kd.R_far (p := ⟨gb304, 0, none⟩) (Kd.R_types HO333.out BK304.out (by decide)) (fun _ hk => hk.2) (.slice Ao39 y331.length co39)) (fun _ hk => trivial))⟩, ⟨zf BK298.out⟩, ⟨by (with_reducible repeat (first | refine blk_drewN ?_ _ | refine blk_drew ?_ | refine blk_alloc ?_ _)); refine blk_put (cs := #[.slice Ao8 t299.length co8]) ?_ 0 _ rfl; (with_reducible repeat (first | refine blk_drewN ?_ _ | refine blk_drew ?_ | refine blk_alloc ?_ _)); exact BK304.out⟩, ⟨by repeat (first | (with_reducible first | exact HI0.out | apply IsS92.alloc | apply IsS92.drewN | apply IsS92.drew | apply IsS92.set_1 | apply IsS92.set_2 | refine IsS92.far ?_ NB0_298.out _ | refine IsS92.far ?_ NB0_304.out _) | exact HI0.out)⟩, ⟨by repeat (first | (with_reducible first | exact HK.out | apply KeepBut.set_ | apply keep_drewN | apply keep_drew | apply keep_alloc | refine keep_far ?_ GW298.out _ | refine keep_far ?_ GW304.out _) | exact HK.out)⟩, ⟨by repeat (first | (with_reducible first | exact HB.out | apply below_alloc | apply pw_below_drewN | apply below_drew1 | refine below_set ?_ (IsS92.ge HI0.out) | refine below_set ?_ GE298.out | refine below_set ?_ GE304.out) | exact HB.out)⟩⟩
    ·rw [if_neg c30] at H
     exact absurd H (by simp)
   ·rw [if_neg c25] at H
    have c25b0 : (t305 == 1) = false := beq_eq_false_iff_ne.mpr c25
    have c25b1 : (t305 != 1) = true := bne_iff_ne.mpr c25
    have H' := Aside0.mk H
    clear H
    go_wp2
    go_meet
    case rel => exact ⟨_, (t306), (t307), (t299), (.slice Ao8 t299.length co8), H', ⟨by first | omega | exact Nat.le_refl _⟩, ⟨zr HO301.out⟩, ⟨zh BK298.out⟩, ⟨zh BK304.out⟩, ⟨by repeat (first | (with_reducible first | exact HI0.out | apply IsS92.alloc | apply IsS92.drewN | apply IsS92.drew | apply IsS92.set_1 | apply IsS92.set_2 | refine IsS92.far ?_ NB0_298.out _ | refine IsS92.far ?_ NB0_304.out _) | exact HI0.out)⟩, ⟨by repeat (first | (with_reducible first | exact HK.out | apply KeepBut.set_ | apply keep_drewN | apply keep_drew | apply keep_alloc | refine keep_far ?_ GW298.out _ | refine keep_far ?_ GW304.out _) | exact HK.out)⟩, ⟨by repeat (first | (with_reducible first | exact HB.out | apply below_alloc | apply pw_below_drewN | apply below_drew1 | refine below_set ?_ (IsS92.ge HI0.out) | refine below_set ?_ GE298.out | refine below_set ?_ GE304.out) | exact HB.out)⟩⟩
 case rest =>
  clear HC4
  try clear c1
  try clear c2
  try clear p2
  try clear c3
  try clear c6
  try clear p6
  try clear c7
  try clear c8
  try clear c9
  try clear c10
  try clear c13
  try clear c13b0
  try clear c13b1
  try clear c16
  try clear c17
  try clear c18
  try clear c25
  try clear c25b0
  try clear c25b1
  try clear c30
  try clear c31
  try clear c32
  try clear hcz11_0
  try clear hcz19_0
  try clear hcz24_0
  try clear hcz33_0
  try clear hcz40_0
  try clear hfz11_0
  try clear hfz19_0
  try clear hfz24_0
  try clear hfz33_0
  try clear hfz40_0
  obtain ⟨kq, x1001_3, x1002_3, x305000_3, u305000, HA, HJ3, HO_305000, BK298, BK304, HI0, HK, HB⟩ := hcut
  cases kq with
  | zero => exact absurd HA.out (by simp [spec_l1DrawAny.j0])
  | succ kj3 =>
   have H := HA.out
   clear HA
   simp only [spec_l1DrawAny.j0] at H
   replace H := Option.bind_eq_some_iff.mp H
   obtain ⟨⟨t334, t335, t336⟩, A410, H⟩ := H
   replace H : (if t334 = true then (spec_l1DrawAny.l0 kj3 s0_0 t335 t336 ([] : List (S67))) else (some (x305000_3, t335, t336))) = some (r1, r2, r3) := H
   have A41 := Aside0.mk A410
   clear A410
   by_cases c42 : t334 = true
   ·subst c42
    have H1 : (spec_l1DrawAny.l0 kj3 s0_0 t335 t336 ([] : List (S67))) = some (r1, r2, r3) := by rw [if_pos rfl] at H; exact H
    clear H
    have H := H1
    clear H1
    have H' := Aside0.mk H
    clear H
    go_wp2_with (first | ((with_reducible refine gate_callee (f := 81) rfl ?_); refine goesL_ (some 36) rfl rfl Try.func81 (by kernel_rfl) rfl #[.pointer (some ⟨g, 0, none⟩), .int .i64 80] rfl zl ?_; (with_reducible refine (spec_l1Once.calls g s0_0 x1001_3 x1002_3 80 true t335 t336 w0 _ ?side1 ?side2 A41.out).mono ?_); (case side1 => repeat (first | (with_reducible first | exact HI0.out | apply IsS92.alloc | apply IsS92.drewN | apply IsS92.drew | apply IsS92.set_1 | apply IsS92.set_2 | refine IsS92.far ?_ NB0_298.out _ | refine IsS92.far ?_ NB0_304.out _) | exact HI0.out)); (case side2 => repeat (first | (with_reducible first | exact HB.out | apply below_alloc | apply pw_below_drewN | apply below_drew1 | refine below_set ?_ (IsS92.ge HI0.out) | refine below_set ?_ GE298.out | refine below_set ?_ GE304.out) | exact HB.out)); rintro e w43 ⟨rfl, hi, hb, hk⟩; refine ⟨_, rfl, ?_⟩; have n0_ := Aside0.mk (Kd.R_mono (Kd.R_keep (IsS92.apart (show IsS92 w0 _ g s0_0 x1001_3 x1002_3 from by repeat (first | (with_reducible first | exact HI0.out | apply IsS92.alloc | apply IsS92.drewN | apply IsS92.drew | apply IsS92.set_1 | apply IsS92.set_2 | refine IsS92.far ?_ NB0_298.out _ | refine IsS92.far ?_ NB0_304.out _) | exact HI0.out)) (zr HO_305000.out) (by decide)) hk (fun _ h => h.2)) (fun _ h => h.1)); have n1_ := Aside0.mk (KeepBut.blk hk (g' := gb298) (o := .cells #[.slice none 0 0] 31 (0, 0)) (zh BK298.out) NB298_0.out (by simp)); have n2_ := Aside0.mk (KeepBut.blk hk (g' := gb304) (o := .cells #[u305000] 31 (0, 0)) (zh BK304.out) NB304_0.out (by simp)); have n3_ := Aside0.mk (KeepBut.trans (by repeat (first | (with_reducible first | exact HK.out | apply KeepBut.set_ | apply keep_drewN | apply keep_drew | apply keep_alloc | refine keep_far ?_ GW298.out _ | refine keep_far ?_ GW304.out _) | exact HK.out)) hk (.inl rfl)); have n4_ := Aside0.mk (hb); have n5_ := Aside0.mk (hi); clear HO_305000; clear BK298; clear BK304; clear HK; clear HB; clear HI0; have HO_305000 := n0_; have BK298 := n1_; have BK304 := n2_; have HK := n3_; have HB := n4_; have HI0 := n5_; clear n0_ n1_ n2_ n3_ n4_ n5_; (try clear hb); (try clear hb2); (try clear hk); (try clear hi); have hnb44 := NB304_298.out; have hnc44 := NB298_304.out; have hnb45 := NB304_0.out; have hnc45 := NB0_304.out; have hcz46_0 : w43.cell? ⟨gb304, 0, none⟩ = some (u305000) := (blk_cell BK304.out 0).trans rfl; have hfz46_0 := blk_frozen BK304.out 0))
    go_loopg [] kj3 (fun kq w' => ∃ (x305000_2 : List (S67)) (u305000 : Value), Aside0 (spec_l1DrawAny.l0 kq s0_0 t335 t336 x305000_2 = some (r1, r2, r3)) ∧ Aside0 (kq ≤ kj3) ∧ Aside0 (Kd.R k67 67 w' w.heap.size (fun _ => True) u305000 x305000_2) ∧ Aside0 (w'.heap[gb298]? = some (.cells #[(.slice none 0 0)] 31 (0, 0))) ∧ Aside0 (w'.heap[gb304]? = some (.cells #[u305000] 31 (0, 0))) ∧ Aside0 (IsS92 w0 w' g s0_0 t335 t336) ∧ Aside0 (KeepBut w w' g none) ∧ Aside0 (Below w0.heap.size w0 w'))
    case atStart => exact ⟨(([] : List (S67))), (.slice none 0 0), H', ⟨Nat.le_refl _⟩, ⟨by first | exact Kd.R_nil _ _ _ _ _ | exact Kd.N_nil _ _ _ _ _ | exact Kd.V_nil _ _ _ _ _ | exact Kd.Q_nil _ _ _ _ _ | exact Kd.S_nil _ _ _ _ _⟩, ⟨zf BK298.out⟩, ⟨by (with_reducible repeat (first | refine blk_drewN ?_ _ | refine blk_drew ?_ | refine blk_alloc ?_ _)); refine blk_put (cs := #[u305000]) ?_ 0 _ rfl; (with_reducible repeat (first | refine blk_drewN ?_ _ | refine blk_drew ?_ | refine blk_alloc ?_ _)); exact BK304.out⟩, ⟨by repeat (first | (with_reducible first | exact HI0.out | apply IsS92.alloc | apply IsS92.drewN | apply IsS92.drew | apply IsS92.set_1 | apply IsS92.set_2 | refine IsS92.far ?_ NB0_298.out _ | refine IsS92.far ?_ NB0_304.out _) | exact HI0.out)⟩, ⟨by repeat (first | (with_reducible first | exact HK.out | apply KeepBut.set_ | apply keep_drewN | apply keep_drew | apply keep_alloc | refine keep_far ?_ GW298.out _ | refine keep_far ?_ GW304.out _) | exact HK.out)⟩, ⟨by repeat (first | (with_reducible first | exact HB.out | apply below_alloc | apply pw_below_drewN | apply below_drew1 | refine below_set ?_ (IsS92.ge HI0.out) | refine below_set ?_ GE298.out | refine below_set ?_ GE304.out) | exact HB.out)⟩⟩
    case round =>
     clear H'
     try clear c1
     try clear c2
     try clear p2
     try clear c3
     try clear c4
     try clear c6
     try clear p6
     try clear c7
     try clear c8
     try clear c9
     try clear c10
     try clear c13
     try clear c13b0
     try clear c13b1
     try clear c16
     try clear c17
     try clear c18
     try clear c25
     try clear c25b0
     try clear c25b1
     try clear c30
     try clear c31
     try clear c32
     try clear c42
     try clear c44
     try clear c45
     try clear hcz11_0
     try clear hcz19_0
     try clear hcz24_0
     try clear hcz33_0
     try clear hcz40_0
     try clear hcz46_0
     try clear hfz11_0
     try clear hfz19_0
     try clear hfz24_0
     try clear hfz33_0
     try clear hfz40_0
     try clear hfz46_0
     try clear p2
     try clear p6
     obtain ⟨x305000_2, u305000, HA, HK2, HO_305000, BK298, BK304, HI0, HK, HB⟩ := hrel
     cases gk with
     | zero => exact absurd HA.out (by simp [spec_l1DrawAny.l0])
     | succ k2 =>
      have H := HA.out
      clear HA
      simp only [spec_l1DrawAny.l0] at H
      by_cases c47 : (x305000_2.length : Int) < 500
      ·rw [if_pos c47] at H
       have c47b0 : decide ((x305000_2.length : Int) < 500) = true := decide_eq_true c47
       have c47b1 : decide (x305000_2.length < 500) = true := decide_eq_true (by omega)
       clear c47
       replace H := Option.bind_eq_some_iff.mp H
       obtain ⟨⟨t337, t340⟩, A480, H⟩ := H
       replace H : ((spec_l1Add.f k2 t337 5 (wrap64 ((t337.length : Int) - 1)) 0).bind fun bt341 => (spec_l1DrawAny.l0 k2 s0_0 t335 t336 bt341.1)) = some (r1, r2, r3) := H
       have A48 := Aside0.mk A480
       clear A480
       replace H := Option.bind_eq_some_iff.mp H
       obtain ⟨⟨t341, t344⟩, A490, H⟩ := H
       replace H : (spec_l1DrawAny.l0 k2 s0_0 t335 t336 t341) = some (r1, r2, r3) := H
       have A49 := Aside0.mk A490
       clear A490
       have H' := Aside0.mk H
       clear H
       have hnb50 := NB304_298.out
       have hnc50 := NB298_304.out
       have hnb51 := NB304_0.out
       have hnc51 := NB0_304.out
       have hcz52_0 : wr.cell? ⟨gb304, 0, none⟩ = some (u305000) := (blk_cell BK304.out 0).trans rfl
       have hfz52_0 := blk_frozen BK304.out 0
       obtain ⟨Ao53, co53, eo53⟩ := Kd.R_slice HO_305000.out
       subst eo53
       go_wp2_with (first | ((with_reducible refine gate_callee (f := 71) rfl ?_); refine goesL_ (some 49) rfl rfl Try.func71 (by kernel_rfl) rfl #[.agg #[.slice Ao53 x305000_2.length co53], .agg #[.int .i64 1, .int .i64 ((x305000_2.length : Int) % 200), .int .i64 0]] rfl zl ?_; (with_reducible refine (spec_l1Add.calls k2 (fun k_ => some k_ = (.slice Ao53 x305000_2.length co53 : Value).ownBlock) (.slice Ao53 x305000_2.length co53) x305000_2 1 ((x305000_2.length : Int) % 200) 0 t337 t340 w0 _ ?side1 ?side2 A48.out).mono ?_); (case side1 => repeat (first | (with_reducible first | exact HB.out | apply below_alloc | apply pw_below_drewN | apply below_drew1 | refine below_set ?_ (IsS92.ge HI0.out) | refine below_set ?_ GE298.out | refine below_set ?_ GE304.out) | exact HB.out)); (case side2 => exact Kd.R_lower (Kd.R_tight rfl HO_305000.out) HL.out); rintro e w54 ⟨v338, rfl, ho0, hb, hkp⟩; refine ⟨_, rfl, ?_⟩; have n0_ := Aside0.mk (blk_kept (zh BK298.out) hkp (fun hs_ => (fun e_ => (Kd.R_ne HO_305000.out BK298.out (by decide)) e_) hs_)); have n1_ := Aside0.mk (blk_kept (zh BK304.out) hkp (fun hs_ => (fun e_ => (Kd.R_ne HO_305000.out BK304.out (by decide)) e_) hs_)); have n2_ := Aside0.mk (IsS92.kept (by repeat (first | (with_reducible first | exact HI0.out | apply IsS92.alloc | apply IsS92.drewN | apply IsS92.drew | apply IsS92.set_1 | apply IsS92.set_2 | refine IsS92.far ?_ NB0_298.out _ | refine IsS92.far ?_ NB0_304.out _) | exact HI0.out)) hkp (fun hs_ => (fun e_ => (IsS92.own_ne HI0.out HO_305000.out (by decide)) e_) hs_)); have n3_ := Aside0.mk (Kd.R_mono (ok' := fun k_ => True) (Kd.R_raise (d := k67) (b := w0.heap.size) (b' := w.heap.size) (fun _ _ _ _ h_ => h_) ho0 (fun k_ e_ => Or.elim (ho0.1 k_ e_) (fun hs_ => (fun e_ => Kd.R_base HO_305000.out k_ e_.symm) hs_) (fun hn_ => Nat.le_trans (keep_size (w := w) (g := g) (row := none) (by repeat (first | (with_reducible first | exact HK.out | apply KeepBut.set_ | apply keep_drewN | apply keep_drew | apply keep_alloc | refine keep_far ?_ GW298.out _ | refine keep_far ?_ GW304.out _) | exact HK.out))) hn_))) (fun k_ hk_ => trivial)); have n4_ := Aside0.mk (Kept.keepG (by repeat (first | (with_reducible first | exact HK.out | apply KeepBut.set_ | apply keep_drewN | apply keep_drew | apply keep_alloc | refine keep_far ?_ GW298.out _ | refine keep_far ?_ GW304.out _) | exact HK.out)) hkp (fun k_ hs_ => (fun e_ => .inr (Kd.R_base HO_305000.out k_ e_.symm)) hs_)); have n5_ := Aside0.mk (hb); clear BK298; clear BK304; clear HI0; clear HK; clear HB; clear HO_305000; have BK298 := n0_; have BK304 := n1_; have HI0 := n2_; have HO339 := n3_; have HK := n4_; have HB := n5_; clear n0_ n1_ n2_ n3_ n4_ n5_; (try clear hb); (try clear hkp); (try clear ho0); obtain ⟨Ao55, co55, eo55⟩ := Kd.R_slice HO339.out; subst eo55; have hcz56_0 : w54.cell? ⟨gb304, 0, none⟩ = some (.slice Ao53 x305000_2.length co53) := (blk_cell BK304.out 0).trans rfl; have hfz56_0 := blk_frozen BK304.out 0) | ((with_reducible refine gate_store (t := 31) (p := 3) rfl ?_); refine store_event (t := 31) (p := 3) (v := ?vo_w57) (w1 := (w54.setCell ⟨gb304, 0, none⟩ (.slice Ao55 t337.length co55))) ?hg ?ho ?hn ?hr ?_; (case ho => rfl); (case hg => rfl); (case hn => rfl); (case hr => first | (go_simp; done) | (go_simp; rfl)); intro w57 hw; have n0_ : Aside0 (Kd.R k67 67 w57 w.heap.size (fun _ => True) (.slice Ao55 t337.length co55) t337) := ⟨(by rw [hw]; exact (by (with_reducible repeat (first | apply Kd.R_alloc | apply Kd.R_drewN | apply Kd.R_drew)); exact Kd.R_mono (Kd.R_far (p := ⟨gb304, 0, none⟩) (Kd.R_types HO339.out BK304.out (by decide)) (fun _ hk => hk.2) (.slice Ao55 t337.length co55)) (fun _ hk => trivial)))⟩; have n1_ : Aside0 (w57.heap[gb298]? = some (.cells #[.slice none 0 0] 31 (0, 0))) := ⟨(by rw [hw]; exact (zf BK298.out))⟩; have n2_ : Aside0 (w57.heap[gb304]? = some (.cells #[.slice Ao55 t337.length co55] 31 (0, 0))) := ⟨(by rw [hw]; exact (by (with_reducible repeat (first | refine blk_drewN ?_ _ | refine blk_drew ?_ | refine blk_alloc ?_ _)); refine blk_put (cs := #[.slice Ao53 x305000_2.length co53]) ?_ 0 _ rfl; (with_reducible repeat (first | refine blk_drewN ?_ _ | refine blk_drew ?_ | refine blk_alloc ?_ _)); exact BK304.out))⟩; have n3_ : Aside0 (IsS92 w0 w57 g s0_0 t335 t336) := ⟨(by rw [hw]; exact (by repeat (first | (with_reducible first | exact HI0.out | apply IsS92.alloc | apply IsS92.drewN | apply IsS92.drew | apply IsS92.set_1 | apply IsS92.set_2 | refine IsS92.far ?_ NB0_298.out _ | refine IsS92.far ?_ NB0_304.out _) | exact HI0.out)))⟩; have n4_ : Aside0 (KeepBut w w57 g none) := ⟨(by rw [hw]; exact (by repeat (first | (with_reducible first | exact HK.out | apply KeepBut.set_ | apply keep_drewN | apply keep_drew | apply keep_alloc | refine keep_far ?_ GW298.out _ | refine keep_far ?_ GW304.out _) | exact HK.out)))⟩; have n5_ : Aside0 (Below w0.heap.size w0 w57) := ⟨(by rw [hw]; exact (by repeat (first | (with_reducible first | exact HB.out | apply below_alloc | apply pw_below_drewN | apply below_drew1 | refine below_set ?_ (IsS92.ge HI0.out) | refine below_set ?_ GE298.out | refine below_set ?_ GE304.out) | exact HB.out)))⟩; clear hw; clear HO339; clear BK298; clear BK304; clear HI0; clear HK; clear HB; have HO339 := n0_; have BK298 := n1_; have BK304 := n2_; have HI0 := n3_; have HK := n4_; have HB := n5_; clear n0_ n1_ n2_ n3_ n4_ n5_; have hcz58_0 : w57.cell? ⟨gb304, 0, none⟩ = some (.slice Ao55 t337.length co55) := (blk_cell BK304.out 0).trans rfl; have hfz58_0 := blk_frozen BK304.out 0) | ((with_reducible refine gate_callee (f := 71) rfl ?_); refine goesL_ (some 59) rfl rfl Try.func71 (by kernel_rfl) rfl #[.agg #[.slice Ao55 t337.length co55], .agg #[.int .i64 5, .int .i64 (wrap64 ((t337.length : Int) - 1)), .int .i64 0]] rfl zl ?_; (with_reducible refine (spec_l1Add.calls k2 (fun k_ => some k_ = (.slice Ao55 t337.length co55 : Value).ownBlock) (.slice Ao55 t337.length co55) t337 5 (wrap64 ((t337.length : Int) - 1)) 0 t341 t344 w0 _ ?side1 ?side2 A49.out).mono ?_); (case side1 => repeat (first | (with_reducible first | exact HB.out | apply below_alloc | apply pw_below_drewN | apply below_drew1 | refine below_set ?_ (IsS92.ge HI0.out) | refine below_set ?_ GE298.out | refine below_set ?_ GE304.out) | exact HB.out)); (case side2 => exact Kd.R_lower (Kd.R_tight rfl HO339.out) HL.out); rintro e w59 ⟨v342, rfl, ho0, hb, hkp⟩; refine ⟨_, rfl, ?_⟩; have n0_ := Aside0.mk (blk_kept (zh BK298.out) hkp (fun hs_ => (fun e_ => (Kd.R_ne HO339.out BK298.out (by decide)) e_) hs_)); have n1_ := Aside0.mk (blk_kept (zh BK304.out) hkp (fun hs_ => (fun e_ => (Kd.R_ne HO339.out BK304.out (by decide)) e_) hs_)); have n2_ := Aside0.mk (IsS92.kept (by repeat (first | (with_reducible first | exact HI0.out | apply IsS92.alloc | apply IsS92.drewN | apply IsS92.drew | apply IsS92.set_1 | apply IsS92.set_2 | refine IsS92.far ?_ NB0_298.out _ | refine IsS92.far ?_ NB0_304.out _) | exact HI0.out)) hkp (fun hs_ => (fun e_ => (IsS92.own_ne HI0.out HO339.out (by decide)) e_) hs_)); have n3_ := Aside0.mk (Kd.R_mono (ok' := fun k_ => True) (Kd.R_raise (d := k67) (b := w0.heap.size) (b' := w.heap.size) (fun _ _ _ _ h_ => h_) ho0 (fun k_ e_ => Or.elim (ho0.1 k_ e_) (fun hs_ => (fun e_ => Kd.R_base HO339.out k_ e_.symm) hs_) (fun hn_ => Nat.le_trans (keep_size (w := w) (g := g) (row := none) (by repeat (first | (with_reducible first | exact HK.out | apply KeepBut.set_ | apply keep_drewN | apply keep_drew | apply keep_alloc | refine keep_far ?_ GW298.out _ | refine keep_far ?_ GW304.out _) | exact HK.out))) hn_))) (fun k_ hk_ => trivial)); have n4_ := Aside0.mk (Kept.keepG (by repeat (first | (with_reducible first | exact HK.out | apply KeepBut.set_ | apply keep_drewN | apply keep_drew | apply keep_alloc | refine keep_far ?_ GW298.out _ | refine keep_far ?_ GW304.out _) | exact HK.out)) hkp (fun k_ hs_ => (fun e_ => .inr (Kd.R_base HO339.out k_ e_.symm)) hs_)); have n5_ := Aside0.mk (hb); clear BK298; clear BK304; clear HI0; clear HK; clear HB; clear HO339; have BK298 := n0_; have BK304 := n1_; have HI0 := n2_; have HO343 := n3_; have HK := n4_; have HB := n5_; clear n0_ n1_ n2_ n3_ n4_ n5_; (try clear hb); (try clear hkp); (try clear ho0); obtain ⟨Ao60, co60, eo60⟩ := Kd.R_slice HO343.out; subst eo60; have hcz61_0 : w59.cell? ⟨gb304, 0, none⟩ = some (.slice Ao55 t337.length co55) := (blk_cell BK304.out 0).trans rfl; have hfz61_0 := blk_frozen BK304.out 0))
       go_roundg k2
       case measure => have := HJ3.out; have := HK2.out; omega
       case rel => exact ⟨(t341), (.slice Ao60 t341.length co60), H', ⟨by have := HJ3.out; have := HK2.out; omega⟩, ⟨zr (Kd.R_mono (Kd.R_far (p := ⟨gb304, 0, none⟩) (Kd.R_types HO343.out BK304.out (by decide)) (fun _ hk => hk.2) (.slice Ao60 t341.length co60)) (fun _ hk => trivial))⟩, ⟨zf BK298.out⟩, ⟨by (with_reducible repeat (first | refine blk_drewN ?_ _ | refine blk_drew ?_ | refine blk_alloc ?_ _)); refine blk_put (cs := #[.slice Ao55 t337.length co55]) ?_ 0 _ rfl; (with_reducible repeat (first | refine blk_drewN ?_ _ | refine blk_drew ?_ | refine blk_alloc ?_ _)); exact BK304.out⟩, ⟨by repeat (first | (with_reducible first | exact HI0.out | apply IsS92.alloc | apply IsS92.drewN | apply IsS92.drew | apply IsS92.set_1 | apply IsS92.set_2 | refine IsS92.far ?_ NB0_298.out _ | refine IsS92.far ?_ NB0_304.out _) | exact HI0.out)⟩, ⟨by repeat (first | (with_reducible first | exact HK.out | apply KeepBut.set_ | apply keep_drewN | apply keep_drew | apply keep_alloc | refine keep_far ?_ GW298.out _ | refine keep_far ?_ GW304.out _) | exact HK.out)⟩, ⟨by repeat (first | (with_reducible first | exact HB.out | apply below_alloc | apply pw_below_drewN | apply below_drew1 | refine below_set ?_ (IsS92.ge HI0.out) | refine below_set ?_ GE298.out | refine below_set ?_ GE304.out) | exact HB.out)⟩⟩
      ·rw [if_neg c47] at H
       have c47b0 : decide ((x305000_2.length : Int) < 500) = false := decide_eq_false c47
       have c47b1 : decide (x305000_2.length < 500) = false := decide_eq_false (by omega)
       clear c47
       simp only [Option.some.injEq, Prod.mk.injEq] at H
       obtain ⟨rfl, rfl, rfl⟩ := H
       have hnb62 := NB304_298.out
       have hnc62 := NB298_304.out
       have hnb63 := NB304_0.out
       have hnc63 := NB0_304.out
       have hcz64_0 : wr.cell? ⟨gb304, 0, none⟩ = some (u305000) := (blk_cell BK304.out 0).trans rfl
       have hfz64_0 := blk_frozen BK304.out 0
       obtain ⟨Ao65, co65, eo65⟩ := Kd.R_slice HO_305000.out
       subst eo65
       have hnb66 := NB298_0.out
       have hnc66 := NB0_298.out
       have hcz67_0 : wr.cell? ⟨gb298, 0, none⟩ = some (.slice none 0 0) := (blk_cell BK298.out 0).trans rfl
       have hfz67_0 := blk_frozen BK298.out 0
       go_wp2
       refine bodyPost_ret (results_cell_row rfl _ _ gb298 31 #[.slice Ao65 x305000_2.length co65] (0, 0) _ rfl (by (with_reducible repeat (first | refine blk_drewN ?_ _ | refine blk_drew ?_ | refine blk_alloc ?_ _)); refine blk_put (cs := #[.slice none 0 0]) ?_ 0 _ rfl; (with_reducible repeat (first | refine blk_drewN ?_ _ | refine blk_drew ?_ | refine blk_alloc ?_ _)); exact BK298.out) Try.underlying31 rfl (by kernel_rfl)) rfl ?_
       exact ⟨_, ze, zr (Kd.R_mono (Kd.R_far (p := ⟨gb298, 0, none⟩) (Kd.R_types HO_305000.out BK298.out (by decide)) (fun _ hk => hk.2) (.slice Ao65 x305000_2.length co65)) (fun _ hk => trivial)), by repeat (first | (with_reducible first | exact HI0.out | apply IsS92.alloc | apply IsS92.drewN | apply IsS92.drew | apply IsS92.set_1 | apply IsS92.set_2 | refine IsS92.far ?_ NB0_298.out _ | refine IsS92.far ?_ NB0_304.out _) | exact HI0.out), by repeat (first | (with_reducible first | exact HB.out | apply below_alloc | apply pw_below_drewN | apply below_drew1 | refine below_set ?_ (IsS92.ge HI0.out) | refine below_set ?_ GE298.out | refine below_set ?_ GE304.out) | exact HB.out), by repeat (first | (with_reducible first | exact HK.out | apply KeepBut.set_ | apply keep_drewN | apply keep_drew | apply keep_alloc | refine keep_far ?_ GW298.out _ | refine keep_far ?_ GW304.out _) | exact HK.out)⟩
   ·replace c42 := Bool.eq_false_iff.mpr c42
    subst c42
    have H1 : (some (x305000_3, t335, t336)) = some (r1, r2, r3) := by rw [if_neg (show ¬ (false = true) by decide)] at H; exact H
    clear H
    have H := H1
    clear H1
    simp only [Option.some.injEq, Prod.mk.injEq] at H
    obtain ⟨rfl, rfl, rfl⟩ := H
    go_wp2_with (first | ((with_reducible refine gate_callee (f := 81) rfl ?_); refine goesL_ (some 36) rfl rfl Try.func81 (by kernel_rfl) rfl #[.pointer (some ⟨g, 0, none⟩), .int .i64 80] rfl zl ?_; (with_reducible refine (spec_l1Once.calls g s0_0 x1001_3 x1002_3 80 false t335 t336 w0 _ ?side1 ?side2 A41.out).mono ?_); (case side1 => repeat (first | (with_reducible first | exact HI0.out | apply IsS92.alloc | apply IsS92.drewN | apply IsS92.drew | apply IsS92.set_1 | apply IsS92.set_2 | refine IsS92.far ?_ NB0_298.out _ | refine IsS92.far ?_ NB0_304.out _) | exact HI0.out)); (case side2 => repeat (first | (with_reducible first | exact HB.out | apply below_alloc | apply pw_below_drewN | apply below_drew1 | refine below_set ?_ (IsS92.ge HI0.out) | refine below_set ?_ GE298.out | refine below_set ?_ GE304.out) | exact HB.out)); rintro e w68 ⟨rfl, hi, hb, hk⟩; refine ⟨_, rfl, ?_⟩; have n0_ := Aside0.mk (Kd.R_mono (Kd.R_keep (IsS92.apart (show IsS92 w0 _ g s0_0 x1001_3 x1002_3 from by repeat (first | (with_reducible first | exact HI0.out | apply IsS92.alloc | apply IsS92.drewN | apply IsS92.drew | apply IsS92.set_1 | apply IsS92.set_2 | refine IsS92.far ?_ NB0_298.out _ | refine IsS92.far ?_ NB0_304.out _) | exact HI0.out)) (zr HO_305000.out) (by decide)) hk (fun _ h => h.2)) (fun _ h => h.1)); have n1_ := Aside0.mk (KeepBut.blk hk (g' := gb298) (o := .cells #[.slice none 0 0] 31 (0, 0)) (zh BK298.out) NB298_0.out (by simp)); have n2_ := Aside0.mk (KeepBut.blk hk (g' := gb304) (o := .cells #[u305000] 31 (0, 0)) (zh BK304.out) NB304_0.out (by simp)); have n3_ := Aside0.mk (KeepBut.trans (by repeat (first | (with_reducible first | exact HK.out | apply KeepBut.set_ | apply keep_drewN | apply keep_drew | apply keep_alloc | refine keep_far ?_ GW298.out _ | refine keep_far ?_ GW304.out _) | exact HK.out)) hk (.inl rfl)); have n4_ := Aside0.mk (hb); have n5_ := Aside0.mk (hi); clear HO_305000; clear BK298; clear BK304; clear HK; clear HB; clear HI0; have HO_305000 := n0_; have BK298 := n1_; have BK304 := n2_; have HK := n3_; have HB := n4_; have HI0 := n5_; clear n0_ n1_ n2_ n3_ n4_ n5_; (try clear hb); (try clear hb2); (try clear hk); (try clear hi); have hnb69 := NB304_298.out; have hnc69 := NB298_304.out; have hnb70 := NB304_0.out; have hnc70 := NB0_304.out; have hcz71_0 : w68.cell? ⟨gb304, 0, none⟩ = some (u305000) := (blk_cell BK304.out 0).trans rfl; have hfz71_0 := blk_frozen BK304.out 0; obtain ⟨Ao72, co72, eo72⟩ := Kd.R_slice HO_305000.out; subst eo72; have hnb73 := NB298_0.out; have hnc73 := NB0_298.out; have hcz74_0 : w68.cell? ⟨gb298, 0, none⟩ = some (.slice none 0 0) := (blk_cell BK298.out 0).trans rfl; have hfz74_0 := blk_frozen BK298.out 0))
    refine bodyPost_ret (results_cell_row rfl _ _ gb298 31 #[.slice Ao72 x305000_3.length co72] (0, 0) _ rfl (by (with_reducible repeat (first | refine blk_drewN ?_ _ | refine blk_drew ?_ | refine blk_alloc ?_ _)); refine blk_put (cs := #[.slice none 0 0]) ?_ 0 _ rfl; (with_reducible repeat (first | refine blk_drewN ?_ _ | refine blk_drew ?_ | refine blk_alloc ?_ _)); exact BK298.out) Try.underlying31 rfl (by kernel_rfl)) rfl ?_
    exact ⟨_, ze, zr (Kd.R_mono (Kd.R_far (p := ⟨gb298, 0, none⟩) (Kd.R_types HO_305000.out BK298.out (by decide)) (fun _ hk => hk.2) (.slice Ao72 x305000_3.length co72)) (fun _ hk => trivial)), by repeat (first | (with_reducible first | exact HI0.out | apply IsS92.alloc | apply IsS92.drewN | apply IsS92.drew | apply IsS92.set_1 | apply IsS92.set_2 | refine IsS92.far ?_ NB0_298.out _ | refine IsS92.far ?_ NB0_304.out _) | exact HI0.out), by repeat (first | (with_reducible first | exact HB.out | apply below_alloc | apply pw_below_drewN | apply below_drew1 | refine below_set ?_ (IsS92.ge HI0.out) | refine below_set ?_ GE298.out | refine below_set ?_ GE304.out) | exact HB.out), by repeat (first | (with_reducible first | exact HK.out | apply KeepBut.set_ | apply keep_drewN | apply keep_drew | apply keep_alloc | refine keep_far ?_ GW298.out _ | refine keep_far ?_ GW304.out _) | exact HK.out)⟩

/-! ### spec_l6DrawKnow: function 82 -/
mutual
def spec_l6DrawKnow.l0 : Nat → List Int → Int → Int → List Int → Int → Int → List (S67) → Option (List Int × Int × Int)
 | 0, _, _, _, _, _, _, _ => none
 | k + 1, x5, x6, x7, x1000, x1001, x1002, x346000 => if x7 < x6 then (spec_l6DrawKnow.j1 k x5 x6 x7 (decide ((x346000.length : Int) > 0)) x1000 x1001 x1002 x346000) else (spec_l6DrawKnow.j1 k x5 x6 x7 false x1000 x1001 x1002 x346000)
def spec_l6DrawKnow.j1 : Nat → List Int → Int → Int → Bool → List Int → Int → Int → List (S67) → Option (List Int × Int × Int)
 | 0, _, _, _, _, _, _, _, _ => none
 | k + 1, x5, x6, x7, x19, x1000, x1001, x1002, x346000 => if x19 = true then ((spec_l1Draw.f k x1000 x1001 x1002 (x346000.length : Int)).bind fun bt352 => ((spec_l6Put.f k x5 bt352.1).bind fun t355 => (spec_l6DrawKnow.l0 k t355 x6 (wrap64 (x7 + 1)) x1000 bt352.2.1 bt352.2.2 x346000))) else (some (x5, x1001, x1002))
end
def spec_l6DrawKnow.f (k : Nat) (s0_0 : List Int) (s0_1 : Int) (s0_2 : Int) (l1_0 : List (S67)) : Option (List Int × Int × Int) := (spec_l1Below.f s0_0 s0_1 s0_2 8).bind fun bt349 => (spec_l6DrawKnow.l0 k (([] : List Int)) bt349.1 0 s0_0 bt349.2.1 bt349.2.2 l1_0)
theorem spec_l6DrawKnow.mono_l : ∀ k, (∀ y0 y1 y2 y3 y4 y5 y6, LeO (spec_l6DrawKnow.l0 k y0 y1 y2 y3 y4 y5 y6) (spec_l6DrawKnow.l0 (k + 1) y0 y1 y2 y3 y4 y5 y6)) ∧ (∀ y0 y1 y2 y3 y4 y5 y6 y7, LeO (spec_l6DrawKnow.j1 k y0 y1 y2 y3 y4 y5 y6 y7) (spec_l6DrawKnow.j1 (k + 1) y0 y1 y2 y3 y4 y5 y6 y7))
 | 0 => ⟨fun _ _ _ _ _ _ _ r h => by simp [spec_l6DrawKnow.l0] at h, fun _ _ _ _ _ _ _ _ r h => by simp [spec_l6DrawKnow.j1] at h⟩
 | k + 1 => by
  obtain ⟨ih0, ih1⟩ := spec_l6DrawKnow.mono_l k
  refine ⟨?_, ?_⟩
  ·intro y0 y1 y2 y3 y4 y5 y6
   unfold spec_l6DrawKnow.l0
   repeat' first
   | (with_reducible exact ih0 _ _ _ _ _ _ _)
   | (with_reducible exact ih1 _ _ _ _ _ _ _ _)
   | (with_reducible exact spec_l1Draw.mono _ _ _ _ _)
   | (with_reducible exact spec_l6Put.mono _ _ _)
   | (with_reducible exact LeO.refl _)
   | (with_reducible exact LeO.none _)
   | (with_reducible refine LeO.ite ?_ ?_)
   | (with_reducible refine LeO.bind ?_ (fun _ => ?_))
   | exact ih0 _ _ _ _ _ _ _
   | exact ih1 _ _ _ _ _ _ _ _
   | exact spec_l1Draw.mono _ _ _ _ _
   | exact spec_l6Put.mono _ _ _
   | exact LeO.none _
   | refine LeO.ite ?_ ?_
   | refine LeO.bind ?_ (fun _ => ?_)
  ·intro y0 y1 y2 y3 y4 y5 y6 y7
   unfold spec_l6DrawKnow.j1
   repeat' first
   | (with_reducible exact ih0 _ _ _ _ _ _ _)
   | (with_reducible exact ih1 _ _ _ _ _ _ _ _)
   | (with_reducible exact spec_l1Draw.mono _ _ _ _ _)
   | (with_reducible exact spec_l6Put.mono _ _ _)
   | (with_reducible exact LeO.refl _)
   | (with_reducible exact LeO.none _)
   | (with_reducible refine LeO.ite ?_ ?_)
   | (with_reducible refine LeO.bind ?_ (fun _ => ?_))
   | exact ih0 _ _ _ _ _ _ _
   | exact ih1 _ _ _ _ _ _ _ _
   | exact spec_l1Draw.mono _ _ _ _ _
   | exact spec_l6Put.mono _ _ _
   | exact LeO.none _
   | refine LeO.ite ?_ ?_
   | refine LeO.bind ?_ (fun _ => ?_)
theorem spec_l6DrawKnow.mono : ∀ a0 a1 a2 a3 k, LeO (spec_l6DrawKnow.f k a0 a1 a2 a3) (spec_l6DrawKnow.f (k + 1) a0 a1 a2 a3) := by
 intro a0 a1 a2 a3 k
 obtain ⟨ih0, ih1⟩ := spec_l6DrawKnow.mono_l k
 unfold spec_l6DrawKnow.f
 repeat' first
   | (with_reducible exact ih0 _ _ _ _ _ _ _)
   | (with_reducible exact ih1 _ _ _ _ _ _ _ _)
   | (with_reducible exact spec_l1Draw.mono _ _ _ _ _)
   | (with_reducible exact spec_l6Put.mono _ _ _)
   | (with_reducible exact LeO.refl _)
   | (with_reducible exact LeO.none _)
   | (with_reducible refine LeO.ite ?_ ?_)
   | (with_reducible refine LeO.bind ?_ (fun _ => ?_))
   | exact ih0 _ _ _ _ _ _ _
   | exact ih1 _ _ _ _ _ _ _ _
   | exact spec_l1Draw.mono _ _ _ _ _
   | exact spec_l6Put.mono _ _ _
   | exact LeO.none _
   | refine LeO.ite ?_ ?_
   | refine LeO.bind ?_ (fun _ => ?_)
set_option maxHeartbeats 8000000 in
set_option maxRecDepth 100000 in
theorem spec_l6DrawKnow.calls (k : Nat) (g : Nat) (s0_0 : List Int) (s0_1 : Int) (s0_2 : Int) (A1_0 : Option Addr) (c1_0 : Nat) (l1_0 : List (S67)) (r1 : List Int) (r2 : Int) (r3 : Int) (w0 w : World) (hI : IsS92 w0 w g s0_0 s0_1 s0_2) (hB : Below w0.heap.size w0 w) (hr1_0 : ∀ W_, KeepBut w W_ g none → Kd.C k67 W_ A1_0 l1_0.length l1_0) (hc1_0 : l1_0.length ≤ c1_0) (h : spec_l6DrawKnow.f k s0_0 s0_1 s0_2 l1_0 = some (r1, r2, r3)) :
  Calls Try.prog 82 #[.pointer (some ⟨g, 0, none⟩), .agg #[.slice A1_0 l1_0.length c1_0]] w fun e w' => ∃ v0_ : Value, e = .returned (v0_) ∧ Kd.R (Kd.int .i64) 3 w' w.heap.size (fun _ => True) v0_ r1 ∧ IsS92 w0 w' g s0_0 r2 r3 ∧ Below w0.heap.size w0 w' ∧ KeepBut w w' g none := by
 have hu31 := Try.underlying31
 have HR1_0 := Aside0.mk hr1_0
 have HC1_0 := Aside0.mk hc1_0
 clear hr1_0 hc1_0
 have HI0 := Aside0.mk hI
 have HK := Aside0.mk (KeepBut.refl w g none)
 have HL := Aside0.mk hB.size
 clear hI
 have HW0 := Aside0.mk hB.size
 have HB := Aside0.mk hB
 clear hB
 have H : ((spec_l1Below.f s0_0 s0_1 s0_2 8).bind fun bt349 => (spec_l6DrawKnow.l0 k (([] : List Int)) bt349.1 0 s0_0 bt349.2.1 bt349.2.2 l1_0)) = some (r1, r2, r3) := h
 clear h
 obtain ⟨y346, hy346⟩ : ∃ y_ : List Int, y_ = (([] : List Int)) := ⟨_, rfl⟩
 replace H : ((spec_l1Below.f s0_0 s0_1 s0_2 8).bind fun bt349 => (spec_l6DrawKnow.l0 k y346 bt349.1 0 s0_0 bt349.2.1 bt349.2.2 l1_0)) = some (r1, r2, r3) := by first | (rw [hy346]; with_reducible exact H) | (have H2_ := (Option.bind_some _ _).symm.trans H; rw [hy346]; with_reducible exact H2_) | (have H2_ := (Option.bind_some _ _).symm.trans H; with_reducible exact H2_) | with_reducible exact H | (rw [hy346]; exact H) | exact H
 have Ny346 := Aside0.mk hy346
 clear hy346
 replace H := Option.bind_eq_some_iff.mp H
 obtain ⟨⟨t349, t350, t351⟩, A30, H⟩ := H
 replace H : (spec_l6DrawKnow.l0 k y346 t349 0 s0_0 t350 t351 l1_0) = some (r1, r2, r3) := H
 have A3 := Aside0.mk A30
 clear A30
 have H' := Aside0.mk H
 clear H
 go_enter Try.func82, Try.ntmps82
 go_wp2_with (first | ((with_reducible refine gate_dst (N := 3) rfl ?_); (try (refine gate_guard (by rfl) ?_; dsimp only)); refine box_event ?hg (N := 3) ?hd (cs := #[.slice A1_0 l1_0.length c1_0]) (t := 31) ?hr ?_; (case hd => rfl); (case hg => rfl); (case hr => first | (go_simp; done) | (go_simp; rfl)); intro gb345 hg w4 hbox hb; have n0_ := Aside0.mk (IsS92.below (by repeat (first | (with_reducible first | exact HI0.out | apply IsS92.alloc | apply IsS92.drewN | apply IsS92.drew | apply IsS92.set_1 | apply IsS92.set_2) | exact HI0.out)) hb); have n1_ := Aside0.mk (KeepBut.trans (by repeat (first | (with_reducible first | exact HK.out | apply KeepBut.set_ | apply keep_drewN | apply keep_drew | apply keep_alloc) | exact HK.out)) (KeepBut.of_below hb g none) (.inl rfl)); have n2_ := Aside0.mk (below_step (by repeat (first | (with_reducible first | exact HB.out | apply below_alloc | apply pw_below_drewN | apply below_drew1 | refine below_set ?_ (IsS92.ge HI0.out)) | exact HB.out)) hb); have n3_ := Aside0.mk (hbox); have n4_ := Aside0.mk ((by rw [hg]; exact (keep_size (w := w) (g := g) (row := none) (by repeat (first | (with_reducible first | exact HK.out | apply KeepBut.set_ | apply keep_drewN | apply keep_drew | apply keep_alloc) | exact HK.out))) : w.heap.size ≤ gb345)); have n5_ := Aside0.mk ((Nat.le_trans HW0.out (by rw [hg]; exact (keep_size (w := w) (g := g) (row := none) (by repeat (first | (with_reducible first | exact HK.out | apply KeepBut.set_ | apply keep_drewN | apply keep_drew | apply keep_alloc) | exact HK.out))) : w.heap.size ≤ gb345) : w0.heap.size ≤ gb345)); have n6_ := Aside0.mk ((by rw [hg]; exact Nat.ne_of_lt (IsS92.lt (show IsS92 w0 _ g s0_0 s0_1 s0_2 from by repeat (first | (with_reducible first | exact HI0.out | apply IsS92.alloc | apply IsS92.drewN | apply IsS92.drew | apply IsS92.set_1 | apply IsS92.set_2) | exact HI0.out))) : g ≠ gb345)); have n7_ := Aside0.mk ((by rw [hg]; exact Nat.ne_of_gt (IsS92.lt (show IsS92 w0 _ g s0_0 s0_1 s0_2 from by repeat (first | (with_reducible first | exact HI0.out | apply IsS92.alloc | apply IsS92.drewN | apply IsS92.drew | apply IsS92.set_1 | apply IsS92.set_2) | exact HI0.out))) : gb345 ≠ g)); clear HI0; clear HK; clear HB; have HI0 := n0_; have HK := n1_; have HB := n2_; have BK345 := n3_; have GW345 := n4_; have GE345 := n5_; have NB0_345 := n6_; have NB345_0 := n7_; clear n0_ n1_ n2_ n3_ n4_ n5_ n6_ n7_; clear hb hbox hg) | ((with_reducible refine gate_dst (N := 8) rfl ?_); (try (refine gate_guard (by rfl) ?_; dsimp only)); refine Kd.R_lit (Kd.int .i64) _ 3 ?hg (N := 8) ?hd (xs := ([] : List Int)) (inner := []) (ok := fun _ => True) (okp := fun _ => True) ?hr ?hp (fun _ hk => hk) trivial (Below.refl _ _) (Nat.le_refl _) (by simp) ?_; (case hd => rfl); (case hg => rfl); (case hr => first | (go_simp; done) | (go_simp; rfl)); (case hp => exact (Reps.none _ _)); intro v347 w5 ho6 hb hg_ hnew_; clear hg_ hnew_; (first | rw [← Ny346.out] at ho6 | (simp only [Int.reduceToNat] at ho6; rw [← Ny346.out] at ho6)); have n0_ := Aside0.mk (Kd.R_lower ho6 (keep_size (w := w) (g := g) (row := none) (by repeat (first | (with_reducible first | exact HK.out | apply KeepBut.set_ | apply keep_drewN | apply keep_drew | apply keep_alloc | refine keep_far ?_ GW345.out _) | exact HK.out)))); have n1_ := Aside0.mk (IsS92.below (by repeat (first | (with_reducible first | exact HI0.out | apply IsS92.alloc | apply IsS92.drewN | apply IsS92.drew | apply IsS92.set_1 | apply IsS92.set_2 | refine IsS92.far ?_ NB0_345.out _) | exact HI0.out)) hb); have n2_ := Aside0.mk (blk_below (zh BK345.out) hb); have n3_ := Aside0.mk (KeepBut.trans (by repeat (first | (with_reducible first | exact HK.out | apply KeepBut.set_ | apply keep_drewN | apply keep_drew | apply keep_alloc | refine keep_far ?_ GW345.out _) | exact HK.out)) (KeepBut.of_below hb g none) (.inl rfl)); have n4_ := Aside0.mk (below_step (by repeat (first | (with_reducible first | exact HB.out | apply below_alloc | apply pw_below_drewN | apply below_drew1 | refine below_set ?_ (IsS92.ge HI0.out) | refine below_set ?_ GE345.out) | exact HB.out)) hb); clear HI0; clear BK345; clear HK; clear HB; have HO348 := n0_; have HI0 := n1_; have BK345 := n2_; have HK := n3_; have HB := n4_; clear n0_ n1_ n2_ n3_ n4_; clear hb ho6) | ((with_reducible refine gate_callee (f := 79) rfl ?_); refine goesL_ (some 10) rfl rfl Try.func79 (by kernel_rfl) rfl #[.pointer (some ⟨g, 0, none⟩), .int .i64 8] rfl zl ?_; (with_reducible refine (spec_l1Below.calls g s0_0 s0_1 s0_2 8 t349 t350 t351 w0 _ ?side1 ?side2 A3.out).mono ?_); (case side1 => repeat (first | (with_reducible first | exact HI0.out | apply IsS92.alloc | apply IsS92.drewN | apply IsS92.drew | apply IsS92.set_1 | apply IsS92.set_2 | refine IsS92.far ?_ NB0_345.out _) | exact HI0.out)); (case side2 => repeat (first | (with_reducible first | exact HB.out | apply below_alloc | apply pw_below_drewN | apply below_drew1 | refine below_set ?_ (IsS92.ge HI0.out) | refine below_set ?_ GE345.out) | exact HB.out)); rintro e w7 ⟨rfl, hi, hb, hk⟩; refine ⟨_, rfl, ?_⟩; have n0_ := Aside0.mk (KeepBut.blk hk (g' := gb345) (o := .cells #[.slice A1_0 l1_0.length c1_0] 31 (0, 0)) (zh BK345.out) NB345_0.out (by simp)); have n1_ := Aside0.mk (Kd.R_mono (Kd.R_keep (IsS92.apart (show IsS92 w0 _ g s0_0 s0_1 s0_2 from by repeat (first | (with_reducible first | exact HI0.out | apply IsS92.alloc | apply IsS92.drewN | apply IsS92.drew | apply IsS92.set_1 | apply IsS92.set_2 | refine IsS92.far ?_ NB0_345.out _) | exact HI0.out)) (zr HO348.out) (by decide)) hk (fun _ h => h.2)) (fun _ h => h.1)); have n2_ := Aside0.mk (KeepBut.trans (by repeat (first | (with_reducible first | exact HK.out | apply KeepBut.set_ | apply keep_drewN | apply keep_drew | apply keep_alloc | refine keep_far ?_ GW345.out _) | exact HK.out)) hk (.inl rfl)); have n3_ := Aside0.mk (hb); have n4_ := Aside0.mk (hi); clear BK345; clear HO348; clear HK; clear HB; clear HI0; have BK345 := n0_; have HO348 := n1_; have HK := n2_; have HB := n3_; have HI0 := n4_; clear n0_ n1_ n2_ n3_ n4_; (try clear hb); (try clear hb2); (try clear hk); (try clear hi)))
 go_loopg [5, 7] k (fun kq v5 v7 w' => ∃ (x5_1 : List Int) (x7_1 : Int) (x1001_1 : Int) (x1002_1 : Int), v7 = .int .i64 x7_1 ∧ Aside0 (spec_l6DrawKnow.l0 kq x5_1 t349 x7_1 s0_0 x1001_1 x1002_1 l1_0 = some (r1, r2, r3)) ∧ Aside0 (kq ≤ k) ∧ Aside0 (Kd.R (Kd.int .i64) 3 w' w.heap.size (fun _ => True) v5 x5_1) ∧ Aside0 (w'.heap[gb345]? = some (.cells #[(.slice A1_0 l1_0.length c1_0)] 31 (0, 0))) ∧ Aside0 (IsS92 w0 w' g s0_0 x1001_1 x1002_1) ∧ Aside0 (KeepBut w w' g none) ∧ Aside0 (Below w0.heap.size w0 w'))
 case atStart => exact ⟨(y346), (0), (t350), (t351), (by first | rfl | (simp; done) | (simp [*]; done)), H', ⟨Nat.le_refl _⟩, ⟨zr HO348.out⟩, ⟨zh BK345.out⟩, ⟨by repeat (first | (with_reducible first | exact HI0.out | apply IsS92.alloc | apply IsS92.drewN | apply IsS92.drew | apply IsS92.set_1 | apply IsS92.set_2 | refine IsS92.far ?_ NB0_345.out _) | exact HI0.out)⟩, ⟨by repeat (first | (with_reducible first | exact HK.out | apply KeepBut.set_ | apply keep_drewN | apply keep_drew | apply keep_alloc | refine keep_far ?_ GW345.out _) | exact HK.out)⟩, ⟨by repeat (first | (with_reducible first | exact HB.out | apply below_alloc | apply pw_below_drewN | apply below_drew1 | refine below_set ?_ (IsS92.ge HI0.out) | refine below_set ?_ GE345.out) | exact HB.out)⟩⟩
 case round =>
  clear H'
  try clear c1
  try clear p2
  try clear c7
  obtain ⟨x5_1, x7_1, x1001_1, x1002_1, rfl, HA, HK1, HO_5, BK345, HI0, HK, HB⟩ := hrel
  cases gk with
  | zero => exact absurd HA.out (by simp [spec_l6DrawKnow.l0])
  | succ k1 =>
   have H := HA.out
   clear HA
   simp only [spec_l6DrawKnow.l0] at H
   have HC8 := Aside0.mk H
   clear H
   go_upto_region 4 with (fail)
   go_cut [19] (fun v19 wc => ∃ (kq : Nat) (x19_7 : Bool), v19 = .bool x19_7 ∧ Aside0 (spec_l6DrawKnow.j1 kq x5_1 t349 x7_1 x19_7 s0_0 x1001_1 x1002_1 l1_0 = some (r1, r2, r3)) ∧ Aside0 (kq ≤ k1) ∧ Aside0 (Kd.R (Kd.int .i64) 3 wc w.heap.size (fun _ => True) u5 x5_1) ∧ Aside0 (wc.heap[gb345]? = some (.cells #[(.slice A1_0 l1_0.length c1_0)] 31 (0, 0))) ∧ Aside0 (IsS92 w0 wc g s0_0 x1001_1 x1002_1) ∧ Aside0 (KeepBut w wc g none) ∧ Aside0 (Below w0.heap.size w0 wc))
   case first =>
    have H := HC8.out
    clear HC8
    by_cases c9 : x7_1 < t349
    ·rw [if_pos c9] at H
     have c9b0 : decide (x7_1 < t349) = true := decide_eq_true c9
     clear c9
     (first | rw [c9b0] | (simp only [i64_w, i32_w]; rw [c9b0]) | skip)
     have H' := Aside0.mk H
     clear H
     have hnb10 := NB345_0.out
     have hnc10 := NB0_345.out
     have hcz11_0 : wr.cell? ⟨gb345, 0, none⟩ = some (.slice A1_0 l1_0.length c1_0) := (blk_cell BK345.out 0).trans rfl
     have hfz11_0 := blk_frozen BK345.out 0
     go_wp2
     go_meet
     case rel => exact ⟨_, (decide ((l1_0.length : Int) > 0)), (by first | rfl | (simp; done) | (simp [*]; done)), H', ⟨by have := HK1.out; first | omega | exact Nat.le_refl _⟩, ⟨zr HO_5.out⟩, ⟨zh BK345.out⟩, ⟨by repeat (first | (with_reducible first | exact HI0.out | apply IsS92.alloc | apply IsS92.drewN | apply IsS92.drew | apply IsS92.set_1 | apply IsS92.set_2 | refine IsS92.far ?_ NB0_345.out _) | exact HI0.out)⟩, ⟨by repeat (first | (with_reducible first | exact HK.out | apply KeepBut.set_ | apply keep_drewN | apply keep_drew | apply keep_alloc | refine keep_far ?_ GW345.out _) | exact HK.out)⟩, ⟨by repeat (first | (with_reducible first | exact HB.out | apply below_alloc | apply pw_below_drewN | apply below_drew1 | refine below_set ?_ (IsS92.ge HI0.out) | refine below_set ?_ GE345.out) | exact HB.out)⟩⟩
    ·rw [if_neg c9] at H
     have c9b0 : decide (x7_1 < t349) = false := decide_eq_false c9
     clear c9
     (first | rw [c9b0] | (simp only [i64_w, i32_w]; rw [c9b0]) | skip)
     have H' := Aside0.mk H
     clear H
     go_wp2
     go_meet
     case rel => exact ⟨_, (false), (by first | rfl | (simp; done) | (simp [*]; done)), H', ⟨by have := HK1.out; first | omega | exact Nat.le_refl _⟩, ⟨zr HO_5.out⟩, ⟨zh BK345.out⟩, ⟨by repeat (first | (with_reducible first | exact HI0.out | apply IsS92.alloc | apply IsS92.drewN | apply IsS92.drew | apply IsS92.set_1 | apply IsS92.set_2 | refine IsS92.far ?_ NB0_345.out _) | exact HI0.out)⟩, ⟨by repeat (first | (with_reducible first | exact HK.out | apply KeepBut.set_ | apply keep_drewN | apply keep_drew | apply keep_alloc | refine keep_far ?_ GW345.out _) | exact HK.out)⟩, ⟨by repeat (first | (with_reducible first | exact HB.out | apply below_alloc | apply pw_below_drewN | apply below_drew1 | refine below_set ?_ (IsS92.ge HI0.out) | refine below_set ?_ GE345.out) | exact HB.out)⟩⟩
   case rest =>
    clear HC8
    try clear c1
    try clear p2
    try clear c7
    try clear c8
    try clear c9
    try clear c9b0
    try clear c10
    try clear hcz11_0
    try clear hfz11_0
    try clear p2
    obtain ⟨kq, x19_7, rfl, HA, HJ7, HO_5, BK345, HI0, HK, HB⟩ := hcut
    cases kq with
    | zero => exact absurd HA.out (by simp [spec_l6DrawKnow.j1])
    | succ kj7 =>
     have H := HA.out
     clear HA
     simp only [spec_l6DrawKnow.j1] at H
     by_cases c12 : x19_7 = true
     ·subst c12
      have H1 : ((spec_l1Draw.f kj7 s0_0 x1001_1 x1002_1 (l1_0.length : Int)).bind fun bt352 => ((spec_l6Put.f kj7 x5_1 bt352.1).bind fun t355 => (spec_l6DrawKnow.l0 kj7 t355 t349 (wrap64 (x7_1 + 1)) s0_0 bt352.2.1 bt352.2.2 l1_0))) = some (r1, r2, r3) := by rw [if_pos rfl] at H; exact H
      clear H
      have H := H1
      clear H1
      replace H := Option.bind_eq_some_iff.mp H
      obtain ⟨⟨t352, t353, t354⟩, A130, H⟩ := H
      replace H : ((spec_l6Put.f kj7 x5_1 t352).bind fun t355 => (spec_l6DrawKnow.l0 kj7 t355 t349 (wrap64 (x7_1 + 1)) s0_0 t353 t354 l1_0)) = some (r1, r2, r3) := H
      have A13 := Aside0.mk A130
      clear A130
      replace H := Option.bind_eq_some_iff.mp H
      obtain ⟨t355, A140, H⟩ := H
      replace H : (spec_l6DrawKnow.l0 kj7 t355 t349 (wrap64 (x7_1 + 1)) s0_0 t353 t354 l1_0) = some (r1, r2, r3) := H
      have A14 := Aside0.mk A140
      clear A140
      have H' := Aside0.mk H
      clear H
      have hnb15 := NB345_0.out
      have hnc15 := NB0_345.out
      have hcz16_0 : wc.cell? ⟨gb345, 0, none⟩ = some (.slice A1_0 l1_0.length c1_0) := (blk_cell BK345.out 0).trans rfl
      have hfz16_0 := blk_frozen BK345.out 0
      go_wp2_with (first | ((with_reducible refine gate_callee (f := 84) rfl ?_); refine goesL_ (some 27) rfl rfl Try.func84 (by kernel_rfl) rfl #[.pointer (some ⟨g, 0, none⟩), .int .i64 (l1_0.length : Int)] rfl zl ?_; (with_reducible refine (spec_l1Draw.calls kj7 g s0_0 x1001_1 x1002_1 (l1_0.length : Int) t352 t353 t354 w0 _ ?side1 ?side2 A13.out).mono ?_); (case side1 => repeat (first | (with_reducible first | exact HI0.out | apply IsS92.alloc | apply IsS92.drewN | apply IsS92.drew | apply IsS92.set_1 | apply IsS92.set_2 | refine IsS92.far ?_ NB0_345.out _) | exact HI0.out)); (case side2 => repeat (first | (with_reducible first | exact HB.out | apply below_alloc | apply pw_below_drewN | apply below_drew1 | refine below_set ?_ (IsS92.ge HI0.out) | refine below_set ?_ GE345.out) | exact HB.out)); rintro e w17 ⟨rfl, hi, hb, hk⟩; refine ⟨_, rfl, ?_⟩; have n0_ := Aside0.mk (Kd.R_mono (Kd.R_keep (IsS92.apart (show IsS92 w0 _ g s0_0 x1001_1 x1002_1 from by repeat (first | (with_reducible first | exact HI0.out | apply IsS92.alloc | apply IsS92.drewN | apply IsS92.drew | apply IsS92.set_1 | apply IsS92.set_2 | refine IsS92.far ?_ NB0_345.out _) | exact HI0.out)) (zr HO_5.out) (by decide)) hk (fun _ h => h.2)) (fun _ h => h.1)); have n1_ := Aside0.mk (KeepBut.blk hk (g' := gb345) (o := .cells #[.slice A1_0 l1_0.length c1_0] 31 (0, 0)) (zh BK345.out) NB345_0.out (by simp)); have n2_ := Aside0.mk (KeepBut.trans (by repeat (first | (with_reducible first | exact HK.out | apply KeepBut.set_ | apply keep_drewN | apply keep_drew | apply keep_alloc | refine keep_far ?_ GW345.out _) | exact HK.out)) hk (.inl rfl)); have n3_ := Aside0.mk (hb); have n4_ := Aside0.mk (hi); clear HO_5; clear BK345; clear HK; clear HB; clear HI0; have HO_5 := n0_; have BK345 := n1_; have HK := n2_; have HB := n3_; have HI0 := n4_; clear n0_ n1_ n2_ n3_ n4_; (try clear hb); (try clear hb2); (try clear hk); (try clear hi); obtain ⟨Ao18, co18, eo18⟩ := Kd.R_slice HO_5.out; subst eo18) | ((with_reducible refine gate_callee (f := 36) rfl ?_); refine goesL_ (some 28) rfl rfl Try.func36 (by kernel_rfl) rfl #[.slice Ao18 x5_1.length co18, .int .i64 t352] rfl zl ?_; (with_reducible refine (spec_l6Put.calls kj7 _ _ x5_1 t352 t355 _ ?side1 ?side2 A14.out).mono ?_); (case side1 => exact zc (Kd.R_reads' HO_5.out).2.2); (case side2 => exact (Kd.R_reads' HO_5.out).2.1); rintro e w19 ⟨v356, rfl, ho0, hb⟩; refine ⟨_, rfl, ?_⟩; have n0_ := Aside0.mk (Kd.R_elder' (zr HO_5.out) (Kd.R_base ho0) hb); have n1_ := Aside0.mk (Kd.R_lower (Kd.R_new' ho0 (Kd.R_lt (zr HO_5.out))) (keep_size (w := w) (g := g) (row := none) (by repeat (first | (with_reducible first | exact HK.out | apply KeepBut.set_ | apply keep_drewN | apply keep_drew | apply keep_alloc | refine keep_far ?_ GW345.out _) | exact HK.out)))); have n2_ := Aside0.mk (blk_below (zh BK345.out) hb); have n3_ := Aside0.mk (IsS92.below (by repeat (first | (with_reducible first | exact HI0.out | apply IsS92.alloc | apply IsS92.drewN | apply IsS92.drew | apply IsS92.set_1 | apply IsS92.set_2 | refine IsS92.far ?_ NB0_345.out _) | exact HI0.out)) hb); have n4_ := Aside0.mk (KeepBut.trans (by repeat (first | (with_reducible first | exact HK.out | apply KeepBut.set_ | apply keep_drewN | apply keep_drew | apply keep_alloc | refine keep_far ?_ GW345.out _) | exact HK.out)) (KeepBut.of_below hb g none) (.inl rfl)); have n5_ := Aside0.mk (below_step (by repeat (first | (with_reducible first | exact HB.out | apply below_alloc | apply pw_below_drewN | apply below_drew1 | refine below_set ?_ (IsS92.ge HI0.out) | refine below_set ?_ GE345.out) | exact HB.out)) hb); clear HO_5; clear BK345; clear HI0; clear HK; clear HB; have HO_5 := n0_; have HO357 := n1_; have BK345 := n2_; have HI0 := n3_; have HK := n4_; have HB := n5_; clear n0_ n1_ n2_ n3_ n4_ n5_; (try clear hb); (try clear hb2); (try clear hk); (try clear hi); (try clear ho0)))
      go_roundg kj7
      case measure => have := HK1.out; have := HJ7.out; omega
      case rel => exact ⟨(t355), (wrap64 (x7_1 + 1)), (t353), (t354), (by first | rfl | (simp; done) | (simp [*]; done)), H', ⟨by have := HK1.out; have := HJ7.out; omega⟩, ⟨zr (Kd.R_mono HO357.out (fun _ hk => trivial))⟩, ⟨zh BK345.out⟩, ⟨by repeat (first | (with_reducible first | exact HI0.out | apply IsS92.alloc | apply IsS92.drewN | apply IsS92.drew | apply IsS92.set_1 | apply IsS92.set_2 | refine IsS92.far ?_ NB0_345.out _) | exact HI0.out)⟩, ⟨by repeat (first | (with_reducible first | exact HK.out | apply KeepBut.set_ | apply keep_drewN | apply keep_drew | apply keep_alloc | refine keep_far ?_ GW345.out _) | exact HK.out)⟩, ⟨by repeat (first | (with_reducible first | exact HB.out | apply below_alloc | apply pw_below_drewN | apply below_drew1 | refine below_set ?_ (IsS92.ge HI0.out) | refine below_set ?_ GE345.out) | exact HB.out)⟩⟩
     ·replace c12 := Bool.eq_false_iff.mpr c12
      subst c12
      have H1 : (some (x5_1, x1001_1, x1002_1)) = some (r1, r2, r3) := by rw [if_neg (show ¬ (false = true) by decide)] at H; exact H
      clear H
      have H := H1
      clear H1
      simp only [Option.some.injEq, Prod.mk.injEq] at H
      obtain ⟨rfl, rfl, rfl⟩ := H
      go_wp2
      go_ret
      exact ⟨_, ze, zr HO_5.out, by repeat (first | (with_reducible first | exact HI0.out | apply IsS92.alloc | apply IsS92.drewN | apply IsS92.drew | apply IsS92.set_1 | apply IsS92.set_2 | refine IsS92.far ?_ NB0_345.out _) | exact HI0.out), by repeat (first | (with_reducible first | exact HB.out | apply below_alloc | apply pw_below_drewN | apply below_drew1 | refine below_set ?_ (IsS92.ge HI0.out) | refine below_set ?_ GE345.out) | exact HB.out), by repeat (first | (with_reducible first | exact HK.out | apply KeepBut.set_ | apply keep_drewN | apply keep_drew | apply keep_alloc | refine keep_far ?_ GW345.out _) | exact HK.out)⟩

end Go.Proofs.Ytilnfdnigjblcaa.N
end
