-- Written by this session's program (wip/tools/gprint.py over the kit's print) out of the translation; Lean checks it.
import Derived.Test.YtpgaifjneedjoaaB0
import Derived.Test.YtpgaifjneedjoaaB2
import Derived.Test.YtpgaifjneedjoaaB5
import Derived.Test.YtpgaifjneedjoaaB10
import Derived.Test.YtpgaifjneedjoaaB11
import Derived.Test.YtpgaifjneedjoaaB17
namespace Go.Proofs.Ytpgaifjneedjoaa.B
open Go.RowKit Go.Proofs.YtpgaifjneedjoaaW.PrintWords Go.Proofs.YtpgaifjneedjoaaW.PrintLast Go.Proofs.YtpgaifjneedjoaaW.PrintMore
attribute [local go_sem] max2_int min2_int max_two min_two max_three min_three max_four min_four   -- for this text's walks alone
set_option linter.unusedVariables false
set_option linter.unusedSimpArgs false
set_option maxRecDepth 100000

/-! ### laws_FnExactMakePower: function 6 -/
mutual
def laws_FnExactMakePower.j0 : Nat → Int → Int → Int → Bool → List (S74) → List (S49) → List (S49) → List (S49) → Option (Bool)
 | 0, _, _, _, _, _, _, _, _ => none
 | k + 1, x1, x7, x10, x44, x369000, x378000, x382000, x387000 => if x44 = true then (some false) else ((laws_toPool.f k x369000).bind fun t388 => ((laws_eqPool.f k x382000 t388).bind fun t391 => (if t391 = true then ((laws_markPool.f k x382000 1).bind fun bt392 => (if bt392.1 < 0 then (laws_FnExactMakePower.j1 k x1 x7 true x369000 x378000 x387000) else ((laws_eqPool.f k x387000 x378000).bind fun t394 => (if t394 = true then (laws_FnExactMakePower.j1 k x1 x7 (x10 != x7) x369000 x378000 x387000) else (laws_FnExactMakePower.j1 k x1 x7 true x369000 x378000 x387000))))) else (some false))))
def laws_FnExactMakePower.j1 : Nat → Int → Int → Bool → List (S74) → List (S49) → List (S49) → Option (Bool)
 | 0, _, _, _, _, _, _ => none
 | k + 1, x1, x7, x65, x369000, x378000, x387000 => if x65 = true then (some false) else ((laws_markPool.f k x387000 1).bind fun bt395 => ((laws_heldPool.f k bt395.2 1).bind fun t397 => (if t397 < 0 then (some false) else (if t397 = bt395.1 then ((laws_toPool.f k x369000).bind fun t398 => ((impl_MakePower.f k t398 x1).bind fun bt401 => ((laws_eqPool.f k bt401.1 x378000).bind fun t406 => (if t406 = true then (laws_FnExactMakePower.j2 k bt395.1 (bt401.2 != x7) bt395.2) else (laws_FnExactMakePower.j2 k bt395.1 true bt395.2))))) else (some false)))))
def laws_FnExactMakePower.j2 : Nat → Int → Bool → List (S49) → Option (Bool)
 | 0, _, _, _ => none
 | k + 1, x12, x92, x387000 => if x92 = true then (some false) else ((laws_heldPool.f k x387000 1).bind fun t407 => (if t407 < 0 then (some false) else (if t407 = x12 then (some true) else (some false))))
end
def laws_FnExactMakePower.f (k : Nat) (l0_0 : List (S74)) (a1 : Int) : Option (Bool) := (laws_szPool.f l0_0 1048576).bind fun t369 => (if t369 < 0 then (some true) else ((laws_toPool.f k l0_0).bind fun t370 => ((spec_MakePower.f k t370 a1).bind fun bt373 => ((laws_toPool.f k l0_0).bind fun t378 => ((impl_MakePower.f k t378 a1).bind fun bt382 => ((laws_eqPool.f k bt382.1 bt373.1).bind fun t387 => (if t387 = true then (laws_FnExactMakePower.j0 k a1 bt373.2 bt382.2 (bt382.2 != bt373.2) l0_0 bt373.1 t378 bt382.1) else (laws_FnExactMakePower.j0 k a1 bt373.2 bt382.2 true l0_0 bt373.1 t378 bt382.1))))))))
theorem laws_FnExactMakePower.mono_l : ∀ k, (∀ y0 y1 y2 y3 y4 y5 y6 y7, LeO (laws_FnExactMakePower.j0 k y0 y1 y2 y3 y4 y5 y6 y7) (laws_FnExactMakePower.j0 (k + 1) y0 y1 y2 y3 y4 y5 y6 y7)) ∧ (∀ y0 y1 y2 y3 y4 y5, LeO (laws_FnExactMakePower.j1 k y0 y1 y2 y3 y4 y5) (laws_FnExactMakePower.j1 (k + 1) y0 y1 y2 y3 y4 y5)) ∧ (∀ y0 y1 y2, LeO (laws_FnExactMakePower.j2 k y0 y1 y2) (laws_FnExactMakePower.j2 (k + 1) y0 y1 y2))
 | 0 => ⟨fun _ _ _ _ _ _ _ _ r h => by simp [laws_FnExactMakePower.j0] at h, fun _ _ _ _ _ _ r h => by simp [laws_FnExactMakePower.j1] at h, fun _ _ _ r h => by simp [laws_FnExactMakePower.j2] at h⟩
 | k + 1 => by
  obtain ⟨ih0, ih1, ih2⟩ := laws_FnExactMakePower.mono_l k
  refine ⟨?_, ?_, ?_⟩
  ·intro y0 y1 y2 y3 y4 y5 y6 y7
   unfold laws_FnExactMakePower.j0
   repeat' first
   | (with_reducible exact ih0 _ _ _ _ _ _ _ _)
   | (with_reducible exact ih1 _ _ _ _ _ _)
   | (with_reducible exact ih2 _ _ _)
   | (with_reducible exact impl_MakePower.mono _ _ _)
   | (with_reducible exact laws_eqPool.mono _ _ _)
   | (with_reducible exact laws_heldPool.mono _ _ _)
   | (with_reducible exact laws_markPool.mono _ _ _)
   | (with_reducible exact laws_toPool.mono _ _)
   | (with_reducible exact spec_MakePower.mono _ _ _)
   | (with_reducible exact LeO.refl _)
   | (with_reducible exact LeO.none _)
   | (with_reducible refine LeO.ite ?_ ?_)
   | (with_reducible refine LeO.bind ?_ (fun _ => ?_))
   | exact ih0 _ _ _ _ _ _ _ _
   | exact ih1 _ _ _ _ _ _
   | exact ih2 _ _ _
   | exact impl_MakePower.mono _ _ _
   | exact laws_eqPool.mono _ _ _
   | exact laws_heldPool.mono _ _ _
   | exact laws_markPool.mono _ _ _
   | exact laws_toPool.mono _ _
   | exact spec_MakePower.mono _ _ _
   | exact LeO.none _
   | refine LeO.ite ?_ ?_
   | refine LeO.bind ?_ (fun _ => ?_)
  ·intro y0 y1 y2 y3 y4 y5
   unfold laws_FnExactMakePower.j1
   repeat' first
   | (with_reducible exact ih0 _ _ _ _ _ _ _ _)
   | (with_reducible exact ih1 _ _ _ _ _ _)
   | (with_reducible exact ih2 _ _ _)
   | (with_reducible exact impl_MakePower.mono _ _ _)
   | (with_reducible exact laws_eqPool.mono _ _ _)
   | (with_reducible exact laws_heldPool.mono _ _ _)
   | (with_reducible exact laws_markPool.mono _ _ _)
   | (with_reducible exact laws_toPool.mono _ _)
   | (with_reducible exact spec_MakePower.mono _ _ _)
   | (with_reducible exact LeO.refl _)
   | (with_reducible exact LeO.none _)
   | (with_reducible refine LeO.ite ?_ ?_)
   | (with_reducible refine LeO.bind ?_ (fun _ => ?_))
   | exact ih0 _ _ _ _ _ _ _ _
   | exact ih1 _ _ _ _ _ _
   | exact ih2 _ _ _
   | exact impl_MakePower.mono _ _ _
   | exact laws_eqPool.mono _ _ _
   | exact laws_heldPool.mono _ _ _
   | exact laws_markPool.mono _ _ _
   | exact laws_toPool.mono _ _
   | exact spec_MakePower.mono _ _ _
   | exact LeO.none _
   | refine LeO.ite ?_ ?_
   | refine LeO.bind ?_ (fun _ => ?_)
  ·intro y0 y1 y2
   unfold laws_FnExactMakePower.j2
   repeat' first
   | (with_reducible exact ih0 _ _ _ _ _ _ _ _)
   | (with_reducible exact ih1 _ _ _ _ _ _)
   | (with_reducible exact ih2 _ _ _)
   | (with_reducible exact impl_MakePower.mono _ _ _)
   | (with_reducible exact laws_eqPool.mono _ _ _)
   | (with_reducible exact laws_heldPool.mono _ _ _)
   | (with_reducible exact laws_markPool.mono _ _ _)
   | (with_reducible exact laws_toPool.mono _ _)
   | (with_reducible exact spec_MakePower.mono _ _ _)
   | (with_reducible exact LeO.refl _)
   | (with_reducible exact LeO.none _)
   | (with_reducible refine LeO.ite ?_ ?_)
   | (with_reducible refine LeO.bind ?_ (fun _ => ?_))
   | exact ih0 _ _ _ _ _ _ _ _
   | exact ih1 _ _ _ _ _ _
   | exact ih2 _ _ _
   | exact impl_MakePower.mono _ _ _
   | exact laws_eqPool.mono _ _ _
   | exact laws_heldPool.mono _ _ _
   | exact laws_markPool.mono _ _ _
   | exact laws_toPool.mono _ _
   | exact spec_MakePower.mono _ _ _
   | exact LeO.none _
   | refine LeO.ite ?_ ?_
   | refine LeO.bind ?_ (fun _ => ?_)
theorem laws_FnExactMakePower.mono : ∀ a0 a1 k, LeO (laws_FnExactMakePower.f k a0 a1) (laws_FnExactMakePower.f (k + 1) a0 a1) := by
 intro a0 a1 k
 obtain ⟨ih0, ih1, ih2⟩ := laws_FnExactMakePower.mono_l k
 unfold laws_FnExactMakePower.f
 repeat' first
   | (with_reducible exact ih0 _ _ _ _ _ _ _ _)
   | (with_reducible exact ih1 _ _ _ _ _ _)
   | (with_reducible exact ih2 _ _ _)
   | (with_reducible exact impl_MakePower.mono _ _ _)
   | (with_reducible exact laws_eqPool.mono _ _ _)
   | (with_reducible exact laws_heldPool.mono _ _ _)
   | (with_reducible exact laws_markPool.mono _ _ _)
   | (with_reducible exact laws_toPool.mono _ _)
   | (with_reducible exact spec_MakePower.mono _ _ _)
   | (with_reducible exact LeO.refl _)
   | (with_reducible exact LeO.none _)
   | (with_reducible refine LeO.ite ?_ ?_)
   | (with_reducible refine LeO.bind ?_ (fun _ => ?_))
   | exact ih0 _ _ _ _ _ _ _ _
   | exact ih1 _ _ _ _ _ _
   | exact ih2 _ _ _
   | exact impl_MakePower.mono _ _ _
   | exact laws_eqPool.mono _ _ _
   | exact laws_heldPool.mono _ _ _
   | exact laws_markPool.mono _ _ _
   | exact laws_toPool.mono _ _
   | exact spec_MakePower.mono _ _ _
   | exact LeO.none _
   | refine LeO.ite ?_ ?_
   | refine LeO.bind ?_ (fun _ => ?_)
set_option maxHeartbeats 8000000 in
set_option maxRecDepth 100000 in
theorem laws_FnExactMakePower.calls (k : Nat) (A0_0 : Option Addr) (c0_0 : Nat) (l0_0 : List (S74)) (a1 : Int) (r : Bool) (w : World) (hr0_0 : Kd.C k74 w A0_0 l0_0.length l0_0) (hc0_0 : l0_0.length ≤ c0_0) (h : laws_FnExactMakePower.f k l0_0 a1 = some r) :
  Calls Try.prog 6 #[.agg #[.slice A0_0 l0_0.length c0_0], .int .i64 a1] w fun e w' => e = .returned (.bool r) ∧ Below w.heap.size w w' := by
 have hu24 := Try.underlying24
 have hu28 := Try.underlying28
 have HR0_0 := Aside0.mk hr0_0
 have HC0_0 := Aside0.mk hc0_0
 clear hr0_0 hc0_0
 have HB := Aside0.mk (Below.refl w.heap.size w)
 have H : ((laws_szPool.f l0_0 1048576).bind fun t369 => (if t369 < 0 then (some true) else ((laws_toPool.f k l0_0).bind fun t370 => ((spec_MakePower.f k t370 a1).bind fun bt373 => ((laws_toPool.f k l0_0).bind fun t378 => ((impl_MakePower.f k t378 a1).bind fun bt382 => ((laws_eqPool.f k bt382.1 bt373.1).bind fun t387 => (if t387 = true then (laws_FnExactMakePower.j0 k a1 bt373.2 bt382.2 (bt382.2 != bt373.2) l0_0 bt373.1 t378 bt382.1) else (laws_FnExactMakePower.j0 k a1 bt373.2 bt382.2 true l0_0 bt373.1 t378 bt382.1))))))))) = some r := h
 clear h
 replace H := Option.bind_eq_some_iff.mp H
 obtain ⟨t369, A30, H⟩ := H
 replace H : (if t369 < 0 then (some true) else ((laws_toPool.f k l0_0).bind fun t370 => ((spec_MakePower.f k t370 a1).bind fun bt373 => ((laws_toPool.f k l0_0).bind fun t378 => ((impl_MakePower.f k t378 a1).bind fun bt382 => ((laws_eqPool.f k bt382.1 bt373.1).bind fun t387 => (if t387 = true then (laws_FnExactMakePower.j0 k a1 bt373.2 bt382.2 (bt382.2 != bt373.2) l0_0 bt373.1 t378 bt382.1) else (laws_FnExactMakePower.j0 k a1 bt373.2 bt382.2 true l0_0 bt373.1 t378 bt382.1)))))))) = some r := H
 have A3 := Aside0.mk A30
 clear A30
 by_cases c4 : t369 < 0
 ·rw [if_pos c4] at H
  have c4b0 : decide (t369 < 0) = true := decide_eq_true c4
  clear c4
  obtain rfl := Option.some.inj H
  go_enter Try.func6, Try.ntmps6
  go_wp2_with (first | ((with_reducible refine gate_dst (N := 2) rfl ?_); refine box_event ?hg (N := 2) ?hd (cs := #[.slice A0_0 l0_0.length c0_0]) (t := 24) ?hr ?_; (case hd => rfl); (case hg => rfl); (case hr => first | (go_simp; done) | (go_simp; rfl)); intro gb368 hg w5 hbox hb; have n0_ := Aside0.mk (below_step (zb HB.out) hb); have n1_ := Aside0.mk (hbox); have n2_ := Aside0.mk ((by rw [hg]; exact (below_size (zb HB.out)) : w.heap.size ≤ gb368)); have n3_ := Aside0.mk ((by rw [hg]; exact (below_size (zb HB.out)) : w.heap.size ≤ gb368)); clear HB; have HB := n0_; have BK368 := n1_; have GW368 := n2_; have GE368 := n3_; clear n0_ n1_ n2_ n3_; clear hb hbox hg; have hcz6_0 : w5.cell? ⟨gb368, 0, none⟩ = some (.slice A0_0 l0_0.length c0_0) := (blk_cell BK368.out 0).trans rfl; have hfz6_0 := blk_frozen BK368.out 0) | ((with_reducible refine gate_callee (f := 13) rfl ?_); refine goesL_ (some 18) rfl rfl Try.func13 (by kernel_rfl) rfl #[.agg #[.slice A0_0 l0_0.length c0_0], .int .i64 1048576] rfl zl ?_; (with_reducible refine (laws_szPool.calls _ _ l0_0 1048576 t369 _ ?side1 ?side2 A3.out).mono ?_); (case side1 => exact zc (Kd.C_below HR0_0.out HB.out)); (case side2 => exact HC0_0.out); rintro e w7 ⟨rfl, hb⟩; refine ⟨_, rfl, ?_⟩; have n0_ := Aside0.mk (blk_below (zh BK368.out) hb); have n1_ := Aside0.mk (below_step (zb HB.out) hb); clear BK368; clear HB; have BK368 := n0_; have HB := n1_; clear n0_ n1_; (try clear hb); (try clear hb2); (try clear hk); (try clear hi)))
  go_ret
  exact ⟨ze, zb HB.out⟩
 ·rw [if_neg c4] at H
  have c4b0 : decide (t369 < 0) = false := decide_eq_false c4
  clear c4
  replace H := Option.bind_eq_some_iff.mp H
  obtain ⟨t370, A80, H⟩ := H
  replace H : ((spec_MakePower.f k t370 a1).bind fun bt373 => ((laws_toPool.f k l0_0).bind fun t378 => ((impl_MakePower.f k t378 a1).bind fun bt382 => ((laws_eqPool.f k bt382.1 bt373.1).bind fun t387 => (if t387 = true then (laws_FnExactMakePower.j0 k a1 bt373.2 bt382.2 (bt382.2 != bt373.2) l0_0 bt373.1 t378 bt382.1) else (laws_FnExactMakePower.j0 k a1 bt373.2 bt382.2 true l0_0 bt373.1 t378 bt382.1)))))) = some r := H
  have A8 := Aside0.mk A80
  clear A80
  replace H := Option.bind_eq_some_iff.mp H
  obtain ⟨⟨t373, t376⟩, A90, H⟩ := H
  replace H : ((laws_toPool.f k l0_0).bind fun t378 => ((impl_MakePower.f k t378 a1).bind fun bt382 => ((laws_eqPool.f k bt382.1 t373).bind fun t387 => (if t387 = true then (laws_FnExactMakePower.j0 k a1 t376 bt382.2 (bt382.2 != t376) l0_0 t373 t378 bt382.1) else (laws_FnExactMakePower.j0 k a1 t376 bt382.2 true l0_0 t373 t378 bt382.1))))) = some r := H
  have A9 := Aside0.mk A90
  clear A90
  replace H := Option.bind_eq_some_iff.mp H
  obtain ⟨t378, A100, H⟩ := H
  replace H : ((impl_MakePower.f k t378 a1).bind fun bt382 => ((laws_eqPool.f k bt382.1 t373).bind fun t387 => (if t387 = true then (laws_FnExactMakePower.j0 k a1 t376 bt382.2 (bt382.2 != t376) l0_0 t373 t378 bt382.1) else (laws_FnExactMakePower.j0 k a1 t376 bt382.2 true l0_0 t373 t378 bt382.1)))) = some r := H
  have A10 := Aside0.mk A100
  clear A100
  replace H := Option.bind_eq_some_iff.mp H
  obtain ⟨⟨t382, t385⟩, A110, H⟩ := H
  replace H : ((laws_eqPool.f k t382 t373).bind fun t387 => (if t387 = true then (laws_FnExactMakePower.j0 k a1 t376 t385 (t385 != t376) l0_0 t373 t378 t382) else (laws_FnExactMakePower.j0 k a1 t376 t385 true l0_0 t373 t378 t382))) = some r := H
  have A11 := Aside0.mk A110
  clear A110
  have HC12 := Aside0.mk H
  clear H
  go_enter Try.func6, Try.ntmps6
  go_upto_region 8 with (first | ((with_reducible refine gate_dst (N := 2) rfl ?_); refine box_event ?hg (N := 2) ?hd (cs := #[.slice A0_0 l0_0.length c0_0]) (t := 24) ?hr ?_; (case hd => rfl); (case hg => rfl); (case hr => first | (go_simp; done) | (go_simp; rfl)); intro gb368 hg w13 hbox hb; have n0_ := Aside0.mk (below_step (zb HB.out) hb); have n1_ := Aside0.mk (hbox); have n2_ := Aside0.mk ((by rw [hg]; exact (below_size (zb HB.out)) : w.heap.size ≤ gb368)); have n3_ := Aside0.mk ((by rw [hg]; exact (below_size (zb HB.out)) : w.heap.size ≤ gb368)); clear HB; have HB := n0_; have BK368 := n1_; have GW368 := n2_; have GE368 := n3_; clear n0_ n1_ n2_ n3_; clear hb hbox hg; have hcz14_0 : w13.cell? ⟨gb368, 0, none⟩ = some (.slice A0_0 l0_0.length c0_0) := (blk_cell BK368.out 0).trans rfl; have hfz14_0 := blk_frozen BK368.out 0) | ((with_reducible refine gate_callee (f := 13) rfl ?_); refine goesL_ (some 18) rfl rfl Try.func13 (by kernel_rfl) rfl #[.agg #[.slice A0_0 l0_0.length c0_0], .int .i64 1048576] rfl zl ?_; (with_reducible refine (laws_szPool.calls _ _ l0_0 1048576 t369 _ ?side1 ?side2 A3.out).mono ?_); (case side1 => exact zc (Kd.C_below HR0_0.out HB.out)); (case side2 => exact HC0_0.out); rintro e w15 ⟨rfl, hb⟩; refine ⟨_, rfl, ?_⟩; have n0_ := Aside0.mk (blk_below (zh BK368.out) hb); have n1_ := Aside0.mk (below_step (zb HB.out) hb); clear BK368; clear HB; have BK368 := n0_; have HB := n1_; clear n0_ n1_; (try clear hb); (try clear hb2); (try clear hk); (try clear hi); have hcz16_0 : w15.cell? ⟨gb368, 0, none⟩ = some (.slice A0_0 l0_0.length c0_0) := (blk_cell BK368.out 0).trans rfl; have hfz16_0 := blk_frozen BK368.out 0) | ((with_reducible refine gate_callee (f := 15) rfl ?_); refine goesL_ (some 23) rfl rfl Try.func15 (by kernel_rfl) rfl #[.agg #[.slice A0_0 l0_0.length c0_0]] rfl zl ?_; (with_reducible refine (laws_toPool.calls k _ _ l0_0 t370 _ ?side1 ?side2 A8.out).mono ?_); (case side1 => exact zc (Kd.C_below HR0_0.out HB.out)); (case side2 => exact HC0_0.out); rintro e w17 ⟨v371, rfl, ho0, hb⟩; refine ⟨_, rfl, ?_⟩; have n0_ := Aside0.mk (Kd.R_lower ho0 (below_size (zb HB.out))); have n1_ := Aside0.mk (blk_below (zh BK368.out) hb); have n2_ := Aside0.mk (below_step (zb HB.out) hb); clear BK368; clear HB; have HO372 := n0_; have BK368 := n1_; have HB := n2_; clear n0_ n1_ n2_; (try clear hb); (try clear hb2); (try clear hk); (try clear hi); (try clear ho0); obtain ⟨Ao18, co18, eo18⟩ := Kd.R_slice HO372.out; subst eo18) | ((with_reducible refine gate_callee (f := 24) rfl ?_); refine goesL_ (some 25) rfl rfl Try.func24 (by kernel_rfl) rfl #[.agg #[.slice Ao18 t370.length co18], .int .i64 a1] rfl zl ?_; (with_reducible refine (spec_MakePower.calls k (fun k_ => some k_ = (.slice Ao18 t370.length co18 : Value).ownBlock) (.slice Ao18 t370.length co18) t370 a1 t373 t376 w _ ?side1 ?side2 A9.out).mono ?_); (case side1 => repeat (first | (with_reducible first | exact HB.out | apply below_alloc | apply pw_below_drewN | apply below_drew1 | refine below_set ?_ GE368.out) | exact HB.out)); (case side2 => exact Kd.R_tight rfl HO372.out); rintro e w19 ⟨v374, rfl, ho0, hb, hkp⟩; refine ⟨_, rfl, ?_⟩; have n0_ := Aside0.mk (blk_kept (zh BK368.out) hkp (fun hs_ => (fun e_ => (Kd.R_ne HO372.out BK368.out (by decide)) e_) hs_)); have n1_ := Aside0.mk (Kd.R_mono (ok' := fun k_ => True) ho0 (fun k_ hk_ => trivial)); have n2_ := Aside0.mk (hb); clear BK368; clear HB; clear HO372; have BK368 := n0_; have HO375 := n1_; have HB := n2_; clear n0_ n1_ n2_; (try clear hb); (try clear hkp); (try clear ho0)) | ((with_reducible refine gate_dst (N := 6) rfl ?_); refine box_event ?hg (N := 6) ?hd (cs := #[.slice none 0 0]) (t := 28) ?hr ?_; (case hd => rfl); (case hg => rfl); (case hr => first | (go_simp; done) | (go_simp; rfl)); intro gb377 hg w20 hbox hb; have n0_ := Aside0.mk (Kd.R_below (zr HO375.out) hb); have n1_ := Aside0.mk (blk_below (zh BK368.out) hb); have n2_ := Aside0.mk (below_step (zb HB.out) hb); have n3_ := Aside0.mk (hbox); have n4_ := Aside0.mk ((by rw [hg]; exact (below_size (zb HB.out)) : w.heap.size ≤ gb377)); have n5_ := Aside0.mk ((by rw [hg]; exact (below_size (zb HB.out)) : w.heap.size ≤ gb377)); have n6_ := Aside0.mk ((by rw [hg]; exact Nat.ne_of_lt (blk_lt (zh BK368.out)) : gb368 ≠ gb377)); have n7_ := Aside0.mk ((by rw [hg]; exact Nat.ne_of_gt (blk_lt (zh BK368.out)) : gb377 ≠ gb368)); clear HO375; clear BK368; clear HB; have HO375 := n0_; have BK368 := n1_; have HB := n2_; have BK377 := n3_; have GW377 := n4_; have GE377 := n5_; have NB368_377 := n6_; have NB377_368 := n7_; clear n0_ n1_ n2_ n3_ n4_ n5_ n6_ n7_; clear hb hbox hg; obtain ⟨Ao21, co21, eo21⟩ := Kd.R_slice HO375.out; subst eo21; have hnb22 := NB377_368.out; have hnc22 := NB368_377.out; have hcz23_0 : w20.cell? ⟨gb377, 0, none⟩ = some (.slice none 0 0) := (blk_cell BK377.out 0).trans rfl; have hfz23_0 := blk_frozen BK377.out 0; have hcz24_0 : w20.cell? ⟨gb368, 0, none⟩ = some (.slice A0_0 l0_0.length c0_0) := (blk_cell BK368.out 0).trans rfl; have hfz24_0 := blk_frozen BK368.out 0) | ((with_reducible refine gate_callee (f := 15) rfl ?_); refine goesL_ (some 29) rfl rfl Try.func15 (by kernel_rfl) rfl #[.agg #[.slice A0_0 l0_0.length c0_0]] rfl zl ?_; (with_reducible refine (laws_toPool.calls k _ _ l0_0 t378 _ ?side1 ?side2 A10.out).mono ?_); (case side1 => exact Kd.C_below HR0_0.out (zb HB.out)); (case side2 => exact HC0_0.out); rintro e w25 ⟨v379, rfl, ho0, hb⟩; refine ⟨_, rfl, ?_⟩; have n0_ := Aside0.mk (Kd.R_elder' (by (with_reducible repeat (first | apply Kd.R_alloc | apply Kd.R_drewN | apply Kd.R_drew)); exact (Kd.R_mono (Kd.R_far (p := ⟨gb377, 0, none⟩) (Kd.R_types HO375.out BK377.out (by decide)) (fun _ hk => hk.2) (.slice Ao21 t373.length co21)) (fun _ h_ => h_.1))) (Kd.R_base ho0) hb); have n1_ := Aside0.mk (Kd.R_lower (Kd.R_new' ho0 (Kd.R_lt (by (with_reducible repeat (first | apply Kd.R_alloc | apply Kd.R_drewN | apply Kd.R_drew)); exact (Kd.R_mono (Kd.R_far (p := ⟨gb377, 0, none⟩) (Kd.R_types HO375.out BK377.out (by decide)) (fun _ hk => hk.2) (.slice Ao21 t373.length co21)) (fun _ h_ => h_.1))))) (below_size (zb HB.out))); have n2_ := Aside0.mk (blk_below (g := gb368) (o := .cells #[.slice A0_0 l0_0.length c0_0] 24 (0, 0)) (zf BK368.out) hb); have n3_ := Aside0.mk (blk_below (g := gb377) (o := .cells #[.slice Ao21 t373.length co21] 28 (0, 0)) (by (with_reducible repeat (first | refine blk_drewN ?_ _ | refine blk_drew ?_ | refine blk_alloc ?_ _)); refine blk_put (cs := #[.slice none 0 0]) ?_ 0 _ rfl; (with_reducible repeat (first | refine blk_drewN ?_ _ | refine blk_drew ?_ | refine blk_alloc ?_ _)); exact BK377.out) hb); have n4_ := Aside0.mk (below_step (zb HB.out) hb); clear HO375; clear BK368; clear BK377; clear HB; have HO375 := n0_; have HO380 := n1_; have BK368 := n2_; have BK377 := n3_; have HB := n4_; clear n0_ n1_ n2_ n3_ n4_; (try clear hb); (try clear hb2); (try clear hk); (try clear hi); (try clear ho0)) | ((with_reducible refine gate_dst (N := 8) rfl ?_); refine box_event ?hg (N := 8) ?hd (cs := #[.slice none 0 0]) (t := 28) ?hr ?_; (case hd => rfl); (case hg => rfl); (case hr => first | (go_simp; done) | (go_simp; rfl)); intro gb381 hg w26 hbox hb; have n0_ := Aside0.mk (Kd.R_below (zr HO375.out) hb); have n1_ := Aside0.mk (Kd.R_below (zr HO380.out) hb); have n2_ := Aside0.mk (blk_below (zh BK368.out) hb); have n3_ := Aside0.mk (blk_below (zh BK377.out) hb); have n4_ := Aside0.mk (below_step (zb HB.out) hb); have n5_ := Aside0.mk (hbox); have n6_ := Aside0.mk ((by rw [hg]; exact (below_size (zb HB.out)) : w.heap.size ≤ gb381)); have n7_ := Aside0.mk ((by rw [hg]; exact (below_size (zb HB.out)) : w.heap.size ≤ gb381)); have n8_ := Aside0.mk ((by rw [hg]; exact Nat.ne_of_lt (blk_lt (zh BK368.out)) : gb368 ≠ gb381)); have n9_ := Aside0.mk ((by rw [hg]; exact Nat.ne_of_gt (blk_lt (zh BK368.out)) : gb381 ≠ gb368)); have n10_ := Aside0.mk ((by rw [hg]; exact Nat.ne_of_lt (blk_lt (zh BK377.out)) : gb377 ≠ gb381)); have n11_ := Aside0.mk ((by rw [hg]; exact Nat.ne_of_gt (blk_lt (zh BK377.out)) : gb381 ≠ gb377)); clear HO375; clear HO380; clear BK368; clear BK377; clear HB; have HO375 := n0_; have HO380 := n1_; have BK368 := n2_; have BK377 := n3_; have HB := n4_; have BK381 := n5_; have GW381 := n6_; have GE381 := n7_; have NB368_381 := n8_; have NB381_368 := n9_; have NB377_381 := n10_; have NB381_377 := n11_; clear n0_ n1_ n2_ n3_ n4_ n5_ n6_ n7_ n8_ n9_ n10_ n11_; clear hb hbox hg; obtain ⟨Ao27, co27, eo27⟩ := Kd.R_slice HO380.out; subst eo27; have hnb28 := NB381_368.out; have hnc28 := NB368_381.out; have hnb29 := NB381_377.out; have hnc29 := NB377_381.out; have hcz30_0 : w26.cell? ⟨gb381, 0, none⟩ = some (.slice none 0 0) := (blk_cell BK381.out 0).trans rfl; have hfz30_0 := blk_frozen BK381.out 0) | ((with_reducible refine gate_callee (f := 25) rfl ?_); refine goesL_ (some 33) rfl rfl Try.func25 (by kernel_rfl) rfl #[.agg #[.slice Ao27 t378.length co27], .int .i64 a1] rfl zl ?_; (with_reducible refine (impl_MakePower.calls k _ _ t378 a1 t382 t385 _ ?side1 ?side2 A11.out).mono ?_); (case side1 => refine (Kd.R_reads' (e := 49) (base := w.heap.size) (ok := fun k_ => (True ∧ some k_ ≠ (.slice Ao21 t373.length co21 : Value).ownBlock)) (n := t378.length) (c := co27) ?_).2.2; exact (by (with_reducible repeat (first | apply Kd.R_alloc | apply Kd.R_drewN | apply Kd.R_drew)); exact (Kd.R_mono (Kd.R_far (p := ⟨gb381, 0, none⟩) (Kd.R_types HO380.out BK381.out (by decide)) (fun _ hk => hk.2) (.slice Ao27 t378.length co27)) (fun _ h_ => h_.1)))); (case side2 => exact (Kd.R_reads' HO380.out).2.1); rintro e w31 ⟨v383, rfl, ho0, hb⟩; refine ⟨_, rfl, ?_⟩; have n0_ := Aside0.mk (Kd.R_elder' (by (with_reducible repeat (first | apply Kd.R_alloc | apply Kd.R_drewN | apply Kd.R_drew)); exact (Kd.R_mono (Kd.R_far (p := ⟨gb381, 0, none⟩) (Kd.R_types HO375.out BK381.out (by decide)) (fun _ hk => hk.2) (.slice Ao27 t378.length co27)) (fun _ h_ => h_.1))) (Kd.R_base ho0) hb); have n1_ := Aside0.mk (Kd.R_elder' (by (with_reducible repeat (first | apply Kd.R_alloc | apply Kd.R_drewN | apply Kd.R_drew)); exact (Kd.R_mono (Kd.R_far (p := ⟨gb381, 0, none⟩) (Kd.R_types HO380.out BK381.out (by decide)) (fun _ hk => hk.2) (.slice Ao27 t378.length co27)) (fun _ h_ => h_.1))) (Kd.R_base ho0) hb); have n2_ := Aside0.mk (Kd.R_lower (Kd.R_new' (Kd.R_new' ho0 (Kd.R_lt (by (with_reducible repeat (first | apply Kd.R_alloc | apply Kd.R_drewN | apply Kd.R_drew)); exact (Kd.R_mono (Kd.R_far (p := ⟨gb381, 0, none⟩) (Kd.R_types HO375.out BK381.out (by decide)) (fun _ hk => hk.2) (.slice Ao27 t378.length co27)) (fun _ h_ => h_.1))))) (Kd.R_lt (by (with_reducible repeat (first | apply Kd.R_alloc | apply Kd.R_drewN | apply Kd.R_drew)); exact (Kd.R_mono (Kd.R_far (p := ⟨gb381, 0, none⟩) (Kd.R_types HO380.out BK381.out (by decide)) (fun _ hk => hk.2) (.slice Ao27 t378.length co27)) (fun _ h_ => h_.1))))) (below_size (zb HB.out))); have n3_ := Aside0.mk (blk_below (g := gb368) (o := .cells #[.slice A0_0 l0_0.length c0_0] 24 (0, 0)) (zf BK368.out) hb); have n4_ := Aside0.mk (blk_below (g := gb377) (o := .cells #[.slice Ao21 t373.length co21] 28 (0, 0)) (zf BK377.out) hb); have n5_ := Aside0.mk (blk_below (g := gb381) (o := .cells #[.slice Ao27 t378.length co27] 28 (0, 0)) (by (with_reducible repeat (first | refine blk_drewN ?_ _ | refine blk_drew ?_ | refine blk_alloc ?_ _)); refine blk_put (cs := #[.slice none 0 0]) ?_ 0 _ rfl; (with_reducible repeat (first | refine blk_drewN ?_ _ | refine blk_drew ?_ | refine blk_alloc ?_ _)); exact BK381.out) hb); have n6_ := Aside0.mk (below_step (zb HB.out) hb); clear HO375; clear HO380; clear BK368; clear BK377; clear BK381; clear HB; have HO375 := n0_; have HO380 := n1_; have HO384 := n2_; have BK368 := n3_; have BK377 := n4_; have BK381 := n5_; have HB := n6_; clear n0_ n1_ n2_ n3_ n4_ n5_ n6_; (try clear hb); (try clear hb2); (try clear hk); (try clear hi); (try clear ho0)) | ((with_reducible refine gate_dst (N := 9) rfl ?_); refine box_event ?hg (N := 9) ?hd (cs := #[.slice none 0 0]) (t := 28) ?hr ?_; (case hd => rfl); (case hg => rfl); (case hr => first | (go_simp; done) | (go_simp; rfl)); intro gb386 hg w32 hbox hb; have n0_ := Aside0.mk (Kd.R_below (zr HO375.out) hb); have n1_ := Aside0.mk (Kd.R_below (zr HO380.out) hb); have n2_ := Aside0.mk (Kd.R_below (zr HO384.out) hb); have n3_ := Aside0.mk (blk_below (zh BK368.out) hb); have n4_ := Aside0.mk (blk_below (zh BK377.out) hb); have n5_ := Aside0.mk (blk_below (zh BK381.out) hb); have n6_ := Aside0.mk (below_step (zb HB.out) hb); have n7_ := Aside0.mk (hbox); have n8_ := Aside0.mk ((by rw [hg]; exact (below_size (zb HB.out)) : w.heap.size ≤ gb386)); have n9_ := Aside0.mk ((by rw [hg]; exact (below_size (zb HB.out)) : w.heap.size ≤ gb386)); have n10_ := Aside0.mk ((by rw [hg]; exact Nat.ne_of_lt (blk_lt (zh BK368.out)) : gb368 ≠ gb386)); have n11_ := Aside0.mk ((by rw [hg]; exact Nat.ne_of_gt (blk_lt (zh BK368.out)) : gb386 ≠ gb368)); have n12_ := Aside0.mk ((by rw [hg]; exact Nat.ne_of_lt (blk_lt (zh BK377.out)) : gb377 ≠ gb386)); have n13_ := Aside0.mk ((by rw [hg]; exact Nat.ne_of_gt (blk_lt (zh BK377.out)) : gb386 ≠ gb377)); have n14_ := Aside0.mk ((by rw [hg]; exact Nat.ne_of_lt (blk_lt (zh BK381.out)) : gb381 ≠ gb386)); have n15_ := Aside0.mk ((by rw [hg]; exact Nat.ne_of_gt (blk_lt (zh BK381.out)) : gb386 ≠ gb381)); clear HO375; clear HO380; clear HO384; clear BK368; clear BK377; clear BK381; clear HB; have HO375 := n0_; have HO380 := n1_; have HO384 := n2_; have BK368 := n3_; have BK377 := n4_; have BK381 := n5_; have HB := n6_; have BK386 := n7_; have GW386 := n8_; have GE386 := n9_; have NB368_386 := n10_; have NB386_368 := n11_; have NB377_386 := n12_; have NB386_377 := n13_; have NB381_386 := n14_; have NB386_381 := n15_; clear n0_ n1_ n2_ n3_ n4_ n5_ n6_ n7_ n8_ n9_ n10_ n11_ n12_ n13_ n14_ n15_; clear hb hbox hg; obtain ⟨Ao33, co33, eo33⟩ := Kd.R_slice HO384.out; subst eo33; have hnb34 := NB386_368.out; have hnc34 := NB368_386.out; have hnb35 := NB386_377.out; have hnc35 := NB377_386.out; have hnb36 := NB386_381.out; have hnc36 := NB381_386.out; have hcz37_0 : w32.cell? ⟨gb386, 0, none⟩ = some (.slice none 0 0) := (blk_cell BK386.out 0).trans rfl; have hfz37_0 := blk_frozen BK386.out 0))
  (try simp only [Act.put, List.setIfInBounds_toArray, List.set_cons_zero, List.set_cons_succ])
  go_cut [44] (fun v44 wc => ∃ (kq : Nat) (x44_11 : Bool), v44 = .bool x44_11 ∧ Aside0 (laws_FnExactMakePower.j0 kq a1 t376 t385 x44_11 l0_0 t373 t378 t382 = some r) ∧ Aside0 (kq ≤ k) ∧ Aside0 (Kd.R k49 49 wc w.heap.size (fun k_ => some k_ ≠ ((.slice Ao27 t378.length co27) : Value).ownBlock ∧ some k_ ≠ ((.slice Ao33 t382.length co33) : Value).ownBlock) (.slice Ao21 t373.length co21) t373) ∧ Aside0 (Kd.R k49 49 wc w.heap.size (fun k_ => some k_ ≠ ((.slice Ao21 t373.length co21) : Value).ownBlock ∧ some k_ ≠ ((.slice Ao33 t382.length co33) : Value).ownBlock) (.slice Ao27 t378.length co27) t378) ∧ Aside0 (Kd.R k49 49 wc w.heap.size (fun k_ => some k_ ≠ ((.slice Ao21 t373.length co21) : Value).ownBlock ∧ some k_ ≠ ((.slice Ao27 t378.length co27) : Value).ownBlock) (.slice Ao33 t382.length co33) t382) ∧ Aside0 (wc.heap[gb368]? = some (.cells #[(.slice A0_0 l0_0.length c0_0)] 24 (0, 0))) ∧ Aside0 (wc.heap[gb377]? = some (.cells #[(.slice Ao21 t373.length co21)] 28 (0, 0))) ∧ Aside0 (wc.heap[gb381]? = some (.cells #[(.slice Ao27 t378.length co27)] 28 (0, 0))) ∧ Aside0 (wc.heap[gb386]? = some (.cells #[(.slice Ao33 t382.length co33)] 28 (0, 0))) ∧ Aside0 (Below w.heap.size w wc))
  case first =>
   have H := HC12.out
   clear HC12
   replace H := Option.bind_eq_some_iff.mp H
   obtain ⟨t387, A380, H⟩ := H
   replace H : (if t387 = true then (laws_FnExactMakePower.j0 k a1 t376 t385 (t385 != t376) l0_0 t373 t378 t382) else (laws_FnExactMakePower.j0 k a1 t376 t385 true l0_0 t373 t378 t382)) = some r := H
   have A38 := Aside0.mk A380
   clear A380
   by_cases c39 : t387 = true
   ·subst c39
    have H1 : (laws_FnExactMakePower.j0 k a1 t376 t385 (t385 != t376) l0_0 t373 t378 t382) = some r := by rw [if_pos rfl] at H; exact H
    clear H
    have H := H1
    clear H1
    have H' := Aside0.mk H
    clear H
    have hnb40 := NB386_368.out
    have hnc40 := NB368_386.out
    have hnb41 := NB386_377.out
    have hnc41 := NB377_386.out
    have hnb42 := NB386_381.out
    have hnc42 := NB381_386.out
    have hcz43_0 : w32.cell? ⟨gb386, 0, none⟩ = some (.slice none 0 0) := (blk_cell BK386.out 0).trans rfl
    have hfz43_0 := blk_frozen BK386.out 0
    have hnb44 := NB377_368.out
    have hnc44 := NB368_377.out
    have hnb45 := NB377_381.out
    have hnc45 := NB381_377.out
    have hcz46_0 : w32.cell? ⟨gb377, 0, none⟩ = some (.slice Ao21 t373.length co21) := (blk_cell BK377.out 0).trans rfl
    have hfz46_0 := blk_frozen BK377.out 0
    go_wp2_with (first | ((with_reducible refine gate_callee (f := 17) rfl ?_); refine goesL_ (some 38) rfl rfl Try.func17 (by kernel_rfl) rfl #[.agg #[.slice Ao33 t382.length co33], .agg #[.slice Ao21 t373.length co21]] rfl zl ?_; (with_reducible refine (laws_eqPool.calls k _ _ t382 _ _ t373 true _ ?side1 ?side2 ?side3 ?side4 A38.out).mono ?_); (case side1 => refine (Kd.R_reads' (e := 49) (base := w.heap.size) (ok := fun k_ => ((True ∧ some k_ ≠ (.slice Ao21 t373.length co21 : Value).ownBlock) ∧ some k_ ≠ (.slice Ao27 t378.length co27 : Value).ownBlock)) (n := t382.length) (c := co33) ?_).2.2; exact (by (with_reducible repeat (first | apply Kd.R_alloc | apply Kd.R_drewN | apply Kd.R_drew)); exact (Kd.R_mono (Kd.R_far (p := ⟨gb386, 0, none⟩) (Kd.R_types HO384.out BK386.out (by decide)) (fun _ hk => hk.2) (.slice Ao33 t382.length co33)) (fun _ h_ => h_.1)))); (case side2 => exact (Kd.R_reads' HO384.out).2.1); (case side3 => refine (Kd.R_reads' (e := 49) (base := w.heap.size) (ok := fun k_ => ((True ∧ some k_ ≠ (.slice Ao27 t378.length co27 : Value).ownBlock) ∧ some k_ ≠ (.slice Ao33 t382.length co33 : Value).ownBlock)) (n := t373.length) (c := co21) ?_).2.2; exact (by (with_reducible repeat (first | apply Kd.R_alloc | apply Kd.R_drewN | apply Kd.R_drew)); exact (Kd.R_mono (Kd.R_far (p := ⟨gb386, 0, none⟩) (Kd.R_types HO375.out BK386.out (by decide)) (fun _ hk => hk.2) (.slice Ao33 t382.length co33)) (fun _ h_ => h_.1)))); (case side4 => exact (Kd.R_reads' HO375.out).2.1); rintro e w47 ⟨rfl, hb⟩; refine ⟨_, rfl, ?_⟩; have n0_ := Aside0.mk (Kd.R_below (by (with_reducible repeat (first | apply Kd.R_alloc | apply Kd.R_drewN | apply Kd.R_drew)); exact (Kd.R_mono (Kd.R_far (p := ⟨gb386, 0, none⟩) (Kd.R_types HO375.out BK386.out (by decide)) (fun _ hk => hk.2) (.slice Ao33 t382.length co33)) (fun _ h_ => h_.1))) hb); have n1_ := Aside0.mk (Kd.R_below (by (with_reducible repeat (first | apply Kd.R_alloc | apply Kd.R_drewN | apply Kd.R_drew)); exact (Kd.R_mono (Kd.R_far (p := ⟨gb386, 0, none⟩) (Kd.R_types HO380.out BK386.out (by decide)) (fun _ hk => hk.2) (.slice Ao33 t382.length co33)) (fun _ h_ => h_.1))) hb); have n2_ := Aside0.mk (Kd.R_below (by (with_reducible repeat (first | apply Kd.R_alloc | apply Kd.R_drewN | apply Kd.R_drew)); exact (Kd.R_mono (Kd.R_far (p := ⟨gb386, 0, none⟩) (Kd.R_types HO384.out BK386.out (by decide)) (fun _ hk => hk.2) (.slice Ao33 t382.length co33)) (fun _ h_ => h_.1))) hb); have n3_ := Aside0.mk (blk_below (g := gb368) (o := .cells #[.slice A0_0 l0_0.length c0_0] 24 (0, 0)) (zf BK368.out) hb); have n4_ := Aside0.mk (blk_below (g := gb377) (o := .cells #[.slice Ao21 t373.length co21] 28 (0, 0)) (zf BK377.out) hb); have n5_ := Aside0.mk (blk_below (g := gb381) (o := .cells #[.slice Ao27 t378.length co27] 28 (0, 0)) (zf BK381.out) hb); have n6_ := Aside0.mk (blk_below (g := gb386) (o := .cells #[.slice Ao33 t382.length co33] 28 (0, 0)) (by (with_reducible repeat (first | refine blk_drewN ?_ _ | refine blk_drew ?_ | refine blk_alloc ?_ _)); refine blk_put (cs := #[.slice none 0 0]) ?_ 0 _ rfl; (with_reducible repeat (first | refine blk_drewN ?_ _ | refine blk_drew ?_ | refine blk_alloc ?_ _)); exact BK386.out) hb); have n7_ := Aside0.mk (below_step (zb HB.out) hb); clear HO375; clear HO380; clear HO384; clear BK368; clear BK377; clear BK381; clear BK386; clear HB; have HO375 := n0_; have HO380 := n1_; have HO384 := n2_; have BK368 := n3_; have BK377 := n4_; have BK381 := n5_; have BK386 := n6_; have HB := n7_; clear n0_ n1_ n2_ n3_ n4_ n5_ n6_ n7_; (try clear hb); (try clear hb2); (try clear hk); (try clear hi)))
    go_meet
    case rel => exact ⟨_, ((t385 != t376)), (by first | rfl | (simp; done) | (simp [*]; done)), H', ⟨by first | omega | exact Nat.le_refl _⟩, ⟨zr (Kd.R_mono HO375.out (fun _ hk => ⟨hk.1.2, hk.2⟩))⟩, ⟨zr (Kd.R_mono HO380.out (fun _ hk => ⟨hk.1.2, hk.2⟩))⟩, ⟨zr (Kd.R_mono HO384.out (fun _ hk => ⟨hk.1.2, hk.2⟩))⟩, ⟨zh BK368.out⟩, ⟨zh BK377.out⟩, ⟨zh BK381.out⟩, ⟨zh BK386.out⟩, ⟨zb HB.out⟩⟩
   ·replace c39 := Bool.eq_false_iff.mpr c39
    subst c39
    have H1 : (laws_FnExactMakePower.j0 k a1 t376 t385 true l0_0 t373 t378 t382) = some r := by rw [if_neg (show ¬ (false = true) by decide)] at H; exact H
    clear H
    have H := H1
    clear H1
    have H' := Aside0.mk H
    clear H
    have hnb48 := NB386_368.out
    have hnc48 := NB368_386.out
    have hnb49 := NB386_377.out
    have hnc49 := NB377_386.out
    have hnb50 := NB386_381.out
    have hnc50 := NB381_386.out
    have hcz51_0 : w32.cell? ⟨gb386, 0, none⟩ = some (.slice none 0 0) := (blk_cell BK386.out 0).trans rfl
    have hfz51_0 := blk_frozen BK386.out 0
    have hnb52 := NB377_368.out
    have hnc52 := NB368_377.out
    have hnb53 := NB377_381.out
    have hnc53 := NB381_377.out
    have hcz54_0 : w32.cell? ⟨gb377, 0, none⟩ = some (.slice Ao21 t373.length co21) := (blk_cell BK377.out 0).trans rfl
    have hfz54_0 := blk_frozen BK377.out 0
    go_wp2_with (first | ((with_reducible refine gate_callee (f := 17) rfl ?_); refine goesL_ (some 38) rfl rfl Try.func17 (by kernel_rfl) rfl #[.agg #[.slice Ao33 t382.length co33], .agg #[.slice Ao21 t373.length co21]] rfl zl ?_; (with_reducible refine (laws_eqPool.calls k _ _ t382 _ _ t373 false _ ?side1 ?side2 ?side3 ?side4 A38.out).mono ?_); (case side1 => refine (Kd.R_reads' (e := 49) (base := w.heap.size) (ok := fun k_ => ((True ∧ some k_ ≠ (.slice Ao21 t373.length co21 : Value).ownBlock) ∧ some k_ ≠ (.slice Ao27 t378.length co27 : Value).ownBlock)) (n := t382.length) (c := co33) ?_).2.2; exact (by (with_reducible repeat (first | apply Kd.R_alloc | apply Kd.R_drewN | apply Kd.R_drew)); exact (Kd.R_mono (Kd.R_far (p := ⟨gb386, 0, none⟩) (Kd.R_types HO384.out BK386.out (by decide)) (fun _ hk => hk.2) (.slice Ao33 t382.length co33)) (fun _ h_ => h_.1)))); (case side2 => exact (Kd.R_reads' HO384.out).2.1); (case side3 => refine (Kd.R_reads' (e := 49) (base := w.heap.size) (ok := fun k_ => ((True ∧ some k_ ≠ (.slice Ao27 t378.length co27 : Value).ownBlock) ∧ some k_ ≠ (.slice Ao33 t382.length co33 : Value).ownBlock)) (n := t373.length) (c := co21) ?_).2.2; exact (by (with_reducible repeat (first | apply Kd.R_alloc | apply Kd.R_drewN | apply Kd.R_drew)); exact (Kd.R_mono (Kd.R_far (p := ⟨gb386, 0, none⟩) (Kd.R_types HO375.out BK386.out (by decide)) (fun _ hk => hk.2) (.slice Ao33 t382.length co33)) (fun _ h_ => h_.1)))); (case side4 => exact (Kd.R_reads' HO375.out).2.1); rintro e w55 ⟨rfl, hb⟩; refine ⟨_, rfl, ?_⟩; have n0_ := Aside0.mk (Kd.R_below (by (with_reducible repeat (first | apply Kd.R_alloc | apply Kd.R_drewN | apply Kd.R_drew)); exact (Kd.R_mono (Kd.R_far (p := ⟨gb386, 0, none⟩) (Kd.R_types HO375.out BK386.out (by decide)) (fun _ hk => hk.2) (.slice Ao33 t382.length co33)) (fun _ h_ => h_.1))) hb); have n1_ := Aside0.mk (Kd.R_below (by (with_reducible repeat (first | apply Kd.R_alloc | apply Kd.R_drewN | apply Kd.R_drew)); exact (Kd.R_mono (Kd.R_far (p := ⟨gb386, 0, none⟩) (Kd.R_types HO380.out BK386.out (by decide)) (fun _ hk => hk.2) (.slice Ao33 t382.length co33)) (fun _ h_ => h_.1))) hb); have n2_ := Aside0.mk (Kd.R_below (by (with_reducible repeat (first | apply Kd.R_alloc | apply Kd.R_drewN | apply Kd.R_drew)); exact (Kd.R_mono (Kd.R_far (p := ⟨gb386, 0, none⟩) (Kd.R_types HO384.out BK386.out (by decide)) (fun _ hk => hk.2) (.slice Ao33 t382.length co33)) (fun _ h_ => h_.1))) hb); have n3_ := Aside0.mk (blk_below (g := gb368) (o := .cells #[.slice A0_0 l0_0.length c0_0] 24 (0, 0)) (zf BK368.out) hb); have n4_ := Aside0.mk (blk_below (g := gb377) (o := .cells #[.slice Ao21 t373.length co21] 28 (0, 0)) (zf BK377.out) hb); have n5_ := Aside0.mk (blk_below (g := gb381) (o := .cells #[.slice Ao27 t378.length co27] 28 (0, 0)) (zf BK381.out) hb); have n6_ := Aside0.mk (blk_below (g := gb386) (o := .cells #[.slice Ao33 t382.length co33] 28 (0, 0)) (by (with_reducible repeat (first | refine blk_drewN ?_ _ | refine blk_drew ?_ | refine blk_alloc ?_ _)); refine blk_put (cs := #[.slice none 0 0]) ?_ 0 _ rfl; (with_reducible repeat (first | refine blk_drewN ?_ _ | refine blk_drew ?_ | refine blk_alloc ?_ _)); exact BK386.out) hb); have n7_ := Aside0.mk (below_step (zb HB.out) hb); clear HO375; clear HO380; clear HO384; clear BK368; clear BK377; clear BK381; clear BK386; clear HB; have HO375 := n0_; have HO380 := n1_; have HO384 := n2_; have BK368 := n3_; have BK377 := n4_; have BK381 := n5_; have BK386 := n6_; have HB := n7_; clear n0_ n1_ n2_ n3_ n4_ n5_ n6_ n7_; (try clear hb); (try clear hb2); (try clear hk); (try clear hi)))
    go_meet
    case rel => exact ⟨_, (true), (by first | rfl | (simp; done) | (simp [*]; done)), H', ⟨by first | omega | exact Nat.le_refl _⟩, ⟨zr (Kd.R_mono HO375.out (fun _ hk => ⟨hk.1.2, hk.2⟩))⟩, ⟨zr (Kd.R_mono HO380.out (fun _ hk => ⟨hk.1.2, hk.2⟩))⟩, ⟨zr (Kd.R_mono HO384.out (fun _ hk => ⟨hk.1.2, hk.2⟩))⟩, ⟨zh BK368.out⟩, ⟨zh BK377.out⟩, ⟨zh BK381.out⟩, ⟨zh BK386.out⟩, ⟨zb HB.out⟩⟩
  case rest =>
   clear HC12
   try clear c1
   try clear c2
   try clear p2
   try clear c3
   try clear c4
   try clear c4b0
   try clear c5
   try clear c6
   try clear c13
   try clear c15
   try clear c17
   try clear c22
   try clear c24
   try clear c25
   try clear c28
   try clear c29
   try clear c34
   try clear c35
   try clear c36
   try clear c39
   try clear c40
   try clear c41
   try clear c42
   try clear c44
   try clear c45
   try clear c48
   try clear c49
   try clear c50
   try clear c52
   try clear c53
   try clear hcz14_0
   try clear hcz16_0
   try clear hcz23_0
   try clear hcz24_0
   try clear hcz30_0
   try clear hcz37_0
   try clear hcz43_0
   try clear hcz46_0
   try clear hcz51_0
   try clear hcz54_0
   try clear hcz6_0
   try clear hfz14_0
   try clear hfz16_0
   try clear hfz23_0
   try clear hfz24_0
   try clear hfz30_0
   try clear hfz37_0
   try clear hfz43_0
   try clear hfz46_0
   try clear hfz51_0
   try clear hfz54_0
   try clear hfz6_0
   obtain ⟨kq, x44_11, rfl, HA, HJ11, HO_378000, HO_382000, HO_387000, BK368, BK377, BK381, BK386, HB⟩ := hcut
   cases kq with
   | zero => exact absurd HA.out (by simp [laws_FnExactMakePower.j0])
   | succ kj11 =>
    have H := HA.out
    clear HA
    simp only [laws_FnExactMakePower.j0] at H
    by_cases c56 : x44_11 = true
    ·subst c56
     have H1 : (some false) = some r := by rw [if_pos rfl] at H; exact H
     clear H
     have H := H1
     clear H1
     obtain rfl := Option.some.inj H
     go_wp2
     go_ret
     exact ⟨ze, zb HB.out⟩
    ·replace c56 := Bool.eq_false_iff.mpr c56
     subst c56
     have H1 : ((laws_toPool.f kj11 l0_0).bind fun t388 => ((laws_eqPool.f kj11 t378 t388).bind fun t391 => (if t391 = true then ((laws_markPool.f kj11 t378 1).bind fun bt392 => (if bt392.1 < 0 then (laws_FnExactMakePower.j1 kj11 a1 t376 true l0_0 t373 t382) else ((laws_eqPool.f kj11 t382 t373).bind fun t394 => (if t394 = true then (laws_FnExactMakePower.j1 kj11 a1 t376 (t385 != t376) l0_0 t373 t382) else (laws_FnExactMakePower.j1 kj11 a1 t376 true l0_0 t373 t382))))) else (some false)))) = some r := by rw [if_neg (show ¬ (false = true) by decide)] at H; exact H
     clear H
     have H := H1
     clear H1
     replace H := Option.bind_eq_some_iff.mp H
     obtain ⟨t388, A570, H⟩ := H
     replace H : ((laws_eqPool.f kj11 t378 t388).bind fun t391 => (if t391 = true then ((laws_markPool.f kj11 t378 1).bind fun bt392 => (if bt392.1 < 0 then (laws_FnExactMakePower.j1 kj11 a1 t376 true l0_0 t373 t382) else ((laws_eqPool.f kj11 t382 t373).bind fun t394 => (if t394 = true then (laws_FnExactMakePower.j1 kj11 a1 t376 (t385 != t376) l0_0 t373 t382) else (laws_FnExactMakePower.j1 kj11 a1 t376 true l0_0 t373 t382))))) else (some false))) = some r := H
     have A57 := Aside0.mk A570
     clear A570
     replace H := Option.bind_eq_some_iff.mp H
     obtain ⟨t391, A580, H⟩ := H
     replace H : (if t391 = true then ((laws_markPool.f kj11 t378 1).bind fun bt392 => (if bt392.1 < 0 then (laws_FnExactMakePower.j1 kj11 a1 t376 true l0_0 t373 t382) else ((laws_eqPool.f kj11 t382 t373).bind fun t394 => (if t394 = true then (laws_FnExactMakePower.j1 kj11 a1 t376 (t385 != t376) l0_0 t373 t382) else (laws_FnExactMakePower.j1 kj11 a1 t376 true l0_0 t373 t382))))) else (some false)) = some r := H
     have A58 := Aside0.mk A580
     clear A580
     by_cases c59 : t391 = true
     ·subst c59
      have H1 : ((laws_markPool.f kj11 t378 1).bind fun bt392 => (if bt392.1 < 0 then (laws_FnExactMakePower.j1 kj11 a1 t376 true l0_0 t373 t382) else ((laws_eqPool.f kj11 t382 t373).bind fun t394 => (if t394 = true then (laws_FnExactMakePower.j1 kj11 a1 t376 (t385 != t376) l0_0 t373 t382) else (laws_FnExactMakePower.j1 kj11 a1 t376 true l0_0 t373 t382))))) = some r := by rw [if_pos rfl] at H; exact H
      clear H
      have H := H1
      clear H1
      replace H := Option.bind_eq_some_iff.mp H
      obtain ⟨⟨t392, t393⟩, A600, H⟩ := H
      replace H : (if t392 < 0 then (laws_FnExactMakePower.j1 kj11 a1 t376 true l0_0 t373 t382) else ((laws_eqPool.f kj11 t382 t373).bind fun t394 => (if t394 = true then (laws_FnExactMakePower.j1 kj11 a1 t376 (t385 != t376) l0_0 t373 t382) else (laws_FnExactMakePower.j1 kj11 a1 t376 true l0_0 t373 t382)))) = some r := H
      have A60 := Aside0.mk A600
      clear A600
      have HC61 := Aside0.mk H
      clear H
      try go_wp2
      have n0_ := Aside0.mk (Kd.R_drew HO_378000.out)
      have n1_ := Aside0.mk (Kd.R_drew HO_382000.out)
      have n2_ := Aside0.mk (Kd.R_drew HO_387000.out)
      have n3_ := Aside0.mk (blk_drew BK368.out)
      have n4_ := Aside0.mk (blk_drew BK377.out)
      have n5_ := Aside0.mk (blk_drew BK381.out)
      have n6_ := Aside0.mk (blk_drew BK386.out)
      have n7_ := Aside0.mk (below_drew1 HB.out)
      clear HO_378000
      clear HO_382000
      clear HO_387000
      clear BK368
      clear BK377
      clear BK381
      clear BK386
      clear HB
      have HO_378000 := n0_
      have HO_382000 := n1_
      have HO_387000 := n2_
      have BK368 := n3_
      have BK377 := n4_
      have BK381 := n5_
      have BK386 := n6_
      have HB := n7_
      clear n0_ n1_ n2_ n3_ n4_ n5_ n6_ n7_
      refine start_ (n := 5) (S := fun w' => w'.cell? ⟨gb381, 0, none⟩ = some (.slice Ao27 t378.length co27) ∧ w'.cell? ⟨gb368, 0, none⟩ = some (.slice A0_0 l0_0.length c0_0)) (ds := []) #[false, false, false, false, false] (by kernel_rfl) rfl rfl ⟨(blk_cell BK381.out 0).trans rfl, (blk_cell BK368.out 0).trans rfl⟩ (fun hHeld => ?_)
      generalize wc.drew = w62 at HO_378000 HO_382000 HO_387000 BK368 BK377 BK381 BK386 HB hHeld ⊢
      refine take_ (i := 0) (N := some 45) (v := ?_) (a' := ?_) #[true, false, false, false, false] rfl rfl (by kernel_rfl) (fun _ _ _ h => h) (Or.inl ⟨by rfl, ?_⟩) hHeld ?_ ?_
      rotate_left
      ·rintro w' ⟨s0, s1⟩
       go_simp
       with_reducible rfl
      rotate_left
      ·simp only [Act.put, List.setIfInBounds_toArray, List.set_cons_zero, List.set_cons_succ, i64_w, i32_w]
       rfl
      refine take_ (i := 1) (N := some 46) (v := ?_) (a' := ?_) #[true, true, false, false, false] rfl rfl (by kernel_rfl) (fun _ _ _ h => h) (Or.inl ⟨by rfl, ?_⟩) hHeld ?_ ?_
      rotate_left
      ·rintro w' ⟨s0, s1⟩
       go_simp
       with_reducible rfl
      rotate_left
      ·simp only [Act.put, List.setIfInBounds_toArray, List.set_cons_zero, List.set_cons_succ, i64_w, i32_w]
       rfl
      refine one_ (i := 2) (N := some 47) #[true, true, true, false, false] rfl rfl (by kernel_rfl) (by decide) (fun K hK => ?_)
      refine goes_ Try.func15 (by kernel_rfl) rfl #[.agg #[.slice A0_0 l0_0.length c0_0]] (by rfl) rfl rfl zl ?_
      with_reducible refine (laws_toPool.calls kj11 _ _ l0_0 t388 _ ?side1 ?side2 A57.out).mono ?_
      (case side1 => exact zc (Kd.C_below HR0_0.out HB.out))
      (case side2 => exact HC0_0.out)
      rintro e w63 ⟨v389, rfl, ho0, hb⟩
      refine ⟨_, rfl, ?_⟩
      have n0_ := Aside0.mk (Kd.R_elder' (zr HO_378000.out) (Kd.R_base ho0) hb)
      have n1_ := Aside0.mk (Kd.R_elder' (zr HO_382000.out) (Kd.R_base ho0) hb)
      have n2_ := Aside0.mk (Kd.R_elder' (zr HO_387000.out) (Kd.R_base ho0) hb)
      have n3_ := Aside0.mk (Kd.R_lower (Kd.R_new' (Kd.R_new' (Kd.R_new' ho0 (Kd.R_lt (zr HO_378000.out))) (Kd.R_lt (zr HO_382000.out))) (Kd.R_lt (zr HO_387000.out))) (below_size (zb HB.out)))
      have n4_ := Aside0.mk (blk_below (zh BK368.out) hb)
      have n5_ := Aside0.mk (blk_below (zh BK377.out) hb)
      have n6_ := Aside0.mk (blk_below (zh BK381.out) hb)
      have n7_ := Aside0.mk (blk_below (zh BK386.out) hb)
      have n8_ := Aside0.mk (below_step (zb HB.out) hb)
      clear HO_378000
      clear HO_382000
      clear HO_387000
      clear BK368
      clear BK377
      clear BK381
      clear BK386
      clear HB
      have HO_378000 := n0_
      have HO_382000 := n1_
      have HO_387000 := n2_
      have HO390 := n3_
      have BK368 := n4_
      have BK377 := n5_
      have BK381 := n6_
      have BK386 := n7_
      have HB := n8_
      clear n0_ n1_ n2_ n3_ n4_ n5_ n6_ n7_ n8_
      (try clear hb)
      (try clear hb2)
      (try clear hk)
      (try clear hi)
      (try clear ho0)
      obtain ⟨Ao64, co64, eo64⟩ := Kd.R_slice HO390.out
      (first | subst eo64 | (injection eo64 with f1_ f2_ f3_; have f4_ := f1_.symm; have f5_ := f3_.symm; clear f1_ f2_ f3_; subst f4_; subst f5_))
      refine hK.out _ _ ⟨(blk_cell BK381.out 0).trans rfl, (blk_cell BK368.out 0).trans rfl⟩ (fun hHeld => ?_)
      clear hK K
      refine norm_ (a' := ?_) ?_ ?_
      rotate_left
      ·show Act.put _ (some 47) _ = _
       simp only [Act.put, List.setIfInBounds_toArray, List.set_cons_zero, List.set_cons_succ, i64_w, i32_w]
       rfl
      refine one_ (i := 3) (N := some 48) #[true, true, true, true, false] rfl rfl (by kernel_rfl) (by decide) (fun K hK => ?_)
      refine goes_ Try.func17 (by kernel_rfl) rfl #[.agg #[.slice Ao27 t378.length co27], .agg #[.slice Ao64 t388.length co64]] (by rfl) rfl rfl zl ?_
      with_reducible refine (laws_eqPool.calls kj11 _ _ t378 _ _ t388 true _ ?side1 ?side2 ?side3 ?side4 A58.out).mono ?_
      (case side1 => exact zc (Kd.R_reads' HO_382000.out).2.2)
      (case side2 => exact (Kd.R_reads' HO_382000.out).2.1)
      (case side3 => exact zc (Kd.R_reads' HO390.out).2.2)
      (case side4 => exact (Kd.R_reads' HO390.out).2.1)
      rintro e w65 ⟨rfl, hb⟩
      refine ⟨_, rfl, ?_⟩
      have n0_ := Aside0.mk (Kd.R_below (zr HO_378000.out) hb)
      have n1_ := Aside0.mk (Kd.R_below (zr HO_382000.out) hb)
      have n2_ := Aside0.mk (Kd.R_below (zr HO_387000.out) hb)
      have n3_ := Aside0.mk (Kd.R_below (zr HO390.out) hb)
      have n4_ := Aside0.mk (blk_below (zh BK368.out) hb)
      have n5_ := Aside0.mk (blk_below (zh BK377.out) hb)
      have n6_ := Aside0.mk (blk_below (zh BK381.out) hb)
      have n7_ := Aside0.mk (blk_below (zh BK386.out) hb)
      have n8_ := Aside0.mk (below_step (zb HB.out) hb)
      clear HO_378000
      clear HO_382000
      clear HO_387000
      clear HO390
      clear BK368
      clear BK377
      clear BK381
      clear BK386
      clear HB
      have HO_378000 := n0_
      have HO_382000 := n1_
      have HO_387000 := n2_
      have HO390 := n3_
      have BK368 := n4_
      have BK377 := n5_
      have BK381 := n6_
      have BK386 := n7_
      have HB := n8_
      clear n0_ n1_ n2_ n3_ n4_ n5_ n6_ n7_ n8_
      (try clear hb)
      (try clear hb2)
      (try clear hk)
      (try clear hi)
      refine hK.out _ _ ⟨(blk_cell BK381.out 0).trans rfl, (blk_cell BK368.out 0).trans rfl⟩ (fun hHeld => ?_)
      clear hK K
      refine norm_ (a' := ?_) ?_ ?_
      rotate_left
      ·show Act.put _ (some 48) _ = _
       simp only [Act.put, List.setIfInBounds_toArray, List.set_cons_zero, List.set_cons_succ, i64_w, i32_w]
       rfl
      refine pure_ (i := 4) (N := some 49) (v := ?_) (a' := ?_) #[true, true, true, true, true] rfl rfl (by kernel_rfl) (fun _ _ _ h => h) (Or.inl ⟨by rfl, ?_⟩) ?_ ?_
      rotate_left
      ·intro w'
       go_simp
       with_reducible rfl
      rotate_left
      ·simp only [Act.put, List.setIfInBounds_toArray, List.set_cons_zero, List.set_cons_succ, i64_w, i32_w]
       rfl
      refine done_ (by kernel_rfl) ?_
      have hnb66 := NB381_368.out
      have hnc66 := NB368_381.out
      have hnb67 := NB381_377.out
      have hnc67 := NB377_381.out
      have hnb68 := NB381_386.out
      have hnc68 := NB386_381.out
      have hcz69_0 : w65.cell? ⟨gb381, 0, none⟩ = some (.slice Ao27 t378.length co27) := (blk_cell BK381.out 0).trans rfl
      have hfz69_0 := blk_frozen BK381.out 0
      go_upto_region 14 with (first | ((with_reducible refine gate_callee (f := 18) rfl ?_); refine goesL_ (some 52) rfl rfl Try.func18 (by kernel_rfl) rfl #[.agg #[.slice Ao27 t378.length co27], .int .i64 1] rfl zl ?_; (with_reducible refine (laws_markPool.calls kj11 (fun k_ => some k_ = (.slice Ao27 t378.length co27 : Value).ownBlock) (.slice Ao27 t378.length co27) t378 1 t392 t393 w _ ?side1 ?side2 A60.out).mono ?_); (case side1 => repeat (first | (with_reducible first | exact HB.out | apply below_alloc | apply pw_below_drewN | apply below_drew1 | refine below_set ?_ GE368.out | refine below_set ?_ GE377.out | refine below_set ?_ GE381.out | refine below_set ?_ GE386.out) | exact HB.out)); (case side2 => exact Kd.R_tight rfl HO_382000.out); rintro e w70 ⟨rfl, hy0, hb, hkp⟩; refine ⟨_, rfl, ?_⟩; have n0_ := Aside0.mk (Kd.R_mono (ok' := fun k_ => some k_ ≠ (.slice Ao27 t378.length co27 : Value).ownBlock ∧ some k_ ≠ (.slice Ao33 t382.length co33 : Value).ownBlock ∧ some k_ ≠ (.slice Ao64 t388.length co64 : Value).ownBlock) (Kd.R_keptB (HO_378000.out) hkp (fun k_ hk_ hs_ => by first | exact (hk_.1.1) hs_ | (revert hk_; simp only [and_imp]; intros; exact absurd hs_ (by assumption)))) (fun k_ hk_ => by first | exact ⟨hk_.1.1.1, hk_.1.1.2, hk_.1.2⟩ | (revert hk_; simp only [and_imp]; intros; and_intros <;> assumption))); have n1_ := Aside0.mk (Kd.R_reok rfl hy0 (fun k_ e_ => HO_382000.out.1 k_ e_)); have n2_ := Aside0.mk (Kd.R_mono (ok' := fun k_ => some k_ ≠ (.slice Ao21 t373.length co21 : Value).ownBlock ∧ some k_ ≠ (.slice Ao27 t378.length co27 : Value).ownBlock ∧ some k_ ≠ (.slice Ao64 t388.length co64 : Value).ownBlock) (Kd.R_keptB (HO_387000.out) hkp (fun k_ hk_ hs_ => by first | exact (hk_.1.2) hs_ | (revert hk_; simp only [and_imp]; intros; exact absurd hs_ (by assumption)))) (fun k_ hk_ => by first | exact ⟨hk_.1.1.1, hk_.1.1.2, hk_.1.2⟩ | (revert hk_; simp only [and_imp]; intros; and_intros <;> assumption))); have n3_ := Aside0.mk (blk_kept (zh BK368.out) hkp (fun hs_ => (fun e_ => (Kd.R_ne HO_382000.out BK368.out (by decide)) e_) hs_)); have n4_ := Aside0.mk (blk_kept (zh BK377.out) hkp (fun hs_ => (fun e_ => (Kd.R_ne HO_382000.out BK377.out (by decide)) e_) hs_)); have n5_ := Aside0.mk (blk_kept (zh BK381.out) hkp (fun hs_ => (fun e_ => (Kd.R_ne HO_382000.out BK381.out (by decide)) e_) hs_)); have n6_ := Aside0.mk (blk_kept (zh BK386.out) hkp (fun hs_ => (fun e_ => (Kd.R_ne HO_382000.out BK386.out (by decide)) e_) hs_)); have n7_ := Aside0.mk (Kd.R_mono (ok' := fun k_ => some k_ ≠ (.slice Ao21 t373.length co21 : Value).ownBlock ∧ some k_ ≠ (.slice Ao27 t378.length co27 : Value).ownBlock ∧ some k_ ≠ (.slice Ao33 t382.length co33 : Value).ownBlock) (Kd.R_keptB (HO390.out) hkp (fun k_ hk_ hs_ => by first | exact (hk_.1.2) hs_ | (revert hk_; simp only [and_imp]; intros; exact absurd hs_ (by assumption)))) (fun k_ hk_ => by first | exact ⟨hk_.1.1.1.2, hk_.1.1.2, hk_.1.2⟩ | (revert hk_; simp only [and_imp]; intros; and_intros <;> assumption))); have n8_ := Aside0.mk (hb); clear HO_378000; clear HO_382000; clear HO_387000; clear BK368; clear BK377; clear BK381; clear BK386; clear HO390; clear HB; have HO_378000 := n0_; have HO_382000 := n1_; have HO_387000 := n2_; have BK368 := n3_; have BK377 := n4_; have BK381 := n5_; have BK386 := n6_; have HO390 := n7_; have HB := n8_; clear n0_ n1_ n2_ n3_ n4_ n5_ n6_ n7_ n8_; (try clear hb); (try clear hkp); (try clear hy0)))
      (try simp only [Act.put, List.setIfInBounds_toArray, List.set_cons_zero, List.set_cons_succ])
      go_cut [65] (fun v65 wc => ∃ (kq : Nat) (x65_60 : Bool), v65 = .bool x65_60 ∧ Aside0 (laws_FnExactMakePower.j1 kq a1 t376 x65_60 l0_0 t373 t382 = some r) ∧ Aside0 (kq ≤ kj11) ∧ Aside0 (Kd.R k49 49 wc w.heap.size (fun k_ => some k_ ≠ ((.slice Ao27 t378.length co27) : Value).ownBlock ∧ some k_ ≠ ((.slice Ao33 t382.length co33) : Value).ownBlock) (.slice Ao21 t373.length co21) t373) ∧ Aside0 (Kd.R k49 49 wc w.heap.size (fun k_ => some k_ ≠ ((.slice Ao21 t373.length co21) : Value).ownBlock ∧ some k_ ≠ ((.slice Ao33 t382.length co33) : Value).ownBlock) (.slice Ao27 t378.length co27) t393) ∧ Aside0 (Kd.R k49 49 wc w.heap.size (fun k_ => some k_ ≠ ((.slice Ao21 t373.length co21) : Value).ownBlock ∧ some k_ ≠ ((.slice Ao27 t378.length co27) : Value).ownBlock) (.slice Ao33 t382.length co33) t382) ∧ Aside0 (wc.heap[gb368]? = some (.cells #[(.slice A0_0 l0_0.length c0_0)] 24 (0, 0))) ∧ Aside0 (wc.heap[gb377]? = some (.cells #[(.slice Ao21 t373.length co21)] 28 (0, 0))) ∧ Aside0 (wc.heap[gb381]? = some (.cells #[(.slice Ao27 t378.length co27)] 28 (0, 0))) ∧ Aside0 (wc.heap[gb386]? = some (.cells #[(.slice Ao33 t382.length co33)] 28 (0, 0))) ∧ Aside0 (Below w.heap.size w wc))
      case first =>
       have H := HC61.out
       clear HC61
       by_cases c71 : t392 < 0
       ·rw [if_pos c71] at H
        have c71b0 : decide (t392 < 0) = true := decide_eq_true c71
        clear c71
        (first | rw [c71b0] | (simp only [i64_w, i32_w]; rw [c71b0]) | skip)
        have H' := Aside0.mk H
        clear H
        go_wp2
        go_meet
        case rel => exact ⟨_, (true), (by first | rfl | (simp; done) | (simp [*]; done)), H', ⟨by have := HJ11.out; first | omega | exact Nat.le_refl _⟩, ⟨zr (Kd.R_mono HO_378000.out (fun _ hk => ⟨hk.1, hk.2.1⟩))⟩, ⟨zr (Kd.R_mono HO_382000.out (fun _ hk => ⟨hk.1.1, hk.1.2⟩))⟩, ⟨zr (Kd.R_mono HO_387000.out (fun _ hk => ⟨hk.1, hk.2.1⟩))⟩, ⟨zh BK368.out⟩, ⟨zh BK377.out⟩, ⟨zh BK381.out⟩, ⟨zh BK386.out⟩, ⟨zb HB.out⟩⟩
       ·rw [if_neg c71] at H
        have c71b0 : decide (t392 < 0) = false := decide_eq_false c71
        clear c71
        (first | rw [c71b0] | (simp only [i64_w, i32_w]; rw [c71b0]) | skip)
        replace H := Option.bind_eq_some_iff.mp H
        obtain ⟨t394, A720, H⟩ := H
        replace H : (if t394 = true then (laws_FnExactMakePower.j1 kj11 a1 t376 (t385 != t376) l0_0 t373 t382) else (laws_FnExactMakePower.j1 kj11 a1 t376 true l0_0 t373 t382)) = some r := H
        have A72 := Aside0.mk A720
        clear A720
        by_cases c73 : t394 = true
        ·subst c73
         have H1 : (laws_FnExactMakePower.j1 kj11 a1 t376 (t385 != t376) l0_0 t373 t382) = some r := by rw [if_pos rfl] at H; exact H
         clear H
         have H := H1
         clear H1
         have H' := Aside0.mk H
         clear H
         have hnb74 := NB386_368.out
         have hnc74 := NB368_386.out
         have hnb75 := NB386_377.out
         have hnc75 := NB377_386.out
         have hnb76 := NB386_381.out
         have hnc76 := NB381_386.out
         have hcz77_0 : w70.cell? ⟨gb386, 0, none⟩ = some (.slice Ao33 t382.length co33) := (blk_cell BK386.out 0).trans rfl
         have hfz77_0 := blk_frozen BK386.out 0
         have hnb78 := NB377_368.out
         have hnc78 := NB368_377.out
         have hnb79 := NB377_381.out
         have hnc79 := NB381_377.out
         have hcz80_0 : w70.cell? ⟨gb377, 0, none⟩ = some (.slice Ao21 t373.length co21) := (blk_cell BK377.out 0).trans rfl
         have hfz80_0 := blk_frozen BK377.out 0
         go_wp2_with (first | (go_at_call 17; (with_reducible refine (laws_eqPool.calls kj11 _ _ t382 _ _ t373 true _ ?side1 ?side2 ?side3 ?side4 A72.out).mono ?_); (case side1 => exact zc (Kd.R_reads' HO_387000.out).2.2); (case side2 => exact (Kd.R_reads' HO_387000.out).2.1); (case side3 => exact zc (Kd.R_reads' HO_378000.out).2.2); (case side4 => exact (Kd.R_reads' HO_378000.out).2.1); rintro e w81 ⟨rfl, hb⟩; have n0_ := Aside0.mk (Kd.R_below (zr HO_378000.out) hb); have n1_ := Aside0.mk (Kd.R_below (zr HO_382000.out) hb); have n2_ := Aside0.mk (Kd.R_below (zr HO_387000.out) hb); have n3_ := Aside0.mk (Kd.R_below (zr HO390.out) hb); have n4_ := Aside0.mk (blk_below (zh BK368.out) hb); have n5_ := Aside0.mk (blk_below (zh BK377.out) hb); have n6_ := Aside0.mk (blk_below (zh BK381.out) hb); have n7_ := Aside0.mk (blk_below (zh BK386.out) hb); have n8_ := Aside0.mk (below_step (zb HB.out) hb); clear HO_378000; clear HO_382000; clear HO_387000; clear HO390; clear BK368; clear BK377; clear BK381; clear BK386; clear HB; have HO_378000 := n0_; have HO_382000 := n1_; have HO_387000 := n2_; have HO390 := n3_; have BK368 := n4_; have BK377 := n5_; have BK381 := n6_; have BK386 := n7_; have HB := n8_; clear n0_ n1_ n2_ n3_ n4_ n5_ n6_ n7_ n8_; (try clear hb); (try clear hb2); (try clear hk); (try clear hi)))
         go_meet
         case rel => exact ⟨_, ((t385 != t376)), (by first | rfl | (simp; done) | (simp [*]; done)), H', ⟨by have := HJ11.out; first | omega | exact Nat.le_refl _⟩, ⟨zr (Kd.R_mono HO_378000.out (fun _ hk => ⟨hk.1, hk.2.1⟩))⟩, ⟨zr (Kd.R_mono HO_382000.out (fun _ hk => ⟨hk.1.1, hk.1.2⟩))⟩, ⟨zr (Kd.R_mono HO_387000.out (fun _ hk => ⟨hk.1, hk.2.1⟩))⟩, ⟨zh BK368.out⟩, ⟨zh BK377.out⟩, ⟨zh BK381.out⟩, ⟨zh BK386.out⟩, ⟨zb HB.out⟩⟩
        ·replace c73 := Bool.eq_false_iff.mpr c73
         subst c73
         have H1 : (laws_FnExactMakePower.j1 kj11 a1 t376 true l0_0 t373 t382) = some r := by rw [if_neg (show ¬ (false = true) by decide)] at H; exact H
         clear H
         have H := H1
         clear H1
         have H' := Aside0.mk H
         clear H
         have hnb82 := NB386_368.out
         have hnc82 := NB368_386.out
         have hnb83 := NB386_377.out
         have hnc83 := NB377_386.out
         have hnb84 := NB386_381.out
         have hnc84 := NB381_386.out
         have hcz85_0 : w70.cell? ⟨gb386, 0, none⟩ = some (.slice Ao33 t382.length co33) := (blk_cell BK386.out 0).trans rfl
         have hfz85_0 := blk_frozen BK386.out 0
         have hnb86 := NB377_368.out
         have hnc86 := NB368_377.out
         have hnb87 := NB377_381.out
         have hnc87 := NB381_377.out
         have hcz88_0 : w70.cell? ⟨gb377, 0, none⟩ = some (.slice Ao21 t373.length co21) := (blk_cell BK377.out 0).trans rfl
         have hfz88_0 := blk_frozen BK377.out 0
         go_wp2_with (first | (go_at_call 17; (with_reducible refine (laws_eqPool.calls kj11 _ _ t382 _ _ t373 false _ ?side1 ?side2 ?side3 ?side4 A72.out).mono ?_); (case side1 => exact zc (Kd.R_reads' HO_387000.out).2.2); (case side2 => exact (Kd.R_reads' HO_387000.out).2.1); (case side3 => exact zc (Kd.R_reads' HO_378000.out).2.2); (case side4 => exact (Kd.R_reads' HO_378000.out).2.1); rintro e w89 ⟨rfl, hb⟩; have n0_ := Aside0.mk (Kd.R_below (zr HO_378000.out) hb); have n1_ := Aside0.mk (Kd.R_below (zr HO_382000.out) hb); have n2_ := Aside0.mk (Kd.R_below (zr HO_387000.out) hb); have n3_ := Aside0.mk (Kd.R_below (zr HO390.out) hb); have n4_ := Aside0.mk (blk_below (zh BK368.out) hb); have n5_ := Aside0.mk (blk_below (zh BK377.out) hb); have n6_ := Aside0.mk (blk_below (zh BK381.out) hb); have n7_ := Aside0.mk (blk_below (zh BK386.out) hb); have n8_ := Aside0.mk (below_step (zb HB.out) hb); clear HO_378000; clear HO_382000; clear HO_387000; clear HO390; clear BK368; clear BK377; clear BK381; clear BK386; clear HB; have HO_378000 := n0_; have HO_382000 := n1_; have HO_387000 := n2_; have HO390 := n3_; have BK368 := n4_; have BK377 := n5_; have BK381 := n6_; have BK386 := n7_; have HB := n8_; clear n0_ n1_ n2_ n3_ n4_ n5_ n6_ n7_ n8_; (try clear hb); (try clear hb2); (try clear hk); (try clear hi)))
         go_meet
         case rel => exact ⟨_, (true), (by first | rfl | (simp; done) | (simp [*]; done)), H', ⟨by have := HJ11.out; first | omega | exact Nat.le_refl _⟩, ⟨zr (Kd.R_mono HO_378000.out (fun _ hk => ⟨hk.1, hk.2.1⟩))⟩, ⟨zr (Kd.R_mono HO_382000.out (fun _ hk => ⟨hk.1.1, hk.1.2⟩))⟩, ⟨zr (Kd.R_mono HO_387000.out (fun _ hk => ⟨hk.1, hk.2.1⟩))⟩, ⟨zh BK368.out⟩, ⟨zh BK377.out⟩, ⟨zh BK381.out⟩, ⟨zh BK386.out⟩, ⟨zb HB.out⟩⟩
      case rest =>
       clear HC61
       try clear c1
       try clear c2
       try clear p2
       try clear c3
       try clear c4
       try clear c4b0
       try clear c5
       try clear c6
       try clear c7
       try clear c8
       try clear c13
       try clear c15
       try clear c17
       try clear c18
       try clear c22
       try clear c24
       try clear c25
       try clear c28
       try clear c29
       try clear c34
       try clear c35
       try clear c36
       try clear c39
       try clear c40
       try clear c41
       try clear c42
       try clear c44
       try clear c45
       try clear c48
       try clear c49
       try clear c50
       try clear c52
       try clear c53
       try clear c56
       try clear c59
       try clear c66
       try clear c67
       try clear c68
       try clear c71
       try clear c71b0
       try clear c73
       try clear c74
       try clear c75
       try clear c76
       try clear c78
       try clear c79
       try clear c82
       try clear c83
       try clear c84
       try clear c86
       try clear c87
       try clear hcz14_0
       try clear hcz16_0
       try clear hcz23_0
       try clear hcz24_0
       try clear hcz30_0
       try clear hcz37_0
       try clear hcz43_0
       try clear hcz46_0
       try clear hcz51_0
       try clear hcz54_0
       try clear hcz69_0
       try clear hcz6_0
       try clear hcz77_0
       try clear hcz80_0
       try clear hcz85_0
       try clear hcz88_0
       try clear hfz14_0
       try clear hfz16_0
       try clear hfz23_0
       try clear hfz24_0
       try clear hfz30_0
       try clear hfz37_0
       try clear hfz43_0
       try clear hfz46_0
       try clear hfz51_0
       try clear hfz54_0
       try clear hfz69_0
       try clear hfz6_0
       try clear hfz77_0
       try clear hfz80_0
       try clear hfz85_0
       try clear hfz88_0
       try clear p2
       obtain ⟨kq, x65_60, rfl, HA, HJ60, HO_378000, HO_382000, HO_387000, BK368, BK377, BK381, BK386, HB⟩ := hcut
       have hl382000_60 := (Kd.R_reads' HO_382000.out).1
       rw [hl382000_60] at HO_382000
       (try simp only [hl382000_60])
       (try simp only [hl382000_60] at BK368)
       (try simp only [hl382000_60] at BK377)
       (try simp only [hl382000_60] at BK381)
       (try simp only [hl382000_60] at BK386)
       (try simp only [hl382000_60] at HO_378000)
       (try simp only [hl382000_60] at HO_387000)
       cases kq with
       | zero => exact absurd HA.out (by simp [laws_FnExactMakePower.j1])
       | succ kj60 =>
        have H := HA.out
        clear HA
        simp only [laws_FnExactMakePower.j1] at H
        by_cases c90 : x65_60 = true
        ·subst c90
         have H1 : (some false) = some r := by rw [if_pos rfl] at H; exact H
         clear H
         have H := H1
         clear H1
         obtain rfl := Option.some.inj H
         go_wp2
         go_ret
         exact ⟨ze, zb HB.out⟩
        ·replace c90 := Bool.eq_false_iff.mpr c90
         subst c90
         have H1 : ((laws_markPool.f kj60 t382 1).bind fun bt395 => ((laws_heldPool.f kj60 bt395.2 1).bind fun t397 => (if t397 < 0 then (some false) else (if t397 = bt395.1 then ((laws_toPool.f kj60 l0_0).bind fun t398 => ((impl_MakePower.f kj60 t398 a1).bind fun bt401 => ((laws_eqPool.f kj60 bt401.1 t373).bind fun t406 => (if t406 = true then (laws_FnExactMakePower.j2 kj60 bt395.1 (bt401.2 != t376) bt395.2) else (laws_FnExactMakePower.j2 kj60 bt395.1 true bt395.2))))) else (some false))))) = some r := by rw [if_neg (show ¬ (false = true) by decide)] at H; exact H
         clear H
         have H := H1
         clear H1
         replace H := Option.bind_eq_some_iff.mp H
         obtain ⟨⟨t395, t396⟩, A910, H⟩ := H
         replace H : ((laws_heldPool.f kj60 t396 1).bind fun t397 => (if t397 < 0 then (some false) else (if t397 = t395 then ((laws_toPool.f kj60 l0_0).bind fun t398 => ((impl_MakePower.f kj60 t398 a1).bind fun bt401 => ((laws_eqPool.f kj60 bt401.1 t373).bind fun t406 => (if t406 = true then (laws_FnExactMakePower.j2 kj60 t395 (bt401.2 != t376) t396) else (laws_FnExactMakePower.j2 kj60 t395 true t396))))) else (some false)))) = some r := H
         have A91 := Aside0.mk A910
         clear A910
         replace H := Option.bind_eq_some_iff.mp H
         obtain ⟨t397, A920, H⟩ := H
         replace H : (if t397 < 0 then (some false) else (if t397 = t395 then ((laws_toPool.f kj60 l0_0).bind fun t398 => ((impl_MakePower.f kj60 t398 a1).bind fun bt401 => ((laws_eqPool.f kj60 bt401.1 t373).bind fun t406 => (if t406 = true then (laws_FnExactMakePower.j2 kj60 t395 (bt401.2 != t376) t396) else (laws_FnExactMakePower.j2 kj60 t395 true t396))))) else (some false))) = some r := H
         have A92 := Aside0.mk A920
         clear A920
         by_cases c93 : t397 < 0
         ·rw [if_pos c93] at H
          have c93b0 : decide (t397 < 0) = true := decide_eq_true c93
          clear c93
          obtain rfl := Option.some.inj H
          have hnb94 := NB386_368.out
          have hnc94 := NB368_386.out
          have hnb95 := NB386_377.out
          have hnc95 := NB377_386.out
          have hnb96 := NB386_381.out
          have hnc96 := NB381_386.out
          have hcz97_0 : wc.cell? ⟨gb386, 0, none⟩ = some (.slice Ao33 t382.length co33) := (blk_cell BK386.out 0).trans rfl
          have hfz97_0 := blk_frozen BK386.out 0
          go_wp2_with (first | ((with_reducible refine gate_callee (f := 18) rfl ?_); refine goesL_ (some 68) rfl rfl Try.func18 (by kernel_rfl) rfl #[.agg #[.slice Ao33 t382.length co33], .int .i64 1] rfl zl ?_; (with_reducible refine (laws_markPool.calls kj60 (fun k_ => some k_ = (.slice Ao33 t382.length co33 : Value).ownBlock) (.slice Ao33 t382.length co33) t382 1 t395 t396 w _ ?side1 ?side2 A91.out).mono ?_); (case side1 => repeat (first | (with_reducible first | exact HB.out | apply below_alloc | apply pw_below_drewN | apply below_drew1 | refine below_set ?_ GE368.out | refine below_set ?_ GE377.out | refine below_set ?_ GE381.out | refine below_set ?_ GE386.out) | exact HB.out)); (case side2 => exact Kd.R_tight rfl HO_387000.out); rintro e w98 ⟨rfl, hy0, hb, hkp⟩; refine ⟨_, rfl, ?_⟩; have n0_ := Aside0.mk (Kd.R_mono (ok' := fun k_ => some k_ ≠ (.slice Ao27 t393.length co27 : Value).ownBlock ∧ some k_ ≠ (.slice Ao33 t382.length co33 : Value).ownBlock) (Kd.R_keptB (HO_378000.out) hkp (fun k_ hk_ hs_ => by first | exact (hk_.2) hs_ | (revert hk_; simp only [and_imp]; intros; exact absurd hs_ (by assumption)))) (fun k_ hk_ => by first | exact ⟨hk_.1.1, hk_.1.2⟩ | (revert hk_; simp only [and_imp]; intros; and_intros <;> assumption))); have n1_ := Aside0.mk (Kd.R_mono (ok' := fun k_ => some k_ ≠ (.slice Ao21 t373.length co21 : Value).ownBlock ∧ some k_ ≠ (.slice Ao33 t382.length co33 : Value).ownBlock) (Kd.R_keptB (HO_382000.out) hkp (fun k_ hk_ hs_ => by first | exact (hk_.2) hs_ | (revert hk_; simp only [and_imp]; intros; exact absurd hs_ (by assumption)))) (fun k_ hk_ => by first | exact ⟨hk_.1.1, hk_.1.2⟩ | (revert hk_; simp only [and_imp]; intros; and_intros <;> assumption))); have n2_ := Aside0.mk (Kd.R_reok rfl hy0 (fun k_ e_ => HO_387000.out.1 k_ e_)); have n3_ := Aside0.mk (blk_kept (zh BK368.out) hkp (fun hs_ => (fun e_ => (Kd.R_ne HO_387000.out BK368.out (by decide)) e_) hs_)); have n4_ := Aside0.mk (blk_kept (zh BK377.out) hkp (fun hs_ => (fun e_ => (Kd.R_ne HO_387000.out BK377.out (by decide)) e_) hs_)); have n5_ := Aside0.mk (blk_kept (zh BK381.out) hkp (fun hs_ => (fun e_ => (Kd.R_ne HO_387000.out BK381.out (by decide)) e_) hs_)); have n6_ := Aside0.mk (blk_kept (zh BK386.out) hkp (fun hs_ => (fun e_ => (Kd.R_ne HO_387000.out BK386.out (by decide)) e_) hs_)); have n7_ := Aside0.mk (hb); clear HO_378000; clear HO_382000; clear HO_387000; clear BK368; clear BK377; clear BK381; clear BK386; clear HB; have HO_378000 := n0_; have HO_382000 := n1_; have HO_387000 := n2_; have BK368 := n3_; have BK377 := n4_; have BK381 := n5_; have BK386 := n6_; have HB := n7_; clear n0_ n1_ n2_ n3_ n4_ n5_ n6_ n7_; (try clear hb); (try clear hkp); (try clear hy0); have hcz99_0 : w98.cell? ⟨gb386, 0, none⟩ = some (.slice Ao33 t382.length co33) := (blk_cell BK386.out 0).trans rfl; have hfz99_0 := blk_frozen BK386.out 0) | ((with_reducible refine gate_callee (f := 19) rfl ?_); refine goesL_ (some 71) rfl rfl Try.func19 (by kernel_rfl) rfl #[.agg #[.slice Ao33 t396.length co33], .int .i64 1] rfl (by (try simp only [List.map_toArray, List.map_cons, List.map_nil]); first | done | (rw [show t396.length = t382.length from (Kd.R_reads' HO_387000.out).1.symm] <;> rfl) | rfl | (simp only [List.length_drop, List.length_take]; rfl)) ?_; (with_reducible refine (laws_heldPool.calls kj60 _ _ t396 1 t397 _ ?side1 ?side2 A92.out).mono ?_); (case side1 => exact zc (Kd.R_reads' HO_387000.out).2.2); (case side2 => rw [show t396.length = t382.length from (Kd.R_reads' HO_387000.out).1.symm]; exact (Kd.R_reads' HO_387000.out).2.1); rintro e w100 ⟨rfl, hb⟩; refine ⟨_, rfl, ?_⟩; have n0_ := Aside0.mk (Kd.R_below (zr HO_378000.out) hb); have n1_ := Aside0.mk (Kd.R_below (zr HO_382000.out) hb); have n2_ := Aside0.mk (Kd.R_below (zr HO_387000.out) hb); have n3_ := Aside0.mk (blk_below (zh BK368.out) hb); have n4_ := Aside0.mk (blk_below (zh BK377.out) hb); have n5_ := Aside0.mk (blk_below (zh BK381.out) hb); have n6_ := Aside0.mk (blk_below (zh BK386.out) hb); have n7_ := Aside0.mk (below_step (zb HB.out) hb); clear HO_378000; clear HO_382000; clear HO_387000; clear BK368; clear BK377; clear BK381; clear BK386; clear HB; have HO_378000 := n0_; have HO_382000 := n1_; have HO_387000 := n2_; have BK368 := n3_; have BK377 := n4_; have BK381 := n5_; have BK386 := n6_; have HB := n7_; clear n0_ n1_ n2_ n3_ n4_ n5_ n6_ n7_; (try clear hb); (try clear hb2); (try clear hk); (try clear hi)))
          go_ret
          exact ⟨ze, zb HB.out⟩
         ·rw [if_neg c93] at H
          have c93b0 : decide (t397 < 0) = false := decide_eq_false c93
          clear c93
          by_cases c101 : t397 = t395
          ·rw [if_pos c101] at H
           have c101b0 : (t397 == t395) = true := beq_iff_eq.mpr c101
           have c101b1 : (t397 != t395) = false := bne_eq_false_iff_eq.mpr c101
           clear c101
           replace H := Option.bind_eq_some_iff.mp H
           obtain ⟨t398, A1020, H⟩ := H
           replace H : ((impl_MakePower.f kj60 t398 a1).bind fun bt401 => ((laws_eqPool.f kj60 bt401.1 t373).bind fun t406 => (if t406 = true then (laws_FnExactMakePower.j2 kj60 t395 (bt401.2 != t376) t396) else (laws_FnExactMakePower.j2 kj60 t395 true t396)))) = some r := H
           have A102 := Aside0.mk A1020
           clear A1020
           replace H := Option.bind_eq_some_iff.mp H
           obtain ⟨⟨t401, t404⟩, A1030, H⟩ := H
           replace H : ((laws_eqPool.f kj60 t401 t373).bind fun t406 => (if t406 = true then (laws_FnExactMakePower.j2 kj60 t395 (t404 != t376) t396) else (laws_FnExactMakePower.j2 kj60 t395 true t396))) = some r := H
           have A103 := Aside0.mk A1030
           clear A1030
           have HC104 := Aside0.mk H
           clear H
           have hnb105 := NB386_368.out
           have hnc105 := NB368_386.out
           have hnb106 := NB386_377.out
           have hnc106 := NB377_386.out
           have hnb107 := NB386_381.out
           have hnc107 := NB381_386.out
           have hcz108_0 : wc.cell? ⟨gb386, 0, none⟩ = some (.slice Ao33 t382.length co33) := (blk_cell BK386.out 0).trans rfl
           have hfz108_0 := blk_frozen BK386.out 0
           go_upto_region 25 with (first | ((with_reducible refine gate_callee (f := 18) rfl ?_); refine goesL_ (some 68) rfl rfl Try.func18 (by kernel_rfl) rfl #[.agg #[.slice Ao33 t382.length co33], .int .i64 1] rfl zl ?_; (with_reducible refine (laws_markPool.calls kj60 (fun k_ => some k_ = (.slice Ao33 t382.length co33 : Value).ownBlock) (.slice Ao33 t382.length co33) t382 1 t395 t396 w _ ?side1 ?side2 A91.out).mono ?_); (case side1 => repeat (first | (with_reducible first | exact HB.out | apply below_alloc | apply pw_below_drewN | apply below_drew1 | refine below_set ?_ GE368.out | refine below_set ?_ GE377.out | refine below_set ?_ GE381.out | refine below_set ?_ GE386.out) | exact HB.out)); (case side2 => exact Kd.R_tight rfl HO_387000.out); rintro e w109 ⟨rfl, hy0, hb, hkp⟩; refine ⟨_, rfl, ?_⟩; have n0_ := Aside0.mk (Kd.R_mono (ok' := fun k_ => some k_ ≠ (.slice Ao27 t393.length co27 : Value).ownBlock ∧ some k_ ≠ (.slice Ao33 t382.length co33 : Value).ownBlock) (Kd.R_keptB (HO_378000.out) hkp (fun k_ hk_ hs_ => by first | exact (hk_.2) hs_ | (revert hk_; simp only [and_imp]; intros; exact absurd hs_ (by assumption)))) (fun k_ hk_ => by first | exact ⟨hk_.1.1, hk_.1.2⟩ | (revert hk_; simp only [and_imp]; intros; and_intros <;> assumption))); have n1_ := Aside0.mk (Kd.R_mono (ok' := fun k_ => some k_ ≠ (.slice Ao21 t373.length co21 : Value).ownBlock ∧ some k_ ≠ (.slice Ao33 t382.length co33 : Value).ownBlock) (Kd.R_keptB (HO_382000.out) hkp (fun k_ hk_ hs_ => by first | exact (hk_.2) hs_ | (revert hk_; simp only [and_imp]; intros; exact absurd hs_ (by assumption)))) (fun k_ hk_ => by first | exact ⟨hk_.1.1, hk_.1.2⟩ | (revert hk_; simp only [and_imp]; intros; and_intros <;> assumption))); have n2_ := Aside0.mk (Kd.R_reok rfl hy0 (fun k_ e_ => HO_387000.out.1 k_ e_)); have n3_ := Aside0.mk (blk_kept (zh BK368.out) hkp (fun hs_ => (fun e_ => (Kd.R_ne HO_387000.out BK368.out (by decide)) e_) hs_)); have n4_ := Aside0.mk (blk_kept (zh BK377.out) hkp (fun hs_ => (fun e_ => (Kd.R_ne HO_387000.out BK377.out (by decide)) e_) hs_)); have n5_ := Aside0.mk (blk_kept (zh BK381.out) hkp (fun hs_ => (fun e_ => (Kd.R_ne HO_387000.out BK381.out (by decide)) e_) hs_)); have n6_ := Aside0.mk (blk_kept (zh BK386.out) hkp (fun hs_ => (fun e_ => (Kd.R_ne HO_387000.out BK386.out (by decide)) e_) hs_)); have n7_ := Aside0.mk (hb); clear HO_378000; clear HO_382000; clear HO_387000; clear BK368; clear BK377; clear BK381; clear BK386; clear HB; have HO_378000 := n0_; have HO_382000 := n1_; have HO_387000 := n2_; have BK368 := n3_; have BK377 := n4_; have BK381 := n5_; have BK386 := n6_; have HB := n7_; clear n0_ n1_ n2_ n3_ n4_ n5_ n6_ n7_; (try clear hb); (try clear hkp); (try clear hy0); have hcz110_0 : w109.cell? ⟨gb386, 0, none⟩ = some (.slice Ao33 t382.length co33) := (blk_cell BK386.out 0).trans rfl; have hfz110_0 := blk_frozen BK386.out 0) | ((with_reducible refine gate_callee (f := 19) rfl ?_); refine goesL_ (some 71) rfl rfl Try.func19 (by kernel_rfl) rfl #[.agg #[.slice Ao33 t396.length co33], .int .i64 1] rfl (by (try simp only [List.map_toArray, List.map_cons, List.map_nil]); first | done | (rw [show t396.length = t382.length from (Kd.R_reads' HO_387000.out).1.symm] <;> rfl) | rfl | (simp only [List.length_drop, List.length_take]; rfl)) ?_; (with_reducible refine (laws_heldPool.calls kj60 _ _ t396 1 t397 _ ?side1 ?side2 A92.out).mono ?_); (case side1 => exact zc (Kd.R_reads' HO_387000.out).2.2); (case side2 => rw [show t396.length = t382.length from (Kd.R_reads' HO_387000.out).1.symm]; exact (Kd.R_reads' HO_387000.out).2.1); rintro e w111 ⟨rfl, hb⟩; refine ⟨_, rfl, ?_⟩; have n0_ := Aside0.mk (Kd.R_below (zr HO_378000.out) hb); have n1_ := Aside0.mk (Kd.R_below (zr HO_382000.out) hb); have n2_ := Aside0.mk (Kd.R_below (zr HO_387000.out) hb); have n3_ := Aside0.mk (blk_below (zh BK368.out) hb); have n4_ := Aside0.mk (blk_below (zh BK377.out) hb); have n5_ := Aside0.mk (blk_below (zh BK381.out) hb); have n6_ := Aside0.mk (blk_below (zh BK386.out) hb); have n7_ := Aside0.mk (below_step (zb HB.out) hb); clear HO_378000; clear HO_382000; clear HO_387000; clear BK368; clear BK377; clear BK381; clear BK386; clear HB; have HO_378000 := n0_; have HO_382000 := n1_; have HO_387000 := n2_; have BK368 := n3_; have BK377 := n4_; have BK381 := n5_; have BK386 := n6_; have HB := n7_; clear n0_ n1_ n2_ n3_ n4_ n5_ n6_ n7_; (try clear hb); (try clear hb2); (try clear hk); (try clear hi); have hnb112 := NB368_377.out; have hnc112 := NB377_368.out; have hnb113 := NB368_381.out; have hnc113 := NB381_368.out; have hcz114_0 : w111.cell? ⟨gb368, 0, none⟩ = some (.slice A0_0 l0_0.length c0_0) := (blk_cell BK368.out 0).trans rfl; have hfz114_0 := blk_frozen BK368.out 0) | ((with_reducible refine gate_callee (f := 15) rfl ?_); refine goesL_ (some 79) rfl rfl Try.func15 (by kernel_rfl) rfl #[.agg #[.slice A0_0 l0_0.length c0_0]] rfl zl ?_; (with_reducible refine (laws_toPool.calls kj60 _ _ l0_0 t398 _ ?side1 ?side2 A102.out).mono ?_); (case side1 => exact zc (Kd.C_below HR0_0.out HB.out)); (case side2 => exact HC0_0.out); rintro e w115 ⟨v399, rfl, ho0, hb⟩; refine ⟨_, rfl, ?_⟩; have n0_ := Aside0.mk (Kd.R_elder' (zr HO_378000.out) (Kd.R_base ho0) hb); have n1_ := Aside0.mk (Kd.R_elder' (zr HO_382000.out) (Kd.R_base ho0) hb); have n2_ := Aside0.mk (Kd.R_elder' (zr HO_387000.out) (Kd.R_base ho0) hb); have n3_ := Aside0.mk (Kd.R_lower (Kd.R_new' (Kd.R_new' (Kd.R_new' ho0 (Kd.R_lt (zr HO_378000.out))) (Kd.R_lt (zr HO_382000.out))) (Kd.R_lt (zr HO_387000.out))) (below_size (zb HB.out))); have n4_ := Aside0.mk (blk_below (zh BK368.out) hb); have n5_ := Aside0.mk (blk_below (zh BK377.out) hb); have n6_ := Aside0.mk (blk_below (zh BK381.out) hb); have n7_ := Aside0.mk (blk_below (zh BK386.out) hb); have n8_ := Aside0.mk (below_step (zb HB.out) hb); clear HO_378000; clear HO_382000; clear HO_387000; clear BK368; clear BK377; clear BK381; clear BK386; clear HB; have HO_378000 := n0_; have HO_382000 := n1_; have HO_387000 := n2_; have HO400 := n3_; have BK368 := n4_; have BK377 := n5_; have BK381 := n6_; have BK386 := n7_; have HB := n8_; clear n0_ n1_ n2_ n3_ n4_ n5_ n6_ n7_ n8_; (try clear hb); (try clear hb2); (try clear hk); (try clear hi); (try clear ho0); obtain ⟨Ao116, co116, eo116⟩ := Kd.R_slice HO400.out; subst eo116) | ((with_reducible refine gate_callee (f := 25) rfl ?_); refine goesL_ (some 81) rfl rfl Try.func25 (by kernel_rfl) rfl #[.agg #[.slice Ao116 t398.length co116], .int .i64 a1] rfl zl ?_; (with_reducible refine (impl_MakePower.calls kj60 _ _ t398 a1 t401 t404 _ ?side1 ?side2 A103.out).mono ?_); (case side1 => exact zc (Kd.R_reads' HO400.out).2.2); (case side2 => exact (Kd.R_reads' HO400.out).2.1); rintro e w117 ⟨v402, rfl, ho0, hb⟩; refine ⟨_, rfl, ?_⟩; have n0_ := Aside0.mk (Kd.R_elder' (zr HO_378000.out) (Kd.R_base ho0) hb); have n1_ := Aside0.mk (Kd.R_elder' (zr HO_382000.out) (Kd.R_base ho0) hb); have n2_ := Aside0.mk (Kd.R_elder' (zr HO_387000.out) (Kd.R_base ho0) hb); have n3_ := Aside0.mk (Kd.R_elder' (zr HO400.out) (Kd.R_base ho0) hb); have n4_ := Aside0.mk (Kd.R_lower (Kd.R_new' (Kd.R_new' (Kd.R_new' (Kd.R_new' ho0 (Kd.R_lt (zr HO_378000.out))) (Kd.R_lt (zr HO_382000.out))) (Kd.R_lt (zr HO_387000.out))) (Kd.R_lt (zr HO400.out))) (below_size (zb HB.out))); have n5_ := Aside0.mk (blk_below (zh BK368.out) hb); have n6_ := Aside0.mk (blk_below (zh BK377.out) hb); have n7_ := Aside0.mk (blk_below (zh BK381.out) hb); have n8_ := Aside0.mk (blk_below (zh BK386.out) hb); have n9_ := Aside0.mk (below_step (zb HB.out) hb); clear HO_378000; clear HO_382000; clear HO_387000; clear HO400; clear BK368; clear BK377; clear BK381; clear BK386; clear HB; have HO_378000 := n0_; have HO_382000 := n1_; have HO_387000 := n2_; have HO400 := n3_; have HO403 := n4_; have BK368 := n5_; have BK377 := n6_; have BK381 := n7_; have BK386 := n8_; have HB := n9_; clear n0_ n1_ n2_ n3_ n4_ n5_ n6_ n7_ n8_ n9_; (try clear hb); (try clear hb2); (try clear hk); (try clear hi); (try clear ho0)) | ((with_reducible refine gate_dst (N := 14) rfl ?_); refine box_event ?hg (N := 14) ?hd (cs := #[.slice none 0 0]) (t := 28) ?hr ?_; (case hd => rfl); (case hg => rfl); (case hr => first | (go_simp; done) | (go_simp; rfl)); intro gb405 hg w118 hbox hb; have n0_ := Aside0.mk (Kd.R_below (zr HO_378000.out) hb); have n1_ := Aside0.mk (Kd.R_below (zr HO_382000.out) hb); have n2_ := Aside0.mk (Kd.R_below (zr HO_387000.out) hb); have n3_ := Aside0.mk (Kd.R_below (zr HO400.out) hb); have n4_ := Aside0.mk (Kd.R_below (zr HO403.out) hb); have n5_ := Aside0.mk (blk_below (zh BK368.out) hb); have n6_ := Aside0.mk (blk_below (zh BK377.out) hb); have n7_ := Aside0.mk (blk_below (zh BK381.out) hb); have n8_ := Aside0.mk (blk_below (zh BK386.out) hb); have n9_ := Aside0.mk (below_step (zb HB.out) hb); have n10_ := Aside0.mk (hbox); have n11_ := Aside0.mk ((by rw [hg]; exact (below_size (zb HB.out)) : w.heap.size ≤ gb405)); have n12_ := Aside0.mk ((by rw [hg]; exact (below_size (zb HB.out)) : w.heap.size ≤ gb405)); have n13_ := Aside0.mk ((by rw [hg]; exact Nat.ne_of_lt (blk_lt (zh BK368.out)) : gb368 ≠ gb405)); have n14_ := Aside0.mk ((by rw [hg]; exact Nat.ne_of_gt (blk_lt (zh BK368.out)) : gb405 ≠ gb368)); have n15_ := Aside0.mk ((by rw [hg]; exact Nat.ne_of_lt (blk_lt (zh BK377.out)) : gb377 ≠ gb405)); have n16_ := Aside0.mk ((by rw [hg]; exact Nat.ne_of_gt (blk_lt (zh BK377.out)) : gb405 ≠ gb377)); have n17_ := Aside0.mk ((by rw [hg]; exact Nat.ne_of_lt (blk_lt (zh BK381.out)) : gb381 ≠ gb405)); have n18_ := Aside0.mk ((by rw [hg]; exact Nat.ne_of_gt (blk_lt (zh BK381.out)) : gb405 ≠ gb381)); have n19_ := Aside0.mk ((by rw [hg]; exact Nat.ne_of_lt (blk_lt (zh BK386.out)) : gb386 ≠ gb405)); have n20_ := Aside0.mk ((by rw [hg]; exact Nat.ne_of_gt (blk_lt (zh BK386.out)) : gb405 ≠ gb386)); clear HO_378000; clear HO_382000; clear HO_387000; clear HO400; clear HO403; clear BK368; clear BK377; clear BK381; clear BK386; clear HB; have HO_378000 := n0_; have HO_382000 := n1_; have HO_387000 := n2_; have HO400 := n3_; have HO403 := n4_; have BK368 := n5_; have BK377 := n6_; have BK381 := n7_; have BK386 := n8_; have HB := n9_; have BK405 := n10_; have GW405 := n11_; have GE405 := n12_; have NB368_405 := n13_; have NB405_368 := n14_; have NB377_405 := n15_; have NB405_377 := n16_; have NB381_405 := n17_; have NB405_381 := n18_; have NB386_405 := n19_; have NB405_386 := n20_; clear n0_ n1_ n2_ n3_ n4_ n5_ n6_ n7_ n8_ n9_ n10_ n11_ n12_ n13_ n14_ n15_ n16_ n17_ n18_ n19_ n20_; clear hb hbox hg; obtain ⟨Ao119, co119, eo119⟩ := Kd.R_slice HO403.out; subst eo119; have hnb120 := NB405_368.out; have hnc120 := NB368_405.out; have hnb121 := NB405_377.out; have hnc121 := NB377_405.out; have hnb122 := NB405_381.out; have hnc122 := NB381_405.out; have hnb123 := NB405_386.out; have hnc123 := NB386_405.out; have hcz124_0 : w118.cell? ⟨gb405, 0, none⟩ = some (.slice none 0 0) := (blk_cell BK405.out 0).trans rfl; have hfz124_0 := blk_frozen BK405.out 0))
           (try simp only [Act.put, List.setIfInBounds_toArray, List.set_cons_zero, List.set_cons_succ])
           go_cut [92] (fun v92 wc => ∃ (kq : Nat) (x92_103 : Bool), v92 = .bool x92_103 ∧ Aside0 (laws_FnExactMakePower.j2 kq t395 x92_103 t396 = some r) ∧ Aside0 (kq ≤ kj60) ∧ Aside0 (Kd.R k49 49 wc w.heap.size (fun k_ => some k_ ≠ ((.slice Ao27 t393.length co27) : Value).ownBlock ∧ some k_ ≠ ((.slice Ao33 t382.length co33) : Value).ownBlock ∧ some k_ ≠ ((.slice Ao119 t401.length co119) : Value).ownBlock) (.slice Ao21 t373.length co21) t373) ∧ Aside0 (Kd.R k49 49 wc w.heap.size (fun k_ => some k_ ≠ ((.slice Ao21 t373.length co21) : Value).ownBlock ∧ some k_ ≠ ((.slice Ao33 t382.length co33) : Value).ownBlock ∧ some k_ ≠ ((.slice Ao119 t401.length co119) : Value).ownBlock) (.slice Ao27 t393.length co27) t393) ∧ Aside0 (Kd.R k49 49 wc w.heap.size (fun k_ => some k_ ≠ ((.slice Ao21 t373.length co21) : Value).ownBlock ∧ some k_ ≠ ((.slice Ao27 t393.length co27) : Value).ownBlock ∧ some k_ ≠ ((.slice Ao119 t401.length co119) : Value).ownBlock) (.slice Ao33 t382.length co33) t396) ∧ Aside0 (Kd.R k49 49 wc w.heap.size (fun k_ => some k_ ≠ ((.slice Ao21 t373.length co21) : Value).ownBlock ∧ some k_ ≠ ((.slice Ao27 t393.length co27) : Value).ownBlock ∧ some k_ ≠ ((.slice Ao33 t382.length co33) : Value).ownBlock) (.slice Ao119 t401.length co119) t401) ∧ Aside0 (wc.heap[gb368]? = some (.cells #[(.slice A0_0 l0_0.length c0_0)] 24 (0, 0))) ∧ Aside0 (wc.heap[gb377]? = some (.cells #[(.slice Ao21 t373.length co21)] 28 (0, 0))) ∧ Aside0 (wc.heap[gb381]? = some (.cells #[(.slice Ao27 t393.length co27)] 28 (0, 0))) ∧ Aside0 (wc.heap[gb386]? = some (.cells #[(.slice Ao33 t382.length co33)] 28 (0, 0))) ∧ Aside0 (wc.heap[gb405]? = some (.cells #[(.slice Ao119 t401.length co119)] 28 (0, 0))) ∧ Aside0 (Below w.heap.size w wc))
           case first =>
            have H := HC104.out
            clear HC104
            replace H := Option.bind_eq_some_iff.mp H
            obtain ⟨t406, A1250, H⟩ := H
            replace H : (if t406 = true then (laws_FnExactMakePower.j2 kj60 t395 (t404 != t376) t396) else (laws_FnExactMakePower.j2 kj60 t395 true t396)) = some r := H
            have A125 := Aside0.mk A1250
            clear A1250
            by_cases c126 : t406 = true
            ·subst c126
             have H1 : (laws_FnExactMakePower.j2 kj60 t395 (t404 != t376) t396) = some r := by rw [if_pos rfl] at H; exact H
             clear H
             have H := H1
             clear H1
             have H' := Aside0.mk H
             clear H
             have hnb127 := NB405_368.out
             have hnc127 := NB368_405.out
             have hnb128 := NB405_377.out
             have hnc128 := NB377_405.out
             have hnb129 := NB405_381.out
             have hnc129 := NB381_405.out
             have hnb130 := NB405_386.out
             have hnc130 := NB386_405.out
             have hcz131_0 : w118.cell? ⟨gb405, 0, none⟩ = some (.slice none 0 0) := (blk_cell BK405.out 0).trans rfl
             have hfz131_0 := blk_frozen BK405.out 0
             have hnb132 := NB377_368.out
             have hnc132 := NB368_377.out
             have hnb133 := NB377_381.out
             have hnc133 := NB381_377.out
             have hnb134 := NB377_386.out
             have hnc134 := NB386_377.out
             have hcz135_0 : w118.cell? ⟨gb377, 0, none⟩ = some (.slice Ao21 t373.length co21) := (blk_cell BK377.out 0).trans rfl
             have hfz135_0 := blk_frozen BK377.out 0
             go_wp2_with (first | ((with_reducible refine gate_callee (f := 17) rfl ?_); refine goesL_ (some 86) rfl rfl Try.func17 (by kernel_rfl) rfl #[.agg #[.slice Ao119 t401.length co119], .agg #[.slice Ao21 t373.length co21]] rfl zl ?_; (with_reducible refine (laws_eqPool.calls kj60 _ _ t401 _ _ t373 true _ ?side1 ?side2 ?side3 ?side4 A125.out).mono ?_); (case side1 => refine (Kd.R_reads' (e := 49) (base := w.heap.size) (ok := fun k_ => ((((True ∧ some k_ ≠ (.slice Ao21 t373.length co21 : Value).ownBlock) ∧ some k_ ≠ (.slice Ao27 t393.length co27 : Value).ownBlock) ∧ some k_ ≠ (.slice Ao33 t382.length co33 : Value).ownBlock) ∧ some k_ ≠ (.slice Ao116 t398.length co116 : Value).ownBlock)) (n := t401.length) (c := co119) ?_).2.2; exact (by (with_reducible repeat (first | apply Kd.R_alloc | apply Kd.R_drewN | apply Kd.R_drew)); exact (Kd.R_mono (Kd.R_far (p := ⟨gb405, 0, none⟩) (Kd.R_types HO403.out BK405.out (by decide)) (fun _ hk => hk.2) (.slice Ao119 t401.length co119)) (fun _ h_ => h_.1)))); (case side2 => exact (Kd.R_reads' HO403.out).2.1); (case side3 => refine (Kd.R_reads' (e := 49) (base := w.heap.size) (ok := fun k_ => (((some k_ ≠ (.slice Ao27 t393.length co27 : Value).ownBlock ∧ some k_ ≠ (.slice Ao33 t382.length co33 : Value).ownBlock) ∧ some k_ ≠ (.slice Ao116 t398.length co116 : Value).ownBlock) ∧ some k_ ≠ (.slice Ao119 t401.length co119 : Value).ownBlock)) (n := t373.length) (c := co21) ?_).2.2; exact (by (with_reducible repeat (first | apply Kd.R_alloc | apply Kd.R_drewN | apply Kd.R_drew)); exact (Kd.R_mono (Kd.R_far (p := ⟨gb405, 0, none⟩) (Kd.R_types HO_378000.out BK405.out (by decide)) (fun _ hk => hk.2) (.slice Ao119 t401.length co119)) (fun _ h_ => h_.1)))); (case side4 => exact (Kd.R_reads' HO_378000.out).2.1); rintro e w136 ⟨rfl, hb⟩; refine ⟨_, rfl, ?_⟩; have n0_ := Aside0.mk (Kd.R_below (by (with_reducible repeat (first | apply Kd.R_alloc | apply Kd.R_drewN | apply Kd.R_drew)); exact (Kd.R_mono (Kd.R_far (p := ⟨gb405, 0, none⟩) (Kd.R_types HO_378000.out BK405.out (by decide)) (fun _ hk => hk.2) (.slice Ao119 t401.length co119)) (fun _ h_ => h_.1))) hb); have n1_ := Aside0.mk (Kd.R_below (by (with_reducible repeat (first | apply Kd.R_alloc | apply Kd.R_drewN | apply Kd.R_drew)); exact (Kd.R_mono (Kd.R_far (p := ⟨gb405, 0, none⟩) (Kd.R_types HO_382000.out BK405.out (by decide)) (fun _ hk => hk.2) (.slice Ao119 t401.length co119)) (fun _ h_ => h_.1))) hb); have n2_ := Aside0.mk (Kd.R_below (by (with_reducible repeat (first | apply Kd.R_alloc | apply Kd.R_drewN | apply Kd.R_drew)); exact (Kd.R_mono (Kd.R_far (p := ⟨gb405, 0, none⟩) (Kd.R_types HO_387000.out BK405.out (by decide)) (fun _ hk => hk.2) (.slice Ao119 t401.length co119)) (fun _ h_ => h_.1))) hb); have n3_ := Aside0.mk (Kd.R_below (by (with_reducible repeat (first | apply Kd.R_alloc | apply Kd.R_drewN | apply Kd.R_drew)); exact (Kd.R_mono (Kd.R_far (p := ⟨gb405, 0, none⟩) (Kd.R_types HO400.out BK405.out (by decide)) (fun _ hk => hk.2) (.slice Ao119 t401.length co119)) (fun _ h_ => h_.1))) hb); have n4_ := Aside0.mk (Kd.R_below (by (with_reducible repeat (first | apply Kd.R_alloc | apply Kd.R_drewN | apply Kd.R_drew)); exact (Kd.R_mono (Kd.R_far (p := ⟨gb405, 0, none⟩) (Kd.R_types HO403.out BK405.out (by decide)) (fun _ hk => hk.2) (.slice Ao119 t401.length co119)) (fun _ h_ => h_.1))) hb); have n5_ := Aside0.mk (blk_below (g := gb368) (o := .cells #[.slice A0_0 l0_0.length c0_0] 24 (0, 0)) (zf BK368.out) hb); have n6_ := Aside0.mk (blk_below (g := gb377) (o := .cells #[.slice Ao21 t373.length co21] 28 (0, 0)) (zf BK377.out) hb); have n7_ := Aside0.mk (blk_below (g := gb381) (o := .cells #[.slice Ao27 t393.length co27] 28 (0, 0)) (zf BK381.out) hb); have n8_ := Aside0.mk (blk_below (g := gb386) (o := .cells #[.slice Ao33 t382.length co33] 28 (0, 0)) (zf BK386.out) hb); have n9_ := Aside0.mk (blk_below (g := gb405) (o := .cells #[.slice Ao119 t401.length co119] 28 (0, 0)) (by (with_reducible repeat (first | refine blk_drewN ?_ _ | refine blk_drew ?_ | refine blk_alloc ?_ _)); refine blk_put (cs := #[.slice none 0 0]) ?_ 0 _ rfl; (with_reducible repeat (first | refine blk_drewN ?_ _ | refine blk_drew ?_ | refine blk_alloc ?_ _)); exact BK405.out) hb); have n10_ := Aside0.mk (below_step (zb HB.out) hb); clear HO_378000; clear HO_382000; clear HO_387000; clear HO400; clear HO403; clear BK368; clear BK377; clear BK381; clear BK386; clear BK405; clear HB; have HO_378000 := n0_; have HO_382000 := n1_; have HO_387000 := n2_; have HO400 := n3_; have HO403 := n4_; have BK368 := n5_; have BK377 := n6_; have BK381 := n7_; have BK386 := n8_; have BK405 := n9_; have HB := n10_; clear n0_ n1_ n2_ n3_ n4_ n5_ n6_ n7_ n8_ n9_ n10_; (try clear hb); (try clear hb2); (try clear hk); (try clear hi)))
             go_meet
             case rel => exact ⟨_, ((t404 != t376)), (by first | rfl | (simp; done) | (simp [*]; done)), H', ⟨by have := HJ11.out; have := HJ60.out; first | omega | exact Nat.le_refl _⟩, ⟨by (try simp only [hl382000_60]); (with_reducible repeat (first | apply Kd.R_alloc | apply Kd.R_drewN | apply Kd.R_drew)); exact Kd.R_mono HO_378000.out (fun _ hk => ⟨hk.1.1.1, ⟨hk.1.1.2, hk.2⟩⟩)⟩, ⟨by (try simp only [hl382000_60]); (with_reducible repeat (first | apply Kd.R_alloc | apply Kd.R_drewN | apply Kd.R_drew)); exact Kd.R_mono HO_382000.out (fun _ hk => ⟨hk.1.1.1, ⟨hk.1.1.2, hk.2⟩⟩)⟩, ⟨by (try simp only [hl382000_60]); (with_reducible repeat (first | apply Kd.R_alloc | apply Kd.R_drewN | apply Kd.R_drew)); exact Kd.R_mono HO_387000.out (fun _ hk => ⟨hk.1.1.1, ⟨hk.1.1.2, hk.2⟩⟩)⟩, ⟨by (try simp only [hl382000_60]); (with_reducible repeat (first | apply Kd.R_alloc | apply Kd.R_drewN | apply Kd.R_drew)); exact Kd.R_mono HO403.out (fun _ hk => ⟨hk.1.1.1.2, ⟨hk.1.1.2, hk.1.2⟩⟩)⟩, ⟨by (try simp only [hl382000_60]); (with_reducible repeat (first | refine blk_drewN ?_ _ | refine blk_drew ?_ | refine blk_alloc ?_ _)); exact BK368.out⟩, ⟨by (try simp only [hl382000_60]); (with_reducible repeat (first | refine blk_drewN ?_ _ | refine blk_drew ?_ | refine blk_alloc ?_ _)); exact BK377.out⟩, ⟨by (try simp only [hl382000_60]); (with_reducible repeat (first | refine blk_drewN ?_ _ | refine blk_drew ?_ | refine blk_alloc ?_ _)); exact BK381.out⟩, ⟨by (try simp only [hl382000_60]); (with_reducible repeat (first | refine blk_drewN ?_ _ | refine blk_drew ?_ | refine blk_alloc ?_ _)); exact BK386.out⟩, ⟨by (try simp only [hl382000_60]); (with_reducible repeat (first | refine blk_drewN ?_ _ | refine blk_drew ?_ | refine blk_alloc ?_ _)); exact BK405.out⟩, ⟨zb HB.out⟩⟩
            ·replace c126 := Bool.eq_false_iff.mpr c126
             subst c126
             have H1 : (laws_FnExactMakePower.j2 kj60 t395 true t396) = some r := by rw [if_neg (show ¬ (false = true) by decide)] at H; exact H
             clear H
             have H := H1
             clear H1
             have H' := Aside0.mk H
             clear H
             have hnb137 := NB405_368.out
             have hnc137 := NB368_405.out
             have hnb138 := NB405_377.out
             have hnc138 := NB377_405.out
             have hnb139 := NB405_381.out
             have hnc139 := NB381_405.out
             have hnb140 := NB405_386.out
             have hnc140 := NB386_405.out
             have hcz141_0 : w118.cell? ⟨gb405, 0, none⟩ = some (.slice none 0 0) := (blk_cell BK405.out 0).trans rfl
             have hfz141_0 := blk_frozen BK405.out 0
             have hnb142 := NB377_368.out
             have hnc142 := NB368_377.out
             have hnb143 := NB377_381.out
             have hnc143 := NB381_377.out
             have hnb144 := NB377_386.out
             have hnc144 := NB386_377.out
             have hcz145_0 : w118.cell? ⟨gb377, 0, none⟩ = some (.slice Ao21 t373.length co21) := (blk_cell BK377.out 0).trans rfl
             have hfz145_0 := blk_frozen BK377.out 0
             go_wp2_with (first | ((with_reducible refine gate_callee (f := 17) rfl ?_); refine goesL_ (some 86) rfl rfl Try.func17 (by kernel_rfl) rfl #[.agg #[.slice Ao119 t401.length co119], .agg #[.slice Ao21 t373.length co21]] rfl zl ?_; (with_reducible refine (laws_eqPool.calls kj60 _ _ t401 _ _ t373 false _ ?side1 ?side2 ?side3 ?side4 A125.out).mono ?_); (case side1 => refine (Kd.R_reads' (e := 49) (base := w.heap.size) (ok := fun k_ => ((((True ∧ some k_ ≠ (.slice Ao21 t373.length co21 : Value).ownBlock) ∧ some k_ ≠ (.slice Ao27 t393.length co27 : Value).ownBlock) ∧ some k_ ≠ (.slice Ao33 t382.length co33 : Value).ownBlock) ∧ some k_ ≠ (.slice Ao116 t398.length co116 : Value).ownBlock)) (n := t401.length) (c := co119) ?_).2.2; exact (by (with_reducible repeat (first | apply Kd.R_alloc | apply Kd.R_drewN | apply Kd.R_drew)); exact (Kd.R_mono (Kd.R_far (p := ⟨gb405, 0, none⟩) (Kd.R_types HO403.out BK405.out (by decide)) (fun _ hk => hk.2) (.slice Ao119 t401.length co119)) (fun _ h_ => h_.1)))); (case side2 => exact (Kd.R_reads' HO403.out).2.1); (case side3 => refine (Kd.R_reads' (e := 49) (base := w.heap.size) (ok := fun k_ => (((some k_ ≠ (.slice Ao27 t393.length co27 : Value).ownBlock ∧ some k_ ≠ (.slice Ao33 t382.length co33 : Value).ownBlock) ∧ some k_ ≠ (.slice Ao116 t398.length co116 : Value).ownBlock) ∧ some k_ ≠ (.slice Ao119 t401.length co119 : Value).ownBlock)) (n := t373.length) (c := co21) ?_).2.2; exact (by (with_reducible repeat (first | apply Kd.R_alloc | apply Kd.R_drewN | apply Kd.R_drew)); exact (Kd.R_mono (Kd.R_far (p := ⟨gb405, 0, none⟩) (Kd.R_types HO_378000.out BK405.out (by decide)) (fun _ hk => hk.2) (.slice Ao119 t401.length co119)) (fun _ h_ => h_.1)))); (case side4 => exact (Kd.R_reads' HO_378000.out).2.1); rintro e w146 ⟨rfl, hb⟩; refine ⟨_, rfl, ?_⟩; have n0_ := Aside0.mk (Kd.R_below (by (with_reducible repeat (first | apply Kd.R_alloc | apply Kd.R_drewN | apply Kd.R_drew)); exact (Kd.R_mono (Kd.R_far (p := ⟨gb405, 0, none⟩) (Kd.R_types HO_378000.out BK405.out (by decide)) (fun _ hk => hk.2) (.slice Ao119 t401.length co119)) (fun _ h_ => h_.1))) hb); have n1_ := Aside0.mk (Kd.R_below (by (with_reducible repeat (first | apply Kd.R_alloc | apply Kd.R_drewN | apply Kd.R_drew)); exact (Kd.R_mono (Kd.R_far (p := ⟨gb405, 0, none⟩) (Kd.R_types HO_382000.out BK405.out (by decide)) (fun _ hk => hk.2) (.slice Ao119 t401.length co119)) (fun _ h_ => h_.1))) hb); have n2_ := Aside0.mk (Kd.R_below (by (with_reducible repeat (first | apply Kd.R_alloc | apply Kd.R_drewN | apply Kd.R_drew)); exact (Kd.R_mono (Kd.R_far (p := ⟨gb405, 0, none⟩) (Kd.R_types HO_387000.out BK405.out (by decide)) (fun _ hk => hk.2) (.slice Ao119 t401.length co119)) (fun _ h_ => h_.1))) hb); have n3_ := Aside0.mk (Kd.R_below (by (with_reducible repeat (first | apply Kd.R_alloc | apply Kd.R_drewN | apply Kd.R_drew)); exact (Kd.R_mono (Kd.R_far (p := ⟨gb405, 0, none⟩) (Kd.R_types HO400.out BK405.out (by decide)) (fun _ hk => hk.2) (.slice Ao119 t401.length co119)) (fun _ h_ => h_.1))) hb); have n4_ := Aside0.mk (Kd.R_below (by (with_reducible repeat (first | apply Kd.R_alloc | apply Kd.R_drewN | apply Kd.R_drew)); exact (Kd.R_mono (Kd.R_far (p := ⟨gb405, 0, none⟩) (Kd.R_types HO403.out BK405.out (by decide)) (fun _ hk => hk.2) (.slice Ao119 t401.length co119)) (fun _ h_ => h_.1))) hb); have n5_ := Aside0.mk (blk_below (g := gb368) (o := .cells #[.slice A0_0 l0_0.length c0_0] 24 (0, 0)) (zf BK368.out) hb); have n6_ := Aside0.mk (blk_below (g := gb377) (o := .cells #[.slice Ao21 t373.length co21] 28 (0, 0)) (zf BK377.out) hb); have n7_ := Aside0.mk (blk_below (g := gb381) (o := .cells #[.slice Ao27 t393.length co27] 28 (0, 0)) (zf BK381.out) hb); have n8_ := Aside0.mk (blk_below (g := gb386) (o := .cells #[.slice Ao33 t382.length co33] 28 (0, 0)) (zf BK386.out) hb); have n9_ := Aside0.mk (blk_below (g := gb405) (o := .cells #[.slice Ao119 t401.length co119] 28 (0, 0)) (by (with_reducible repeat (first | refine blk_drewN ?_ _ | refine blk_drew ?_ | refine blk_alloc ?_ _)); refine blk_put (cs := #[.slice none 0 0]) ?_ 0 _ rfl; (with_reducible repeat (first | refine blk_drewN ?_ _ | refine blk_drew ?_ | refine blk_alloc ?_ _)); exact BK405.out) hb); have n10_ := Aside0.mk (below_step (zb HB.out) hb); clear HO_378000; clear HO_382000; clear HO_387000; clear HO400; clear HO403; clear BK368; clear BK377; clear BK381; clear BK386; clear BK405; clear HB; have HO_378000 := n0_; have HO_382000 := n1_; have HO_387000 := n2_; have HO400 := n3_; have HO403 := n4_; have BK368 := n5_; have BK377 := n6_; have BK381 := n7_; have BK386 := n8_; have BK405 := n9_; have HB := n10_; clear n0_ n1_ n2_ n3_ n4_ n5_ n6_ n7_ n8_ n9_ n10_; (try clear hb); (try clear hb2); (try clear hk); (try clear hi)))
             go_meet
             case rel => exact ⟨_, (true), (by first | rfl | (simp; done) | (simp [*]; done)), H', ⟨by have := HJ11.out; have := HJ60.out; first | omega | exact Nat.le_refl _⟩, ⟨by (try simp only [hl382000_60]); (with_reducible repeat (first | apply Kd.R_alloc | apply Kd.R_drewN | apply Kd.R_drew)); exact Kd.R_mono HO_378000.out (fun _ hk => ⟨hk.1.1.1, ⟨hk.1.1.2, hk.2⟩⟩)⟩, ⟨by (try simp only [hl382000_60]); (with_reducible repeat (first | apply Kd.R_alloc | apply Kd.R_drewN | apply Kd.R_drew)); exact Kd.R_mono HO_382000.out (fun _ hk => ⟨hk.1.1.1, ⟨hk.1.1.2, hk.2⟩⟩)⟩, ⟨by (try simp only [hl382000_60]); (with_reducible repeat (first | apply Kd.R_alloc | apply Kd.R_drewN | apply Kd.R_drew)); exact Kd.R_mono HO_387000.out (fun _ hk => ⟨hk.1.1.1, ⟨hk.1.1.2, hk.2⟩⟩)⟩, ⟨by (try simp only [hl382000_60]); (with_reducible repeat (first | apply Kd.R_alloc | apply Kd.R_drewN | apply Kd.R_drew)); exact Kd.R_mono HO403.out (fun _ hk => ⟨hk.1.1.1.2, ⟨hk.1.1.2, hk.1.2⟩⟩)⟩, ⟨by (try simp only [hl382000_60]); (with_reducible repeat (first | refine blk_drewN ?_ _ | refine blk_drew ?_ | refine blk_alloc ?_ _)); exact BK368.out⟩, ⟨by (try simp only [hl382000_60]); (with_reducible repeat (first | refine blk_drewN ?_ _ | refine blk_drew ?_ | refine blk_alloc ?_ _)); exact BK377.out⟩, ⟨by (try simp only [hl382000_60]); (with_reducible repeat (first | refine blk_drewN ?_ _ | refine blk_drew ?_ | refine blk_alloc ?_ _)); exact BK381.out⟩, ⟨by (try simp only [hl382000_60]); (with_reducible repeat (first | refine blk_drewN ?_ _ | refine blk_drew ?_ | refine blk_alloc ?_ _)); exact BK386.out⟩, ⟨by (try simp only [hl382000_60]); (with_reducible repeat (first | refine blk_drewN ?_ _ | refine blk_drew ?_ | refine blk_alloc ?_ _)); exact BK405.out⟩, ⟨zb HB.out⟩⟩
           case rest =>
            clear HC104
            try clear c1
            try clear c2
            try clear p2
            try clear c3
            try clear c4
            try clear c4b0
            try clear c5
            try clear c6
            try clear c7
            try clear c8
            try clear c9
            try clear c10
            try clear c11
            try clear c12
            try clear c13
            try clear c14
            try clear c15
            try clear c17
            try clear c18
            try clear c19
            try clear c22
            try clear c24
            try clear c25
            try clear c28
            try clear c29
            try clear c34
            try clear c35
            try clear c36
            try clear c39
            try clear c40
            try clear c41
            try clear c42
            try clear c44
            try clear c45
            try clear c48
            try clear c49
            try clear c50
            try clear c52
            try clear c53
            try clear c56
            try clear c59
            try clear c66
            try clear c67
            try clear c68
            try clear c71
            try clear c71b0
            try clear c73
            try clear c74
            try clear c75
            try clear c76
            try clear c78
            try clear c79
            try clear c82
            try clear c83
            try clear c84
            try clear c86
            try clear c87
            try clear c90
            try clear c93
            try clear c93b0
            try clear c94
            try clear c95
            try clear c96
            try clear c101
            try clear c101b0
            try clear c101b1
            try clear c105
            try clear c106
            try clear c107
            try clear c112
            try clear c113
            try clear c120
            try clear c121
            try clear c122
            try clear c123
            try clear c126
            try clear c127
            try clear c128
            try clear c129
            try clear c130
            try clear c132
            try clear c133
            try clear c134
            try clear c137
            try clear c138
            try clear c139
            try clear c140
            try clear c142
            try clear c143
            try clear c144
            try clear hcz108_0
            try clear hcz110_0
            try clear hcz114_0
            try clear hcz124_0
            try clear hcz131_0
            try clear hcz135_0
            try clear hcz141_0
            try clear hcz145_0
            try clear hcz14_0
            try clear hcz16_0
            try clear hcz23_0
            try clear hcz24_0
            try clear hcz30_0
            try clear hcz37_0
            try clear hcz43_0
            try clear hcz46_0
            try clear hcz51_0
            try clear hcz54_0
            try clear hcz69_0
            try clear hcz6_0
            try clear hcz77_0
            try clear hcz80_0
            try clear hcz85_0
            try clear hcz88_0
            try clear hcz97_0
            try clear hcz99_0
            try clear hfz108_0
            try clear hfz110_0
            try clear hfz114_0
            try clear hfz124_0
            try clear hfz131_0
            try clear hfz135_0
            try clear hfz141_0
            try clear hfz145_0
            try clear hfz14_0
            try clear hfz16_0
            try clear hfz23_0
            try clear hfz24_0
            try clear hfz30_0
            try clear hfz37_0
            try clear hfz43_0
            try clear hfz46_0
            try clear hfz51_0
            try clear hfz54_0
            try clear hfz69_0
            try clear hfz6_0
            try clear hfz77_0
            try clear hfz80_0
            try clear hfz85_0
            try clear hfz88_0
            try clear hfz97_0
            try clear hfz99_0
            try clear p2
            obtain ⟨kq, x92_103, rfl, HA, HJ103, HO_378000, HO_382000, HO_387000, HO_406000, BK368, BK377, BK381, BK386, BK405, HB⟩ := hcut
            have hl387000_103 := (Kd.R_reads' HO_387000.out).1
            rw [hl387000_103] at HO_387000
            (try simp only [hl387000_103])
            (try simp only [hl387000_103] at BK368)
            (try simp only [hl387000_103] at BK377)
            (try simp only [hl387000_103] at BK381)
            (try simp only [hl387000_103] at BK386)
            (try simp only [hl387000_103] at BK405)
            (try simp only [hl387000_103] at HO_378000)
            (try simp only [hl387000_103] at HO_382000)
            (try simp only [hl387000_103] at HO_406000)
            cases kq with
            | zero => exact absurd HA.out (by simp [laws_FnExactMakePower.j2])
            | succ kj103 =>
             have H := HA.out
             clear HA
             simp only [laws_FnExactMakePower.j2] at H
             by_cases c147 : x92_103 = true
             ·subst c147
              have H1 : (some false) = some r := by rw [if_pos rfl] at H; exact H
              clear H
              have H := H1
              clear H1
              obtain rfl := Option.some.inj H
              go_wp2
              go_ret
              exact ⟨ze, zb HB.out⟩
             ·replace c147 := Bool.eq_false_iff.mpr c147
              subst c147
              have H1 : ((laws_heldPool.f kj103 t396 1).bind fun t407 => (if t407 < 0 then (some false) else (if t407 = t395 then (some true) else (some false)))) = some r := by rw [if_neg (show ¬ (false = true) by decide)] at H; exact H
              clear H
              have H := H1
              clear H1
              replace H := Option.bind_eq_some_iff.mp H
              obtain ⟨t407, A1480, H⟩ := H
              replace H : (if t407 < 0 then (some false) else (if t407 = t395 then (some true) else (some false))) = some r := H
              have A148 := Aside0.mk A1480
              clear A1480
              by_cases c149 : t407 < 0
              ·rw [if_pos c149] at H
               have c149b0 : decide (t407 < 0) = true := decide_eq_true c149
               clear c149
               obtain rfl := Option.some.inj H
               have hnb150 := NB386_368.out
               have hnc150 := NB368_386.out
               have hnb151 := NB386_377.out
               have hnc151 := NB377_386.out
               have hnb152 := NB386_381.out
               have hnc152 := NB381_386.out
               have hnb153 := NB386_405.out
               have hnc153 := NB405_386.out
               have hcz154_0 : wc.cell? ⟨gb386, 0, none⟩ = some (.slice Ao33 t396.length co33) := (blk_cell BK386.out 0).trans rfl
               have hfz154_0 := blk_frozen BK386.out 0
               go_wp2_with (first | ((with_reducible refine gate_callee (f := 19) rfl ?_); refine goesL_ (some 95) rfl rfl Try.func19 (by kernel_rfl) rfl #[.agg #[.slice Ao33 t396.length co33], .int .i64 1] rfl zl ?_; (with_reducible refine (laws_heldPool.calls kj103 _ _ t396 1 t407 _ ?side1 ?side2 A148.out).mono ?_); (case side1 => exact zc (Kd.R_reads' HO_387000.out).2.2); (case side2 => exact (Kd.R_reads' HO_387000.out).2.1); rintro e w155 ⟨rfl, hb⟩; refine ⟨_, rfl, ?_⟩; have n0_ := Aside0.mk (Kd.R_below (zr HO_378000.out) hb); have n1_ := Aside0.mk (Kd.R_below (zr HO_382000.out) hb); have n2_ := Aside0.mk (Kd.R_below (zr HO_387000.out) hb); have n3_ := Aside0.mk (Kd.R_below (zr HO_406000.out) hb); have n4_ := Aside0.mk (blk_below (zh BK368.out) hb); have n5_ := Aside0.mk (blk_below (zh BK377.out) hb); have n6_ := Aside0.mk (blk_below (zh BK381.out) hb); have n7_ := Aside0.mk (blk_below (zh BK386.out) hb); have n8_ := Aside0.mk (blk_below (zh BK405.out) hb); have n9_ := Aside0.mk (below_step (zb HB.out) hb); clear HO_378000; clear HO_382000; clear HO_387000; clear HO_406000; clear BK368; clear BK377; clear BK381; clear BK386; clear BK405; clear HB; have HO_378000 := n0_; have HO_382000 := n1_; have HO_387000 := n2_; have HO_406000 := n3_; have BK368 := n4_; have BK377 := n5_; have BK381 := n6_; have BK386 := n7_; have BK405 := n8_; have HB := n9_; clear n0_ n1_ n2_ n3_ n4_ n5_ n6_ n7_ n8_ n9_; (try clear hb); (try clear hb2); (try clear hk); (try clear hi)))
               go_ret
               exact ⟨ze, zb HB.out⟩
              ·rw [if_neg c149] at H
               have c149b0 : decide (t407 < 0) = false := decide_eq_false c149
               clear c149
               by_cases c156 : t407 = t395
               ·rw [if_pos c156] at H
                have c156b0 : (t407 == t395) = true := beq_iff_eq.mpr c156
                have c156b1 : (t407 != t395) = false := bne_eq_false_iff_eq.mpr c156
                clear c156
                obtain rfl := Option.some.inj H
                have hnb157 := NB386_368.out
                have hnc157 := NB368_386.out
                have hnb158 := NB386_377.out
                have hnc158 := NB377_386.out
                have hnb159 := NB386_381.out
                have hnc159 := NB381_386.out
                have hnb160 := NB386_405.out
                have hnc160 := NB405_386.out
                have hcz161_0 : wc.cell? ⟨gb386, 0, none⟩ = some (.slice Ao33 t396.length co33) := (blk_cell BK386.out 0).trans rfl
                have hfz161_0 := blk_frozen BK386.out 0
                go_wp2_with (first | ((with_reducible refine gate_callee (f := 19) rfl ?_); refine goesL_ (some 95) rfl rfl Try.func19 (by kernel_rfl) rfl #[.agg #[.slice Ao33 t396.length co33], .int .i64 1] rfl zl ?_; (with_reducible refine (laws_heldPool.calls kj103 _ _ t396 1 t407 _ ?side1 ?side2 A148.out).mono ?_); (case side1 => exact zc (Kd.R_reads' HO_387000.out).2.2); (case side2 => exact (Kd.R_reads' HO_387000.out).2.1); rintro e w162 ⟨rfl, hb⟩; refine ⟨_, rfl, ?_⟩; have n0_ := Aside0.mk (Kd.R_below (zr HO_378000.out) hb); have n1_ := Aside0.mk (Kd.R_below (zr HO_382000.out) hb); have n2_ := Aside0.mk (Kd.R_below (zr HO_387000.out) hb); have n3_ := Aside0.mk (Kd.R_below (zr HO_406000.out) hb); have n4_ := Aside0.mk (blk_below (zh BK368.out) hb); have n5_ := Aside0.mk (blk_below (zh BK377.out) hb); have n6_ := Aside0.mk (blk_below (zh BK381.out) hb); have n7_ := Aside0.mk (blk_below (zh BK386.out) hb); have n8_ := Aside0.mk (blk_below (zh BK405.out) hb); have n9_ := Aside0.mk (below_step (zb HB.out) hb); clear HO_378000; clear HO_382000; clear HO_387000; clear HO_406000; clear BK368; clear BK377; clear BK381; clear BK386; clear BK405; clear HB; have HO_378000 := n0_; have HO_382000 := n1_; have HO_387000 := n2_; have HO_406000 := n3_; have BK368 := n4_; have BK377 := n5_; have BK381 := n6_; have BK386 := n7_; have BK405 := n8_; have HB := n9_; clear n0_ n1_ n2_ n3_ n4_ n5_ n6_ n7_ n8_ n9_; (try clear hb); (try clear hb2); (try clear hk); (try clear hi)))
                go_ret
                exact ⟨ze, zb HB.out⟩
               ·rw [if_neg c156] at H
                have c156b0 : (t407 == t395) = false := beq_eq_false_iff_ne.mpr c156
                have c156b1 : (t407 != t395) = true := bne_iff_ne.mpr c156
                obtain rfl := Option.some.inj H
                have hnb163 := NB386_368.out
                have hnc163 := NB368_386.out
                have hnb164 := NB386_377.out
                have hnc164 := NB377_386.out
                have hnb165 := NB386_381.out
                have hnc165 := NB381_386.out
                have hnb166 := NB386_405.out
                have hnc166 := NB405_386.out
                have hcz167_0 : wc.cell? ⟨gb386, 0, none⟩ = some (.slice Ao33 t396.length co33) := (blk_cell BK386.out 0).trans rfl
                have hfz167_0 := blk_frozen BK386.out 0
                go_wp2_with (first | ((with_reducible refine gate_callee (f := 19) rfl ?_); refine goesL_ (some 95) rfl rfl Try.func19 (by kernel_rfl) rfl #[.agg #[.slice Ao33 t396.length co33], .int .i64 1] rfl zl ?_; (with_reducible refine (laws_heldPool.calls kj103 _ _ t396 1 t407 _ ?side1 ?side2 A148.out).mono ?_); (case side1 => exact zc (Kd.R_reads' HO_387000.out).2.2); (case side2 => exact (Kd.R_reads' HO_387000.out).2.1); rintro e w168 ⟨rfl, hb⟩; refine ⟨_, rfl, ?_⟩; have n0_ := Aside0.mk (Kd.R_below (zr HO_378000.out) hb); have n1_ := Aside0.mk (Kd.R_below (zr HO_382000.out) hb); have n2_ := Aside0.mk (Kd.R_below (zr HO_387000.out) hb); have n3_ := Aside0.mk (Kd.R_below (zr HO_406000.out) hb); have n4_ := Aside0.mk (blk_below (zh BK368.out) hb); have n5_ := Aside0.mk (blk_below (zh BK377.out) hb); have n6_ := Aside0.mk (blk_below (zh BK381.out) hb); have n7_ := Aside0.mk (blk_below (zh BK386.out) hb); have n8_ := Aside0.mk (blk_below (zh BK405.out) hb); have n9_ := Aside0.mk (below_step (zb HB.out) hb); clear HO_378000; clear HO_382000; clear HO_387000; clear HO_406000; clear BK368; clear BK377; clear BK381; clear BK386; clear BK405; clear HB; have HO_378000 := n0_; have HO_382000 := n1_; have HO_387000 := n2_; have HO_406000 := n3_; have BK368 := n4_; have BK377 := n5_; have BK381 := n6_; have BK386 := n7_; have BK405 := n8_; have HB := n9_; clear n0_ n1_ n2_ n3_ n4_ n5_ n6_ n7_ n8_ n9_; (try clear hb); (try clear hb2); (try clear hk); (try clear hi)))
                go_ret
                exact ⟨ze, zb HB.out⟩
          ·rw [if_neg c101] at H
           have c101b0 : (t397 == t395) = false := beq_eq_false_iff_ne.mpr c101
           have c101b1 : (t397 != t395) = true := bne_iff_ne.mpr c101
           obtain rfl := Option.some.inj H
           have hnb169 := NB386_368.out
           have hnc169 := NB368_386.out
           have hnb170 := NB386_377.out
           have hnc170 := NB377_386.out
           have hnb171 := NB386_381.out
           have hnc171 := NB381_386.out
           have hcz172_0 : wc.cell? ⟨gb386, 0, none⟩ = some (.slice Ao33 t382.length co33) := (blk_cell BK386.out 0).trans rfl
           have hfz172_0 := blk_frozen BK386.out 0
           go_wp2_with (first | ((with_reducible refine gate_callee (f := 18) rfl ?_); refine goesL_ (some 68) rfl rfl Try.func18 (by kernel_rfl) rfl #[.agg #[.slice Ao33 t382.length co33], .int .i64 1] rfl zl ?_; (with_reducible refine (laws_markPool.calls kj60 (fun k_ => some k_ = (.slice Ao33 t382.length co33 : Value).ownBlock) (.slice Ao33 t382.length co33) t382 1 t395 t396 w _ ?side1 ?side2 A91.out).mono ?_); (case side1 => repeat (first | (with_reducible first | exact HB.out | apply below_alloc | apply pw_below_drewN | apply below_drew1 | refine below_set ?_ GE368.out | refine below_set ?_ GE377.out | refine below_set ?_ GE381.out | refine below_set ?_ GE386.out) | exact HB.out)); (case side2 => exact Kd.R_tight rfl HO_387000.out); rintro e w173 ⟨rfl, hy0, hb, hkp⟩; refine ⟨_, rfl, ?_⟩; have n0_ := Aside0.mk (Kd.R_mono (ok' := fun k_ => some k_ ≠ (.slice Ao27 t393.length co27 : Value).ownBlock ∧ some k_ ≠ (.slice Ao33 t382.length co33 : Value).ownBlock) (Kd.R_keptB (HO_378000.out) hkp (fun k_ hk_ hs_ => by first | exact (hk_.2) hs_ | (revert hk_; simp only [and_imp]; intros; exact absurd hs_ (by assumption)))) (fun k_ hk_ => by first | exact ⟨hk_.1.1, hk_.1.2⟩ | (revert hk_; simp only [and_imp]; intros; and_intros <;> assumption))); have n1_ := Aside0.mk (Kd.R_mono (ok' := fun k_ => some k_ ≠ (.slice Ao21 t373.length co21 : Value).ownBlock ∧ some k_ ≠ (.slice Ao33 t382.length co33 : Value).ownBlock) (Kd.R_keptB (HO_382000.out) hkp (fun k_ hk_ hs_ => by first | exact (hk_.2) hs_ | (revert hk_; simp only [and_imp]; intros; exact absurd hs_ (by assumption)))) (fun k_ hk_ => by first | exact ⟨hk_.1.1, hk_.1.2⟩ | (revert hk_; simp only [and_imp]; intros; and_intros <;> assumption))); have n2_ := Aside0.mk (Kd.R_reok rfl hy0 (fun k_ e_ => HO_387000.out.1 k_ e_)); have n3_ := Aside0.mk (blk_kept (zh BK368.out) hkp (fun hs_ => (fun e_ => (Kd.R_ne HO_387000.out BK368.out (by decide)) e_) hs_)); have n4_ := Aside0.mk (blk_kept (zh BK377.out) hkp (fun hs_ => (fun e_ => (Kd.R_ne HO_387000.out BK377.out (by decide)) e_) hs_)); have n5_ := Aside0.mk (blk_kept (zh BK381.out) hkp (fun hs_ => (fun e_ => (Kd.R_ne HO_387000.out BK381.out (by decide)) e_) hs_)); have n6_ := Aside0.mk (blk_kept (zh BK386.out) hkp (fun hs_ => (fun e_ => (Kd.R_ne HO_387000.out BK386.out (by decide)) e_) hs_)); have n7_ := Aside0.mk (hb); clear HO_378000; clear HO_382000; clear HO_387000; clear BK368; clear BK377; clear BK381; clear BK386; clear HB; have HO_378000 := n0_; have HO_382000 := n1_; have HO_387000 := n2_; have BK368 := n3_; have BK377 := n4_; have BK381 := n5_; have BK386 := n6_; have HB := n7_; clear n0_ n1_ n2_ n3_ n4_ n5_ n6_ n7_; (try clear hb); (try clear hkp); (try clear hy0); have hcz174_0 : w173.cell? ⟨gb386, 0, none⟩ = some (.slice Ao33 t382.length co33) := (blk_cell BK386.out 0).trans rfl; have hfz174_0 := blk_frozen BK386.out 0) | ((with_reducible refine gate_callee (f := 19) rfl ?_); refine goesL_ (some 71) rfl rfl Try.func19 (by kernel_rfl) rfl #[.agg #[.slice Ao33 t396.length co33], .int .i64 1] rfl (by (try simp only [List.map_toArray, List.map_cons, List.map_nil]); first | done | (rw [show t396.length = t382.length from (Kd.R_reads' HO_387000.out).1.symm] <;> rfl) | rfl | (simp only [List.length_drop, List.length_take]; rfl)) ?_; (with_reducible refine (laws_heldPool.calls kj60 _ _ t396 1 t397 _ ?side1 ?side2 A92.out).mono ?_); (case side1 => exact zc (Kd.R_reads' HO_387000.out).2.2); (case side2 => rw [show t396.length = t382.length from (Kd.R_reads' HO_387000.out).1.symm]; exact (Kd.R_reads' HO_387000.out).2.1); rintro e w175 ⟨rfl, hb⟩; refine ⟨_, rfl, ?_⟩; have n0_ := Aside0.mk (Kd.R_below (zr HO_378000.out) hb); have n1_ := Aside0.mk (Kd.R_below (zr HO_382000.out) hb); have n2_ := Aside0.mk (Kd.R_below (zr HO_387000.out) hb); have n3_ := Aside0.mk (blk_below (zh BK368.out) hb); have n4_ := Aside0.mk (blk_below (zh BK377.out) hb); have n5_ := Aside0.mk (blk_below (zh BK381.out) hb); have n6_ := Aside0.mk (blk_below (zh BK386.out) hb); have n7_ := Aside0.mk (below_step (zb HB.out) hb); clear HO_378000; clear HO_382000; clear HO_387000; clear BK368; clear BK377; clear BK381; clear BK386; clear HB; have HO_378000 := n0_; have HO_382000 := n1_; have HO_387000 := n2_; have BK368 := n3_; have BK377 := n4_; have BK381 := n5_; have BK386 := n6_; have HB := n7_; clear n0_ n1_ n2_ n3_ n4_ n5_ n6_ n7_; (try clear hb); (try clear hb2); (try clear hk); (try clear hi)))
           go_ret
           exact ⟨ze, zb HB.out⟩
     ·replace c59 := Bool.eq_false_iff.mpr c59
      subst c59
      have H1 : (some false) = some r := by rw [if_neg (show ¬ (false = true) by decide)] at H; exact H
      clear H
      have H := H1
      clear H1
      obtain rfl := Option.some.inj H
      try go_wp2
      have n0_ := Aside0.mk (Kd.R_drew HO_378000.out)
      have n1_ := Aside0.mk (Kd.R_drew HO_382000.out)
      have n2_ := Aside0.mk (Kd.R_drew HO_387000.out)
      have n3_ := Aside0.mk (blk_drew BK368.out)
      have n4_ := Aside0.mk (blk_drew BK377.out)
      have n5_ := Aside0.mk (blk_drew BK381.out)
      have n6_ := Aside0.mk (blk_drew BK386.out)
      have n7_ := Aside0.mk (below_drew1 HB.out)
      clear HO_378000
      clear HO_382000
      clear HO_387000
      clear BK368
      clear BK377
      clear BK381
      clear BK386
      clear HB
      have HO_378000 := n0_
      have HO_382000 := n1_
      have HO_387000 := n2_
      have BK368 := n3_
      have BK377 := n4_
      have BK381 := n5_
      have BK386 := n6_
      have HB := n7_
      clear n0_ n1_ n2_ n3_ n4_ n5_ n6_ n7_
      refine start_ (n := 5) (S := fun w' => w'.cell? ⟨gb381, 0, none⟩ = some (.slice Ao27 t378.length co27) ∧ w'.cell? ⟨gb368, 0, none⟩ = some (.slice A0_0 l0_0.length c0_0)) (ds := []) #[false, false, false, false, false] (by kernel_rfl) rfl rfl ⟨(blk_cell BK381.out 0).trans rfl, (blk_cell BK368.out 0).trans rfl⟩ (fun hHeld => ?_)
      generalize wc.drew = w176 at HO_378000 HO_382000 HO_387000 BK368 BK377 BK381 BK386 HB hHeld ⊢
      refine take_ (i := 0) (N := some 45) (v := ?_) (a' := ?_) #[true, false, false, false, false] rfl rfl (by kernel_rfl) (fun _ _ _ h => h) (Or.inl ⟨by rfl, ?_⟩) hHeld ?_ ?_
      rotate_left
      ·rintro w' ⟨s0, s1⟩
       go_simp
       with_reducible rfl
      rotate_left
      ·simp only [Act.put, List.setIfInBounds_toArray, List.set_cons_zero, List.set_cons_succ, i64_w, i32_w]
       rfl
      refine take_ (i := 1) (N := some 46) (v := ?_) (a' := ?_) #[true, true, false, false, false] rfl rfl (by kernel_rfl) (fun _ _ _ h => h) (Or.inl ⟨by rfl, ?_⟩) hHeld ?_ ?_
      rotate_left
      ·rintro w' ⟨s0, s1⟩
       go_simp
       with_reducible rfl
      rotate_left
      ·simp only [Act.put, List.setIfInBounds_toArray, List.set_cons_zero, List.set_cons_succ, i64_w, i32_w]
       rfl
      refine one_ (i := 2) (N := some 47) #[true, true, true, false, false] rfl rfl (by kernel_rfl) (by decide) (fun K hK => ?_)
      refine goes_ Try.func15 (by kernel_rfl) rfl #[.agg #[.slice A0_0 l0_0.length c0_0]] (by rfl) rfl rfl zl ?_
      with_reducible refine (laws_toPool.calls kj11 _ _ l0_0 t388 _ ?side1 ?side2 A57.out).mono ?_
      (case side1 => exact zc (Kd.C_below HR0_0.out HB.out))
      (case side2 => exact HC0_0.out)
      rintro e w177 ⟨v389, rfl, ho0, hb⟩
      refine ⟨_, rfl, ?_⟩
      have n0_ := Aside0.mk (Kd.R_elder' (zr HO_378000.out) (Kd.R_base ho0) hb)
      have n1_ := Aside0.mk (Kd.R_elder' (zr HO_382000.out) (Kd.R_base ho0) hb)
      have n2_ := Aside0.mk (Kd.R_elder' (zr HO_387000.out) (Kd.R_base ho0) hb)
      have n3_ := Aside0.mk (Kd.R_lower (Kd.R_new' (Kd.R_new' (Kd.R_new' ho0 (Kd.R_lt (zr HO_378000.out))) (Kd.R_lt (zr HO_382000.out))) (Kd.R_lt (zr HO_387000.out))) (below_size (zb HB.out)))
      have n4_ := Aside0.mk (blk_below (zh BK368.out) hb)
      have n5_ := Aside0.mk (blk_below (zh BK377.out) hb)
      have n6_ := Aside0.mk (blk_below (zh BK381.out) hb)
      have n7_ := Aside0.mk (blk_below (zh BK386.out) hb)
      have n8_ := Aside0.mk (below_step (zb HB.out) hb)
      clear HO_378000
      clear HO_382000
      clear HO_387000
      clear BK368
      clear BK377
      clear BK381
      clear BK386
      clear HB
      have HO_378000 := n0_
      have HO_382000 := n1_
      have HO_387000 := n2_
      have HO390 := n3_
      have BK368 := n4_
      have BK377 := n5_
      have BK381 := n6_
      have BK386 := n7_
      have HB := n8_
      clear n0_ n1_ n2_ n3_ n4_ n5_ n6_ n7_ n8_
      (try clear hb)
      (try clear hb2)
      (try clear hk)
      (try clear hi)
      (try clear ho0)
      obtain ⟨Ao178, co178, eo178⟩ := Kd.R_slice HO390.out
      (first | subst eo178 | (injection eo178 with f1_ f2_ f3_; have f4_ := f1_.symm; have f5_ := f3_.symm; clear f1_ f2_ f3_; subst f4_; subst f5_))
      refine hK.out _ _ ⟨(blk_cell BK381.out 0).trans rfl, (blk_cell BK368.out 0).trans rfl⟩ (fun hHeld => ?_)
      clear hK K
      refine norm_ (a' := ?_) ?_ ?_
      rotate_left
      ·show Act.put _ (some 47) _ = _
       simp only [Act.put, List.setIfInBounds_toArray, List.set_cons_zero, List.set_cons_succ, i64_w, i32_w]
       rfl
      refine one_ (i := 3) (N := some 48) #[true, true, true, true, false] rfl rfl (by kernel_rfl) (by decide) (fun K hK => ?_)
      refine goes_ Try.func17 (by kernel_rfl) rfl #[.agg #[.slice Ao27 t378.length co27], .agg #[.slice Ao178 t388.length co178]] (by rfl) rfl rfl zl ?_
      with_reducible refine (laws_eqPool.calls kj11 _ _ t378 _ _ t388 false _ ?side1 ?side2 ?side3 ?side4 A58.out).mono ?_
      (case side1 => exact zc (Kd.R_reads' HO_382000.out).2.2)
      (case side2 => exact (Kd.R_reads' HO_382000.out).2.1)
      (case side3 => exact zc (Kd.R_reads' HO390.out).2.2)
      (case side4 => exact (Kd.R_reads' HO390.out).2.1)
      rintro e w179 ⟨rfl, hb⟩
      refine ⟨_, rfl, ?_⟩
      have n0_ := Aside0.mk (Kd.R_below (zr HO_378000.out) hb)
      have n1_ := Aside0.mk (Kd.R_below (zr HO_382000.out) hb)
      have n2_ := Aside0.mk (Kd.R_below (zr HO_387000.out) hb)
      have n3_ := Aside0.mk (Kd.R_below (zr HO390.out) hb)
      have n4_ := Aside0.mk (blk_below (zh BK368.out) hb)
      have n5_ := Aside0.mk (blk_below (zh BK377.out) hb)
      have n6_ := Aside0.mk (blk_below (zh BK381.out) hb)
      have n7_ := Aside0.mk (blk_below (zh BK386.out) hb)
      have n8_ := Aside0.mk (below_step (zb HB.out) hb)
      clear HO_378000
      clear HO_382000
      clear HO_387000
      clear HO390
      clear BK368
      clear BK377
      clear BK381
      clear BK386
      clear HB
      have HO_378000 := n0_
      have HO_382000 := n1_
      have HO_387000 := n2_
      have HO390 := n3_
      have BK368 := n4_
      have BK377 := n5_
      have BK381 := n6_
      have BK386 := n7_
      have HB := n8_
      clear n0_ n1_ n2_ n3_ n4_ n5_ n6_ n7_ n8_
      (try clear hb)
      (try clear hb2)
      (try clear hk)
      (try clear hi)
      refine hK.out _ _ ⟨(blk_cell BK381.out 0).trans rfl, (blk_cell BK368.out 0).trans rfl⟩ (fun hHeld => ?_)
      clear hK K
      refine norm_ (a' := ?_) ?_ ?_
      rotate_left
      ·show Act.put _ (some 48) _ = _
       simp only [Act.put, List.setIfInBounds_toArray, List.set_cons_zero, List.set_cons_succ, i64_w, i32_w]
       rfl
      refine pure_ (i := 4) (N := some 49) (v := ?_) (a' := ?_) #[true, true, true, true, true] rfl rfl (by kernel_rfl) (fun _ _ _ h => h) (Or.inl ⟨by rfl, ?_⟩) ?_ ?_
      rotate_left
      ·intro w'
       go_simp
       with_reducible rfl
      rotate_left
      ·simp only [Act.put, List.setIfInBounds_toArray, List.set_cons_zero, List.set_cons_succ, i64_w, i32_w]
       rfl
      refine done_ (by kernel_rfl) ?_
      try go_wp2
      go_ret
      exact ⟨ze, zb HB.out⟩

end Go.Proofs.Ytpgaifjneedjoaa.B
