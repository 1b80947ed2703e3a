-- Written by this session's program (wip/tools/gprint.py over the kit's print) out of the translation; Lean checks it.
import Derived.Test.YtpgaifjneedjoaaB0
import Derived.Test.YtpgaifjneedjoaaB2
import Derived.Test.YtpgaifjneedjoaaB5
import Derived.Test.YtpgaifjneedjoaaB10
import Derived.Test.YtpgaifjneedjoaaB11
import Derived.Test.YtpgaifjneedjoaaB13
namespace Go.Proofs.Ytpgaifjneedjoaa.B
open Go.RowKit Go.Proofs.YtpgaifjneedjoaaW.PrintWords Go.Proofs.YtpgaifjneedjoaaW.PrintLast Go.Proofs.YtpgaifjneedjoaaW.PrintMore
attribute [local go_sem] max2_int min2_int max_two min_two max_three min_three max_four min_four   -- for this text's walks alone
set_option linter.unusedVariables false
set_option linter.unusedSimpArgs false
set_option maxRecDepth 100000

/-! ### laws_FnExactMakeDigest: function 4 -/
mutual
def laws_FnExactMakeDigest.j0 : Nat → Int → Int → Int → Bool → List (S74) → List (S49) → List (S49) → List (S49) → Option (Bool)
 | 0, _, _, _, _, _, _, _, _ => none
 | k + 1, x1, x7, x10, x44, x265000, x274000, x278000, x283000 => if x44 = true then (some false) else ((laws_toPool.f k x265000).bind fun t284 => ((laws_eqPool.f k x278000 t284).bind fun t287 => (if t287 = true then ((laws_markPool.f k x278000 1).bind fun bt288 => (if bt288.1 < 0 then (laws_FnExactMakeDigest.j1 k x1 x7 true x265000 x274000 x283000) else ((laws_eqPool.f k x283000 x274000).bind fun t290 => (if t290 = true then (laws_FnExactMakeDigest.j1 k x1 x7 (x10 != x7) x265000 x274000 x283000) else (laws_FnExactMakeDigest.j1 k x1 x7 true x265000 x274000 x283000))))) else (some false))))
def laws_FnExactMakeDigest.j1 : Nat → Int → Int → Bool → List (S74) → List (S49) → List (S49) → Option (Bool)
 | 0, _, _, _, _, _, _ => none
 | k + 1, x1, x7, x65, x265000, x274000, x283000 => if x65 = true then (some false) else ((laws_markPool.f k x283000 1).bind fun bt291 => ((laws_heldPool.f k bt291.2 1).bind fun t293 => (if t293 < 0 then (some false) else (if t293 = bt291.1 then ((laws_toPool.f k x265000).bind fun t294 => ((impl_MakeDigest.f k t294 x1).bind fun bt297 => ((laws_eqPool.f k bt297.1 x274000).bind fun t302 => (if t302 = true then (laws_FnExactMakeDigest.j2 k bt291.1 (bt297.2 != x7) bt291.2) else (laws_FnExactMakeDigest.j2 k bt291.1 true bt291.2))))) else (some false)))))
def laws_FnExactMakeDigest.j2 : Nat → Int → Bool → List (S49) → Option (Bool)
 | 0, _, _, _ => none
 | k + 1, x12, x92, x283000 => if x92 = true then (some false) else ((laws_heldPool.f k x283000 1).bind fun t303 => (if t303 < 0 then (some false) else (if t303 = x12 then (some true) else (some false))))
end
def laws_FnExactMakeDigest.f (k : Nat) (l0_0 : List (S74)) (a1 : Int) : Option (Bool) := (laws_szPool.f l0_0 1048576).bind fun t265 => (if t265 < 0 then (some true) else ((laws_toPool.f k l0_0).bind fun t266 => ((spec_MakeDigest.f k t266 a1).bind fun bt269 => ((laws_toPool.f k l0_0).bind fun t274 => ((impl_MakeDigest.f k t274 a1).bind fun bt278 => ((laws_eqPool.f k bt278.1 bt269.1).bind fun t283 => (if t283 = true then (laws_FnExactMakeDigest.j0 k a1 bt269.2 bt278.2 (bt278.2 != bt269.2) l0_0 bt269.1 t274 bt278.1) else (laws_FnExactMakeDigest.j0 k a1 bt269.2 bt278.2 true l0_0 bt269.1 t274 bt278.1))))))))
theorem laws_FnExactMakeDigest.mono_l : ∀ k, (∀ y0 y1 y2 y3 y4 y5 y6 y7, LeO (laws_FnExactMakeDigest.j0 k y0 y1 y2 y3 y4 y5 y6 y7) (laws_FnExactMakeDigest.j0 (k + 1) y0 y1 y2 y3 y4 y5 y6 y7)) ∧ (∀ y0 y1 y2 y3 y4 y5, LeO (laws_FnExactMakeDigest.j1 k y0 y1 y2 y3 y4 y5) (laws_FnExactMakeDigest.j1 (k + 1) y0 y1 y2 y3 y4 y5)) ∧ (∀ y0 y1 y2, LeO (laws_FnExactMakeDigest.j2 k y0 y1 y2) (laws_FnExactMakeDigest.j2 (k + 1) y0 y1 y2))
 | 0 => ⟨fun _ _ _ _ _ _ _ _ r h => by simp [laws_FnExactMakeDigest.j0] at h, fun _ _ _ _ _ _ r h => by simp [laws_FnExactMakeDigest.j1] at h, fun _ _ _ r h => by simp [laws_FnExactMakeDigest.j2] at h⟩
 | k + 1 => by
  obtain ⟨ih0, ih1, ih2⟩ := laws_FnExactMakeDigest.mono_l k
  refine ⟨?_, ?_, ?_⟩
  ·intro y0 y1 y2 y3 y4 y5 y6 y7
   unfold laws_FnExactMakeDigest.j0
   repeat' first
   | (with_reducible exact ih0 _ _ _ _ _ _ _ _)
   | (with_reducible exact ih1 _ _ _ _ _ _)
   | (with_reducible exact ih2 _ _ _)
   | (with_reducible exact impl_MakeDigest.mono _ _ _)
   | (with_reducible exact laws_eqPool.mono _ _ _)
   | (with_reducible exact laws_heldPool.mono _ _ _)
   | (with_reducible exact laws_markPool.mono _ _ _)
   | (with_reducible exact laws_toPool.mono _ _)
   | (with_reducible exact spec_MakeDigest.mono _ _ _)
   | (with_reducible exact LeO.refl _)
   | (with_reducible exact LeO.none _)
   | (with_reducible refine LeO.ite ?_ ?_)
   | (with_reducible refine LeO.bind ?_ (fun _ => ?_))
   | exact ih0 _ _ _ _ _ _ _ _
   | exact ih1 _ _ _ _ _ _
   | exact ih2 _ _ _
   | exact impl_MakeDigest.mono _ _ _
   | exact laws_eqPool.mono _ _ _
   | exact laws_heldPool.mono _ _ _
   | exact laws_markPool.mono _ _ _
   | exact laws_toPool.mono _ _
   | exact spec_MakeDigest.mono _ _ _
   | exact LeO.none _
   | refine LeO.ite ?_ ?_
   | refine LeO.bind ?_ (fun _ => ?_)
  ·intro y0 y1 y2 y3 y4 y5
   unfold laws_FnExactMakeDigest.j1
   repeat' first
   | (with_reducible exact ih0 _ _ _ _ _ _ _ _)
   | (with_reducible exact ih1 _ _ _ _ _ _)
   | (with_reducible exact ih2 _ _ _)
   | (with_reducible exact impl_MakeDigest.mono _ _ _)
   | (with_reducible exact laws_eqPool.mono _ _ _)
   | (with_reducible exact laws_heldPool.mono _ _ _)
   | (with_reducible exact laws_markPool.mono _ _ _)
   | (with_reducible exact laws_toPool.mono _ _)
   | (with_reducible exact spec_MakeDigest.mono _ _ _)
   | (with_reducible exact LeO.refl _)
   | (with_reducible exact LeO.none _)
   | (with_reducible refine LeO.ite ?_ ?_)
   | (with_reducible refine LeO.bind ?_ (fun _ => ?_))
   | exact ih0 _ _ _ _ _ _ _ _
   | exact ih1 _ _ _ _ _ _
   | exact ih2 _ _ _
   | exact impl_MakeDigest.mono _ _ _
   | exact laws_eqPool.mono _ _ _
   | exact laws_heldPool.mono _ _ _
   | exact laws_markPool.mono _ _ _
   | exact laws_toPool.mono _ _
   | exact spec_MakeDigest.mono _ _ _
   | exact LeO.none _
   | refine LeO.ite ?_ ?_
   | refine LeO.bind ?_ (fun _ => ?_)
  ·intro y0 y1 y2
   unfold laws_FnExactMakeDigest.j2
   repeat' first
   | (with_reducible exact ih0 _ _ _ _ _ _ _ _)
   | (with_reducible exact ih1 _ _ _ _ _ _)
   | (with_reducible exact ih2 _ _ _)
   | (with_reducible exact impl_MakeDigest.mono _ _ _)
   | (with_reducible exact laws_eqPool.mono _ _ _)
   | (with_reducible exact laws_heldPool.mono _ _ _)
   | (with_reducible exact laws_markPool.mono _ _ _)
   | (with_reducible exact laws_toPool.mono _ _)
   | (with_reducible exact spec_MakeDigest.mono _ _ _)
   | (with_reducible exact LeO.refl _)
   | (with_reducible exact LeO.none _)
   | (with_reducible refine LeO.ite ?_ ?_)
   | (with_reducible refine LeO.bind ?_ (fun _ => ?_))
   | exact ih0 _ _ _ _ _ _ _ _
   | exact ih1 _ _ _ _ _ _
   | exact ih2 _ _ _
   | exact impl_MakeDigest.mono _ _ _
   | exact laws_eqPool.mono _ _ _
   | exact laws_heldPool.mono _ _ _
   | exact laws_markPool.mono _ _ _
   | exact laws_toPool.mono _ _
   | exact spec_MakeDigest.mono _ _ _
   | exact LeO.none _
   | refine LeO.ite ?_ ?_
   | refine LeO.bind ?_ (fun _ => ?_)
theorem laws_FnExactMakeDigest.mono : ∀ a0 a1 k, LeO (laws_FnExactMakeDigest.f k a0 a1) (laws_FnExactMakeDigest.f (k + 1) a0 a1) := by
 intro a0 a1 k
 obtain ⟨ih0, ih1, ih2⟩ := laws_FnExactMakeDigest.mono_l k
 unfold laws_FnExactMakeDigest.f
 repeat' first
   | (with_reducible exact ih0 _ _ _ _ _ _ _ _)
   | (with_reducible exact ih1 _ _ _ _ _ _)
   | (with_reducible exact ih2 _ _ _)
   | (with_reducible exact impl_MakeDigest.mono _ _ _)
   | (with_reducible exact laws_eqPool.mono _ _ _)
   | (with_reducible exact laws_heldPool.mono _ _ _)
   | (with_reducible exact laws_markPool.mono _ _ _)
   | (with_reducible exact laws_toPool.mono _ _)
   | (with_reducible exact spec_MakeDigest.mono _ _ _)
   | (with_reducible exact LeO.refl _)
   | (with_reducible exact LeO.none _)
   | (with_reducible refine LeO.ite ?_ ?_)
   | (with_reducible refine LeO.bind ?_ (fun _ => ?_))
   | exact ih0 _ _ _ _ _ _ _ _
   | exact ih1 _ _ _ _ _ _
   | exact ih2 _ _ _
   | exact impl_MakeDigest.mono _ _ _
   | exact laws_eqPool.mono _ _ _
   | exact laws_heldPool.mono _ _ _
   | exact laws_markPool.mono _ _ _
   | exact laws_toPool.mono _ _
   | exact spec_MakeDigest.mono _ _ _
   | exact LeO.none _
   | refine LeO.ite ?_ ?_
   | refine LeO.bind ?_ (fun _ => ?_)
set_option maxHeartbeats 8000000 in
set_option maxRecDepth 100000 in
theorem laws_FnExactMakeDigest.calls (k : Nat) (A0_0 : Option Addr) (c0_0 : Nat) (l0_0 : List (S74)) (a1 : Int) (r : Bool) (w : World) (hr0_0 : Kd.C k74 w A0_0 l0_0.length l0_0) (hc0_0 : l0_0.length ≤ c0_0) (h : laws_FnExactMakeDigest.f k l0_0 a1 = some r) :
  Calls Try.prog 4 #[.agg #[.slice A0_0 l0_0.length c0_0], .int .i64 a1] w fun e w' => e = .returned (.bool r) ∧ Below w.heap.size w w' := by
 have hu24 := Try.underlying24
 have hu28 := Try.underlying28
 have HR0_0 := Aside0.mk hr0_0
 have HC0_0 := Aside0.mk hc0_0
 clear hr0_0 hc0_0
 have HB := Aside0.mk (Below.refl w.heap.size w)
 have H : ((laws_szPool.f l0_0 1048576).bind fun t265 => (if t265 < 0 then (some true) else ((laws_toPool.f k l0_0).bind fun t266 => ((spec_MakeDigest.f k t266 a1).bind fun bt269 => ((laws_toPool.f k l0_0).bind fun t274 => ((impl_MakeDigest.f k t274 a1).bind fun bt278 => ((laws_eqPool.f k bt278.1 bt269.1).bind fun t283 => (if t283 = true then (laws_FnExactMakeDigest.j0 k a1 bt269.2 bt278.2 (bt278.2 != bt269.2) l0_0 bt269.1 t274 bt278.1) else (laws_FnExactMakeDigest.j0 k a1 bt269.2 bt278.2 true l0_0 bt269.1 t274 bt278.1))))))))) = some r := h
 clear h
 replace H := Option.bind_eq_some_iff.mp H
 obtain ⟨t265, A30, H⟩ := H
 replace H : (if t265 < 0 then (some true) else ((laws_toPool.f k l0_0).bind fun t266 => ((spec_MakeDigest.f k t266 a1).bind fun bt269 => ((laws_toPool.f k l0_0).bind fun t274 => ((impl_MakeDigest.f k t274 a1).bind fun bt278 => ((laws_eqPool.f k bt278.1 bt269.1).bind fun t283 => (if t283 = true then (laws_FnExactMakeDigest.j0 k a1 bt269.2 bt278.2 (bt278.2 != bt269.2) l0_0 bt269.1 t274 bt278.1) else (laws_FnExactMakeDigest.j0 k a1 bt269.2 bt278.2 true l0_0 bt269.1 t274 bt278.1)))))))) = some r := H
 have A3 := Aside0.mk A30
 clear A30
 by_cases c4 : t265 < 0
 ·rw [if_pos c4] at H
  have c4b0 : decide (t265 < 0) = true := decide_eq_true c4
  clear c4
  obtain rfl := Option.some.inj H
  go_enter Try.func4, Try.ntmps4
  go_wp2_with (first | ((with_reducible refine gate_dst (N := 2) rfl ?_); refine box_event ?hg (N := 2) ?hd (cs := #[.slice A0_0 l0_0.length c0_0]) (t := 24) ?hr ?_; (case hd => rfl); (case hg => rfl); (case hr => first | (go_simp; done) | (go_simp; rfl)); intro gb264 hg w5 hbox hb; have n0_ := Aside0.mk (below_step (zb HB.out) hb); have n1_ := Aside0.mk (hbox); have n2_ := Aside0.mk ((by rw [hg]; exact (below_size (zb HB.out)) : w.heap.size ≤ gb264)); have n3_ := Aside0.mk ((by rw [hg]; exact (below_size (zb HB.out)) : w.heap.size ≤ gb264)); clear HB; have HB := n0_; have BK264 := n1_; have GW264 := n2_; have GE264 := n3_; clear n0_ n1_ n2_ n3_; clear hb hbox hg; have hcz6_0 : w5.cell? ⟨gb264, 0, none⟩ = some (.slice A0_0 l0_0.length c0_0) := (blk_cell BK264.out 0).trans rfl; have hfz6_0 := blk_frozen BK264.out 0) | ((with_reducible refine gate_callee (f := 13) rfl ?_); refine goesL_ (some 18) rfl rfl Try.func13 (by kernel_rfl) rfl #[.agg #[.slice A0_0 l0_0.length c0_0], .int .i64 1048576] rfl zl ?_; (with_reducible refine (laws_szPool.calls _ _ l0_0 1048576 t265 _ ?side1 ?side2 A3.out).mono ?_); (case side1 => exact zc (Kd.C_below HR0_0.out HB.out)); (case side2 => exact HC0_0.out); rintro e w7 ⟨rfl, hb⟩; refine ⟨_, rfl, ?_⟩; have n0_ := Aside0.mk (blk_below (zh BK264.out) hb); have n1_ := Aside0.mk (below_step (zb HB.out) hb); clear BK264; clear HB; have BK264 := n0_; have HB := n1_; clear n0_ n1_; (try clear hb); (try clear hb2); (try clear hk); (try clear hi)))
  go_ret
  exact ⟨ze, zb HB.out⟩
 ·rw [if_neg c4] at H
  have c4b0 : decide (t265 < 0) = false := decide_eq_false c4
  clear c4
  replace H := Option.bind_eq_some_iff.mp H
  obtain ⟨t266, A80, H⟩ := H
  replace H : ((spec_MakeDigest.f k t266 a1).bind fun bt269 => ((laws_toPool.f k l0_0).bind fun t274 => ((impl_MakeDigest.f k t274 a1).bind fun bt278 => ((laws_eqPool.f k bt278.1 bt269.1).bind fun t283 => (if t283 = true then (laws_FnExactMakeDigest.j0 k a1 bt269.2 bt278.2 (bt278.2 != bt269.2) l0_0 bt269.1 t274 bt278.1) else (laws_FnExactMakeDigest.j0 k a1 bt269.2 bt278.2 true l0_0 bt269.1 t274 bt278.1)))))) = some r := H
  have A8 := Aside0.mk A80
  clear A80
  replace H := Option.bind_eq_some_iff.mp H
  obtain ⟨⟨t269, t272⟩, A90, H⟩ := H
  replace H : ((laws_toPool.f k l0_0).bind fun t274 => ((impl_MakeDigest.f k t274 a1).bind fun bt278 => ((laws_eqPool.f k bt278.1 t269).bind fun t283 => (if t283 = true then (laws_FnExactMakeDigest.j0 k a1 t272 bt278.2 (bt278.2 != t272) l0_0 t269 t274 bt278.1) else (laws_FnExactMakeDigest.j0 k a1 t272 bt278.2 true l0_0 t269 t274 bt278.1))))) = some r := H
  have A9 := Aside0.mk A90
  clear A90
  replace H := Option.bind_eq_some_iff.mp H
  obtain ⟨t274, A100, H⟩ := H
  replace H : ((impl_MakeDigest.f k t274 a1).bind fun bt278 => ((laws_eqPool.f k bt278.1 t269).bind fun t283 => (if t283 = true then (laws_FnExactMakeDigest.j0 k a1 t272 bt278.2 (bt278.2 != t272) l0_0 t269 t274 bt278.1) else (laws_FnExactMakeDigest.j0 k a1 t272 bt278.2 true l0_0 t269 t274 bt278.1)))) = some r := H
  have A10 := Aside0.mk A100
  clear A100
  replace H := Option.bind_eq_some_iff.mp H
  obtain ⟨⟨t278, t281⟩, A110, H⟩ := H
  replace H : ((laws_eqPool.f k t278 t269).bind fun t283 => (if t283 = true then (laws_FnExactMakeDigest.j0 k a1 t272 t281 (t281 != t272) l0_0 t269 t274 t278) else (laws_FnExactMakeDigest.j0 k a1 t272 t281 true l0_0 t269 t274 t278))) = some r := H
  have A11 := Aside0.mk A110
  clear A110
  have HC12 := Aside0.mk H
  clear H
  go_enter Try.func4, Try.ntmps4
  go_upto_region 8 with (first | ((with_reducible refine gate_dst (N := 2) rfl ?_); refine box_event ?hg (N := 2) ?hd (cs := #[.slice A0_0 l0_0.length c0_0]) (t := 24) ?hr ?_; (case hd => rfl); (case hg => rfl); (case hr => first | (go_simp; done) | (go_simp; rfl)); intro gb264 hg w13 hbox hb; have n0_ := Aside0.mk (below_step (zb HB.out) hb); have n1_ := Aside0.mk (hbox); have n2_ := Aside0.mk ((by rw [hg]; exact (below_size (zb HB.out)) : w.heap.size ≤ gb264)); have n3_ := Aside0.mk ((by rw [hg]; exact (below_size (zb HB.out)) : w.heap.size ≤ gb264)); clear HB; have HB := n0_; have BK264 := n1_; have GW264 := n2_; have GE264 := n3_; clear n0_ n1_ n2_ n3_; clear hb hbox hg; have hcz14_0 : w13.cell? ⟨gb264, 0, none⟩ = some (.slice A0_0 l0_0.length c0_0) := (blk_cell BK264.out 0).trans rfl; have hfz14_0 := blk_frozen BK264.out 0) | ((with_reducible refine gate_callee (f := 13) rfl ?_); refine goesL_ (some 18) rfl rfl Try.func13 (by kernel_rfl) rfl #[.agg #[.slice A0_0 l0_0.length c0_0], .int .i64 1048576] rfl zl ?_; (with_reducible refine (laws_szPool.calls _ _ l0_0 1048576 t265 _ ?side1 ?side2 A3.out).mono ?_); (case side1 => exact zc (Kd.C_below HR0_0.out HB.out)); (case side2 => exact HC0_0.out); rintro e w15 ⟨rfl, hb⟩; refine ⟨_, rfl, ?_⟩; have n0_ := Aside0.mk (blk_below (zh BK264.out) hb); have n1_ := Aside0.mk (below_step (zb HB.out) hb); clear BK264; clear HB; have BK264 := n0_; have HB := n1_; clear n0_ n1_; (try clear hb); (try clear hb2); (try clear hk); (try clear hi); have hcz16_0 : w15.cell? ⟨gb264, 0, none⟩ = some (.slice A0_0 l0_0.length c0_0) := (blk_cell BK264.out 0).trans rfl; have hfz16_0 := blk_frozen BK264.out 0) | ((with_reducible refine gate_callee (f := 15) rfl ?_); refine goesL_ (some 23) rfl rfl Try.func15 (by kernel_rfl) rfl #[.agg #[.slice A0_0 l0_0.length c0_0]] rfl zl ?_; (with_reducible refine (laws_toPool.calls k _ _ l0_0 t266 _ ?side1 ?side2 A8.out).mono ?_); (case side1 => exact zc (Kd.C_below HR0_0.out HB.out)); (case side2 => exact HC0_0.out); rintro e w17 ⟨v267, rfl, ho0, hb⟩; refine ⟨_, rfl, ?_⟩; have n0_ := Aside0.mk (Kd.R_lower ho0 (below_size (zb HB.out))); have n1_ := Aside0.mk (blk_below (zh BK264.out) hb); have n2_ := Aside0.mk (below_step (zb HB.out) hb); clear BK264; clear HB; have HO268 := n0_; have BK264 := n1_; have HB := n2_; clear n0_ n1_ n2_; (try clear hb); (try clear hb2); (try clear hk); (try clear hi); (try clear ho0); obtain ⟨Ao18, co18, eo18⟩ := Kd.R_slice HO268.out; subst eo18) | ((with_reducible refine gate_callee (f := 20) rfl ?_); refine goesL_ (some 25) rfl rfl Try.func20 (by kernel_rfl) rfl #[.agg #[.slice Ao18 t266.length co18], .int .i64 a1] rfl zl ?_; (with_reducible refine (spec_MakeDigest.calls k (fun k_ => some k_ = (.slice Ao18 t266.length co18 : Value).ownBlock) (.slice Ao18 t266.length co18) t266 a1 t269 t272 w _ ?side1 ?side2 A9.out).mono ?_); (case side1 => repeat (first | (with_reducible first | exact HB.out | apply below_alloc | apply pw_below_drewN | apply below_drew1 | refine below_set ?_ GE264.out) | exact HB.out)); (case side2 => exact Kd.R_tight rfl HO268.out); rintro e w19 ⟨v270, rfl, ho0, hb, hkp⟩; refine ⟨_, rfl, ?_⟩; have n0_ := Aside0.mk (blk_kept (zh BK264.out) hkp (fun hs_ => (fun e_ => (Kd.R_ne HO268.out BK264.out (by decide)) e_) hs_)); have n1_ := Aside0.mk (Kd.R_mono (ok' := fun k_ => True) ho0 (fun k_ hk_ => trivial)); have n2_ := Aside0.mk (hb); clear BK264; clear HB; clear HO268; have BK264 := n0_; have HO271 := n1_; have HB := n2_; clear n0_ n1_ n2_; (try clear hb); (try clear hkp); (try clear ho0)) | ((with_reducible refine gate_dst (N := 6) rfl ?_); refine box_event ?hg (N := 6) ?hd (cs := #[.slice none 0 0]) (t := 28) ?hr ?_; (case hd => rfl); (case hg => rfl); (case hr => first | (go_simp; done) | (go_simp; rfl)); intro gb273 hg w20 hbox hb; have n0_ := Aside0.mk (Kd.R_below (zr HO271.out) hb); have n1_ := Aside0.mk (blk_below (zh BK264.out) hb); have n2_ := Aside0.mk (below_step (zb HB.out) hb); have n3_ := Aside0.mk (hbox); have n4_ := Aside0.mk ((by rw [hg]; exact (below_size (zb HB.out)) : w.heap.size ≤ gb273)); have n5_ := Aside0.mk ((by rw [hg]; exact (below_size (zb HB.out)) : w.heap.size ≤ gb273)); have n6_ := Aside0.mk ((by rw [hg]; exact Nat.ne_of_lt (blk_lt (zh BK264.out)) : gb264 ≠ gb273)); have n7_ := Aside0.mk ((by rw [hg]; exact Nat.ne_of_gt (blk_lt (zh BK264.out)) : gb273 ≠ gb264)); clear HO271; clear BK264; clear HB; have HO271 := n0_; have BK264 := n1_; have HB := n2_; have BK273 := n3_; have GW273 := n4_; have GE273 := n5_; have NB264_273 := n6_; have NB273_264 := n7_; clear n0_ n1_ n2_ n3_ n4_ n5_ n6_ n7_; clear hb hbox hg; obtain ⟨Ao21, co21, eo21⟩ := Kd.R_slice HO271.out; subst eo21; have hnb22 := NB273_264.out; have hnc22 := NB264_273.out; have hcz23_0 : w20.cell? ⟨gb273, 0, none⟩ = some (.slice none 0 0) := (blk_cell BK273.out 0).trans rfl; have hfz23_0 := blk_frozen BK273.out 0; have hcz24_0 : w20.cell? ⟨gb264, 0, none⟩ = some (.slice A0_0 l0_0.length c0_0) := (blk_cell BK264.out 0).trans rfl; have hfz24_0 := blk_frozen BK264.out 0) | ((with_reducible refine gate_callee (f := 15) rfl ?_); refine goesL_ (some 29) rfl rfl Try.func15 (by kernel_rfl) rfl #[.agg #[.slice A0_0 l0_0.length c0_0]] rfl zl ?_; (with_reducible refine (laws_toPool.calls k _ _ l0_0 t274 _ ?side1 ?side2 A10.out).mono ?_); (case side1 => exact Kd.C_below HR0_0.out (zb HB.out)); (case side2 => exact HC0_0.out); rintro e w25 ⟨v275, rfl, ho0, hb⟩; refine ⟨_, rfl, ?_⟩; have n0_ := Aside0.mk (Kd.R_elder' (by (with_reducible repeat (first | apply Kd.R_alloc | apply Kd.R_drewN | apply Kd.R_drew)); exact (Kd.R_mono (Kd.R_far (p := ⟨gb273, 0, none⟩) (Kd.R_types HO271.out BK273.out (by decide)) (fun _ hk => hk.2) (.slice Ao21 t269.length co21)) (fun _ h_ => h_.1))) (Kd.R_base ho0) hb); have n1_ := Aside0.mk (Kd.R_lower (Kd.R_new' ho0 (Kd.R_lt (by (with_reducible repeat (first | apply Kd.R_alloc | apply Kd.R_drewN | apply Kd.R_drew)); exact (Kd.R_mono (Kd.R_far (p := ⟨gb273, 0, none⟩) (Kd.R_types HO271.out BK273.out (by decide)) (fun _ hk => hk.2) (.slice Ao21 t269.length co21)) (fun _ h_ => h_.1))))) (below_size (zb HB.out))); have n2_ := Aside0.mk (blk_below (g := gb264) (o := .cells #[.slice A0_0 l0_0.length c0_0] 24 (0, 0)) (zf BK264.out) hb); have n3_ := Aside0.mk (blk_below (g := gb273) (o := .cells #[.slice Ao21 t269.length co21] 28 (0, 0)) (by (with_reducible repeat (first | refine blk_drewN ?_ _ | refine blk_drew ?_ | refine blk_alloc ?_ _)); refine blk_put (cs := #[.slice none 0 0]) ?_ 0 _ rfl; (with_reducible repeat (first | refine blk_drewN ?_ _ | refine blk_drew ?_ | refine blk_alloc ?_ _)); exact BK273.out) hb); have n4_ := Aside0.mk (below_step (zb HB.out) hb); clear HO271; clear BK264; clear BK273; clear HB; have HO271 := n0_; have HO276 := n1_; have BK264 := n2_; have BK273 := n3_; have HB := n4_; clear n0_ n1_ n2_ n3_ n4_; (try clear hb); (try clear hb2); (try clear hk); (try clear hi); (try clear ho0)) | ((with_reducible refine gate_dst (N := 8) rfl ?_); refine box_event ?hg (N := 8) ?hd (cs := #[.slice none 0 0]) (t := 28) ?hr ?_; (case hd => rfl); (case hg => rfl); (case hr => first | (go_simp; done) | (go_simp; rfl)); intro gb277 hg w26 hbox hb; have n0_ := Aside0.mk (Kd.R_below (zr HO271.out) hb); have n1_ := Aside0.mk (Kd.R_below (zr HO276.out) hb); have n2_ := Aside0.mk (blk_below (zh BK264.out) hb); have n3_ := Aside0.mk (blk_below (zh BK273.out) hb); have n4_ := Aside0.mk (below_step (zb HB.out) hb); have n5_ := Aside0.mk (hbox); have n6_ := Aside0.mk ((by rw [hg]; exact (below_size (zb HB.out)) : w.heap.size ≤ gb277)); have n7_ := Aside0.mk ((by rw [hg]; exact (below_size (zb HB.out)) : w.heap.size ≤ gb277)); have n8_ := Aside0.mk ((by rw [hg]; exact Nat.ne_of_lt (blk_lt (zh BK264.out)) : gb264 ≠ gb277)); have n9_ := Aside0.mk ((by rw [hg]; exact Nat.ne_of_gt (blk_lt (zh BK264.out)) : gb277 ≠ gb264)); have n10_ := Aside0.mk ((by rw [hg]; exact Nat.ne_of_lt (blk_lt (zh BK273.out)) : gb273 ≠ gb277)); have n11_ := Aside0.mk ((by rw [hg]; exact Nat.ne_of_gt (blk_lt (zh BK273.out)) : gb277 ≠ gb273)); clear HO271; clear HO276; clear BK264; clear BK273; clear HB; have HO271 := n0_; have HO276 := n1_; have BK264 := n2_; have BK273 := n3_; have HB := n4_; have BK277 := n5_; have GW277 := n6_; have GE277 := n7_; have NB264_277 := n8_; have NB277_264 := n9_; have NB273_277 := n10_; have NB277_273 := n11_; clear n0_ n1_ n2_ n3_ n4_ n5_ n6_ n7_ n8_ n9_ n10_ n11_; clear hb hbox hg; obtain ⟨Ao27, co27, eo27⟩ := Kd.R_slice HO276.out; subst eo27; have hnb28 := NB277_264.out; have hnc28 := NB264_277.out; have hnb29 := NB277_273.out; have hnc29 := NB273_277.out; have hcz30_0 : w26.cell? ⟨gb277, 0, none⟩ = some (.slice none 0 0) := (blk_cell BK277.out 0).trans rfl; have hfz30_0 := blk_frozen BK277.out 0) | ((with_reducible refine gate_callee (f := 21) rfl ?_); refine goesL_ (some 33) rfl rfl Try.func21 (by kernel_rfl) rfl #[.agg #[.slice Ao27 t274.length co27], .int .i64 a1] rfl zl ?_; (with_reducible refine (impl_MakeDigest.calls k _ _ t274 a1 t278 t281 _ ?side1 ?side2 A11.out).mono ?_); (case side1 => refine (Kd.R_reads' (e := 49) (base := w.heap.size) (ok := fun k_ => (True ∧ some k_ ≠ (.slice Ao21 t269.length co21 : Value).ownBlock)) (n := t274.length) (c := co27) ?_).2.2; exact (by (with_reducible repeat (first | apply Kd.R_alloc | apply Kd.R_drewN | apply Kd.R_drew)); exact (Kd.R_mono (Kd.R_far (p := ⟨gb277, 0, none⟩) (Kd.R_types HO276.out BK277.out (by decide)) (fun _ hk => hk.2) (.slice Ao27 t274.length co27)) (fun _ h_ => h_.1)))); (case side2 => exact (Kd.R_reads' HO276.out).2.1); rintro e w31 ⟨v279, rfl, ho0, hb⟩; refine ⟨_, rfl, ?_⟩; have n0_ := Aside0.mk (Kd.R_elder' (by (with_reducible repeat (first | apply Kd.R_alloc | apply Kd.R_drewN | apply Kd.R_drew)); exact (Kd.R_mono (Kd.R_far (p := ⟨gb277, 0, none⟩) (Kd.R_types HO271.out BK277.out (by decide)) (fun _ hk => hk.2) (.slice Ao27 t274.length co27)) (fun _ h_ => h_.1))) (Kd.R_base ho0) hb); have n1_ := Aside0.mk (Kd.R_elder' (by (with_reducible repeat (first | apply Kd.R_alloc | apply Kd.R_drewN | apply Kd.R_drew)); exact (Kd.R_mono (Kd.R_far (p := ⟨gb277, 0, none⟩) (Kd.R_types HO276.out BK277.out (by decide)) (fun _ hk => hk.2) (.slice Ao27 t274.length co27)) (fun _ h_ => h_.1))) (Kd.R_base ho0) hb); have n2_ := Aside0.mk (Kd.R_lower (Kd.R_new' (Kd.R_new' ho0 (Kd.R_lt (by (with_reducible repeat (first | apply Kd.R_alloc | apply Kd.R_drewN | apply Kd.R_drew)); exact (Kd.R_mono (Kd.R_far (p := ⟨gb277, 0, none⟩) (Kd.R_types HO271.out BK277.out (by decide)) (fun _ hk => hk.2) (.slice Ao27 t274.length co27)) (fun _ h_ => h_.1))))) (Kd.R_lt (by (with_reducible repeat (first | apply Kd.R_alloc | apply Kd.R_drewN | apply Kd.R_drew)); exact (Kd.R_mono (Kd.R_far (p := ⟨gb277, 0, none⟩) (Kd.R_types HO276.out BK277.out (by decide)) (fun _ hk => hk.2) (.slice Ao27 t274.length co27)) (fun _ h_ => h_.1))))) (below_size (zb HB.out))); have n3_ := Aside0.mk (blk_below (g := gb264) (o := .cells #[.slice A0_0 l0_0.length c0_0] 24 (0, 0)) (zf BK264.out) hb); have n4_ := Aside0.mk (blk_below (g := gb273) (o := .cells #[.slice Ao21 t269.length co21] 28 (0, 0)) (zf BK273.out) hb); have n5_ := Aside0.mk (blk_below (g := gb277) (o := .cells #[.slice Ao27 t274.length co27] 28 (0, 0)) (by (with_reducible repeat (first | refine blk_drewN ?_ _ | refine blk_drew ?_ | refine blk_alloc ?_ _)); refine blk_put (cs := #[.slice none 0 0]) ?_ 0 _ rfl; (with_reducible repeat (first | refine blk_drewN ?_ _ | refine blk_drew ?_ | refine blk_alloc ?_ _)); exact BK277.out) hb); have n6_ := Aside0.mk (below_step (zb HB.out) hb); clear HO271; clear HO276; clear BK264; clear BK273; clear BK277; clear HB; have HO271 := n0_; have HO276 := n1_; have HO280 := n2_; have BK264 := n3_; have BK273 := n4_; have BK277 := n5_; have HB := n6_; clear n0_ n1_ n2_ n3_ n4_ n5_ n6_; (try clear hb); (try clear hb2); (try clear hk); (try clear hi); (try clear ho0)) | ((with_reducible refine gate_dst (N := 9) rfl ?_); refine box_event ?hg (N := 9) ?hd (cs := #[.slice none 0 0]) (t := 28) ?hr ?_; (case hd => rfl); (case hg => rfl); (case hr => first | (go_simp; done) | (go_simp; rfl)); intro gb282 hg w32 hbox hb; have n0_ := Aside0.mk (Kd.R_below (zr HO271.out) hb); have n1_ := Aside0.mk (Kd.R_below (zr HO276.out) hb); have n2_ := Aside0.mk (Kd.R_below (zr HO280.out) hb); have n3_ := Aside0.mk (blk_below (zh BK264.out) hb); have n4_ := Aside0.mk (blk_below (zh BK273.out) hb); have n5_ := Aside0.mk (blk_below (zh BK277.out) hb); have n6_ := Aside0.mk (below_step (zb HB.out) hb); have n7_ := Aside0.mk (hbox); have n8_ := Aside0.mk ((by rw [hg]; exact (below_size (zb HB.out)) : w.heap.size ≤ gb282)); have n9_ := Aside0.mk ((by rw [hg]; exact (below_size (zb HB.out)) : w.heap.size ≤ gb282)); have n10_ := Aside0.mk ((by rw [hg]; exact Nat.ne_of_lt (blk_lt (zh BK264.out)) : gb264 ≠ gb282)); have n11_ := Aside0.mk ((by rw [hg]; exact Nat.ne_of_gt (blk_lt (zh BK264.out)) : gb282 ≠ gb264)); have n12_ := Aside0.mk ((by rw [hg]; exact Nat.ne_of_lt (blk_lt (zh BK273.out)) : gb273 ≠ gb282)); have n13_ := Aside0.mk ((by rw [hg]; exact Nat.ne_of_gt (blk_lt (zh BK273.out)) : gb282 ≠ gb273)); have n14_ := Aside0.mk ((by rw [hg]; exact Nat.ne_of_lt (blk_lt (zh BK277.out)) : gb277 ≠ gb282)); have n15_ := Aside0.mk ((by rw [hg]; exact Nat.ne_of_gt (blk_lt (zh BK277.out)) : gb282 ≠ gb277)); clear HO271; clear HO276; clear HO280; clear BK264; clear BK273; clear BK277; clear HB; have HO271 := n0_; have HO276 := n1_; have HO280 := n2_; have BK264 := n3_; have BK273 := n4_; have BK277 := n5_; have HB := n6_; have BK282 := n7_; have GW282 := n8_; have GE282 := n9_; have NB264_282 := n10_; have NB282_264 := n11_; have NB273_282 := n12_; have NB282_273 := n13_; have NB277_282 := n14_; have NB282_277 := n15_; clear n0_ n1_ n2_ n3_ n4_ n5_ n6_ n7_ n8_ n9_ n10_ n11_ n12_ n13_ n14_ n15_; clear hb hbox hg; obtain ⟨Ao33, co33, eo33⟩ := Kd.R_slice HO280.out; subst eo33; have hnb34 := NB282_264.out; have hnc34 := NB264_282.out; have hnb35 := NB282_273.out; have hnc35 := NB273_282.out; have hnb36 := NB282_277.out; have hnc36 := NB277_282.out; have hcz37_0 : w32.cell? ⟨gb282, 0, none⟩ = some (.slice none 0 0) := (blk_cell BK282.out 0).trans rfl; have hfz37_0 := blk_frozen BK282.out 0))
  (try simp only [Act.put, List.setIfInBounds_toArray, List.set_cons_zero, List.set_cons_succ])
  go_cut [44] (fun v44 wc => ∃ (kq : Nat) (x44_11 : Bool), v44 = .bool x44_11 ∧ Aside0 (laws_FnExactMakeDigest.j0 kq a1 t272 t281 x44_11 l0_0 t269 t274 t278 = some r) ∧ Aside0 (kq ≤ k) ∧ Aside0 (Kd.R k49 49 wc w.heap.size (fun k_ => some k_ ≠ ((.slice Ao27 t274.length co27) : Value).ownBlock ∧ some k_ ≠ ((.slice Ao33 t278.length co33) : Value).ownBlock) (.slice Ao21 t269.length co21) t269) ∧ Aside0 (Kd.R k49 49 wc w.heap.size (fun k_ => some k_ ≠ ((.slice Ao21 t269.length co21) : Value).ownBlock ∧ some k_ ≠ ((.slice Ao33 t278.length co33) : Value).ownBlock) (.slice Ao27 t274.length co27) t274) ∧ Aside0 (Kd.R k49 49 wc w.heap.size (fun k_ => some k_ ≠ ((.slice Ao21 t269.length co21) : Value).ownBlock ∧ some k_ ≠ ((.slice Ao27 t274.length co27) : Value).ownBlock) (.slice Ao33 t278.length co33) t278) ∧ Aside0 (wc.heap[gb264]? = some (.cells #[(.slice A0_0 l0_0.length c0_0)] 24 (0, 0))) ∧ Aside0 (wc.heap[gb273]? = some (.cells #[(.slice Ao21 t269.length co21)] 28 (0, 0))) ∧ Aside0 (wc.heap[gb277]? = some (.cells #[(.slice Ao27 t274.length co27)] 28 (0, 0))) ∧ Aside0 (wc.heap[gb282]? = some (.cells #[(.slice Ao33 t278.length co33)] 28 (0, 0))) ∧ Aside0 (Below w.heap.size w wc))
  case first =>
   have H := HC12.out
   clear HC12
   replace H := Option.bind_eq_some_iff.mp H
   obtain ⟨t283, A380, H⟩ := H
   replace H : (if t283 = true then (laws_FnExactMakeDigest.j0 k a1 t272 t281 (t281 != t272) l0_0 t269 t274 t278) else (laws_FnExactMakeDigest.j0 k a1 t272 t281 true l0_0 t269 t274 t278)) = some r := H
   have A38 := Aside0.mk A380
   clear A380
   by_cases c39 : t283 = true
   ·subst c39
    have H1 : (laws_FnExactMakeDigest.j0 k a1 t272 t281 (t281 != t272) l0_0 t269 t274 t278) = some r := by rw [if_pos rfl] at H; exact H
    clear H
    have H := H1
    clear H1
    have H' := Aside0.mk H
    clear H
    have hnb40 := NB282_264.out
    have hnc40 := NB264_282.out
    have hnb41 := NB282_273.out
    have hnc41 := NB273_282.out
    have hnb42 := NB282_277.out
    have hnc42 := NB277_282.out
    have hcz43_0 : w32.cell? ⟨gb282, 0, none⟩ = some (.slice none 0 0) := (blk_cell BK282.out 0).trans rfl
    have hfz43_0 := blk_frozen BK282.out 0
    have hnb44 := NB273_264.out
    have hnc44 := NB264_273.out
    have hnb45 := NB273_277.out
    have hnc45 := NB277_273.out
    have hcz46_0 : w32.cell? ⟨gb273, 0, none⟩ = some (.slice Ao21 t269.length co21) := (blk_cell BK273.out 0).trans rfl
    have hfz46_0 := blk_frozen BK273.out 0
    go_wp2_with (first | ((with_reducible refine gate_callee (f := 17) rfl ?_); refine goesL_ (some 38) rfl rfl Try.func17 (by kernel_rfl) rfl #[.agg #[.slice Ao33 t278.length co33], .agg #[.slice Ao21 t269.length co21]] rfl zl ?_; (with_reducible refine (laws_eqPool.calls k _ _ t278 _ _ t269 true _ ?side1 ?side2 ?side3 ?side4 A38.out).mono ?_); (case side1 => refine (Kd.R_reads' (e := 49) (base := w.heap.size) (ok := fun k_ => ((True ∧ some k_ ≠ (.slice Ao21 t269.length co21 : Value).ownBlock) ∧ some k_ ≠ (.slice Ao27 t274.length co27 : Value).ownBlock)) (n := t278.length) (c := co33) ?_).2.2; exact (by (with_reducible repeat (first | apply Kd.R_alloc | apply Kd.R_drewN | apply Kd.R_drew)); exact (Kd.R_mono (Kd.R_far (p := ⟨gb282, 0, none⟩) (Kd.R_types HO280.out BK282.out (by decide)) (fun _ hk => hk.2) (.slice Ao33 t278.length co33)) (fun _ h_ => h_.1)))); (case side2 => exact (Kd.R_reads' HO280.out).2.1); (case side3 => refine (Kd.R_reads' (e := 49) (base := w.heap.size) (ok := fun k_ => ((True ∧ some k_ ≠ (.slice Ao27 t274.length co27 : Value).ownBlock) ∧ some k_ ≠ (.slice Ao33 t278.length co33 : Value).ownBlock)) (n := t269.length) (c := co21) ?_).2.2; exact (by (with_reducible repeat (first | apply Kd.R_alloc | apply Kd.R_drewN | apply Kd.R_drew)); exact (Kd.R_mono (Kd.R_far (p := ⟨gb282, 0, none⟩) (Kd.R_types HO271.out BK282.out (by decide)) (fun _ hk => hk.2) (.slice Ao33 t278.length co33)) (fun _ h_ => h_.1)))); (case side4 => exact (Kd.R_reads' HO271.out).2.1); rintro e w47 ⟨rfl, hb⟩; refine ⟨_, rfl, ?_⟩; have n0_ := Aside0.mk (Kd.R_below (by (with_reducible repeat (first | apply Kd.R_alloc | apply Kd.R_drewN | apply Kd.R_drew)); exact (Kd.R_mono (Kd.R_far (p := ⟨gb282, 0, none⟩) (Kd.R_types HO271.out BK282.out (by decide)) (fun _ hk => hk.2) (.slice Ao33 t278.length co33)) (fun _ h_ => h_.1))) hb); have n1_ := Aside0.mk (Kd.R_below (by (with_reducible repeat (first | apply Kd.R_alloc | apply Kd.R_drewN | apply Kd.R_drew)); exact (Kd.R_mono (Kd.R_far (p := ⟨gb282, 0, none⟩) (Kd.R_types HO276.out BK282.out (by decide)) (fun _ hk => hk.2) (.slice Ao33 t278.length co33)) (fun _ h_ => h_.1))) hb); have n2_ := Aside0.mk (Kd.R_below (by (with_reducible repeat (first | apply Kd.R_alloc | apply Kd.R_drewN | apply Kd.R_drew)); exact (Kd.R_mono (Kd.R_far (p := ⟨gb282, 0, none⟩) (Kd.R_types HO280.out BK282.out (by decide)) (fun _ hk => hk.2) (.slice Ao33 t278.length co33)) (fun _ h_ => h_.1))) hb); have n3_ := Aside0.mk (blk_below (g := gb264) (o := .cells #[.slice A0_0 l0_0.length c0_0] 24 (0, 0)) (zf BK264.out) hb); have n4_ := Aside0.mk (blk_below (g := gb273) (o := .cells #[.slice Ao21 t269.length co21] 28 (0, 0)) (zf BK273.out) hb); have n5_ := Aside0.mk (blk_below (g := gb277) (o := .cells #[.slice Ao27 t274.length co27] 28 (0, 0)) (zf BK277.out) hb); have n6_ := Aside0.mk (blk_below (g := gb282) (o := .cells #[.slice Ao33 t278.length co33] 28 (0, 0)) (by (with_reducible repeat (first | refine blk_drewN ?_ _ | refine blk_drew ?_ | refine blk_alloc ?_ _)); refine blk_put (cs := #[.slice none 0 0]) ?_ 0 _ rfl; (with_reducible repeat (first | refine blk_drewN ?_ _ | refine blk_drew ?_ | refine blk_alloc ?_ _)); exact BK282.out) hb); have n7_ := Aside0.mk (below_step (zb HB.out) hb); clear HO271; clear HO276; clear HO280; clear BK264; clear BK273; clear BK277; clear BK282; clear HB; have HO271 := n0_; have HO276 := n1_; have HO280 := n2_; have BK264 := n3_; have BK273 := n4_; have BK277 := n5_; have BK282 := n6_; have HB := n7_; clear n0_ n1_ n2_ n3_ n4_ n5_ n6_ n7_; (try clear hb); (try clear hb2); (try clear hk); (try clear hi)))
    go_meet
    case rel => exact ⟨_, ((t281 != t272)), (by first | rfl | (simp; done) | (simp [*]; done)), H', ⟨by first | omega | exact Nat.le_refl _⟩, ⟨zr (Kd.R_mono HO271.out (fun _ hk => ⟨hk.1.2, hk.2⟩))⟩, ⟨zr (Kd.R_mono HO276.out (fun _ hk => ⟨hk.1.2, hk.2⟩))⟩, ⟨zr (Kd.R_mono HO280.out (fun _ hk => ⟨hk.1.2, hk.2⟩))⟩, ⟨zh BK264.out⟩, ⟨zh BK273.out⟩, ⟨zh BK277.out⟩, ⟨zh BK282.out⟩, ⟨zb HB.out⟩⟩
   ·replace c39 := Bool.eq_false_iff.mpr c39
    subst c39
    have H1 : (laws_FnExactMakeDigest.j0 k a1 t272 t281 true l0_0 t269 t274 t278) = some r := by rw [if_neg (show ¬ (false = true) by decide)] at H; exact H
    clear H
    have H := H1
    clear H1
    have H' := Aside0.mk H
    clear H
    have hnb48 := NB282_264.out
    have hnc48 := NB264_282.out
    have hnb49 := NB282_273.out
    have hnc49 := NB273_282.out
    have hnb50 := NB282_277.out
    have hnc50 := NB277_282.out
    have hcz51_0 : w32.cell? ⟨gb282, 0, none⟩ = some (.slice none 0 0) := (blk_cell BK282.out 0).trans rfl
    have hfz51_0 := blk_frozen BK282.out 0
    have hnb52 := NB273_264.out
    have hnc52 := NB264_273.out
    have hnb53 := NB273_277.out
    have hnc53 := NB277_273.out
    have hcz54_0 : w32.cell? ⟨gb273, 0, none⟩ = some (.slice Ao21 t269.length co21) := (blk_cell BK273.out 0).trans rfl
    have hfz54_0 := blk_frozen BK273.out 0
    go_wp2_with (first | ((with_reducible refine gate_callee (f := 17) rfl ?_); refine goesL_ (some 38) rfl rfl Try.func17 (by kernel_rfl) rfl #[.agg #[.slice Ao33 t278.length co33], .agg #[.slice Ao21 t269.length co21]] rfl zl ?_; (with_reducible refine (laws_eqPool.calls k _ _ t278 _ _ t269 false _ ?side1 ?side2 ?side3 ?side4 A38.out).mono ?_); (case side1 => refine (Kd.R_reads' (e := 49) (base := w.heap.size) (ok := fun k_ => ((True ∧ some k_ ≠ (.slice Ao21 t269.length co21 : Value).ownBlock) ∧ some k_ ≠ (.slice Ao27 t274.length co27 : Value).ownBlock)) (n := t278.length) (c := co33) ?_).2.2; exact (by (with_reducible repeat (first | apply Kd.R_alloc | apply Kd.R_drewN | apply Kd.R_drew)); exact (Kd.R_mono (Kd.R_far (p := ⟨gb282, 0, none⟩) (Kd.R_types HO280.out BK282.out (by decide)) (fun _ hk => hk.2) (.slice Ao33 t278.length co33)) (fun _ h_ => h_.1)))); (case side2 => exact (Kd.R_reads' HO280.out).2.1); (case side3 => refine (Kd.R_reads' (e := 49) (base := w.heap.size) (ok := fun k_ => ((True ∧ some k_ ≠ (.slice Ao27 t274.length co27 : Value).ownBlock) ∧ some k_ ≠ (.slice Ao33 t278.length co33 : Value).ownBlock)) (n := t269.length) (c := co21) ?_).2.2; exact (by (with_reducible repeat (first | apply Kd.R_alloc | apply Kd.R_drewN | apply Kd.R_drew)); exact (Kd.R_mono (Kd.R_far (p := ⟨gb282, 0, none⟩) (Kd.R_types HO271.out BK282.out (by decide)) (fun _ hk => hk.2) (.slice Ao33 t278.length co33)) (fun _ h_ => h_.1)))); (case side4 => exact (Kd.R_reads' HO271.out).2.1); rintro e w55 ⟨rfl, hb⟩; refine ⟨_, rfl, ?_⟩; have n0_ := Aside0.mk (Kd.R_below (by (with_reducible repeat (first | apply Kd.R_alloc | apply Kd.R_drewN | apply Kd.R_drew)); exact (Kd.R_mono (Kd.R_far (p := ⟨gb282, 0, none⟩) (Kd.R_types HO271.out BK282.out (by decide)) (fun _ hk => hk.2) (.slice Ao33 t278.length co33)) (fun _ h_ => h_.1))) hb); have n1_ := Aside0.mk (Kd.R_below (by (with_reducible repeat (first | apply Kd.R_alloc | apply Kd.R_drewN | apply Kd.R_drew)); exact (Kd.R_mono (Kd.R_far (p := ⟨gb282, 0, none⟩) (Kd.R_types HO276.out BK282.out (by decide)) (fun _ hk => hk.2) (.slice Ao33 t278.length co33)) (fun _ h_ => h_.1))) hb); have n2_ := Aside0.mk (Kd.R_below (by (with_reducible repeat (first | apply Kd.R_alloc | apply Kd.R_drewN | apply Kd.R_drew)); exact (Kd.R_mono (Kd.R_far (p := ⟨gb282, 0, none⟩) (Kd.R_types HO280.out BK282.out (by decide)) (fun _ hk => hk.2) (.slice Ao33 t278.length co33)) (fun _ h_ => h_.1))) hb); have n3_ := Aside0.mk (blk_below (g := gb264) (o := .cells #[.slice A0_0 l0_0.length c0_0] 24 (0, 0)) (zf BK264.out) hb); have n4_ := Aside0.mk (blk_below (g := gb273) (o := .cells #[.slice Ao21 t269.length co21] 28 (0, 0)) (zf BK273.out) hb); have n5_ := Aside0.mk (blk_below (g := gb277) (o := .cells #[.slice Ao27 t274.length co27] 28 (0, 0)) (zf BK277.out) hb); have n6_ := Aside0.mk (blk_below (g := gb282) (o := .cells #[.slice Ao33 t278.length co33] 28 (0, 0)) (by (with_reducible repeat (first | refine blk_drewN ?_ _ | refine blk_drew ?_ | refine blk_alloc ?_ _)); refine blk_put (cs := #[.slice none 0 0]) ?_ 0 _ rfl; (with_reducible repeat (first | refine blk_drewN ?_ _ | refine blk_drew ?_ | refine blk_alloc ?_ _)); exact BK282.out) hb); have n7_ := Aside0.mk (below_step (zb HB.out) hb); clear HO271; clear HO276; clear HO280; clear BK264; clear BK273; clear BK277; clear BK282; clear HB; have HO271 := n0_; have HO276 := n1_; have HO280 := n2_; have BK264 := n3_; have BK273 := n4_; have BK277 := n5_; have BK282 := n6_; have HB := n7_; clear n0_ n1_ n2_ n3_ n4_ n5_ n6_ n7_; (try clear hb); (try clear hb2); (try clear hk); (try clear hi)))
    go_meet
    case rel => exact ⟨_, (true), (by first | rfl | (simp; done) | (simp [*]; done)), H', ⟨by first | omega | exact Nat.le_refl _⟩, ⟨zr (Kd.R_mono HO271.out (fun _ hk => ⟨hk.1.2, hk.2⟩))⟩, ⟨zr (Kd.R_mono HO276.out (fun _ hk => ⟨hk.1.2, hk.2⟩))⟩, ⟨zr (Kd.R_mono HO280.out (fun _ hk => ⟨hk.1.2, hk.2⟩))⟩, ⟨zh BK264.out⟩, ⟨zh BK273.out⟩, ⟨zh BK277.out⟩, ⟨zh BK282.out⟩, ⟨zb HB.out⟩⟩
  case rest =>
   clear HC12
   try clear c1
   try clear c2
   try clear p2
   try clear c3
   try clear c4
   try clear c4b0
   try clear c5
   try clear c13
   try clear c15
   try clear c17
   try clear c20
   try clear c21
   try clear c22
   try clear c28
   try clear c29
   try clear c34
   try clear c35
   try clear c36
   try clear c39
   try clear c40
   try clear c41
   try clear c42
   try clear c44
   try clear c45
   try clear c48
   try clear c49
   try clear c50
   try clear c52
   try clear c53
   try clear hcz14_0
   try clear hcz16_0
   try clear hcz23_0
   try clear hcz24_0
   try clear hcz30_0
   try clear hcz37_0
   try clear hcz43_0
   try clear hcz46_0
   try clear hcz51_0
   try clear hcz54_0
   try clear hcz6_0
   try clear hfz14_0
   try clear hfz16_0
   try clear hfz23_0
   try clear hfz24_0
   try clear hfz30_0
   try clear hfz37_0
   try clear hfz43_0
   try clear hfz46_0
   try clear hfz51_0
   try clear hfz54_0
   try clear hfz6_0
   obtain ⟨kq, x44_11, rfl, HA, HJ11, HO_274000, HO_278000, HO_283000, BK264, BK273, BK277, BK282, HB⟩ := hcut
   cases kq with
   | zero => exact absurd HA.out (by simp [laws_FnExactMakeDigest.j0])
   | succ kj11 =>
    have H := HA.out
    clear HA
    simp only [laws_FnExactMakeDigest.j0] at H
    by_cases c56 : x44_11 = true
    ·subst c56
     have H1 : (some false) = some r := by rw [if_pos rfl] at H; exact H
     clear H
     have H := H1
     clear H1
     obtain rfl := Option.some.inj H
     go_wp2
     go_ret
     exact ⟨ze, zb HB.out⟩
    ·replace c56 := Bool.eq_false_iff.mpr c56
     subst c56
     have H1 : ((laws_toPool.f kj11 l0_0).bind fun t284 => ((laws_eqPool.f kj11 t274 t284).bind fun t287 => (if t287 = true then ((laws_markPool.f kj11 t274 1).bind fun bt288 => (if bt288.1 < 0 then (laws_FnExactMakeDigest.j1 kj11 a1 t272 true l0_0 t269 t278) else ((laws_eqPool.f kj11 t278 t269).bind fun t290 => (if t290 = true then (laws_FnExactMakeDigest.j1 kj11 a1 t272 (t281 != t272) l0_0 t269 t278) else (laws_FnExactMakeDigest.j1 kj11 a1 t272 true l0_0 t269 t278))))) else (some false)))) = some r := by rw [if_neg (show ¬ (false = true) by decide)] at H; exact H
     clear H
     have H := H1
     clear H1
     replace H := Option.bind_eq_some_iff.mp H
     obtain ⟨t284, A570, H⟩ := H
     replace H : ((laws_eqPool.f kj11 t274 t284).bind fun t287 => (if t287 = true then ((laws_markPool.f kj11 t274 1).bind fun bt288 => (if bt288.1 < 0 then (laws_FnExactMakeDigest.j1 kj11 a1 t272 true l0_0 t269 t278) else ((laws_eqPool.f kj11 t278 t269).bind fun t290 => (if t290 = true then (laws_FnExactMakeDigest.j1 kj11 a1 t272 (t281 != t272) l0_0 t269 t278) else (laws_FnExactMakeDigest.j1 kj11 a1 t272 true l0_0 t269 t278))))) else (some false))) = some r := H
     have A57 := Aside0.mk A570
     clear A570
     replace H := Option.bind_eq_some_iff.mp H
     obtain ⟨t287, A580, H⟩ := H
     replace H : (if t287 = true then ((laws_markPool.f kj11 t274 1).bind fun bt288 => (if bt288.1 < 0 then (laws_FnExactMakeDigest.j1 kj11 a1 t272 true l0_0 t269 t278) else ((laws_eqPool.f kj11 t278 t269).bind fun t290 => (if t290 = true then (laws_FnExactMakeDigest.j1 kj11 a1 t272 (t281 != t272) l0_0 t269 t278) else (laws_FnExactMakeDigest.j1 kj11 a1 t272 true l0_0 t269 t278))))) else (some false)) = some r := H
     have A58 := Aside0.mk A580
     clear A580
     by_cases c59 : t287 = true
     ·subst c59
      have H1 : ((laws_markPool.f kj11 t274 1).bind fun bt288 => (if bt288.1 < 0 then (laws_FnExactMakeDigest.j1 kj11 a1 t272 true l0_0 t269 t278) else ((laws_eqPool.f kj11 t278 t269).bind fun t290 => (if t290 = true then (laws_FnExactMakeDigest.j1 kj11 a1 t272 (t281 != t272) l0_0 t269 t278) else (laws_FnExactMakeDigest.j1 kj11 a1 t272 true l0_0 t269 t278))))) = some r := by rw [if_pos rfl] at H; exact H
      clear H
      have H := H1
      clear H1
      replace H := Option.bind_eq_some_iff.mp H
      obtain ⟨⟨t288, t289⟩, A600, H⟩ := H
      replace H : (if t288 < 0 then (laws_FnExactMakeDigest.j1 kj11 a1 t272 true l0_0 t269 t278) else ((laws_eqPool.f kj11 t278 t269).bind fun t290 => (if t290 = true then (laws_FnExactMakeDigest.j1 kj11 a1 t272 (t281 != t272) l0_0 t269 t278) else (laws_FnExactMakeDigest.j1 kj11 a1 t272 true l0_0 t269 t278)))) = some r := H
      have A60 := Aside0.mk A600
      clear A600
      have HC61 := Aside0.mk H
      clear H
      try go_wp2
      have n0_ := Aside0.mk (Kd.R_drew HO_274000.out)
      have n1_ := Aside0.mk (Kd.R_drew HO_278000.out)
      have n2_ := Aside0.mk (Kd.R_drew HO_283000.out)
      have n3_ := Aside0.mk (blk_drew BK264.out)
      have n4_ := Aside0.mk (blk_drew BK273.out)
      have n5_ := Aside0.mk (blk_drew BK277.out)
      have n6_ := Aside0.mk (blk_drew BK282.out)
      have n7_ := Aside0.mk (below_drew1 HB.out)
      clear HO_274000
      clear HO_278000
      clear HO_283000
      clear BK264
      clear BK273
      clear BK277
      clear BK282
      clear HB
      have HO_274000 := n0_
      have HO_278000 := n1_
      have HO_283000 := n2_
      have BK264 := n3_
      have BK273 := n4_
      have BK277 := n5_
      have BK282 := n6_
      have HB := n7_
      clear n0_ n1_ n2_ n3_ n4_ n5_ n6_ n7_
      refine start_ (n := 5) (S := fun w' => w'.cell? ⟨gb277, 0, none⟩ = some (.slice Ao27 t274.length co27) ∧ w'.cell? ⟨gb264, 0, none⟩ = some (.slice A0_0 l0_0.length c0_0)) (ds := []) #[false, false, false, false, false] (by kernel_rfl) rfl rfl ⟨(blk_cell BK277.out 0).trans rfl, (blk_cell BK264.out 0).trans rfl⟩ (fun hHeld => ?_)
      generalize wc.drew = w62 at HO_274000 HO_278000 HO_283000 BK264 BK273 BK277 BK282 HB hHeld ⊢
      refine take_ (i := 0) (N := some 45) (v := ?_) (a' := ?_) #[true, false, false, false, false] rfl rfl (by kernel_rfl) (fun _ _ _ h => h) (Or.inl ⟨by rfl, ?_⟩) hHeld ?_ ?_
      rotate_left
      ·rintro w' ⟨s0, s1⟩
       go_simp
       with_reducible rfl
      rotate_left
      ·simp only [Act.put, List.setIfInBounds_toArray, List.set_cons_zero, List.set_cons_succ, i64_w, i32_w]
       rfl
      refine take_ (i := 1) (N := some 46) (v := ?_) (a' := ?_) #[true, true, false, false, false] rfl rfl (by kernel_rfl) (fun _ _ _ h => h) (Or.inl ⟨by rfl, ?_⟩) hHeld ?_ ?_
      rotate_left
      ·rintro w' ⟨s0, s1⟩
       go_simp
       with_reducible rfl
      rotate_left
      ·simp only [Act.put, List.setIfInBounds_toArray, List.set_cons_zero, List.set_cons_succ, i64_w, i32_w]
       rfl
      refine one_ (i := 2) (N := some 47) #[true, true, true, false, false] rfl rfl (by kernel_rfl) (by decide) (fun K hK => ?_)
      refine goes_ Try.func15 (by kernel_rfl) rfl #[.agg #[.slice A0_0 l0_0.length c0_0]] (by rfl) rfl rfl zl ?_
      with_reducible refine (laws_toPool.calls kj11 _ _ l0_0 t284 _ ?side1 ?side2 A57.out).mono ?_
      (case side1 => exact zc (Kd.C_below HR0_0.out HB.out))
      (case side2 => exact HC0_0.out)
      rintro e w63 ⟨v285, rfl, ho0, hb⟩
      refine ⟨_, rfl, ?_⟩
      have n0_ := Aside0.mk (Kd.R_elder' (zr HO_274000.out) (Kd.R_base ho0) hb)
      have n1_ := Aside0.mk (Kd.R_elder' (zr HO_278000.out) (Kd.R_base ho0) hb)
      have n2_ := Aside0.mk (Kd.R_elder' (zr HO_283000.out) (Kd.R_base ho0) hb)
      have n3_ := Aside0.mk (Kd.R_lower (Kd.R_new' (Kd.R_new' (Kd.R_new' ho0 (Kd.R_lt (zr HO_274000.out))) (Kd.R_lt (zr HO_278000.out))) (Kd.R_lt (zr HO_283000.out))) (below_size (zb HB.out)))
      have n4_ := Aside0.mk (blk_below (zh BK264.out) hb)
      have n5_ := Aside0.mk (blk_below (zh BK273.out) hb)
      have n6_ := Aside0.mk (blk_below (zh BK277.out) hb)
      have n7_ := Aside0.mk (blk_below (zh BK282.out) hb)
      have n8_ := Aside0.mk (below_step (zb HB.out) hb)
      clear HO_274000
      clear HO_278000
      clear HO_283000
      clear BK264
      clear BK273
      clear BK277
      clear BK282
      clear HB
      have HO_274000 := n0_
      have HO_278000 := n1_
      have HO_283000 := n2_
      have HO286 := n3_
      have BK264 := n4_
      have BK273 := n5_
      have BK277 := n6_
      have BK282 := n7_
      have HB := n8_
      clear n0_ n1_ n2_ n3_ n4_ n5_ n6_ n7_ n8_
      (try clear hb)
      (try clear hb2)
      (try clear hk)
      (try clear hi)
      (try clear ho0)
      obtain ⟨Ao64, co64, eo64⟩ := Kd.R_slice HO286.out
      (first | subst eo64 | (injection eo64 with f1_ f2_ f3_; have f4_ := f1_.symm; have f5_ := f3_.symm; clear f1_ f2_ f3_; subst f4_; subst f5_))
      refine hK.out _ _ ⟨(blk_cell BK277.out 0).trans rfl, (blk_cell BK264.out 0).trans rfl⟩ (fun hHeld => ?_)
      clear hK K
      refine norm_ (a' := ?_) ?_ ?_
      rotate_left
      ·show Act.put _ (some 47) _ = _
       simp only [Act.put, List.setIfInBounds_toArray, List.set_cons_zero, List.set_cons_succ, i64_w, i32_w]
       rfl
      refine one_ (i := 3) (N := some 48) #[true, true, true, true, false] rfl rfl (by kernel_rfl) (by decide) (fun K hK => ?_)
      refine goes_ Try.func17 (by kernel_rfl) rfl #[.agg #[.slice Ao27 t274.length co27], .agg #[.slice Ao64 t284.length co64]] (by rfl) rfl rfl zl ?_
      with_reducible refine (laws_eqPool.calls kj11 _ _ t274 _ _ t284 true _ ?side1 ?side2 ?side3 ?side4 A58.out).mono ?_
      (case side1 => exact zc (Kd.R_reads' HO_278000.out).2.2)
      (case side2 => exact (Kd.R_reads' HO_278000.out).2.1)
      (case side3 => exact zc (Kd.R_reads' HO286.out).2.2)
      (case side4 => exact (Kd.R_reads' HO286.out).2.1)
      rintro e w65 ⟨rfl, hb⟩
      refine ⟨_, rfl, ?_⟩
      have n0_ := Aside0.mk (Kd.R_below (zr HO_274000.out) hb)
      have n1_ := Aside0.mk (Kd.R_below (zr HO_278000.out) hb)
      have n2_ := Aside0.mk (Kd.R_below (zr HO_283000.out) hb)
      have n3_ := Aside0.mk (Kd.R_below (zr HO286.out) hb)
      have n4_ := Aside0.mk (blk_below (zh BK264.out) hb)
      have n5_ := Aside0.mk (blk_below (zh BK273.out) hb)
      have n6_ := Aside0.mk (blk_below (zh BK277.out) hb)
      have n7_ := Aside0.mk (blk_below (zh BK282.out) hb)
      have n8_ := Aside0.mk (below_step (zb HB.out) hb)
      clear HO_274000
      clear HO_278000
      clear HO_283000
      clear HO286
      clear BK264
      clear BK273
      clear BK277
      clear BK282
      clear HB
      have HO_274000 := n0_
      have HO_278000 := n1_
      have HO_283000 := n2_
      have HO286 := n3_
      have BK264 := n4_
      have BK273 := n5_
      have BK277 := n6_
      have BK282 := n7_
      have HB := n8_
      clear n0_ n1_ n2_ n3_ n4_ n5_ n6_ n7_ n8_
      (try clear hb)
      (try clear hb2)
      (try clear hk)
      (try clear hi)
      refine hK.out _ _ ⟨(blk_cell BK277.out 0).trans rfl, (blk_cell BK264.out 0).trans rfl⟩ (fun hHeld => ?_)
      clear hK K
      refine norm_ (a' := ?_) ?_ ?_
      rotate_left
      ·show Act.put _ (some 48) _ = _
       simp only [Act.put, List.setIfInBounds_toArray, List.set_cons_zero, List.set_cons_succ, i64_w, i32_w]
       rfl
      refine pure_ (i := 4) (N := some 49) (v := ?_) (a' := ?_) #[true, true, true, true, true] rfl rfl (by kernel_rfl) (fun _ _ _ h => h) (Or.inl ⟨by rfl, ?_⟩) ?_ ?_
      rotate_left
      ·intro w'
       go_simp
       with_reducible rfl
      rotate_left
      ·simp only [Act.put, List.setIfInBounds_toArray, List.set_cons_zero, List.set_cons_succ, i64_w, i32_w]
       rfl
      refine done_ (by kernel_rfl) ?_
      have hnb66 := NB277_264.out
      have hnc66 := NB264_277.out
      have hnb67 := NB277_273.out
      have hnc67 := NB273_277.out
      have hnb68 := NB277_282.out
      have hnc68 := NB282_277.out
      have hcz69_0 : w65.cell? ⟨gb277, 0, none⟩ = some (.slice Ao27 t274.length co27) := (blk_cell BK277.out 0).trans rfl
      have hfz69_0 := blk_frozen BK277.out 0
      go_upto_region 14 with (first | ((with_reducible refine gate_callee (f := 18) rfl ?_); refine goesL_ (some 52) rfl rfl Try.func18 (by kernel_rfl) rfl #[.agg #[.slice Ao27 t274.length co27], .int .i64 1] rfl zl ?_; (with_reducible refine (laws_markPool.calls kj11 (fun k_ => some k_ = (.slice Ao27 t274.length co27 : Value).ownBlock) (.slice Ao27 t274.length co27) t274 1 t288 t289 w _ ?side1 ?side2 A60.out).mono ?_); (case side1 => repeat (first | (with_reducible first | exact HB.out | apply below_alloc | apply pw_below_drewN | apply below_drew1 | refine below_set ?_ GE264.out | refine below_set ?_ GE273.out | refine below_set ?_ GE277.out | refine below_set ?_ GE282.out) | exact HB.out)); (case side2 => exact Kd.R_tight rfl HO_278000.out); rintro e w70 ⟨rfl, hy0, hb, hkp⟩; refine ⟨_, rfl, ?_⟩; have n0_ := Aside0.mk (Kd.R_mono (ok' := fun k_ => some k_ ≠ (.slice Ao27 t274.length co27 : Value).ownBlock ∧ some k_ ≠ (.slice Ao33 t278.length co33 : Value).ownBlock ∧ some k_ ≠ (.slice Ao64 t284.length co64 : Value).ownBlock) (Kd.R_keptB (HO_274000.out) hkp (fun k_ hk_ hs_ => by first | exact (hk_.1.1) hs_ | (revert hk_; simp only [and_imp]; intros; exact absurd hs_ (by assumption)))) (fun k_ hk_ => by first | exact ⟨hk_.1.1.1, hk_.1.1.2, hk_.1.2⟩ | (revert hk_; simp only [and_imp]; intros; and_intros <;> assumption))); have n1_ := Aside0.mk (Kd.R_reok rfl hy0 (fun k_ e_ => HO_278000.out.1 k_ e_)); have n2_ := Aside0.mk (Kd.R_mono (ok' := fun k_ => some k_ ≠ (.slice Ao21 t269.length co21 : Value).ownBlock ∧ some k_ ≠ (.slice Ao27 t274.length co27 : Value).ownBlock ∧ some k_ ≠ (.slice Ao64 t284.length co64 : Value).ownBlock) (Kd.R_keptB (HO_283000.out) hkp (fun k_ hk_ hs_ => by first | exact (hk_.1.2) hs_ | (revert hk_; simp only [and_imp]; intros; exact absurd hs_ (by assumption)))) (fun k_ hk_ => by first | exact ⟨hk_.1.1.1, hk_.1.1.2, hk_.1.2⟩ | (revert hk_; simp only [and_imp]; intros; and_intros <;> assumption))); have n3_ := Aside0.mk (blk_kept (zh BK264.out) hkp (fun hs_ => (fun e_ => (Kd.R_ne HO_278000.out BK264.out (by decide)) e_) hs_)); have n4_ := Aside0.mk (blk_kept (zh BK273.out) hkp (fun hs_ => (fun e_ => (Kd.R_ne HO_278000.out BK273.out (by decide)) e_) hs_)); have n5_ := Aside0.mk (blk_kept (zh BK277.out) hkp (fun hs_ => (fun e_ => (Kd.R_ne HO_278000.out BK277.out (by decide)) e_) hs_)); have n6_ := Aside0.mk (blk_kept (zh BK282.out) hkp (fun hs_ => (fun e_ => (Kd.R_ne HO_278000.out BK282.out (by decide)) e_) hs_)); have n7_ := Aside0.mk (Kd.R_mono (ok' := fun k_ => some k_ ≠ (.slice Ao21 t269.length co21 : Value).ownBlock ∧ some k_ ≠ (.slice Ao27 t274.length co27 : Value).ownBlock ∧ some k_ ≠ (.slice Ao33 t278.length co33 : Value).ownBlock) (Kd.R_keptB (HO286.out) hkp (fun k_ hk_ hs_ => by first | exact (hk_.1.2) hs_ | (revert hk_; simp only [and_imp]; intros; exact absurd hs_ (by assumption)))) (fun k_ hk_ => by first | exact ⟨hk_.1.1.1.2, hk_.1.1.2, hk_.1.2⟩ | (revert hk_; simp only [and_imp]; intros; and_intros <;> assumption))); have n8_ := Aside0.mk (hb); clear HO_274000; clear HO_278000; clear HO_283000; clear BK264; clear BK273; clear BK277; clear BK282; clear HO286; clear HB; have HO_274000 := n0_; have HO_278000 := n1_; have HO_283000 := n2_; have BK264 := n3_; have BK273 := n4_; have BK277 := n5_; have BK282 := n6_; have HO286 := n7_; have HB := n8_; clear n0_ n1_ n2_ n3_ n4_ n5_ n6_ n7_ n8_; (try clear hb); (try clear hkp); (try clear hy0)))
      (try simp only [Act.put, List.setIfInBounds_toArray, List.set_cons_zero, List.set_cons_succ])
      go_cut [65] (fun v65 wc => ∃ (kq : Nat) (x65_60 : Bool), v65 = .bool x65_60 ∧ Aside0 (laws_FnExactMakeDigest.j1 kq a1 t272 x65_60 l0_0 t269 t278 = some r) ∧ Aside0 (kq ≤ kj11) ∧ Aside0 (Kd.R k49 49 wc w.heap.size (fun k_ => some k_ ≠ ((.slice Ao27 t274.length co27) : Value).ownBlock ∧ some k_ ≠ ((.slice Ao33 t278.length co33) : Value).ownBlock) (.slice Ao21 t269.length co21) t269) ∧ Aside0 (Kd.R k49 49 wc w.heap.size (fun k_ => some k_ ≠ ((.slice Ao21 t269.length co21) : Value).ownBlock ∧ some k_ ≠ ((.slice Ao33 t278.length co33) : Value).ownBlock) (.slice Ao27 t274.length co27) t289) ∧ Aside0 (Kd.R k49 49 wc w.heap.size (fun k_ => some k_ ≠ ((.slice Ao21 t269.length co21) : Value).ownBlock ∧ some k_ ≠ ((.slice Ao27 t274.length co27) : Value).ownBlock) (.slice Ao33 t278.length co33) t278) ∧ Aside0 (wc.heap[gb264]? = some (.cells #[(.slice A0_0 l0_0.length c0_0)] 24 (0, 0))) ∧ Aside0 (wc.heap[gb273]? = some (.cells #[(.slice Ao21 t269.length co21)] 28 (0, 0))) ∧ Aside0 (wc.heap[gb277]? = some (.cells #[(.slice Ao27 t274.length co27)] 28 (0, 0))) ∧ Aside0 (wc.heap[gb282]? = some (.cells #[(.slice Ao33 t278.length co33)] 28 (0, 0))) ∧ Aside0 (Below w.heap.size w wc))
      case first =>
       have H := HC61.out
       clear HC61
       by_cases c71 : t288 < 0
       ·rw [if_pos c71] at H
        have c71b0 : decide (t288 < 0) = true := decide_eq_true c71
        clear c71
        (first | rw [c71b0] | (simp only [i64_w, i32_w]; rw [c71b0]) | skip)
        have H' := Aside0.mk H
        clear H
        go_wp2
        go_meet
        case rel => exact ⟨_, (true), (by first | rfl | (simp; done) | (simp [*]; done)), H', ⟨by have := HJ11.out; first | omega | exact Nat.le_refl _⟩, ⟨zr (Kd.R_mono HO_274000.out (fun _ hk => ⟨hk.1, hk.2.1⟩))⟩, ⟨zr (Kd.R_mono HO_278000.out (fun _ hk => ⟨hk.1.1, hk.1.2⟩))⟩, ⟨zr (Kd.R_mono HO_283000.out (fun _ hk => ⟨hk.1, hk.2.1⟩))⟩, ⟨zh BK264.out⟩, ⟨zh BK273.out⟩, ⟨zh BK277.out⟩, ⟨zh BK282.out⟩, ⟨zb HB.out⟩⟩
       ·rw [if_neg c71] at H
        have c71b0 : decide (t288 < 0) = false := decide_eq_false c71
        clear c71
        (first | rw [c71b0] | (simp only [i64_w, i32_w]; rw [c71b0]) | skip)
        replace H := Option.bind_eq_some_iff.mp H
        obtain ⟨t290, A720, H⟩ := H
        replace H : (if t290 = true then (laws_FnExactMakeDigest.j1 kj11 a1 t272 (t281 != t272) l0_0 t269 t278) else (laws_FnExactMakeDigest.j1 kj11 a1 t272 true l0_0 t269 t278)) = some r := H
        have A72 := Aside0.mk A720
        clear A720
        by_cases c73 : t290 = true
        ·subst c73
         have H1 : (laws_FnExactMakeDigest.j1 kj11 a1 t272 (t281 != t272) l0_0 t269 t278) = some r := by rw [if_pos rfl] at H; exact H
         clear H
         have H := H1
         clear H1
         have H' := Aside0.mk H
         clear H
         have hnb74 := NB282_264.out
         have hnc74 := NB264_282.out
         have hnb75 := NB282_273.out
         have hnc75 := NB273_282.out
         have hnb76 := NB282_277.out
         have hnc76 := NB277_282.out
         have hcz77_0 : w70.cell? ⟨gb282, 0, none⟩ = some (.slice Ao33 t278.length co33) := (blk_cell BK282.out 0).trans rfl
         have hfz77_0 := blk_frozen BK282.out 0
         have hnb78 := NB273_264.out
         have hnc78 := NB264_273.out
         have hnb79 := NB273_277.out
         have hnc79 := NB277_273.out
         have hcz80_0 : w70.cell? ⟨gb273, 0, none⟩ = some (.slice Ao21 t269.length co21) := (blk_cell BK273.out 0).trans rfl
         have hfz80_0 := blk_frozen BK273.out 0
         go_wp2_with (first | (go_at_call 17; (with_reducible refine (laws_eqPool.calls kj11 _ _ t278 _ _ t269 true _ ?side1 ?side2 ?side3 ?side4 A72.out).mono ?_); (case side1 => exact zc (Kd.R_reads' HO_283000.out).2.2); (case side2 => exact (Kd.R_reads' HO_283000.out).2.1); (case side3 => exact zc (Kd.R_reads' HO_274000.out).2.2); (case side4 => exact (Kd.R_reads' HO_274000.out).2.1); rintro e w81 ⟨rfl, hb⟩; have n0_ := Aside0.mk (Kd.R_below (zr HO_274000.out) hb); have n1_ := Aside0.mk (Kd.R_below (zr HO_278000.out) hb); have n2_ := Aside0.mk (Kd.R_below (zr HO_283000.out) hb); have n3_ := Aside0.mk (Kd.R_below (zr HO286.out) hb); have n4_ := Aside0.mk (blk_below (zh BK264.out) hb); have n5_ := Aside0.mk (blk_below (zh BK273.out) hb); have n6_ := Aside0.mk (blk_below (zh BK277.out) hb); have n7_ := Aside0.mk (blk_below (zh BK282.out) hb); have n8_ := Aside0.mk (below_step (zb HB.out) hb); clear HO_274000; clear HO_278000; clear HO_283000; clear HO286; clear BK264; clear BK273; clear BK277; clear BK282; clear HB; have HO_274000 := n0_; have HO_278000 := n1_; have HO_283000 := n2_; have HO286 := n3_; have BK264 := n4_; have BK273 := n5_; have BK277 := n6_; have BK282 := n7_; have HB := n8_; clear n0_ n1_ n2_ n3_ n4_ n5_ n6_ n7_ n8_; (try clear hb); (try clear hb2); (try clear hk); (try clear hi)))
         go_meet
         case rel => exact ⟨_, ((t281 != t272)), (by first | rfl | (simp; done) | (simp [*]; done)), H', ⟨by have := HJ11.out; first | omega | exact Nat.le_refl _⟩, ⟨zr (Kd.R_mono HO_274000.out (fun _ hk => ⟨hk.1, hk.2.1⟩))⟩, ⟨zr (Kd.R_mono HO_278000.out (fun _ hk => ⟨hk.1.1, hk.1.2⟩))⟩, ⟨zr (Kd.R_mono HO_283000.out (fun _ hk => ⟨hk.1, hk.2.1⟩))⟩, ⟨zh BK264.out⟩, ⟨zh BK273.out⟩, ⟨zh BK277.out⟩, ⟨zh BK282.out⟩, ⟨zb HB.out⟩⟩
        ·replace c73 := Bool.eq_false_iff.mpr c73
         subst c73
         have H1 : (laws_FnExactMakeDigest.j1 kj11 a1 t272 true l0_0 t269 t278) = some r := by rw [if_neg (show ¬ (false = true) by decide)] at H; exact H
         clear H
         have H := H1
         clear H1
         have H' := Aside0.mk H
         clear H
         have hnb82 := NB282_264.out
         have hnc82 := NB264_282.out
         have hnb83 := NB282_273.out
         have hnc83 := NB273_282.out
         have hnb84 := NB282_277.out
         have hnc84 := NB277_282.out
         have hcz85_0 : w70.cell? ⟨gb282, 0, none⟩ = some (.slice Ao33 t278.length co33) := (blk_cell BK282.out 0).trans rfl
         have hfz85_0 := blk_frozen BK282.out 0
         have hnb86 := NB273_264.out
         have hnc86 := NB264_273.out
         have hnb87 := NB273_277.out
         have hnc87 := NB277_273.out
         have hcz88_0 : w70.cell? ⟨gb273, 0, none⟩ = some (.slice Ao21 t269.length co21) := (blk_cell BK273.out 0).trans rfl
         have hfz88_0 := blk_frozen BK273.out 0
         go_wp2_with (first | (go_at_call 17; (with_reducible refine (laws_eqPool.calls kj11 _ _ t278 _ _ t269 false _ ?side1 ?side2 ?side3 ?side4 A72.out).mono ?_); (case side1 => exact zc (Kd.R_reads' HO_283000.out).2.2); (case side2 => exact (Kd.R_reads' HO_283000.out).2.1); (case side3 => exact zc (Kd.R_reads' HO_274000.out).2.2); (case side4 => exact (Kd.R_reads' HO_274000.out).2.1); rintro e w89 ⟨rfl, hb⟩; have n0_ := Aside0.mk (Kd.R_below (zr HO_274000.out) hb); have n1_ := Aside0.mk (Kd.R_below (zr HO_278000.out) hb); have n2_ := Aside0.mk (Kd.R_below (zr HO_283000.out) hb); have n3_ := Aside0.mk (Kd.R_below (zr HO286.out) hb); have n4_ := Aside0.mk (blk_below (zh BK264.out) hb); have n5_ := Aside0.mk (blk_below (zh BK273.out) hb); have n6_ := Aside0.mk (blk_below (zh BK277.out) hb); have n7_ := Aside0.mk (blk_below (zh BK282.out) hb); have n8_ := Aside0.mk (below_step (zb HB.out) hb); clear HO_274000; clear HO_278000; clear HO_283000; clear HO286; clear BK264; clear BK273; clear BK277; clear BK282; clear HB; have HO_274000 := n0_; have HO_278000 := n1_; have HO_283000 := n2_; have HO286 := n3_; have BK264 := n4_; have BK273 := n5_; have BK277 := n6_; have BK282 := n7_; have HB := n8_; clear n0_ n1_ n2_ n3_ n4_ n5_ n6_ n7_ n8_; (try clear hb); (try clear hb2); (try clear hk); (try clear hi)))
         go_meet
         case rel => exact ⟨_, (true), (by first | rfl | (simp; done) | (simp [*]; done)), H', ⟨by have := HJ11.out; first | omega | exact Nat.le_refl _⟩, ⟨zr (Kd.R_mono HO_274000.out (fun _ hk => ⟨hk.1, hk.2.1⟩))⟩, ⟨zr (Kd.R_mono HO_278000.out (fun _ hk => ⟨hk.1.1, hk.1.2⟩))⟩, ⟨zr (Kd.R_mono HO_283000.out (fun _ hk => ⟨hk.1, hk.2.1⟩))⟩, ⟨zh BK264.out⟩, ⟨zh BK273.out⟩, ⟨zh BK277.out⟩, ⟨zh BK282.out⟩, ⟨zb HB.out⟩⟩
      case rest =>
       clear HC61
       try clear c1
       try clear c2
       try clear p2
       try clear c3
       try clear c4
       try clear c4b0
       try clear c5
       try clear c6
       try clear c7
       try clear c8
       try clear c13
       try clear c15
       try clear c17
       try clear c18
       try clear c20
       try clear c21
       try clear c22
       try clear c28
       try clear c29
       try clear c34
       try clear c35
       try clear c36
       try clear c39
       try clear c40
       try clear c41
       try clear c42
       try clear c44
       try clear c45
       try clear c48
       try clear c49
       try clear c50
       try clear c52
       try clear c53
       try clear c56
       try clear c59
       try clear c66
       try clear c67
       try clear c68
       try clear c71
       try clear c71b0
       try clear c73
       try clear c74
       try clear c75
       try clear c76
       try clear c78
       try clear c79
       try clear c82
       try clear c83
       try clear c84
       try clear c86
       try clear c87
       try clear hcz14_0
       try clear hcz16_0
       try clear hcz23_0
       try clear hcz24_0
       try clear hcz30_0
       try clear hcz37_0
       try clear hcz43_0
       try clear hcz46_0
       try clear hcz51_0
       try clear hcz54_0
       try clear hcz69_0
       try clear hcz6_0
       try clear hcz77_0
       try clear hcz80_0
       try clear hcz85_0
       try clear hcz88_0
       try clear hfz14_0
       try clear hfz16_0
       try clear hfz23_0
       try clear hfz24_0
       try clear hfz30_0
       try clear hfz37_0
       try clear hfz43_0
       try clear hfz46_0
       try clear hfz51_0
       try clear hfz54_0
       try clear hfz69_0
       try clear hfz6_0
       try clear hfz77_0
       try clear hfz80_0
       try clear hfz85_0
       try clear hfz88_0
       try clear p2
       obtain ⟨kq, x65_60, rfl, HA, HJ60, HO_274000, HO_278000, HO_283000, BK264, BK273, BK277, BK282, HB⟩ := hcut
       have hl278000_60 := (Kd.R_reads' HO_278000.out).1
       rw [hl278000_60] at HO_278000
       (try simp only [hl278000_60])
       (try simp only [hl278000_60] at BK264)
       (try simp only [hl278000_60] at BK273)
       (try simp only [hl278000_60] at BK277)
       (try simp only [hl278000_60] at BK282)
       (try simp only [hl278000_60] at HO_274000)
       (try simp only [hl278000_60] at HO_283000)
       cases kq with
       | zero => exact absurd HA.out (by simp [laws_FnExactMakeDigest.j1])
       | succ kj60 =>
        have H := HA.out
        clear HA
        simp only [laws_FnExactMakeDigest.j1] at H
        by_cases c90 : x65_60 = true
        ·subst c90
         have H1 : (some false) = some r := by rw [if_pos rfl] at H; exact H
         clear H
         have H := H1
         clear H1
         obtain rfl := Option.some.inj H
         go_wp2
         go_ret
         exact ⟨ze, zb HB.out⟩
        ·replace c90 := Bool.eq_false_iff.mpr c90
         subst c90
         have H1 : ((laws_markPool.f kj60 t278 1).bind fun bt291 => ((laws_heldPool.f kj60 bt291.2 1).bind fun t293 => (if t293 < 0 then (some false) else (if t293 = bt291.1 then ((laws_toPool.f kj60 l0_0).bind fun t294 => ((impl_MakeDigest.f kj60 t294 a1).bind fun bt297 => ((laws_eqPool.f kj60 bt297.1 t269).bind fun t302 => (if t302 = true then (laws_FnExactMakeDigest.j2 kj60 bt291.1 (bt297.2 != t272) bt291.2) else (laws_FnExactMakeDigest.j2 kj60 bt291.1 true bt291.2))))) else (some false))))) = some r := by rw [if_neg (show ¬ (false = true) by decide)] at H; exact H
         clear H
         have H := H1
         clear H1
         replace H := Option.bind_eq_some_iff.mp H
         obtain ⟨⟨t291, t292⟩, A910, H⟩ := H
         replace H : ((laws_heldPool.f kj60 t292 1).bind fun t293 => (if t293 < 0 then (some false) else (if t293 = t291 then ((laws_toPool.f kj60 l0_0).bind fun t294 => ((impl_MakeDigest.f kj60 t294 a1).bind fun bt297 => ((laws_eqPool.f kj60 bt297.1 t269).bind fun t302 => (if t302 = true then (laws_FnExactMakeDigest.j2 kj60 t291 (bt297.2 != t272) t292) else (laws_FnExactMakeDigest.j2 kj60 t291 true t292))))) else (some false)))) = some r := H
         have A91 := Aside0.mk A910
         clear A910
         replace H := Option.bind_eq_some_iff.mp H
         obtain ⟨t293, A920, H⟩ := H
         replace H : (if t293 < 0 then (some false) else (if t293 = t291 then ((laws_toPool.f kj60 l0_0).bind fun t294 => ((impl_MakeDigest.f kj60 t294 a1).bind fun bt297 => ((laws_eqPool.f kj60 bt297.1 t269).bind fun t302 => (if t302 = true then (laws_FnExactMakeDigest.j2 kj60 t291 (bt297.2 != t272) t292) else (laws_FnExactMakeDigest.j2 kj60 t291 true t292))))) else (some false))) = some r := H
         have A92 := Aside0.mk A920
         clear A920
         by_cases c93 : t293 < 0
         ·rw [if_pos c93] at H
          have c93b0 : decide (t293 < 0) = true := decide_eq_true c93
          clear c93
          obtain rfl := Option.some.inj H
          have hnb94 := NB282_264.out
          have hnc94 := NB264_282.out
          have hnb95 := NB282_273.out
          have hnc95 := NB273_282.out
          have hnb96 := NB282_277.out
          have hnc96 := NB277_282.out
          have hcz97_0 : wc.cell? ⟨gb282, 0, none⟩ = some (.slice Ao33 t278.length co33) := (blk_cell BK282.out 0).trans rfl
          have hfz97_0 := blk_frozen BK282.out 0
          go_wp2_with (first | ((with_reducible refine gate_callee (f := 18) rfl ?_); refine goesL_ (some 68) rfl rfl Try.func18 (by kernel_rfl) rfl #[.agg #[.slice Ao33 t278.length co33], .int .i64 1] rfl zl ?_; (with_reducible refine (laws_markPool.calls kj60 (fun k_ => some k_ = (.slice Ao33 t278.length co33 : Value).ownBlock) (.slice Ao33 t278.length co33) t278 1 t291 t292 w _ ?side1 ?side2 A91.out).mono ?_); (case side1 => repeat (first | (with_reducible first | exact HB.out | apply below_alloc | apply pw_below_drewN | apply below_drew1 | refine below_set ?_ GE264.out | refine below_set ?_ GE273.out | refine below_set ?_ GE277.out | refine below_set ?_ GE282.out) | exact HB.out)); (case side2 => exact Kd.R_tight rfl HO_283000.out); rintro e w98 ⟨rfl, hy0, hb, hkp⟩; refine ⟨_, rfl, ?_⟩; have n0_ := Aside0.mk (Kd.R_mono (ok' := fun k_ => some k_ ≠ (.slice Ao27 t289.length co27 : Value).ownBlock ∧ some k_ ≠ (.slice Ao33 t278.length co33 : Value).ownBlock) (Kd.R_keptB (HO_274000.out) hkp (fun k_ hk_ hs_ => by first | exact (hk_.2) hs_ | (revert hk_; simp only [and_imp]; intros; exact absurd hs_ (by assumption)))) (fun k_ hk_ => by first | exact ⟨hk_.1.1, hk_.1.2⟩ | (revert hk_; simp only [and_imp]; intros; and_intros <;> assumption))); have n1_ := Aside0.mk (Kd.R_mono (ok' := fun k_ => some k_ ≠ (.slice Ao21 t269.length co21 : Value).ownBlock ∧ some k_ ≠ (.slice Ao33 t278.length co33 : Value).ownBlock) (Kd.R_keptB (HO_278000.out) hkp (fun k_ hk_ hs_ => by first | exact (hk_.2) hs_ | (revert hk_; simp only [and_imp]; intros; exact absurd hs_ (by assumption)))) (fun k_ hk_ => by first | exact ⟨hk_.1.1, hk_.1.2⟩ | (revert hk_; simp only [and_imp]; intros; and_intros <;> assumption))); have n2_ := Aside0.mk (Kd.R_reok rfl hy0 (fun k_ e_ => HO_283000.out.1 k_ e_)); have n3_ := Aside0.mk (blk_kept (zh BK264.out) hkp (fun hs_ => (fun e_ => (Kd.R_ne HO_283000.out BK264.out (by decide)) e_) hs_)); have n4_ := Aside0.mk (blk_kept (zh BK273.out) hkp (fun hs_ => (fun e_ => (Kd.R_ne HO_283000.out BK273.out (by decide)) e_) hs_)); have n5_ := Aside0.mk (blk_kept (zh BK277.out) hkp (fun hs_ => (fun e_ => (Kd.R_ne HO_283000.out BK277.out (by decide)) e_) hs_)); have n6_ := Aside0.mk (blk_kept (zh BK282.out) hkp (fun hs_ => (fun e_ => (Kd.R_ne HO_283000.out BK282.out (by decide)) e_) hs_)); have n7_ := Aside0.mk (hb); clear HO_274000; clear HO_278000; clear HO_283000; clear BK264; clear BK273; clear BK277; clear BK282; clear HB; have HO_274000 := n0_; have HO_278000 := n1_; have HO_283000 := n2_; have BK264 := n3_; have BK273 := n4_; have BK277 := n5_; have BK282 := n6_; have HB := n7_; clear n0_ n1_ n2_ n3_ n4_ n5_ n6_ n7_; (try clear hb); (try clear hkp); (try clear hy0); have hcz99_0 : w98.cell? ⟨gb282, 0, none⟩ = some (.slice Ao33 t278.length co33) := (blk_cell BK282.out 0).trans rfl; have hfz99_0 := blk_frozen BK282.out 0) | ((with_reducible refine gate_callee (f := 19) rfl ?_); refine goesL_ (some 71) rfl rfl Try.func19 (by kernel_rfl) rfl #[.agg #[.slice Ao33 t292.length co33], .int .i64 1] rfl (by (try simp only [List.map_toArray, List.map_cons, List.map_nil]); first | done | (rw [show t292.length = t278.length from (Kd.R_reads' HO_283000.out).1.symm] <;> rfl) | rfl | (simp only [List.length_drop, List.length_take]; rfl)) ?_; (with_reducible refine (laws_heldPool.calls kj60 _ _ t292 1 t293 _ ?side1 ?side2 A92.out).mono ?_); (case side1 => exact zc (Kd.R_reads' HO_283000.out).2.2); (case side2 => rw [show t292.length = t278.length from (Kd.R_reads' HO_283000.out).1.symm]; exact (Kd.R_reads' HO_283000.out).2.1); rintro e w100 ⟨rfl, hb⟩; refine ⟨_, rfl, ?_⟩; have n0_ := Aside0.mk (Kd.R_below (zr HO_274000.out) hb); have n1_ := Aside0.mk (Kd.R_below (zr HO_278000.out) hb); have n2_ := Aside0.mk (Kd.R_below (zr HO_283000.out) hb); have n3_ := Aside0.mk (blk_below (zh BK264.out) hb); have n4_ := Aside0.mk (blk_below (zh BK273.out) hb); have n5_ := Aside0.mk (blk_below (zh BK277.out) hb); have n6_ := Aside0.mk (blk_below (zh BK282.out) hb); have n7_ := Aside0.mk (below_step (zb HB.out) hb); clear HO_274000; clear HO_278000; clear HO_283000; clear BK264; clear BK273; clear BK277; clear BK282; clear HB; have HO_274000 := n0_; have HO_278000 := n1_; have HO_283000 := n2_; have BK264 := n3_; have BK273 := n4_; have BK277 := n5_; have BK282 := n6_; have HB := n7_; clear n0_ n1_ n2_ n3_ n4_ n5_ n6_ n7_; (try clear hb); (try clear hb2); (try clear hk); (try clear hi)))
          go_ret
          exact ⟨ze, zb HB.out⟩
         ·rw [if_neg c93] at H
          have c93b0 : decide (t293 < 0) = false := decide_eq_false c93
          clear c93
          by_cases c101 : t293 = t291
          ·rw [if_pos c101] at H
           have c101b0 : (t293 == t291) = true := beq_iff_eq.mpr c101
           have c101b1 : (t293 != t291) = false := bne_eq_false_iff_eq.mpr c101
           clear c101
           replace H := Option.bind_eq_some_iff.mp H
           obtain ⟨t294, A1020, H⟩ := H
           replace H : ((impl_MakeDigest.f kj60 t294 a1).bind fun bt297 => ((laws_eqPool.f kj60 bt297.1 t269).bind fun t302 => (if t302 = true then (laws_FnExactMakeDigest.j2 kj60 t291 (bt297.2 != t272) t292) else (laws_FnExactMakeDigest.j2 kj60 t291 true t292)))) = some r := H
           have A102 := Aside0.mk A1020
           clear A1020
           replace H := Option.bind_eq_some_iff.mp H
           obtain ⟨⟨t297, t300⟩, A1030, H⟩ := H
           replace H : ((laws_eqPool.f kj60 t297 t269).bind fun t302 => (if t302 = true then (laws_FnExactMakeDigest.j2 kj60 t291 (t300 != t272) t292) else (laws_FnExactMakeDigest.j2 kj60 t291 true t292))) = some r := H
           have A103 := Aside0.mk A1030
           clear A1030
           have HC104 := Aside0.mk H
           clear H
           have hnb105 := NB282_264.out
           have hnc105 := NB264_282.out
           have hnb106 := NB282_273.out
           have hnc106 := NB273_282.out
           have hnb107 := NB282_277.out
           have hnc107 := NB277_282.out
           have hcz108_0 : wc.cell? ⟨gb282, 0, none⟩ = some (.slice Ao33 t278.length co33) := (blk_cell BK282.out 0).trans rfl
           have hfz108_0 := blk_frozen BK282.out 0
           go_upto_region 25 with (first | ((with_reducible refine gate_callee (f := 18) rfl ?_); refine goesL_ (some 68) rfl rfl Try.func18 (by kernel_rfl) rfl #[.agg #[.slice Ao33 t278.length co33], .int .i64 1] rfl zl ?_; (with_reducible refine (laws_markPool.calls kj60 (fun k_ => some k_ = (.slice Ao33 t278.length co33 : Value).ownBlock) (.slice Ao33 t278.length co33) t278 1 t291 t292 w _ ?side1 ?side2 A91.out).mono ?_); (case side1 => repeat (first | (with_reducible first | exact HB.out | apply below_alloc | apply pw_below_drewN | apply below_drew1 | refine below_set ?_ GE264.out | refine below_set ?_ GE273.out | refine below_set ?_ GE277.out | refine below_set ?_ GE282.out) | exact HB.out)); (case side2 => exact Kd.R_tight rfl HO_283000.out); rintro e w109 ⟨rfl, hy0, hb, hkp⟩; refine ⟨_, rfl, ?_⟩; have n0_ := Aside0.mk (Kd.R_mono (ok' := fun k_ => some k_ ≠ (.slice Ao27 t289.length co27 : Value).ownBlock ∧ some k_ ≠ (.slice Ao33 t278.length co33 : Value).ownBlock) (Kd.R_keptB (HO_274000.out) hkp (fun k_ hk_ hs_ => by first | exact (hk_.2) hs_ | (revert hk_; simp only [and_imp]; intros; exact absurd hs_ (by assumption)))) (fun k_ hk_ => by first | exact ⟨hk_.1.1, hk_.1.2⟩ | (revert hk_; simp only [and_imp]; intros; and_intros <;> assumption))); have n1_ := Aside0.mk (Kd.R_mono (ok' := fun k_ => some k_ ≠ (.slice Ao21 t269.length co21 : Value).ownBlock ∧ some k_ ≠ (.slice Ao33 t278.length co33 : Value).ownBlock) (Kd.R_keptB (HO_278000.out) hkp (fun k_ hk_ hs_ => by first | exact (hk_.2) hs_ | (revert hk_; simp only [and_imp]; intros; exact absurd hs_ (by assumption)))) (fun k_ hk_ => by first | exact ⟨hk_.1.1, hk_.1.2⟩ | (revert hk_; simp only [and_imp]; intros; and_intros <;> assumption))); have n2_ := Aside0.mk (Kd.R_reok rfl hy0 (fun k_ e_ => HO_283000.out.1 k_ e_)); have n3_ := Aside0.mk (blk_kept (zh BK264.out) hkp (fun hs_ => (fun e_ => (Kd.R_ne HO_283000.out BK264.out (by decide)) e_) hs_)); have n4_ := Aside0.mk (blk_kept (zh BK273.out) hkp (fun hs_ => (fun e_ => (Kd.R_ne HO_283000.out BK273.out (by decide)) e_) hs_)); have n5_ := Aside0.mk (blk_kept (zh BK277.out) hkp (fun hs_ => (fun e_ => (Kd.R_ne HO_283000.out BK277.out (by decide)) e_) hs_)); have n6_ := Aside0.mk (blk_kept (zh BK282.out) hkp (fun hs_ => (fun e_ => (Kd.R_ne HO_283000.out BK282.out (by decide)) e_) hs_)); have n7_ := Aside0.mk (hb); clear HO_274000; clear HO_278000; clear HO_283000; clear BK264; clear BK273; clear BK277; clear BK282; clear HB; have HO_274000 := n0_; have HO_278000 := n1_; have HO_283000 := n2_; have BK264 := n3_; have BK273 := n4_; have BK277 := n5_; have BK282 := n6_; have HB := n7_; clear n0_ n1_ n2_ n3_ n4_ n5_ n6_ n7_; (try clear hb); (try clear hkp); (try clear hy0); have hcz110_0 : w109.cell? ⟨gb282, 0, none⟩ = some (.slice Ao33 t278.length co33) := (blk_cell BK282.out 0).trans rfl; have hfz110_0 := blk_frozen BK282.out 0) | ((with_reducible refine gate_callee (f := 19) rfl ?_); refine goesL_ (some 71) rfl rfl Try.func19 (by kernel_rfl) rfl #[.agg #[.slice Ao33 t292.length co33], .int .i64 1] rfl (by (try simp only [List.map_toArray, List.map_cons, List.map_nil]); first | done | (rw [show t292.length = t278.length from (Kd.R_reads' HO_283000.out).1.symm] <;> rfl) | rfl | (simp only [List.length_drop, List.length_take]; rfl)) ?_; (with_reducible refine (laws_heldPool.calls kj60 _ _ t292 1 t293 _ ?side1 ?side2 A92.out).mono ?_); (case side1 => exact zc (Kd.R_reads' HO_283000.out).2.2); (case side2 => rw [show t292.length = t278.length from (Kd.R_reads' HO_283000.out).1.symm]; exact (Kd.R_reads' HO_283000.out).2.1); rintro e w111 ⟨rfl, hb⟩; refine ⟨_, rfl, ?_⟩; have n0_ := Aside0.mk (Kd.R_below (zr HO_274000.out) hb); have n1_ := Aside0.mk (Kd.R_below (zr HO_278000.out) hb); have n2_ := Aside0.mk (Kd.R_below (zr HO_283000.out) hb); have n3_ := Aside0.mk (blk_below (zh BK264.out) hb); have n4_ := Aside0.mk (blk_below (zh BK273.out) hb); have n5_ := Aside0.mk (blk_below (zh BK277.out) hb); have n6_ := Aside0.mk (blk_below (zh BK282.out) hb); have n7_ := Aside0.mk (below_step (zb HB.out) hb); clear HO_274000; clear HO_278000; clear HO_283000; clear BK264; clear BK273; clear BK277; clear BK282; clear HB; have HO_274000 := n0_; have HO_278000 := n1_; have HO_283000 := n2_; have BK264 := n3_; have BK273 := n4_; have BK277 := n5_; have BK282 := n6_; have HB := n7_; clear n0_ n1_ n2_ n3_ n4_ n5_ n6_ n7_; (try clear hb); (try clear hb2); (try clear hk); (try clear hi); have hnb112 := NB264_273.out; have hnc112 := NB273_264.out; have hnb113 := NB264_277.out; have hnc113 := NB277_264.out; have hcz114_0 : w111.cell? ⟨gb264, 0, none⟩ = some (.slice A0_0 l0_0.length c0_0) := (blk_cell BK264.out 0).trans rfl; have hfz114_0 := blk_frozen BK264.out 0) | ((with_reducible refine gate_callee (f := 15) rfl ?_); refine goesL_ (some 79) rfl rfl Try.func15 (by kernel_rfl) rfl #[.agg #[.slice A0_0 l0_0.length c0_0]] rfl zl ?_; (with_reducible refine (laws_toPool.calls kj60 _ _ l0_0 t294 _ ?side1 ?side2 A102.out).mono ?_); (case side1 => exact zc (Kd.C_below HR0_0.out HB.out)); (case side2 => exact HC0_0.out); rintro e w115 ⟨v295, rfl, ho0, hb⟩; refine ⟨_, rfl, ?_⟩; have n0_ := Aside0.mk (Kd.R_elder' (zr HO_274000.out) (Kd.R_base ho0) hb); have n1_ := Aside0.mk (Kd.R_elder' (zr HO_278000.out) (Kd.R_base ho0) hb); have n2_ := Aside0.mk (Kd.R_elder' (zr HO_283000.out) (Kd.R_base ho0) hb); have n3_ := Aside0.mk (Kd.R_lower (Kd.R_new' (Kd.R_new' (Kd.R_new' ho0 (Kd.R_lt (zr HO_274000.out))) (Kd.R_lt (zr HO_278000.out))) (Kd.R_lt (zr HO_283000.out))) (below_size (zb HB.out))); have n4_ := Aside0.mk (blk_below (zh BK264.out) hb); have n5_ := Aside0.mk (blk_below (zh BK273.out) hb); have n6_ := Aside0.mk (blk_below (zh BK277.out) hb); have n7_ := Aside0.mk (blk_below (zh BK282.out) hb); have n8_ := Aside0.mk (below_step (zb HB.out) hb); clear HO_274000; clear HO_278000; clear HO_283000; clear BK264; clear BK273; clear BK277; clear BK282; clear HB; have HO_274000 := n0_; have HO_278000 := n1_; have HO_283000 := n2_; have HO296 := n3_; have BK264 := n4_; have BK273 := n5_; have BK277 := n6_; have BK282 := n7_; have HB := n8_; clear n0_ n1_ n2_ n3_ n4_ n5_ n6_ n7_ n8_; (try clear hb); (try clear hb2); (try clear hk); (try clear hi); (try clear ho0); obtain ⟨Ao116, co116, eo116⟩ := Kd.R_slice HO296.out; subst eo116) | ((with_reducible refine gate_callee (f := 21) rfl ?_); refine goesL_ (some 81) rfl rfl Try.func21 (by kernel_rfl) rfl #[.agg #[.slice Ao116 t294.length co116], .int .i64 a1] rfl zl ?_; (with_reducible refine (impl_MakeDigest.calls kj60 _ _ t294 a1 t297 t300 _ ?side1 ?side2 A103.out).mono ?_); (case side1 => exact zc (Kd.R_reads' HO296.out).2.2); (case side2 => exact (Kd.R_reads' HO296.out).2.1); rintro e w117 ⟨v298, rfl, ho0, hb⟩; refine ⟨_, rfl, ?_⟩; have n0_ := Aside0.mk (Kd.R_elder' (zr HO_274000.out) (Kd.R_base ho0) hb); have n1_ := Aside0.mk (Kd.R_elder' (zr HO_278000.out) (Kd.R_base ho0) hb); have n2_ := Aside0.mk (Kd.R_elder' (zr HO_283000.out) (Kd.R_base ho0) hb); have n3_ := Aside0.mk (Kd.R_elder' (zr HO296.out) (Kd.R_base ho0) hb); have n4_ := Aside0.mk (Kd.R_lower (Kd.R_new' (Kd.R_new' (Kd.R_new' (Kd.R_new' ho0 (Kd.R_lt (zr HO_274000.out))) (Kd.R_lt (zr HO_278000.out))) (Kd.R_lt (zr HO_283000.out))) (Kd.R_lt (zr HO296.out))) (below_size (zb HB.out))); have n5_ := Aside0.mk (blk_below (zh BK264.out) hb); have n6_ := Aside0.mk (blk_below (zh BK273.out) hb); have n7_ := Aside0.mk (blk_below (zh BK277.out) hb); have n8_ := Aside0.mk (blk_below (zh BK282.out) hb); have n9_ := Aside0.mk (below_step (zb HB.out) hb); clear HO_274000; clear HO_278000; clear HO_283000; clear HO296; clear BK264; clear BK273; clear BK277; clear BK282; clear HB; have HO_274000 := n0_; have HO_278000 := n1_; have HO_283000 := n2_; have HO296 := n3_; have HO299 := n4_; have BK264 := n5_; have BK273 := n6_; have BK277 := n7_; have BK282 := n8_; have HB := n9_; clear n0_ n1_ n2_ n3_ n4_ n5_ n6_ n7_ n8_ n9_; (try clear hb); (try clear hb2); (try clear hk); (try clear hi); (try clear ho0)) | ((with_reducible refine gate_dst (N := 14) rfl ?_); refine box_event ?hg (N := 14) ?hd (cs := #[.slice none 0 0]) (t := 28) ?hr ?_; (case hd => rfl); (case hg => rfl); (case hr => first | (go_simp; done) | (go_simp; rfl)); intro gb301 hg w118 hbox hb; have n0_ := Aside0.mk (Kd.R_below (zr HO_274000.out) hb); have n1_ := Aside0.mk (Kd.R_below (zr HO_278000.out) hb); have n2_ := Aside0.mk (Kd.R_below (zr HO_283000.out) hb); have n3_ := Aside0.mk (Kd.R_below (zr HO296.out) hb); have n4_ := Aside0.mk (Kd.R_below (zr HO299.out) hb); have n5_ := Aside0.mk (blk_below (zh BK264.out) hb); have n6_ := Aside0.mk (blk_below (zh BK273.out) hb); have n7_ := Aside0.mk (blk_below (zh BK277.out) hb); have n8_ := Aside0.mk (blk_below (zh BK282.out) hb); have n9_ := Aside0.mk (below_step (zb HB.out) hb); have n10_ := Aside0.mk (hbox); have n11_ := Aside0.mk ((by rw [hg]; exact (below_size (zb HB.out)) : w.heap.size ≤ gb301)); have n12_ := Aside0.mk ((by rw [hg]; exact (below_size (zb HB.out)) : w.heap.size ≤ gb301)); have n13_ := Aside0.mk ((by rw [hg]; exact Nat.ne_of_lt (blk_lt (zh BK264.out)) : gb264 ≠ gb301)); have n14_ := Aside0.mk ((by rw [hg]; exact Nat.ne_of_gt (blk_lt (zh BK264.out)) : gb301 ≠ gb264)); have n15_ := Aside0.mk ((by rw [hg]; exact Nat.ne_of_lt (blk_lt (zh BK273.out)) : gb273 ≠ gb301)); have n16_ := Aside0.mk ((by rw [hg]; exact Nat.ne_of_gt (blk_lt (zh BK273.out)) : gb301 ≠ gb273)); have n17_ := Aside0.mk ((by rw [hg]; exact Nat.ne_of_lt (blk_lt (zh BK277.out)) : gb277 ≠ gb301)); have n18_ := Aside0.mk ((by rw [hg]; exact Nat.ne_of_gt (blk_lt (zh BK277.out)) : gb301 ≠ gb277)); have n19_ := Aside0.mk ((by rw [hg]; exact Nat.ne_of_lt (blk_lt (zh BK282.out)) : gb282 ≠ gb301)); have n20_ := Aside0.mk ((by rw [hg]; exact Nat.ne_of_gt (blk_lt (zh BK282.out)) : gb301 ≠ gb282)); clear HO_274000; clear HO_278000; clear HO_283000; clear HO296; clear HO299; clear BK264; clear BK273; clear BK277; clear BK282; clear HB; have HO_274000 := n0_; have HO_278000 := n1_; have HO_283000 := n2_; have HO296 := n3_; have HO299 := n4_; have BK264 := n5_; have BK273 := n6_; have BK277 := n7_; have BK282 := n8_; have HB := n9_; have BK301 := n10_; have GW301 := n11_; have GE301 := n12_; have NB264_301 := n13_; have NB301_264 := n14_; have NB273_301 := n15_; have NB301_273 := n16_; have NB277_301 := n17_; have NB301_277 := n18_; have NB282_301 := n19_; have NB301_282 := n20_; clear n0_ n1_ n2_ n3_ n4_ n5_ n6_ n7_ n8_ n9_ n10_ n11_ n12_ n13_ n14_ n15_ n16_ n17_ n18_ n19_ n20_; clear hb hbox hg; obtain ⟨Ao119, co119, eo119⟩ := Kd.R_slice HO299.out; subst eo119; have hnb120 := NB301_264.out; have hnc120 := NB264_301.out; have hnb121 := NB301_273.out; have hnc121 := NB273_301.out; have hnb122 := NB301_277.out; have hnc122 := NB277_301.out; have hnb123 := NB301_282.out; have hnc123 := NB282_301.out; have hcz124_0 : w118.cell? ⟨gb301, 0, none⟩ = some (.slice none 0 0) := (blk_cell BK301.out 0).trans rfl; have hfz124_0 := blk_frozen BK301.out 0))
           (try simp only [Act.put, List.setIfInBounds_toArray, List.set_cons_zero, List.set_cons_succ])
           go_cut [92] (fun v92 wc => ∃ (kq : Nat) (x92_103 : Bool), v92 = .bool x92_103 ∧ Aside0 (laws_FnExactMakeDigest.j2 kq t291 x92_103 t292 = some r) ∧ Aside0 (kq ≤ kj60) ∧ Aside0 (Kd.R k49 49 wc w.heap.size (fun k_ => some k_ ≠ ((.slice Ao27 t289.length co27) : Value).ownBlock ∧ some k_ ≠ ((.slice Ao33 t278.length co33) : Value).ownBlock ∧ some k_ ≠ ((.slice Ao119 t297.length co119) : Value).ownBlock) (.slice Ao21 t269.length co21) t269) ∧ Aside0 (Kd.R k49 49 wc w.heap.size (fun k_ => some k_ ≠ ((.slice Ao21 t269.length co21) : Value).ownBlock ∧ some k_ ≠ ((.slice Ao33 t278.length co33) : Value).ownBlock ∧ some k_ ≠ ((.slice Ao119 t297.length co119) : Value).ownBlock) (.slice Ao27 t289.length co27) t289) ∧ Aside0 (Kd.R k49 49 wc w.heap.size (fun k_ => some k_ ≠ ((.slice Ao21 t269.length co21) : Value).ownBlock ∧ some k_ ≠ ((.slice Ao27 t289.length co27) : Value).ownBlock ∧ some k_ ≠ ((.slice Ao119 t297.length co119) : Value).ownBlock) (.slice Ao33 t278.length co33) t292) ∧ Aside0 (Kd.R k49 49 wc w.heap.size (fun k_ => some k_ ≠ ((.slice Ao21 t269.length co21) : Value).ownBlock ∧ some k_ ≠ ((.slice Ao27 t289.length co27) : Value).ownBlock ∧ some k_ ≠ ((.slice Ao33 t278.length co33) : Value).ownBlock) (.slice Ao119 t297.length co119) t297) ∧ Aside0 (wc.heap[gb264]? = some (.cells #[(.slice A0_0 l0_0.length c0_0)] 24 (0, 0))) ∧ Aside0 (wc.heap[gb273]? = some (.cells #[(.slice Ao21 t269.length co21)] 28 (0, 0))) ∧ Aside0 (wc.heap[gb277]? = some (.cells #[(.slice Ao27 t289.length co27)] 28 (0, 0))) ∧ Aside0 (wc.heap[gb282]? = some (.cells #[(.slice Ao33 t278.length co33)] 28 (0, 0))) ∧ Aside0 (wc.heap[gb301]? = some (.cells #[(.slice Ao119 t297.length co119)] 28 (0, 0))) ∧ Aside0 (Below w.heap.size w wc))
           case first =>
            have H := HC104.out
            clear HC104
            replace H := Option.bind_eq_some_iff.mp H
            obtain ⟨t302, A1250, H⟩ := H
            replace H : (if t302 = true then (laws_FnExactMakeDigest.j2 kj60 t291 (t300 != t272) t292) else (laws_FnExactMakeDigest.j2 kj60 t291 true t292)) = some r := H
            have A125 := Aside0.mk A1250
            clear A1250
            by_cases c126 : t302 = true
            ·subst c126
             have H1 : (laws_FnExactMakeDigest.j2 kj60 t291 (t300 != t272) t292) = some r := by rw [if_pos rfl] at H; exact H
             clear H
             have H := H1
             clear H1
             have H' := Aside0.mk H
             clear H
             have hnb127 := NB301_264.out
             have hnc127 := NB264_301.out
             have hnb128 := NB301_273.out
             have hnc128 := NB273_301.out
             have hnb129 := NB301_277.out
             have hnc129 := NB277_301.out
             have hnb130 := NB301_282.out
             have hnc130 := NB282_301.out
             have hcz131_0 : w118.cell? ⟨gb301, 0, none⟩ = some (.slice none 0 0) := (blk_cell BK301.out 0).trans rfl
             have hfz131_0 := blk_frozen BK301.out 0
             have hnb132 := NB273_264.out
             have hnc132 := NB264_273.out
             have hnb133 := NB273_277.out
             have hnc133 := NB277_273.out
             have hnb134 := NB273_282.out
             have hnc134 := NB282_273.out
             have hcz135_0 : w118.cell? ⟨gb273, 0, none⟩ = some (.slice Ao21 t269.length co21) := (blk_cell BK273.out 0).trans rfl
             have hfz135_0 := blk_frozen BK273.out 0
             go_wp2_with (first | ((with_reducible refine gate_callee (f := 17) rfl ?_); refine goesL_ (some 86) rfl rfl Try.func17 (by kernel_rfl) rfl #[.agg #[.slice Ao119 t297.length co119], .agg #[.slice Ao21 t269.length co21]] rfl zl ?_; (with_reducible refine (laws_eqPool.calls kj60 _ _ t297 _ _ t269 true _ ?side1 ?side2 ?side3 ?side4 A125.out).mono ?_); (case side1 => refine (Kd.R_reads' (e := 49) (base := w.heap.size) (ok := fun k_ => ((((True ∧ some k_ ≠ (.slice Ao21 t269.length co21 : Value).ownBlock) ∧ some k_ ≠ (.slice Ao27 t289.length co27 : Value).ownBlock) ∧ some k_ ≠ (.slice Ao33 t278.length co33 : Value).ownBlock) ∧ some k_ ≠ (.slice Ao116 t294.length co116 : Value).ownBlock)) (n := t297.length) (c := co119) ?_).2.2; exact (by (with_reducible repeat (first | apply Kd.R_alloc | apply Kd.R_drewN | apply Kd.R_drew)); exact (Kd.R_mono (Kd.R_far (p := ⟨gb301, 0, none⟩) (Kd.R_types HO299.out BK301.out (by decide)) (fun _ hk => hk.2) (.slice Ao119 t297.length co119)) (fun _ h_ => h_.1)))); (case side2 => exact (Kd.R_reads' HO299.out).2.1); (case side3 => refine (Kd.R_reads' (e := 49) (base := w.heap.size) (ok := fun k_ => (((some k_ ≠ (.slice Ao27 t289.length co27 : Value).ownBlock ∧ some k_ ≠ (.slice Ao33 t278.length co33 : Value).ownBlock) ∧ some k_ ≠ (.slice Ao116 t294.length co116 : Value).ownBlock) ∧ some k_ ≠ (.slice Ao119 t297.length co119 : Value).ownBlock)) (n := t269.length) (c := co21) ?_).2.2; exact (by (with_reducible repeat (first | apply Kd.R_alloc | apply Kd.R_drewN | apply Kd.R_drew)); exact (Kd.R_mono (Kd.R_far (p := ⟨gb301, 0, none⟩) (Kd.R_types HO_274000.out BK301.out (by decide)) (fun _ hk => hk.2) (.slice Ao119 t297.length co119)) (fun _ h_ => h_.1)))); (case side4 => exact (Kd.R_reads' HO_274000.out).2.1); rintro e w136 ⟨rfl, hb⟩; refine ⟨_, rfl, ?_⟩; have n0_ := Aside0.mk (Kd.R_below (by (with_reducible repeat (first | apply Kd.R_alloc | apply Kd.R_drewN | apply Kd.R_drew)); exact (Kd.R_mono (Kd.R_far (p := ⟨gb301, 0, none⟩) (Kd.R_types HO_274000.out BK301.out (by decide)) (fun _ hk => hk.2) (.slice Ao119 t297.length co119)) (fun _ h_ => h_.1))) hb); have n1_ := Aside0.mk (Kd.R_below (by (with_reducible repeat (first | apply Kd.R_alloc | apply Kd.R_drewN | apply Kd.R_drew)); exact (Kd.R_mono (Kd.R_far (p := ⟨gb301, 0, none⟩) (Kd.R_types HO_278000.out BK301.out (by decide)) (fun _ hk => hk.2) (.slice Ao119 t297.length co119)) (fun _ h_ => h_.1))) hb); have n2_ := Aside0.mk (Kd.R_below (by (with_reducible repeat (first | apply Kd.R_alloc | apply Kd.R_drewN | apply Kd.R_drew)); exact (Kd.R_mono (Kd.R_far (p := ⟨gb301, 0, none⟩) (Kd.R_types HO_283000.out BK301.out (by decide)) (fun _ hk => hk.2) (.slice Ao119 t297.length co119)) (fun _ h_ => h_.1))) hb); have n3_ := Aside0.mk (Kd.R_below (by (with_reducible repeat (first | apply Kd.R_alloc | apply Kd.R_drewN | apply Kd.R_drew)); exact (Kd.R_mono (Kd.R_far (p := ⟨gb301, 0, none⟩) (Kd.R_types HO296.out BK301.out (by decide)) (fun _ hk => hk.2) (.slice Ao119 t297.length co119)) (fun _ h_ => h_.1))) hb); have n4_ := Aside0.mk (Kd.R_below (by (with_reducible repeat (first | apply Kd.R_alloc | apply Kd.R_drewN | apply Kd.R_drew)); exact (Kd.R_mono (Kd.R_far (p := ⟨gb301, 0, none⟩) (Kd.R_types HO299.out BK301.out (by decide)) (fun _ hk => hk.2) (.slice Ao119 t297.length co119)) (fun _ h_ => h_.1))) hb); have n5_ := Aside0.mk (blk_below (g := gb264) (o := .cells #[.slice A0_0 l0_0.length c0_0] 24 (0, 0)) (zf BK264.out) hb); have n6_ := Aside0.mk (blk_below (g := gb273) (o := .cells #[.slice Ao21 t269.length co21] 28 (0, 0)) (zf BK273.out) hb); have n7_ := Aside0.mk (blk_below (g := gb277) (o := .cells #[.slice Ao27 t289.length co27] 28 (0, 0)) (zf BK277.out) hb); have n8_ := Aside0.mk (blk_below (g := gb282) (o := .cells #[.slice Ao33 t278.length co33] 28 (0, 0)) (zf BK282.out) hb); have n9_ := Aside0.mk (blk_below (g := gb301) (o := .cells #[.slice Ao119 t297.length co119] 28 (0, 0)) (by (with_reducible repeat (first | refine blk_drewN ?_ _ | refine blk_drew ?_ | refine blk_alloc ?_ _)); refine blk_put (cs := #[.slice none 0 0]) ?_ 0 _ rfl; (with_reducible repeat (first | refine blk_drewN ?_ _ | refine blk_drew ?_ | refine blk_alloc ?_ _)); exact BK301.out) hb); have n10_ := Aside0.mk (below_step (zb HB.out) hb); clear HO_274000; clear HO_278000; clear HO_283000; clear HO296; clear HO299; clear BK264; clear BK273; clear BK277; clear BK282; clear BK301; clear HB; have HO_274000 := n0_; have HO_278000 := n1_; have HO_283000 := n2_; have HO296 := n3_; have HO299 := n4_; have BK264 := n5_; have BK273 := n6_; have BK277 := n7_; have BK282 := n8_; have BK301 := n9_; have HB := n10_; clear n0_ n1_ n2_ n3_ n4_ n5_ n6_ n7_ n8_ n9_ n10_; (try clear hb); (try clear hb2); (try clear hk); (try clear hi)))
             go_meet
             case rel => exact ⟨_, ((t300 != t272)), (by first | rfl | (simp; done) | (simp [*]; done)), H', ⟨by have := HJ11.out; have := HJ60.out; first | omega | exact Nat.le_refl _⟩, ⟨by (try simp only [hl278000_60]); (with_reducible repeat (first | apply Kd.R_alloc | apply Kd.R_drewN | apply Kd.R_drew)); exact Kd.R_mono HO_274000.out (fun _ hk => ⟨hk.1.1.1, ⟨hk.1.1.2, hk.2⟩⟩)⟩, ⟨by (try simp only [hl278000_60]); (with_reducible repeat (first | apply Kd.R_alloc | apply Kd.R_drewN | apply Kd.R_drew)); exact Kd.R_mono HO_278000.out (fun _ hk => ⟨hk.1.1.1, ⟨hk.1.1.2, hk.2⟩⟩)⟩, ⟨by (try simp only [hl278000_60]); (with_reducible repeat (first | apply Kd.R_alloc | apply Kd.R_drewN | apply Kd.R_drew)); exact Kd.R_mono HO_283000.out (fun _ hk => ⟨hk.1.1.1, ⟨hk.1.1.2, hk.2⟩⟩)⟩, ⟨by (try simp only [hl278000_60]); (with_reducible repeat (first | apply Kd.R_alloc | apply Kd.R_drewN | apply Kd.R_drew)); exact Kd.R_mono HO299.out (fun _ hk => ⟨hk.1.1.1.2, ⟨hk.1.1.2, hk.1.2⟩⟩)⟩, ⟨by (try simp only [hl278000_60]); (with_reducible repeat (first | refine blk_drewN ?_ _ | refine blk_drew ?_ | refine blk_alloc ?_ _)); exact BK264.out⟩, ⟨by (try simp only [hl278000_60]); (with_reducible repeat (first | refine blk_drewN ?_ _ | refine blk_drew ?_ | refine blk_alloc ?_ _)); exact BK273.out⟩, ⟨by (try simp only [hl278000_60]); (with_reducible repeat (first | refine blk_drewN ?_ _ | refine blk_drew ?_ | refine blk_alloc ?_ _)); exact BK277.out⟩, ⟨by (try simp only [hl278000_60]); (with_reducible repeat (first | refine blk_drewN ?_ _ | refine blk_drew ?_ | refine blk_alloc ?_ _)); exact BK282.out⟩, ⟨by (try simp only [hl278000_60]); (with_reducible repeat (first | refine blk_drewN ?_ _ | refine blk_drew ?_ | refine blk_alloc ?_ _)); exact BK301.out⟩, ⟨zb HB.out⟩⟩
            ·replace c126 := Bool.eq_false_iff.mpr c126
             subst c126
             have H1 : (laws_FnExactMakeDigest.j2 kj60 t291 true t292) = some r := by rw [if_neg (show ¬ (false = true) by decide)] at H; exact H
             clear H
             have H := H1
             clear H1
             have H' := Aside0.mk H
             clear H
             have hnb137 := NB301_264.out
             have hnc137 := NB264_301.out
             have hnb138 := NB301_273.out
             have hnc138 := NB273_301.out
             have hnb139 := NB301_277.out
             have hnc139 := NB277_301.out
             have hnb140 := NB301_282.out
             have hnc140 := NB282_301.out
             have hcz141_0 : w118.cell? ⟨gb301, 0, none⟩ = some (.slice none 0 0) := (blk_cell BK301.out 0).trans rfl
             have hfz141_0 := blk_frozen BK301.out 0
             have hnb142 := NB273_264.out
             have hnc142 := NB264_273.out
             have hnb143 := NB273_277.out
             have hnc143 := NB277_273.out
             have hnb144 := NB273_282.out
             have hnc144 := NB282_273.out
             have hcz145_0 : w118.cell? ⟨gb273, 0, none⟩ = some (.slice Ao21 t269.length co21) := (blk_cell BK273.out 0).trans rfl
             have hfz145_0 := blk_frozen BK273.out 0
             go_wp2_with (first | ((with_reducible refine gate_callee (f := 17) rfl ?_); refine goesL_ (some 86) rfl rfl Try.func17 (by kernel_rfl) rfl #[.agg #[.slice Ao119 t297.length co119], .agg #[.slice Ao21 t269.length co21]] rfl zl ?_; (with_reducible refine (laws_eqPool.calls kj60 _ _ t297 _ _ t269 false _ ?side1 ?side2 ?side3 ?side4 A125.out).mono ?_); (case side1 => refine (Kd.R_reads' (e := 49) (base := w.heap.size) (ok := fun k_ => ((((True ∧ some k_ ≠ (.slice Ao21 t269.length co21 : Value).ownBlock) ∧ some k_ ≠ (.slice Ao27 t289.length co27 : Value).ownBlock) ∧ some k_ ≠ (.slice Ao33 t278.length co33 : Value).ownBlock) ∧ some k_ ≠ (.slice Ao116 t294.length co116 : Value).ownBlock)) (n := t297.length) (c := co119) ?_).2.2; exact (by (with_reducible repeat (first | apply Kd.R_alloc | apply Kd.R_drewN | apply Kd.R_drew)); exact (Kd.R_mono (Kd.R_far (p := ⟨gb301, 0, none⟩) (Kd.R_types HO299.out BK301.out (by decide)) (fun _ hk => hk.2) (.slice Ao119 t297.length co119)) (fun _ h_ => h_.1)))); (case side2 => exact (Kd.R_reads' HO299.out).2.1); (case side3 => refine (Kd.R_reads' (e := 49) (base := w.heap.size) (ok := fun k_ => (((some k_ ≠ (.slice Ao27 t289.length co27 : Value).ownBlock ∧ some k_ ≠ (.slice Ao33 t278.length co33 : Value).ownBlock) ∧ some k_ ≠ (.slice Ao116 t294.length co116 : Value).ownBlock) ∧ some k_ ≠ (.slice Ao119 t297.length co119 : Value).ownBlock)) (n := t269.length) (c := co21) ?_).2.2; exact (by (with_reducible repeat (first | apply Kd.R_alloc | apply Kd.R_drewN | apply Kd.R_drew)); exact (Kd.R_mono (Kd.R_far (p := ⟨gb301, 0, none⟩) (Kd.R_types HO_274000.out BK301.out (by decide)) (fun _ hk => hk.2) (.slice Ao119 t297.length co119)) (fun _ h_ => h_.1)))); (case side4 => exact (Kd.R_reads' HO_274000.out).2.1); rintro e w146 ⟨rfl, hb⟩; refine ⟨_, rfl, ?_⟩; have n0_ := Aside0.mk (Kd.R_below (by (with_reducible repeat (first | apply Kd.R_alloc | apply Kd.R_drewN | apply Kd.R_drew)); exact (Kd.R_mono (Kd.R_far (p := ⟨gb301, 0, none⟩) (Kd.R_types HO_274000.out BK301.out (by decide)) (fun _ hk => hk.2) (.slice Ao119 t297.length co119)) (fun _ h_ => h_.1))) hb); have n1_ := Aside0.mk (Kd.R_below (by (with_reducible repeat (first | apply Kd.R_alloc | apply Kd.R_drewN | apply Kd.R_drew)); exact (Kd.R_mono (Kd.R_far (p := ⟨gb301, 0, none⟩) (Kd.R_types HO_278000.out BK301.out (by decide)) (fun _ hk => hk.2) (.slice Ao119 t297.length co119)) (fun _ h_ => h_.1))) hb); have n2_ := Aside0.mk (Kd.R_below (by (with_reducible repeat (first | apply Kd.R_alloc | apply Kd.R_drewN | apply Kd.R_drew)); exact (Kd.R_mono (Kd.R_far (p := ⟨gb301, 0, none⟩) (Kd.R_types HO_283000.out BK301.out (by decide)) (fun _ hk => hk.2) (.slice Ao119 t297.length co119)) (fun _ h_ => h_.1))) hb); have n3_ := Aside0.mk (Kd.R_below (by (with_reducible repeat (first | apply Kd.R_alloc | apply Kd.R_drewN | apply Kd.R_drew)); exact (Kd.R_mono (Kd.R_far (p := ⟨gb301, 0, none⟩) (Kd.R_types HO296.out BK301.out (by decide)) (fun _ hk => hk.2) (.slice Ao119 t297.length co119)) (fun _ h_ => h_.1))) hb); have n4_ := Aside0.mk (Kd.R_below (by (with_reducible repeat (first | apply Kd.R_alloc | apply Kd.R_drewN | apply Kd.R_drew)); exact (Kd.R_mono (Kd.R_far (p := ⟨gb301, 0, none⟩) (Kd.R_types HO299.out BK301.out (by decide)) (fun _ hk => hk.2) (.slice Ao119 t297.length co119)) (fun _ h_ => h_.1))) hb); have n5_ := Aside0.mk (blk_below (g := gb264) (o := .cells #[.slice A0_0 l0_0.length c0_0] 24 (0, 0)) (zf BK264.out) hb); have n6_ := Aside0.mk (blk_below (g := gb273) (o := .cells #[.slice Ao21 t269.length co21] 28 (0, 0)) (zf BK273.out) hb); have n7_ := Aside0.mk (blk_below (g := gb277) (o := .cells #[.slice Ao27 t289.length co27] 28 (0, 0)) (zf BK277.out) hb); have n8_ := Aside0.mk (blk_below (g := gb282) (o := .cells #[.slice Ao33 t278.length co33] 28 (0, 0)) (zf BK282.out) hb); have n9_ := Aside0.mk (blk_below (g := gb301) (o := .cells #[.slice Ao119 t297.length co119] 28 (0, 0)) (by (with_reducible repeat (first | refine blk_drewN ?_ _ | refine blk_drew ?_ | refine blk_alloc ?_ _)); refine blk_put (cs := #[.slice none 0 0]) ?_ 0 _ rfl; (with_reducible repeat (first | refine blk_drewN ?_ _ | refine blk_drew ?_ | refine blk_alloc ?_ _)); exact BK301.out) hb); have n10_ := Aside0.mk (below_step (zb HB.out) hb); clear HO_274000; clear HO_278000; clear HO_283000; clear HO296; clear HO299; clear BK264; clear BK273; clear BK277; clear BK282; clear BK301; clear HB; have HO_274000 := n0_; have HO_278000 := n1_; have HO_283000 := n2_; have HO296 := n3_; have HO299 := n4_; have BK264 := n5_; have BK273 := n6_; have BK277 := n7_; have BK282 := n8_; have BK301 := n9_; have HB := n10_; clear n0_ n1_ n2_ n3_ n4_ n5_ n6_ n7_ n8_ n9_ n10_; (try clear hb); (try clear hb2); (try clear hk); (try clear hi)))
             go_meet
             case rel => exact ⟨_, (true), (by first | rfl | (simp; done) | (simp [*]; done)), H', ⟨by have := HJ11.out; have := HJ60.out; first | omega | exact Nat.le_refl _⟩, ⟨by (try simp only [hl278000_60]); (with_reducible repeat (first | apply Kd.R_alloc | apply Kd.R_drewN | apply Kd.R_drew)); exact Kd.R_mono HO_274000.out (fun _ hk => ⟨hk.1.1.1, ⟨hk.1.1.2, hk.2⟩⟩)⟩, ⟨by (try simp only [hl278000_60]); (with_reducible repeat (first | apply Kd.R_alloc | apply Kd.R_drewN | apply Kd.R_drew)); exact Kd.R_mono HO_278000.out (fun _ hk => ⟨hk.1.1.1, ⟨hk.1.1.2, hk.2⟩⟩)⟩, ⟨by (try simp only [hl278000_60]); (with_reducible repeat (first | apply Kd.R_alloc | apply Kd.R_drewN | apply Kd.R_drew)); exact Kd.R_mono HO_283000.out (fun _ hk => ⟨hk.1.1.1, ⟨hk.1.1.2, hk.2⟩⟩)⟩, ⟨by (try simp only [hl278000_60]); (with_reducible repeat (first | apply Kd.R_alloc | apply Kd.R_drewN | apply Kd.R_drew)); exact Kd.R_mono HO299.out (fun _ hk => ⟨hk.1.1.1.2, ⟨hk.1.1.2, hk.1.2⟩⟩)⟩, ⟨by (try simp only [hl278000_60]); (with_reducible repeat (first | refine blk_drewN ?_ _ | refine blk_drew ?_ | refine blk_alloc ?_ _)); exact BK264.out⟩, ⟨by (try simp only [hl278000_60]); (with_reducible repeat (first | refine blk_drewN ?_ _ | refine blk_drew ?_ | refine blk_alloc ?_ _)); exact BK273.out⟩, ⟨by (try simp only [hl278000_60]); (with_reducible repeat (first | refine blk_drewN ?_ _ | refine blk_drew ?_ | refine blk_alloc ?_ _)); exact BK277.out⟩, ⟨by (try simp only [hl278000_60]); (with_reducible repeat (first | refine blk_drewN ?_ _ | refine blk_drew ?_ | refine blk_alloc ?_ _)); exact BK282.out⟩, ⟨by (try simp only [hl278000_60]); (with_reducible repeat (first | refine blk_drewN ?_ _ | refine blk_drew ?_ | refine blk_alloc ?_ _)); exact BK301.out⟩, ⟨zb HB.out⟩⟩
           case rest =>
            clear HC104
            try clear c1
            try clear c2
            try clear p2
            try clear c3
            try clear c4
            try clear c4b0
            try clear c5
            try clear c6
            try clear c7
            try clear c8
            try clear c9
            try clear c10
            try clear c11
            try clear c12
            try clear c13
            try clear c14
            try clear c15
            try clear c17
            try clear c18
            try clear c19
            try clear c20
            try clear c21
            try clear c22
            try clear c28
            try clear c29
            try clear c34
            try clear c35
            try clear c36
            try clear c39
            try clear c40
            try clear c41
            try clear c42
            try clear c44
            try clear c45
            try clear c48
            try clear c49
            try clear c50
            try clear c52
            try clear c53
            try clear c56
            try clear c59
            try clear c66
            try clear c67
            try clear c68
            try clear c71
            try clear c71b0
            try clear c73
            try clear c74
            try clear c75
            try clear c76
            try clear c78
            try clear c79
            try clear c82
            try clear c83
            try clear c84
            try clear c86
            try clear c87
            try clear c90
            try clear c93
            try clear c93b0
            try clear c94
            try clear c95
            try clear c96
            try clear c101
            try clear c101b0
            try clear c101b1
            try clear c105
            try clear c106
            try clear c107
            try clear c112
            try clear c113
            try clear c120
            try clear c121
            try clear c122
            try clear c123
            try clear c126
            try clear c127
            try clear c128
            try clear c129
            try clear c130
            try clear c132
            try clear c133
            try clear c134
            try clear c137
            try clear c138
            try clear c139
            try clear c140
            try clear c142
            try clear c143
            try clear c144
            try clear hcz108_0
            try clear hcz110_0
            try clear hcz114_0
            try clear hcz124_0
            try clear hcz131_0
            try clear hcz135_0
            try clear hcz141_0
            try clear hcz145_0
            try clear hcz14_0
            try clear hcz16_0
            try clear hcz23_0
            try clear hcz24_0
            try clear hcz30_0
            try clear hcz37_0
            try clear hcz43_0
            try clear hcz46_0
            try clear hcz51_0
            try clear hcz54_0
            try clear hcz69_0
            try clear hcz6_0
            try clear hcz77_0
            try clear hcz80_0
            try clear hcz85_0
            try clear hcz88_0
            try clear hcz97_0
            try clear hcz99_0
            try clear hfz108_0
            try clear hfz110_0
            try clear hfz114_0
            try clear hfz124_0
            try clear hfz131_0
            try clear hfz135_0
            try clear hfz141_0
            try clear hfz145_0
            try clear hfz14_0
            try clear hfz16_0
            try clear hfz23_0
            try clear hfz24_0
            try clear hfz30_0
            try clear hfz37_0
            try clear hfz43_0
            try clear hfz46_0
            try clear hfz51_0
            try clear hfz54_0
            try clear hfz69_0
            try clear hfz6_0
            try clear hfz77_0
            try clear hfz80_0
            try clear hfz85_0
            try clear hfz88_0
            try clear hfz97_0
            try clear hfz99_0
            try clear p2
            obtain ⟨kq, x92_103, rfl, HA, HJ103, HO_274000, HO_278000, HO_283000, HO_302000, BK264, BK273, BK277, BK282, BK301, HB⟩ := hcut
            have hl283000_103 := (Kd.R_reads' HO_283000.out).1
            rw [hl283000_103] at HO_283000
            (try simp only [hl283000_103])
            (try simp only [hl283000_103] at BK264)
            (try simp only [hl283000_103] at BK273)
            (try simp only [hl283000_103] at BK277)
            (try simp only [hl283000_103] at BK282)
            (try simp only [hl283000_103] at BK301)
            (try simp only [hl283000_103] at HO_274000)
            (try simp only [hl283000_103] at HO_278000)
            (try simp only [hl283000_103] at HO_302000)
            cases kq with
            | zero => exact absurd HA.out (by simp [laws_FnExactMakeDigest.j2])
            | succ kj103 =>
             have H := HA.out
             clear HA
             simp only [laws_FnExactMakeDigest.j2] at H
             by_cases c147 : x92_103 = true
             ·subst c147
              have H1 : (some false) = some r := by rw [if_pos rfl] at H; exact H
              clear H
              have H := H1
              clear H1
              obtain rfl := Option.some.inj H
              go_wp2
              go_ret
              exact ⟨ze, zb HB.out⟩
             ·replace c147 := Bool.eq_false_iff.mpr c147
              subst c147
              have H1 : ((laws_heldPool.f kj103 t292 1).bind fun t303 => (if t303 < 0 then (some false) else (if t303 = t291 then (some true) else (some false)))) = some r := by rw [if_neg (show ¬ (false = true) by decide)] at H; exact H
              clear H
              have H := H1
              clear H1
              replace H := Option.bind_eq_some_iff.mp H
              obtain ⟨t303, A1480, H⟩ := H
              replace H : (if t303 < 0 then (some false) else (if t303 = t291 then (some true) else (some false))) = some r := H
              have A148 := Aside0.mk A1480
              clear A1480
              by_cases c149 : t303 < 0
              ·rw [if_pos c149] at H
               have c149b0 : decide (t303 < 0) = true := decide_eq_true c149
               clear c149
               obtain rfl := Option.some.inj H
               have hnb150 := NB282_264.out
               have hnc150 := NB264_282.out
               have hnb151 := NB282_273.out
               have hnc151 := NB273_282.out
               have hnb152 := NB282_277.out
               have hnc152 := NB277_282.out
               have hnb153 := NB282_301.out
               have hnc153 := NB301_282.out
               have hcz154_0 : wc.cell? ⟨gb282, 0, none⟩ = some (.slice Ao33 t292.length co33) := (blk_cell BK282.out 0).trans rfl
               have hfz154_0 := blk_frozen BK282.out 0
               go_wp2_with (first | ((with_reducible refine gate_callee (f := 19) rfl ?_); refine goesL_ (some 95) rfl rfl Try.func19 (by kernel_rfl) rfl #[.agg #[.slice Ao33 t292.length co33], .int .i64 1] rfl zl ?_; (with_reducible refine (laws_heldPool.calls kj103 _ _ t292 1 t303 _ ?side1 ?side2 A148.out).mono ?_); (case side1 => exact zc (Kd.R_reads' HO_283000.out).2.2); (case side2 => exact (Kd.R_reads' HO_283000.out).2.1); rintro e w155 ⟨rfl, hb⟩; refine ⟨_, rfl, ?_⟩; have n0_ := Aside0.mk (Kd.R_below (zr HO_274000.out) hb); have n1_ := Aside0.mk (Kd.R_below (zr HO_278000.out) hb); have n2_ := Aside0.mk (Kd.R_below (zr HO_283000.out) hb); have n3_ := Aside0.mk (Kd.R_below (zr HO_302000.out) hb); have n4_ := Aside0.mk (blk_below (zh BK264.out) hb); have n5_ := Aside0.mk (blk_below (zh BK273.out) hb); have n6_ := Aside0.mk (blk_below (zh BK277.out) hb); have n7_ := Aside0.mk (blk_below (zh BK282.out) hb); have n8_ := Aside0.mk (blk_below (zh BK301.out) hb); have n9_ := Aside0.mk (below_step (zb HB.out) hb); clear HO_274000; clear HO_278000; clear HO_283000; clear HO_302000; clear BK264; clear BK273; clear BK277; clear BK282; clear BK301; clear HB; have HO_274000 := n0_; have HO_278000 := n1_; have HO_283000 := n2_; have HO_302000 := n3_; have BK264 := n4_; have BK273 := n5_; have BK277 := n6_; have BK282 := n7_; have BK301 := n8_; have HB := n9_; clear n0_ n1_ n2_ n3_ n4_ n5_ n6_ n7_ n8_ n9_; (try clear hb); (try clear hb2); (try clear hk); (try clear hi)))
               go_ret
               exact ⟨ze, zb HB.out⟩
              ·rw [if_neg c149] at H
               have c149b0 : decide (t303 < 0) = false := decide_eq_false c149
               clear c149
               by_cases c156 : t303 = t291
               ·rw [if_pos c156] at H
                have c156b0 : (t303 == t291) = true := beq_iff_eq.mpr c156
                have c156b1 : (t303 != t291) = false := bne_eq_false_iff_eq.mpr c156
                clear c156
                obtain rfl := Option.some.inj H
                have hnb157 := NB282_264.out
                have hnc157 := NB264_282.out
                have hnb158 := NB282_273.out
                have hnc158 := NB273_282.out
                have hnb159 := NB282_277.out
                have hnc159 := NB277_282.out
                have hnb160 := NB282_301.out
                have hnc160 := NB301_282.out
                have hcz161_0 : wc.cell? ⟨gb282, 0, none⟩ = some (.slice Ao33 t292.length co33) := (blk_cell BK282.out 0).trans rfl
                have hfz161_0 := blk_frozen BK282.out 0
                go_wp2_with (first | ((with_reducible refine gate_callee (f := 19) rfl ?_); refine goesL_ (some 95) rfl rfl Try.func19 (by kernel_rfl) rfl #[.agg #[.slice Ao33 t292.length co33], .int .i64 1] rfl zl ?_; (with_reducible refine (laws_heldPool.calls kj103 _ _ t292 1 t303 _ ?side1 ?side2 A148.out).mono ?_); (case side1 => exact zc (Kd.R_reads' HO_283000.out).2.2); (case side2 => exact (Kd.R_reads' HO_283000.out).2.1); rintro e w162 ⟨rfl, hb⟩; refine ⟨_, rfl, ?_⟩; have n0_ := Aside0.mk (Kd.R_below (zr HO_274000.out) hb); have n1_ := Aside0.mk (Kd.R_below (zr HO_278000.out) hb); have n2_ := Aside0.mk (Kd.R_below (zr HO_283000.out) hb); have n3_ := Aside0.mk (Kd.R_below (zr HO_302000.out) hb); have n4_ := Aside0.mk (blk_below (zh BK264.out) hb); have n5_ := Aside0.mk (blk_below (zh BK273.out) hb); have n6_ := Aside0.mk (blk_below (zh BK277.out) hb); have n7_ := Aside0.mk (blk_below (zh BK282.out) hb); have n8_ := Aside0.mk (blk_below (zh BK301.out) hb); have n9_ := Aside0.mk (below_step (zb HB.out) hb); clear HO_274000; clear HO_278000; clear HO_283000; clear HO_302000; clear BK264; clear BK273; clear BK277; clear BK282; clear BK301; clear HB; have HO_274000 := n0_; have HO_278000 := n1_; have HO_283000 := n2_; have HO_302000 := n3_; have BK264 := n4_; have BK273 := n5_; have BK277 := n6_; have BK282 := n7_; have BK301 := n8_; have HB := n9_; clear n0_ n1_ n2_ n3_ n4_ n5_ n6_ n7_ n8_ n9_; (try clear hb); (try clear hb2); (try clear hk); (try clear hi)))
                go_ret
                exact ⟨ze, zb HB.out⟩
               ·rw [if_neg c156] at H
                have c156b0 : (t303 == t291) = false := beq_eq_false_iff_ne.mpr c156
                have c156b1 : (t303 != t291) = true := bne_iff_ne.mpr c156
                obtain rfl := Option.some.inj H
                have hnb163 := NB282_264.out
                have hnc163 := NB264_282.out
                have hnb164 := NB282_273.out
                have hnc164 := NB273_282.out
                have hnb165 := NB282_277.out
                have hnc165 := NB277_282.out
                have hnb166 := NB282_301.out
                have hnc166 := NB301_282.out
                have hcz167_0 : wc.cell? ⟨gb282, 0, none⟩ = some (.slice Ao33 t292.length co33) := (blk_cell BK282.out 0).trans rfl
                have hfz167_0 := blk_frozen BK282.out 0
                go_wp2_with (first | ((with_reducible refine gate_callee (f := 19) rfl ?_); refine goesL_ (some 95) rfl rfl Try.func19 (by kernel_rfl) rfl #[.agg #[.slice Ao33 t292.length co33], .int .i64 1] rfl zl ?_; (with_reducible refine (laws_heldPool.calls kj103 _ _ t292 1 t303 _ ?side1 ?side2 A148.out).mono ?_); (case side1 => exact zc (Kd.R_reads' HO_283000.out).2.2); (case side2 => exact (Kd.R_reads' HO_283000.out).2.1); rintro e w168 ⟨rfl, hb⟩; refine ⟨_, rfl, ?_⟩; have n0_ := Aside0.mk (Kd.R_below (zr HO_274000.out) hb); have n1_ := Aside0.mk (Kd.R_below (zr HO_278000.out) hb); have n2_ := Aside0.mk (Kd.R_below (zr HO_283000.out) hb); have n3_ := Aside0.mk (Kd.R_below (zr HO_302000.out) hb); have n4_ := Aside0.mk (blk_below (zh BK264.out) hb); have n5_ := Aside0.mk (blk_below (zh BK273.out) hb); have n6_ := Aside0.mk (blk_below (zh BK277.out) hb); have n7_ := Aside0.mk (blk_below (zh BK282.out) hb); have n8_ := Aside0.mk (blk_below (zh BK301.out) hb); have n9_ := Aside0.mk (below_step (zb HB.out) hb); clear HO_274000; clear HO_278000; clear HO_283000; clear HO_302000; clear BK264; clear BK273; clear BK277; clear BK282; clear BK301; clear HB; have HO_274000 := n0_; have HO_278000 := n1_; have HO_283000 := n2_; have HO_302000 := n3_; have BK264 := n4_; have BK273 := n5_; have BK277 := n6_; have BK282 := n7_; have BK301 := n8_; have HB := n9_; clear n0_ n1_ n2_ n3_ n4_ n5_ n6_ n7_ n8_ n9_; (try clear hb); (try clear hb2); (try clear hk); (try clear hi)))
                go_ret
                exact ⟨ze, zb HB.out⟩
          ·rw [if_neg c101] at H
           have c101b0 : (t293 == t291) = false := beq_eq_false_iff_ne.mpr c101
           have c101b1 : (t293 != t291) = true := bne_iff_ne.mpr c101
           obtain rfl := Option.some.inj H
           have hnb169 := NB282_264.out
           have hnc169 := NB264_282.out
           have hnb170 := NB282_273.out
           have hnc170 := NB273_282.out
           have hnb171 := NB282_277.out
           have hnc171 := NB277_282.out
           have hcz172_0 : wc.cell? ⟨gb282, 0, none⟩ = some (.slice Ao33 t278.length co33) := (blk_cell BK282.out 0).trans rfl
           have hfz172_0 := blk_frozen BK282.out 0
           go_wp2_with (first | ((with_reducible refine gate_callee (f := 18) rfl ?_); refine goesL_ (some 68) rfl rfl Try.func18 (by kernel_rfl) rfl #[.agg #[.slice Ao33 t278.length co33], .int .i64 1] rfl zl ?_; (with_reducible refine (laws_markPool.calls kj60 (fun k_ => some k_ = (.slice Ao33 t278.length co33 : Value).ownBlock) (.slice Ao33 t278.length co33) t278 1 t291 t292 w _ ?side1 ?side2 A91.out).mono ?_); (case side1 => repeat (first | (with_reducible first | exact HB.out | apply below_alloc | apply pw_below_drewN | apply below_drew1 | refine below_set ?_ GE264.out | refine below_set ?_ GE273.out | refine below_set ?_ GE277.out | refine below_set ?_ GE282.out) | exact HB.out)); (case side2 => exact Kd.R_tight rfl HO_283000.out); rintro e w173 ⟨rfl, hy0, hb, hkp⟩; refine ⟨_, rfl, ?_⟩; have n0_ := Aside0.mk (Kd.R_mono (ok' := fun k_ => some k_ ≠ (.slice Ao27 t289.length co27 : Value).ownBlock ∧ some k_ ≠ (.slice Ao33 t278.length co33 : Value).ownBlock) (Kd.R_keptB (HO_274000.out) hkp (fun k_ hk_ hs_ => by first | exact (hk_.2) hs_ | (revert hk_; simp only [and_imp]; intros; exact absurd hs_ (by assumption)))) (fun k_ hk_ => by first | exact ⟨hk_.1.1, hk_.1.2⟩ | (revert hk_; simp only [and_imp]; intros; and_intros <;> assumption))); have n1_ := Aside0.mk (Kd.R_mono (ok' := fun k_ => some k_ ≠ (.slice Ao21 t269.length co21 : Value).ownBlock ∧ some k_ ≠ (.slice Ao33 t278.length co33 : Value).ownBlock) (Kd.R_keptB (HO_278000.out) hkp (fun k_ hk_ hs_ => by first | exact (hk_.2) hs_ | (revert hk_; simp only [and_imp]; intros; exact absurd hs_ (by assumption)))) (fun k_ hk_ => by first | exact ⟨hk_.1.1, hk_.1.2⟩ | (revert hk_; simp only [and_imp]; intros; and_intros <;> assumption))); have n2_ := Aside0.mk (Kd.R_reok rfl hy0 (fun k_ e_ => HO_283000.out.1 k_ e_)); have n3_ := Aside0.mk (blk_kept (zh BK264.out) hkp (fun hs_ => (fun e_ => (Kd.R_ne HO_283000.out BK264.out (by decide)) e_) hs_)); have n4_ := Aside0.mk (blk_kept (zh BK273.out) hkp (fun hs_ => (fun e_ => (Kd.R_ne HO_283000.out BK273.out (by decide)) e_) hs_)); have n5_ := Aside0.mk (blk_kept (zh BK277.out) hkp (fun hs_ => (fun e_ => (Kd.R_ne HO_283000.out BK277.out (by decide)) e_) hs_)); have n6_ := Aside0.mk (blk_kept (zh BK282.out) hkp (fun hs_ => (fun e_ => (Kd.R_ne HO_283000.out BK282.out (by decide)) e_) hs_)); have n7_ := Aside0.mk (hb); clear HO_274000; clear HO_278000; clear HO_283000; clear BK264; clear BK273; clear BK277; clear BK282; clear HB; have HO_274000 := n0_; have HO_278000 := n1_; have HO_283000 := n2_; have BK264 := n3_; have BK273 := n4_; have BK277 := n5_; have BK282 := n6_; have HB := n7_; clear n0_ n1_ n2_ n3_ n4_ n5_ n6_ n7_; (try clear hb); (try clear hkp); (try clear hy0); have hcz174_0 : w173.cell? ⟨gb282, 0, none⟩ = some (.slice Ao33 t278.length co33) := (blk_cell BK282.out 0).trans rfl; have hfz174_0 := blk_frozen BK282.out 0) | ((with_reducible refine gate_callee (f := 19) rfl ?_); refine goesL_ (some 71) rfl rfl Try.func19 (by kernel_rfl) rfl #[.agg #[.slice Ao33 t292.length co33], .int .i64 1] rfl (by (try simp only [List.map_toArray, List.map_cons, List.map_nil]); first | done | (rw [show t292.length = t278.length from (Kd.R_reads' HO_283000.out).1.symm] <;> rfl) | rfl | (simp only [List.length_drop, List.length_take]; rfl)) ?_; (with_reducible refine (laws_heldPool.calls kj60 _ _ t292 1 t293 _ ?side1 ?side2 A92.out).mono ?_); (case side1 => exact zc (Kd.R_reads' HO_283000.out).2.2); (case side2 => rw [show t292.length = t278.length from (Kd.R_reads' HO_283000.out).1.symm]; exact (Kd.R_reads' HO_283000.out).2.1); rintro e w175 ⟨rfl, hb⟩; refine ⟨_, rfl, ?_⟩; have n0_ := Aside0.mk (Kd.R_below (zr HO_274000.out) hb); have n1_ := Aside0.mk (Kd.R_below (zr HO_278000.out) hb); have n2_ := Aside0.mk (Kd.R_below (zr HO_283000.out) hb); have n3_ := Aside0.mk (blk_below (zh BK264.out) hb); have n4_ := Aside0.mk (blk_below (zh BK273.out) hb); have n5_ := Aside0.mk (blk_below (zh BK277.out) hb); have n6_ := Aside0.mk (blk_below (zh BK282.out) hb); have n7_ := Aside0.mk (below_step (zb HB.out) hb); clear HO_274000; clear HO_278000; clear HO_283000; clear BK264; clear BK273; clear BK277; clear BK282; clear HB; have HO_274000 := n0_; have HO_278000 := n1_; have HO_283000 := n2_; have BK264 := n3_; have BK273 := n4_; have BK277 := n5_; have BK282 := n6_; have HB := n7_; clear n0_ n1_ n2_ n3_ n4_ n5_ n6_ n7_; (try clear hb); (try clear hb2); (try clear hk); (try clear hi)))
           go_ret
           exact ⟨ze, zb HB.out⟩
     ·replace c59 := Bool.eq_false_iff.mpr c59
      subst c59
      have H1 : (some false) = some r := by rw [if_neg (show ¬ (false = true) by decide)] at H; exact H
      clear H
      have H := H1
      clear H1
      obtain rfl := Option.some.inj H
      try go_wp2
      have n0_ := Aside0.mk (Kd.R_drew HO_274000.out)
      have n1_ := Aside0.mk (Kd.R_drew HO_278000.out)
      have n2_ := Aside0.mk (Kd.R_drew HO_283000.out)
      have n3_ := Aside0.mk (blk_drew BK264.out)
      have n4_ := Aside0.mk (blk_drew BK273.out)
      have n5_ := Aside0.mk (blk_drew BK277.out)
      have n6_ := Aside0.mk (blk_drew BK282.out)
      have n7_ := Aside0.mk (below_drew1 HB.out)
      clear HO_274000
      clear HO_278000
      clear HO_283000
      clear BK264
      clear BK273
      clear BK277
      clear BK282
      clear HB
      have HO_274000 := n0_
      have HO_278000 := n1_
      have HO_283000 := n2_
      have BK264 := n3_
      have BK273 := n4_
      have BK277 := n5_
      have BK282 := n6_
      have HB := n7_
      clear n0_ n1_ n2_ n3_ n4_ n5_ n6_ n7_
      refine start_ (n := 5) (S := fun w' => w'.cell? ⟨gb277, 0, none⟩ = some (.slice Ao27 t274.length co27) ∧ w'.cell? ⟨gb264, 0, none⟩ = some (.slice A0_0 l0_0.length c0_0)) (ds := []) #[false, false, false, false, false] (by kernel_rfl) rfl rfl ⟨(blk_cell BK277.out 0).trans rfl, (blk_cell BK264.out 0).trans rfl⟩ (fun hHeld => ?_)
      generalize wc.drew = w176 at HO_274000 HO_278000 HO_283000 BK264 BK273 BK277 BK282 HB hHeld ⊢
      refine take_ (i := 0) (N := some 45) (v := ?_) (a' := ?_) #[true, false, false, false, false] rfl rfl (by kernel_rfl) (fun _ _ _ h => h) (Or.inl ⟨by rfl, ?_⟩) hHeld ?_ ?_
      rotate_left
      ·rintro w' ⟨s0, s1⟩
       go_simp
       with_reducible rfl
      rotate_left
      ·simp only [Act.put, List.setIfInBounds_toArray, List.set_cons_zero, List.set_cons_succ, i64_w, i32_w]
       rfl
      refine take_ (i := 1) (N := some 46) (v := ?_) (a' := ?_) #[true, true, false, false, false] rfl rfl (by kernel_rfl) (fun _ _ _ h => h) (Or.inl ⟨by rfl, ?_⟩) hHeld ?_ ?_
      rotate_left
      ·rintro w' ⟨s0, s1⟩
       go_simp
       with_reducible rfl
      rotate_left
      ·simp only [Act.put, List.setIfInBounds_toArray, List.set_cons_zero, List.set_cons_succ, i64_w, i32_w]
       rfl
      refine one_ (i := 2) (N := some 47) #[true, true, true, false, false] rfl rfl (by kernel_rfl) (by decide) (fun K hK => ?_)
      refine goes_ Try.func15 (by kernel_rfl) rfl #[.agg #[.slice A0_0 l0_0.length c0_0]] (by rfl) rfl rfl zl ?_
      with_reducible refine (laws_toPool.calls kj11 _ _ l0_0 t284 _ ?side1 ?side2 A57.out).mono ?_
      (case side1 => exact zc (Kd.C_below HR0_0.out HB.out))
      (case side2 => exact HC0_0.out)
      rintro e w177 ⟨v285, rfl, ho0, hb⟩
      refine ⟨_, rfl, ?_⟩
      have n0_ := Aside0.mk (Kd.R_elder' (zr HO_274000.out) (Kd.R_base ho0) hb)
      have n1_ := Aside0.mk (Kd.R_elder' (zr HO_278000.out) (Kd.R_base ho0) hb)
      have n2_ := Aside0.mk (Kd.R_elder' (zr HO_283000.out) (Kd.R_base ho0) hb)
      have n3_ := Aside0.mk (Kd.R_lower (Kd.R_new' (Kd.R_new' (Kd.R_new' ho0 (Kd.R_lt (zr HO_274000.out))) (Kd.R_lt (zr HO_278000.out))) (Kd.R_lt (zr HO_283000.out))) (below_size (zb HB.out)))
      have n4_ := Aside0.mk (blk_below (zh BK264.out) hb)
      have n5_ := Aside0.mk (blk_below (zh BK273.out) hb)
      have n6_ := Aside0.mk (blk_below (zh BK277.out) hb)
      have n7_ := Aside0.mk (blk_below (zh BK282.out) hb)
      have n8_ := Aside0.mk (below_step (zb HB.out) hb)
      clear HO_274000
      clear HO_278000
      clear HO_283000
      clear BK264
      clear BK273
      clear BK277
      clear BK282
      clear HB
      have HO_274000 := n0_
      have HO_278000 := n1_
      have HO_283000 := n2_
      have HO286 := n3_
      have BK264 := n4_
      have BK273 := n5_
      have BK277 := n6_
      have BK282 := n7_
      have HB := n8_
      clear n0_ n1_ n2_ n3_ n4_ n5_ n6_ n7_ n8_
      (try clear hb)
      (try clear hb2)
      (try clear hk)
      (try clear hi)
      (try clear ho0)
      obtain ⟨Ao178, co178, eo178⟩ := Kd.R_slice HO286.out
      (first | subst eo178 | (injection eo178 with f1_ f2_ f3_; have f4_ := f1_.symm; have f5_ := f3_.symm; clear f1_ f2_ f3_; subst f4_; subst f5_))
      refine hK.out _ _ ⟨(blk_cell BK277.out 0).trans rfl, (blk_cell BK264.out 0).trans rfl⟩ (fun hHeld => ?_)
      clear hK K
      refine norm_ (a' := ?_) ?_ ?_
      rotate_left
      ·show Act.put _ (some 47) _ = _
       simp only [Act.put, List.setIfInBounds_toArray, List.set_cons_zero, List.set_cons_succ, i64_w, i32_w]
       rfl
      refine one_ (i := 3) (N := some 48) #[true, true, true, true, false] rfl rfl (by kernel_rfl) (by decide) (fun K hK => ?_)
      refine goes_ Try.func17 (by kernel_rfl) rfl #[.agg #[.slice Ao27 t274.length co27], .agg #[.slice Ao178 t284.length co178]] (by rfl) rfl rfl zl ?_
      with_reducible refine (laws_eqPool.calls kj11 _ _ t274 _ _ t284 false _ ?side1 ?side2 ?side3 ?side4 A58.out).mono ?_
      (case side1 => exact zc (Kd.R_reads' HO_278000.out).2.2)
      (case side2 => exact (Kd.R_reads' HO_278000.out).2.1)
      (case side3 => exact zc (Kd.R_reads' HO286.out).2.2)
      (case side4 => exact (Kd.R_reads' HO286.out).2.1)
      rintro e w179 ⟨rfl, hb⟩
      refine ⟨_, rfl, ?_⟩
      have n0_ := Aside0.mk (Kd.R_below (zr HO_274000.out) hb)
      have n1_ := Aside0.mk (Kd.R_below (zr HO_278000.out) hb)
      have n2_ := Aside0.mk (Kd.R_below (zr HO_283000.out) hb)
      have n3_ := Aside0.mk (Kd.R_below (zr HO286.out) hb)
      have n4_ := Aside0.mk (blk_below (zh BK264.out) hb)
      have n5_ := Aside0.mk (blk_below (zh BK273.out) hb)
      have n6_ := Aside0.mk (blk_below (zh BK277.out) hb)
      have n7_ := Aside0.mk (blk_below (zh BK282.out) hb)
      have n8_ := Aside0.mk (below_step (zb HB.out) hb)
      clear HO_274000
      clear HO_278000
      clear HO_283000
      clear HO286
      clear BK264
      clear BK273
      clear BK277
      clear BK282
      clear HB
      have HO_274000 := n0_
      have HO_278000 := n1_
      have HO_283000 := n2_
      have HO286 := n3_
      have BK264 := n4_
      have BK273 := n5_
      have BK277 := n6_
      have BK282 := n7_
      have HB := n8_
      clear n0_ n1_ n2_ n3_ n4_ n5_ n6_ n7_ n8_
      (try clear hb)
      (try clear hb2)
      (try clear hk)
      (try clear hi)
      refine hK.out _ _ ⟨(blk_cell BK277.out 0).trans rfl, (blk_cell BK264.out 0).trans rfl⟩ (fun hHeld => ?_)
      clear hK K
      refine norm_ (a' := ?_) ?_ ?_
      rotate_left
      ·show Act.put _ (some 48) _ = _
       simp only [Act.put, List.setIfInBounds_toArray, List.set_cons_zero, List.set_cons_succ, i64_w, i32_w]
       rfl
      refine pure_ (i := 4) (N := some 49) (v := ?_) (a' := ?_) #[true, true, true, true, true] rfl rfl (by kernel_rfl) (fun _ _ _ h => h) (Or.inl ⟨by rfl, ?_⟩) ?_ ?_
      rotate_left
      ·intro w'
       go_simp
       with_reducible rfl
      rotate_left
      ·simp only [Act.put, List.setIfInBounds_toArray, List.set_cons_zero, List.set_cons_succ, i64_w, i32_w]
       rfl
      refine done_ (by kernel_rfl) ?_
      try go_wp2
      go_ret
      exact ⟨ze, zb HB.out⟩

end Go.Proofs.Ytpgaifjneedjoaa.B
