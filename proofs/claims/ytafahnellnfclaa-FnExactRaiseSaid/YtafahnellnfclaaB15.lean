-- Written by this session's program (wip/tools/gprint.py over the kit's print) out of the translation; Lean checks it.
import Derived.Test.YtafahnellnfclaaB0
import Derived.Test.YtafahnellnfclaaB2
import Derived.Test.YtafahnellnfclaaB5
import Derived.Test.YtafahnellnfclaaB9
import Derived.Test.YtafahnellnfclaaB10
import Derived.Test.YtafahnellnfclaaB14
namespace Go.Proofs.Ytafahnellnfclaa.B
open Go.RowKit Go.Proofs.YtafahnellnfclaaW.PrintWords Go.Proofs.YtafahnellnfclaaW.PrintLast Go.Proofs.YtafahnellnfclaaW.PrintMore
attribute [local go_sem] max2_int min2_int max_two min_two max_three min_three max_four min_four   -- for this text's walks alone
set_option linter.unusedVariables false
set_option linter.unusedSimpArgs false
set_option maxRecDepth 100000

/-! ### laws_FnExactRaise: function 12 -/
mutual
def laws_FnExactRaise.j0 : Nat → Int → Int → Int → Int → Bool → List (S26) → List (S34) → List (S34) → List (S34) → Option (Bool)
 | 0, _, _, _, _, _, _, _, _, _ => none
 | k + 1, x1, x2, x9, x12, x48, x327000, x336000, x340000, x345000 => if x48 = true then (some false) else ((laws_toPool.f k x327000).bind fun t346 => ((laws_eqPool.f k x340000 t346).bind fun t349 => (if t349 = true then ((laws_markPool.f k x340000 1).bind fun bt350 => (if bt350.1 < 0 then (laws_FnExactRaise.j1 k x1 x2 x9 true x327000 x336000 x345000) else ((laws_eqPool.f k x345000 x336000).bind fun t352 => (if t352 = true then (laws_FnExactRaise.j1 k x1 x2 x9 (x12 != x9) x327000 x336000 x345000) else (laws_FnExactRaise.j1 k x1 x2 x9 true x327000 x336000 x345000))))) else (some false))))
def laws_FnExactRaise.j1 : Nat → Int → Int → Int → Bool → List (S26) → List (S34) → List (S34) → Option (Bool)
 | 0, _, _, _, _, _, _, _ => none
 | k + 1, x1, x2, x9, x69, x327000, x336000, x345000 => if x69 = true then (some false) else ((laws_markPool.f k x345000 1).bind fun bt353 => ((laws_heldPool.f k bt353.2 1).bind fun t355 => (if t355 < 0 then (some false) else (if t355 = bt353.1 then ((laws_toPool.f k x327000).bind fun t356 => ((impl_Raise.f k t356 x1 x2).bind fun bt359 => ((laws_eqPool.f k bt359.1 x336000).bind fun t364 => (if t364 = true then (laws_FnExactRaise.j2 k bt353.1 (bt359.2 != x9) bt353.2) else (laws_FnExactRaise.j2 k bt353.1 true bt353.2))))) else (some false)))))
def laws_FnExactRaise.j2 : Nat → Int → Bool → List (S34) → Option (Bool)
 | 0, _, _, _ => none
 | k + 1, x14, x97, x345000 => if x97 = true then (some false) else ((laws_heldPool.f k x345000 1).bind fun t365 => (if t365 < 0 then (some false) else (if t365 = x14 then (some true) else (some false))))
end
def laws_FnExactRaise.f (k : Nat) (l0_0 : List (S26)) (a1 : Int) (a2 : Int) : Option (Bool) := (laws_szPool.f l0_0 1048576).bind fun t327 => (if t327 < 0 then (some true) else ((laws_toPool.f k l0_0).bind fun t328 => ((spec_Raise.f k t328 a1 a2).bind fun bt331 => ((laws_toPool.f k l0_0).bind fun t336 => ((impl_Raise.f k t336 a1 a2).bind fun bt340 => ((laws_eqPool.f k bt340.1 bt331.1).bind fun t345 => (if t345 = true then (laws_FnExactRaise.j0 k a1 a2 bt331.2 bt340.2 (bt340.2 != bt331.2) l0_0 bt331.1 t336 bt340.1) else (laws_FnExactRaise.j0 k a1 a2 bt331.2 bt340.2 true l0_0 bt331.1 t336 bt340.1))))))))
theorem laws_FnExactRaise.mono_l : ∀ k, (∀ y0 y1 y2 y3 y4 y5 y6 y7 y8, LeO (laws_FnExactRaise.j0 k y0 y1 y2 y3 y4 y5 y6 y7 y8) (laws_FnExactRaise.j0 (k + 1) y0 y1 y2 y3 y4 y5 y6 y7 y8)) ∧ (∀ y0 y1 y2 y3 y4 y5 y6, LeO (laws_FnExactRaise.j1 k y0 y1 y2 y3 y4 y5 y6) (laws_FnExactRaise.j1 (k + 1) y0 y1 y2 y3 y4 y5 y6)) ∧ (∀ y0 y1 y2, LeO (laws_FnExactRaise.j2 k y0 y1 y2) (laws_FnExactRaise.j2 (k + 1) y0 y1 y2))
 | 0 => ⟨fun _ _ _ _ _ _ _ _ _ r h => by simp [laws_FnExactRaise.j0] at h, fun _ _ _ _ _ _ _ r h => by simp [laws_FnExactRaise.j1] at h, fun _ _ _ r h => by simp [laws_FnExactRaise.j2] at h⟩
 | k + 1 => by
  obtain ⟨ih0, ih1, ih2⟩ := laws_FnExactRaise.mono_l k
  refine ⟨?_, ?_, ?_⟩
  ·intro y0 y1 y2 y3 y4 y5 y6 y7 y8
   unfold laws_FnExactRaise.j0
   repeat' first
   | (with_reducible exact ih0 _ _ _ _ _ _ _ _ _)
   | (with_reducible exact ih1 _ _ _ _ _ _ _)
   | (with_reducible exact ih2 _ _ _)
   | (with_reducible exact impl_Raise.mono _ _ _ _)
   | (with_reducible exact laws_eqPool.mono _ _ _)
   | (with_reducible exact laws_heldPool.mono _ _ _)
   | (with_reducible exact laws_markPool.mono _ _ _)
   | (with_reducible exact laws_toPool.mono _ _)
   | (with_reducible exact spec_Raise.mono _ _ _ _)
   | (with_reducible exact LeO.refl _)
   | (with_reducible exact LeO.none _)
   | (with_reducible refine LeO.ite ?_ ?_)
   | (with_reducible refine LeO.bind ?_ (fun _ => ?_))
   | exact ih0 _ _ _ _ _ _ _ _ _
   | exact ih1 _ _ _ _ _ _ _
   | exact ih2 _ _ _
   | exact impl_Raise.mono _ _ _ _
   | exact laws_eqPool.mono _ _ _
   | exact laws_heldPool.mono _ _ _
   | exact laws_markPool.mono _ _ _
   | exact laws_toPool.mono _ _
   | exact spec_Raise.mono _ _ _ _
   | exact LeO.none _
   | refine LeO.ite ?_ ?_
   | refine LeO.bind ?_ (fun _ => ?_)
  ·intro y0 y1 y2 y3 y4 y5 y6
   unfold laws_FnExactRaise.j1
   repeat' first
   | (with_reducible exact ih0 _ _ _ _ _ _ _ _ _)
   | (with_reducible exact ih1 _ _ _ _ _ _ _)
   | (with_reducible exact ih2 _ _ _)
   | (with_reducible exact impl_Raise.mono _ _ _ _)
   | (with_reducible exact laws_eqPool.mono _ _ _)
   | (with_reducible exact laws_heldPool.mono _ _ _)
   | (with_reducible exact laws_markPool.mono _ _ _)
   | (with_reducible exact laws_toPool.mono _ _)
   | (with_reducible exact spec_Raise.mono _ _ _ _)
   | (with_reducible exact LeO.refl _)
   | (with_reducible exact LeO.none _)
   | (with_reducible refine LeO.ite ?_ ?_)
   | (with_reducible refine LeO.bind ?_ (fun _ => ?_))
   | exact ih0 _ _ _ _ _ _ _ _ _
   | exact ih1 _ _ _ _ _ _ _
   | exact ih2 _ _ _
   | exact impl_Raise.mono _ _ _ _
   | exact laws_eqPool.mono _ _ _
   | exact laws_heldPool.mono _ _ _
   | exact laws_markPool.mono _ _ _
   | exact laws_toPool.mono _ _
   | exact spec_Raise.mono _ _ _ _
   | exact LeO.none _
   | refine LeO.ite ?_ ?_
   | refine LeO.bind ?_ (fun _ => ?_)
  ·intro y0 y1 y2
   unfold laws_FnExactRaise.j2
   repeat' first
   | (with_reducible exact ih0 _ _ _ _ _ _ _ _ _)
   | (with_reducible exact ih1 _ _ _ _ _ _ _)
   | (with_reducible exact ih2 _ _ _)
   | (with_reducible exact impl_Raise.mono _ _ _ _)
   | (with_reducible exact laws_eqPool.mono _ _ _)
   | (with_reducible exact laws_heldPool.mono _ _ _)
   | (with_reducible exact laws_markPool.mono _ _ _)
   | (with_reducible exact laws_toPool.mono _ _)
   | (with_reducible exact spec_Raise.mono _ _ _ _)
   | (with_reducible exact LeO.refl _)
   | (with_reducible exact LeO.none _)
   | (with_reducible refine LeO.ite ?_ ?_)
   | (with_reducible refine LeO.bind ?_ (fun _ => ?_))
   | exact ih0 _ _ _ _ _ _ _ _ _
   | exact ih1 _ _ _ _ _ _ _
   | exact ih2 _ _ _
   | exact impl_Raise.mono _ _ _ _
   | exact laws_eqPool.mono _ _ _
   | exact laws_heldPool.mono _ _ _
   | exact laws_markPool.mono _ _ _
   | exact laws_toPool.mono _ _
   | exact spec_Raise.mono _ _ _ _
   | exact LeO.none _
   | refine LeO.ite ?_ ?_
   | refine LeO.bind ?_ (fun _ => ?_)
theorem laws_FnExactRaise.mono : ∀ a0 a1 a2 k, LeO (laws_FnExactRaise.f k a0 a1 a2) (laws_FnExactRaise.f (k + 1) a0 a1 a2) := by
 intro a0 a1 a2 k
 obtain ⟨ih0, ih1, ih2⟩ := laws_FnExactRaise.mono_l k
 unfold laws_FnExactRaise.f
 repeat' first
   | (with_reducible exact ih0 _ _ _ _ _ _ _ _ _)
   | (with_reducible exact ih1 _ _ _ _ _ _ _)
   | (with_reducible exact ih2 _ _ _)
   | (with_reducible exact impl_Raise.mono _ _ _ _)
   | (with_reducible exact laws_eqPool.mono _ _ _)
   | (with_reducible exact laws_heldPool.mono _ _ _)
   | (with_reducible exact laws_markPool.mono _ _ _)
   | (with_reducible exact laws_toPool.mono _ _)
   | (with_reducible exact spec_Raise.mono _ _ _ _)
   | (with_reducible exact LeO.refl _)
   | (with_reducible exact LeO.none _)
   | (with_reducible refine LeO.ite ?_ ?_)
   | (with_reducible refine LeO.bind ?_ (fun _ => ?_))
   | exact ih0 _ _ _ _ _ _ _ _ _
   | exact ih1 _ _ _ _ _ _ _
   | exact ih2 _ _ _
   | exact impl_Raise.mono _ _ _ _
   | exact laws_eqPool.mono _ _ _
   | exact laws_heldPool.mono _ _ _
   | exact laws_markPool.mono _ _ _
   | exact laws_toPool.mono _ _
   | exact spec_Raise.mono _ _ _ _
   | exact LeO.none _
   | refine LeO.ite ?_ ?_
   | refine LeO.bind ?_ (fun _ => ?_)
set_option maxHeartbeats 8000000 in
set_option maxRecDepth 100000 in
theorem laws_FnExactRaise.calls (k : Nat) (A0_0 : Option Addr) (c0_0 : Nat) (l0_0 : List (S26)) (a1 : Int) (a2 : Int) (r : Bool) (w : World) (hr0_0 : Kd.C k26 w A0_0 l0_0.length l0_0) (hc0_0 : l0_0.length ≤ c0_0) (h : laws_FnExactRaise.f k l0_0 a1 a2 = some r) :
  Calls Try.prog 12 #[.agg #[.slice A0_0 l0_0.length c0_0], .int .i64 a1, .int .i64 a2] w fun e w' => e = .returned (.bool r) ∧ Below w.heap.size w w' := by
 have hu24 := Try.underlying24
 have hu30 := Try.underlying30
 have HR0_0 := Aside0.mk hr0_0
 have HC0_0 := Aside0.mk hc0_0
 clear hr0_0 hc0_0
 have HB := Aside0.mk (Below.refl w.heap.size w)
 have H : ((laws_szPool.f l0_0 1048576).bind fun t327 => (if t327 < 0 then (some true) else ((laws_toPool.f k l0_0).bind fun t328 => ((spec_Raise.f k t328 a1 a2).bind fun bt331 => ((laws_toPool.f k l0_0).bind fun t336 => ((impl_Raise.f k t336 a1 a2).bind fun bt340 => ((laws_eqPool.f k bt340.1 bt331.1).bind fun t345 => (if t345 = true then (laws_FnExactRaise.j0 k a1 a2 bt331.2 bt340.2 (bt340.2 != bt331.2) l0_0 bt331.1 t336 bt340.1) else (laws_FnExactRaise.j0 k a1 a2 bt331.2 bt340.2 true l0_0 bt331.1 t336 bt340.1))))))))) = some r := h
 clear h
 replace H := Option.bind_eq_some_iff.mp H
 obtain ⟨t327, A40, H⟩ := H
 replace H : (if t327 < 0 then (some true) else ((laws_toPool.f k l0_0).bind fun t328 => ((spec_Raise.f k t328 a1 a2).bind fun bt331 => ((laws_toPool.f k l0_0).bind fun t336 => ((impl_Raise.f k t336 a1 a2).bind fun bt340 => ((laws_eqPool.f k bt340.1 bt331.1).bind fun t345 => (if t345 = true then (laws_FnExactRaise.j0 k a1 a2 bt331.2 bt340.2 (bt340.2 != bt331.2) l0_0 bt331.1 t336 bt340.1) else (laws_FnExactRaise.j0 k a1 a2 bt331.2 bt340.2 true l0_0 bt331.1 t336 bt340.1)))))))) = some r := H
 have A4 := Aside0.mk A40
 clear A40
 by_cases c5 : t327 < 0
 ·rw [if_pos c5] at H
  have c5b0 : decide (t327 < 0) = true := decide_eq_true c5
  clear c5
  obtain rfl := Option.some.inj H
  go_enter Try.func12, Try.ntmps12
  go_wp2_with (first | ((with_reducible refine gate_dst (N := 3) rfl ?_); refine box_event ?hg (N := 3) ?hd (cs := #[.slice A0_0 l0_0.length c0_0]) (t := 24) ?hr ?_; (case hd => rfl); (case hg => rfl); (case hr => first | (go_simp; done) | (go_simp; rfl)); intro gb326 hg w6 hbox hb; have n0_ := Aside0.mk (below_step (zb HB.out) hb); have n1_ := Aside0.mk (hbox); have n2_ := Aside0.mk ((by rw [hg]; exact (below_size (zb HB.out)) : w.heap.size ≤ gb326)); have n3_ := Aside0.mk ((by rw [hg]; exact (below_size (zb HB.out)) : w.heap.size ≤ gb326)); clear HB; have HB := n0_; have BK326 := n1_; have GW326 := n2_; have GE326 := n3_; clear n0_ n1_ n2_ n3_; clear hb hbox hg; have hcz7_0 : w6.cell? ⟨gb326, 0, none⟩ = some (.slice A0_0 l0_0.length c0_0) := (blk_cell BK326.out 0).trans rfl; have hfz7_0 := blk_frozen BK326.out 0) | ((with_reducible refine gate_callee (f := 15) rfl ?_); refine goesL_ (some 20) rfl rfl Try.func15 (by kernel_rfl) rfl #[.agg #[.slice A0_0 l0_0.length c0_0], .int .i64 1048576] rfl zl ?_; (with_reducible refine (laws_szPool.calls _ _ l0_0 1048576 t327 _ ?side1 ?side2 A4.out).mono ?_); (case side1 => exact zc (Kd.C_below HR0_0.out HB.out)); (case side2 => exact HC0_0.out); rintro e w8 ⟨rfl, hb⟩; refine ⟨_, rfl, ?_⟩; have n0_ := Aside0.mk (blk_below (zh BK326.out) hb); have n1_ := Aside0.mk (below_step (zb HB.out) hb); clear BK326; clear HB; have BK326 := n0_; have HB := n1_; clear n0_ n1_; (try clear hb); (try clear hb2); (try clear hk); (try clear hi)))
  go_ret
  exact ⟨ze, zb HB.out⟩
 ·rw [if_neg c5] at H
  have c5b0 : decide (t327 < 0) = false := decide_eq_false c5
  clear c5
  replace H := Option.bind_eq_some_iff.mp H
  obtain ⟨t328, A90, H⟩ := H
  replace H : ((spec_Raise.f k t328 a1 a2).bind fun bt331 => ((laws_toPool.f k l0_0).bind fun t336 => ((impl_Raise.f k t336 a1 a2).bind fun bt340 => ((laws_eqPool.f k bt340.1 bt331.1).bind fun t345 => (if t345 = true then (laws_FnExactRaise.j0 k a1 a2 bt331.2 bt340.2 (bt340.2 != bt331.2) l0_0 bt331.1 t336 bt340.1) else (laws_FnExactRaise.j0 k a1 a2 bt331.2 bt340.2 true l0_0 bt331.1 t336 bt340.1)))))) = some r := H
  have A9 := Aside0.mk A90
  clear A90
  replace H := Option.bind_eq_some_iff.mp H
  obtain ⟨⟨t331, t334⟩, A100, H⟩ := H
  replace H : ((laws_toPool.f k l0_0).bind fun t336 => ((impl_Raise.f k t336 a1 a2).bind fun bt340 => ((laws_eqPool.f k bt340.1 t331).bind fun t345 => (if t345 = true then (laws_FnExactRaise.j0 k a1 a2 t334 bt340.2 (bt340.2 != t334) l0_0 t331 t336 bt340.1) else (laws_FnExactRaise.j0 k a1 a2 t334 bt340.2 true l0_0 t331 t336 bt340.1))))) = some r := H
  have A10 := Aside0.mk A100
  clear A100
  replace H := Option.bind_eq_some_iff.mp H
  obtain ⟨t336, A110, H⟩ := H
  replace H : ((impl_Raise.f k t336 a1 a2).bind fun bt340 => ((laws_eqPool.f k bt340.1 t331).bind fun t345 => (if t345 = true then (laws_FnExactRaise.j0 k a1 a2 t334 bt340.2 (bt340.2 != t334) l0_0 t331 t336 bt340.1) else (laws_FnExactRaise.j0 k a1 a2 t334 bt340.2 true l0_0 t331 t336 bt340.1)))) = some r := H
  have A11 := Aside0.mk A110
  clear A110
  replace H := Option.bind_eq_some_iff.mp H
  obtain ⟨⟨t340, t343⟩, A120, H⟩ := H
  replace H : ((laws_eqPool.f k t340 t331).bind fun t345 => (if t345 = true then (laws_FnExactRaise.j0 k a1 a2 t334 t343 (t343 != t334) l0_0 t331 t336 t340) else (laws_FnExactRaise.j0 k a1 a2 t334 t343 true l0_0 t331 t336 t340))) = some r := H
  have A12 := Aside0.mk A120
  clear A120
  have HC13 := Aside0.mk H
  clear H
  go_enter Try.func12, Try.ntmps12
  go_upto_region 8 with (first | ((with_reducible refine gate_dst (N := 3) rfl ?_); refine box_event ?hg (N := 3) ?hd (cs := #[.slice A0_0 l0_0.length c0_0]) (t := 24) ?hr ?_; (case hd => rfl); (case hg => rfl); (case hr => first | (go_simp; done) | (go_simp; rfl)); intro gb326 hg w14 hbox hb; have n0_ := Aside0.mk (below_step (zb HB.out) hb); have n1_ := Aside0.mk (hbox); have n2_ := Aside0.mk ((by rw [hg]; exact (below_size (zb HB.out)) : w.heap.size ≤ gb326)); have n3_ := Aside0.mk ((by rw [hg]; exact (below_size (zb HB.out)) : w.heap.size ≤ gb326)); clear HB; have HB := n0_; have BK326 := n1_; have GW326 := n2_; have GE326 := n3_; clear n0_ n1_ n2_ n3_; clear hb hbox hg; have hcz15_0 : w14.cell? ⟨gb326, 0, none⟩ = some (.slice A0_0 l0_0.length c0_0) := (blk_cell BK326.out 0).trans rfl; have hfz15_0 := blk_frozen BK326.out 0) | ((with_reducible refine gate_callee (f := 15) rfl ?_); refine goesL_ (some 20) rfl rfl Try.func15 (by kernel_rfl) rfl #[.agg #[.slice A0_0 l0_0.length c0_0], .int .i64 1048576] rfl zl ?_; (with_reducible refine (laws_szPool.calls _ _ l0_0 1048576 t327 _ ?side1 ?side2 A4.out).mono ?_); (case side1 => exact zc (Kd.C_below HR0_0.out HB.out)); (case side2 => exact HC0_0.out); rintro e w16 ⟨rfl, hb⟩; refine ⟨_, rfl, ?_⟩; have n0_ := Aside0.mk (blk_below (zh BK326.out) hb); have n1_ := Aside0.mk (below_step (zb HB.out) hb); clear BK326; clear HB; have BK326 := n0_; have HB := n1_; clear n0_ n1_; (try clear hb); (try clear hb2); (try clear hk); (try clear hi); have hcz17_0 : w16.cell? ⟨gb326, 0, none⟩ = some (.slice A0_0 l0_0.length c0_0) := (blk_cell BK326.out 0).trans rfl; have hfz17_0 := blk_frozen BK326.out 0) | ((with_reducible refine gate_callee (f := 17) rfl ?_); refine goesL_ (some 25) rfl rfl Try.func17 (by kernel_rfl) rfl #[.agg #[.slice A0_0 l0_0.length c0_0]] rfl zl ?_; (with_reducible refine (laws_toPool.calls k _ _ l0_0 t328 _ ?side1 ?side2 A9.out).mono ?_); (case side1 => exact zc (Kd.C_below HR0_0.out HB.out)); (case side2 => exact HC0_0.out); rintro e w18 ⟨v329, rfl, ho0, hb⟩; refine ⟨_, rfl, ?_⟩; have n0_ := Aside0.mk (Kd.R_lower ho0 (below_size (zb HB.out))); have n1_ := Aside0.mk (blk_below (zh BK326.out) hb); have n2_ := Aside0.mk (below_step (zb HB.out) hb); clear BK326; clear HB; have HO330 := n0_; have BK326 := n1_; have HB := n2_; clear n0_ n1_ n2_; (try clear hb); (try clear hb2); (try clear hk); (try clear hi); (try clear ho0); obtain ⟨Ao19, co19, eo19⟩ := Kd.R_slice HO330.out; subst eo19) | ((with_reducible refine gate_callee (f := 45) rfl ?_); refine goesL_ (some 28) rfl rfl Try.func45 (by kernel_rfl) rfl #[.agg #[.slice Ao19 t328.length co19], .int .i64 a1, .int .i64 a2] rfl zl ?_; (with_reducible refine (spec_Raise.calls k (fun k_ => some k_ = (.slice Ao19 t328.length co19 : Value).ownBlock) (.slice Ao19 t328.length co19) t328 a1 a2 t331 t334 w _ ?side1 ?side2 A10.out).mono ?_); (case side1 => repeat (first | (with_reducible first | exact HB.out | apply below_alloc | apply pw_below_drewN | apply below_drew1 | refine below_set ?_ GE326.out) | exact HB.out)); (case side2 => exact Kd.R_tight rfl HO330.out); rintro e w20 ⟨v332, rfl, ho0, hb, hkp⟩; refine ⟨_, rfl, ?_⟩; have n0_ := Aside0.mk (blk_kept (zh BK326.out) hkp (fun hs_ => (fun e_ => (Kd.R_ne HO330.out BK326.out (by decide)) e_) hs_)); have n1_ := Aside0.mk (Kd.R_mono (ok' := fun k_ => True) ho0 (fun k_ hk_ => trivial)); have n2_ := Aside0.mk (hb); clear BK326; clear HB; clear HO330; have BK326 := n0_; have HO333 := n1_; have HB := n2_; clear n0_ n1_ n2_; (try clear hb); (try clear hkp); (try clear ho0)) | ((with_reducible refine gate_dst (N := 8) rfl ?_); refine box_event ?hg (N := 8) ?hd (cs := #[.slice none 0 0]) (t := 30) ?hr ?_; (case hd => rfl); (case hg => rfl); (case hr => first | (go_simp; done) | (go_simp; rfl)); intro gb335 hg w21 hbox hb; have n0_ := Aside0.mk (Kd.R_below (zr HO333.out) hb); have n1_ := Aside0.mk (blk_below (zh BK326.out) hb); have n2_ := Aside0.mk (below_step (zb HB.out) hb); have n3_ := Aside0.mk (hbox); have n4_ := Aside0.mk ((by rw [hg]; exact (below_size (zb HB.out)) : w.heap.size ≤ gb335)); have n5_ := Aside0.mk ((by rw [hg]; exact (below_size (zb HB.out)) : w.heap.size ≤ gb335)); have n6_ := Aside0.mk ((by rw [hg]; exact Nat.ne_of_lt (blk_lt (zh BK326.out)) : gb326 ≠ gb335)); have n7_ := Aside0.mk ((by rw [hg]; exact Nat.ne_of_gt (blk_lt (zh BK326.out)) : gb335 ≠ gb326)); clear HO333; clear BK326; clear HB; have HO333 := n0_; have BK326 := n1_; have HB := n2_; have BK335 := n3_; have GW335 := n4_; have GE335 := n5_; have NB326_335 := n6_; have NB335_326 := n7_; clear n0_ n1_ n2_ n3_ n4_ n5_ n6_ n7_; clear hb hbox hg; obtain ⟨Ao22, co22, eo22⟩ := Kd.R_slice HO333.out; subst eo22; have hnb23 := NB335_326.out; have hnc23 := NB326_335.out; have hcz24_0 : w21.cell? ⟨gb335, 0, none⟩ = some (.slice none 0 0) := (blk_cell BK335.out 0).trans rfl; have hfz24_0 := blk_frozen BK335.out 0; have hcz25_0 : w21.cell? ⟨gb326, 0, none⟩ = some (.slice A0_0 l0_0.length c0_0) := (blk_cell BK326.out 0).trans rfl; have hfz25_0 := blk_frozen BK326.out 0) | ((with_reducible refine gate_callee (f := 17) rfl ?_); refine goesL_ (some 32) rfl rfl Try.func17 (by kernel_rfl) rfl #[.agg #[.slice A0_0 l0_0.length c0_0]] rfl zl ?_; (with_reducible refine (laws_toPool.calls k _ _ l0_0 t336 _ ?side1 ?side2 A11.out).mono ?_); (case side1 => exact Kd.C_below HR0_0.out (zb HB.out)); (case side2 => exact HC0_0.out); rintro e w26 ⟨v337, rfl, ho0, hb⟩; refine ⟨_, rfl, ?_⟩; have n0_ := Aside0.mk (Kd.R_elder' (by (with_reducible repeat (first | apply Kd.R_alloc | apply Kd.R_drewN | apply Kd.R_drew)); exact (Kd.R_mono (Kd.R_far (p := ⟨gb335, 0, none⟩) (Kd.R_types HO333.out BK335.out (by decide)) (fun _ hk => hk.2) (.slice Ao22 t331.length co22)) (fun _ h_ => h_.1))) (Kd.R_base ho0) hb); have n1_ := Aside0.mk (Kd.R_lower (Kd.R_new' ho0 (Kd.R_lt (by (with_reducible repeat (first | apply Kd.R_alloc | apply Kd.R_drewN | apply Kd.R_drew)); exact (Kd.R_mono (Kd.R_far (p := ⟨gb335, 0, none⟩) (Kd.R_types HO333.out BK335.out (by decide)) (fun _ hk => hk.2) (.slice Ao22 t331.length co22)) (fun _ h_ => h_.1))))) (below_size (zb HB.out))); have n2_ := Aside0.mk (blk_below (g := gb326) (o := .cells #[.slice A0_0 l0_0.length c0_0] 24 (0, 0)) (zf BK326.out) hb); have n3_ := Aside0.mk (blk_below (g := gb335) (o := .cells #[.slice Ao22 t331.length co22] 30 (0, 0)) (by (with_reducible repeat (first | refine blk_drewN ?_ _ | refine blk_drew ?_ | refine blk_alloc ?_ _)); refine blk_put (cs := #[.slice none 0 0]) ?_ 0 _ rfl; (with_reducible repeat (first | refine blk_drewN ?_ _ | refine blk_drew ?_ | refine blk_alloc ?_ _)); exact BK335.out) hb); have n4_ := Aside0.mk (below_step (zb HB.out) hb); clear HO333; clear BK326; clear BK335; clear HB; have HO333 := n0_; have HO338 := n1_; have BK326 := n2_; have BK335 := n3_; have HB := n4_; clear n0_ n1_ n2_ n3_ n4_; (try clear hb); (try clear hb2); (try clear hk); (try clear hi); (try clear ho0)) | ((with_reducible refine gate_dst (N := 10) rfl ?_); refine box_event ?hg (N := 10) ?hd (cs := #[.slice none 0 0]) (t := 30) ?hr ?_; (case hd => rfl); (case hg => rfl); (case hr => first | (go_simp; done) | (go_simp; rfl)); intro gb339 hg w27 hbox hb; have n0_ := Aside0.mk (Kd.R_below (zr HO333.out) hb); have n1_ := Aside0.mk (Kd.R_below (zr HO338.out) hb); have n2_ := Aside0.mk (blk_below (zh BK326.out) hb); have n3_ := Aside0.mk (blk_below (zh BK335.out) hb); have n4_ := Aside0.mk (below_step (zb HB.out) hb); have n5_ := Aside0.mk (hbox); have n6_ := Aside0.mk ((by rw [hg]; exact (below_size (zb HB.out)) : w.heap.size ≤ gb339)); have n7_ := Aside0.mk ((by rw [hg]; exact (below_size (zb HB.out)) : w.heap.size ≤ gb339)); have n8_ := Aside0.mk ((by rw [hg]; exact Nat.ne_of_lt (blk_lt (zh BK326.out)) : gb326 ≠ gb339)); have n9_ := Aside0.mk ((by rw [hg]; exact Nat.ne_of_gt (blk_lt (zh BK326.out)) : gb339 ≠ gb326)); have n10_ := Aside0.mk ((by rw [hg]; exact Nat.ne_of_lt (blk_lt (zh BK335.out)) : gb335 ≠ gb339)); have n11_ := Aside0.mk ((by rw [hg]; exact Nat.ne_of_gt (blk_lt (zh BK335.out)) : gb339 ≠ gb335)); clear HO333; clear HO338; clear BK326; clear BK335; clear HB; have HO333 := n0_; have HO338 := n1_; have BK326 := n2_; have BK335 := n3_; have HB := n4_; have BK339 := n5_; have GW339 := n6_; have GE339 := n7_; have NB326_339 := n8_; have NB339_326 := n9_; have NB335_339 := n10_; have NB339_335 := n11_; clear n0_ n1_ n2_ n3_ n4_ n5_ n6_ n7_ n8_ n9_ n10_ n11_; clear hb hbox hg; obtain ⟨Ao28, co28, eo28⟩ := Kd.R_slice HO338.out; subst eo28; have hnb29 := NB339_326.out; have hnc29 := NB326_339.out; have hnb30 := NB339_335.out; have hnc30 := NB335_339.out; have hcz31_0 : w27.cell? ⟨gb339, 0, none⟩ = some (.slice none 0 0) := (blk_cell BK339.out 0).trans rfl; have hfz31_0 := blk_frozen BK339.out 0) | ((with_reducible refine gate_callee (f := 46) rfl ?_); refine goesL_ (some 37) rfl rfl Try.func46 (by kernel_rfl) rfl #[.agg #[.slice Ao28 t336.length co28], .int .i64 a1, .int .i64 a2] rfl zl ?_; (with_reducible refine (impl_Raise.calls k _ _ t336 a1 a2 t340 t343 _ ?side1 ?side2 A12.out).mono ?_); (case side1 => refine (Kd.R_reads' (e := 34) (base := w.heap.size) (ok := fun k_ => (True ∧ some k_ ≠ (.slice Ao22 t331.length co22 : Value).ownBlock)) (n := t336.length) (c := co28) ?_).2.2; exact (by (with_reducible repeat (first | apply Kd.R_alloc | apply Kd.R_drewN | apply Kd.R_drew)); exact (Kd.R_mono (Kd.R_far (p := ⟨gb339, 0, none⟩) (Kd.R_types HO338.out BK339.out (by decide)) (fun _ hk => hk.2) (.slice Ao28 t336.length co28)) (fun _ h_ => h_.1)))); (case side2 => exact (Kd.R_reads' HO338.out).2.1); rintro e w32 ⟨v341, rfl, ho0, hb⟩; refine ⟨_, rfl, ?_⟩; have n0_ := Aside0.mk (Kd.R_elder' (by (with_reducible repeat (first | apply Kd.R_alloc | apply Kd.R_drewN | apply Kd.R_drew)); exact (Kd.R_mono (Kd.R_far (p := ⟨gb339, 0, none⟩) (Kd.R_types HO333.out BK339.out (by decide)) (fun _ hk => hk.2) (.slice Ao28 t336.length co28)) (fun _ h_ => h_.1))) (Kd.R_base ho0) hb); have n1_ := Aside0.mk (Kd.R_elder' (by (with_reducible repeat (first | apply Kd.R_alloc | apply Kd.R_drewN | apply Kd.R_drew)); exact (Kd.R_mono (Kd.R_far (p := ⟨gb339, 0, none⟩) (Kd.R_types HO338.out BK339.out (by decide)) (fun _ hk => hk.2) (.slice Ao28 t336.length co28)) (fun _ h_ => h_.1))) (Kd.R_base ho0) hb); have n2_ := Aside0.mk (Kd.R_lower (Kd.R_new' (Kd.R_new' ho0 (Kd.R_lt (by (with_reducible repeat (first | apply Kd.R_alloc | apply Kd.R_drewN | apply Kd.R_drew)); exact (Kd.R_mono (Kd.R_far (p := ⟨gb339, 0, none⟩) (Kd.R_types HO333.out BK339.out (by decide)) (fun _ hk => hk.2) (.slice Ao28 t336.length co28)) (fun _ h_ => h_.1))))) (Kd.R_lt (by (with_reducible repeat (first | apply Kd.R_alloc | apply Kd.R_drewN | apply Kd.R_drew)); exact (Kd.R_mono (Kd.R_far (p := ⟨gb339, 0, none⟩) (Kd.R_types HO338.out BK339.out (by decide)) (fun _ hk => hk.2) (.slice Ao28 t336.length co28)) (fun _ h_ => h_.1))))) (below_size (zb HB.out))); have n3_ := Aside0.mk (blk_below (g := gb326) (o := .cells #[.slice A0_0 l0_0.length c0_0] 24 (0, 0)) (zf BK326.out) hb); have n4_ := Aside0.mk (blk_below (g := gb335) (o := .cells #[.slice Ao22 t331.length co22] 30 (0, 0)) (zf BK335.out) hb); have n5_ := Aside0.mk (blk_below (g := gb339) (o := .cells #[.slice Ao28 t336.length co28] 30 (0, 0)) (by (with_reducible repeat (first | refine blk_drewN ?_ _ | refine blk_drew ?_ | refine blk_alloc ?_ _)); refine blk_put (cs := #[.slice none 0 0]) ?_ 0 _ rfl; (with_reducible repeat (first | refine blk_drewN ?_ _ | refine blk_drew ?_ | refine blk_alloc ?_ _)); exact BK339.out) hb); have n6_ := Aside0.mk (below_step (zb HB.out) hb); clear HO333; clear HO338; clear BK326; clear BK335; clear BK339; clear HB; have HO333 := n0_; have HO338 := n1_; have HO342 := n2_; have BK326 := n3_; have BK335 := n4_; have BK339 := n5_; have HB := n6_; clear n0_ n1_ n2_ n3_ n4_ n5_ n6_; (try clear hb); (try clear hb2); (try clear hk); (try clear hi); (try clear ho0)) | ((with_reducible refine gate_dst (N := 11) rfl ?_); refine box_event ?hg (N := 11) ?hd (cs := #[.slice none 0 0]) (t := 30) ?hr ?_; (case hd => rfl); (case hg => rfl); (case hr => first | (go_simp; done) | (go_simp; rfl)); intro gb344 hg w33 hbox hb; have n0_ := Aside0.mk (Kd.R_below (zr HO333.out) hb); have n1_ := Aside0.mk (Kd.R_below (zr HO338.out) hb); have n2_ := Aside0.mk (Kd.R_below (zr HO342.out) hb); have n3_ := Aside0.mk (blk_below (zh BK326.out) hb); have n4_ := Aside0.mk (blk_below (zh BK335.out) hb); have n5_ := Aside0.mk (blk_below (zh BK339.out) hb); have n6_ := Aside0.mk (below_step (zb HB.out) hb); have n7_ := Aside0.mk (hbox); have n8_ := Aside0.mk ((by rw [hg]; exact (below_size (zb HB.out)) : w.heap.size ≤ gb344)); have n9_ := Aside0.mk ((by rw [hg]; exact (below_size (zb HB.out)) : w.heap.size ≤ gb344)); have n10_ := Aside0.mk ((by rw [hg]; exact Nat.ne_of_lt (blk_lt (zh BK326.out)) : gb326 ≠ gb344)); have n11_ := Aside0.mk ((by rw [hg]; exact Nat.ne_of_gt (blk_lt (zh BK326.out)) : gb344 ≠ gb326)); have n12_ := Aside0.mk ((by rw [hg]; exact Nat.ne_of_lt (blk_lt (zh BK335.out)) : gb335 ≠ gb344)); have n13_ := Aside0.mk ((by rw [hg]; exact Nat.ne_of_gt (blk_lt (zh BK335.out)) : gb344 ≠ gb335)); have n14_ := Aside0.mk ((by rw [hg]; exact Nat.ne_of_lt (blk_lt (zh BK339.out)) : gb339 ≠ gb344)); have n15_ := Aside0.mk ((by rw [hg]; exact Nat.ne_of_gt (blk_lt (zh BK339.out)) : gb344 ≠ gb339)); clear HO333; clear HO338; clear HO342; clear BK326; clear BK335; clear BK339; clear HB; have HO333 := n0_; have HO338 := n1_; have HO342 := n2_; have BK326 := n3_; have BK335 := n4_; have BK339 := n5_; have HB := n6_; have BK344 := n7_; have GW344 := n8_; have GE344 := n9_; have NB326_344 := n10_; have NB344_326 := n11_; have NB335_344 := n12_; have NB344_335 := n13_; have NB339_344 := n14_; have NB344_339 := n15_; clear n0_ n1_ n2_ n3_ n4_ n5_ n6_ n7_ n8_ n9_ n10_ n11_ n12_ n13_ n14_ n15_; clear hb hbox hg; obtain ⟨Ao34, co34, eo34⟩ := Kd.R_slice HO342.out; subst eo34; have hnb35 := NB344_326.out; have hnc35 := NB326_344.out; have hnb36 := NB344_335.out; have hnc36 := NB335_344.out; have hnb37 := NB344_339.out; have hnc37 := NB339_344.out; have hcz38_0 : w33.cell? ⟨gb344, 0, none⟩ = some (.slice none 0 0) := (blk_cell BK344.out 0).trans rfl; have hfz38_0 := blk_frozen BK344.out 0))
  (try simp only [Act.put, List.setIfInBounds_toArray, List.set_cons_zero, List.set_cons_succ])
  go_cut [48] (fun v48 wc => ∃ (kq : Nat) (x48_12 : Bool), v48 = .bool x48_12 ∧ Aside0 (laws_FnExactRaise.j0 kq a1 a2 t334 t343 x48_12 l0_0 t331 t336 t340 = some r) ∧ Aside0 (kq ≤ k) ∧ Aside0 (Kd.R k34 34 wc w.heap.size (fun k_ => some k_ ≠ ((.slice Ao28 t336.length co28) : Value).ownBlock ∧ some k_ ≠ ((.slice Ao34 t340.length co34) : Value).ownBlock) (.slice Ao22 t331.length co22) t331) ∧ Aside0 (Kd.R k34 34 wc w.heap.size (fun k_ => some k_ ≠ ((.slice Ao22 t331.length co22) : Value).ownBlock ∧ some k_ ≠ ((.slice Ao34 t340.length co34) : Value).ownBlock) (.slice Ao28 t336.length co28) t336) ∧ Aside0 (Kd.R k34 34 wc w.heap.size (fun k_ => some k_ ≠ ((.slice Ao22 t331.length co22) : Value).ownBlock ∧ some k_ ≠ ((.slice Ao28 t336.length co28) : Value).ownBlock) (.slice Ao34 t340.length co34) t340) ∧ Aside0 (wc.heap[gb326]? = some (.cells #[(.slice A0_0 l0_0.length c0_0)] 24 (0, 0))) ∧ Aside0 (wc.heap[gb335]? = some (.cells #[(.slice Ao22 t331.length co22)] 30 (0, 0))) ∧ Aside0 (wc.heap[gb339]? = some (.cells #[(.slice Ao28 t336.length co28)] 30 (0, 0))) ∧ Aside0 (wc.heap[gb344]? = some (.cells #[(.slice Ao34 t340.length co34)] 30 (0, 0))) ∧ Aside0 (Below w.heap.size w wc))
  case first =>
   have H := HC13.out
   clear HC13
   replace H := Option.bind_eq_some_iff.mp H
   obtain ⟨t345, A390, H⟩ := H
   replace H : (if t345 = true then (laws_FnExactRaise.j0 k a1 a2 t334 t343 (t343 != t334) l0_0 t331 t336 t340) else (laws_FnExactRaise.j0 k a1 a2 t334 t343 true l0_0 t331 t336 t340)) = some r := H
   have A39 := Aside0.mk A390
   clear A390
   by_cases c40 : t345 = true
   ·subst c40
    have H1 : (laws_FnExactRaise.j0 k a1 a2 t334 t343 (t343 != t334) l0_0 t331 t336 t340) = some r := by rw [if_pos rfl] at H; exact H
    clear H
    have H := H1
    clear H1
    have H' := Aside0.mk H
    clear H
    have hnb41 := NB344_326.out
    have hnc41 := NB326_344.out
    have hnb42 := NB344_335.out
    have hnc42 := NB335_344.out
    have hnb43 := NB344_339.out
    have hnc43 := NB339_344.out
    have hcz44_0 : w33.cell? ⟨gb344, 0, none⟩ = some (.slice none 0 0) := (blk_cell BK344.out 0).trans rfl
    have hfz44_0 := blk_frozen BK344.out 0
    have hnb45 := NB335_326.out
    have hnc45 := NB326_335.out
    have hnb46 := NB335_339.out
    have hnc46 := NB339_335.out
    have hcz47_0 : w33.cell? ⟨gb335, 0, none⟩ = some (.slice Ao22 t331.length co22) := (blk_cell BK335.out 0).trans rfl
    have hfz47_0 := blk_frozen BK335.out 0
    go_wp2_with (first | ((with_reducible refine gate_callee (f := 20) rfl ?_); refine goesL_ (some 42) rfl rfl Try.func20 (by kernel_rfl) rfl #[.agg #[.slice Ao34 t340.length co34], .agg #[.slice Ao22 t331.length co22]] rfl zl ?_; (with_reducible refine (laws_eqPool.calls k _ _ t340 _ _ t331 true _ ?side1 ?side2 ?side3 ?side4 A39.out).mono ?_); (case side1 => refine (Kd.R_reads' (e := 34) (base := w.heap.size) (ok := fun k_ => ((True ∧ some k_ ≠ (.slice Ao22 t331.length co22 : Value).ownBlock) ∧ some k_ ≠ (.slice Ao28 t336.length co28 : Value).ownBlock)) (n := t340.length) (c := co34) ?_).2.2; exact (by (with_reducible repeat (first | apply Kd.R_alloc | apply Kd.R_drewN | apply Kd.R_drew)); exact (Kd.R_mono (Kd.R_far (p := ⟨gb344, 0, none⟩) (Kd.R_types HO342.out BK344.out (by decide)) (fun _ hk => hk.2) (.slice Ao34 t340.length co34)) (fun _ h_ => h_.1)))); (case side2 => exact (Kd.R_reads' HO342.out).2.1); (case side3 => refine (Kd.R_reads' (e := 34) (base := w.heap.size) (ok := fun k_ => ((True ∧ some k_ ≠ (.slice Ao28 t336.length co28 : Value).ownBlock) ∧ some k_ ≠ (.slice Ao34 t340.length co34 : Value).ownBlock)) (n := t331.length) (c := co22) ?_).2.2; exact (by (with_reducible repeat (first | apply Kd.R_alloc | apply Kd.R_drewN | apply Kd.R_drew)); exact (Kd.R_mono (Kd.R_far (p := ⟨gb344, 0, none⟩) (Kd.R_types HO333.out BK344.out (by decide)) (fun _ hk => hk.2) (.slice Ao34 t340.length co34)) (fun _ h_ => h_.1)))); (case side4 => exact (Kd.R_reads' HO333.out).2.1); rintro e w48 ⟨rfl, hb⟩; refine ⟨_, rfl, ?_⟩; have n0_ := Aside0.mk (Kd.R_below (by (with_reducible repeat (first | apply Kd.R_alloc | apply Kd.R_drewN | apply Kd.R_drew)); exact (Kd.R_mono (Kd.R_far (p := ⟨gb344, 0, none⟩) (Kd.R_types HO333.out BK344.out (by decide)) (fun _ hk => hk.2) (.slice Ao34 t340.length co34)) (fun _ h_ => h_.1))) hb); have n1_ := Aside0.mk (Kd.R_below (by (with_reducible repeat (first | apply Kd.R_alloc | apply Kd.R_drewN | apply Kd.R_drew)); exact (Kd.R_mono (Kd.R_far (p := ⟨gb344, 0, none⟩) (Kd.R_types HO338.out BK344.out (by decide)) (fun _ hk => hk.2) (.slice Ao34 t340.length co34)) (fun _ h_ => h_.1))) hb); have n2_ := Aside0.mk (Kd.R_below (by (with_reducible repeat (first | apply Kd.R_alloc | apply Kd.R_drewN | apply Kd.R_drew)); exact (Kd.R_mono (Kd.R_far (p := ⟨gb344, 0, none⟩) (Kd.R_types HO342.out BK344.out (by decide)) (fun _ hk => hk.2) (.slice Ao34 t340.length co34)) (fun _ h_ => h_.1))) hb); have n3_ := Aside0.mk (blk_below (g := gb326) (o := .cells #[.slice A0_0 l0_0.length c0_0] 24 (0, 0)) (zf BK326.out) hb); have n4_ := Aside0.mk (blk_below (g := gb335) (o := .cells #[.slice Ao22 t331.length co22] 30 (0, 0)) (zf BK335.out) hb); have n5_ := Aside0.mk (blk_below (g := gb339) (o := .cells #[.slice Ao28 t336.length co28] 30 (0, 0)) (zf BK339.out) hb); have n6_ := Aside0.mk (blk_below (g := gb344) (o := .cells #[.slice Ao34 t340.length co34] 30 (0, 0)) (by (with_reducible repeat (first | refine blk_drewN ?_ _ | refine blk_drew ?_ | refine blk_alloc ?_ _)); refine blk_put (cs := #[.slice none 0 0]) ?_ 0 _ rfl; (with_reducible repeat (first | refine blk_drewN ?_ _ | refine blk_drew ?_ | refine blk_alloc ?_ _)); exact BK344.out) hb); have n7_ := Aside0.mk (below_step (zb HB.out) hb); clear HO333; clear HO338; clear HO342; clear BK326; clear BK335; clear BK339; clear BK344; clear HB; have HO333 := n0_; have HO338 := n1_; have HO342 := n2_; have BK326 := n3_; have BK335 := n4_; have BK339 := n5_; have BK344 := n6_; have HB := n7_; clear n0_ n1_ n2_ n3_ n4_ n5_ n6_ n7_; (try clear hb); (try clear hb2); (try clear hk); (try clear hi)))
    go_meet
    case rel => exact ⟨_, ((t343 != t334)), (by first | rfl | (simp; done) | (simp [*]; done)), H', ⟨by first | omega | exact Nat.le_refl _⟩, ⟨zr (Kd.R_mono HO333.out (fun _ hk => ⟨hk.1.2, hk.2⟩))⟩, ⟨zr (Kd.R_mono HO338.out (fun _ hk => ⟨hk.1.2, hk.2⟩))⟩, ⟨zr (Kd.R_mono HO342.out (fun _ hk => ⟨hk.1.2, hk.2⟩))⟩, ⟨zh BK326.out⟩, ⟨zh BK335.out⟩, ⟨zh BK339.out⟩, ⟨zh BK344.out⟩, ⟨zb HB.out⟩⟩
   ·replace c40 := Bool.eq_false_iff.mpr c40
    subst c40
    have H1 : (laws_FnExactRaise.j0 k a1 a2 t334 t343 true l0_0 t331 t336 t340) = some r := by rw [if_neg (show ¬ (false = true) by decide)] at H; exact H
    clear H
    have H := H1
    clear H1
    have H' := Aside0.mk H
    clear H
    have hnb49 := NB344_326.out
    have hnc49 := NB326_344.out
    have hnb50 := NB344_335.out
    have hnc50 := NB335_344.out
    have hnb51 := NB344_339.out
    have hnc51 := NB339_344.out
    have hcz52_0 : w33.cell? ⟨gb344, 0, none⟩ = some (.slice none 0 0) := (blk_cell BK344.out 0).trans rfl
    have hfz52_0 := blk_frozen BK344.out 0
    have hnb53 := NB335_326.out
    have hnc53 := NB326_335.out
    have hnb54 := NB335_339.out
    have hnc54 := NB339_335.out
    have hcz55_0 : w33.cell? ⟨gb335, 0, none⟩ = some (.slice Ao22 t331.length co22) := (blk_cell BK335.out 0).trans rfl
    have hfz55_0 := blk_frozen BK335.out 0
    go_wp2_with (first | ((with_reducible refine gate_callee (f := 20) rfl ?_); refine goesL_ (some 42) rfl rfl Try.func20 (by kernel_rfl) rfl #[.agg #[.slice Ao34 t340.length co34], .agg #[.slice Ao22 t331.length co22]] rfl zl ?_; (with_reducible refine (laws_eqPool.calls k _ _ t340 _ _ t331 false _ ?side1 ?side2 ?side3 ?side4 A39.out).mono ?_); (case side1 => refine (Kd.R_reads' (e := 34) (base := w.heap.size) (ok := fun k_ => ((True ∧ some k_ ≠ (.slice Ao22 t331.length co22 : Value).ownBlock) ∧ some k_ ≠ (.slice Ao28 t336.length co28 : Value).ownBlock)) (n := t340.length) (c := co34) ?_).2.2; exact (by (with_reducible repeat (first | apply Kd.R_alloc | apply Kd.R_drewN | apply Kd.R_drew)); exact (Kd.R_mono (Kd.R_far (p := ⟨gb344, 0, none⟩) (Kd.R_types HO342.out BK344.out (by decide)) (fun _ hk => hk.2) (.slice Ao34 t340.length co34)) (fun _ h_ => h_.1)))); (case side2 => exact (Kd.R_reads' HO342.out).2.1); (case side3 => refine (Kd.R_reads' (e := 34) (base := w.heap.size) (ok := fun k_ => ((True ∧ some k_ ≠ (.slice Ao28 t336.length co28 : Value).ownBlock) ∧ some k_ ≠ (.slice Ao34 t340.length co34 : Value).ownBlock)) (n := t331.length) (c := co22) ?_).2.2; exact (by (with_reducible repeat (first | apply Kd.R_alloc | apply Kd.R_drewN | apply Kd.R_drew)); exact (Kd.R_mono (Kd.R_far (p := ⟨gb344, 0, none⟩) (Kd.R_types HO333.out BK344.out (by decide)) (fun _ hk => hk.2) (.slice Ao34 t340.length co34)) (fun _ h_ => h_.1)))); (case side4 => exact (Kd.R_reads' HO333.out).2.1); rintro e w56 ⟨rfl, hb⟩; refine ⟨_, rfl, ?_⟩; have n0_ := Aside0.mk (Kd.R_below (by (with_reducible repeat (first | apply Kd.R_alloc | apply Kd.R_drewN | apply Kd.R_drew)); exact (Kd.R_mono (Kd.R_far (p := ⟨gb344, 0, none⟩) (Kd.R_types HO333.out BK344.out (by decide)) (fun _ hk => hk.2) (.slice Ao34 t340.length co34)) (fun _ h_ => h_.1))) hb); have n1_ := Aside0.mk (Kd.R_below (by (with_reducible repeat (first | apply Kd.R_alloc | apply Kd.R_drewN | apply Kd.R_drew)); exact (Kd.R_mono (Kd.R_far (p := ⟨gb344, 0, none⟩) (Kd.R_types HO338.out BK344.out (by decide)) (fun _ hk => hk.2) (.slice Ao34 t340.length co34)) (fun _ h_ => h_.1))) hb); have n2_ := Aside0.mk (Kd.R_below (by (with_reducible repeat (first | apply Kd.R_alloc | apply Kd.R_drewN | apply Kd.R_drew)); exact (Kd.R_mono (Kd.R_far (p := ⟨gb344, 0, none⟩) (Kd.R_types HO342.out BK344.out (by decide)) (fun _ hk => hk.2) (.slice Ao34 t340.length co34)) (fun _ h_ => h_.1))) hb); have n3_ := Aside0.mk (blk_below (g := gb326) (o := .cells #[.slice A0_0 l0_0.length c0_0] 24 (0, 0)) (zf BK326.out) hb); have n4_ := Aside0.mk (blk_below (g := gb335) (o := .cells #[.slice Ao22 t331.length co22] 30 (0, 0)) (zf BK335.out) hb); have n5_ := Aside0.mk (blk_below (g := gb339) (o := .cells #[.slice Ao28 t336.length co28] 30 (0, 0)) (zf BK339.out) hb); have n6_ := Aside0.mk (blk_below (g := gb344) (o := .cells #[.slice Ao34 t340.length co34] 30 (0, 0)) (by (with_reducible repeat (first | refine blk_drewN ?_ _ | refine blk_drew ?_ | refine blk_alloc ?_ _)); refine blk_put (cs := #[.slice none 0 0]) ?_ 0 _ rfl; (with_reducible repeat (first | refine blk_drewN ?_ _ | refine blk_drew ?_ | refine blk_alloc ?_ _)); exact BK344.out) hb); have n7_ := Aside0.mk (below_step (zb HB.out) hb); clear HO333; clear HO338; clear HO342; clear BK326; clear BK335; clear BK339; clear BK344; clear HB; have HO333 := n0_; have HO338 := n1_; have HO342 := n2_; have BK326 := n3_; have BK335 := n4_; have BK339 := n5_; have BK344 := n6_; have HB := n7_; clear n0_ n1_ n2_ n3_ n4_ n5_ n6_ n7_; (try clear hb); (try clear hb2); (try clear hk); (try clear hi)))
    go_meet
    case rel => exact ⟨_, (true), (by first | rfl | (simp; done) | (simp [*]; done)), H', ⟨by first | omega | exact Nat.le_refl _⟩, ⟨zr (Kd.R_mono HO333.out (fun _ hk => ⟨hk.1.2, hk.2⟩))⟩, ⟨zr (Kd.R_mono HO338.out (fun _ hk => ⟨hk.1.2, hk.2⟩))⟩, ⟨zr (Kd.R_mono HO342.out (fun _ hk => ⟨hk.1.2, hk.2⟩))⟩, ⟨zh BK326.out⟩, ⟨zh BK335.out⟩, ⟨zh BK339.out⟩, ⟨zh BK344.out⟩, ⟨zb HB.out⟩⟩
  case rest =>
   clear HC13
   try clear c1
   try clear c2
   try clear p2
   try clear c3
   try clear c4
   try clear c5
   try clear c5b0
   try clear c12
   try clear c15
   try clear c17
   try clear c20
   try clear c23
   try clear c29
   try clear c30
   try clear c35
   try clear c36
   try clear c37
   try clear c40
   try clear c41
   try clear c42
   try clear c43
   try clear c45
   try clear c46
   try clear c49
   try clear c50
   try clear c51
   try clear c53
   try clear c54
   try clear hcz15_0
   try clear hcz17_0
   try clear hcz24_0
   try clear hcz25_0
   try clear hcz31_0
   try clear hcz38_0
   try clear hcz44_0
   try clear hcz47_0
   try clear hcz52_0
   try clear hcz55_0
   try clear hcz7_0
   try clear hfz15_0
   try clear hfz17_0
   try clear hfz24_0
   try clear hfz25_0
   try clear hfz31_0
   try clear hfz38_0
   try clear hfz44_0
   try clear hfz47_0
   try clear hfz52_0
   try clear hfz55_0
   try clear hfz7_0
   obtain ⟨kq, x48_12, rfl, HA, HJ12, HO_336000, HO_340000, HO_345000, BK326, BK335, BK339, BK344, HB⟩ := hcut
   cases kq with
   | zero => exact absurd HA.out (by simp [laws_FnExactRaise.j0])
   | succ kj12 =>
    have H := HA.out
    clear HA
    simp only [laws_FnExactRaise.j0] at H
    by_cases c57 : x48_12 = true
    ·subst c57
     have H1 : (some false) = some r := by rw [if_pos rfl] at H; exact H
     clear H
     have H := H1
     clear H1
     obtain rfl := Option.some.inj H
     go_wp2
     go_ret
     exact ⟨ze, zb HB.out⟩
    ·replace c57 := Bool.eq_false_iff.mpr c57
     subst c57
     have H1 : ((laws_toPool.f kj12 l0_0).bind fun t346 => ((laws_eqPool.f kj12 t336 t346).bind fun t349 => (if t349 = true then ((laws_markPool.f kj12 t336 1).bind fun bt350 => (if bt350.1 < 0 then (laws_FnExactRaise.j1 kj12 a1 a2 t334 true l0_0 t331 t340) else ((laws_eqPool.f kj12 t340 t331).bind fun t352 => (if t352 = true then (laws_FnExactRaise.j1 kj12 a1 a2 t334 (t343 != t334) l0_0 t331 t340) else (laws_FnExactRaise.j1 kj12 a1 a2 t334 true l0_0 t331 t340))))) else (some false)))) = some r := by rw [if_neg (show ¬ (false = true) by decide)] at H; exact H
     clear H
     have H := H1
     clear H1
     replace H := Option.bind_eq_some_iff.mp H
     obtain ⟨t346, A580, H⟩ := H
     replace H : ((laws_eqPool.f kj12 t336 t346).bind fun t349 => (if t349 = true then ((laws_markPool.f kj12 t336 1).bind fun bt350 => (if bt350.1 < 0 then (laws_FnExactRaise.j1 kj12 a1 a2 t334 true l0_0 t331 t340) else ((laws_eqPool.f kj12 t340 t331).bind fun t352 => (if t352 = true then (laws_FnExactRaise.j1 kj12 a1 a2 t334 (t343 != t334) l0_0 t331 t340) else (laws_FnExactRaise.j1 kj12 a1 a2 t334 true l0_0 t331 t340))))) else (some false))) = some r := H
     have A58 := Aside0.mk A580
     clear A580
     replace H := Option.bind_eq_some_iff.mp H
     obtain ⟨t349, A590, H⟩ := H
     replace H : (if t349 = true then ((laws_markPool.f kj12 t336 1).bind fun bt350 => (if bt350.1 < 0 then (laws_FnExactRaise.j1 kj12 a1 a2 t334 true l0_0 t331 t340) else ((laws_eqPool.f kj12 t340 t331).bind fun t352 => (if t352 = true then (laws_FnExactRaise.j1 kj12 a1 a2 t334 (t343 != t334) l0_0 t331 t340) else (laws_FnExactRaise.j1 kj12 a1 a2 t334 true l0_0 t331 t340))))) else (some false)) = some r := H
     have A59 := Aside0.mk A590
     clear A590
     by_cases c60 : t349 = true
     ·subst c60
      have H1 : ((laws_markPool.f kj12 t336 1).bind fun bt350 => (if bt350.1 < 0 then (laws_FnExactRaise.j1 kj12 a1 a2 t334 true l0_0 t331 t340) else ((laws_eqPool.f kj12 t340 t331).bind fun t352 => (if t352 = true then (laws_FnExactRaise.j1 kj12 a1 a2 t334 (t343 != t334) l0_0 t331 t340) else (laws_FnExactRaise.j1 kj12 a1 a2 t334 true l0_0 t331 t340))))) = some r := by rw [if_pos rfl] at H; exact H
      clear H
      have H := H1
      clear H1
      replace H := Option.bind_eq_some_iff.mp H
      obtain ⟨⟨t350, t351⟩, A610, H⟩ := H
      replace H : (if t350 < 0 then (laws_FnExactRaise.j1 kj12 a1 a2 t334 true l0_0 t331 t340) else ((laws_eqPool.f kj12 t340 t331).bind fun t352 => (if t352 = true then (laws_FnExactRaise.j1 kj12 a1 a2 t334 (t343 != t334) l0_0 t331 t340) else (laws_FnExactRaise.j1 kj12 a1 a2 t334 true l0_0 t331 t340)))) = some r := H
      have A61 := Aside0.mk A610
      clear A610
      have HC62 := Aside0.mk H
      clear H
      try go_wp2
      have n0_ := Aside0.mk (Kd.R_drew HO_336000.out)
      have n1_ := Aside0.mk (Kd.R_drew HO_340000.out)
      have n2_ := Aside0.mk (Kd.R_drew HO_345000.out)
      have n3_ := Aside0.mk (blk_drew BK326.out)
      have n4_ := Aside0.mk (blk_drew BK335.out)
      have n5_ := Aside0.mk (blk_drew BK339.out)
      have n6_ := Aside0.mk (blk_drew BK344.out)
      have n7_ := Aside0.mk (below_drew1 HB.out)
      clear HO_336000
      clear HO_340000
      clear HO_345000
      clear BK326
      clear BK335
      clear BK339
      clear BK344
      clear HB
      have HO_336000 := n0_
      have HO_340000 := n1_
      have HO_345000 := n2_
      have BK326 := n3_
      have BK335 := n4_
      have BK339 := n5_
      have BK344 := n6_
      have HB := n7_
      clear n0_ n1_ n2_ n3_ n4_ n5_ n6_ n7_
      refine start_ (n := 5) (S := fun w' => w'.cell? ⟨gb339, 0, none⟩ = some (.slice Ao28 t336.length co28) ∧ w'.cell? ⟨gb326, 0, none⟩ = some (.slice A0_0 l0_0.length c0_0)) (ds := []) #[false, false, false, false, false] (by kernel_rfl) rfl rfl ⟨(blk_cell BK339.out 0).trans rfl, (blk_cell BK326.out 0).trans rfl⟩ (fun hHeld => ?_)
      generalize wc.drew = w63 at HO_336000 HO_340000 HO_345000 BK326 BK335 BK339 BK344 HB hHeld ⊢
      refine take_ (i := 0) (N := some 49) (v := ?_) (a' := ?_) #[true, false, false, false, false] rfl rfl (by kernel_rfl) (fun _ _ _ h => h) (Or.inl ⟨by rfl, ?_⟩) hHeld ?_ ?_
      rotate_left
      ·rintro w' ⟨s0, s1⟩
       go_simp
       with_reducible rfl
      rotate_left
      ·simp only [Act.put, List.setIfInBounds_toArray, List.set_cons_zero, List.set_cons_succ, i64_w, i32_w]
       rfl
      refine take_ (i := 1) (N := some 50) (v := ?_) (a' := ?_) #[true, true, false, false, false] rfl rfl (by kernel_rfl) (fun _ _ _ h => h) (Or.inl ⟨by rfl, ?_⟩) hHeld ?_ ?_
      rotate_left
      ·rintro w' ⟨s0, s1⟩
       go_simp
       with_reducible rfl
      rotate_left
      ·simp only [Act.put, List.setIfInBounds_toArray, List.set_cons_zero, List.set_cons_succ, i64_w, i32_w]
       rfl
      refine one_ (i := 2) (N := some 51) #[true, true, true, false, false] rfl rfl (by kernel_rfl) (by decide) (fun K hK => ?_)
      refine goes_ Try.func17 (by kernel_rfl) rfl #[.agg #[.slice A0_0 l0_0.length c0_0]] (by rfl) rfl rfl zl ?_
      with_reducible refine (laws_toPool.calls kj12 _ _ l0_0 t346 _ ?side1 ?side2 A58.out).mono ?_
      (case side1 => exact zc (Kd.C_below HR0_0.out HB.out))
      (case side2 => exact HC0_0.out)
      rintro e w64 ⟨v347, rfl, ho0, hb⟩
      refine ⟨_, rfl, ?_⟩
      have n0_ := Aside0.mk (Kd.R_elder' (zr HO_336000.out) (Kd.R_base ho0) hb)
      have n1_ := Aside0.mk (Kd.R_elder' (zr HO_340000.out) (Kd.R_base ho0) hb)
      have n2_ := Aside0.mk (Kd.R_elder' (zr HO_345000.out) (Kd.R_base ho0) hb)
      have n3_ := Aside0.mk (Kd.R_lower (Kd.R_new' (Kd.R_new' (Kd.R_new' ho0 (Kd.R_lt (zr HO_336000.out))) (Kd.R_lt (zr HO_340000.out))) (Kd.R_lt (zr HO_345000.out))) (below_size (zb HB.out)))
      have n4_ := Aside0.mk (blk_below (zh BK326.out) hb)
      have n5_ := Aside0.mk (blk_below (zh BK335.out) hb)
      have n6_ := Aside0.mk (blk_below (zh BK339.out) hb)
      have n7_ := Aside0.mk (blk_below (zh BK344.out) hb)
      have n8_ := Aside0.mk (below_step (zb HB.out) hb)
      clear HO_336000
      clear HO_340000
      clear HO_345000
      clear BK326
      clear BK335
      clear BK339
      clear BK344
      clear HB
      have HO_336000 := n0_
      have HO_340000 := n1_
      have HO_345000 := n2_
      have HO348 := n3_
      have BK326 := n4_
      have BK335 := n5_
      have BK339 := n6_
      have BK344 := n7_
      have HB := n8_
      clear n0_ n1_ n2_ n3_ n4_ n5_ n6_ n7_ n8_
      (try clear hb)
      (try clear hb2)
      (try clear hk)
      (try clear hi)
      (try clear ho0)
      obtain ⟨Ao65, co65, eo65⟩ := Kd.R_slice HO348.out
      (first | subst eo65 | (injection eo65 with f1_ f2_ f3_; have f4_ := f1_.symm; have f5_ := f3_.symm; clear f1_ f2_ f3_; subst f4_; subst f5_))
      refine hK.out _ _ ⟨(blk_cell BK339.out 0).trans rfl, (blk_cell BK326.out 0).trans rfl⟩ (fun hHeld => ?_)
      clear hK K
      refine norm_ (a' := ?_) ?_ ?_
      rotate_left
      ·show Act.put _ (some 51) _ = _
       simp only [Act.put, List.setIfInBounds_toArray, List.set_cons_zero, List.set_cons_succ, i64_w, i32_w]
       rfl
      refine one_ (i := 3) (N := some 52) #[true, true, true, true, false] rfl rfl (by kernel_rfl) (by decide) (fun K hK => ?_)
      refine goes_ Try.func20 (by kernel_rfl) rfl #[.agg #[.slice Ao28 t336.length co28], .agg #[.slice Ao65 t346.length co65]] (by rfl) rfl rfl zl ?_
      with_reducible refine (laws_eqPool.calls kj12 _ _ t336 _ _ t346 true _ ?side1 ?side2 ?side3 ?side4 A59.out).mono ?_
      (case side1 => exact zc (Kd.R_reads' HO_340000.out).2.2)
      (case side2 => exact (Kd.R_reads' HO_340000.out).2.1)
      (case side3 => exact zc (Kd.R_reads' HO348.out).2.2)
      (case side4 => exact (Kd.R_reads' HO348.out).2.1)
      rintro e w66 ⟨rfl, hb⟩
      refine ⟨_, rfl, ?_⟩
      have n0_ := Aside0.mk (Kd.R_below (zr HO_336000.out) hb)
      have n1_ := Aside0.mk (Kd.R_below (zr HO_340000.out) hb)
      have n2_ := Aside0.mk (Kd.R_below (zr HO_345000.out) hb)
      have n3_ := Aside0.mk (Kd.R_below (zr HO348.out) hb)
      have n4_ := Aside0.mk (blk_below (zh BK326.out) hb)
      have n5_ := Aside0.mk (blk_below (zh BK335.out) hb)
      have n6_ := Aside0.mk (blk_below (zh BK339.out) hb)
      have n7_ := Aside0.mk (blk_below (zh BK344.out) hb)
      have n8_ := Aside0.mk (below_step (zb HB.out) hb)
      clear HO_336000
      clear HO_340000
      clear HO_345000
      clear HO348
      clear BK326
      clear BK335
      clear BK339
      clear BK344
      clear HB
      have HO_336000 := n0_
      have HO_340000 := n1_
      have HO_345000 := n2_
      have HO348 := n3_
      have BK326 := n4_
      have BK335 := n5_
      have BK339 := n6_
      have BK344 := n7_
      have HB := n8_
      clear n0_ n1_ n2_ n3_ n4_ n5_ n6_ n7_ n8_
      (try clear hb)
      (try clear hb2)
      (try clear hk)
      (try clear hi)
      refine hK.out _ _ ⟨(blk_cell BK339.out 0).trans rfl, (blk_cell BK326.out 0).trans rfl⟩ (fun hHeld => ?_)
      clear hK K
      refine norm_ (a' := ?_) ?_ ?_
      rotate_left
      ·show Act.put _ (some 52) _ = _
       simp only [Act.put, List.setIfInBounds_toArray, List.set_cons_zero, List.set_cons_succ, i64_w, i32_w]
       rfl
      refine pure_ (i := 4) (N := some 53) (v := ?_) (a' := ?_) #[true, true, true, true, true] rfl rfl (by kernel_rfl) (fun _ _ _ h => h) (Or.inl ⟨by rfl, ?_⟩) ?_ ?_
      rotate_left
      ·intro w'
       go_simp
       with_reducible rfl
      rotate_left
      ·simp only [Act.put, List.setIfInBounds_toArray, List.set_cons_zero, List.set_cons_succ, i64_w, i32_w]
       rfl
      refine done_ (by kernel_rfl) ?_
      have hnb67 := NB339_326.out
      have hnc67 := NB326_339.out
      have hnb68 := NB339_335.out
      have hnc68 := NB335_339.out
      have hnb69 := NB339_344.out
      have hnc69 := NB344_339.out
      have hcz70_0 : w66.cell? ⟨gb339, 0, none⟩ = some (.slice Ao28 t336.length co28) := (blk_cell BK339.out 0).trans rfl
      have hfz70_0 := blk_frozen BK339.out 0
      go_upto_region 14 with (first | ((with_reducible refine gate_callee (f := 21) rfl ?_); refine goesL_ (some 56) rfl rfl Try.func21 (by kernel_rfl) rfl #[.agg #[.slice Ao28 t336.length co28], .int .i64 1] rfl zl ?_; (with_reducible refine (laws_markPool.calls kj12 (fun k_ => some k_ = (.slice Ao28 t336.length co28 : Value).ownBlock) (.slice Ao28 t336.length co28) t336 1 t350 t351 w _ ?side1 ?side2 A61.out).mono ?_); (case side1 => repeat (first | (with_reducible first | exact HB.out | apply below_alloc | apply pw_below_drewN | apply below_drew1 | refine below_set ?_ GE326.out | refine below_set ?_ GE335.out | refine below_set ?_ GE339.out | refine below_set ?_ GE344.out) | exact HB.out)); (case side2 => exact Kd.R_tight rfl HO_340000.out); rintro e w71 ⟨rfl, hy0, hb, hkp⟩; refine ⟨_, rfl, ?_⟩; have n0_ := Aside0.mk (Kd.R_mono (ok' := fun k_ => some k_ ≠ (.slice Ao28 t336.length co28 : Value).ownBlock ∧ some k_ ≠ (.slice Ao34 t340.length co34 : Value).ownBlock ∧ some k_ ≠ (.slice Ao65 t346.length co65 : Value).ownBlock) (Kd.R_keptB (HO_336000.out) hkp (fun k_ hk_ hs_ => by first | exact (hk_.1.1) hs_ | (revert hk_; simp only [and_imp]; intros; exact absurd hs_ (by assumption)))) (fun k_ hk_ => by first | exact ⟨hk_.1.1.1, hk_.1.1.2, hk_.1.2⟩ | (revert hk_; simp only [and_imp]; intros; and_intros <;> assumption))); have n1_ := Aside0.mk (Kd.R_reok rfl hy0 (fun k_ e_ => HO_340000.out.1 k_ e_)); have n2_ := Aside0.mk (Kd.R_mono (ok' := fun k_ => some k_ ≠ (.slice Ao22 t331.length co22 : Value).ownBlock ∧ some k_ ≠ (.slice Ao28 t336.length co28 : Value).ownBlock ∧ some k_ ≠ (.slice Ao65 t346.length co65 : Value).ownBlock) (Kd.R_keptB (HO_345000.out) hkp (fun k_ hk_ hs_ => by first | exact (hk_.1.2) hs_ | (revert hk_; simp only [and_imp]; intros; exact absurd hs_ (by assumption)))) (fun k_ hk_ => by first | exact ⟨hk_.1.1.1, hk_.1.1.2, hk_.1.2⟩ | (revert hk_; simp only [and_imp]; intros; and_intros <;> assumption))); have n3_ := Aside0.mk (blk_kept (zh BK326.out) hkp (fun hs_ => (fun e_ => (Kd.R_ne HO_340000.out BK326.out (by decide)) e_) hs_)); have n4_ := Aside0.mk (blk_kept (zh BK335.out) hkp (fun hs_ => (fun e_ => (Kd.R_ne HO_340000.out BK335.out (by decide)) e_) hs_)); have n5_ := Aside0.mk (blk_kept (zh BK339.out) hkp (fun hs_ => (fun e_ => (Kd.R_ne HO_340000.out BK339.out (by decide)) e_) hs_)); have n6_ := Aside0.mk (blk_kept (zh BK344.out) hkp (fun hs_ => (fun e_ => (Kd.R_ne HO_340000.out BK344.out (by decide)) e_) hs_)); have n7_ := Aside0.mk (Kd.R_mono (ok' := fun k_ => some k_ ≠ (.slice Ao22 t331.length co22 : Value).ownBlock ∧ some k_ ≠ (.slice Ao28 t336.length co28 : Value).ownBlock ∧ some k_ ≠ (.slice Ao34 t340.length co34 : Value).ownBlock) (Kd.R_keptB (HO348.out) hkp (fun k_ hk_ hs_ => by first | exact (hk_.1.2) hs_ | (revert hk_; simp only [and_imp]; intros; exact absurd hs_ (by assumption)))) (fun k_ hk_ => by first | exact ⟨hk_.1.1.1.2, hk_.1.1.2, hk_.1.2⟩ | (revert hk_; simp only [and_imp]; intros; and_intros <;> assumption))); have n8_ := Aside0.mk (hb); clear HO_336000; clear HO_340000; clear HO_345000; clear BK326; clear BK335; clear BK339; clear BK344; clear HO348; clear HB; have HO_336000 := n0_; have HO_340000 := n1_; have HO_345000 := n2_; have BK326 := n3_; have BK335 := n4_; have BK339 := n5_; have BK344 := n6_; have HO348 := n7_; have HB := n8_; clear n0_ n1_ n2_ n3_ n4_ n5_ n6_ n7_ n8_; (try clear hb); (try clear hkp); (try clear hy0)))
      (try simp only [Act.put, List.setIfInBounds_toArray, List.set_cons_zero, List.set_cons_succ])
      go_cut [69] (fun v69 wc => ∃ (kq : Nat) (x69_61 : Bool), v69 = .bool x69_61 ∧ Aside0 (laws_FnExactRaise.j1 kq a1 a2 t334 x69_61 l0_0 t331 t340 = some r) ∧ Aside0 (kq ≤ kj12) ∧ Aside0 (Kd.R k34 34 wc w.heap.size (fun k_ => some k_ ≠ ((.slice Ao28 t336.length co28) : Value).ownBlock ∧ some k_ ≠ ((.slice Ao34 t340.length co34) : Value).ownBlock) (.slice Ao22 t331.length co22) t331) ∧ Aside0 (Kd.R k34 34 wc w.heap.size (fun k_ => some k_ ≠ ((.slice Ao22 t331.length co22) : Value).ownBlock ∧ some k_ ≠ ((.slice Ao34 t340.length co34) : Value).ownBlock) (.slice Ao28 t336.length co28) t351) ∧ Aside0 (Kd.R k34 34 wc w.heap.size (fun k_ => some k_ ≠ ((.slice Ao22 t331.length co22) : Value).ownBlock ∧ some k_ ≠ ((.slice Ao28 t336.length co28) : Value).ownBlock) (.slice Ao34 t340.length co34) t340) ∧ Aside0 (wc.heap[gb326]? = some (.cells #[(.slice A0_0 l0_0.length c0_0)] 24 (0, 0))) ∧ Aside0 (wc.heap[gb335]? = some (.cells #[(.slice Ao22 t331.length co22)] 30 (0, 0))) ∧ Aside0 (wc.heap[gb339]? = some (.cells #[(.slice Ao28 t336.length co28)] 30 (0, 0))) ∧ Aside0 (wc.heap[gb344]? = some (.cells #[(.slice Ao34 t340.length co34)] 30 (0, 0))) ∧ Aside0 (Below w.heap.size w wc))
      case first =>
       have H := HC62.out
       clear HC62
       by_cases c72 : t350 < 0
       ·rw [if_pos c72] at H
        have c72b0 : decide (t350 < 0) = true := decide_eq_true c72
        clear c72
        (first | rw [c72b0] | (simp only [i64_w, i32_w]; rw [c72b0]) | skip)
        have H' := Aside0.mk H
        clear H
        go_wp2
        go_meet
        case rel => exact ⟨_, (true), (by first | rfl | (simp; done) | (simp [*]; done)), H', ⟨by have := HJ12.out; first | omega | exact Nat.le_refl _⟩, ⟨zr (Kd.R_mono HO_336000.out (fun _ hk => ⟨hk.1, hk.2.1⟩))⟩, ⟨zr (Kd.R_mono HO_340000.out (fun _ hk => ⟨hk.1.1, hk.1.2⟩))⟩, ⟨zr (Kd.R_mono HO_345000.out (fun _ hk => ⟨hk.1, hk.2.1⟩))⟩, ⟨zh BK326.out⟩, ⟨zh BK335.out⟩, ⟨zh BK339.out⟩, ⟨zh BK344.out⟩, ⟨zb HB.out⟩⟩
       ·rw [if_neg c72] at H
        have c72b0 : decide (t350 < 0) = false := decide_eq_false c72
        clear c72
        (first | rw [c72b0] | (simp only [i64_w, i32_w]; rw [c72b0]) | skip)
        replace H := Option.bind_eq_some_iff.mp H
        obtain ⟨t352, A730, H⟩ := H
        replace H : (if t352 = true then (laws_FnExactRaise.j1 kj12 a1 a2 t334 (t343 != t334) l0_0 t331 t340) else (laws_FnExactRaise.j1 kj12 a1 a2 t334 true l0_0 t331 t340)) = some r := H
        have A73 := Aside0.mk A730
        clear A730
        by_cases c74 : t352 = true
        ·subst c74
         have H1 : (laws_FnExactRaise.j1 kj12 a1 a2 t334 (t343 != t334) l0_0 t331 t340) = some r := by rw [if_pos rfl] at H; exact H
         clear H
         have H := H1
         clear H1
         have H' := Aside0.mk H
         clear H
         have hnb75 := NB344_326.out
         have hnc75 := NB326_344.out
         have hnb76 := NB344_335.out
         have hnc76 := NB335_344.out
         have hnb77 := NB344_339.out
         have hnc77 := NB339_344.out
         have hcz78_0 : w71.cell? ⟨gb344, 0, none⟩ = some (.slice Ao34 t340.length co34) := (blk_cell BK344.out 0).trans rfl
         have hfz78_0 := blk_frozen BK344.out 0
         have hnb79 := NB335_326.out
         have hnc79 := NB326_335.out
         have hnb80 := NB335_339.out
         have hnc80 := NB339_335.out
         have hcz81_0 : w71.cell? ⟨gb335, 0, none⟩ = some (.slice Ao22 t331.length co22) := (blk_cell BK335.out 0).trans rfl
         have hfz81_0 := blk_frozen BK335.out 0
         go_wp2_with (first | (go_at_call 20; (with_reducible refine (laws_eqPool.calls kj12 _ _ t340 _ _ t331 true _ ?side1 ?side2 ?side3 ?side4 A73.out).mono ?_); (case side1 => exact zc (Kd.R_reads' HO_345000.out).2.2); (case side2 => exact (Kd.R_reads' HO_345000.out).2.1); (case side3 => exact zc (Kd.R_reads' HO_336000.out).2.2); (case side4 => exact (Kd.R_reads' HO_336000.out).2.1); rintro e w82 ⟨rfl, hb⟩; have n0_ := Aside0.mk (Kd.R_below (zr HO_336000.out) hb); have n1_ := Aside0.mk (Kd.R_below (zr HO_340000.out) hb); have n2_ := Aside0.mk (Kd.R_below (zr HO_345000.out) hb); have n3_ := Aside0.mk (Kd.R_below (zr HO348.out) hb); have n4_ := Aside0.mk (blk_below (zh BK326.out) hb); have n5_ := Aside0.mk (blk_below (zh BK335.out) hb); have n6_ := Aside0.mk (blk_below (zh BK339.out) hb); have n7_ := Aside0.mk (blk_below (zh BK344.out) hb); have n8_ := Aside0.mk (below_step (zb HB.out) hb); clear HO_336000; clear HO_340000; clear HO_345000; clear HO348; clear BK326; clear BK335; clear BK339; clear BK344; clear HB; have HO_336000 := n0_; have HO_340000 := n1_; have HO_345000 := n2_; have HO348 := n3_; have BK326 := n4_; have BK335 := n5_; have BK339 := n6_; have BK344 := n7_; have HB := n8_; clear n0_ n1_ n2_ n3_ n4_ n5_ n6_ n7_ n8_; (try clear hb); (try clear hb2); (try clear hk); (try clear hi)))
         go_meet
         case rel => exact ⟨_, ((t343 != t334)), (by first | rfl | (simp; done) | (simp [*]; done)), H', ⟨by have := HJ12.out; first | omega | exact Nat.le_refl _⟩, ⟨zr (Kd.R_mono HO_336000.out (fun _ hk => ⟨hk.1, hk.2.1⟩))⟩, ⟨zr (Kd.R_mono HO_340000.out (fun _ hk => ⟨hk.1.1, hk.1.2⟩))⟩, ⟨zr (Kd.R_mono HO_345000.out (fun _ hk => ⟨hk.1, hk.2.1⟩))⟩, ⟨zh BK326.out⟩, ⟨zh BK335.out⟩, ⟨zh BK339.out⟩, ⟨zh BK344.out⟩, ⟨zb HB.out⟩⟩
        ·replace c74 := Bool.eq_false_iff.mpr c74
         subst c74
         have H1 : (laws_FnExactRaise.j1 kj12 a1 a2 t334 true l0_0 t331 t340) = some r := by rw [if_neg (show ¬ (false = true) by decide)] at H; exact H
         clear H
         have H := H1
         clear H1
         have H' := Aside0.mk H
         clear H
         have hnb83 := NB344_326.out
         have hnc83 := NB326_344.out
         have hnb84 := NB344_335.out
         have hnc84 := NB335_344.out
         have hnb85 := NB344_339.out
         have hnc85 := NB339_344.out
         have hcz86_0 : w71.cell? ⟨gb344, 0, none⟩ = some (.slice Ao34 t340.length co34) := (blk_cell BK344.out 0).trans rfl
         have hfz86_0 := blk_frozen BK344.out 0
         have hnb87 := NB335_326.out
         have hnc87 := NB326_335.out
         have hnb88 := NB335_339.out
         have hnc88 := NB339_335.out
         have hcz89_0 : w71.cell? ⟨gb335, 0, none⟩ = some (.slice Ao22 t331.length co22) := (blk_cell BK335.out 0).trans rfl
         have hfz89_0 := blk_frozen BK335.out 0
         go_wp2_with (first | (go_at_call 20; (with_reducible refine (laws_eqPool.calls kj12 _ _ t340 _ _ t331 false _ ?side1 ?side2 ?side3 ?side4 A73.out).mono ?_); (case side1 => exact zc (Kd.R_reads' HO_345000.out).2.2); (case side2 => exact (Kd.R_reads' HO_345000.out).2.1); (case side3 => exact zc (Kd.R_reads' HO_336000.out).2.2); (case side4 => exact (Kd.R_reads' HO_336000.out).2.1); rintro e w90 ⟨rfl, hb⟩; have n0_ := Aside0.mk (Kd.R_below (zr HO_336000.out) hb); have n1_ := Aside0.mk (Kd.R_below (zr HO_340000.out) hb); have n2_ := Aside0.mk (Kd.R_below (zr HO_345000.out) hb); have n3_ := Aside0.mk (Kd.R_below (zr HO348.out) hb); have n4_ := Aside0.mk (blk_below (zh BK326.out) hb); have n5_ := Aside0.mk (blk_below (zh BK335.out) hb); have n6_ := Aside0.mk (blk_below (zh BK339.out) hb); have n7_ := Aside0.mk (blk_below (zh BK344.out) hb); have n8_ := Aside0.mk (below_step (zb HB.out) hb); clear HO_336000; clear HO_340000; clear HO_345000; clear HO348; clear BK326; clear BK335; clear BK339; clear BK344; clear HB; have HO_336000 := n0_; have HO_340000 := n1_; have HO_345000 := n2_; have HO348 := n3_; have BK326 := n4_; have BK335 := n5_; have BK339 := n6_; have BK344 := n7_; have HB := n8_; clear n0_ n1_ n2_ n3_ n4_ n5_ n6_ n7_ n8_; (try clear hb); (try clear hb2); (try clear hk); (try clear hi)))
         go_meet
         case rel => exact ⟨_, (true), (by first | rfl | (simp; done) | (simp [*]; done)), H', ⟨by have := HJ12.out; first | omega | exact Nat.le_refl _⟩, ⟨zr (Kd.R_mono HO_336000.out (fun _ hk => ⟨hk.1, hk.2.1⟩))⟩, ⟨zr (Kd.R_mono HO_340000.out (fun _ hk => ⟨hk.1.1, hk.1.2⟩))⟩, ⟨zr (Kd.R_mono HO_345000.out (fun _ hk => ⟨hk.1, hk.2.1⟩))⟩, ⟨zh BK326.out⟩, ⟨zh BK335.out⟩, ⟨zh BK339.out⟩, ⟨zh BK344.out⟩, ⟨zb HB.out⟩⟩
      case rest =>
       clear HC62
       try clear c1
       try clear c2
       try clear p2
       try clear c3
       try clear c4
       try clear c5
       try clear c5b0
       try clear c6
       try clear c7
       try clear c8
       try clear c12
       try clear c15
       try clear c17
       try clear c20
       try clear c21
       try clear c23
       try clear c29
       try clear c30
       try clear c35
       try clear c36
       try clear c37
       try clear c40
       try clear c41
       try clear c42
       try clear c43
       try clear c45
       try clear c46
       try clear c49
       try clear c50
       try clear c51
       try clear c53
       try clear c54
       try clear c57
       try clear c60
       try clear c67
       try clear c68
       try clear c69
       try clear c72
       try clear c72b0
       try clear c74
       try clear c75
       try clear c76
       try clear c77
       try clear c79
       try clear c80
       try clear c83
       try clear c84
       try clear c85
       try clear c87
       try clear c88
       try clear hcz15_0
       try clear hcz17_0
       try clear hcz24_0
       try clear hcz25_0
       try clear hcz31_0
       try clear hcz38_0
       try clear hcz44_0
       try clear hcz47_0
       try clear hcz52_0
       try clear hcz55_0
       try clear hcz70_0
       try clear hcz78_0
       try clear hcz7_0
       try clear hcz81_0
       try clear hcz86_0
       try clear hcz89_0
       try clear hfz15_0
       try clear hfz17_0
       try clear hfz24_0
       try clear hfz25_0
       try clear hfz31_0
       try clear hfz38_0
       try clear hfz44_0
       try clear hfz47_0
       try clear hfz52_0
       try clear hfz55_0
       try clear hfz70_0
       try clear hfz78_0
       try clear hfz7_0
       try clear hfz81_0
       try clear hfz86_0
       try clear hfz89_0
       try clear p2
       obtain ⟨kq, x69_61, rfl, HA, HJ61, HO_336000, HO_340000, HO_345000, BK326, BK335, BK339, BK344, HB⟩ := hcut
       have hl340000_61 := (Kd.R_reads' HO_340000.out).1
       rw [hl340000_61] at HO_340000
       (try simp only [hl340000_61])
       (try simp only [hl340000_61] at BK326)
       (try simp only [hl340000_61] at BK335)
       (try simp only [hl340000_61] at BK339)
       (try simp only [hl340000_61] at BK344)
       (try simp only [hl340000_61] at HO_336000)
       (try simp only [hl340000_61] at HO_345000)
       cases kq with
       | zero => exact absurd HA.out (by simp [laws_FnExactRaise.j1])
       | succ kj61 =>
        have H := HA.out
        clear HA
        simp only [laws_FnExactRaise.j1] at H
        by_cases c91 : x69_61 = true
        ·subst c91
         have H1 : (some false) = some r := by rw [if_pos rfl] at H; exact H
         clear H
         have H := H1
         clear H1
         obtain rfl := Option.some.inj H
         go_wp2
         go_ret
         exact ⟨ze, zb HB.out⟩
        ·replace c91 := Bool.eq_false_iff.mpr c91
         subst c91
         have H1 : ((laws_markPool.f kj61 t340 1).bind fun bt353 => ((laws_heldPool.f kj61 bt353.2 1).bind fun t355 => (if t355 < 0 then (some false) else (if t355 = bt353.1 then ((laws_toPool.f kj61 l0_0).bind fun t356 => ((impl_Raise.f kj61 t356 a1 a2).bind fun bt359 => ((laws_eqPool.f kj61 bt359.1 t331).bind fun t364 => (if t364 = true then (laws_FnExactRaise.j2 kj61 bt353.1 (bt359.2 != t334) bt353.2) else (laws_FnExactRaise.j2 kj61 bt353.1 true bt353.2))))) else (some false))))) = some r := by rw [if_neg (show ¬ (false = true) by decide)] at H; exact H
         clear H
         have H := H1
         clear H1
         replace H := Option.bind_eq_some_iff.mp H
         obtain ⟨⟨t353, t354⟩, A920, H⟩ := H
         replace H : ((laws_heldPool.f kj61 t354 1).bind fun t355 => (if t355 < 0 then (some false) else (if t355 = t353 then ((laws_toPool.f kj61 l0_0).bind fun t356 => ((impl_Raise.f kj61 t356 a1 a2).bind fun bt359 => ((laws_eqPool.f kj61 bt359.1 t331).bind fun t364 => (if t364 = true then (laws_FnExactRaise.j2 kj61 t353 (bt359.2 != t334) t354) else (laws_FnExactRaise.j2 kj61 t353 true t354))))) else (some false)))) = some r := H
         have A92 := Aside0.mk A920
         clear A920
         replace H := Option.bind_eq_some_iff.mp H
         obtain ⟨t355, A930, H⟩ := H
         replace H : (if t355 < 0 then (some false) else (if t355 = t353 then ((laws_toPool.f kj61 l0_0).bind fun t356 => ((impl_Raise.f kj61 t356 a1 a2).bind fun bt359 => ((laws_eqPool.f kj61 bt359.1 t331).bind fun t364 => (if t364 = true then (laws_FnExactRaise.j2 kj61 t353 (bt359.2 != t334) t354) else (laws_FnExactRaise.j2 kj61 t353 true t354))))) else (some false))) = some r := H
         have A93 := Aside0.mk A930
         clear A930
         by_cases c94 : t355 < 0
         ·rw [if_pos c94] at H
          have c94b0 : decide (t355 < 0) = true := decide_eq_true c94
          clear c94
          obtain rfl := Option.some.inj H
          have hnb95 := NB344_326.out
          have hnc95 := NB326_344.out
          have hnb96 := NB344_335.out
          have hnc96 := NB335_344.out
          have hnb97 := NB344_339.out
          have hnc97 := NB339_344.out
          have hcz98_0 : wc.cell? ⟨gb344, 0, none⟩ = some (.slice Ao34 t340.length co34) := (blk_cell BK344.out 0).trans rfl
          have hfz98_0 := blk_frozen BK344.out 0
          go_wp2_with (first | ((with_reducible refine gate_callee (f := 21) rfl ?_); refine goesL_ (some 72) rfl rfl Try.func21 (by kernel_rfl) rfl #[.agg #[.slice Ao34 t340.length co34], .int .i64 1] rfl zl ?_; (with_reducible refine (laws_markPool.calls kj61 (fun k_ => some k_ = (.slice Ao34 t340.length co34 : Value).ownBlock) (.slice Ao34 t340.length co34) t340 1 t353 t354 w _ ?side1 ?side2 A92.out).mono ?_); (case side1 => repeat (first | (with_reducible first | exact HB.out | apply below_alloc | apply pw_below_drewN | apply below_drew1 | refine below_set ?_ GE326.out | refine below_set ?_ GE335.out | refine below_set ?_ GE339.out | refine below_set ?_ GE344.out) | exact HB.out)); (case side2 => exact Kd.R_tight rfl HO_345000.out); rintro e w99 ⟨rfl, hy0, hb, hkp⟩; refine ⟨_, rfl, ?_⟩; have n0_ := Aside0.mk (Kd.R_mono (ok' := fun k_ => some k_ ≠ (.slice Ao28 t351.length co28 : Value).ownBlock ∧ some k_ ≠ (.slice Ao34 t340.length co34 : Value).ownBlock) (Kd.R_keptB (HO_336000.out) hkp (fun k_ hk_ hs_ => by first | exact (hk_.2) hs_ | (revert hk_; simp only [and_imp]; intros; exact absurd hs_ (by assumption)))) (fun k_ hk_ => by first | exact ⟨hk_.1.1, hk_.1.2⟩ | (revert hk_; simp only [and_imp]; intros; and_intros <;> assumption))); have n1_ := Aside0.mk (Kd.R_mono (ok' := fun k_ => some k_ ≠ (.slice Ao22 t331.length co22 : Value).ownBlock ∧ some k_ ≠ (.slice Ao34 t340.length co34 : Value).ownBlock) (Kd.R_keptB (HO_340000.out) hkp (fun k_ hk_ hs_ => by first | exact (hk_.2) hs_ | (revert hk_; simp only [and_imp]; intros; exact absurd hs_ (by assumption)))) (fun k_ hk_ => by first | exact ⟨hk_.1.1, hk_.1.2⟩ | (revert hk_; simp only [and_imp]; intros; and_intros <;> assumption))); have n2_ := Aside0.mk (Kd.R_reok rfl hy0 (fun k_ e_ => HO_345000.out.1 k_ e_)); have n3_ := Aside0.mk (blk_kept (zh BK326.out) hkp (fun hs_ => (fun e_ => (Kd.R_ne HO_345000.out BK326.out (by decide)) e_) hs_)); have n4_ := Aside0.mk (blk_kept (zh BK335.out) hkp (fun hs_ => (fun e_ => (Kd.R_ne HO_345000.out BK335.out (by decide)) e_) hs_)); have n5_ := Aside0.mk (blk_kept (zh BK339.out) hkp (fun hs_ => (fun e_ => (Kd.R_ne HO_345000.out BK339.out (by decide)) e_) hs_)); have n6_ := Aside0.mk (blk_kept (zh BK344.out) hkp (fun hs_ => (fun e_ => (Kd.R_ne HO_345000.out BK344.out (by decide)) e_) hs_)); have n7_ := Aside0.mk (hb); clear HO_336000; clear HO_340000; clear HO_345000; clear BK326; clear BK335; clear BK339; clear BK344; clear HB; have HO_336000 := n0_; have HO_340000 := n1_; have HO_345000 := n2_; have BK326 := n3_; have BK335 := n4_; have BK339 := n5_; have BK344 := n6_; have HB := n7_; clear n0_ n1_ n2_ n3_ n4_ n5_ n6_ n7_; (try clear hb); (try clear hkp); (try clear hy0); have hcz100_0 : w99.cell? ⟨gb344, 0, none⟩ = some (.slice Ao34 t340.length co34) := (blk_cell BK344.out 0).trans rfl; have hfz100_0 := blk_frozen BK344.out 0) | ((with_reducible refine gate_callee (f := 22) rfl ?_); refine goesL_ (some 75) rfl rfl Try.func22 (by kernel_rfl) rfl #[.agg #[.slice Ao34 t354.length co34], .int .i64 1] rfl (by (try simp only [List.map_toArray, List.map_cons, List.map_nil]); first | done | (rw [show t354.length = t340.length from (Kd.R_reads' HO_345000.out).1.symm] <;> rfl) | rfl | (simp only [List.length_drop, List.length_take]; rfl)) ?_; (with_reducible refine (laws_heldPool.calls kj61 _ _ t354 1 t355 _ ?side1 ?side2 A93.out).mono ?_); (case side1 => exact zc (Kd.R_reads' HO_345000.out).2.2); (case side2 => rw [show t354.length = t340.length from (Kd.R_reads' HO_345000.out).1.symm]; exact (Kd.R_reads' HO_345000.out).2.1); rintro e w101 ⟨rfl, hb⟩; refine ⟨_, rfl, ?_⟩; have n0_ := Aside0.mk (Kd.R_below (zr HO_336000.out) hb); have n1_ := Aside0.mk (Kd.R_below (zr HO_340000.out) hb); have n2_ := Aside0.mk (Kd.R_below (zr HO_345000.out) hb); have n3_ := Aside0.mk (blk_below (zh BK326.out) hb); have n4_ := Aside0.mk (blk_below (zh BK335.out) hb); have n5_ := Aside0.mk (blk_below (zh BK339.out) hb); have n6_ := Aside0.mk (blk_below (zh BK344.out) hb); have n7_ := Aside0.mk (below_step (zb HB.out) hb); clear HO_336000; clear HO_340000; clear HO_345000; clear BK326; clear BK335; clear BK339; clear BK344; clear HB; have HO_336000 := n0_; have HO_340000 := n1_; have HO_345000 := n2_; have BK326 := n3_; have BK335 := n4_; have BK339 := n5_; have BK344 := n6_; have HB := n7_; clear n0_ n1_ n2_ n3_ n4_ n5_ n6_ n7_; (try clear hb); (try clear hb2); (try clear hk); (try clear hi)))
          go_ret
          exact ⟨ze, zb HB.out⟩
         ·rw [if_neg c94] at H
          have c94b0 : decide (t355 < 0) = false := decide_eq_false c94
          clear c94
          by_cases c102 : t355 = t353
          ·rw [if_pos c102] at H
           have c102b0 : (t355 == t353) = true := beq_iff_eq.mpr c102
           have c102b1 : (t355 != t353) = false := bne_eq_false_iff_eq.mpr c102
           clear c102
           replace H := Option.bind_eq_some_iff.mp H
           obtain ⟨t356, A1030, H⟩ := H
           replace H : ((impl_Raise.f kj61 t356 a1 a2).bind fun bt359 => ((laws_eqPool.f kj61 bt359.1 t331).bind fun t364 => (if t364 = true then (laws_FnExactRaise.j2 kj61 t353 (bt359.2 != t334) t354) else (laws_FnExactRaise.j2 kj61 t353 true t354)))) = some r := H
           have A103 := Aside0.mk A1030
           clear A1030
           replace H := Option.bind_eq_some_iff.mp H
           obtain ⟨⟨t359, t362⟩, A1040, H⟩ := H
           replace H : ((laws_eqPool.f kj61 t359 t331).bind fun t364 => (if t364 = true then (laws_FnExactRaise.j2 kj61 t353 (t362 != t334) t354) else (laws_FnExactRaise.j2 kj61 t353 true t354))) = some r := H
           have A104 := Aside0.mk A1040
           clear A1040
           have HC105 := Aside0.mk H
           clear H
           have hnb106 := NB344_326.out
           have hnc106 := NB326_344.out
           have hnb107 := NB344_335.out
           have hnc107 := NB335_344.out
           have hnb108 := NB344_339.out
           have hnc108 := NB339_344.out
           have hcz109_0 : wc.cell? ⟨gb344, 0, none⟩ = some (.slice Ao34 t340.length co34) := (blk_cell BK344.out 0).trans rfl
           have hfz109_0 := blk_frozen BK344.out 0
           go_upto_region 25 with (first | ((with_reducible refine gate_callee (f := 21) rfl ?_); refine goesL_ (some 72) rfl rfl Try.func21 (by kernel_rfl) rfl #[.agg #[.slice Ao34 t340.length co34], .int .i64 1] rfl zl ?_; (with_reducible refine (laws_markPool.calls kj61 (fun k_ => some k_ = (.slice Ao34 t340.length co34 : Value).ownBlock) (.slice Ao34 t340.length co34) t340 1 t353 t354 w _ ?side1 ?side2 A92.out).mono ?_); (case side1 => repeat (first | (with_reducible first | exact HB.out | apply below_alloc | apply pw_below_drewN | apply below_drew1 | refine below_set ?_ GE326.out | refine below_set ?_ GE335.out | refine below_set ?_ GE339.out | refine below_set ?_ GE344.out) | exact HB.out)); (case side2 => exact Kd.R_tight rfl HO_345000.out); rintro e w110 ⟨rfl, hy0, hb, hkp⟩; refine ⟨_, rfl, ?_⟩; have n0_ := Aside0.mk (Kd.R_mono (ok' := fun k_ => some k_ ≠ (.slice Ao28 t351.length co28 : Value).ownBlock ∧ some k_ ≠ (.slice Ao34 t340.length co34 : Value).ownBlock) (Kd.R_keptB (HO_336000.out) hkp (fun k_ hk_ hs_ => by first | exact (hk_.2) hs_ | (revert hk_; simp only [and_imp]; intros; exact absurd hs_ (by assumption)))) (fun k_ hk_ => by first | exact ⟨hk_.1.1, hk_.1.2⟩ | (revert hk_; simp only [and_imp]; intros; and_intros <;> assumption))); have n1_ := Aside0.mk (Kd.R_mono (ok' := fun k_ => some k_ ≠ (.slice Ao22 t331.length co22 : Value).ownBlock ∧ some k_ ≠ (.slice Ao34 t340.length co34 : Value).ownBlock) (Kd.R_keptB (HO_340000.out) hkp (fun k_ hk_ hs_ => by first | exact (hk_.2) hs_ | (revert hk_; simp only [and_imp]; intros; exact absurd hs_ (by assumption)))) (fun k_ hk_ => by first | exact ⟨hk_.1.1, hk_.1.2⟩ | (revert hk_; simp only [and_imp]; intros; and_intros <;> assumption))); have n2_ := Aside0.mk (Kd.R_reok rfl hy0 (fun k_ e_ => HO_345000.out.1 k_ e_)); have n3_ := Aside0.mk (blk_kept (zh BK326.out) hkp (fun hs_ => (fun e_ => (Kd.R_ne HO_345000.out BK326.out (by decide)) e_) hs_)); have n4_ := Aside0.mk (blk_kept (zh BK335.out) hkp (fun hs_ => (fun e_ => (Kd.R_ne HO_345000.out BK335.out (by decide)) e_) hs_)); have n5_ := Aside0.mk (blk_kept (zh BK339.out) hkp (fun hs_ => (fun e_ => (Kd.R_ne HO_345000.out BK339.out (by decide)) e_) hs_)); have n6_ := Aside0.mk (blk_kept (zh BK344.out) hkp (fun hs_ => (fun e_ => (Kd.R_ne HO_345000.out BK344.out (by decide)) e_) hs_)); have n7_ := Aside0.mk (hb); clear HO_336000; clear HO_340000; clear HO_345000; clear BK326; clear BK335; clear BK339; clear BK344; clear HB; have HO_336000 := n0_; have HO_340000 := n1_; have HO_345000 := n2_; have BK326 := n3_; have BK335 := n4_; have BK339 := n5_; have BK344 := n6_; have HB := n7_; clear n0_ n1_ n2_ n3_ n4_ n5_ n6_ n7_; (try clear hb); (try clear hkp); (try clear hy0); have hcz111_0 : w110.cell? ⟨gb344, 0, none⟩ = some (.slice Ao34 t340.length co34) := (blk_cell BK344.out 0).trans rfl; have hfz111_0 := blk_frozen BK344.out 0) | ((with_reducible refine gate_callee (f := 22) rfl ?_); refine goesL_ (some 75) rfl rfl Try.func22 (by kernel_rfl) rfl #[.agg #[.slice Ao34 t354.length co34], .int .i64 1] rfl (by (try simp only [List.map_toArray, List.map_cons, List.map_nil]); first | done | (rw [show t354.length = t340.length from (Kd.R_reads' HO_345000.out).1.symm] <;> rfl) | rfl | (simp only [List.length_drop, List.length_take]; rfl)) ?_; (with_reducible refine (laws_heldPool.calls kj61 _ _ t354 1 t355 _ ?side1 ?side2 A93.out).mono ?_); (case side1 => exact zc (Kd.R_reads' HO_345000.out).2.2); (case side2 => rw [show t354.length = t340.length from (Kd.R_reads' HO_345000.out).1.symm]; exact (Kd.R_reads' HO_345000.out).2.1); rintro e w112 ⟨rfl, hb⟩; refine ⟨_, rfl, ?_⟩; have n0_ := Aside0.mk (Kd.R_below (zr HO_336000.out) hb); have n1_ := Aside0.mk (Kd.R_below (zr HO_340000.out) hb); have n2_ := Aside0.mk (Kd.R_below (zr HO_345000.out) hb); have n3_ := Aside0.mk (blk_below (zh BK326.out) hb); have n4_ := Aside0.mk (blk_below (zh BK335.out) hb); have n5_ := Aside0.mk (blk_below (zh BK339.out) hb); have n6_ := Aside0.mk (blk_below (zh BK344.out) hb); have n7_ := Aside0.mk (below_step (zb HB.out) hb); clear HO_336000; clear HO_340000; clear HO_345000; clear BK326; clear BK335; clear BK339; clear BK344; clear HB; have HO_336000 := n0_; have HO_340000 := n1_; have HO_345000 := n2_; have BK326 := n3_; have BK335 := n4_; have BK339 := n5_; have BK344 := n6_; have HB := n7_; clear n0_ n1_ n2_ n3_ n4_ n5_ n6_ n7_; (try clear hb); (try clear hb2); (try clear hk); (try clear hi); have hnb113 := NB326_335.out; have hnc113 := NB335_326.out; have hnb114 := NB326_339.out; have hnc114 := NB339_326.out; have hcz115_0 : w112.cell? ⟨gb326, 0, none⟩ = some (.slice A0_0 l0_0.length c0_0) := (blk_cell BK326.out 0).trans rfl; have hfz115_0 := blk_frozen BK326.out 0) | ((with_reducible refine gate_callee (f := 17) rfl ?_); refine goesL_ (some 83) rfl rfl Try.func17 (by kernel_rfl) rfl #[.agg #[.slice A0_0 l0_0.length c0_0]] rfl zl ?_; (with_reducible refine (laws_toPool.calls kj61 _ _ l0_0 t356 _ ?side1 ?side2 A103.out).mono ?_); (case side1 => exact zc (Kd.C_below HR0_0.out HB.out)); (case side2 => exact HC0_0.out); rintro e w116 ⟨v357, rfl, ho0, hb⟩; refine ⟨_, rfl, ?_⟩; have n0_ := Aside0.mk (Kd.R_elder' (zr HO_336000.out) (Kd.R_base ho0) hb); have n1_ := Aside0.mk (Kd.R_elder' (zr HO_340000.out) (Kd.R_base ho0) hb); have n2_ := Aside0.mk (Kd.R_elder' (zr HO_345000.out) (Kd.R_base ho0) hb); have n3_ := Aside0.mk (Kd.R_lower (Kd.R_new' (Kd.R_new' (Kd.R_new' ho0 (Kd.R_lt (zr HO_336000.out))) (Kd.R_lt (zr HO_340000.out))) (Kd.R_lt (zr HO_345000.out))) (below_size (zb HB.out))); have n4_ := Aside0.mk (blk_below (zh BK326.out) hb); have n5_ := Aside0.mk (blk_below (zh BK335.out) hb); have n6_ := Aside0.mk (blk_below (zh BK339.out) hb); have n7_ := Aside0.mk (blk_below (zh BK344.out) hb); have n8_ := Aside0.mk (below_step (zb HB.out) hb); clear HO_336000; clear HO_340000; clear HO_345000; clear BK326; clear BK335; clear BK339; clear BK344; clear HB; have HO_336000 := n0_; have HO_340000 := n1_; have HO_345000 := n2_; have HO358 := n3_; have BK326 := n4_; have BK335 := n5_; have BK339 := n6_; have BK344 := n7_; have HB := n8_; clear n0_ n1_ n2_ n3_ n4_ n5_ n6_ n7_ n8_; (try clear hb); (try clear hb2); (try clear hk); (try clear hi); (try clear ho0); obtain ⟨Ao117, co117, eo117⟩ := Kd.R_slice HO358.out; subst eo117) | ((with_reducible refine gate_callee (f := 46) rfl ?_); refine goesL_ (some 86) rfl rfl Try.func46 (by kernel_rfl) rfl #[.agg #[.slice Ao117 t356.length co117], .int .i64 a1, .int .i64 a2] rfl zl ?_; (with_reducible refine (impl_Raise.calls kj61 _ _ t356 a1 a2 t359 t362 _ ?side1 ?side2 A104.out).mono ?_); (case side1 => exact zc (Kd.R_reads' HO358.out).2.2); (case side2 => exact (Kd.R_reads' HO358.out).2.1); rintro e w118 ⟨v360, rfl, ho0, hb⟩; refine ⟨_, rfl, ?_⟩; have n0_ := Aside0.mk (Kd.R_elder' (zr HO_336000.out) (Kd.R_base ho0) hb); have n1_ := Aside0.mk (Kd.R_elder' (zr HO_340000.out) (Kd.R_base ho0) hb); have n2_ := Aside0.mk (Kd.R_elder' (zr HO_345000.out) (Kd.R_base ho0) hb); have n3_ := Aside0.mk (Kd.R_elder' (zr HO358.out) (Kd.R_base ho0) hb); have n4_ := Aside0.mk (Kd.R_lower (Kd.R_new' (Kd.R_new' (Kd.R_new' (Kd.R_new' ho0 (Kd.R_lt (zr HO_336000.out))) (Kd.R_lt (zr HO_340000.out))) (Kd.R_lt (zr HO_345000.out))) (Kd.R_lt (zr HO358.out))) (below_size (zb HB.out))); have n5_ := Aside0.mk (blk_below (zh BK326.out) hb); have n6_ := Aside0.mk (blk_below (zh BK335.out) hb); have n7_ := Aside0.mk (blk_below (zh BK339.out) hb); have n8_ := Aside0.mk (blk_below (zh BK344.out) hb); have n9_ := Aside0.mk (below_step (zb HB.out) hb); clear HO_336000; clear HO_340000; clear HO_345000; clear HO358; clear BK326; clear BK335; clear BK339; clear BK344; clear HB; have HO_336000 := n0_; have HO_340000 := n1_; have HO_345000 := n2_; have HO358 := n3_; have HO361 := n4_; have BK326 := n5_; have BK335 := n6_; have BK339 := n7_; have BK344 := n8_; have HB := n9_; clear n0_ n1_ n2_ n3_ n4_ n5_ n6_ n7_ n8_ n9_; (try clear hb); (try clear hb2); (try clear hk); (try clear hi); (try clear ho0)) | ((with_reducible refine gate_dst (N := 16) rfl ?_); refine box_event ?hg (N := 16) ?hd (cs := #[.slice none 0 0]) (t := 30) ?hr ?_; (case hd => rfl); (case hg => rfl); (case hr => first | (go_simp; done) | (go_simp; rfl)); intro gb363 hg w119 hbox hb; have n0_ := Aside0.mk (Kd.R_below (zr HO_336000.out) hb); have n1_ := Aside0.mk (Kd.R_below (zr HO_340000.out) hb); have n2_ := Aside0.mk (Kd.R_below (zr HO_345000.out) hb); have n3_ := Aside0.mk (Kd.R_below (zr HO358.out) hb); have n4_ := Aside0.mk (Kd.R_below (zr HO361.out) hb); have n5_ := Aside0.mk (blk_below (zh BK326.out) hb); have n6_ := Aside0.mk (blk_below (zh BK335.out) hb); have n7_ := Aside0.mk (blk_below (zh BK339.out) hb); have n8_ := Aside0.mk (blk_below (zh BK344.out) hb); have n9_ := Aside0.mk (below_step (zb HB.out) hb); have n10_ := Aside0.mk (hbox); have n11_ := Aside0.mk ((by rw [hg]; exact (below_size (zb HB.out)) : w.heap.size ≤ gb363)); have n12_ := Aside0.mk ((by rw [hg]; exact (below_size (zb HB.out)) : w.heap.size ≤ gb363)); have n13_ := Aside0.mk ((by rw [hg]; exact Nat.ne_of_lt (blk_lt (zh BK326.out)) : gb326 ≠ gb363)); have n14_ := Aside0.mk ((by rw [hg]; exact Nat.ne_of_gt (blk_lt (zh BK326.out)) : gb363 ≠ gb326)); have n15_ := Aside0.mk ((by rw [hg]; exact Nat.ne_of_lt (blk_lt (zh BK335.out)) : gb335 ≠ gb363)); have n16_ := Aside0.mk ((by rw [hg]; exact Nat.ne_of_gt (blk_lt (zh BK335.out)) : gb363 ≠ gb335)); have n17_ := Aside0.mk ((by rw [hg]; exact Nat.ne_of_lt (blk_lt (zh BK339.out)) : gb339 ≠ gb363)); have n18_ := Aside0.mk ((by rw [hg]; exact Nat.ne_of_gt (blk_lt (zh BK339.out)) : gb363 ≠ gb339)); have n19_ := Aside0.mk ((by rw [hg]; exact Nat.ne_of_lt (blk_lt (zh BK344.out)) : gb344 ≠ gb363)); have n20_ := Aside0.mk ((by rw [hg]; exact Nat.ne_of_gt (blk_lt (zh BK344.out)) : gb363 ≠ gb344)); clear HO_336000; clear HO_340000; clear HO_345000; clear HO358; clear HO361; clear BK326; clear BK335; clear BK339; clear BK344; clear HB; have HO_336000 := n0_; have HO_340000 := n1_; have HO_345000 := n2_; have HO358 := n3_; have HO361 := n4_; have BK326 := n5_; have BK335 := n6_; have BK339 := n7_; have BK344 := n8_; have HB := n9_; have BK363 := n10_; have GW363 := n11_; have GE363 := n12_; have NB326_363 := n13_; have NB363_326 := n14_; have NB335_363 := n15_; have NB363_335 := n16_; have NB339_363 := n17_; have NB363_339 := n18_; have NB344_363 := n19_; have NB363_344 := n20_; clear n0_ n1_ n2_ n3_ n4_ n5_ n6_ n7_ n8_ n9_ n10_ n11_ n12_ n13_ n14_ n15_ n16_ n17_ n18_ n19_ n20_; clear hb hbox hg; obtain ⟨Ao120, co120, eo120⟩ := Kd.R_slice HO361.out; subst eo120; have hnb121 := NB363_326.out; have hnc121 := NB326_363.out; have hnb122 := NB363_335.out; have hnc122 := NB335_363.out; have hnb123 := NB363_339.out; have hnc123 := NB339_363.out; have hnb124 := NB363_344.out; have hnc124 := NB344_363.out; have hcz125_0 : w119.cell? ⟨gb363, 0, none⟩ = some (.slice none 0 0) := (blk_cell BK363.out 0).trans rfl; have hfz125_0 := blk_frozen BK363.out 0))
           (try simp only [Act.put, List.setIfInBounds_toArray, List.set_cons_zero, List.set_cons_succ])
           go_cut [97] (fun v97 wc => ∃ (kq : Nat) (x97_104 : Bool), v97 = .bool x97_104 ∧ Aside0 (laws_FnExactRaise.j2 kq t353 x97_104 t354 = some r) ∧ Aside0 (kq ≤ kj61) ∧ Aside0 (Kd.R k34 34 wc w.heap.size (fun k_ => some k_ ≠ ((.slice Ao28 t351.length co28) : Value).ownBlock ∧ some k_ ≠ ((.slice Ao34 t340.length co34) : Value).ownBlock ∧ some k_ ≠ ((.slice Ao120 t359.length co120) : Value).ownBlock) (.slice Ao22 t331.length co22) t331) ∧ Aside0 (Kd.R k34 34 wc w.heap.size (fun k_ => some k_ ≠ ((.slice Ao22 t331.length co22) : Value).ownBlock ∧ some k_ ≠ ((.slice Ao34 t340.length co34) : Value).ownBlock ∧ some k_ ≠ ((.slice Ao120 t359.length co120) : Value).ownBlock) (.slice Ao28 t351.length co28) t351) ∧ Aside0 (Kd.R k34 34 wc w.heap.size (fun k_ => some k_ ≠ ((.slice Ao22 t331.length co22) : Value).ownBlock ∧ some k_ ≠ ((.slice Ao28 t351.length co28) : Value).ownBlock ∧ some k_ ≠ ((.slice Ao120 t359.length co120) : Value).ownBlock) (.slice Ao34 t340.length co34) t354) ∧ Aside0 (Kd.R k34 34 wc w.heap.size (fun k_ => some k_ ≠ ((.slice Ao22 t331.length co22) : Value).ownBlock ∧ some k_ ≠ ((.slice Ao28 t351.length co28) : Value).ownBlock ∧ some k_ ≠ ((.slice Ao34 t340.length co34) : Value).ownBlock) (.slice Ao120 t359.length co120) t359) ∧ Aside0 (wc.heap[gb326]? = some (.cells #[(.slice A0_0 l0_0.length c0_0)] 24 (0, 0))) ∧ Aside0 (wc.heap[gb335]? = some (.cells #[(.slice Ao22 t331.length co22)] 30 (0, 0))) ∧ Aside0 (wc.heap[gb339]? = some (.cells #[(.slice Ao28 t351.length co28)] 30 (0, 0))) ∧ Aside0 (wc.heap[gb344]? = some (.cells #[(.slice Ao34 t340.length co34)] 30 (0, 0))) ∧ Aside0 (wc.heap[gb363]? = some (.cells #[(.slice Ao120 t359.length co120)] 30 (0, 0))) ∧ Aside0 (Below w.heap.size w wc))
           case first =>
            have H := HC105.out
            clear HC105
            replace H := Option.bind_eq_some_iff.mp H
            obtain ⟨t364, A1260, H⟩ := H
            replace H : (if t364 = true then (laws_FnExactRaise.j2 kj61 t353 (t362 != t334) t354) else (laws_FnExactRaise.j2 kj61 t353 true t354)) = some r := H
            have A126 := Aside0.mk A1260
            clear A1260
            by_cases c127 : t364 = true
            ·subst c127
             have H1 : (laws_FnExactRaise.j2 kj61 t353 (t362 != t334) t354) = some r := by rw [if_pos rfl] at H; exact H
             clear H
             have H := H1
             clear H1
             have H' := Aside0.mk H
             clear H
             have hnb128 := NB363_326.out
             have hnc128 := NB326_363.out
             have hnb129 := NB363_335.out
             have hnc129 := NB335_363.out
             have hnb130 := NB363_339.out
             have hnc130 := NB339_363.out
             have hnb131 := NB363_344.out
             have hnc131 := NB344_363.out
             have hcz132_0 : w119.cell? ⟨gb363, 0, none⟩ = some (.slice none 0 0) := (blk_cell BK363.out 0).trans rfl
             have hfz132_0 := blk_frozen BK363.out 0
             have hnb133 := NB335_326.out
             have hnc133 := NB326_335.out
             have hnb134 := NB335_339.out
             have hnc134 := NB339_335.out
             have hnb135 := NB335_344.out
             have hnc135 := NB344_335.out
             have hcz136_0 : w119.cell? ⟨gb335, 0, none⟩ = some (.slice Ao22 t331.length co22) := (blk_cell BK335.out 0).trans rfl
             have hfz136_0 := blk_frozen BK335.out 0
             go_wp2_with (first | ((with_reducible refine gate_callee (f := 20) rfl ?_); refine goesL_ (some 91) rfl rfl Try.func20 (by kernel_rfl) rfl #[.agg #[.slice Ao120 t359.length co120], .agg #[.slice Ao22 t331.length co22]] rfl zl ?_; (with_reducible refine (laws_eqPool.calls kj61 _ _ t359 _ _ t331 true _ ?side1 ?side2 ?side3 ?side4 A126.out).mono ?_); (case side1 => refine (Kd.R_reads' (e := 34) (base := w.heap.size) (ok := fun k_ => ((((True ∧ some k_ ≠ (.slice Ao22 t331.length co22 : Value).ownBlock) ∧ some k_ ≠ (.slice Ao28 t351.length co28 : Value).ownBlock) ∧ some k_ ≠ (.slice Ao34 t340.length co34 : Value).ownBlock) ∧ some k_ ≠ (.slice Ao117 t356.length co117 : Value).ownBlock)) (n := t359.length) (c := co120) ?_).2.2; exact (by (with_reducible repeat (first | apply Kd.R_alloc | apply Kd.R_drewN | apply Kd.R_drew)); exact (Kd.R_mono (Kd.R_far (p := ⟨gb363, 0, none⟩) (Kd.R_types HO361.out BK363.out (by decide)) (fun _ hk => hk.2) (.slice Ao120 t359.length co120)) (fun _ h_ => h_.1)))); (case side2 => exact (Kd.R_reads' HO361.out).2.1); (case side3 => refine (Kd.R_reads' (e := 34) (base := w.heap.size) (ok := fun k_ => (((some k_ ≠ (.slice Ao28 t351.length co28 : Value).ownBlock ∧ some k_ ≠ (.slice Ao34 t340.length co34 : Value).ownBlock) ∧ some k_ ≠ (.slice Ao117 t356.length co117 : Value).ownBlock) ∧ some k_ ≠ (.slice Ao120 t359.length co120 : Value).ownBlock)) (n := t331.length) (c := co22) ?_).2.2; exact (by (with_reducible repeat (first | apply Kd.R_alloc | apply Kd.R_drewN | apply Kd.R_drew)); exact (Kd.R_mono (Kd.R_far (p := ⟨gb363, 0, none⟩) (Kd.R_types HO_336000.out BK363.out (by decide)) (fun _ hk => hk.2) (.slice Ao120 t359.length co120)) (fun _ h_ => h_.1)))); (case side4 => exact (Kd.R_reads' HO_336000.out).2.1); rintro e w137 ⟨rfl, hb⟩; refine ⟨_, rfl, ?_⟩; have n0_ := Aside0.mk (Kd.R_below (by (with_reducible repeat (first | apply Kd.R_alloc | apply Kd.R_drewN | apply Kd.R_drew)); exact (Kd.R_mono (Kd.R_far (p := ⟨gb363, 0, none⟩) (Kd.R_types HO_336000.out BK363.out (by decide)) (fun _ hk => hk.2) (.slice Ao120 t359.length co120)) (fun _ h_ => h_.1))) hb); have n1_ := Aside0.mk (Kd.R_below (by (with_reducible repeat (first | apply Kd.R_alloc | apply Kd.R_drewN | apply Kd.R_drew)); exact (Kd.R_mono (Kd.R_far (p := ⟨gb363, 0, none⟩) (Kd.R_types HO_340000.out BK363.out (by decide)) (fun _ hk => hk.2) (.slice Ao120 t359.length co120)) (fun _ h_ => h_.1))) hb); have n2_ := Aside0.mk (Kd.R_below (by (with_reducible repeat (first | apply Kd.R_alloc | apply Kd.R_drewN | apply Kd.R_drew)); exact (Kd.R_mono (Kd.R_far (p := ⟨gb363, 0, none⟩) (Kd.R_types HO_345000.out BK363.out (by decide)) (fun _ hk => hk.2) (.slice Ao120 t359.length co120)) (fun _ h_ => h_.1))) hb); have n3_ := Aside0.mk (Kd.R_below (by (with_reducible repeat (first | apply Kd.R_alloc | apply Kd.R_drewN | apply Kd.R_drew)); exact (Kd.R_mono (Kd.R_far (p := ⟨gb363, 0, none⟩) (Kd.R_types HO358.out BK363.out (by decide)) (fun _ hk => hk.2) (.slice Ao120 t359.length co120)) (fun _ h_ => h_.1))) hb); have n4_ := Aside0.mk (Kd.R_below (by (with_reducible repeat (first | apply Kd.R_alloc | apply Kd.R_drewN | apply Kd.R_drew)); exact (Kd.R_mono (Kd.R_far (p := ⟨gb363, 0, none⟩) (Kd.R_types HO361.out BK363.out (by decide)) (fun _ hk => hk.2) (.slice Ao120 t359.length co120)) (fun _ h_ => h_.1))) hb); have n5_ := Aside0.mk (blk_below (g := gb326) (o := .cells #[.slice A0_0 l0_0.length c0_0] 24 (0, 0)) (zf BK326.out) hb); have n6_ := Aside0.mk (blk_below (g := gb335) (o := .cells #[.slice Ao22 t331.length co22] 30 (0, 0)) (zf BK335.out) hb); have n7_ := Aside0.mk (blk_below (g := gb339) (o := .cells #[.slice Ao28 t351.length co28] 30 (0, 0)) (zf BK339.out) hb); have n8_ := Aside0.mk (blk_below (g := gb344) (o := .cells #[.slice Ao34 t340.length co34] 30 (0, 0)) (zf BK344.out) hb); have n9_ := Aside0.mk (blk_below (g := gb363) (o := .cells #[.slice Ao120 t359.length co120] 30 (0, 0)) (by (with_reducible repeat (first | refine blk_drewN ?_ _ | refine blk_drew ?_ | refine blk_alloc ?_ _)); refine blk_put (cs := #[.slice none 0 0]) ?_ 0 _ rfl; (with_reducible repeat (first | refine blk_drewN ?_ _ | refine blk_drew ?_ | refine blk_alloc ?_ _)); exact BK363.out) hb); have n10_ := Aside0.mk (below_step (zb HB.out) hb); clear HO_336000; clear HO_340000; clear HO_345000; clear HO358; clear HO361; clear BK326; clear BK335; clear BK339; clear BK344; clear BK363; clear HB; have HO_336000 := n0_; have HO_340000 := n1_; have HO_345000 := n2_; have HO358 := n3_; have HO361 := n4_; have BK326 := n5_; have BK335 := n6_; have BK339 := n7_; have BK344 := n8_; have BK363 := n9_; have HB := n10_; clear n0_ n1_ n2_ n3_ n4_ n5_ n6_ n7_ n8_ n9_ n10_; (try clear hb); (try clear hb2); (try clear hk); (try clear hi)))
             go_meet
             case rel => exact ⟨_, ((t362 != t334)), (by first | rfl | (simp; done) | (simp [*]; done)), H', ⟨by have := HJ12.out; have := HJ61.out; first | omega | exact Nat.le_refl _⟩, ⟨by (try simp only [hl340000_61]); (with_reducible repeat (first | apply Kd.R_alloc | apply Kd.R_drewN | apply Kd.R_drew)); exact Kd.R_mono HO_336000.out (fun _ hk => ⟨hk.1.1.1, ⟨hk.1.1.2, hk.2⟩⟩)⟩, ⟨by (try simp only [hl340000_61]); (with_reducible repeat (first | apply Kd.R_alloc | apply Kd.R_drewN | apply Kd.R_drew)); exact Kd.R_mono HO_340000.out (fun _ hk => ⟨hk.1.1.1, ⟨hk.1.1.2, hk.2⟩⟩)⟩, ⟨by (try simp only [hl340000_61]); (with_reducible repeat (first | apply Kd.R_alloc | apply Kd.R_drewN | apply Kd.R_drew)); exact Kd.R_mono HO_345000.out (fun _ hk => ⟨hk.1.1.1, ⟨hk.1.1.2, hk.2⟩⟩)⟩, ⟨by (try simp only [hl340000_61]); (with_reducible repeat (first | apply Kd.R_alloc | apply Kd.R_drewN | apply Kd.R_drew)); exact Kd.R_mono HO361.out (fun _ hk => ⟨hk.1.1.1.2, ⟨hk.1.1.2, hk.1.2⟩⟩)⟩, ⟨by (try simp only [hl340000_61]); (with_reducible repeat (first | refine blk_drewN ?_ _ | refine blk_drew ?_ | refine blk_alloc ?_ _)); exact BK326.out⟩, ⟨by (try simp only [hl340000_61]); (with_reducible repeat (first | refine blk_drewN ?_ _ | refine blk_drew ?_ | refine blk_alloc ?_ _)); exact BK335.out⟩, ⟨by (try simp only [hl340000_61]); (with_reducible repeat (first | refine blk_drewN ?_ _ | refine blk_drew ?_ | refine blk_alloc ?_ _)); exact BK339.out⟩, ⟨by (try simp only [hl340000_61]); (with_reducible repeat (first | refine blk_drewN ?_ _ | refine blk_drew ?_ | refine blk_alloc ?_ _)); exact BK344.out⟩, ⟨by (try simp only [hl340000_61]); (with_reducible repeat (first | refine blk_drewN ?_ _ | refine blk_drew ?_ | refine blk_alloc ?_ _)); exact BK363.out⟩, ⟨zb HB.out⟩⟩
            ·replace c127 := Bool.eq_false_iff.mpr c127
             subst c127
             have H1 : (laws_FnExactRaise.j2 kj61 t353 true t354) = some r := by rw [if_neg (show ¬ (false = true) by decide)] at H; exact H
             clear H
             have H := H1
             clear H1
             have H' := Aside0.mk H
             clear H
             have hnb138 := NB363_326.out
             have hnc138 := NB326_363.out
             have hnb139 := NB363_335.out
             have hnc139 := NB335_363.out
             have hnb140 := NB363_339.out
             have hnc140 := NB339_363.out
             have hnb141 := NB363_344.out
             have hnc141 := NB344_363.out
             have hcz142_0 : w119.cell? ⟨gb363, 0, none⟩ = some (.slice none 0 0) := (blk_cell BK363.out 0).trans rfl
             have hfz142_0 := blk_frozen BK363.out 0
             have hnb143 := NB335_326.out
             have hnc143 := NB326_335.out
             have hnb144 := NB335_339.out
             have hnc144 := NB339_335.out
             have hnb145 := NB335_344.out
             have hnc145 := NB344_335.out
             have hcz146_0 : w119.cell? ⟨gb335, 0, none⟩ = some (.slice Ao22 t331.length co22) := (blk_cell BK335.out 0).trans rfl
             have hfz146_0 := blk_frozen BK335.out 0
             go_wp2_with (first | ((with_reducible refine gate_callee (f := 20) rfl ?_); refine goesL_ (some 91) rfl rfl Try.func20 (by kernel_rfl) rfl #[.agg #[.slice Ao120 t359.length co120], .agg #[.slice Ao22 t331.length co22]] rfl zl ?_; (with_reducible refine (laws_eqPool.calls kj61 _ _ t359 _ _ t331 false _ ?side1 ?side2 ?side3 ?side4 A126.out).mono ?_); (case side1 => refine (Kd.R_reads' (e := 34) (base := w.heap.size) (ok := fun k_ => ((((True ∧ some k_ ≠ (.slice Ao22 t331.length co22 : Value).ownBlock) ∧ some k_ ≠ (.slice Ao28 t351.length co28 : Value).ownBlock) ∧ some k_ ≠ (.slice Ao34 t340.length co34 : Value).ownBlock) ∧ some k_ ≠ (.slice Ao117 t356.length co117 : Value).ownBlock)) (n := t359.length) (c := co120) ?_).2.2; exact (by (with_reducible repeat (first | apply Kd.R_alloc | apply Kd.R_drewN | apply Kd.R_drew)); exact (Kd.R_mono (Kd.R_far (p := ⟨gb363, 0, none⟩) (Kd.R_types HO361.out BK363.out (by decide)) (fun _ hk => hk.2) (.slice Ao120 t359.length co120)) (fun _ h_ => h_.1)))); (case side2 => exact (Kd.R_reads' HO361.out).2.1); (case side3 => refine (Kd.R_reads' (e := 34) (base := w.heap.size) (ok := fun k_ => (((some k_ ≠ (.slice Ao28 t351.length co28 : Value).ownBlock ∧ some k_ ≠ (.slice Ao34 t340.length co34 : Value).ownBlock) ∧ some k_ ≠ (.slice Ao117 t356.length co117 : Value).ownBlock) ∧ some k_ ≠ (.slice Ao120 t359.length co120 : Value).ownBlock)) (n := t331.length) (c := co22) ?_).2.2; exact (by (with_reducible repeat (first | apply Kd.R_alloc | apply Kd.R_drewN | apply Kd.R_drew)); exact (Kd.R_mono (Kd.R_far (p := ⟨gb363, 0, none⟩) (Kd.R_types HO_336000.out BK363.out (by decide)) (fun _ hk => hk.2) (.slice Ao120 t359.length co120)) (fun _ h_ => h_.1)))); (case side4 => exact (Kd.R_reads' HO_336000.out).2.1); rintro e w147 ⟨rfl, hb⟩; refine ⟨_, rfl, ?_⟩; have n0_ := Aside0.mk (Kd.R_below (by (with_reducible repeat (first | apply Kd.R_alloc | apply Kd.R_drewN | apply Kd.R_drew)); exact (Kd.R_mono (Kd.R_far (p := ⟨gb363, 0, none⟩) (Kd.R_types HO_336000.out BK363.out (by decide)) (fun _ hk => hk.2) (.slice Ao120 t359.length co120)) (fun _ h_ => h_.1))) hb); have n1_ := Aside0.mk (Kd.R_below (by (with_reducible repeat (first | apply Kd.R_alloc | apply Kd.R_drewN | apply Kd.R_drew)); exact (Kd.R_mono (Kd.R_far (p := ⟨gb363, 0, none⟩) (Kd.R_types HO_340000.out BK363.out (by decide)) (fun _ hk => hk.2) (.slice Ao120 t359.length co120)) (fun _ h_ => h_.1))) hb); have n2_ := Aside0.mk (Kd.R_below (by (with_reducible repeat (first | apply Kd.R_alloc | apply Kd.R_drewN | apply Kd.R_drew)); exact (Kd.R_mono (Kd.R_far (p := ⟨gb363, 0, none⟩) (Kd.R_types HO_345000.out BK363.out (by decide)) (fun _ hk => hk.2) (.slice Ao120 t359.length co120)) (fun _ h_ => h_.1))) hb); have n3_ := Aside0.mk (Kd.R_below (by (with_reducible repeat (first | apply Kd.R_alloc | apply Kd.R_drewN | apply Kd.R_drew)); exact (Kd.R_mono (Kd.R_far (p := ⟨gb363, 0, none⟩) (Kd.R_types HO358.out BK363.out (by decide)) (fun _ hk => hk.2) (.slice Ao120 t359.length co120)) (fun _ h_ => h_.1))) hb); have n4_ := Aside0.mk (Kd.R_below (by (with_reducible repeat (first | apply Kd.R_alloc | apply Kd.R_drewN | apply Kd.R_drew)); exact (Kd.R_mono (Kd.R_far (p := ⟨gb363, 0, none⟩) (Kd.R_types HO361.out BK363.out (by decide)) (fun _ hk => hk.2) (.slice Ao120 t359.length co120)) (fun _ h_ => h_.1))) hb); have n5_ := Aside0.mk (blk_below (g := gb326) (o := .cells #[.slice A0_0 l0_0.length c0_0] 24 (0, 0)) (zf BK326.out) hb); have n6_ := Aside0.mk (blk_below (g := gb335) (o := .cells #[.slice Ao22 t331.length co22] 30 (0, 0)) (zf BK335.out) hb); have n7_ := Aside0.mk (blk_below (g := gb339) (o := .cells #[.slice Ao28 t351.length co28] 30 (0, 0)) (zf BK339.out) hb); have n8_ := Aside0.mk (blk_below (g := gb344) (o := .cells #[.slice Ao34 t340.length co34] 30 (0, 0)) (zf BK344.out) hb); have n9_ := Aside0.mk (blk_below (g := gb363) (o := .cells #[.slice Ao120 t359.length co120] 30 (0, 0)) (by (with_reducible repeat (first | refine blk_drewN ?_ _ | refine blk_drew ?_ | refine blk_alloc ?_ _)); refine blk_put (cs := #[.slice none 0 0]) ?_ 0 _ rfl; (with_reducible repeat (first | refine blk_drewN ?_ _ | refine blk_drew ?_ | refine blk_alloc ?_ _)); exact BK363.out) hb); have n10_ := Aside0.mk (below_step (zb HB.out) hb); clear HO_336000; clear HO_340000; clear HO_345000; clear HO358; clear HO361; clear BK326; clear BK335; clear BK339; clear BK344; clear BK363; clear HB; have HO_336000 := n0_; have HO_340000 := n1_; have HO_345000 := n2_; have HO358 := n3_; have HO361 := n4_; have BK326 := n5_; have BK335 := n6_; have BK339 := n7_; have BK344 := n8_; have BK363 := n9_; have HB := n10_; clear n0_ n1_ n2_ n3_ n4_ n5_ n6_ n7_ n8_ n9_ n10_; (try clear hb); (try clear hb2); (try clear hk); (try clear hi)))
             go_meet
             case rel => exact ⟨_, (true), (by first | rfl | (simp; done) | (simp [*]; done)), H', ⟨by have := HJ12.out; have := HJ61.out; first | omega | exact Nat.le_refl _⟩, ⟨by (try simp only [hl340000_61]); (with_reducible repeat (first | apply Kd.R_alloc | apply Kd.R_drewN | apply Kd.R_drew)); exact Kd.R_mono HO_336000.out (fun _ hk => ⟨hk.1.1.1, ⟨hk.1.1.2, hk.2⟩⟩)⟩, ⟨by (try simp only [hl340000_61]); (with_reducible repeat (first | apply Kd.R_alloc | apply Kd.R_drewN | apply Kd.R_drew)); exact Kd.R_mono HO_340000.out (fun _ hk => ⟨hk.1.1.1, ⟨hk.1.1.2, hk.2⟩⟩)⟩, ⟨by (try simp only [hl340000_61]); (with_reducible repeat (first | apply Kd.R_alloc | apply Kd.R_drewN | apply Kd.R_drew)); exact Kd.R_mono HO_345000.out (fun _ hk => ⟨hk.1.1.1, ⟨hk.1.1.2, hk.2⟩⟩)⟩, ⟨by (try simp only [hl340000_61]); (with_reducible repeat (first | apply Kd.R_alloc | apply Kd.R_drewN | apply Kd.R_drew)); exact Kd.R_mono HO361.out (fun _ hk => ⟨hk.1.1.1.2, ⟨hk.1.1.2, hk.1.2⟩⟩)⟩, ⟨by (try simp only [hl340000_61]); (with_reducible repeat (first | refine blk_drewN ?_ _ | refine blk_drew ?_ | refine blk_alloc ?_ _)); exact BK326.out⟩, ⟨by (try simp only [hl340000_61]); (with_reducible repeat (first | refine blk_drewN ?_ _ | refine blk_drew ?_ | refine blk_alloc ?_ _)); exact BK335.out⟩, ⟨by (try simp only [hl340000_61]); (with_reducible repeat (first | refine blk_drewN ?_ _ | refine blk_drew ?_ | refine blk_alloc ?_ _)); exact BK339.out⟩, ⟨by (try simp only [hl340000_61]); (with_reducible repeat (first | refine blk_drewN ?_ _ | refine blk_drew ?_ | refine blk_alloc ?_ _)); exact BK344.out⟩, ⟨by (try simp only [hl340000_61]); (with_reducible repeat (first | refine blk_drewN ?_ _ | refine blk_drew ?_ | refine blk_alloc ?_ _)); exact BK363.out⟩, ⟨zb HB.out⟩⟩
           case rest =>
            clear HC105
            try clear c1
            try clear c2
            try clear p2
            try clear c3
            try clear c4
            try clear c5
            try clear c5b0
            try clear c6
            try clear c7
            try clear c8
            try clear c9
            try clear c10
            try clear c11
            try clear c12
            try clear c13
            try clear c14
            try clear c15
            try clear c17
            try clear c20
            try clear c21
            try clear c22
            try clear c23
            try clear c29
            try clear c30
            try clear c35
            try clear c36
            try clear c37
            try clear c40
            try clear c41
            try clear c42
            try clear c43
            try clear c45
            try clear c46
            try clear c49
            try clear c50
            try clear c51
            try clear c53
            try clear c54
            try clear c57
            try clear c60
            try clear c67
            try clear c68
            try clear c69
            try clear c72
            try clear c72b0
            try clear c74
            try clear c75
            try clear c76
            try clear c77
            try clear c79
            try clear c80
            try clear c83
            try clear c84
            try clear c85
            try clear c87
            try clear c88
            try clear c91
            try clear c94
            try clear c94b0
            try clear c95
            try clear c96
            try clear c97
            try clear c102
            try clear c102b0
            try clear c102b1
            try clear c106
            try clear c107
            try clear c108
            try clear c113
            try clear c114
            try clear c121
            try clear c122
            try clear c123
            try clear c124
            try clear c127
            try clear c128
            try clear c129
            try clear c130
            try clear c131
            try clear c133
            try clear c134
            try clear c135
            try clear c138
            try clear c139
            try clear c140
            try clear c141
            try clear c143
            try clear c144
            try clear c145
            try clear hcz100_0
            try clear hcz109_0
            try clear hcz111_0
            try clear hcz115_0
            try clear hcz125_0
            try clear hcz132_0
            try clear hcz136_0
            try clear hcz142_0
            try clear hcz146_0
            try clear hcz15_0
            try clear hcz17_0
            try clear hcz24_0
            try clear hcz25_0
            try clear hcz31_0
            try clear hcz38_0
            try clear hcz44_0
            try clear hcz47_0
            try clear hcz52_0
            try clear hcz55_0
            try clear hcz70_0
            try clear hcz78_0
            try clear hcz7_0
            try clear hcz81_0
            try clear hcz86_0
            try clear hcz89_0
            try clear hcz98_0
            try clear hfz100_0
            try clear hfz109_0
            try clear hfz111_0
            try clear hfz115_0
            try clear hfz125_0
            try clear hfz132_0
            try clear hfz136_0
            try clear hfz142_0
            try clear hfz146_0
            try clear hfz15_0
            try clear hfz17_0
            try clear hfz24_0
            try clear hfz25_0
            try clear hfz31_0
            try clear hfz38_0
            try clear hfz44_0
            try clear hfz47_0
            try clear hfz52_0
            try clear hfz55_0
            try clear hfz70_0
            try clear hfz78_0
            try clear hfz7_0
            try clear hfz81_0
            try clear hfz86_0
            try clear hfz89_0
            try clear hfz98_0
            try clear p2
            obtain ⟨kq, x97_104, rfl, HA, HJ104, HO_336000, HO_340000, HO_345000, HO_364000, BK326, BK335, BK339, BK344, BK363, HB⟩ := hcut
            have hl345000_104 := (Kd.R_reads' HO_345000.out).1
            rw [hl345000_104] at HO_345000
            (try simp only [hl345000_104])
            (try simp only [hl345000_104] at BK326)
            (try simp only [hl345000_104] at BK335)
            (try simp only [hl345000_104] at BK339)
            (try simp only [hl345000_104] at BK344)
            (try simp only [hl345000_104] at BK363)
            (try simp only [hl345000_104] at HO_336000)
            (try simp only [hl345000_104] at HO_340000)
            (try simp only [hl345000_104] at HO_364000)
            cases kq with
            | zero => exact absurd HA.out (by simp [laws_FnExactRaise.j2])
            | succ kj104 =>
             have H := HA.out
             clear HA
             simp only [laws_FnExactRaise.j2] at H
             by_cases c148 : x97_104 = true
             ·subst c148
              have H1 : (some false) = some r := by rw [if_pos rfl] at H; exact H
              clear H
              have H := H1
              clear H1
              obtain rfl := Option.some.inj H
              go_wp2
              go_ret
              exact ⟨ze, zb HB.out⟩
             ·replace c148 := Bool.eq_false_iff.mpr c148
              subst c148
              have H1 : ((laws_heldPool.f kj104 t354 1).bind fun t365 => (if t365 < 0 then (some false) else (if t365 = t353 then (some true) else (some false)))) = some r := by rw [if_neg (show ¬ (false = true) by decide)] at H; exact H
              clear H
              have H := H1
              clear H1
              replace H := Option.bind_eq_some_iff.mp H
              obtain ⟨t365, A1490, H⟩ := H
              replace H : (if t365 < 0 then (some false) else (if t365 = t353 then (some true) else (some false))) = some r := H
              have A149 := Aside0.mk A1490
              clear A1490
              by_cases c150 : t365 < 0
              ·rw [if_pos c150] at H
               have c150b0 : decide (t365 < 0) = true := decide_eq_true c150
               clear c150
               obtain rfl := Option.some.inj H
               have hnb151 := NB344_326.out
               have hnc151 := NB326_344.out
               have hnb152 := NB344_335.out
               have hnc152 := NB335_344.out
               have hnb153 := NB344_339.out
               have hnc153 := NB339_344.out
               have hnb154 := NB344_363.out
               have hnc154 := NB363_344.out
               have hcz155_0 : wc.cell? ⟨gb344, 0, none⟩ = some (.slice Ao34 t354.length co34) := (blk_cell BK344.out 0).trans rfl
               have hfz155_0 := blk_frozen BK344.out 0
               go_wp2_with (first | ((with_reducible refine gate_callee (f := 22) rfl ?_); refine goesL_ (some 100) rfl rfl Try.func22 (by kernel_rfl) rfl #[.agg #[.slice Ao34 t354.length co34], .int .i64 1] rfl zl ?_; (with_reducible refine (laws_heldPool.calls kj104 _ _ t354 1 t365 _ ?side1 ?side2 A149.out).mono ?_); (case side1 => exact zc (Kd.R_reads' HO_345000.out).2.2); (case side2 => exact (Kd.R_reads' HO_345000.out).2.1); rintro e w156 ⟨rfl, hb⟩; refine ⟨_, rfl, ?_⟩; have n0_ := Aside0.mk (Kd.R_below (zr HO_336000.out) hb); have n1_ := Aside0.mk (Kd.R_below (zr HO_340000.out) hb); have n2_ := Aside0.mk (Kd.R_below (zr HO_345000.out) hb); have n3_ := Aside0.mk (Kd.R_below (zr HO_364000.out) hb); have n4_ := Aside0.mk (blk_below (zh BK326.out) hb); have n5_ := Aside0.mk (blk_below (zh BK335.out) hb); have n6_ := Aside0.mk (blk_below (zh BK339.out) hb); have n7_ := Aside0.mk (blk_below (zh BK344.out) hb); have n8_ := Aside0.mk (blk_below (zh BK363.out) hb); have n9_ := Aside0.mk (below_step (zb HB.out) hb); clear HO_336000; clear HO_340000; clear HO_345000; clear HO_364000; clear BK326; clear BK335; clear BK339; clear BK344; clear BK363; clear HB; have HO_336000 := n0_; have HO_340000 := n1_; have HO_345000 := n2_; have HO_364000 := n3_; have BK326 := n4_; have BK335 := n5_; have BK339 := n6_; have BK344 := n7_; have BK363 := n8_; have HB := n9_; clear n0_ n1_ n2_ n3_ n4_ n5_ n6_ n7_ n8_ n9_; (try clear hb); (try clear hb2); (try clear hk); (try clear hi)))
               go_ret
               exact ⟨ze, zb HB.out⟩
              ·rw [if_neg c150] at H
               have c150b0 : decide (t365 < 0) = false := decide_eq_false c150
               clear c150
               by_cases c157 : t365 = t353
               ·rw [if_pos c157] at H
                have c157b0 : (t365 == t353) = true := beq_iff_eq.mpr c157
                have c157b1 : (t365 != t353) = false := bne_eq_false_iff_eq.mpr c157
                clear c157
                obtain rfl := Option.some.inj H
                have hnb158 := NB344_326.out
                have hnc158 := NB326_344.out
                have hnb159 := NB344_335.out
                have hnc159 := NB335_344.out
                have hnb160 := NB344_339.out
                have hnc160 := NB339_344.out
                have hnb161 := NB344_363.out
                have hnc161 := NB363_344.out
                have hcz162_0 : wc.cell? ⟨gb344, 0, none⟩ = some (.slice Ao34 t354.length co34) := (blk_cell BK344.out 0).trans rfl
                have hfz162_0 := blk_frozen BK344.out 0
                go_wp2_with (first | ((with_reducible refine gate_callee (f := 22) rfl ?_); refine goesL_ (some 100) rfl rfl Try.func22 (by kernel_rfl) rfl #[.agg #[.slice Ao34 t354.length co34], .int .i64 1] rfl zl ?_; (with_reducible refine (laws_heldPool.calls kj104 _ _ t354 1 t365 _ ?side1 ?side2 A149.out).mono ?_); (case side1 => exact zc (Kd.R_reads' HO_345000.out).2.2); (case side2 => exact (Kd.R_reads' HO_345000.out).2.1); rintro e w163 ⟨rfl, hb⟩; refine ⟨_, rfl, ?_⟩; have n0_ := Aside0.mk (Kd.R_below (zr HO_336000.out) hb); have n1_ := Aside0.mk (Kd.R_below (zr HO_340000.out) hb); have n2_ := Aside0.mk (Kd.R_below (zr HO_345000.out) hb); have n3_ := Aside0.mk (Kd.R_below (zr HO_364000.out) hb); have n4_ := Aside0.mk (blk_below (zh BK326.out) hb); have n5_ := Aside0.mk (blk_below (zh BK335.out) hb); have n6_ := Aside0.mk (blk_below (zh BK339.out) hb); have n7_ := Aside0.mk (blk_below (zh BK344.out) hb); have n8_ := Aside0.mk (blk_below (zh BK363.out) hb); have n9_ := Aside0.mk (below_step (zb HB.out) hb); clear HO_336000; clear HO_340000; clear HO_345000; clear HO_364000; clear BK326; clear BK335; clear BK339; clear BK344; clear BK363; clear HB; have HO_336000 := n0_; have HO_340000 := n1_; have HO_345000 := n2_; have HO_364000 := n3_; have BK326 := n4_; have BK335 := n5_; have BK339 := n6_; have BK344 := n7_; have BK363 := n8_; have HB := n9_; clear n0_ n1_ n2_ n3_ n4_ n5_ n6_ n7_ n8_ n9_; (try clear hb); (try clear hb2); (try clear hk); (try clear hi)))
                go_ret
                exact ⟨ze, zb HB.out⟩
               ·rw [if_neg c157] at H
                have c157b0 : (t365 == t353) = false := beq_eq_false_iff_ne.mpr c157
                have c157b1 : (t365 != t353) = true := bne_iff_ne.mpr c157
                obtain rfl := Option.some.inj H
                have hnb164 := NB344_326.out
                have hnc164 := NB326_344.out
                have hnb165 := NB344_335.out
                have hnc165 := NB335_344.out
                have hnb166 := NB344_339.out
                have hnc166 := NB339_344.out
                have hnb167 := NB344_363.out
                have hnc167 := NB363_344.out
                have hcz168_0 : wc.cell? ⟨gb344, 0, none⟩ = some (.slice Ao34 t354.length co34) := (blk_cell BK344.out 0).trans rfl
                have hfz168_0 := blk_frozen BK344.out 0
                go_wp2_with (first | ((with_reducible refine gate_callee (f := 22) rfl ?_); refine goesL_ (some 100) rfl rfl Try.func22 (by kernel_rfl) rfl #[.agg #[.slice Ao34 t354.length co34], .int .i64 1] rfl zl ?_; (with_reducible refine (laws_heldPool.calls kj104 _ _ t354 1 t365 _ ?side1 ?side2 A149.out).mono ?_); (case side1 => exact zc (Kd.R_reads' HO_345000.out).2.2); (case side2 => exact (Kd.R_reads' HO_345000.out).2.1); rintro e w169 ⟨rfl, hb⟩; refine ⟨_, rfl, ?_⟩; have n0_ := Aside0.mk (Kd.R_below (zr HO_336000.out) hb); have n1_ := Aside0.mk (Kd.R_below (zr HO_340000.out) hb); have n2_ := Aside0.mk (Kd.R_below (zr HO_345000.out) hb); have n3_ := Aside0.mk (Kd.R_below (zr HO_364000.out) hb); have n4_ := Aside0.mk (blk_below (zh BK326.out) hb); have n5_ := Aside0.mk (blk_below (zh BK335.out) hb); have n6_ := Aside0.mk (blk_below (zh BK339.out) hb); have n7_ := Aside0.mk (blk_below (zh BK344.out) hb); have n8_ := Aside0.mk (blk_below (zh BK363.out) hb); have n9_ := Aside0.mk (below_step (zb HB.out) hb); clear HO_336000; clear HO_340000; clear HO_345000; clear HO_364000; clear BK326; clear BK335; clear BK339; clear BK344; clear BK363; clear HB; have HO_336000 := n0_; have HO_340000 := n1_; have HO_345000 := n2_; have HO_364000 := n3_; have BK326 := n4_; have BK335 := n5_; have BK339 := n6_; have BK344 := n7_; have BK363 := n8_; have HB := n9_; clear n0_ n1_ n2_ n3_ n4_ n5_ n6_ n7_ n8_ n9_; (try clear hb); (try clear hb2); (try clear hk); (try clear hi)))
                go_ret
                exact ⟨ze, zb HB.out⟩
          ·rw [if_neg c102] at H
           have c102b0 : (t355 == t353) = false := beq_eq_false_iff_ne.mpr c102
           have c102b1 : (t355 != t353) = true := bne_iff_ne.mpr c102
           obtain rfl := Option.some.inj H
           have hnb170 := NB344_326.out
           have hnc170 := NB326_344.out
           have hnb171 := NB344_335.out
           have hnc171 := NB335_344.out
           have hnb172 := NB344_339.out
           have hnc172 := NB339_344.out
           have hcz173_0 : wc.cell? ⟨gb344, 0, none⟩ = some (.slice Ao34 t340.length co34) := (blk_cell BK344.out 0).trans rfl
           have hfz173_0 := blk_frozen BK344.out 0
           go_wp2_with (first | ((with_reducible refine gate_callee (f := 21) rfl ?_); refine goesL_ (some 72) rfl rfl Try.func21 (by kernel_rfl) rfl #[.agg #[.slice Ao34 t340.length co34], .int .i64 1] rfl zl ?_; (with_reducible refine (laws_markPool.calls kj61 (fun k_ => some k_ = (.slice Ao34 t340.length co34 : Value).ownBlock) (.slice Ao34 t340.length co34) t340 1 t353 t354 w _ ?side1 ?side2 A92.out).mono ?_); (case side1 => repeat (first | (with_reducible first | exact HB.out | apply below_alloc | apply pw_below_drewN | apply below_drew1 | refine below_set ?_ GE326.out | refine below_set ?_ GE335.out | refine below_set ?_ GE339.out | refine below_set ?_ GE344.out) | exact HB.out)); (case side2 => exact Kd.R_tight rfl HO_345000.out); rintro e w174 ⟨rfl, hy0, hb, hkp⟩; refine ⟨_, rfl, ?_⟩; have n0_ := Aside0.mk (Kd.R_mono (ok' := fun k_ => some k_ ≠ (.slice Ao28 t351.length co28 : Value).ownBlock ∧ some k_ ≠ (.slice Ao34 t340.length co34 : Value).ownBlock) (Kd.R_keptB (HO_336000.out) hkp (fun k_ hk_ hs_ => by first | exact (hk_.2) hs_ | (revert hk_; simp only [and_imp]; intros; exact absurd hs_ (by assumption)))) (fun k_ hk_ => by first | exact ⟨hk_.1.1, hk_.1.2⟩ | (revert hk_; simp only [and_imp]; intros; and_intros <;> assumption))); have n1_ := Aside0.mk (Kd.R_mono (ok' := fun k_ => some k_ ≠ (.slice Ao22 t331.length co22 : Value).ownBlock ∧ some k_ ≠ (.slice Ao34 t340.length co34 : Value).ownBlock) (Kd.R_keptB (HO_340000.out) hkp (fun k_ hk_ hs_ => by first | exact (hk_.2) hs_ | (revert hk_; simp only [and_imp]; intros; exact absurd hs_ (by assumption)))) (fun k_ hk_ => by first | exact ⟨hk_.1.1, hk_.1.2⟩ | (revert hk_; simp only [and_imp]; intros; and_intros <;> assumption))); have n2_ := Aside0.mk (Kd.R_reok rfl hy0 (fun k_ e_ => HO_345000.out.1 k_ e_)); have n3_ := Aside0.mk (blk_kept (zh BK326.out) hkp (fun hs_ => (fun e_ => (Kd.R_ne HO_345000.out BK326.out (by decide)) e_) hs_)); have n4_ := Aside0.mk (blk_kept (zh BK335.out) hkp (fun hs_ => (fun e_ => (Kd.R_ne HO_345000.out BK335.out (by decide)) e_) hs_)); have n5_ := Aside0.mk (blk_kept (zh BK339.out) hkp (fun hs_ => (fun e_ => (Kd.R_ne HO_345000.out BK339.out (by decide)) e_) hs_)); have n6_ := Aside0.mk (blk_kept (zh BK344.out) hkp (fun hs_ => (fun e_ => (Kd.R_ne HO_345000.out BK344.out (by decide)) e_) hs_)); have n7_ := Aside0.mk (hb); clear HO_336000; clear HO_340000; clear HO_345000; clear BK326; clear BK335; clear BK339; clear BK344; clear HB; have HO_336000 := n0_; have HO_340000 := n1_; have HO_345000 := n2_; have BK326 := n3_; have BK335 := n4_; have BK339 := n5_; have BK344 := n6_; have HB := n7_; clear n0_ n1_ n2_ n3_ n4_ n5_ n6_ n7_; (try clear hb); (try clear hkp); (try clear hy0); have hcz175_0 : w174.cell? ⟨gb344, 0, none⟩ = some (.slice Ao34 t340.length co34) := (blk_cell BK344.out 0).trans rfl; have hfz175_0 := blk_frozen BK344.out 0) | ((with_reducible refine gate_callee (f := 22) rfl ?_); refine goesL_ (some 75) rfl rfl Try.func22 (by kernel_rfl) rfl #[.agg #[.slice Ao34 t354.length co34], .int .i64 1] rfl (by (try simp only [List.map_toArray, List.map_cons, List.map_nil]); first | done | (rw [show t354.length = t340.length from (Kd.R_reads' HO_345000.out).1.symm] <;> rfl) | rfl | (simp only [List.length_drop, List.length_take]; rfl)) ?_; (with_reducible refine (laws_heldPool.calls kj61 _ _ t354 1 t355 _ ?side1 ?side2 A93.out).mono ?_); (case side1 => exact zc (Kd.R_reads' HO_345000.out).2.2); (case side2 => rw [show t354.length = t340.length from (Kd.R_reads' HO_345000.out).1.symm]; exact (Kd.R_reads' HO_345000.out).2.1); rintro e w176 ⟨rfl, hb⟩; refine ⟨_, rfl, ?_⟩; have n0_ := Aside0.mk (Kd.R_below (zr HO_336000.out) hb); have n1_ := Aside0.mk (Kd.R_below (zr HO_340000.out) hb); have n2_ := Aside0.mk (Kd.R_below (zr HO_345000.out) hb); have n3_ := Aside0.mk (blk_below (zh BK326.out) hb); have n4_ := Aside0.mk (blk_below (zh BK335.out) hb); have n5_ := Aside0.mk (blk_below (zh BK339.out) hb); have n6_ := Aside0.mk (blk_below (zh BK344.out) hb); have n7_ := Aside0.mk (below_step (zb HB.out) hb); clear HO_336000; clear HO_340000; clear HO_345000; clear BK326; clear BK335; clear BK339; clear BK344; clear HB; have HO_336000 := n0_; have HO_340000 := n1_; have HO_345000 := n2_; have BK326 := n3_; have BK335 := n4_; have BK339 := n5_; have BK344 := n6_; have HB := n7_; clear n0_ n1_ n2_ n3_ n4_ n5_ n6_ n7_; (try clear hb); (try clear hb2); (try clear hk); (try clear hi)))
           go_ret
           exact ⟨ze, zb HB.out⟩
     ·replace c60 := Bool.eq_false_iff.mpr c60
      subst c60
      have H1 : (some false) = some r := by rw [if_neg (show ¬ (false = true) by decide)] at H; exact H
      clear H
      have H := H1
      clear H1
      obtain rfl := Option.some.inj H
      try go_wp2
      have n0_ := Aside0.mk (Kd.R_drew HO_336000.out)
      have n1_ := Aside0.mk (Kd.R_drew HO_340000.out)
      have n2_ := Aside0.mk (Kd.R_drew HO_345000.out)
      have n3_ := Aside0.mk (blk_drew BK326.out)
      have n4_ := Aside0.mk (blk_drew BK335.out)
      have n5_ := Aside0.mk (blk_drew BK339.out)
      have n6_ := Aside0.mk (blk_drew BK344.out)
      have n7_ := Aside0.mk (below_drew1 HB.out)
      clear HO_336000
      clear HO_340000
      clear HO_345000
      clear BK326
      clear BK335
      clear BK339
      clear BK344
      clear HB
      have HO_336000 := n0_
      have HO_340000 := n1_
      have HO_345000 := n2_
      have BK326 := n3_
      have BK335 := n4_
      have BK339 := n5_
      have BK344 := n6_
      have HB := n7_
      clear n0_ n1_ n2_ n3_ n4_ n5_ n6_ n7_
      refine start_ (n := 5) (S := fun w' => w'.cell? ⟨gb339, 0, none⟩ = some (.slice Ao28 t336.length co28) ∧ w'.cell? ⟨gb326, 0, none⟩ = some (.slice A0_0 l0_0.length c0_0)) (ds := []) #[false, false, false, false, false] (by kernel_rfl) rfl rfl ⟨(blk_cell BK339.out 0).trans rfl, (blk_cell BK326.out 0).trans rfl⟩ (fun hHeld => ?_)
      generalize wc.drew = w177 at HO_336000 HO_340000 HO_345000 BK326 BK335 BK339 BK344 HB hHeld ⊢
      refine take_ (i := 0) (N := some 49) (v := ?_) (a' := ?_) #[true, false, false, false, false] rfl rfl (by kernel_rfl) (fun _ _ _ h => h) (Or.inl ⟨by rfl, ?_⟩) hHeld ?_ ?_
      rotate_left
      ·rintro w' ⟨s0, s1⟩
       go_simp
       with_reducible rfl
      rotate_left
      ·simp only [Act.put, List.setIfInBounds_toArray, List.set_cons_zero, List.set_cons_succ, i64_w, i32_w]
       rfl
      refine take_ (i := 1) (N := some 50) (v := ?_) (a' := ?_) #[true, true, false, false, false] rfl rfl (by kernel_rfl) (fun _ _ _ h => h) (Or.inl ⟨by rfl, ?_⟩) hHeld ?_ ?_
      rotate_left
      ·rintro w' ⟨s0, s1⟩
       go_simp
       with_reducible rfl
      rotate_left
      ·simp only [Act.put, List.setIfInBounds_toArray, List.set_cons_zero, List.set_cons_succ, i64_w, i32_w]
       rfl
      refine one_ (i := 2) (N := some 51) #[true, true, true, false, false] rfl rfl (by kernel_rfl) (by decide) (fun K hK => ?_)
      refine goes_ Try.func17 (by kernel_rfl) rfl #[.agg #[.slice A0_0 l0_0.length c0_0]] (by rfl) rfl rfl zl ?_
      with_reducible refine (laws_toPool.calls kj12 _ _ l0_0 t346 _ ?side1 ?side2 A58.out).mono ?_
      (case side1 => exact zc (Kd.C_below HR0_0.out HB.out))
      (case side2 => exact HC0_0.out)
      rintro e w178 ⟨v347, rfl, ho0, hb⟩
      refine ⟨_, rfl, ?_⟩
      have n0_ := Aside0.mk (Kd.R_elder' (zr HO_336000.out) (Kd.R_base ho0) hb)
      have n1_ := Aside0.mk (Kd.R_elder' (zr HO_340000.out) (Kd.R_base ho0) hb)
      have n2_ := Aside0.mk (Kd.R_elder' (zr HO_345000.out) (Kd.R_base ho0) hb)
      have n3_ := Aside0.mk (Kd.R_lower (Kd.R_new' (Kd.R_new' (Kd.R_new' ho0 (Kd.R_lt (zr HO_336000.out))) (Kd.R_lt (zr HO_340000.out))) (Kd.R_lt (zr HO_345000.out))) (below_size (zb HB.out)))
      have n4_ := Aside0.mk (blk_below (zh BK326.out) hb)
      have n5_ := Aside0.mk (blk_below (zh BK335.out) hb)
      have n6_ := Aside0.mk (blk_below (zh BK339.out) hb)
      have n7_ := Aside0.mk (blk_below (zh BK344.out) hb)
      have n8_ := Aside0.mk (below_step (zb HB.out) hb)
      clear HO_336000
      clear HO_340000
      clear HO_345000
      clear BK326
      clear BK335
      clear BK339
      clear BK344
      clear HB
      have HO_336000 := n0_
      have HO_340000 := n1_
      have HO_345000 := n2_
      have HO348 := n3_
      have BK326 := n4_
      have BK335 := n5_
      have BK339 := n6_
      have BK344 := n7_
      have HB := n8_
      clear n0_ n1_ n2_ n3_ n4_ n5_ n6_ n7_ n8_
      (try clear hb)
      (try clear hb2)
      (try clear hk)
      (try clear hi)
      (try clear ho0)
      obtain ⟨Ao179, co179, eo179⟩ := Kd.R_slice HO348.out
      (first | subst eo179 | (injection eo179 with f1_ f2_ f3_; have f4_ := f1_.symm; have f5_ := f3_.symm; clear f1_ f2_ f3_; subst f4_; subst f5_))
      refine hK.out _ _ ⟨(blk_cell BK339.out 0).trans rfl, (blk_cell BK326.out 0).trans rfl⟩ (fun hHeld => ?_)
      clear hK K
      refine norm_ (a' := ?_) ?_ ?_
      rotate_left
      ·show Act.put _ (some 51) _ = _
       simp only [Act.put, List.setIfInBounds_toArray, List.set_cons_zero, List.set_cons_succ, i64_w, i32_w]
       rfl
      refine one_ (i := 3) (N := some 52) #[true, true, true, true, false] rfl rfl (by kernel_rfl) (by decide) (fun K hK => ?_)
      refine goes_ Try.func20 (by kernel_rfl) rfl #[.agg #[.slice Ao28 t336.length co28], .agg #[.slice Ao179 t346.length co179]] (by rfl) rfl rfl zl ?_
      with_reducible refine (laws_eqPool.calls kj12 _ _ t336 _ _ t346 false _ ?side1 ?side2 ?side3 ?side4 A59.out).mono ?_
      (case side1 => exact zc (Kd.R_reads' HO_340000.out).2.2)
      (case side2 => exact (Kd.R_reads' HO_340000.out).2.1)
      (case side3 => exact zc (Kd.R_reads' HO348.out).2.2)
      (case side4 => exact (Kd.R_reads' HO348.out).2.1)
      rintro e w180 ⟨rfl, hb⟩
      refine ⟨_, rfl, ?_⟩
      have n0_ := Aside0.mk (Kd.R_below (zr HO_336000.out) hb)
      have n1_ := Aside0.mk (Kd.R_below (zr HO_340000.out) hb)
      have n2_ := Aside0.mk (Kd.R_below (zr HO_345000.out) hb)
      have n3_ := Aside0.mk (Kd.R_below (zr HO348.out) hb)
      have n4_ := Aside0.mk (blk_below (zh BK326.out) hb)
      have n5_ := Aside0.mk (blk_below (zh BK335.out) hb)
      have n6_ := Aside0.mk (blk_below (zh BK339.out) hb)
      have n7_ := Aside0.mk (blk_below (zh BK344.out) hb)
      have n8_ := Aside0.mk (below_step (zb HB.out) hb)
      clear HO_336000
      clear HO_340000
      clear HO_345000
      clear HO348
      clear BK326
      clear BK335
      clear BK339
      clear BK344
      clear HB
      have HO_336000 := n0_
      have HO_340000 := n1_
      have HO_345000 := n2_
      have HO348 := n3_
      have BK326 := n4_
      have BK335 := n5_
      have BK339 := n6_
      have BK344 := n7_
      have HB := n8_
      clear n0_ n1_ n2_ n3_ n4_ n5_ n6_ n7_ n8_
      (try clear hb)
      (try clear hb2)
      (try clear hk)
      (try clear hi)
      refine hK.out _ _ ⟨(blk_cell BK339.out 0).trans rfl, (blk_cell BK326.out 0).trans rfl⟩ (fun hHeld => ?_)
      clear hK K
      refine norm_ (a' := ?_) ?_ ?_
      rotate_left
      ·show Act.put _ (some 52) _ = _
       simp only [Act.put, List.setIfInBounds_toArray, List.set_cons_zero, List.set_cons_succ, i64_w, i32_w]
       rfl
      refine pure_ (i := 4) (N := some 53) (v := ?_) (a' := ?_) #[true, true, true, true, true] rfl rfl (by kernel_rfl) (fun _ _ _ h => h) (Or.inl ⟨by rfl, ?_⟩) ?_ ?_
      rotate_left
      ·intro w'
       go_simp
       with_reducible rfl
      rotate_left
      ·simp only [Act.put, List.setIfInBounds_toArray, List.set_cons_zero, List.set_cons_succ, i64_w, i32_w]
       rfl
      refine done_ (by kernel_rfl) ?_
      try go_wp2
      go_ret
      exact ⟨ze, zb HB.out⟩

end Go.Proofs.Ytafahnellnfclaa.B
