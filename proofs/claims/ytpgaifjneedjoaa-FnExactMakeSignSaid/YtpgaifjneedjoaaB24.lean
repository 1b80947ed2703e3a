-- Written by this session's program (wip/tools/gprint.py over the kit's print) out of the translation; Lean checks it.
import Derived.Test.YtpgaifjneedjoaaB0
import Derived.Test.YtpgaifjneedjoaaB2
import Derived.Test.YtpgaifjneedjoaaB5
import Derived.Test.YtpgaifjneedjoaaB10
import Derived.Test.YtpgaifjneedjoaaB11
import Derived.Test.YtpgaifjneedjoaaB23
namespace Go.Proofs.Ytpgaifjneedjoaa.B
open Go.RowKit Go.Proofs.YtpgaifjneedjoaaW.PrintWords Go.Proofs.YtpgaifjneedjoaaW.PrintLast Go.Proofs.YtpgaifjneedjoaaW.PrintMore
attribute [local go_sem] max2_int min2_int max_two min_two max_three min_three max_four min_four   -- for this text's walks alone
set_option linter.unusedVariables false
set_option linter.unusedSimpArgs false
set_option maxRecDepth 100000

/-! ### laws_FnExactMakeSign: function 9 -/
mutual
def laws_FnExactMakeSign.j0 : Nat → Int → Int → Int → Int → Bool → List (S74) → List (S49) → List (S49) → List (S49) → Option (Bool)
 | 0, _, _, _, _, _, _, _, _, _ => none
 | k + 1, x1, x2, x9, x12, x48, x525000, x534000, x538000, x543000 => if x48 = true then (some false) else ((laws_toPool.f k x525000).bind fun t544 => ((laws_eqPool.f k x538000 t544).bind fun t547 => (if t547 = true then ((laws_markPool.f k x538000 1).bind fun bt548 => (if bt548.1 < 0 then (laws_FnExactMakeSign.j1 k x1 x2 x9 true x525000 x534000 x543000) else ((laws_eqPool.f k x543000 x534000).bind fun t550 => (if t550 = true then (laws_FnExactMakeSign.j1 k x1 x2 x9 (x12 != x9) x525000 x534000 x543000) else (laws_FnExactMakeSign.j1 k x1 x2 x9 true x525000 x534000 x543000))))) else (some false))))
def laws_FnExactMakeSign.j1 : Nat → Int → Int → Int → Bool → List (S74) → List (S49) → List (S49) → Option (Bool)
 | 0, _, _, _, _, _, _, _ => none
 | k + 1, x1, x2, x9, x69, x525000, x534000, x543000 => if x69 = true then (some false) else ((laws_markPool.f k x543000 1).bind fun bt551 => ((laws_heldPool.f k bt551.2 1).bind fun t553 => (if t553 < 0 then (some false) else (if t553 = bt551.1 then ((laws_toPool.f k x525000).bind fun t554 => ((impl_MakeSign.f k t554 x1 x2).bind fun bt557 => ((laws_eqPool.f k bt557.1 x534000).bind fun t562 => (if t562 = true then (laws_FnExactMakeSign.j2 k bt551.1 (bt557.2 != x9) bt551.2) else (laws_FnExactMakeSign.j2 k bt551.1 true bt551.2))))) else (some false)))))
def laws_FnExactMakeSign.j2 : Nat → Int → Bool → List (S49) → Option (Bool)
 | 0, _, _, _ => none
 | k + 1, x14, x97, x543000 => if x97 = true then (some false) else ((laws_heldPool.f k x543000 1).bind fun t563 => (if t563 < 0 then (some false) else (if t563 = x14 then (some true) else (some false))))
end
def laws_FnExactMakeSign.f (k : Nat) (l0_0 : List (S74)) (a1 : Int) (a2 : Int) : Option (Bool) := (laws_szPool.f l0_0 1048576).bind fun t525 => (if t525 < 0 then (some true) else ((laws_toPool.f k l0_0).bind fun t526 => ((spec_MakeSign.f k t526 a1 a2).bind fun bt529 => ((laws_toPool.f k l0_0).bind fun t534 => ((impl_MakeSign.f k t534 a1 a2).bind fun bt538 => ((laws_eqPool.f k bt538.1 bt529.1).bind fun t543 => (if t543 = true then (laws_FnExactMakeSign.j0 k a1 a2 bt529.2 bt538.2 (bt538.2 != bt529.2) l0_0 bt529.1 t534 bt538.1) else (laws_FnExactMakeSign.j0 k a1 a2 bt529.2 bt538.2 true l0_0 bt529.1 t534 bt538.1))))))))
theorem laws_FnExactMakeSign.mono_l : ∀ k, (∀ y0 y1 y2 y3 y4 y5 y6 y7 y8, LeO (laws_FnExactMakeSign.j0 k y0 y1 y2 y3 y4 y5 y6 y7 y8) (laws_FnExactMakeSign.j0 (k + 1) y0 y1 y2 y3 y4 y5 y6 y7 y8)) ∧ (∀ y0 y1 y2 y3 y4 y5 y6, LeO (laws_FnExactMakeSign.j1 k y0 y1 y2 y3 y4 y5 y6) (laws_FnExactMakeSign.j1 (k + 1) y0 y1 y2 y3 y4 y5 y6)) ∧ (∀ y0 y1 y2, LeO (laws_FnExactMakeSign.j2 k y0 y1 y2) (laws_FnExactMakeSign.j2 (k + 1) y0 y1 y2))
 | 0 => ⟨fun _ _ _ _ _ _ _ _ _ r h => by simp [laws_FnExactMakeSign.j0] at h, fun _ _ _ _ _ _ _ r h => by simp [laws_FnExactMakeSign.j1] at h, fun _ _ _ r h => by simp [laws_FnExactMakeSign.j2] at h⟩
 | k + 1 => by
  obtain ⟨ih0, ih1, ih2⟩ := laws_FnExactMakeSign.mono_l k
  refine ⟨?_, ?_, ?_⟩
  ·intro y0 y1 y2 y3 y4 y5 y6 y7 y8
   unfold laws_FnExactMakeSign.j0
   repeat' first
   | (with_reducible exact ih0 _ _ _ _ _ _ _ _ _)
   | (with_reducible exact ih1 _ _ _ _ _ _ _)
   | (with_reducible exact ih2 _ _ _)
   | (with_reducible exact impl_MakeSign.mono _ _ _ _)
   | (with_reducible exact laws_eqPool.mono _ _ _)
   | (with_reducible exact laws_heldPool.mono _ _ _)
   | (with_reducible exact laws_markPool.mono _ _ _)
   | (with_reducible exact laws_toPool.mono _ _)
   | (with_reducible exact spec_MakeSign.mono _ _ _ _)
   | (with_reducible exact LeO.refl _)
   | (with_reducible exact LeO.none _)
   | (with_reducible refine LeO.ite ?_ ?_)
   | (with_reducible refine LeO.bind ?_ (fun _ => ?_))
   | exact ih0 _ _ _ _ _ _ _ _ _
   | exact ih1 _ _ _ _ _ _ _
   | exact ih2 _ _ _
   | exact impl_MakeSign.mono _ _ _ _
   | exact laws_eqPool.mono _ _ _
   | exact laws_heldPool.mono _ _ _
   | exact laws_markPool.mono _ _ _
   | exact laws_toPool.mono _ _
   | exact spec_MakeSign.mono _ _ _ _
   | exact LeO.none _
   | refine LeO.ite ?_ ?_
   | refine LeO.bind ?_ (fun _ => ?_)
  ·intro y0 y1 y2 y3 y4 y5 y6
   unfold laws_FnExactMakeSign.j1
   repeat' first
   | (with_reducible exact ih0 _ _ _ _ _ _ _ _ _)
   | (with_reducible exact ih1 _ _ _ _ _ _ _)
   | (with_reducible exact ih2 _ _ _)
   | (with_reducible exact impl_MakeSign.mono _ _ _ _)
   | (with_reducible exact laws_eqPool.mono _ _ _)
   | (with_reducible exact laws_heldPool.mono _ _ _)
   | (with_reducible exact laws_markPool.mono _ _ _)
   | (with_reducible exact laws_toPool.mono _ _)
   | (with_reducible exact spec_MakeSign.mono _ _ _ _)
   | (with_reducible exact LeO.refl _)
   | (with_reducible exact LeO.none _)
   | (with_reducible refine LeO.ite ?_ ?_)
   | (with_reducible refine LeO.bind ?_ (fun _ => ?_))
   | exact ih0 _ _ _ _ _ _ _ _ _
   | exact ih1 _ _ _ _ _ _ _
   | exact ih2 _ _ _
   | exact impl_MakeSign.mono _ _ _ _
   | exact laws_eqPool.mono _ _ _
   | exact laws_heldPool.mono _ _ _
   | exact laws_markPool.mono _ _ _
   | exact laws_toPool.mono _ _
   | exact spec_MakeSign.mono _ _ _ _
   | exact LeO.none _
   | refine LeO.ite ?_ ?_
   | refine LeO.bind ?_ (fun _ => ?_)
  ·intro y0 y1 y2
   unfold laws_FnExactMakeSign.j2
   repeat' first
   | (with_reducible exact ih0 _ _ _ _ _ _ _ _ _)
   | (with_reducible exact ih1 _ _ _ _ _ _ _)
   | (with_reducible exact ih2 _ _ _)
   | (with_reducible exact impl_MakeSign.mono _ _ _ _)
   | (with_reducible exact laws_eqPool.mono _ _ _)
   | (with_reducible exact laws_heldPool.mono _ _ _)
   | (with_reducible exact laws_markPool.mono _ _ _)
   | (with_reducible exact laws_toPool.mono _ _)
   | (with_reducible exact spec_MakeSign.mono _ _ _ _)
   | (with_reducible exact LeO.refl _)
   | (with_reducible exact LeO.none _)
   | (with_reducible refine LeO.ite ?_ ?_)
   | (with_reducible refine LeO.bind ?_ (fun _ => ?_))
   | exact ih0 _ _ _ _ _ _ _ _ _
   | exact ih1 _ _ _ _ _ _ _
   | exact ih2 _ _ _
   | exact impl_MakeSign.mono _ _ _ _
   | exact laws_eqPool.mono _ _ _
   | exact laws_heldPool.mono _ _ _
   | exact laws_markPool.mono _ _ _
   | exact laws_toPool.mono _ _
   | exact spec_MakeSign.mono _ _ _ _
   | exact LeO.none _
   | refine LeO.ite ?_ ?_
   | refine LeO.bind ?_ (fun _ => ?_)
theorem laws_FnExactMakeSign.mono : ∀ a0 a1 a2 k, LeO (laws_FnExactMakeSign.f k a0 a1 a2) (laws_FnExactMakeSign.f (k + 1) a0 a1 a2) := by
 intro a0 a1 a2 k
 obtain ⟨ih0, ih1, ih2⟩ := laws_FnExactMakeSign.mono_l k
 unfold laws_FnExactMakeSign.f
 repeat' first
   | (with_reducible exact ih0 _ _ _ _ _ _ _ _ _)
   | (with_reducible exact ih1 _ _ _ _ _ _ _)
   | (with_reducible exact ih2 _ _ _)
   | (with_reducible exact impl_MakeSign.mono _ _ _ _)
   | (with_reducible exact laws_eqPool.mono _ _ _)
   | (with_reducible exact laws_heldPool.mono _ _ _)
   | (with_reducible exact laws_markPool.mono _ _ _)
   | (with_reducible exact laws_toPool.mono _ _)
   | (with_reducible exact spec_MakeSign.mono _ _ _ _)
   | (with_reducible exact LeO.refl _)
   | (with_reducible exact LeO.none _)
   | (with_reducible refine LeO.ite ?_ ?_)
   | (with_reducible refine LeO.bind ?_ (fun _ => ?_))
   | exact ih0 _ _ _ _ _ _ _ _ _
   | exact ih1 _ _ _ _ _ _ _
   | exact ih2 _ _ _
   | exact impl_MakeSign.mono _ _ _ _
   | exact laws_eqPool.mono _ _ _
   | exact laws_heldPool.mono _ _ _
   | exact laws_markPool.mono _ _ _
   | exact laws_toPool.mono _ _
   | exact spec_MakeSign.mono _ _ _ _
   | exact LeO.none _
   | refine LeO.ite ?_ ?_
   | refine LeO.bind ?_ (fun _ => ?_)
set_option maxHeartbeats 8000000 in
set_option maxRecDepth 100000 in
theorem laws_FnExactMakeSign.calls (k : Nat) (A0_0 : Option Addr) (c0_0 : Nat) (l0_0 : List (S74)) (a1 : Int) (a2 : Int) (r : Bool) (w : World) (hr0_0 : Kd.C k74 w A0_0 l0_0.length l0_0) (hc0_0 : l0_0.length ≤ c0_0) (h : laws_FnExactMakeSign.f k l0_0 a1 a2 = some r) :
  Calls Try.prog 9 #[.agg #[.slice A0_0 l0_0.length c0_0], .int .i64 a1, .int .i64 a2] w fun e w' => e = .returned (.bool r) ∧ Below w.heap.size w w' := by
 have hu24 := Try.underlying24
 have hu28 := Try.underlying28
 have HR0_0 := Aside0.mk hr0_0
 have HC0_0 := Aside0.mk hc0_0
 clear hr0_0 hc0_0
 have HB := Aside0.mk (Below.refl w.heap.size w)
 have H : ((laws_szPool.f l0_0 1048576).bind fun t525 => (if t525 < 0 then (some true) else ((laws_toPool.f k l0_0).bind fun t526 => ((spec_MakeSign.f k t526 a1 a2).bind fun bt529 => ((laws_toPool.f k l0_0).bind fun t534 => ((impl_MakeSign.f k t534 a1 a2).bind fun bt538 => ((laws_eqPool.f k bt538.1 bt529.1).bind fun t543 => (if t543 = true then (laws_FnExactMakeSign.j0 k a1 a2 bt529.2 bt538.2 (bt538.2 != bt529.2) l0_0 bt529.1 t534 bt538.1) else (laws_FnExactMakeSign.j0 k a1 a2 bt529.2 bt538.2 true l0_0 bt529.1 t534 bt538.1))))))))) = some r := h
 clear h
 replace H := Option.bind_eq_some_iff.mp H
 obtain ⟨t525, A40, H⟩ := H
 replace H : (if t525 < 0 then (some true) else ((laws_toPool.f k l0_0).bind fun t526 => ((spec_MakeSign.f k t526 a1 a2).bind fun bt529 => ((laws_toPool.f k l0_0).bind fun t534 => ((impl_MakeSign.f k t534 a1 a2).bind fun bt538 => ((laws_eqPool.f k bt538.1 bt529.1).bind fun t543 => (if t543 = true then (laws_FnExactMakeSign.j0 k a1 a2 bt529.2 bt538.2 (bt538.2 != bt529.2) l0_0 bt529.1 t534 bt538.1) else (laws_FnExactMakeSign.j0 k a1 a2 bt529.2 bt538.2 true l0_0 bt529.1 t534 bt538.1)))))))) = some r := H
 have A4 := Aside0.mk A40
 clear A40
 by_cases c5 : t525 < 0
 ·rw [if_pos c5] at H
  have c5b0 : decide (t525 < 0) = true := decide_eq_true c5
  clear c5
  obtain rfl := Option.some.inj H
  go_enter Try.func9, Try.ntmps9
  go_wp2_with (first | ((with_reducible refine gate_dst (N := 3) rfl ?_); refine box_event ?hg (N := 3) ?hd (cs := #[.slice A0_0 l0_0.length c0_0]) (t := 24) ?hr ?_; (case hd => rfl); (case hg => rfl); (case hr => first | (go_simp; done) | (go_simp; rfl)); intro gb524 hg w6 hbox hb; have n0_ := Aside0.mk (below_step (zb HB.out) hb); have n1_ := Aside0.mk (hbox); have n2_ := Aside0.mk ((by rw [hg]; exact (below_size (zb HB.out)) : w.heap.size ≤ gb524)); have n3_ := Aside0.mk ((by rw [hg]; exact (below_size (zb HB.out)) : w.heap.size ≤ gb524)); clear HB; have HB := n0_; have BK524 := n1_; have GW524 := n2_; have GE524 := n3_; clear n0_ n1_ n2_ n3_; clear hb hbox hg; have hcz7_0 : w6.cell? ⟨gb524, 0, none⟩ = some (.slice A0_0 l0_0.length c0_0) := (blk_cell BK524.out 0).trans rfl; have hfz7_0 := blk_frozen BK524.out 0) | ((with_reducible refine gate_callee (f := 13) rfl ?_); refine goesL_ (some 20) rfl rfl Try.func13 (by kernel_rfl) rfl #[.agg #[.slice A0_0 l0_0.length c0_0], .int .i64 1048576] rfl zl ?_; (with_reducible refine (laws_szPool.calls _ _ l0_0 1048576 t525 _ ?side1 ?side2 A4.out).mono ?_); (case side1 => exact zc (Kd.C_below HR0_0.out HB.out)); (case side2 => exact HC0_0.out); rintro e w8 ⟨rfl, hb⟩; refine ⟨_, rfl, ?_⟩; have n0_ := Aside0.mk (blk_below (zh BK524.out) hb); have n1_ := Aside0.mk (below_step (zb HB.out) hb); clear BK524; clear HB; have BK524 := n0_; have HB := n1_; clear n0_ n1_; (try clear hb); (try clear hb2); (try clear hk); (try clear hi)))
  go_ret
  exact ⟨ze, zb HB.out⟩
 ·rw [if_neg c5] at H
  have c5b0 : decide (t525 < 0) = false := decide_eq_false c5
  clear c5
  replace H := Option.bind_eq_some_iff.mp H
  obtain ⟨t526, A90, H⟩ := H
  replace H : ((spec_MakeSign.f k t526 a1 a2).bind fun bt529 => ((laws_toPool.f k l0_0).bind fun t534 => ((impl_MakeSign.f k t534 a1 a2).bind fun bt538 => ((laws_eqPool.f k bt538.1 bt529.1).bind fun t543 => (if t543 = true then (laws_FnExactMakeSign.j0 k a1 a2 bt529.2 bt538.2 (bt538.2 != bt529.2) l0_0 bt529.1 t534 bt538.1) else (laws_FnExactMakeSign.j0 k a1 a2 bt529.2 bt538.2 true l0_0 bt529.1 t534 bt538.1)))))) = some r := H
  have A9 := Aside0.mk A90
  clear A90
  replace H := Option.bind_eq_some_iff.mp H
  obtain ⟨⟨t529, t532⟩, A100, H⟩ := H
  replace H : ((laws_toPool.f k l0_0).bind fun t534 => ((impl_MakeSign.f k t534 a1 a2).bind fun bt538 => ((laws_eqPool.f k bt538.1 t529).bind fun t543 => (if t543 = true then (laws_FnExactMakeSign.j0 k a1 a2 t532 bt538.2 (bt538.2 != t532) l0_0 t529 t534 bt538.1) else (laws_FnExactMakeSign.j0 k a1 a2 t532 bt538.2 true l0_0 t529 t534 bt538.1))))) = some r := H
  have A10 := Aside0.mk A100
  clear A100
  replace H := Option.bind_eq_some_iff.mp H
  obtain ⟨t534, A110, H⟩ := H
  replace H : ((impl_MakeSign.f k t534 a1 a2).bind fun bt538 => ((laws_eqPool.f k bt538.1 t529).bind fun t543 => (if t543 = true then (laws_FnExactMakeSign.j0 k a1 a2 t532 bt538.2 (bt538.2 != t532) l0_0 t529 t534 bt538.1) else (laws_FnExactMakeSign.j0 k a1 a2 t532 bt538.2 true l0_0 t529 t534 bt538.1)))) = some r := H
  have A11 := Aside0.mk A110
  clear A110
  replace H := Option.bind_eq_some_iff.mp H
  obtain ⟨⟨t538, t541⟩, A120, H⟩ := H
  replace H : ((laws_eqPool.f k t538 t529).bind fun t543 => (if t543 = true then (laws_FnExactMakeSign.j0 k a1 a2 t532 t541 (t541 != t532) l0_0 t529 t534 t538) else (laws_FnExactMakeSign.j0 k a1 a2 t532 t541 true l0_0 t529 t534 t538))) = some r := H
  have A12 := Aside0.mk A120
  clear A120
  have HC13 := Aside0.mk H
  clear H
  go_enter Try.func9, Try.ntmps9
  go_upto_region 8 with (first | ((with_reducible refine gate_dst (N := 3) rfl ?_); refine box_event ?hg (N := 3) ?hd (cs := #[.slice A0_0 l0_0.length c0_0]) (t := 24) ?hr ?_; (case hd => rfl); (case hg => rfl); (case hr => first | (go_simp; done) | (go_simp; rfl)); intro gb524 hg w14 hbox hb; have n0_ := Aside0.mk (below_step (zb HB.out) hb); have n1_ := Aside0.mk (hbox); have n2_ := Aside0.mk ((by rw [hg]; exact (below_size (zb HB.out)) : w.heap.size ≤ gb524)); have n3_ := Aside0.mk ((by rw [hg]; exact (below_size (zb HB.out)) : w.heap.size ≤ gb524)); clear HB; have HB := n0_; have BK524 := n1_; have GW524 := n2_; have GE524 := n3_; clear n0_ n1_ n2_ n3_; clear hb hbox hg; have hcz15_0 : w14.cell? ⟨gb524, 0, none⟩ = some (.slice A0_0 l0_0.length c0_0) := (blk_cell BK524.out 0).trans rfl; have hfz15_0 := blk_frozen BK524.out 0) | ((with_reducible refine gate_callee (f := 13) rfl ?_); refine goesL_ (some 20) rfl rfl Try.func13 (by kernel_rfl) rfl #[.agg #[.slice A0_0 l0_0.length c0_0], .int .i64 1048576] rfl zl ?_; (with_reducible refine (laws_szPool.calls _ _ l0_0 1048576 t525 _ ?side1 ?side2 A4.out).mono ?_); (case side1 => exact zc (Kd.C_below HR0_0.out HB.out)); (case side2 => exact HC0_0.out); rintro e w16 ⟨rfl, hb⟩; refine ⟨_, rfl, ?_⟩; have n0_ := Aside0.mk (blk_below (zh BK524.out) hb); have n1_ := Aside0.mk (below_step (zb HB.out) hb); clear BK524; clear HB; have BK524 := n0_; have HB := n1_; clear n0_ n1_; (try clear hb); (try clear hb2); (try clear hk); (try clear hi); have hcz17_0 : w16.cell? ⟨gb524, 0, none⟩ = some (.slice A0_0 l0_0.length c0_0) := (blk_cell BK524.out 0).trans rfl; have hfz17_0 := blk_frozen BK524.out 0) | ((with_reducible refine gate_callee (f := 15) rfl ?_); refine goesL_ (some 25) rfl rfl Try.func15 (by kernel_rfl) rfl #[.agg #[.slice A0_0 l0_0.length c0_0]] rfl zl ?_; (with_reducible refine (laws_toPool.calls k _ _ l0_0 t526 _ ?side1 ?side2 A9.out).mono ?_); (case side1 => exact zc (Kd.C_below HR0_0.out HB.out)); (case side2 => exact HC0_0.out); rintro e w18 ⟨v527, rfl, ho0, hb⟩; refine ⟨_, rfl, ?_⟩; have n0_ := Aside0.mk (Kd.R_lower ho0 (below_size (zb HB.out))); have n1_ := Aside0.mk (blk_below (zh BK524.out) hb); have n2_ := Aside0.mk (below_step (zb HB.out) hb); clear BK524; clear HB; have HO528 := n0_; have BK524 := n1_; have HB := n2_; clear n0_ n1_ n2_; (try clear hb); (try clear hb2); (try clear hk); (try clear hi); (try clear ho0); obtain ⟨Ao19, co19, eo19⟩ := Kd.R_slice HO528.out; subst eo19) | ((with_reducible refine gate_callee (f := 30) rfl ?_); refine goesL_ (some 28) rfl rfl Try.func30 (by kernel_rfl) rfl #[.agg #[.slice Ao19 t526.length co19], .int .i64 a1, .int .i64 a2] rfl zl ?_; (with_reducible refine (spec_MakeSign.calls k (fun k_ => some k_ = (.slice Ao19 t526.length co19 : Value).ownBlock) (.slice Ao19 t526.length co19) t526 a1 a2 t529 t532 w _ ?side1 ?side2 A10.out).mono ?_); (case side1 => repeat (first | (with_reducible first | exact HB.out | apply below_alloc | apply pw_below_drewN | apply below_drew1 | refine below_set ?_ GE524.out) | exact HB.out)); (case side2 => exact Kd.R_tight rfl HO528.out); rintro e w20 ⟨v530, rfl, ho0, hb, hkp⟩; refine ⟨_, rfl, ?_⟩; have n0_ := Aside0.mk (blk_kept (zh BK524.out) hkp (fun hs_ => (fun e_ => (Kd.R_ne HO528.out BK524.out (by decide)) e_) hs_)); have n1_ := Aside0.mk (Kd.R_mono (ok' := fun k_ => True) ho0 (fun k_ hk_ => trivial)); have n2_ := Aside0.mk (hb); clear BK524; clear HB; clear HO528; have BK524 := n0_; have HO531 := n1_; have HB := n2_; clear n0_ n1_ n2_; (try clear hb); (try clear hkp); (try clear ho0)) | ((with_reducible refine gate_dst (N := 8) rfl ?_); refine box_event ?hg (N := 8) ?hd (cs := #[.slice none 0 0]) (t := 28) ?hr ?_; (case hd => rfl); (case hg => rfl); (case hr => first | (go_simp; done) | (go_simp; rfl)); intro gb533 hg w21 hbox hb; have n0_ := Aside0.mk (Kd.R_below (zr HO531.out) hb); have n1_ := Aside0.mk (blk_below (zh BK524.out) hb); have n2_ := Aside0.mk (below_step (zb HB.out) hb); have n3_ := Aside0.mk (hbox); have n4_ := Aside0.mk ((by rw [hg]; exact (below_size (zb HB.out)) : w.heap.size ≤ gb533)); have n5_ := Aside0.mk ((by rw [hg]; exact (below_size (zb HB.out)) : w.heap.size ≤ gb533)); have n6_ := Aside0.mk ((by rw [hg]; exact Nat.ne_of_lt (blk_lt (zh BK524.out)) : gb524 ≠ gb533)); have n7_ := Aside0.mk ((by rw [hg]; exact Nat.ne_of_gt (blk_lt (zh BK524.out)) : gb533 ≠ gb524)); clear HO531; clear BK524; clear HB; have HO531 := n0_; have BK524 := n1_; have HB := n2_; have BK533 := n3_; have GW533 := n4_; have GE533 := n5_; have NB524_533 := n6_; have NB533_524 := n7_; clear n0_ n1_ n2_ n3_ n4_ n5_ n6_ n7_; clear hb hbox hg; obtain ⟨Ao22, co22, eo22⟩ := Kd.R_slice HO531.out; subst eo22; have hnb23 := NB533_524.out; have hnc23 := NB524_533.out; have hcz24_0 : w21.cell? ⟨gb533, 0, none⟩ = some (.slice none 0 0) := (blk_cell BK533.out 0).trans rfl; have hfz24_0 := blk_frozen BK533.out 0; have hcz25_0 : w21.cell? ⟨gb524, 0, none⟩ = some (.slice A0_0 l0_0.length c0_0) := (blk_cell BK524.out 0).trans rfl; have hfz25_0 := blk_frozen BK524.out 0) | ((with_reducible refine gate_callee (f := 15) rfl ?_); refine goesL_ (some 32) rfl rfl Try.func15 (by kernel_rfl) rfl #[.agg #[.slice A0_0 l0_0.length c0_0]] rfl zl ?_; (with_reducible refine (laws_toPool.calls k _ _ l0_0 t534 _ ?side1 ?side2 A11.out).mono ?_); (case side1 => exact Kd.C_below HR0_0.out (zb HB.out)); (case side2 => exact HC0_0.out); rintro e w26 ⟨v535, rfl, ho0, hb⟩; refine ⟨_, rfl, ?_⟩; have n0_ := Aside0.mk (Kd.R_elder' (by (with_reducible repeat (first | apply Kd.R_alloc | apply Kd.R_drewN | apply Kd.R_drew)); exact (Kd.R_mono (Kd.R_far (p := ⟨gb533, 0, none⟩) (Kd.R_types HO531.out BK533.out (by decide)) (fun _ hk => hk.2) (.slice Ao22 t529.length co22)) (fun _ h_ => h_.1))) (Kd.R_base ho0) hb); have n1_ := Aside0.mk (Kd.R_lower (Kd.R_new' ho0 (Kd.R_lt (by (with_reducible repeat (first | apply Kd.R_alloc | apply Kd.R_drewN | apply Kd.R_drew)); exact (Kd.R_mono (Kd.R_far (p := ⟨gb533, 0, none⟩) (Kd.R_types HO531.out BK533.out (by decide)) (fun _ hk => hk.2) (.slice Ao22 t529.length co22)) (fun _ h_ => h_.1))))) (below_size (zb HB.out))); have n2_ := Aside0.mk (blk_below (g := gb524) (o := .cells #[.slice A0_0 l0_0.length c0_0] 24 (0, 0)) (zf BK524.out) hb); have n3_ := Aside0.mk (blk_below (g := gb533) (o := .cells #[.slice Ao22 t529.length co22] 28 (0, 0)) (by (with_reducible repeat (first | refine blk_drewN ?_ _ | refine blk_drew ?_ | refine blk_alloc ?_ _)); refine blk_put (cs := #[.slice none 0 0]) ?_ 0 _ rfl; (with_reducible repeat (first | refine blk_drewN ?_ _ | refine blk_drew ?_ | refine blk_alloc ?_ _)); exact BK533.out) hb); have n4_ := Aside0.mk (below_step (zb HB.out) hb); clear HO531; clear BK524; clear BK533; clear HB; have HO531 := n0_; have HO536 := n1_; have BK524 := n2_; have BK533 := n3_; have HB := n4_; clear n0_ n1_ n2_ n3_ n4_; (try clear hb); (try clear hb2); (try clear hk); (try clear hi); (try clear ho0)) | ((with_reducible refine gate_dst (N := 10) rfl ?_); refine box_event ?hg (N := 10) ?hd (cs := #[.slice none 0 0]) (t := 28) ?hr ?_; (case hd => rfl); (case hg => rfl); (case hr => first | (go_simp; done) | (go_simp; rfl)); intro gb537 hg w27 hbox hb; have n0_ := Aside0.mk (Kd.R_below (zr HO531.out) hb); have n1_ := Aside0.mk (Kd.R_below (zr HO536.out) hb); have n2_ := Aside0.mk (blk_below (zh BK524.out) hb); have n3_ := Aside0.mk (blk_below (zh BK533.out) hb); have n4_ := Aside0.mk (below_step (zb HB.out) hb); have n5_ := Aside0.mk (hbox); have n6_ := Aside0.mk ((by rw [hg]; exact (below_size (zb HB.out)) : w.heap.size ≤ gb537)); have n7_ := Aside0.mk ((by rw [hg]; exact (below_size (zb HB.out)) : w.heap.size ≤ gb537)); have n8_ := Aside0.mk ((by rw [hg]; exact Nat.ne_of_lt (blk_lt (zh BK524.out)) : gb524 ≠ gb537)); have n9_ := Aside0.mk ((by rw [hg]; exact Nat.ne_of_gt (blk_lt (zh BK524.out)) : gb537 ≠ gb524)); have n10_ := Aside0.mk ((by rw [hg]; exact Nat.ne_of_lt (blk_lt (zh BK533.out)) : gb533 ≠ gb537)); have n11_ := Aside0.mk ((by rw [hg]; exact Nat.ne_of_gt (blk_lt (zh BK533.out)) : gb537 ≠ gb533)); clear HO531; clear HO536; clear BK524; clear BK533; clear HB; have HO531 := n0_; have HO536 := n1_; have BK524 := n2_; have BK533 := n3_; have HB := n4_; have BK537 := n5_; have GW537 := n6_; have GE537 := n7_; have NB524_537 := n8_; have NB537_524 := n9_; have NB533_537 := n10_; have NB537_533 := n11_; clear n0_ n1_ n2_ n3_ n4_ n5_ n6_ n7_ n8_ n9_ n10_ n11_; clear hb hbox hg; obtain ⟨Ao28, co28, eo28⟩ := Kd.R_slice HO536.out; subst eo28; have hnb29 := NB537_524.out; have hnc29 := NB524_537.out; have hnb30 := NB537_533.out; have hnc30 := NB533_537.out; have hcz31_0 : w27.cell? ⟨gb537, 0, none⟩ = some (.slice none 0 0) := (blk_cell BK537.out 0).trans rfl; have hfz31_0 := blk_frozen BK537.out 0) | ((with_reducible refine gate_callee (f := 31) rfl ?_); refine goesL_ (some 37) rfl rfl Try.func31 (by kernel_rfl) rfl #[.agg #[.slice Ao28 t534.length co28], .int .i64 a1, .int .i64 a2] rfl zl ?_; (with_reducible refine (impl_MakeSign.calls k _ _ t534 a1 a2 t538 t541 _ ?side1 ?side2 A12.out).mono ?_); (case side1 => refine (Kd.R_reads' (e := 49) (base := w.heap.size) (ok := fun k_ => (True ∧ some k_ ≠ (.slice Ao22 t529.length co22 : Value).ownBlock)) (n := t534.length) (c := co28) ?_).2.2; exact (by (with_reducible repeat (first | apply Kd.R_alloc | apply Kd.R_drewN | apply Kd.R_drew)); exact (Kd.R_mono (Kd.R_far (p := ⟨gb537, 0, none⟩) (Kd.R_types HO536.out BK537.out (by decide)) (fun _ hk => hk.2) (.slice Ao28 t534.length co28)) (fun _ h_ => h_.1)))); (case side2 => exact (Kd.R_reads' HO536.out).2.1); rintro e w32 ⟨v539, rfl, ho0, hb⟩; refine ⟨_, rfl, ?_⟩; have n0_ := Aside0.mk (Kd.R_elder' (by (with_reducible repeat (first | apply Kd.R_alloc | apply Kd.R_drewN | apply Kd.R_drew)); exact (Kd.R_mono (Kd.R_far (p := ⟨gb537, 0, none⟩) (Kd.R_types HO531.out BK537.out (by decide)) (fun _ hk => hk.2) (.slice Ao28 t534.length co28)) (fun _ h_ => h_.1))) (Kd.R_base ho0) hb); have n1_ := Aside0.mk (Kd.R_elder' (by (with_reducible repeat (first | apply Kd.R_alloc | apply Kd.R_drewN | apply Kd.R_drew)); exact (Kd.R_mono (Kd.R_far (p := ⟨gb537, 0, none⟩) (Kd.R_types HO536.out BK537.out (by decide)) (fun _ hk => hk.2) (.slice Ao28 t534.length co28)) (fun _ h_ => h_.1))) (Kd.R_base ho0) hb); have n2_ := Aside0.mk (Kd.R_lower (Kd.R_new' (Kd.R_new' ho0 (Kd.R_lt (by (with_reducible repeat (first | apply Kd.R_alloc | apply Kd.R_drewN | apply Kd.R_drew)); exact (Kd.R_mono (Kd.R_far (p := ⟨gb537, 0, none⟩) (Kd.R_types HO531.out BK537.out (by decide)) (fun _ hk => hk.2) (.slice Ao28 t534.length co28)) (fun _ h_ => h_.1))))) (Kd.R_lt (by (with_reducible repeat (first | apply Kd.R_alloc | apply Kd.R_drewN | apply Kd.R_drew)); exact (Kd.R_mono (Kd.R_far (p := ⟨gb537, 0, none⟩) (Kd.R_types HO536.out BK537.out (by decide)) (fun _ hk => hk.2) (.slice Ao28 t534.length co28)) (fun _ h_ => h_.1))))) (below_size (zb HB.out))); have n3_ := Aside0.mk (blk_below (g := gb524) (o := .cells #[.slice A0_0 l0_0.length c0_0] 24 (0, 0)) (zf BK524.out) hb); have n4_ := Aside0.mk (blk_below (g := gb533) (o := .cells #[.slice Ao22 t529.length co22] 28 (0, 0)) (zf BK533.out) hb); have n5_ := Aside0.mk (blk_below (g := gb537) (o := .cells #[.slice Ao28 t534.length co28] 28 (0, 0)) (by (with_reducible repeat (first | refine blk_drewN ?_ _ | refine blk_drew ?_ | refine blk_alloc ?_ _)); refine blk_put (cs := #[.slice none 0 0]) ?_ 0 _ rfl; (with_reducible repeat (first | refine blk_drewN ?_ _ | refine blk_drew ?_ | refine blk_alloc ?_ _)); exact BK537.out) hb); have n6_ := Aside0.mk (below_step (zb HB.out) hb); clear HO531; clear HO536; clear BK524; clear BK533; clear BK537; clear HB; have HO531 := n0_; have HO536 := n1_; have HO540 := n2_; have BK524 := n3_; have BK533 := n4_; have BK537 := n5_; have HB := n6_; clear n0_ n1_ n2_ n3_ n4_ n5_ n6_; (try clear hb); (try clear hb2); (try clear hk); (try clear hi); (try clear ho0)) | ((with_reducible refine gate_dst (N := 11) rfl ?_); refine box_event ?hg (N := 11) ?hd (cs := #[.slice none 0 0]) (t := 28) ?hr ?_; (case hd => rfl); (case hg => rfl); (case hr => first | (go_simp; done) | (go_simp; rfl)); intro gb542 hg w33 hbox hb; have n0_ := Aside0.mk (Kd.R_below (zr HO531.out) hb); have n1_ := Aside0.mk (Kd.R_below (zr HO536.out) hb); have n2_ := Aside0.mk (Kd.R_below (zr HO540.out) hb); have n3_ := Aside0.mk (blk_below (zh BK524.out) hb); have n4_ := Aside0.mk (blk_below (zh BK533.out) hb); have n5_ := Aside0.mk (blk_below (zh BK537.out) hb); have n6_ := Aside0.mk (below_step (zb HB.out) hb); have n7_ := Aside0.mk (hbox); have n8_ := Aside0.mk ((by rw [hg]; exact (below_size (zb HB.out)) : w.heap.size ≤ gb542)); have n9_ := Aside0.mk ((by rw [hg]; exact (below_size (zb HB.out)) : w.heap.size ≤ gb542)); have n10_ := Aside0.mk ((by rw [hg]; exact Nat.ne_of_lt (blk_lt (zh BK524.out)) : gb524 ≠ gb542)); have n11_ := Aside0.mk ((by rw [hg]; exact Nat.ne_of_gt (blk_lt (zh BK524.out)) : gb542 ≠ gb524)); have n12_ := Aside0.mk ((by rw [hg]; exact Nat.ne_of_lt (blk_lt (zh BK533.out)) : gb533 ≠ gb542)); have n13_ := Aside0.mk ((by rw [hg]; exact Nat.ne_of_gt (blk_lt (zh BK533.out)) : gb542 ≠ gb533)); have n14_ := Aside0.mk ((by rw [hg]; exact Nat.ne_of_lt (blk_lt (zh BK537.out)) : gb537 ≠ gb542)); have n15_ := Aside0.mk ((by rw [hg]; exact Nat.ne_of_gt (blk_lt (zh BK537.out)) : gb542 ≠ gb537)); clear HO531; clear HO536; clear HO540; clear BK524; clear BK533; clear BK537; clear HB; have HO531 := n0_; have HO536 := n1_; have HO540 := n2_; have BK524 := n3_; have BK533 := n4_; have BK537 := n5_; have HB := n6_; have BK542 := n7_; have GW542 := n8_; have GE542 := n9_; have NB524_542 := n10_; have NB542_524 := n11_; have NB533_542 := n12_; have NB542_533 := n13_; have NB537_542 := n14_; have NB542_537 := n15_; clear n0_ n1_ n2_ n3_ n4_ n5_ n6_ n7_ n8_ n9_ n10_ n11_ n12_ n13_ n14_ n15_; clear hb hbox hg; obtain ⟨Ao34, co34, eo34⟩ := Kd.R_slice HO540.out; subst eo34; have hnb35 := NB542_524.out; have hnc35 := NB524_542.out; have hnb36 := NB542_533.out; have hnc36 := NB533_542.out; have hnb37 := NB542_537.out; have hnc37 := NB537_542.out; have hcz38_0 : w33.cell? ⟨gb542, 0, none⟩ = some (.slice none 0 0) := (blk_cell BK542.out 0).trans rfl; have hfz38_0 := blk_frozen BK542.out 0))
  (try simp only [Act.put, List.setIfInBounds_toArray, List.set_cons_zero, List.set_cons_succ])
  go_cut [48] (fun v48 wc => ∃ (kq : Nat) (x48_12 : Bool), v48 = .bool x48_12 ∧ Aside0 (laws_FnExactMakeSign.j0 kq a1 a2 t532 t541 x48_12 l0_0 t529 t534 t538 = some r) ∧ Aside0 (kq ≤ k) ∧ Aside0 (Kd.R k49 49 wc w.heap.size (fun k_ => some k_ ≠ ((.slice Ao28 t534.length co28) : Value).ownBlock ∧ some k_ ≠ ((.slice Ao34 t538.length co34) : Value).ownBlock) (.slice Ao22 t529.length co22) t529) ∧ Aside0 (Kd.R k49 49 wc w.heap.size (fun k_ => some k_ ≠ ((.slice Ao22 t529.length co22) : Value).ownBlock ∧ some k_ ≠ ((.slice Ao34 t538.length co34) : Value).ownBlock) (.slice Ao28 t534.length co28) t534) ∧ Aside0 (Kd.R k49 49 wc w.heap.size (fun k_ => some k_ ≠ ((.slice Ao22 t529.length co22) : Value).ownBlock ∧ some k_ ≠ ((.slice Ao28 t534.length co28) : Value).ownBlock) (.slice Ao34 t538.length co34) t538) ∧ Aside0 (wc.heap[gb524]? = some (.cells #[(.slice A0_0 l0_0.length c0_0)] 24 (0, 0))) ∧ Aside0 (wc.heap[gb533]? = some (.cells #[(.slice Ao22 t529.length co22)] 28 (0, 0))) ∧ Aside0 (wc.heap[gb537]? = some (.cells #[(.slice Ao28 t534.length co28)] 28 (0, 0))) ∧ Aside0 (wc.heap[gb542]? = some (.cells #[(.slice Ao34 t538.length co34)] 28 (0, 0))) ∧ Aside0 (Below w.heap.size w wc))
  case first =>
   have H := HC13.out
   clear HC13
   replace H := Option.bind_eq_some_iff.mp H
   obtain ⟨t543, A390, H⟩ := H
   replace H : (if t543 = true then (laws_FnExactMakeSign.j0 k a1 a2 t532 t541 (t541 != t532) l0_0 t529 t534 t538) else (laws_FnExactMakeSign.j0 k a1 a2 t532 t541 true l0_0 t529 t534 t538)) = some r := H
   have A39 := Aside0.mk A390
   clear A390
   by_cases c40 : t543 = true
   ·subst c40
    have H1 : (laws_FnExactMakeSign.j0 k a1 a2 t532 t541 (t541 != t532) l0_0 t529 t534 t538) = some r := by rw [if_pos rfl] at H; exact H
    clear H
    have H := H1
    clear H1
    have H' := Aside0.mk H
    clear H
    have hnb41 := NB542_524.out
    have hnc41 := NB524_542.out
    have hnb42 := NB542_533.out
    have hnc42 := NB533_542.out
    have hnb43 := NB542_537.out
    have hnc43 := NB537_542.out
    have hcz44_0 : w33.cell? ⟨gb542, 0, none⟩ = some (.slice none 0 0) := (blk_cell BK542.out 0).trans rfl
    have hfz44_0 := blk_frozen BK542.out 0
    have hnb45 := NB533_524.out
    have hnc45 := NB524_533.out
    have hnb46 := NB533_537.out
    have hnc46 := NB537_533.out
    have hcz47_0 : w33.cell? ⟨gb533, 0, none⟩ = some (.slice Ao22 t529.length co22) := (blk_cell BK533.out 0).trans rfl
    have hfz47_0 := blk_frozen BK533.out 0
    go_wp2_with (first | ((with_reducible refine gate_callee (f := 17) rfl ?_); refine goesL_ (some 42) rfl rfl Try.func17 (by kernel_rfl) rfl #[.agg #[.slice Ao34 t538.length co34], .agg #[.slice Ao22 t529.length co22]] rfl zl ?_; (with_reducible refine (laws_eqPool.calls k _ _ t538 _ _ t529 true _ ?side1 ?side2 ?side3 ?side4 A39.out).mono ?_); (case side1 => refine (Kd.R_reads' (e := 49) (base := w.heap.size) (ok := fun k_ => ((True ∧ some k_ ≠ (.slice Ao22 t529.length co22 : Value).ownBlock) ∧ some k_ ≠ (.slice Ao28 t534.length co28 : Value).ownBlock)) (n := t538.length) (c := co34) ?_).2.2; exact (by (with_reducible repeat (first | apply Kd.R_alloc | apply Kd.R_drewN | apply Kd.R_drew)); exact (Kd.R_mono (Kd.R_far (p := ⟨gb542, 0, none⟩) (Kd.R_types HO540.out BK542.out (by decide)) (fun _ hk => hk.2) (.slice Ao34 t538.length co34)) (fun _ h_ => h_.1)))); (case side2 => exact (Kd.R_reads' HO540.out).2.1); (case side3 => refine (Kd.R_reads' (e := 49) (base := w.heap.size) (ok := fun k_ => ((True ∧ some k_ ≠ (.slice Ao28 t534.length co28 : Value).ownBlock) ∧ some k_ ≠ (.slice Ao34 t538.length co34 : Value).ownBlock)) (n := t529.length) (c := co22) ?_).2.2; exact (by (with_reducible repeat (first | apply Kd.R_alloc | apply Kd.R_drewN | apply Kd.R_drew)); exact (Kd.R_mono (Kd.R_far (p := ⟨gb542, 0, none⟩) (Kd.R_types HO531.out BK542.out (by decide)) (fun _ hk => hk.2) (.slice Ao34 t538.length co34)) (fun _ h_ => h_.1)))); (case side4 => exact (Kd.R_reads' HO531.out).2.1); rintro e w48 ⟨rfl, hb⟩; refine ⟨_, rfl, ?_⟩; have n0_ := Aside0.mk (Kd.R_below (by (with_reducible repeat (first | apply Kd.R_alloc | apply Kd.R_drewN | apply Kd.R_drew)); exact (Kd.R_mono (Kd.R_far (p := ⟨gb542, 0, none⟩) (Kd.R_types HO531.out BK542.out (by decide)) (fun _ hk => hk.2) (.slice Ao34 t538.length co34)) (fun _ h_ => h_.1))) hb); have n1_ := Aside0.mk (Kd.R_below (by (with_reducible repeat (first | apply Kd.R_alloc | apply Kd.R_drewN | apply Kd.R_drew)); exact (Kd.R_mono (Kd.R_far (p := ⟨gb542, 0, none⟩) (Kd.R_types HO536.out BK542.out (by decide)) (fun _ hk => hk.2) (.slice Ao34 t538.length co34)) (fun _ h_ => h_.1))) hb); have n2_ := Aside0.mk (Kd.R_below (by (with_reducible repeat (first | apply Kd.R_alloc | apply Kd.R_drewN | apply Kd.R_drew)); exact (Kd.R_mono (Kd.R_far (p := ⟨gb542, 0, none⟩) (Kd.R_types HO540.out BK542.out (by decide)) (fun _ hk => hk.2) (.slice Ao34 t538.length co34)) (fun _ h_ => h_.1))) hb); have n3_ := Aside0.mk (blk_below (g := gb524) (o := .cells #[.slice A0_0 l0_0.length c0_0] 24 (0, 0)) (zf BK524.out) hb); have n4_ := Aside0.mk (blk_below (g := gb533) (o := .cells #[.slice Ao22 t529.length co22] 28 (0, 0)) (zf BK533.out) hb); have n5_ := Aside0.mk (blk_below (g := gb537) (o := .cells #[.slice Ao28 t534.length co28] 28 (0, 0)) (zf BK537.out) hb); have n6_ := Aside0.mk (blk_below (g := gb542) (o := .cells #[.slice Ao34 t538.length co34] 28 (0, 0)) (by (with_reducible repeat (first | refine blk_drewN ?_ _ | refine blk_drew ?_ | refine blk_alloc ?_ _)); refine blk_put (cs := #[.slice none 0 0]) ?_ 0 _ rfl; (with_reducible repeat (first | refine blk_drewN ?_ _ | refine blk_drew ?_ | refine blk_alloc ?_ _)); exact BK542.out) hb); have n7_ := Aside0.mk (below_step (zb HB.out) hb); clear HO531; clear HO536; clear HO540; clear BK524; clear BK533; clear BK537; clear BK542; clear HB; have HO531 := n0_; have HO536 := n1_; have HO540 := n2_; have BK524 := n3_; have BK533 := n4_; have BK537 := n5_; have BK542 := n6_; have HB := n7_; clear n0_ n1_ n2_ n3_ n4_ n5_ n6_ n7_; (try clear hb); (try clear hb2); (try clear hk); (try clear hi)))
    go_meet
    case rel => exact ⟨_, ((t541 != t532)), (by first | rfl | (simp; done) | (simp [*]; done)), H', ⟨by first | omega | exact Nat.le_refl _⟩, ⟨zr (Kd.R_mono HO531.out (fun _ hk => ⟨hk.1.2, hk.2⟩))⟩, ⟨zr (Kd.R_mono HO536.out (fun _ hk => ⟨hk.1.2, hk.2⟩))⟩, ⟨zr (Kd.R_mono HO540.out (fun _ hk => ⟨hk.1.2, hk.2⟩))⟩, ⟨zh BK524.out⟩, ⟨zh BK533.out⟩, ⟨zh BK537.out⟩, ⟨zh BK542.out⟩, ⟨zb HB.out⟩⟩
   ·replace c40 := Bool.eq_false_iff.mpr c40
    subst c40
    have H1 : (laws_FnExactMakeSign.j0 k a1 a2 t532 t541 true l0_0 t529 t534 t538) = some r := by rw [if_neg (show ¬ (false = true) by decide)] at H; exact H
    clear H
    have H := H1
    clear H1
    have H' := Aside0.mk H
    clear H
    have hnb49 := NB542_524.out
    have hnc49 := NB524_542.out
    have hnb50 := NB542_533.out
    have hnc50 := NB533_542.out
    have hnb51 := NB542_537.out
    have hnc51 := NB537_542.out
    have hcz52_0 : w33.cell? ⟨gb542, 0, none⟩ = some (.slice none 0 0) := (blk_cell BK542.out 0).trans rfl
    have hfz52_0 := blk_frozen BK542.out 0
    have hnb53 := NB533_524.out
    have hnc53 := NB524_533.out
    have hnb54 := NB533_537.out
    have hnc54 := NB537_533.out
    have hcz55_0 : w33.cell? ⟨gb533, 0, none⟩ = some (.slice Ao22 t529.length co22) := (blk_cell BK533.out 0).trans rfl
    have hfz55_0 := blk_frozen BK533.out 0
    go_wp2_with (first | ((with_reducible refine gate_callee (f := 17) rfl ?_); refine goesL_ (some 42) rfl rfl Try.func17 (by kernel_rfl) rfl #[.agg #[.slice Ao34 t538.length co34], .agg #[.slice Ao22 t529.length co22]] rfl zl ?_; (with_reducible refine (laws_eqPool.calls k _ _ t538 _ _ t529 false _ ?side1 ?side2 ?side3 ?side4 A39.out).mono ?_); (case side1 => refine (Kd.R_reads' (e := 49) (base := w.heap.size) (ok := fun k_ => ((True ∧ some k_ ≠ (.slice Ao22 t529.length co22 : Value).ownBlock) ∧ some k_ ≠ (.slice Ao28 t534.length co28 : Value).ownBlock)) (n := t538.length) (c := co34) ?_).2.2; exact (by (with_reducible repeat (first | apply Kd.R_alloc | apply Kd.R_drewN | apply Kd.R_drew)); exact (Kd.R_mono (Kd.R_far (p := ⟨gb542, 0, none⟩) (Kd.R_types HO540.out BK542.out (by decide)) (fun _ hk => hk.2) (.slice Ao34 t538.length co34)) (fun _ h_ => h_.1)))); (case side2 => exact (Kd.R_reads' HO540.out).2.1); (case side3 => refine (Kd.R_reads' (e := 49) (base := w.heap.size) (ok := fun k_ => ((True ∧ some k_ ≠ (.slice Ao28 t534.length co28 : Value).ownBlock) ∧ some k_ ≠ (.slice Ao34 t538.length co34 : Value).ownBlock)) (n := t529.length) (c := co22) ?_).2.2; exact (by (with_reducible repeat (first | apply Kd.R_alloc | apply Kd.R_drewN | apply Kd.R_drew)); exact (Kd.R_mono (Kd.R_far (p := ⟨gb542, 0, none⟩) (Kd.R_types HO531.out BK542.out (by decide)) (fun _ hk => hk.2) (.slice Ao34 t538.length co34)) (fun _ h_ => h_.1)))); (case side4 => exact (Kd.R_reads' HO531.out).2.1); rintro e w56 ⟨rfl, hb⟩; refine ⟨_, rfl, ?_⟩; have n0_ := Aside0.mk (Kd.R_below (by (with_reducible repeat (first | apply Kd.R_alloc | apply Kd.R_drewN | apply Kd.R_drew)); exact (Kd.R_mono (Kd.R_far (p := ⟨gb542, 0, none⟩) (Kd.R_types HO531.out BK542.out (by decide)) (fun _ hk => hk.2) (.slice Ao34 t538.length co34)) (fun _ h_ => h_.1))) hb); have n1_ := Aside0.mk (Kd.R_below (by (with_reducible repeat (first | apply Kd.R_alloc | apply Kd.R_drewN | apply Kd.R_drew)); exact (Kd.R_mono (Kd.R_far (p := ⟨gb542, 0, none⟩) (Kd.R_types HO536.out BK542.out (by decide)) (fun _ hk => hk.2) (.slice Ao34 t538.length co34)) (fun _ h_ => h_.1))) hb); have n2_ := Aside0.mk (Kd.R_below (by (with_reducible repeat (first | apply Kd.R_alloc | apply Kd.R_drewN | apply Kd.R_drew)); exact (Kd.R_mono (Kd.R_far (p := ⟨gb542, 0, none⟩) (Kd.R_types HO540.out BK542.out (by decide)) (fun _ hk => hk.2) (.slice Ao34 t538.length co34)) (fun _ h_ => h_.1))) hb); have n3_ := Aside0.mk (blk_below (g := gb524) (o := .cells #[.slice A0_0 l0_0.length c0_0] 24 (0, 0)) (zf BK524.out) hb); have n4_ := Aside0.mk (blk_below (g := gb533) (o := .cells #[.slice Ao22 t529.length co22] 28 (0, 0)) (zf BK533.out) hb); have n5_ := Aside0.mk (blk_below (g := gb537) (o := .cells #[.slice Ao28 t534.length co28] 28 (0, 0)) (zf BK537.out) hb); have n6_ := Aside0.mk (blk_below (g := gb542) (o := .cells #[.slice Ao34 t538.length co34] 28 (0, 0)) (by (with_reducible repeat (first | refine blk_drewN ?_ _ | refine blk_drew ?_ | refine blk_alloc ?_ _)); refine blk_put (cs := #[.slice none 0 0]) ?_ 0 _ rfl; (with_reducible repeat (first | refine blk_drewN ?_ _ | refine blk_drew ?_ | refine blk_alloc ?_ _)); exact BK542.out) hb); have n7_ := Aside0.mk (below_step (zb HB.out) hb); clear HO531; clear HO536; clear HO540; clear BK524; clear BK533; clear BK537; clear BK542; clear HB; have HO531 := n0_; have HO536 := n1_; have HO540 := n2_; have BK524 := n3_; have BK533 := n4_; have BK537 := n5_; have BK542 := n6_; have HB := n7_; clear n0_ n1_ n2_ n3_ n4_ n5_ n6_ n7_; (try clear hb); (try clear hb2); (try clear hk); (try clear hi)))
    go_meet
    case rel => exact ⟨_, (true), (by first | rfl | (simp; done) | (simp [*]; done)), H', ⟨by first | omega | exact Nat.le_refl _⟩, ⟨zr (Kd.R_mono HO531.out (fun _ hk => ⟨hk.1.2, hk.2⟩))⟩, ⟨zr (Kd.R_mono HO536.out (fun _ hk => ⟨hk.1.2, hk.2⟩))⟩, ⟨zr (Kd.R_mono HO540.out (fun _ hk => ⟨hk.1.2, hk.2⟩))⟩, ⟨zh BK524.out⟩, ⟨zh BK533.out⟩, ⟨zh BK537.out⟩, ⟨zh BK542.out⟩, ⟨zb HB.out⟩⟩
  case rest =>
   clear HC13
   try clear c1
   try clear c2
   try clear p2
   try clear c3
   try clear c4
   try clear c5
   try clear c5b0
   try clear c9
   try clear c13
   try clear c15
   try clear c17
   try clear c23
   try clear c29
   try clear c30
   try clear c31
   try clear c35
   try clear c36
   try clear c37
   try clear c40
   try clear c41
   try clear c42
   try clear c43
   try clear c45
   try clear c46
   try clear c49
   try clear c50
   try clear c51
   try clear c53
   try clear c54
   try clear hcz15_0
   try clear hcz17_0
   try clear hcz24_0
   try clear hcz25_0
   try clear hcz31_0
   try clear hcz38_0
   try clear hcz44_0
   try clear hcz47_0
   try clear hcz52_0
   try clear hcz55_0
   try clear hcz7_0
   try clear hfz15_0
   try clear hfz17_0
   try clear hfz24_0
   try clear hfz25_0
   try clear hfz31_0
   try clear hfz38_0
   try clear hfz44_0
   try clear hfz47_0
   try clear hfz52_0
   try clear hfz55_0
   try clear hfz7_0
   obtain ⟨kq, x48_12, rfl, HA, HJ12, HO_534000, HO_538000, HO_543000, BK524, BK533, BK537, BK542, HB⟩ := hcut
   cases kq with
   | zero => exact absurd HA.out (by simp [laws_FnExactMakeSign.j0])
   | succ kj12 =>
    have H := HA.out
    clear HA
    simp only [laws_FnExactMakeSign.j0] at H
    by_cases c57 : x48_12 = true
    ·subst c57
     have H1 : (some false) = some r := by rw [if_pos rfl] at H; exact H
     clear H
     have H := H1
     clear H1
     obtain rfl := Option.some.inj H
     go_wp2
     go_ret
     exact ⟨ze, zb HB.out⟩
    ·replace c57 := Bool.eq_false_iff.mpr c57
     subst c57
     have H1 : ((laws_toPool.f kj12 l0_0).bind fun t544 => ((laws_eqPool.f kj12 t534 t544).bind fun t547 => (if t547 = true then ((laws_markPool.f kj12 t534 1).bind fun bt548 => (if bt548.1 < 0 then (laws_FnExactMakeSign.j1 kj12 a1 a2 t532 true l0_0 t529 t538) else ((laws_eqPool.f kj12 t538 t529).bind fun t550 => (if t550 = true then (laws_FnExactMakeSign.j1 kj12 a1 a2 t532 (t541 != t532) l0_0 t529 t538) else (laws_FnExactMakeSign.j1 kj12 a1 a2 t532 true l0_0 t529 t538))))) else (some false)))) = some r := by rw [if_neg (show ¬ (false = true) by decide)] at H; exact H
     clear H
     have H := H1
     clear H1
     replace H := Option.bind_eq_some_iff.mp H
     obtain ⟨t544, A580, H⟩ := H
     replace H : ((laws_eqPool.f kj12 t534 t544).bind fun t547 => (if t547 = true then ((laws_markPool.f kj12 t534 1).bind fun bt548 => (if bt548.1 < 0 then (laws_FnExactMakeSign.j1 kj12 a1 a2 t532 true l0_0 t529 t538) else ((laws_eqPool.f kj12 t538 t529).bind fun t550 => (if t550 = true then (laws_FnExactMakeSign.j1 kj12 a1 a2 t532 (t541 != t532) l0_0 t529 t538) else (laws_FnExactMakeSign.j1 kj12 a1 a2 t532 true l0_0 t529 t538))))) else (some false))) = some r := H
     have A58 := Aside0.mk A580
     clear A580
     replace H := Option.bind_eq_some_iff.mp H
     obtain ⟨t547, A590, H⟩ := H
     replace H : (if t547 = true then ((laws_markPool.f kj12 t534 1).bind fun bt548 => (if bt548.1 < 0 then (laws_FnExactMakeSign.j1 kj12 a1 a2 t532 true l0_0 t529 t538) else ((laws_eqPool.f kj12 t538 t529).bind fun t550 => (if t550 = true then (laws_FnExactMakeSign.j1 kj12 a1 a2 t532 (t541 != t532) l0_0 t529 t538) else (laws_FnExactMakeSign.j1 kj12 a1 a2 t532 true l0_0 t529 t538))))) else (some false)) = some r := H
     have A59 := Aside0.mk A590
     clear A590
     by_cases c60 : t547 = true
     ·subst c60
      have H1 : ((laws_markPool.f kj12 t534 1).bind fun bt548 => (if bt548.1 < 0 then (laws_FnExactMakeSign.j1 kj12 a1 a2 t532 true l0_0 t529 t538) else ((laws_eqPool.f kj12 t538 t529).bind fun t550 => (if t550 = true then (laws_FnExactMakeSign.j1 kj12 a1 a2 t532 (t541 != t532) l0_0 t529 t538) else (laws_FnExactMakeSign.j1 kj12 a1 a2 t532 true l0_0 t529 t538))))) = some r := by rw [if_pos rfl] at H; exact H
      clear H
      have H := H1
      clear H1
      replace H := Option.bind_eq_some_iff.mp H
      obtain ⟨⟨t548, t549⟩, A610, H⟩ := H
      replace H : (if t548 < 0 then (laws_FnExactMakeSign.j1 kj12 a1 a2 t532 true l0_0 t529 t538) else ((laws_eqPool.f kj12 t538 t529).bind fun t550 => (if t550 = true then (laws_FnExactMakeSign.j1 kj12 a1 a2 t532 (t541 != t532) l0_0 t529 t538) else (laws_FnExactMakeSign.j1 kj12 a1 a2 t532 true l0_0 t529 t538)))) = some r := H
      have A61 := Aside0.mk A610
      clear A610
      have HC62 := Aside0.mk H
      clear H
      try go_wp2
      have n0_ := Aside0.mk (Kd.R_drew HO_534000.out)
      have n1_ := Aside0.mk (Kd.R_drew HO_538000.out)
      have n2_ := Aside0.mk (Kd.R_drew HO_543000.out)
      have n3_ := Aside0.mk (blk_drew BK524.out)
      have n4_ := Aside0.mk (blk_drew BK533.out)
      have n5_ := Aside0.mk (blk_drew BK537.out)
      have n6_ := Aside0.mk (blk_drew BK542.out)
      have n7_ := Aside0.mk (below_drew1 HB.out)
      clear HO_534000
      clear HO_538000
      clear HO_543000
      clear BK524
      clear BK533
      clear BK537
      clear BK542
      clear HB
      have HO_534000 := n0_
      have HO_538000 := n1_
      have HO_543000 := n2_
      have BK524 := n3_
      have BK533 := n4_
      have BK537 := n5_
      have BK542 := n6_
      have HB := n7_
      clear n0_ n1_ n2_ n3_ n4_ n5_ n6_ n7_
      refine start_ (n := 5) (S := fun w' => w'.cell? ⟨gb537, 0, none⟩ = some (.slice Ao28 t534.length co28) ∧ w'.cell? ⟨gb524, 0, none⟩ = some (.slice A0_0 l0_0.length c0_0)) (ds := []) #[false, false, false, false, false] (by kernel_rfl) rfl rfl ⟨(blk_cell BK537.out 0).trans rfl, (blk_cell BK524.out 0).trans rfl⟩ (fun hHeld => ?_)
      generalize wc.drew = w63 at HO_534000 HO_538000 HO_543000 BK524 BK533 BK537 BK542 HB hHeld ⊢
      refine take_ (i := 0) (N := some 49) (v := ?_) (a' := ?_) #[true, false, false, false, false] rfl rfl (by kernel_rfl) (fun _ _ _ h => h) (Or.inl ⟨by rfl, ?_⟩) hHeld ?_ ?_
      rotate_left
      ·rintro w' ⟨s0, s1⟩
       go_simp
       with_reducible rfl
      rotate_left
      ·simp only [Act.put, List.setIfInBounds_toArray, List.set_cons_zero, List.set_cons_succ, i64_w, i32_w]
       rfl
      refine take_ (i := 1) (N := some 50) (v := ?_) (a' := ?_) #[true, true, false, false, false] rfl rfl (by kernel_rfl) (fun _ _ _ h => h) (Or.inl ⟨by rfl, ?_⟩) hHeld ?_ ?_
      rotate_left
      ·rintro w' ⟨s0, s1⟩
       go_simp
       with_reducible rfl
      rotate_left
      ·simp only [Act.put, List.setIfInBounds_toArray, List.set_cons_zero, List.set_cons_succ, i64_w, i32_w]
       rfl
      refine one_ (i := 2) (N := some 51) #[true, true, true, false, false] rfl rfl (by kernel_rfl) (by decide) (fun K hK => ?_)
      refine goes_ Try.func15 (by kernel_rfl) rfl #[.agg #[.slice A0_0 l0_0.length c0_0]] (by rfl) rfl rfl zl ?_
      with_reducible refine (laws_toPool.calls kj12 _ _ l0_0 t544 _ ?side1 ?side2 A58.out).mono ?_
      (case side1 => exact zc (Kd.C_below HR0_0.out HB.out))
      (case side2 => exact HC0_0.out)
      rintro e w64 ⟨v545, rfl, ho0, hb⟩
      refine ⟨_, rfl, ?_⟩
      have n0_ := Aside0.mk (Kd.R_elder' (zr HO_534000.out) (Kd.R_base ho0) hb)
      have n1_ := Aside0.mk (Kd.R_elder' (zr HO_538000.out) (Kd.R_base ho0) hb)
      have n2_ := Aside0.mk (Kd.R_elder' (zr HO_543000.out) (Kd.R_base ho0) hb)
      have n3_ := Aside0.mk (Kd.R_lower (Kd.R_new' (Kd.R_new' (Kd.R_new' ho0 (Kd.R_lt (zr HO_534000.out))) (Kd.R_lt (zr HO_538000.out))) (Kd.R_lt (zr HO_543000.out))) (below_size (zb HB.out)))
      have n4_ := Aside0.mk (blk_below (zh BK524.out) hb)
      have n5_ := Aside0.mk (blk_below (zh BK533.out) hb)
      have n6_ := Aside0.mk (blk_below (zh BK537.out) hb)
      have n7_ := Aside0.mk (blk_below (zh BK542.out) hb)
      have n8_ := Aside0.mk (below_step (zb HB.out) hb)
      clear HO_534000
      clear HO_538000
      clear HO_543000
      clear BK524
      clear BK533
      clear BK537
      clear BK542
      clear HB
      have HO_534000 := n0_
      have HO_538000 := n1_
      have HO_543000 := n2_
      have HO546 := n3_
      have BK524 := n4_
      have BK533 := n5_
      have BK537 := n6_
      have BK542 := n7_
      have HB := n8_
      clear n0_ n1_ n2_ n3_ n4_ n5_ n6_ n7_ n8_
      (try clear hb)
      (try clear hb2)
      (try clear hk)
      (try clear hi)
      (try clear ho0)
      obtain ⟨Ao65, co65, eo65⟩ := Kd.R_slice HO546.out
      (first | subst eo65 | (injection eo65 with f1_ f2_ f3_; have f4_ := f1_.symm; have f5_ := f3_.symm; clear f1_ f2_ f3_; subst f4_; subst f5_))
      refine hK.out _ _ ⟨(blk_cell BK537.out 0).trans rfl, (blk_cell BK524.out 0).trans rfl⟩ (fun hHeld => ?_)
      clear hK K
      refine norm_ (a' := ?_) ?_ ?_
      rotate_left
      ·show Act.put _ (some 51) _ = _
       simp only [Act.put, List.setIfInBounds_toArray, List.set_cons_zero, List.set_cons_succ, i64_w, i32_w]
       rfl
      refine one_ (i := 3) (N := some 52) #[true, true, true, true, false] rfl rfl (by kernel_rfl) (by decide) (fun K hK => ?_)
      refine goes_ Try.func17 (by kernel_rfl) rfl #[.agg #[.slice Ao28 t534.length co28], .agg #[.slice Ao65 t544.length co65]] (by rfl) rfl rfl zl ?_
      with_reducible refine (laws_eqPool.calls kj12 _ _ t534 _ _ t544 true _ ?side1 ?side2 ?side3 ?side4 A59.out).mono ?_
      (case side1 => exact zc (Kd.R_reads' HO_538000.out).2.2)
      (case side2 => exact (Kd.R_reads' HO_538000.out).2.1)
      (case side3 => exact zc (Kd.R_reads' HO546.out).2.2)
      (case side4 => exact (Kd.R_reads' HO546.out).2.1)
      rintro e w66 ⟨rfl, hb⟩
      refine ⟨_, rfl, ?_⟩
      have n0_ := Aside0.mk (Kd.R_below (zr HO_534000.out) hb)
      have n1_ := Aside0.mk (Kd.R_below (zr HO_538000.out) hb)
      have n2_ := Aside0.mk (Kd.R_below (zr HO_543000.out) hb)
      have n3_ := Aside0.mk (Kd.R_below (zr HO546.out) hb)
      have n4_ := Aside0.mk (blk_below (zh BK524.out) hb)
      have n5_ := Aside0.mk (blk_below (zh BK533.out) hb)
      have n6_ := Aside0.mk (blk_below (zh BK537.out) hb)
      have n7_ := Aside0.mk (blk_below (zh BK542.out) hb)
      have n8_ := Aside0.mk (below_step (zb HB.out) hb)
      clear HO_534000
      clear HO_538000
      clear HO_543000
      clear HO546
      clear BK524
      clear BK533
      clear BK537
      clear BK542
      clear HB
      have HO_534000 := n0_
      have HO_538000 := n1_
      have HO_543000 := n2_
      have HO546 := n3_
      have BK524 := n4_
      have BK533 := n5_
      have BK537 := n6_
      have BK542 := n7_
      have HB := n8_
      clear n0_ n1_ n2_ n3_ n4_ n5_ n6_ n7_ n8_
      (try clear hb)
      (try clear hb2)
      (try clear hk)
      (try clear hi)
      refine hK.out _ _ ⟨(blk_cell BK537.out 0).trans rfl, (blk_cell BK524.out 0).trans rfl⟩ (fun hHeld => ?_)
      clear hK K
      refine norm_ (a' := ?_) ?_ ?_
      rotate_left
      ·show Act.put _ (some 52) _ = _
       simp only [Act.put, List.setIfInBounds_toArray, List.set_cons_zero, List.set_cons_succ, i64_w, i32_w]
       rfl
      refine pure_ (i := 4) (N := some 53) (v := ?_) (a' := ?_) #[true, true, true, true, true] rfl rfl (by kernel_rfl) (fun _ _ _ h => h) (Or.inl ⟨by rfl, ?_⟩) ?_ ?_
      rotate_left
      ·intro w'
       go_simp
       with_reducible rfl
      rotate_left
      ·simp only [Act.put, List.setIfInBounds_toArray, List.set_cons_zero, List.set_cons_succ, i64_w, i32_w]
       rfl
      refine done_ (by kernel_rfl) ?_
      have hnb67 := NB537_524.out
      have hnc67 := NB524_537.out
      have hnb68 := NB537_533.out
      have hnc68 := NB533_537.out
      have hnb69 := NB537_542.out
      have hnc69 := NB542_537.out
      have hcz70_0 : w66.cell? ⟨gb537, 0, none⟩ = some (.slice Ao28 t534.length co28) := (blk_cell BK537.out 0).trans rfl
      have hfz70_0 := blk_frozen BK537.out 0
      go_upto_region 14 with (first | ((with_reducible refine gate_callee (f := 18) rfl ?_); refine goesL_ (some 56) rfl rfl Try.func18 (by kernel_rfl) rfl #[.agg #[.slice Ao28 t534.length co28], .int .i64 1] rfl zl ?_; (with_reducible refine (laws_markPool.calls kj12 (fun k_ => some k_ = (.slice Ao28 t534.length co28 : Value).ownBlock) (.slice Ao28 t534.length co28) t534 1 t548 t549 w _ ?side1 ?side2 A61.out).mono ?_); (case side1 => repeat (first | (with_reducible first | exact HB.out | apply below_alloc | apply pw_below_drewN | apply below_drew1 | refine below_set ?_ GE524.out | refine below_set ?_ GE533.out | refine below_set ?_ GE537.out | refine below_set ?_ GE542.out) | exact HB.out)); (case side2 => exact Kd.R_tight rfl HO_538000.out); rintro e w71 ⟨rfl, hy0, hb, hkp⟩; refine ⟨_, rfl, ?_⟩; have n0_ := Aside0.mk (Kd.R_mono (ok' := fun k_ => some k_ ≠ (.slice Ao28 t534.length co28 : Value).ownBlock ∧ some k_ ≠ (.slice Ao34 t538.length co34 : Value).ownBlock ∧ some k_ ≠ (.slice Ao65 t544.length co65 : Value).ownBlock) (Kd.R_keptB (HO_534000.out) hkp (fun k_ hk_ hs_ => by first | exact (hk_.1.1) hs_ | (revert hk_; simp only [and_imp]; intros; exact absurd hs_ (by assumption)))) (fun k_ hk_ => by first | exact ⟨hk_.1.1.1, hk_.1.1.2, hk_.1.2⟩ | (revert hk_; simp only [and_imp]; intros; and_intros <;> assumption))); have n1_ := Aside0.mk (Kd.R_reok rfl hy0 (fun k_ e_ => HO_538000.out.1 k_ e_)); have n2_ := Aside0.mk (Kd.R_mono (ok' := fun k_ => some k_ ≠ (.slice Ao22 t529.length co22 : Value).ownBlock ∧ some k_ ≠ (.slice Ao28 t534.length co28 : Value).ownBlock ∧ some k_ ≠ (.slice Ao65 t544.length co65 : Value).ownBlock) (Kd.R_keptB (HO_543000.out) hkp (fun k_ hk_ hs_ => by first | exact (hk_.1.2) hs_ | (revert hk_; simp only [and_imp]; intros; exact absurd hs_ (by assumption)))) (fun k_ hk_ => by first | exact ⟨hk_.1.1.1, hk_.1.1.2, hk_.1.2⟩ | (revert hk_; simp only [and_imp]; intros; and_intros <;> assumption))); have n3_ := Aside0.mk (blk_kept (zh BK524.out) hkp (fun hs_ => (fun e_ => (Kd.R_ne HO_538000.out BK524.out (by decide)) e_) hs_)); have n4_ := Aside0.mk (blk_kept (zh BK533.out) hkp (fun hs_ => (fun e_ => (Kd.R_ne HO_538000.out BK533.out (by decide)) e_) hs_)); have n5_ := Aside0.mk (blk_kept (zh BK537.out) hkp (fun hs_ => (fun e_ => (Kd.R_ne HO_538000.out BK537.out (by decide)) e_) hs_)); have n6_ := Aside0.mk (blk_kept (zh BK542.out) hkp (fun hs_ => (fun e_ => (Kd.R_ne HO_538000.out BK542.out (by decide)) e_) hs_)); have n7_ := Aside0.mk (Kd.R_mono (ok' := fun k_ => some k_ ≠ (.slice Ao22 t529.length co22 : Value).ownBlock ∧ some k_ ≠ (.slice Ao28 t534.length co28 : Value).ownBlock ∧ some k_ ≠ (.slice Ao34 t538.length co34 : Value).ownBlock) (Kd.R_keptB (HO546.out) hkp (fun k_ hk_ hs_ => by first | exact (hk_.1.2) hs_ | (revert hk_; simp only [and_imp]; intros; exact absurd hs_ (by assumption)))) (fun k_ hk_ => by first | exact ⟨hk_.1.1.1.2, hk_.1.1.2, hk_.1.2⟩ | (revert hk_; simp only [and_imp]; intros; and_intros <;> assumption))); have n8_ := Aside0.mk (hb); clear HO_534000; clear HO_538000; clear HO_543000; clear BK524; clear BK533; clear BK537; clear BK542; clear HO546; clear HB; have HO_534000 := n0_; have HO_538000 := n1_; have HO_543000 := n2_; have BK524 := n3_; have BK533 := n4_; have BK537 := n5_; have BK542 := n6_; have HO546 := n7_; have HB := n8_; clear n0_ n1_ n2_ n3_ n4_ n5_ n6_ n7_ n8_; (try clear hb); (try clear hkp); (try clear hy0)))
      (try simp only [Act.put, List.setIfInBounds_toArray, List.set_cons_zero, List.set_cons_succ])
      go_cut [69] (fun v69 wc => ∃ (kq : Nat) (x69_61 : Bool), v69 = .bool x69_61 ∧ Aside0 (laws_FnExactMakeSign.j1 kq a1 a2 t532 x69_61 l0_0 t529 t538 = some r) ∧ Aside0 (kq ≤ kj12) ∧ Aside0 (Kd.R k49 49 wc w.heap.size (fun k_ => some k_ ≠ ((.slice Ao28 t534.length co28) : Value).ownBlock ∧ some k_ ≠ ((.slice Ao34 t538.length co34) : Value).ownBlock) (.slice Ao22 t529.length co22) t529) ∧ Aside0 (Kd.R k49 49 wc w.heap.size (fun k_ => some k_ ≠ ((.slice Ao22 t529.length co22) : Value).ownBlock ∧ some k_ ≠ ((.slice Ao34 t538.length co34) : Value).ownBlock) (.slice Ao28 t534.length co28) t549) ∧ Aside0 (Kd.R k49 49 wc w.heap.size (fun k_ => some k_ ≠ ((.slice Ao22 t529.length co22) : Value).ownBlock ∧ some k_ ≠ ((.slice Ao28 t534.length co28) : Value).ownBlock) (.slice Ao34 t538.length co34) t538) ∧ Aside0 (wc.heap[gb524]? = some (.cells #[(.slice A0_0 l0_0.length c0_0)] 24 (0, 0))) ∧ Aside0 (wc.heap[gb533]? = some (.cells #[(.slice Ao22 t529.length co22)] 28 (0, 0))) ∧ Aside0 (wc.heap[gb537]? = some (.cells #[(.slice Ao28 t534.length co28)] 28 (0, 0))) ∧ Aside0 (wc.heap[gb542]? = some (.cells #[(.slice Ao34 t538.length co34)] 28 (0, 0))) ∧ Aside0 (Below w.heap.size w wc))
      case first =>
       have H := HC62.out
       clear HC62
       by_cases c72 : t548 < 0
       ·rw [if_pos c72] at H
        have c72b0 : decide (t548 < 0) = true := decide_eq_true c72
        clear c72
        (first | rw [c72b0] | (simp only [i64_w, i32_w]; rw [c72b0]) | skip)
        have H' := Aside0.mk H
        clear H
        go_wp2
        go_meet
        case rel => exact ⟨_, (true), (by first | rfl | (simp; done) | (simp [*]; done)), H', ⟨by have := HJ12.out; first | omega | exact Nat.le_refl _⟩, ⟨zr (Kd.R_mono HO_534000.out (fun _ hk => ⟨hk.1, hk.2.1⟩))⟩, ⟨zr (Kd.R_mono HO_538000.out (fun _ hk => ⟨hk.1.1, hk.1.2⟩))⟩, ⟨zr (Kd.R_mono HO_543000.out (fun _ hk => ⟨hk.1, hk.2.1⟩))⟩, ⟨zh BK524.out⟩, ⟨zh BK533.out⟩, ⟨zh BK537.out⟩, ⟨zh BK542.out⟩, ⟨zb HB.out⟩⟩
       ·rw [if_neg c72] at H
        have c72b0 : decide (t548 < 0) = false := decide_eq_false c72
        clear c72
        (first | rw [c72b0] | (simp only [i64_w, i32_w]; rw [c72b0]) | skip)
        replace H := Option.bind_eq_some_iff.mp H
        obtain ⟨t550, A730, H⟩ := H
        replace H : (if t550 = true then (laws_FnExactMakeSign.j1 kj12 a1 a2 t532 (t541 != t532) l0_0 t529 t538) else (laws_FnExactMakeSign.j1 kj12 a1 a2 t532 true l0_0 t529 t538)) = some r := H
        have A73 := Aside0.mk A730
        clear A730
        by_cases c74 : t550 = true
        ·subst c74
         have H1 : (laws_FnExactMakeSign.j1 kj12 a1 a2 t532 (t541 != t532) l0_0 t529 t538) = some r := by rw [if_pos rfl] at H; exact H
         clear H
         have H := H1
         clear H1
         have H' := Aside0.mk H
         clear H
         have hnb75 := NB542_524.out
         have hnc75 := NB524_542.out
         have hnb76 := NB542_533.out
         have hnc76 := NB533_542.out
         have hnb77 := NB542_537.out
         have hnc77 := NB537_542.out
         have hcz78_0 : w71.cell? ⟨gb542, 0, none⟩ = some (.slice Ao34 t538.length co34) := (blk_cell BK542.out 0).trans rfl
         have hfz78_0 := blk_frozen BK542.out 0
         have hnb79 := NB533_524.out
         have hnc79 := NB524_533.out
         have hnb80 := NB533_537.out
         have hnc80 := NB537_533.out
         have hcz81_0 : w71.cell? ⟨gb533, 0, none⟩ = some (.slice Ao22 t529.length co22) := (blk_cell BK533.out 0).trans rfl
         have hfz81_0 := blk_frozen BK533.out 0
         go_wp2_with (first | (go_at_call 17; (with_reducible refine (laws_eqPool.calls kj12 _ _ t538 _ _ t529 true _ ?side1 ?side2 ?side3 ?side4 A73.out).mono ?_); (case side1 => exact zc (Kd.R_reads' HO_543000.out).2.2); (case side2 => exact (Kd.R_reads' HO_543000.out).2.1); (case side3 => exact zc (Kd.R_reads' HO_534000.out).2.2); (case side4 => exact (Kd.R_reads' HO_534000.out).2.1); rintro e w82 ⟨rfl, hb⟩; have n0_ := Aside0.mk (Kd.R_below (zr HO_534000.out) hb); have n1_ := Aside0.mk (Kd.R_below (zr HO_538000.out) hb); have n2_ := Aside0.mk (Kd.R_below (zr HO_543000.out) hb); have n3_ := Aside0.mk (Kd.R_below (zr HO546.out) hb); have n4_ := Aside0.mk (blk_below (zh BK524.out) hb); have n5_ := Aside0.mk (blk_below (zh BK533.out) hb); have n6_ := Aside0.mk (blk_below (zh BK537.out) hb); have n7_ := Aside0.mk (blk_below (zh BK542.out) hb); have n8_ := Aside0.mk (below_step (zb HB.out) hb); clear HO_534000; clear HO_538000; clear HO_543000; clear HO546; clear BK524; clear BK533; clear BK537; clear BK542; clear HB; have HO_534000 := n0_; have HO_538000 := n1_; have HO_543000 := n2_; have HO546 := n3_; have BK524 := n4_; have BK533 := n5_; have BK537 := n6_; have BK542 := n7_; have HB := n8_; clear n0_ n1_ n2_ n3_ n4_ n5_ n6_ n7_ n8_; (try clear hb); (try clear hb2); (try clear hk); (try clear hi)))
         go_meet
         case rel => exact ⟨_, ((t541 != t532)), (by first | rfl | (simp; done) | (simp [*]; done)), H', ⟨by have := HJ12.out; first | omega | exact Nat.le_refl _⟩, ⟨zr (Kd.R_mono HO_534000.out (fun _ hk => ⟨hk.1, hk.2.1⟩))⟩, ⟨zr (Kd.R_mono HO_538000.out (fun _ hk => ⟨hk.1.1, hk.1.2⟩))⟩, ⟨zr (Kd.R_mono HO_543000.out (fun _ hk => ⟨hk.1, hk.2.1⟩))⟩, ⟨zh BK524.out⟩, ⟨zh BK533.out⟩, ⟨zh BK537.out⟩, ⟨zh BK542.out⟩, ⟨zb HB.out⟩⟩
        ·replace c74 := Bool.eq_false_iff.mpr c74
         subst c74
         have H1 : (laws_FnExactMakeSign.j1 kj12 a1 a2 t532 true l0_0 t529 t538) = some r := by rw [if_neg (show ¬ (false = true) by decide)] at H; exact H
         clear H
         have H := H1
         clear H1
         have H' := Aside0.mk H
         clear H
         have hnb83 := NB542_524.out
         have hnc83 := NB524_542.out
         have hnb84 := NB542_533.out
         have hnc84 := NB533_542.out
         have hnb85 := NB542_537.out
         have hnc85 := NB537_542.out
         have hcz86_0 : w71.cell? ⟨gb542, 0, none⟩ = some (.slice Ao34 t538.length co34) := (blk_cell BK542.out 0).trans rfl
         have hfz86_0 := blk_frozen BK542.out 0
         have hnb87 := NB533_524.out
         have hnc87 := NB524_533.out
         have hnb88 := NB533_537.out
         have hnc88 := NB537_533.out
         have hcz89_0 : w71.cell? ⟨gb533, 0, none⟩ = some (.slice Ao22 t529.length co22) := (blk_cell BK533.out 0).trans rfl
         have hfz89_0 := blk_frozen BK533.out 0
         go_wp2_with (first | (go_at_call 17; (with_reducible refine (laws_eqPool.calls kj12 _ _ t538 _ _ t529 false _ ?side1 ?side2 ?side3 ?side4 A73.out).mono ?_); (case side1 => exact zc (Kd.R_reads' HO_543000.out).2.2); (case side2 => exact (Kd.R_reads' HO_543000.out).2.1); (case side3 => exact zc (Kd.R_reads' HO_534000.out).2.2); (case side4 => exact (Kd.R_reads' HO_534000.out).2.1); rintro e w90 ⟨rfl, hb⟩; have n0_ := Aside0.mk (Kd.R_below (zr HO_534000.out) hb); have n1_ := Aside0.mk (Kd.R_below (zr HO_538000.out) hb); have n2_ := Aside0.mk (Kd.R_below (zr HO_543000.out) hb); have n3_ := Aside0.mk (Kd.R_below (zr HO546.out) hb); have n4_ := Aside0.mk (blk_below (zh BK524.out) hb); have n5_ := Aside0.mk (blk_below (zh BK533.out) hb); have n6_ := Aside0.mk (blk_below (zh BK537.out) hb); have n7_ := Aside0.mk (blk_below (zh BK542.out) hb); have n8_ := Aside0.mk (below_step (zb HB.out) hb); clear HO_534000; clear HO_538000; clear HO_543000; clear HO546; clear BK524; clear BK533; clear BK537; clear BK542; clear HB; have HO_534000 := n0_; have HO_538000 := n1_; have HO_543000 := n2_; have HO546 := n3_; have BK524 := n4_; have BK533 := n5_; have BK537 := n6_; have BK542 := n7_; have HB := n8_; clear n0_ n1_ n2_ n3_ n4_ n5_ n6_ n7_ n8_; (try clear hb); (try clear hb2); (try clear hk); (try clear hi)))
         go_meet
         case rel => exact ⟨_, (true), (by first | rfl | (simp; done) | (simp [*]; done)), H', ⟨by have := HJ12.out; first | omega | exact Nat.le_refl _⟩, ⟨zr (Kd.R_mono HO_534000.out (fun _ hk => ⟨hk.1, hk.2.1⟩))⟩, ⟨zr (Kd.R_mono HO_538000.out (fun _ hk => ⟨hk.1.1, hk.1.2⟩))⟩, ⟨zr (Kd.R_mono HO_543000.out (fun _ hk => ⟨hk.1, hk.2.1⟩))⟩, ⟨zh BK524.out⟩, ⟨zh BK533.out⟩, ⟨zh BK537.out⟩, ⟨zh BK542.out⟩, ⟨zb HB.out⟩⟩
      case rest =>
       clear HC62
       try clear c1
       try clear c2
       try clear p2
       try clear c3
       try clear c4
       try clear c5
       try clear c5b0
       try clear c6
       try clear c7
       try clear c8
       try clear c9
       try clear c13
       try clear c15
       try clear c17
       try clear c18
       try clear c23
       try clear c29
       try clear c30
       try clear c31
       try clear c35
       try clear c36
       try clear c37
       try clear c40
       try clear c41
       try clear c42
       try clear c43
       try clear c45
       try clear c46
       try clear c49
       try clear c50
       try clear c51
       try clear c53
       try clear c54
       try clear c57
       try clear c60
       try clear c67
       try clear c68
       try clear c69
       try clear c72
       try clear c72b0
       try clear c74
       try clear c75
       try clear c76
       try clear c77
       try clear c79
       try clear c80
       try clear c83
       try clear c84
       try clear c85
       try clear c87
       try clear c88
       try clear hcz15_0
       try clear hcz17_0
       try clear hcz24_0
       try clear hcz25_0
       try clear hcz31_0
       try clear hcz38_0
       try clear hcz44_0
       try clear hcz47_0
       try clear hcz52_0
       try clear hcz55_0
       try clear hcz70_0
       try clear hcz78_0
       try clear hcz7_0
       try clear hcz81_0
       try clear hcz86_0
       try clear hcz89_0
       try clear hfz15_0
       try clear hfz17_0
       try clear hfz24_0
       try clear hfz25_0
       try clear hfz31_0
       try clear hfz38_0
       try clear hfz44_0
       try clear hfz47_0
       try clear hfz52_0
       try clear hfz55_0
       try clear hfz70_0
       try clear hfz78_0
       try clear hfz7_0
       try clear hfz81_0
       try clear hfz86_0
       try clear hfz89_0
       try clear p2
       obtain ⟨kq, x69_61, rfl, HA, HJ61, HO_534000, HO_538000, HO_543000, BK524, BK533, BK537, BK542, HB⟩ := hcut
       have hl538000_61 := (Kd.R_reads' HO_538000.out).1
       rw [hl538000_61] at HO_538000
       (try simp only [hl538000_61])
       (try simp only [hl538000_61] at BK524)
       (try simp only [hl538000_61] at BK533)
       (try simp only [hl538000_61] at BK537)
       (try simp only [hl538000_61] at BK542)
       (try simp only [hl538000_61] at HO_534000)
       (try simp only [hl538000_61] at HO_543000)
       cases kq with
       | zero => exact absurd HA.out (by simp [laws_FnExactMakeSign.j1])
       | succ kj61 =>
        have H := HA.out
        clear HA
        simp only [laws_FnExactMakeSign.j1] at H
        by_cases c91 : x69_61 = true
        ·subst c91
         have H1 : (some false) = some r := by rw [if_pos rfl] at H; exact H
         clear H
         have H := H1
         clear H1
         obtain rfl := Option.some.inj H
         go_wp2
         go_ret
         exact ⟨ze, zb HB.out⟩
        ·replace c91 := Bool.eq_false_iff.mpr c91
         subst c91
         have H1 : ((laws_markPool.f kj61 t538 1).bind fun bt551 => ((laws_heldPool.f kj61 bt551.2 1).bind fun t553 => (if t553 < 0 then (some false) else (if t553 = bt551.1 then ((laws_toPool.f kj61 l0_0).bind fun t554 => ((impl_MakeSign.f kj61 t554 a1 a2).bind fun bt557 => ((laws_eqPool.f kj61 bt557.1 t529).bind fun t562 => (if t562 = true then (laws_FnExactMakeSign.j2 kj61 bt551.1 (bt557.2 != t532) bt551.2) else (laws_FnExactMakeSign.j2 kj61 bt551.1 true bt551.2))))) else (some false))))) = some r := by rw [if_neg (show ¬ (false = true) by decide)] at H; exact H
         clear H
         have H := H1
         clear H1
         replace H := Option.bind_eq_some_iff.mp H
         obtain ⟨⟨t551, t552⟩, A920, H⟩ := H
         replace H : ((laws_heldPool.f kj61 t552 1).bind fun t553 => (if t553 < 0 then (some false) else (if t553 = t551 then ((laws_toPool.f kj61 l0_0).bind fun t554 => ((impl_MakeSign.f kj61 t554 a1 a2).bind fun bt557 => ((laws_eqPool.f kj61 bt557.1 t529).bind fun t562 => (if t562 = true then (laws_FnExactMakeSign.j2 kj61 t551 (bt557.2 != t532) t552) else (laws_FnExactMakeSign.j2 kj61 t551 true t552))))) else (some false)))) = some r := H
         have A92 := Aside0.mk A920
         clear A920
         replace H := Option.bind_eq_some_iff.mp H
         obtain ⟨t553, A930, H⟩ := H
         replace H : (if t553 < 0 then (some false) else (if t553 = t551 then ((laws_toPool.f kj61 l0_0).bind fun t554 => ((impl_MakeSign.f kj61 t554 a1 a2).bind fun bt557 => ((laws_eqPool.f kj61 bt557.1 t529).bind fun t562 => (if t562 = true then (laws_FnExactMakeSign.j2 kj61 t551 (bt557.2 != t532) t552) else (laws_FnExactMakeSign.j2 kj61 t551 true t552))))) else (some false))) = some r := H
         have A93 := Aside0.mk A930
         clear A930
         by_cases c94 : t553 < 0
         ·rw [if_pos c94] at H
          have c94b0 : decide (t553 < 0) = true := decide_eq_true c94
          clear c94
          obtain rfl := Option.some.inj H
          have hnb95 := NB542_524.out
          have hnc95 := NB524_542.out
          have hnb96 := NB542_533.out
          have hnc96 := NB533_542.out
          have hnb97 := NB542_537.out
          have hnc97 := NB537_542.out
          have hcz98_0 : wc.cell? ⟨gb542, 0, none⟩ = some (.slice Ao34 t538.length co34) := (blk_cell BK542.out 0).trans rfl
          have hfz98_0 := blk_frozen BK542.out 0
          go_wp2_with (first | ((with_reducible refine gate_callee (f := 18) rfl ?_); refine goesL_ (some 72) rfl rfl Try.func18 (by kernel_rfl) rfl #[.agg #[.slice Ao34 t538.length co34], .int .i64 1] rfl zl ?_; (with_reducible refine (laws_markPool.calls kj61 (fun k_ => some k_ = (.slice Ao34 t538.length co34 : Value).ownBlock) (.slice Ao34 t538.length co34) t538 1 t551 t552 w _ ?side1 ?side2 A92.out).mono ?_); (case side1 => repeat (first | (with_reducible first | exact HB.out | apply below_alloc | apply pw_below_drewN | apply below_drew1 | refine below_set ?_ GE524.out | refine below_set ?_ GE533.out | refine below_set ?_ GE537.out | refine below_set ?_ GE542.out) | exact HB.out)); (case side2 => exact Kd.R_tight rfl HO_543000.out); rintro e w99 ⟨rfl, hy0, hb, hkp⟩; refine ⟨_, rfl, ?_⟩; have n0_ := Aside0.mk (Kd.R_mono (ok' := fun k_ => some k_ ≠ (.slice Ao28 t549.length co28 : Value).ownBlock ∧ some k_ ≠ (.slice Ao34 t538.length co34 : Value).ownBlock) (Kd.R_keptB (HO_534000.out) hkp (fun k_ hk_ hs_ => by first | exact (hk_.2) hs_ | (revert hk_; simp only [and_imp]; intros; exact absurd hs_ (by assumption)))) (fun k_ hk_ => by first | exact ⟨hk_.1.1, hk_.1.2⟩ | (revert hk_; simp only [and_imp]; intros; and_intros <;> assumption))); have n1_ := Aside0.mk (Kd.R_mono (ok' := fun k_ => some k_ ≠ (.slice Ao22 t529.length co22 : Value).ownBlock ∧ some k_ ≠ (.slice Ao34 t538.length co34 : Value).ownBlock) (Kd.R_keptB (HO_538000.out) hkp (fun k_ hk_ hs_ => by first | exact (hk_.2) hs_ | (revert hk_; simp only [and_imp]; intros; exact absurd hs_ (by assumption)))) (fun k_ hk_ => by first | exact ⟨hk_.1.1, hk_.1.2⟩ | (revert hk_; simp only [and_imp]; intros; and_intros <;> assumption))); have n2_ := Aside0.mk (Kd.R_reok rfl hy0 (fun k_ e_ => HO_543000.out.1 k_ e_)); have n3_ := Aside0.mk (blk_kept (zh BK524.out) hkp (fun hs_ => (fun e_ => (Kd.R_ne HO_543000.out BK524.out (by decide)) e_) hs_)); have n4_ := Aside0.mk (blk_kept (zh BK533.out) hkp (fun hs_ => (fun e_ => (Kd.R_ne HO_543000.out BK533.out (by decide)) e_) hs_)); have n5_ := Aside0.mk (blk_kept (zh BK537.out) hkp (fun hs_ => (fun e_ => (Kd.R_ne HO_543000.out BK537.out (by decide)) e_) hs_)); have n6_ := Aside0.mk (blk_kept (zh BK542.out) hkp (fun hs_ => (fun e_ => (Kd.R_ne HO_543000.out BK542.out (by decide)) e_) hs_)); have n7_ := Aside0.mk (hb); clear HO_534000; clear HO_538000; clear HO_543000; clear BK524; clear BK533; clear BK537; clear BK542; clear HB; have HO_534000 := n0_; have HO_538000 := n1_; have HO_543000 := n2_; have BK524 := n3_; have BK533 := n4_; have BK537 := n5_; have BK542 := n6_; have HB := n7_; clear n0_ n1_ n2_ n3_ n4_ n5_ n6_ n7_; (try clear hb); (try clear hkp); (try clear hy0); have hcz100_0 : w99.cell? ⟨gb542, 0, none⟩ = some (.slice Ao34 t538.length co34) := (blk_cell BK542.out 0).trans rfl; have hfz100_0 := blk_frozen BK542.out 0) | ((with_reducible refine gate_callee (f := 19) rfl ?_); refine goesL_ (some 75) rfl rfl Try.func19 (by kernel_rfl) rfl #[.agg #[.slice Ao34 t552.length co34], .int .i64 1] rfl (by (try simp only [List.map_toArray, List.map_cons, List.map_nil]); first | done | (rw [show t552.length = t538.length from (Kd.R_reads' HO_543000.out).1.symm] <;> rfl) | rfl | (simp only [List.length_drop, List.length_take]; rfl)) ?_; (with_reducible refine (laws_heldPool.calls kj61 _ _ t552 1 t553 _ ?side1 ?side2 A93.out).mono ?_); (case side1 => exact zc (Kd.R_reads' HO_543000.out).2.2); (case side2 => rw [show t552.length = t538.length from (Kd.R_reads' HO_543000.out).1.symm]; exact (Kd.R_reads' HO_543000.out).2.1); rintro e w101 ⟨rfl, hb⟩; refine ⟨_, rfl, ?_⟩; have n0_ := Aside0.mk (Kd.R_below (zr HO_534000.out) hb); have n1_ := Aside0.mk (Kd.R_below (zr HO_538000.out) hb); have n2_ := Aside0.mk (Kd.R_below (zr HO_543000.out) hb); have n3_ := Aside0.mk (blk_below (zh BK524.out) hb); have n4_ := Aside0.mk (blk_below (zh BK533.out) hb); have n5_ := Aside0.mk (blk_below (zh BK537.out) hb); have n6_ := Aside0.mk (blk_below (zh BK542.out) hb); have n7_ := Aside0.mk (below_step (zb HB.out) hb); clear HO_534000; clear HO_538000; clear HO_543000; clear BK524; clear BK533; clear BK537; clear BK542; clear HB; have HO_534000 := n0_; have HO_538000 := n1_; have HO_543000 := n2_; have BK524 := n3_; have BK533 := n4_; have BK537 := n5_; have BK542 := n6_; have HB := n7_; clear n0_ n1_ n2_ n3_ n4_ n5_ n6_ n7_; (try clear hb); (try clear hb2); (try clear hk); (try clear hi)))
          go_ret
          exact ⟨ze, zb HB.out⟩
         ·rw [if_neg c94] at H
          have c94b0 : decide (t553 < 0) = false := decide_eq_false c94
          clear c94
          by_cases c102 : t553 = t551
          ·rw [if_pos c102] at H
           have c102b0 : (t553 == t551) = true := beq_iff_eq.mpr c102
           have c102b1 : (t553 != t551) = false := bne_eq_false_iff_eq.mpr c102
           clear c102
           replace H := Option.bind_eq_some_iff.mp H
           obtain ⟨t554, A1030, H⟩ := H
           replace H : ((impl_MakeSign.f kj61 t554 a1 a2).bind fun bt557 => ((laws_eqPool.f kj61 bt557.1 t529).bind fun t562 => (if t562 = true then (laws_FnExactMakeSign.j2 kj61 t551 (bt557.2 != t532) t552) else (laws_FnExactMakeSign.j2 kj61 t551 true t552)))) = some r := H
           have A103 := Aside0.mk A1030
           clear A1030
           replace H := Option.bind_eq_some_iff.mp H
           obtain ⟨⟨t557, t560⟩, A1040, H⟩ := H
           replace H : ((laws_eqPool.f kj61 t557 t529).bind fun t562 => (if t562 = true then (laws_FnExactMakeSign.j2 kj61 t551 (t560 != t532) t552) else (laws_FnExactMakeSign.j2 kj61 t551 true t552))) = some r := H
           have A104 := Aside0.mk A1040
           clear A1040
           have HC105 := Aside0.mk H
           clear H
           have hnb106 := NB542_524.out
           have hnc106 := NB524_542.out
           have hnb107 := NB542_533.out
           have hnc107 := NB533_542.out
           have hnb108 := NB542_537.out
           have hnc108 := NB537_542.out
           have hcz109_0 : wc.cell? ⟨gb542, 0, none⟩ = some (.slice Ao34 t538.length co34) := (blk_cell BK542.out 0).trans rfl
           have hfz109_0 := blk_frozen BK542.out 0
           go_upto_region 25 with (first | ((with_reducible refine gate_callee (f := 18) rfl ?_); refine goesL_ (some 72) rfl rfl Try.func18 (by kernel_rfl) rfl #[.agg #[.slice Ao34 t538.length co34], .int .i64 1] rfl zl ?_; (with_reducible refine (laws_markPool.calls kj61 (fun k_ => some k_ = (.slice Ao34 t538.length co34 : Value).ownBlock) (.slice Ao34 t538.length co34) t538 1 t551 t552 w _ ?side1 ?side2 A92.out).mono ?_); (case side1 => repeat (first | (with_reducible first | exact HB.out | apply below_alloc | apply pw_below_drewN | apply below_drew1 | refine below_set ?_ GE524.out | refine below_set ?_ GE533.out | refine below_set ?_ GE537.out | refine below_set ?_ GE542.out) | exact HB.out)); (case side2 => exact Kd.R_tight rfl HO_543000.out); rintro e w110 ⟨rfl, hy0, hb, hkp⟩; refine ⟨_, rfl, ?_⟩; have n0_ := Aside0.mk (Kd.R_mono (ok' := fun k_ => some k_ ≠ (.slice Ao28 t549.length co28 : Value).ownBlock ∧ some k_ ≠ (.slice Ao34 t538.length co34 : Value).ownBlock) (Kd.R_keptB (HO_534000.out) hkp (fun k_ hk_ hs_ => by first | exact (hk_.2) hs_ | (revert hk_; simp only [and_imp]; intros; exact absurd hs_ (by assumption)))) (fun k_ hk_ => by first | exact ⟨hk_.1.1, hk_.1.2⟩ | (revert hk_; simp only [and_imp]; intros; and_intros <;> assumption))); have n1_ := Aside0.mk (Kd.R_mono (ok' := fun k_ => some k_ ≠ (.slice Ao22 t529.length co22 : Value).ownBlock ∧ some k_ ≠ (.slice Ao34 t538.length co34 : Value).ownBlock) (Kd.R_keptB (HO_538000.out) hkp (fun k_ hk_ hs_ => by first | exact (hk_.2) hs_ | (revert hk_; simp only [and_imp]; intros; exact absurd hs_ (by assumption)))) (fun k_ hk_ => by first | exact ⟨hk_.1.1, hk_.1.2⟩ | (revert hk_; simp only [and_imp]; intros; and_intros <;> assumption))); have n2_ := Aside0.mk (Kd.R_reok rfl hy0 (fun k_ e_ => HO_543000.out.1 k_ e_)); have n3_ := Aside0.mk (blk_kept (zh BK524.out) hkp (fun hs_ => (fun e_ => (Kd.R_ne HO_543000.out BK524.out (by decide)) e_) hs_)); have n4_ := Aside0.mk (blk_kept (zh BK533.out) hkp (fun hs_ => (fun e_ => (Kd.R_ne HO_543000.out BK533.out (by decide)) e_) hs_)); have n5_ := Aside0.mk (blk_kept (zh BK537.out) hkp (fun hs_ => (fun e_ => (Kd.R_ne HO_543000.out BK537.out (by decide)) e_) hs_)); have n6_ := Aside0.mk (blk_kept (zh BK542.out) hkp (fun hs_ => (fun e_ => (Kd.R_ne HO_543000.out BK542.out (by decide)) e_) hs_)); have n7_ := Aside0.mk (hb); clear HO_534000; clear HO_538000; clear HO_543000; clear BK524; clear BK533; clear BK537; clear BK542; clear HB; have HO_534000 := n0_; have HO_538000 := n1_; have HO_543000 := n2_; have BK524 := n3_; have BK533 := n4_; have BK537 := n5_; have BK542 := n6_; have HB := n7_; clear n0_ n1_ n2_ n3_ n4_ n5_ n6_ n7_; (try clear hb); (try clear hkp); (try clear hy0); have hcz111_0 : w110.cell? ⟨gb542, 0, none⟩ = some (.slice Ao34 t538.length co34) := (blk_cell BK542.out 0).trans rfl; have hfz111_0 := blk_frozen BK542.out 0) | ((with_reducible refine gate_callee (f := 19) rfl ?_); refine goesL_ (some 75) rfl rfl Try.func19 (by kernel_rfl) rfl #[.agg #[.slice Ao34 t552.length co34], .int .i64 1] rfl (by (try simp only [List.map_toArray, List.map_cons, List.map_nil]); first | done | (rw [show t552.length = t538.length from (Kd.R_reads' HO_543000.out).1.symm] <;> rfl) | rfl | (simp only [List.length_drop, List.length_take]; rfl)) ?_; (with_reducible refine (laws_heldPool.calls kj61 _ _ t552 1 t553 _ ?side1 ?side2 A93.out).mono ?_); (case side1 => exact zc (Kd.R_reads' HO_543000.out).2.2); (case side2 => rw [show t552.length = t538.length from (Kd.R_reads' HO_543000.out).1.symm]; exact (Kd.R_reads' HO_543000.out).2.1); rintro e w112 ⟨rfl, hb⟩; refine ⟨_, rfl, ?_⟩; have n0_ := Aside0.mk (Kd.R_below (zr HO_534000.out) hb); have n1_ := Aside0.mk (Kd.R_below (zr HO_538000.out) hb); have n2_ := Aside0.mk (Kd.R_below (zr HO_543000.out) hb); have n3_ := Aside0.mk (blk_below (zh BK524.out) hb); have n4_ := Aside0.mk (blk_below (zh BK533.out) hb); have n5_ := Aside0.mk (blk_below (zh BK537.out) hb); have n6_ := Aside0.mk (blk_below (zh BK542.out) hb); have n7_ := Aside0.mk (below_step (zb HB.out) hb); clear HO_534000; clear HO_538000; clear HO_543000; clear BK524; clear BK533; clear BK537; clear BK542; clear HB; have HO_534000 := n0_; have HO_538000 := n1_; have HO_543000 := n2_; have BK524 := n3_; have BK533 := n4_; have BK537 := n5_; have BK542 := n6_; have HB := n7_; clear n0_ n1_ n2_ n3_ n4_ n5_ n6_ n7_; (try clear hb); (try clear hb2); (try clear hk); (try clear hi); have hnb113 := NB524_533.out; have hnc113 := NB533_524.out; have hnb114 := NB524_537.out; have hnc114 := NB537_524.out; have hcz115_0 : w112.cell? ⟨gb524, 0, none⟩ = some (.slice A0_0 l0_0.length c0_0) := (blk_cell BK524.out 0).trans rfl; have hfz115_0 := blk_frozen BK524.out 0) | ((with_reducible refine gate_callee (f := 15) rfl ?_); refine goesL_ (some 83) rfl rfl Try.func15 (by kernel_rfl) rfl #[.agg #[.slice A0_0 l0_0.length c0_0]] rfl zl ?_; (with_reducible refine (laws_toPool.calls kj61 _ _ l0_0 t554 _ ?side1 ?side2 A103.out).mono ?_); (case side1 => exact zc (Kd.C_below HR0_0.out HB.out)); (case side2 => exact HC0_0.out); rintro e w116 ⟨v555, rfl, ho0, hb⟩; refine ⟨_, rfl, ?_⟩; have n0_ := Aside0.mk (Kd.R_elder' (zr HO_534000.out) (Kd.R_base ho0) hb); have n1_ := Aside0.mk (Kd.R_elder' (zr HO_538000.out) (Kd.R_base ho0) hb); have n2_ := Aside0.mk (Kd.R_elder' (zr HO_543000.out) (Kd.R_base ho0) hb); have n3_ := Aside0.mk (Kd.R_lower (Kd.R_new' (Kd.R_new' (Kd.R_new' ho0 (Kd.R_lt (zr HO_534000.out))) (Kd.R_lt (zr HO_538000.out))) (Kd.R_lt (zr HO_543000.out))) (below_size (zb HB.out))); have n4_ := Aside0.mk (blk_below (zh BK524.out) hb); have n5_ := Aside0.mk (blk_below (zh BK533.out) hb); have n6_ := Aside0.mk (blk_below (zh BK537.out) hb); have n7_ := Aside0.mk (blk_below (zh BK542.out) hb); have n8_ := Aside0.mk (below_step (zb HB.out) hb); clear HO_534000; clear HO_538000; clear HO_543000; clear BK524; clear BK533; clear BK537; clear BK542; clear HB; have HO_534000 := n0_; have HO_538000 := n1_; have HO_543000 := n2_; have HO556 := n3_; have BK524 := n4_; have BK533 := n5_; have BK537 := n6_; have BK542 := n7_; have HB := n8_; clear n0_ n1_ n2_ n3_ n4_ n5_ n6_ n7_ n8_; (try clear hb); (try clear hb2); (try clear hk); (try clear hi); (try clear ho0); obtain ⟨Ao117, co117, eo117⟩ := Kd.R_slice HO556.out; subst eo117) | ((with_reducible refine gate_callee (f := 31) rfl ?_); refine goesL_ (some 86) rfl rfl Try.func31 (by kernel_rfl) rfl #[.agg #[.slice Ao117 t554.length co117], .int .i64 a1, .int .i64 a2] rfl zl ?_; (with_reducible refine (impl_MakeSign.calls kj61 _ _ t554 a1 a2 t557 t560 _ ?side1 ?side2 A104.out).mono ?_); (case side1 => exact zc (Kd.R_reads' HO556.out).2.2); (case side2 => exact (Kd.R_reads' HO556.out).2.1); rintro e w118 ⟨v558, rfl, ho0, hb⟩; refine ⟨_, rfl, ?_⟩; have n0_ := Aside0.mk (Kd.R_elder' (zr HO_534000.out) (Kd.R_base ho0) hb); have n1_ := Aside0.mk (Kd.R_elder' (zr HO_538000.out) (Kd.R_base ho0) hb); have n2_ := Aside0.mk (Kd.R_elder' (zr HO_543000.out) (Kd.R_base ho0) hb); have n3_ := Aside0.mk (Kd.R_elder' (zr HO556.out) (Kd.R_base ho0) hb); have n4_ := Aside0.mk (Kd.R_lower (Kd.R_new' (Kd.R_new' (Kd.R_new' (Kd.R_new' ho0 (Kd.R_lt (zr HO_534000.out))) (Kd.R_lt (zr HO_538000.out))) (Kd.R_lt (zr HO_543000.out))) (Kd.R_lt (zr HO556.out))) (below_size (zb HB.out))); have n5_ := Aside0.mk (blk_below (zh BK524.out) hb); have n6_ := Aside0.mk (blk_below (zh BK533.out) hb); have n7_ := Aside0.mk (blk_below (zh BK537.out) hb); have n8_ := Aside0.mk (blk_below (zh BK542.out) hb); have n9_ := Aside0.mk (below_step (zb HB.out) hb); clear HO_534000; clear HO_538000; clear HO_543000; clear HO556; clear BK524; clear BK533; clear BK537; clear BK542; clear HB; have HO_534000 := n0_; have HO_538000 := n1_; have HO_543000 := n2_; have HO556 := n3_; have HO559 := n4_; have BK524 := n5_; have BK533 := n6_; have BK537 := n7_; have BK542 := n8_; have HB := n9_; clear n0_ n1_ n2_ n3_ n4_ n5_ n6_ n7_ n8_ n9_; (try clear hb); (try clear hb2); (try clear hk); (try clear hi); (try clear ho0)) | ((with_reducible refine gate_dst (N := 16) rfl ?_); refine box_event ?hg (N := 16) ?hd (cs := #[.slice none 0 0]) (t := 28) ?hr ?_; (case hd => rfl); (case hg => rfl); (case hr => first | (go_simp; done) | (go_simp; rfl)); intro gb561 hg w119 hbox hb; have n0_ := Aside0.mk (Kd.R_below (zr HO_534000.out) hb); have n1_ := Aside0.mk (Kd.R_below (zr HO_538000.out) hb); have n2_ := Aside0.mk (Kd.R_below (zr HO_543000.out) hb); have n3_ := Aside0.mk (Kd.R_below (zr HO556.out) hb); have n4_ := Aside0.mk (Kd.R_below (zr HO559.out) hb); have n5_ := Aside0.mk (blk_below (zh BK524.out) hb); have n6_ := Aside0.mk (blk_below (zh BK533.out) hb); have n7_ := Aside0.mk (blk_below (zh BK537.out) hb); have n8_ := Aside0.mk (blk_below (zh BK542.out) hb); have n9_ := Aside0.mk (below_step (zb HB.out) hb); have n10_ := Aside0.mk (hbox); have n11_ := Aside0.mk ((by rw [hg]; exact (below_size (zb HB.out)) : w.heap.size ≤ gb561)); have n12_ := Aside0.mk ((by rw [hg]; exact (below_size (zb HB.out)) : w.heap.size ≤ gb561)); have n13_ := Aside0.mk ((by rw [hg]; exact Nat.ne_of_lt (blk_lt (zh BK524.out)) : gb524 ≠ gb561)); have n14_ := Aside0.mk ((by rw [hg]; exact Nat.ne_of_gt (blk_lt (zh BK524.out)) : gb561 ≠ gb524)); have n15_ := Aside0.mk ((by rw [hg]; exact Nat.ne_of_lt (blk_lt (zh BK533.out)) : gb533 ≠ gb561)); have n16_ := Aside0.mk ((by rw [hg]; exact Nat.ne_of_gt (blk_lt (zh BK533.out)) : gb561 ≠ gb533)); have n17_ := Aside0.mk ((by rw [hg]; exact Nat.ne_of_lt (blk_lt (zh BK537.out)) : gb537 ≠ gb561)); have n18_ := Aside0.mk ((by rw [hg]; exact Nat.ne_of_gt (blk_lt (zh BK537.out)) : gb561 ≠ gb537)); have n19_ := Aside0.mk ((by rw [hg]; exact Nat.ne_of_lt (blk_lt (zh BK542.out)) : gb542 ≠ gb561)); have n20_ := Aside0.mk ((by rw [hg]; exact Nat.ne_of_gt (blk_lt (zh BK542.out)) : gb561 ≠ gb542)); clear HO_534000; clear HO_538000; clear HO_543000; clear HO556; clear HO559; clear BK524; clear BK533; clear BK537; clear BK542; clear HB; have HO_534000 := n0_; have HO_538000 := n1_; have HO_543000 := n2_; have HO556 := n3_; have HO559 := n4_; have BK524 := n5_; have BK533 := n6_; have BK537 := n7_; have BK542 := n8_; have HB := n9_; have BK561 := n10_; have GW561 := n11_; have GE561 := n12_; have NB524_561 := n13_; have NB561_524 := n14_; have NB533_561 := n15_; have NB561_533 := n16_; have NB537_561 := n17_; have NB561_537 := n18_; have NB542_561 := n19_; have NB561_542 := n20_; clear n0_ n1_ n2_ n3_ n4_ n5_ n6_ n7_ n8_ n9_ n10_ n11_ n12_ n13_ n14_ n15_ n16_ n17_ n18_ n19_ n20_; clear hb hbox hg; obtain ⟨Ao120, co120, eo120⟩ := Kd.R_slice HO559.out; subst eo120; have hnb121 := NB561_524.out; have hnc121 := NB524_561.out; have hnb122 := NB561_533.out; have hnc122 := NB533_561.out; have hnb123 := NB561_537.out; have hnc123 := NB537_561.out; have hnb124 := NB561_542.out; have hnc124 := NB542_561.out; have hcz125_0 : w119.cell? ⟨gb561, 0, none⟩ = some (.slice none 0 0) := (blk_cell BK561.out 0).trans rfl; have hfz125_0 := blk_frozen BK561.out 0))
           (try simp only [Act.put, List.setIfInBounds_toArray, List.set_cons_zero, List.set_cons_succ])
           go_cut [97] (fun v97 wc => ∃ (kq : Nat) (x97_104 : Bool), v97 = .bool x97_104 ∧ Aside0 (laws_FnExactMakeSign.j2 kq t551 x97_104 t552 = some r) ∧ Aside0 (kq ≤ kj61) ∧ Aside0 (Kd.R k49 49 wc w.heap.size (fun k_ => some k_ ≠ ((.slice Ao28 t549.length co28) : Value).ownBlock ∧ some k_ ≠ ((.slice Ao34 t538.length co34) : Value).ownBlock ∧ some k_ ≠ ((.slice Ao120 t557.length co120) : Value).ownBlock) (.slice Ao22 t529.length co22) t529) ∧ Aside0 (Kd.R k49 49 wc w.heap.size (fun k_ => some k_ ≠ ((.slice Ao22 t529.length co22) : Value).ownBlock ∧ some k_ ≠ ((.slice Ao34 t538.length co34) : Value).ownBlock ∧ some k_ ≠ ((.slice Ao120 t557.length co120) : Value).ownBlock) (.slice Ao28 t549.length co28) t549) ∧ Aside0 (Kd.R k49 49 wc w.heap.size (fun k_ => some k_ ≠ ((.slice Ao22 t529.length co22) : Value).ownBlock ∧ some k_ ≠ ((.slice Ao28 t549.length co28) : Value).ownBlock ∧ some k_ ≠ ((.slice Ao120 t557.length co120) : Value).ownBlock) (.slice Ao34 t538.length co34) t552) ∧ Aside0 (Kd.R k49 49 wc w.heap.size (fun k_ => some k_ ≠ ((.slice Ao22 t529.length co22) : Value).ownBlock ∧ some k_ ≠ ((.slice Ao28 t549.length co28) : Value).ownBlock ∧ some k_ ≠ ((.slice Ao34 t538.length co34) : Value).ownBlock) (.slice Ao120 t557.length co120) t557) ∧ Aside0 (wc.heap[gb524]? = some (.cells #[(.slice A0_0 l0_0.length c0_0)] 24 (0, 0))) ∧ Aside0 (wc.heap[gb533]? = some (.cells #[(.slice Ao22 t529.length co22)] 28 (0, 0))) ∧ Aside0 (wc.heap[gb537]? = some (.cells #[(.slice Ao28 t549.length co28)] 28 (0, 0))) ∧ Aside0 (wc.heap[gb542]? = some (.cells #[(.slice Ao34 t538.length co34)] 28 (0, 0))) ∧ Aside0 (wc.heap[gb561]? = some (.cells #[(.slice Ao120 t557.length co120)] 28 (0, 0))) ∧ Aside0 (Below w.heap.size w wc))
           case first =>
            have H := HC105.out
            clear HC105
            replace H := Option.bind_eq_some_iff.mp H
            obtain ⟨t562, A1260, H⟩ := H
            replace H : (if t562 = true then (laws_FnExactMakeSign.j2 kj61 t551 (t560 != t532) t552) else (laws_FnExactMakeSign.j2 kj61 t551 true t552)) = some r := H
            have A126 := Aside0.mk A1260
            clear A1260
            by_cases c127 : t562 = true
            ·subst c127
             have H1 : (laws_FnExactMakeSign.j2 kj61 t551 (t560 != t532) t552) = some r := by rw [if_pos rfl] at H; exact H
             clear H
             have H := H1
             clear H1
             have H' := Aside0.mk H
             clear H
             have hnb128 := NB561_524.out
             have hnc128 := NB524_561.out
             have hnb129 := NB561_533.out
             have hnc129 := NB533_561.out
             have hnb130 := NB561_537.out
             have hnc130 := NB537_561.out
             have hnb131 := NB561_542.out
             have hnc131 := NB542_561.out
             have hcz132_0 : w119.cell? ⟨gb561, 0, none⟩ = some (.slice none 0 0) := (blk_cell BK561.out 0).trans rfl
             have hfz132_0 := blk_frozen BK561.out 0
             have hnb133 := NB533_524.out
             have hnc133 := NB524_533.out
             have hnb134 := NB533_537.out
             have hnc134 := NB537_533.out
             have hnb135 := NB533_542.out
             have hnc135 := NB542_533.out
             have hcz136_0 : w119.cell? ⟨gb533, 0, none⟩ = some (.slice Ao22 t529.length co22) := (blk_cell BK533.out 0).trans rfl
             have hfz136_0 := blk_frozen BK533.out 0
             go_wp2_with (first | ((with_reducible refine gate_callee (f := 17) rfl ?_); refine goesL_ (some 91) rfl rfl Try.func17 (by kernel_rfl) rfl #[.agg #[.slice Ao120 t557.length co120], .agg #[.slice Ao22 t529.length co22]] rfl zl ?_; (with_reducible refine (laws_eqPool.calls kj61 _ _ t557 _ _ t529 true _ ?side1 ?side2 ?side3 ?side4 A126.out).mono ?_); (case side1 => refine (Kd.R_reads' (e := 49) (base := w.heap.size) (ok := fun k_ => ((((True ∧ some k_ ≠ (.slice Ao22 t529.length co22 : Value).ownBlock) ∧ some k_ ≠ (.slice Ao28 t549.length co28 : Value).ownBlock) ∧ some k_ ≠ (.slice Ao34 t538.length co34 : Value).ownBlock) ∧ some k_ ≠ (.slice Ao117 t554.length co117 : Value).ownBlock)) (n := t557.length) (c := co120) ?_).2.2; exact (by (with_reducible repeat (first | apply Kd.R_alloc | apply Kd.R_drewN | apply Kd.R_drew)); exact (Kd.R_mono (Kd.R_far (p := ⟨gb561, 0, none⟩) (Kd.R_types HO559.out BK561.out (by decide)) (fun _ hk => hk.2) (.slice Ao120 t557.length co120)) (fun _ h_ => h_.1)))); (case side2 => exact (Kd.R_reads' HO559.out).2.1); (case side3 => refine (Kd.R_reads' (e := 49) (base := w.heap.size) (ok := fun k_ => (((some k_ ≠ (.slice Ao28 t549.length co28 : Value).ownBlock ∧ some k_ ≠ (.slice Ao34 t538.length co34 : Value).ownBlock) ∧ some k_ ≠ (.slice Ao117 t554.length co117 : Value).ownBlock) ∧ some k_ ≠ (.slice Ao120 t557.length co120 : Value).ownBlock)) (n := t529.length) (c := co22) ?_).2.2; exact (by (with_reducible repeat (first | apply Kd.R_alloc | apply Kd.R_drewN | apply Kd.R_drew)); exact (Kd.R_mono (Kd.R_far (p := ⟨gb561, 0, none⟩) (Kd.R_types HO_534000.out BK561.out (by decide)) (fun _ hk => hk.2) (.slice Ao120 t557.length co120)) (fun _ h_ => h_.1)))); (case side4 => exact (Kd.R_reads' HO_534000.out).2.1); rintro e w137 ⟨rfl, hb⟩; refine ⟨_, rfl, ?_⟩; have n0_ := Aside0.mk (Kd.R_below (by (with_reducible repeat (first | apply Kd.R_alloc | apply Kd.R_drewN | apply Kd.R_drew)); exact (Kd.R_mono (Kd.R_far (p := ⟨gb561, 0, none⟩) (Kd.R_types HO_534000.out BK561.out (by decide)) (fun _ hk => hk.2) (.slice Ao120 t557.length co120)) (fun _ h_ => h_.1))) hb); have n1_ := Aside0.mk (Kd.R_below (by (with_reducible repeat (first | apply Kd.R_alloc | apply Kd.R_drewN | apply Kd.R_drew)); exact (Kd.R_mono (Kd.R_far (p := ⟨gb561, 0, none⟩) (Kd.R_types HO_538000.out BK561.out (by decide)) (fun _ hk => hk.2) (.slice Ao120 t557.length co120)) (fun _ h_ => h_.1))) hb); have n2_ := Aside0.mk (Kd.R_below (by (with_reducible repeat (first | apply Kd.R_alloc | apply Kd.R_drewN | apply Kd.R_drew)); exact (Kd.R_mono (Kd.R_far (p := ⟨gb561, 0, none⟩) (Kd.R_types HO_543000.out BK561.out (by decide)) (fun _ hk => hk.2) (.slice Ao120 t557.length co120)) (fun _ h_ => h_.1))) hb); have n3_ := Aside0.mk (Kd.R_below (by (with_reducible repeat (first | apply Kd.R_alloc | apply Kd.R_drewN | apply Kd.R_drew)); exact (Kd.R_mono (Kd.R_far (p := ⟨gb561, 0, none⟩) (Kd.R_types HO556.out BK561.out (by decide)) (fun _ hk => hk.2) (.slice Ao120 t557.length co120)) (fun _ h_ => h_.1))) hb); have n4_ := Aside0.mk (Kd.R_below (by (with_reducible repeat (first | apply Kd.R_alloc | apply Kd.R_drewN | apply Kd.R_drew)); exact (Kd.R_mono (Kd.R_far (p := ⟨gb561, 0, none⟩) (Kd.R_types HO559.out BK561.out (by decide)) (fun _ hk => hk.2) (.slice Ao120 t557.length co120)) (fun _ h_ => h_.1))) hb); have n5_ := Aside0.mk (blk_below (g := gb524) (o := .cells #[.slice A0_0 l0_0.length c0_0] 24 (0, 0)) (zf BK524.out) hb); have n6_ := Aside0.mk (blk_below (g := gb533) (o := .cells #[.slice Ao22 t529.length co22] 28 (0, 0)) (zf BK533.out) hb); have n7_ := Aside0.mk (blk_below (g := gb537) (o := .cells #[.slice Ao28 t549.length co28] 28 (0, 0)) (zf BK537.out) hb); have n8_ := Aside0.mk (blk_below (g := gb542) (o := .cells #[.slice Ao34 t538.length co34] 28 (0, 0)) (zf BK542.out) hb); have n9_ := Aside0.mk (blk_below (g := gb561) (o := .cells #[.slice Ao120 t557.length co120] 28 (0, 0)) (by (with_reducible repeat (first | refine blk_drewN ?_ _ | refine blk_drew ?_ | refine blk_alloc ?_ _)); refine blk_put (cs := #[.slice none 0 0]) ?_ 0 _ rfl; (with_reducible repeat (first | refine blk_drewN ?_ _ | refine blk_drew ?_ | refine blk_alloc ?_ _)); exact BK561.out) hb); have n10_ := Aside0.mk (below_step (zb HB.out) hb); clear HO_534000; clear HO_538000; clear HO_543000; clear HO556; clear HO559; clear BK524; clear BK533; clear BK537; clear BK542; clear BK561; clear HB; have HO_534000 := n0_; have HO_538000 := n1_; have HO_543000 := n2_; have HO556 := n3_; have HO559 := n4_; have BK524 := n5_; have BK533 := n6_; have BK537 := n7_; have BK542 := n8_; have BK561 := n9_; have HB := n10_; clear n0_ n1_ n2_ n3_ n4_ n5_ n6_ n7_ n8_ n9_ n10_; (try clear hb); (try clear hb2); (try clear hk); (try clear hi)))
             go_meet
             case rel => exact ⟨_, ((t560 != t532)), (by first | rfl | (simp; done) | (simp [*]; done)), H', ⟨by have := HJ12.out; have := HJ61.out; first | omega | exact Nat.le_refl _⟩, ⟨by (try simp only [hl538000_61]); (with_reducible repeat (first | apply Kd.R_alloc | apply Kd.R_drewN | apply Kd.R_drew)); exact Kd.R_mono HO_534000.out (fun _ hk => ⟨hk.1.1.1, ⟨hk.1.1.2, hk.2⟩⟩)⟩, ⟨by (try simp only [hl538000_61]); (with_reducible repeat (first | apply Kd.R_alloc | apply Kd.R_drewN | apply Kd.R_drew)); exact Kd.R_mono HO_538000.out (fun _ hk => ⟨hk.1.1.1, ⟨hk.1.1.2, hk.2⟩⟩)⟩, ⟨by (try simp only [hl538000_61]); (with_reducible repeat (first | apply Kd.R_alloc | apply Kd.R_drewN | apply Kd.R_drew)); exact Kd.R_mono HO_543000.out (fun _ hk => ⟨hk.1.1.1, ⟨hk.1.1.2, hk.2⟩⟩)⟩, ⟨by (try simp only [hl538000_61]); (with_reducible repeat (first | apply Kd.R_alloc | apply Kd.R_drewN | apply Kd.R_drew)); exact Kd.R_mono HO559.out (fun _ hk => ⟨hk.1.1.1.2, ⟨hk.1.1.2, hk.1.2⟩⟩)⟩, ⟨by (try simp only [hl538000_61]); (with_reducible repeat (first | refine blk_drewN ?_ _ | refine blk_drew ?_ | refine blk_alloc ?_ _)); exact BK524.out⟩, ⟨by (try simp only [hl538000_61]); (with_reducible repeat (first | refine blk_drewN ?_ _ | refine blk_drew ?_ | refine blk_alloc ?_ _)); exact BK533.out⟩, ⟨by (try simp only [hl538000_61]); (with_reducible repeat (first | refine blk_drewN ?_ _ | refine blk_drew ?_ | refine blk_alloc ?_ _)); exact BK537.out⟩, ⟨by (try simp only [hl538000_61]); (with_reducible repeat (first | refine blk_drewN ?_ _ | refine blk_drew ?_ | refine blk_alloc ?_ _)); exact BK542.out⟩, ⟨by (try simp only [hl538000_61]); (with_reducible repeat (first | refine blk_drewN ?_ _ | refine blk_drew ?_ | refine blk_alloc ?_ _)); exact BK561.out⟩, ⟨zb HB.out⟩⟩
            ·replace c127 := Bool.eq_false_iff.mpr c127
             subst c127
             have H1 : (laws_FnExactMakeSign.j2 kj61 t551 true t552) = some r := by rw [if_neg (show ¬ (false = true) by decide)] at H; exact H
             clear H
             have H := H1
             clear H1
             have H' := Aside0.mk H
             clear H
             have hnb138 := NB561_524.out
             have hnc138 := NB524_561.out
             have hnb139 := NB561_533.out
             have hnc139 := NB533_561.out
             have hnb140 := NB561_537.out
             have hnc140 := NB537_561.out
             have hnb141 := NB561_542.out
             have hnc141 := NB542_561.out
             have hcz142_0 : w119.cell? ⟨gb561, 0, none⟩ = some (.slice none 0 0) := (blk_cell BK561.out 0).trans rfl
             have hfz142_0 := blk_frozen BK561.out 0
             have hnb143 := NB533_524.out
             have hnc143 := NB524_533.out
             have hnb144 := NB533_537.out
             have hnc144 := NB537_533.out
             have hnb145 := NB533_542.out
             have hnc145 := NB542_533.out
             have hcz146_0 : w119.cell? ⟨gb533, 0, none⟩ = some (.slice Ao22 t529.length co22) := (blk_cell BK533.out 0).trans rfl
             have hfz146_0 := blk_frozen BK533.out 0
             go_wp2_with (first | ((with_reducible refine gate_callee (f := 17) rfl ?_); refine goesL_ (some 91) rfl rfl Try.func17 (by kernel_rfl) rfl #[.agg #[.slice Ao120 t557.length co120], .agg #[.slice Ao22 t529.length co22]] rfl zl ?_; (with_reducible refine (laws_eqPool.calls kj61 _ _ t557 _ _ t529 false _ ?side1 ?side2 ?side3 ?side4 A126.out).mono ?_); (case side1 => refine (Kd.R_reads' (e := 49) (base := w.heap.size) (ok := fun k_ => ((((True ∧ some k_ ≠ (.slice Ao22 t529.length co22 : Value).ownBlock) ∧ some k_ ≠ (.slice Ao28 t549.length co28 : Value).ownBlock) ∧ some k_ ≠ (.slice Ao34 t538.length co34 : Value).ownBlock) ∧ some k_ ≠ (.slice Ao117 t554.length co117 : Value).ownBlock)) (n := t557.length) (c := co120) ?_).2.2; exact (by (with_reducible repeat (first | apply Kd.R_alloc | apply Kd.R_drewN | apply Kd.R_drew)); exact (Kd.R_mono (Kd.R_far (p := ⟨gb561, 0, none⟩) (Kd.R_types HO559.out BK561.out (by decide)) (fun _ hk => hk.2) (.slice Ao120 t557.length co120)) (fun _ h_ => h_.1)))); (case side2 => exact (Kd.R_reads' HO559.out).2.1); (case side3 => refine (Kd.R_reads' (e := 49) (base := w.heap.size) (ok := fun k_ => (((some k_ ≠ (.slice Ao28 t549.length co28 : Value).ownBlock ∧ some k_ ≠ (.slice Ao34 t538.length co34 : Value).ownBlock) ∧ some k_ ≠ (.slice Ao117 t554.length co117 : Value).ownBlock) ∧ some k_ ≠ (.slice Ao120 t557.length co120 : Value).ownBlock)) (n := t529.length) (c := co22) ?_).2.2; exact (by (with_reducible repeat (first | apply Kd.R_alloc | apply Kd.R_drewN | apply Kd.R_drew)); exact (Kd.R_mono (Kd.R_far (p := ⟨gb561, 0, none⟩) (Kd.R_types HO_534000.out BK561.out (by decide)) (fun _ hk => hk.2) (.slice Ao120 t557.length co120)) (fun _ h_ => h_.1)))); (case side4 => exact (Kd.R_reads' HO_534000.out).2.1); rintro e w147 ⟨rfl, hb⟩; refine ⟨_, rfl, ?_⟩; have n0_ := Aside0.mk (Kd.R_below (by (with_reducible repeat (first | apply Kd.R_alloc | apply Kd.R_drewN | apply Kd.R_drew)); exact (Kd.R_mono (Kd.R_far (p := ⟨gb561, 0, none⟩) (Kd.R_types HO_534000.out BK561.out (by decide)) (fun _ hk => hk.2) (.slice Ao120 t557.length co120)) (fun _ h_ => h_.1))) hb); have n1_ := Aside0.mk (Kd.R_below (by (with_reducible repeat (first | apply Kd.R_alloc | apply Kd.R_drewN | apply Kd.R_drew)); exact (Kd.R_mono (Kd.R_far (p := ⟨gb561, 0, none⟩) (Kd.R_types HO_538000.out BK561.out (by decide)) (fun _ hk => hk.2) (.slice Ao120 t557.length co120)) (fun _ h_ => h_.1))) hb); have n2_ := Aside0.mk (Kd.R_below (by (with_reducible repeat (first | apply Kd.R_alloc | apply Kd.R_drewN | apply Kd.R_drew)); exact (Kd.R_mono (Kd.R_far (p := ⟨gb561, 0, none⟩) (Kd.R_types HO_543000.out BK561.out (by decide)) (fun _ hk => hk.2) (.slice Ao120 t557.length co120)) (fun _ h_ => h_.1))) hb); have n3_ := Aside0.mk (Kd.R_below (by (with_reducible repeat (first | apply Kd.R_alloc | apply Kd.R_drewN | apply Kd.R_drew)); exact (Kd.R_mono (Kd.R_far (p := ⟨gb561, 0, none⟩) (Kd.R_types HO556.out BK561.out (by decide)) (fun _ hk => hk.2) (.slice Ao120 t557.length co120)) (fun _ h_ => h_.1))) hb); have n4_ := Aside0.mk (Kd.R_below (by (with_reducible repeat (first | apply Kd.R_alloc | apply Kd.R_drewN | apply Kd.R_drew)); exact (Kd.R_mono (Kd.R_far (p := ⟨gb561, 0, none⟩) (Kd.R_types HO559.out BK561.out (by decide)) (fun _ hk => hk.2) (.slice Ao120 t557.length co120)) (fun _ h_ => h_.1))) hb); have n5_ := Aside0.mk (blk_below (g := gb524) (o := .cells #[.slice A0_0 l0_0.length c0_0] 24 (0, 0)) (zf BK524.out) hb); have n6_ := Aside0.mk (blk_below (g := gb533) (o := .cells #[.slice Ao22 t529.length co22] 28 (0, 0)) (zf BK533.out) hb); have n7_ := Aside0.mk (blk_below (g := gb537) (o := .cells #[.slice Ao28 t549.length co28] 28 (0, 0)) (zf BK537.out) hb); have n8_ := Aside0.mk (blk_below (g := gb542) (o := .cells #[.slice Ao34 t538.length co34] 28 (0, 0)) (zf BK542.out) hb); have n9_ := Aside0.mk (blk_below (g := gb561) (o := .cells #[.slice Ao120 t557.length co120] 28 (0, 0)) (by (with_reducible repeat (first | refine blk_drewN ?_ _ | refine blk_drew ?_ | refine blk_alloc ?_ _)); refine blk_put (cs := #[.slice none 0 0]) ?_ 0 _ rfl; (with_reducible repeat (first | refine blk_drewN ?_ _ | refine blk_drew ?_ | refine blk_alloc ?_ _)); exact BK561.out) hb); have n10_ := Aside0.mk (below_step (zb HB.out) hb); clear HO_534000; clear HO_538000; clear HO_543000; clear HO556; clear HO559; clear BK524; clear BK533; clear BK537; clear BK542; clear BK561; clear HB; have HO_534000 := n0_; have HO_538000 := n1_; have HO_543000 := n2_; have HO556 := n3_; have HO559 := n4_; have BK524 := n5_; have BK533 := n6_; have BK537 := n7_; have BK542 := n8_; have BK561 := n9_; have HB := n10_; clear n0_ n1_ n2_ n3_ n4_ n5_ n6_ n7_ n8_ n9_ n10_; (try clear hb); (try clear hb2); (try clear hk); (try clear hi)))
             go_meet
             case rel => exact ⟨_, (true), (by first | rfl | (simp; done) | (simp [*]; done)), H', ⟨by have := HJ12.out; have := HJ61.out; first | omega | exact Nat.le_refl _⟩, ⟨by (try simp only [hl538000_61]); (with_reducible repeat (first | apply Kd.R_alloc | apply Kd.R_drewN | apply Kd.R_drew)); exact Kd.R_mono HO_534000.out (fun _ hk => ⟨hk.1.1.1, ⟨hk.1.1.2, hk.2⟩⟩)⟩, ⟨by (try simp only [hl538000_61]); (with_reducible repeat (first | apply Kd.R_alloc | apply Kd.R_drewN | apply Kd.R_drew)); exact Kd.R_mono HO_538000.out (fun _ hk => ⟨hk.1.1.1, ⟨hk.1.1.2, hk.2⟩⟩)⟩, ⟨by (try simp only [hl538000_61]); (with_reducible repeat (first | apply Kd.R_alloc | apply Kd.R_drewN | apply Kd.R_drew)); exact Kd.R_mono HO_543000.out (fun _ hk => ⟨hk.1.1.1, ⟨hk.1.1.2, hk.2⟩⟩)⟩, ⟨by (try simp only [hl538000_61]); (with_reducible repeat (first | apply Kd.R_alloc | apply Kd.R_drewN | apply Kd.R_drew)); exact Kd.R_mono HO559.out (fun _ hk => ⟨hk.1.1.1.2, ⟨hk.1.1.2, hk.1.2⟩⟩)⟩, ⟨by (try simp only [hl538000_61]); (with_reducible repeat (first | refine blk_drewN ?_ _ | refine blk_drew ?_ | refine blk_alloc ?_ _)); exact BK524.out⟩, ⟨by (try simp only [hl538000_61]); (with_reducible repeat (first | refine blk_drewN ?_ _ | refine blk_drew ?_ | refine blk_alloc ?_ _)); exact BK533.out⟩, ⟨by (try simp only [hl538000_61]); (with_reducible repeat (first | refine blk_drewN ?_ _ | refine blk_drew ?_ | refine blk_alloc ?_ _)); exact BK537.out⟩, ⟨by (try simp only [hl538000_61]); (with_reducible repeat (first | refine blk_drewN ?_ _ | refine blk_drew ?_ | refine blk_alloc ?_ _)); exact BK542.out⟩, ⟨by (try simp only [hl538000_61]); (with_reducible repeat (first | refine blk_drewN ?_ _ | refine blk_drew ?_ | refine blk_alloc ?_ _)); exact BK561.out⟩, ⟨zb HB.out⟩⟩
           case rest =>
            clear HC105
            try clear c1
            try clear c2
            try clear p2
            try clear c3
            try clear c4
            try clear c5
            try clear c5b0
            try clear c6
            try clear c7
            try clear c8
            try clear c9
            try clear c10
            try clear c11
            try clear c12
            try clear c13
            try clear c14
            try clear c15
            try clear c17
            try clear c18
            try clear c19
            try clear c23
            try clear c29
            try clear c30
            try clear c31
            try clear c35
            try clear c36
            try clear c37
            try clear c40
            try clear c41
            try clear c42
            try clear c43
            try clear c45
            try clear c46
            try clear c49
            try clear c50
            try clear c51
            try clear c53
            try clear c54
            try clear c57
            try clear c60
            try clear c67
            try clear c68
            try clear c69
            try clear c72
            try clear c72b0
            try clear c74
            try clear c75
            try clear c76
            try clear c77
            try clear c79
            try clear c80
            try clear c83
            try clear c84
            try clear c85
            try clear c87
            try clear c88
            try clear c91
            try clear c94
            try clear c94b0
            try clear c95
            try clear c96
            try clear c97
            try clear c102
            try clear c102b0
            try clear c102b1
            try clear c106
            try clear c107
            try clear c108
            try clear c113
            try clear c114
            try clear c121
            try clear c122
            try clear c123
            try clear c124
            try clear c127
            try clear c128
            try clear c129
            try clear c130
            try clear c131
            try clear c133
            try clear c134
            try clear c135
            try clear c138
            try clear c139
            try clear c140
            try clear c141
            try clear c143
            try clear c144
            try clear c145
            try clear hcz100_0
            try clear hcz109_0
            try clear hcz111_0
            try clear hcz115_0
            try clear hcz125_0
            try clear hcz132_0
            try clear hcz136_0
            try clear hcz142_0
            try clear hcz146_0
            try clear hcz15_0
            try clear hcz17_0
            try clear hcz24_0
            try clear hcz25_0
            try clear hcz31_0
            try clear hcz38_0
            try clear hcz44_0
            try clear hcz47_0
            try clear hcz52_0
            try clear hcz55_0
            try clear hcz70_0
            try clear hcz78_0
            try clear hcz7_0
            try clear hcz81_0
            try clear hcz86_0
            try clear hcz89_0
            try clear hcz98_0
            try clear hfz100_0
            try clear hfz109_0
            try clear hfz111_0
            try clear hfz115_0
            try clear hfz125_0
            try clear hfz132_0
            try clear hfz136_0
            try clear hfz142_0
            try clear hfz146_0
            try clear hfz15_0
            try clear hfz17_0
            try clear hfz24_0
            try clear hfz25_0
            try clear hfz31_0
            try clear hfz38_0
            try clear hfz44_0
            try clear hfz47_0
            try clear hfz52_0
            try clear hfz55_0
            try clear hfz70_0
            try clear hfz78_0
            try clear hfz7_0
            try clear hfz81_0
            try clear hfz86_0
            try clear hfz89_0
            try clear hfz98_0
            try clear p2
            obtain ⟨kq, x97_104, rfl, HA, HJ104, HO_534000, HO_538000, HO_543000, HO_562000, BK524, BK533, BK537, BK542, BK561, HB⟩ := hcut
            have hl543000_104 := (Kd.R_reads' HO_543000.out).1
            rw [hl543000_104] at HO_543000
            (try simp only [hl543000_104])
            (try simp only [hl543000_104] at BK524)
            (try simp only [hl543000_104] at BK533)
            (try simp only [hl543000_104] at BK537)
            (try simp only [hl543000_104] at BK542)
            (try simp only [hl543000_104] at BK561)
            (try simp only [hl543000_104] at HO_534000)
            (try simp only [hl543000_104] at HO_538000)
            (try simp only [hl543000_104] at HO_562000)
            cases kq with
            | zero => exact absurd HA.out (by simp [laws_FnExactMakeSign.j2])
            | succ kj104 =>
             have H := HA.out
             clear HA
             simp only [laws_FnExactMakeSign.j2] at H
             by_cases c148 : x97_104 = true
             ·subst c148
              have H1 : (some false) = some r := by rw [if_pos rfl] at H; exact H
              clear H
              have H := H1
              clear H1
              obtain rfl := Option.some.inj H
              go_wp2
              go_ret
              exact ⟨ze, zb HB.out⟩
             ·replace c148 := Bool.eq_false_iff.mpr c148
              subst c148
              have H1 : ((laws_heldPool.f kj104 t552 1).bind fun t563 => (if t563 < 0 then (some false) else (if t563 = t551 then (some true) else (some false)))) = some r := by rw [if_neg (show ¬ (false = true) by decide)] at H; exact H
              clear H
              have H := H1
              clear H1
              replace H := Option.bind_eq_some_iff.mp H
              obtain ⟨t563, A1490, H⟩ := H
              replace H : (if t563 < 0 then (some false) else (if t563 = t551 then (some true) else (some false))) = some r := H
              have A149 := Aside0.mk A1490
              clear A1490
              by_cases c150 : t563 < 0
              ·rw [if_pos c150] at H
               have c150b0 : decide (t563 < 0) = true := decide_eq_true c150
               clear c150
               obtain rfl := Option.some.inj H
               have hnb151 := NB542_524.out
               have hnc151 := NB524_542.out
               have hnb152 := NB542_533.out
               have hnc152 := NB533_542.out
               have hnb153 := NB542_537.out
               have hnc153 := NB537_542.out
               have hnb154 := NB542_561.out
               have hnc154 := NB561_542.out
               have hcz155_0 : wc.cell? ⟨gb542, 0, none⟩ = some (.slice Ao34 t552.length co34) := (blk_cell BK542.out 0).trans rfl
               have hfz155_0 := blk_frozen BK542.out 0
               go_wp2_with (first | ((with_reducible refine gate_callee (f := 19) rfl ?_); refine goesL_ (some 100) rfl rfl Try.func19 (by kernel_rfl) rfl #[.agg #[.slice Ao34 t552.length co34], .int .i64 1] rfl zl ?_; (with_reducible refine (laws_heldPool.calls kj104 _ _ t552 1 t563 _ ?side1 ?side2 A149.out).mono ?_); (case side1 => exact zc (Kd.R_reads' HO_543000.out).2.2); (case side2 => exact (Kd.R_reads' HO_543000.out).2.1); rintro e w156 ⟨rfl, hb⟩; refine ⟨_, rfl, ?_⟩; have n0_ := Aside0.mk (Kd.R_below (zr HO_534000.out) hb); have n1_ := Aside0.mk (Kd.R_below (zr HO_538000.out) hb); have n2_ := Aside0.mk (Kd.R_below (zr HO_543000.out) hb); have n3_ := Aside0.mk (Kd.R_below (zr HO_562000.out) hb); have n4_ := Aside0.mk (blk_below (zh BK524.out) hb); have n5_ := Aside0.mk (blk_below (zh BK533.out) hb); have n6_ := Aside0.mk (blk_below (zh BK537.out) hb); have n7_ := Aside0.mk (blk_below (zh BK542.out) hb); have n8_ := Aside0.mk (blk_below (zh BK561.out) hb); have n9_ := Aside0.mk (below_step (zb HB.out) hb); clear HO_534000; clear HO_538000; clear HO_543000; clear HO_562000; clear BK524; clear BK533; clear BK537; clear BK542; clear BK561; clear HB; have HO_534000 := n0_; have HO_538000 := n1_; have HO_543000 := n2_; have HO_562000 := n3_; have BK524 := n4_; have BK533 := n5_; have BK537 := n6_; have BK542 := n7_; have BK561 := n8_; have HB := n9_; clear n0_ n1_ n2_ n3_ n4_ n5_ n6_ n7_ n8_ n9_; (try clear hb); (try clear hb2); (try clear hk); (try clear hi)))
               go_ret
               exact ⟨ze, zb HB.out⟩
              ·rw [if_neg c150] at H
               have c150b0 : decide (t563 < 0) = false := decide_eq_false c150
               clear c150
               by_cases c157 : t563 = t551
               ·rw [if_pos c157] at H
                have c157b0 : (t563 == t551) = true := beq_iff_eq.mpr c157
                have c157b1 : (t563 != t551) = false := bne_eq_false_iff_eq.mpr c157
                clear c157
                obtain rfl := Option.some.inj H
                have hnb158 := NB542_524.out
                have hnc158 := NB524_542.out
                have hnb159 := NB542_533.out
                have hnc159 := NB533_542.out
                have hnb160 := NB542_537.out
                have hnc160 := NB537_542.out
                have hnb161 := NB542_561.out
                have hnc161 := NB561_542.out
                have hcz162_0 : wc.cell? ⟨gb542, 0, none⟩ = some (.slice Ao34 t552.length co34) := (blk_cell BK542.out 0).trans rfl
                have hfz162_0 := blk_frozen BK542.out 0
                go_wp2_with (first | ((with_reducible refine gate_callee (f := 19) rfl ?_); refine goesL_ (some 100) rfl rfl Try.func19 (by kernel_rfl) rfl #[.agg #[.slice Ao34 t552.length co34], .int .i64 1] rfl zl ?_; (with_reducible refine (laws_heldPool.calls kj104 _ _ t552 1 t563 _ ?side1 ?side2 A149.out).mono ?_); (case side1 => exact zc (Kd.R_reads' HO_543000.out).2.2); (case side2 => exact (Kd.R_reads' HO_543000.out).2.1); rintro e w163 ⟨rfl, hb⟩; refine ⟨_, rfl, ?_⟩; have n0_ := Aside0.mk (Kd.R_below (zr HO_534000.out) hb); have n1_ := Aside0.mk (Kd.R_below (zr HO_538000.out) hb); have n2_ := Aside0.mk (Kd.R_below (zr HO_543000.out) hb); have n3_ := Aside0.mk (Kd.R_below (zr HO_562000.out) hb); have n4_ := Aside0.mk (blk_below (zh BK524.out) hb); have n5_ := Aside0.mk (blk_below (zh BK533.out) hb); have n6_ := Aside0.mk (blk_below (zh BK537.out) hb); have n7_ := Aside0.mk (blk_below (zh BK542.out) hb); have n8_ := Aside0.mk (blk_below (zh BK561.out) hb); have n9_ := Aside0.mk (below_step (zb HB.out) hb); clear HO_534000; clear HO_538000; clear HO_543000; clear HO_562000; clear BK524; clear BK533; clear BK537; clear BK542; clear BK561; clear HB; have HO_534000 := n0_; have HO_538000 := n1_; have HO_543000 := n2_; have HO_562000 := n3_; have BK524 := n4_; have BK533 := n5_; have BK537 := n6_; have BK542 := n7_; have BK561 := n8_; have HB := n9_; clear n0_ n1_ n2_ n3_ n4_ n5_ n6_ n7_ n8_ n9_; (try clear hb); (try clear hb2); (try clear hk); (try clear hi)))
                go_ret
                exact ⟨ze, zb HB.out⟩
               ·rw [if_neg c157] at H
                have c157b0 : (t563 == t551) = false := beq_eq_false_iff_ne.mpr c157
                have c157b1 : (t563 != t551) = true := bne_iff_ne.mpr c157
                obtain rfl := Option.some.inj H
                have hnb164 := NB542_524.out
                have hnc164 := NB524_542.out
                have hnb165 := NB542_533.out
                have hnc165 := NB533_542.out
                have hnb166 := NB542_537.out
                have hnc166 := NB537_542.out
                have hnb167 := NB542_561.out
                have hnc167 := NB561_542.out
                have hcz168_0 : wc.cell? ⟨gb542, 0, none⟩ = some (.slice Ao34 t552.length co34) := (blk_cell BK542.out 0).trans rfl
                have hfz168_0 := blk_frozen BK542.out 0
                go_wp2_with (first | ((with_reducible refine gate_callee (f := 19) rfl ?_); refine goesL_ (some 100) rfl rfl Try.func19 (by kernel_rfl) rfl #[.agg #[.slice Ao34 t552.length co34], .int .i64 1] rfl zl ?_; (with_reducible refine (laws_heldPool.calls kj104 _ _ t552 1 t563 _ ?side1 ?side2 A149.out).mono ?_); (case side1 => exact zc (Kd.R_reads' HO_543000.out).2.2); (case side2 => exact (Kd.R_reads' HO_543000.out).2.1); rintro e w169 ⟨rfl, hb⟩; refine ⟨_, rfl, ?_⟩; have n0_ := Aside0.mk (Kd.R_below (zr HO_534000.out) hb); have n1_ := Aside0.mk (Kd.R_below (zr HO_538000.out) hb); have n2_ := Aside0.mk (Kd.R_below (zr HO_543000.out) hb); have n3_ := Aside0.mk (Kd.R_below (zr HO_562000.out) hb); have n4_ := Aside0.mk (blk_below (zh BK524.out) hb); have n5_ := Aside0.mk (blk_below (zh BK533.out) hb); have n6_ := Aside0.mk (blk_below (zh BK537.out) hb); have n7_ := Aside0.mk (blk_below (zh BK542.out) hb); have n8_ := Aside0.mk (blk_below (zh BK561.out) hb); have n9_ := Aside0.mk (below_step (zb HB.out) hb); clear HO_534000; clear HO_538000; clear HO_543000; clear HO_562000; clear BK524; clear BK533; clear BK537; clear BK542; clear BK561; clear HB; have HO_534000 := n0_; have HO_538000 := n1_; have HO_543000 := n2_; have HO_562000 := n3_; have BK524 := n4_; have BK533 := n5_; have BK537 := n6_; have BK542 := n7_; have BK561 := n8_; have HB := n9_; clear n0_ n1_ n2_ n3_ n4_ n5_ n6_ n7_ n8_ n9_; (try clear hb); (try clear hb2); (try clear hk); (try clear hi)))
                go_ret
                exact ⟨ze, zb HB.out⟩
          ·rw [if_neg c102] at H
           have c102b0 : (t553 == t551) = false := beq_eq_false_iff_ne.mpr c102
           have c102b1 : (t553 != t551) = true := bne_iff_ne.mpr c102
           obtain rfl := Option.some.inj H
           have hnb170 := NB542_524.out
           have hnc170 := NB524_542.out
           have hnb171 := NB542_533.out
           have hnc171 := NB533_542.out
           have hnb172 := NB542_537.out
           have hnc172 := NB537_542.out
           have hcz173_0 : wc.cell? ⟨gb542, 0, none⟩ = some (.slice Ao34 t538.length co34) := (blk_cell BK542.out 0).trans rfl
           have hfz173_0 := blk_frozen BK542.out 0
           go_wp2_with (first | ((with_reducible refine gate_callee (f := 18) rfl ?_); refine goesL_ (some 72) rfl rfl Try.func18 (by kernel_rfl) rfl #[.agg #[.slice Ao34 t538.length co34], .int .i64 1] rfl zl ?_; (with_reducible refine (laws_markPool.calls kj61 (fun k_ => some k_ = (.slice Ao34 t538.length co34 : Value).ownBlock) (.slice Ao34 t538.length co34) t538 1 t551 t552 w _ ?side1 ?side2 A92.out).mono ?_); (case side1 => repeat (first | (with_reducible first | exact HB.out | apply below_alloc | apply pw_below_drewN | apply below_drew1 | refine below_set ?_ GE524.out | refine below_set ?_ GE533.out | refine below_set ?_ GE537.out | refine below_set ?_ GE542.out) | exact HB.out)); (case side2 => exact Kd.R_tight rfl HO_543000.out); rintro e w174 ⟨rfl, hy0, hb, hkp⟩; refine ⟨_, rfl, ?_⟩; have n0_ := Aside0.mk (Kd.R_mono (ok' := fun k_ => some k_ ≠ (.slice Ao28 t549.length co28 : Value).ownBlock ∧ some k_ ≠ (.slice Ao34 t538.length co34 : Value).ownBlock) (Kd.R_keptB (HO_534000.out) hkp (fun k_ hk_ hs_ => by first | exact (hk_.2) hs_ | (revert hk_; simp only [and_imp]; intros; exact absurd hs_ (by assumption)))) (fun k_ hk_ => by first | exact ⟨hk_.1.1, hk_.1.2⟩ | (revert hk_; simp only [and_imp]; intros; and_intros <;> assumption))); have n1_ := Aside0.mk (Kd.R_mono (ok' := fun k_ => some k_ ≠ (.slice Ao22 t529.length co22 : Value).ownBlock ∧ some k_ ≠ (.slice Ao34 t538.length co34 : Value).ownBlock) (Kd.R_keptB (HO_538000.out) hkp (fun k_ hk_ hs_ => by first | exact (hk_.2) hs_ | (revert hk_; simp only [and_imp]; intros; exact absurd hs_ (by assumption)))) (fun k_ hk_ => by first | exact ⟨hk_.1.1, hk_.1.2⟩ | (revert hk_; simp only [and_imp]; intros; and_intros <;> assumption))); have n2_ := Aside0.mk (Kd.R_reok rfl hy0 (fun k_ e_ => HO_543000.out.1 k_ e_)); have n3_ := Aside0.mk (blk_kept (zh BK524.out) hkp (fun hs_ => (fun e_ => (Kd.R_ne HO_543000.out BK524.out (by decide)) e_) hs_)); have n4_ := Aside0.mk (blk_kept (zh BK533.out) hkp (fun hs_ => (fun e_ => (Kd.R_ne HO_543000.out BK533.out (by decide)) e_) hs_)); have n5_ := Aside0.mk (blk_kept (zh BK537.out) hkp (fun hs_ => (fun e_ => (Kd.R_ne HO_543000.out BK537.out (by decide)) e_) hs_)); have n6_ := Aside0.mk (blk_kept (zh BK542.out) hkp (fun hs_ => (fun e_ => (Kd.R_ne HO_543000.out BK542.out (by decide)) e_) hs_)); have n7_ := Aside0.mk (hb); clear HO_534000; clear HO_538000; clear HO_543000; clear BK524; clear BK533; clear BK537; clear BK542; clear HB; have HO_534000 := n0_; have HO_538000 := n1_; have HO_543000 := n2_; have BK524 := n3_; have BK533 := n4_; have BK537 := n5_; have BK542 := n6_; have HB := n7_; clear n0_ n1_ n2_ n3_ n4_ n5_ n6_ n7_; (try clear hb); (try clear hkp); (try clear hy0); have hcz175_0 : w174.cell? ⟨gb542, 0, none⟩ = some (.slice Ao34 t538.length co34) := (blk_cell BK542.out 0).trans rfl; have hfz175_0 := blk_frozen BK542.out 0) | ((with_reducible refine gate_callee (f := 19) rfl ?_); refine goesL_ (some 75) rfl rfl Try.func19 (by kernel_rfl) rfl #[.agg #[.slice Ao34 t552.length co34], .int .i64 1] rfl (by (try simp only [List.map_toArray, List.map_cons, List.map_nil]); first | done | (rw [show t552.length = t538.length from (Kd.R_reads' HO_543000.out).1.symm] <;> rfl) | rfl | (simp only [List.length_drop, List.length_take]; rfl)) ?_; (with_reducible refine (laws_heldPool.calls kj61 _ _ t552 1 t553 _ ?side1 ?side2 A93.out).mono ?_); (case side1 => exact zc (Kd.R_reads' HO_543000.out).2.2); (case side2 => rw [show t552.length = t538.length from (Kd.R_reads' HO_543000.out).1.symm]; exact (Kd.R_reads' HO_543000.out).2.1); rintro e w176 ⟨rfl, hb⟩; refine ⟨_, rfl, ?_⟩; have n0_ := Aside0.mk (Kd.R_below (zr HO_534000.out) hb); have n1_ := Aside0.mk (Kd.R_below (zr HO_538000.out) hb); have n2_ := Aside0.mk (Kd.R_below (zr HO_543000.out) hb); have n3_ := Aside0.mk (blk_below (zh BK524.out) hb); have n4_ := Aside0.mk (blk_below (zh BK533.out) hb); have n5_ := Aside0.mk (blk_below (zh BK537.out) hb); have n6_ := Aside0.mk (blk_below (zh BK542.out) hb); have n7_ := Aside0.mk (below_step (zb HB.out) hb); clear HO_534000; clear HO_538000; clear HO_543000; clear BK524; clear BK533; clear BK537; clear BK542; clear HB; have HO_534000 := n0_; have HO_538000 := n1_; have HO_543000 := n2_; have BK524 := n3_; have BK533 := n4_; have BK537 := n5_; have BK542 := n6_; have HB := n7_; clear n0_ n1_ n2_ n3_ n4_ n5_ n6_ n7_; (try clear hb); (try clear hb2); (try clear hk); (try clear hi)))
           go_ret
           exact ⟨ze, zb HB.out⟩
     ·replace c60 := Bool.eq_false_iff.mpr c60
      subst c60
      have H1 : (some false) = some r := by rw [if_neg (show ¬ (false = true) by decide)] at H; exact H
      clear H
      have H := H1
      clear H1
      obtain rfl := Option.some.inj H
      try go_wp2
      have n0_ := Aside0.mk (Kd.R_drew HO_534000.out)
      have n1_ := Aside0.mk (Kd.R_drew HO_538000.out)
      have n2_ := Aside0.mk (Kd.R_drew HO_543000.out)
      have n3_ := Aside0.mk (blk_drew BK524.out)
      have n4_ := Aside0.mk (blk_drew BK533.out)
      have n5_ := Aside0.mk (blk_drew BK537.out)
      have n6_ := Aside0.mk (blk_drew BK542.out)
      have n7_ := Aside0.mk (below_drew1 HB.out)
      clear HO_534000
      clear HO_538000
      clear HO_543000
      clear BK524
      clear BK533
      clear BK537
      clear BK542
      clear HB
      have HO_534000 := n0_
      have HO_538000 := n1_
      have HO_543000 := n2_
      have BK524 := n3_
      have BK533 := n4_
      have BK537 := n5_
      have BK542 := n6_
      have HB := n7_
      clear n0_ n1_ n2_ n3_ n4_ n5_ n6_ n7_
      refine start_ (n := 5) (S := fun w' => w'.cell? ⟨gb537, 0, none⟩ = some (.slice Ao28 t534.length co28) ∧ w'.cell? ⟨gb524, 0, none⟩ = some (.slice A0_0 l0_0.length c0_0)) (ds := []) #[false, false, false, false, false] (by kernel_rfl) rfl rfl ⟨(blk_cell BK537.out 0).trans rfl, (blk_cell BK524.out 0).trans rfl⟩ (fun hHeld => ?_)
      generalize wc.drew = w177 at HO_534000 HO_538000 HO_543000 BK524 BK533 BK537 BK542 HB hHeld ⊢
      refine take_ (i := 0) (N := some 49) (v := ?_) (a' := ?_) #[true, false, false, false, false] rfl rfl (by kernel_rfl) (fun _ _ _ h => h) (Or.inl ⟨by rfl, ?_⟩) hHeld ?_ ?_
      rotate_left
      ·rintro w' ⟨s0, s1⟩
       go_simp
       with_reducible rfl
      rotate_left
      ·simp only [Act.put, List.setIfInBounds_toArray, List.set_cons_zero, List.set_cons_succ, i64_w, i32_w]
       rfl
      refine take_ (i := 1) (N := some 50) (v := ?_) (a' := ?_) #[true, true, false, false, false] rfl rfl (by kernel_rfl) (fun _ _ _ h => h) (Or.inl ⟨by rfl, ?_⟩) hHeld ?_ ?_
      rotate_left
      ·rintro w' ⟨s0, s1⟩
       go_simp
       with_reducible rfl
      rotate_left
      ·simp only [Act.put, List.setIfInBounds_toArray, List.set_cons_zero, List.set_cons_succ, i64_w, i32_w]
       rfl
      refine one_ (i := 2) (N := some 51) #[true, true, true, false, false] rfl rfl (by kernel_rfl) (by decide) (fun K hK => ?_)
      refine goes_ Try.func15 (by kernel_rfl) rfl #[.agg #[.slice A0_0 l0_0.length c0_0]] (by rfl) rfl rfl zl ?_
      with_reducible refine (laws_toPool.calls kj12 _ _ l0_0 t544 _ ?side1 ?side2 A58.out).mono ?_
      (case side1 => exact zc (Kd.C_below HR0_0.out HB.out))
      (case side2 => exact HC0_0.out)
      rintro e w178 ⟨v545, rfl, ho0, hb⟩
      refine ⟨_, rfl, ?_⟩
      have n0_ := Aside0.mk (Kd.R_elder' (zr HO_534000.out) (Kd.R_base ho0) hb)
      have n1_ := Aside0.mk (Kd.R_elder' (zr HO_538000.out) (Kd.R_base ho0) hb)
      have n2_ := Aside0.mk (Kd.R_elder' (zr HO_543000.out) (Kd.R_base ho0) hb)
      have n3_ := Aside0.mk (Kd.R_lower (Kd.R_new' (Kd.R_new' (Kd.R_new' ho0 (Kd.R_lt (zr HO_534000.out))) (Kd.R_lt (zr HO_538000.out))) (Kd.R_lt (zr HO_543000.out))) (below_size (zb HB.out)))
      have n4_ := Aside0.mk (blk_below (zh BK524.out) hb)
      have n5_ := Aside0.mk (blk_below (zh BK533.out) hb)
      have n6_ := Aside0.mk (blk_below (zh BK537.out) hb)
      have n7_ := Aside0.mk (blk_below (zh BK542.out) hb)
      have n8_ := Aside0.mk (below_step (zb HB.out) hb)
      clear HO_534000
      clear HO_538000
      clear HO_543000
      clear BK524
      clear BK533
      clear BK537
      clear BK542
      clear HB
      have HO_534000 := n0_
      have HO_538000 := n1_
      have HO_543000 := n2_
      have HO546 := n3_
      have BK524 := n4_
      have BK533 := n5_
      have BK537 := n6_
      have BK542 := n7_
      have HB := n8_
      clear n0_ n1_ n2_ n3_ n4_ n5_ n6_ n7_ n8_
      (try clear hb)
      (try clear hb2)
      (try clear hk)
      (try clear hi)
      (try clear ho0)
      obtain ⟨Ao179, co179, eo179⟩ := Kd.R_slice HO546.out
      (first | subst eo179 | (injection eo179 with f1_ f2_ f3_; have f4_ := f1_.symm; have f5_ := f3_.symm; clear f1_ f2_ f3_; subst f4_; subst f5_))
      refine hK.out _ _ ⟨(blk_cell BK537.out 0).trans rfl, (blk_cell BK524.out 0).trans rfl⟩ (fun hHeld => ?_)
      clear hK K
      refine norm_ (a' := ?_) ?_ ?_
      rotate_left
      ·show Act.put _ (some 51) _ = _
       simp only [Act.put, List.setIfInBounds_toArray, List.set_cons_zero, List.set_cons_succ, i64_w, i32_w]
       rfl
      refine one_ (i := 3) (N := some 52) #[true, true, true, true, false] rfl rfl (by kernel_rfl) (by decide) (fun K hK => ?_)
      refine goes_ Try.func17 (by kernel_rfl) rfl #[.agg #[.slice Ao28 t534.length co28], .agg #[.slice Ao179 t544.length co179]] (by rfl) rfl rfl zl ?_
      with_reducible refine (laws_eqPool.calls kj12 _ _ t534 _ _ t544 false _ ?side1 ?side2 ?side3 ?side4 A59.out).mono ?_
      (case side1 => exact zc (Kd.R_reads' HO_538000.out).2.2)
      (case side2 => exact (Kd.R_reads' HO_538000.out).2.1)
      (case side3 => exact zc (Kd.R_reads' HO546.out).2.2)
      (case side4 => exact (Kd.R_reads' HO546.out).2.1)
      rintro e w180 ⟨rfl, hb⟩
      refine ⟨_, rfl, ?_⟩
      have n0_ := Aside0.mk (Kd.R_below (zr HO_534000.out) hb)
      have n1_ := Aside0.mk (Kd.R_below (zr HO_538000.out) hb)
      have n2_ := Aside0.mk (Kd.R_below (zr HO_543000.out) hb)
      have n3_ := Aside0.mk (Kd.R_below (zr HO546.out) hb)
      have n4_ := Aside0.mk (blk_below (zh BK524.out) hb)
      have n5_ := Aside0.mk (blk_below (zh BK533.out) hb)
      have n6_ := Aside0.mk (blk_below (zh BK537.out) hb)
      have n7_ := Aside0.mk (blk_below (zh BK542.out) hb)
      have n8_ := Aside0.mk (below_step (zb HB.out) hb)
      clear HO_534000
      clear HO_538000
      clear HO_543000
      clear HO546
      clear BK524
      clear BK533
      clear BK537
      clear BK542
      clear HB
      have HO_534000 := n0_
      have HO_538000 := n1_
      have HO_543000 := n2_
      have HO546 := n3_
      have BK524 := n4_
      have BK533 := n5_
      have BK537 := n6_
      have BK542 := n7_
      have HB := n8_
      clear n0_ n1_ n2_ n3_ n4_ n5_ n6_ n7_ n8_
      (try clear hb)
      (try clear hb2)
      (try clear hk)
      (try clear hi)
      refine hK.out _ _ ⟨(blk_cell BK537.out 0).trans rfl, (blk_cell BK524.out 0).trans rfl⟩ (fun hHeld => ?_)
      clear hK K
      refine norm_ (a' := ?_) ?_ ?_
      rotate_left
      ·show Act.put _ (some 52) _ = _
       simp only [Act.put, List.setIfInBounds_toArray, List.set_cons_zero, List.set_cons_succ, i64_w, i32_w]
       rfl
      refine pure_ (i := 4) (N := some 53) (v := ?_) (a' := ?_) #[true, true, true, true, true] rfl rfl (by kernel_rfl) (fun _ _ _ h => h) (Or.inl ⟨by rfl, ?_⟩) ?_ ?_
      rotate_left
      ·intro w'
       go_simp
       with_reducible rfl
      rotate_left
      ·simp only [Act.put, List.setIfInBounds_toArray, List.set_cons_zero, List.set_cons_succ, i64_w, i32_w]
       rfl
      refine done_ (by kernel_rfl) ?_
      try go_wp2
      go_ret
      exact ⟨ze, zb HB.out⟩

end Go.Proofs.Ytpgaifjneedjoaa.B
