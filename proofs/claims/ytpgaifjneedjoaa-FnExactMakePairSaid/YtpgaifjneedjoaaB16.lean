-- Written by this session's program (wip/tools/gprint.py over the kit's print) out of the translation; Lean checks it.
import Derived.Test.YtpgaifjneedjoaaB0
import Derived.Test.YtpgaifjneedjoaaB2
import Derived.Test.YtpgaifjneedjoaaB5
import Derived.Test.YtpgaifjneedjoaaB10
import Derived.Test.YtpgaifjneedjoaaB11
import Derived.Test.YtpgaifjneedjoaaB15
namespace Go.Proofs.Ytpgaifjneedjoaa.B
open Go.RowKit Go.Proofs.YtpgaifjneedjoaaW.PrintWords Go.Proofs.YtpgaifjneedjoaaW.PrintLast Go.Proofs.YtpgaifjneedjoaaW.PrintMore
attribute [local go_sem] max2_int min2_int max_two min_two max_three min_three max_four min_four   -- for this text's walks alone
set_option linter.unusedVariables false
set_option linter.unusedSimpArgs false
set_option maxRecDepth 100000

/-! ### laws_FnExactMakePair: function 5 -/
mutual
def laws_FnExactMakePair.j0 : Nat → Int → Int → Int → Int → Bool → List (S74) → List (S49) → List (S49) → List (S49) → Option (Bool)
 | 0, _, _, _, _, _, _, _, _, _ => none
 | k + 1, x1, x2, x9, x12, x48, x317000, x326000, x330000, x335000 => if x48 = true then (some false) else ((laws_toPool.f k x317000).bind fun t336 => ((laws_eqPool.f k x330000 t336).bind fun t339 => (if t339 = true then ((laws_markPool.f k x330000 1).bind fun bt340 => (if bt340.1 < 0 then (laws_FnExactMakePair.j1 k x1 x2 x9 true x317000 x326000 x335000) else ((laws_eqPool.f k x335000 x326000).bind fun t342 => (if t342 = true then (laws_FnExactMakePair.j1 k x1 x2 x9 (x12 != x9) x317000 x326000 x335000) else (laws_FnExactMakePair.j1 k x1 x2 x9 true x317000 x326000 x335000))))) else (some false))))
def laws_FnExactMakePair.j1 : Nat → Int → Int → Int → Bool → List (S74) → List (S49) → List (S49) → Option (Bool)
 | 0, _, _, _, _, _, _, _ => none
 | k + 1, x1, x2, x9, x69, x317000, x326000, x335000 => if x69 = true then (some false) else ((laws_markPool.f k x335000 1).bind fun bt343 => ((laws_heldPool.f k bt343.2 1).bind fun t345 => (if t345 < 0 then (some false) else (if t345 = bt343.1 then ((laws_toPool.f k x317000).bind fun t346 => ((impl_MakePair.f k t346 x1 x2).bind fun bt349 => ((laws_eqPool.f k bt349.1 x326000).bind fun t354 => (if t354 = true then (laws_FnExactMakePair.j2 k bt343.1 (bt349.2 != x9) bt343.2) else (laws_FnExactMakePair.j2 k bt343.1 true bt343.2))))) else (some false)))))
def laws_FnExactMakePair.j2 : Nat → Int → Bool → List (S49) → Option (Bool)
 | 0, _, _, _ => none
 | k + 1, x14, x97, x335000 => if x97 = true then (some false) else ((laws_heldPool.f k x335000 1).bind fun t355 => (if t355 < 0 then (some false) else (if t355 = x14 then (some true) else (some false))))
end
def laws_FnExactMakePair.f (k : Nat) (l0_0 : List (S74)) (a1 : Int) (a2 : Int) : Option (Bool) := (laws_szPool.f l0_0 1048576).bind fun t317 => (if t317 < 0 then (some true) else ((laws_toPool.f k l0_0).bind fun t318 => ((spec_MakePair.f k t318 a1 a2).bind fun bt321 => ((laws_toPool.f k l0_0).bind fun t326 => ((impl_MakePair.f k t326 a1 a2).bind fun bt330 => ((laws_eqPool.f k bt330.1 bt321.1).bind fun t335 => (if t335 = true then (laws_FnExactMakePair.j0 k a1 a2 bt321.2 bt330.2 (bt330.2 != bt321.2) l0_0 bt321.1 t326 bt330.1) else (laws_FnExactMakePair.j0 k a1 a2 bt321.2 bt330.2 true l0_0 bt321.1 t326 bt330.1))))))))
theorem laws_FnExactMakePair.mono_l : ∀ k, (∀ y0 y1 y2 y3 y4 y5 y6 y7 y8, LeO (laws_FnExactMakePair.j0 k y0 y1 y2 y3 y4 y5 y6 y7 y8) (laws_FnExactMakePair.j0 (k + 1) y0 y1 y2 y3 y4 y5 y6 y7 y8)) ∧ (∀ y0 y1 y2 y3 y4 y5 y6, LeO (laws_FnExactMakePair.j1 k y0 y1 y2 y3 y4 y5 y6) (laws_FnExactMakePair.j1 (k + 1) y0 y1 y2 y3 y4 y5 y6)) ∧ (∀ y0 y1 y2, LeO (laws_FnExactMakePair.j2 k y0 y1 y2) (laws_FnExactMakePair.j2 (k + 1) y0 y1 y2))
 | 0 => ⟨fun _ _ _ _ _ _ _ _ _ r h => by simp [laws_FnExactMakePair.j0] at h, fun _ _ _ _ _ _ _ r h => by simp [laws_FnExactMakePair.j1] at h, fun _ _ _ r h => by simp [laws_FnExactMakePair.j2] at h⟩
 | k + 1 => by
  obtain ⟨ih0, ih1, ih2⟩ := laws_FnExactMakePair.mono_l k
  refine ⟨?_, ?_, ?_⟩
  ·intro y0 y1 y2 y3 y4 y5 y6 y7 y8
   unfold laws_FnExactMakePair.j0
   repeat' first
   | (with_reducible exact ih0 _ _ _ _ _ _ _ _ _)
   | (with_reducible exact ih1 _ _ _ _ _ _ _)
   | (with_reducible exact ih2 _ _ _)
   | (with_reducible exact impl_MakePair.mono _ _ _ _)
   | (with_reducible exact laws_eqPool.mono _ _ _)
   | (with_reducible exact laws_heldPool.mono _ _ _)
   | (with_reducible exact laws_markPool.mono _ _ _)
   | (with_reducible exact laws_toPool.mono _ _)
   | (with_reducible exact spec_MakePair.mono _ _ _ _)
   | (with_reducible exact LeO.refl _)
   | (with_reducible exact LeO.none _)
   | (with_reducible refine LeO.ite ?_ ?_)
   | (with_reducible refine LeO.bind ?_ (fun _ => ?_))
   | exact ih0 _ _ _ _ _ _ _ _ _
   | exact ih1 _ _ _ _ _ _ _
   | exact ih2 _ _ _
   | exact impl_MakePair.mono _ _ _ _
   | exact laws_eqPool.mono _ _ _
   | exact laws_heldPool.mono _ _ _
   | exact laws_markPool.mono _ _ _
   | exact laws_toPool.mono _ _
   | exact spec_MakePair.mono _ _ _ _
   | exact LeO.none _
   | refine LeO.ite ?_ ?_
   | refine LeO.bind ?_ (fun _ => ?_)
  ·intro y0 y1 y2 y3 y4 y5 y6
   unfold laws_FnExactMakePair.j1
   repeat' first
   | (with_reducible exact ih0 _ _ _ _ _ _ _ _ _)
   | (with_reducible exact ih1 _ _ _ _ _ _ _)
   | (with_reducible exact ih2 _ _ _)
   | (with_reducible exact impl_MakePair.mono _ _ _ _)
   | (with_reducible exact laws_eqPool.mono _ _ _)
   | (with_reducible exact laws_heldPool.mono _ _ _)
   | (with_reducible exact laws_markPool.mono _ _ _)
   | (with_reducible exact laws_toPool.mono _ _)
   | (with_reducible exact spec_MakePair.mono _ _ _ _)
   | (with_reducible exact LeO.refl _)
   | (with_reducible exact LeO.none _)
   | (with_reducible refine LeO.ite ?_ ?_)
   | (with_reducible refine LeO.bind ?_ (fun _ => ?_))
   | exact ih0 _ _ _ _ _ _ _ _ _
   | exact ih1 _ _ _ _ _ _ _
   | exact ih2 _ _ _
   | exact impl_MakePair.mono _ _ _ _
   | exact laws_eqPool.mono _ _ _
   | exact laws_heldPool.mono _ _ _
   | exact laws_markPool.mono _ _ _
   | exact laws_toPool.mono _ _
   | exact spec_MakePair.mono _ _ _ _
   | exact LeO.none _
   | refine LeO.ite ?_ ?_
   | refine LeO.bind ?_ (fun _ => ?_)
  ·intro y0 y1 y2
   unfold laws_FnExactMakePair.j2
   repeat' first
   | (with_reducible exact ih0 _ _ _ _ _ _ _ _ _)
   | (with_reducible exact ih1 _ _ _ _ _ _ _)
   | (with_reducible exact ih2 _ _ _)
   | (with_reducible exact impl_MakePair.mono _ _ _ _)
   | (with_reducible exact laws_eqPool.mono _ _ _)
   | (with_reducible exact laws_heldPool.mono _ _ _)
   | (with_reducible exact laws_markPool.mono _ _ _)
   | (with_reducible exact laws_toPool.mono _ _)
   | (with_reducible exact spec_MakePair.mono _ _ _ _)
   | (with_reducible exact LeO.refl _)
   | (with_reducible exact LeO.none _)
   | (with_reducible refine LeO.ite ?_ ?_)
   | (with_reducible refine LeO.bind ?_ (fun _ => ?_))
   | exact ih0 _ _ _ _ _ _ _ _ _
   | exact ih1 _ _ _ _ _ _ _
   | exact ih2 _ _ _
   | exact impl_MakePair.mono _ _ _ _
   | exact laws_eqPool.mono _ _ _
   | exact laws_heldPool.mono _ _ _
   | exact laws_markPool.mono _ _ _
   | exact laws_toPool.mono _ _
   | exact spec_MakePair.mono _ _ _ _
   | exact LeO.none _
   | refine LeO.ite ?_ ?_
   | refine LeO.bind ?_ (fun _ => ?_)
theorem laws_FnExactMakePair.mono : ∀ a0 a1 a2 k, LeO (laws_FnExactMakePair.f k a0 a1 a2) (laws_FnExactMakePair.f (k + 1) a0 a1 a2) := by
 intro a0 a1 a2 k
 obtain ⟨ih0, ih1, ih2⟩ := laws_FnExactMakePair.mono_l k
 unfold laws_FnExactMakePair.f
 repeat' first
   | (with_reducible exact ih0 _ _ _ _ _ _ _ _ _)
   | (with_reducible exact ih1 _ _ _ _ _ _ _)
   | (with_reducible exact ih2 _ _ _)
   | (with_reducible exact impl_MakePair.mono _ _ _ _)
   | (with_reducible exact laws_eqPool.mono _ _ _)
   | (with_reducible exact laws_heldPool.mono _ _ _)
   | (with_reducible exact laws_markPool.mono _ _ _)
   | (with_reducible exact laws_toPool.mono _ _)
   | (with_reducible exact spec_MakePair.mono _ _ _ _)
   | (with_reducible exact LeO.refl _)
   | (with_reducible exact LeO.none _)
   | (with_reducible refine LeO.ite ?_ ?_)
   | (with_reducible refine LeO.bind ?_ (fun _ => ?_))
   | exact ih0 _ _ _ _ _ _ _ _ _
   | exact ih1 _ _ _ _ _ _ _
   | exact ih2 _ _ _
   | exact impl_MakePair.mono _ _ _ _
   | exact laws_eqPool.mono _ _ _
   | exact laws_heldPool.mono _ _ _
   | exact laws_markPool.mono _ _ _
   | exact laws_toPool.mono _ _
   | exact spec_MakePair.mono _ _ _ _
   | exact LeO.none _
   | refine LeO.ite ?_ ?_
   | refine LeO.bind ?_ (fun _ => ?_)
set_option maxHeartbeats 8000000 in
set_option maxRecDepth 100000 in
theorem laws_FnExactMakePair.calls (k : Nat) (A0_0 : Option Addr) (c0_0 : Nat) (l0_0 : List (S74)) (a1 : Int) (a2 : Int) (r : Bool) (w : World) (hr0_0 : Kd.C k74 w A0_0 l0_0.length l0_0) (hc0_0 : l0_0.length ≤ c0_0) (h : laws_FnExactMakePair.f k l0_0 a1 a2 = some r) :
  Calls Try.prog 5 #[.agg #[.slice A0_0 l0_0.length c0_0], .int .i64 a1, .int .i64 a2] w fun e w' => e = .returned (.bool r) ∧ Below w.heap.size w w' := by
 have hu24 := Try.underlying24
 have hu28 := Try.underlying28
 have HR0_0 := Aside0.mk hr0_0
 have HC0_0 := Aside0.mk hc0_0
 clear hr0_0 hc0_0
 have HB := Aside0.mk (Below.refl w.heap.size w)
 have H : ((laws_szPool.f l0_0 1048576).bind fun t317 => (if t317 < 0 then (some true) else ((laws_toPool.f k l0_0).bind fun t318 => ((spec_MakePair.f k t318 a1 a2).bind fun bt321 => ((laws_toPool.f k l0_0).bind fun t326 => ((impl_MakePair.f k t326 a1 a2).bind fun bt330 => ((laws_eqPool.f k bt330.1 bt321.1).bind fun t335 => (if t335 = true then (laws_FnExactMakePair.j0 k a1 a2 bt321.2 bt330.2 (bt330.2 != bt321.2) l0_0 bt321.1 t326 bt330.1) else (laws_FnExactMakePair.j0 k a1 a2 bt321.2 bt330.2 true l0_0 bt321.1 t326 bt330.1))))))))) = some r := h
 clear h
 replace H := Option.bind_eq_some_iff.mp H
 obtain ⟨t317, A40, H⟩ := H
 replace H : (if t317 < 0 then (some true) else ((laws_toPool.f k l0_0).bind fun t318 => ((spec_MakePair.f k t318 a1 a2).bind fun bt321 => ((laws_toPool.f k l0_0).bind fun t326 => ((impl_MakePair.f k t326 a1 a2).bind fun bt330 => ((laws_eqPool.f k bt330.1 bt321.1).bind fun t335 => (if t335 = true then (laws_FnExactMakePair.j0 k a1 a2 bt321.2 bt330.2 (bt330.2 != bt321.2) l0_0 bt321.1 t326 bt330.1) else (laws_FnExactMakePair.j0 k a1 a2 bt321.2 bt330.2 true l0_0 bt321.1 t326 bt330.1)))))))) = some r := H
 have A4 := Aside0.mk A40
 clear A40
 by_cases c5 : t317 < 0
 ·rw [if_pos c5] at H
  have c5b0 : decide (t317 < 0) = true := decide_eq_true c5
  clear c5
  obtain rfl := Option.some.inj H
  go_enter Try.func5, Try.ntmps5
  go_wp2_with (first | ((with_reducible refine gate_dst (N := 3) rfl ?_); refine box_event ?hg (N := 3) ?hd (cs := #[.slice A0_0 l0_0.length c0_0]) (t := 24) ?hr ?_; (case hd => rfl); (case hg => rfl); (case hr => first | (go_simp; done) | (go_simp; rfl)); intro gb316 hg w6 hbox hb; have n0_ := Aside0.mk (below_step (zb HB.out) hb); have n1_ := Aside0.mk (hbox); have n2_ := Aside0.mk ((by rw [hg]; exact (below_size (zb HB.out)) : w.heap.size ≤ gb316)); have n3_ := Aside0.mk ((by rw [hg]; exact (below_size (zb HB.out)) : w.heap.size ≤ gb316)); clear HB; have HB := n0_; have BK316 := n1_; have GW316 := n2_; have GE316 := n3_; clear n0_ n1_ n2_ n3_; clear hb hbox hg; have hcz7_0 : w6.cell? ⟨gb316, 0, none⟩ = some (.slice A0_0 l0_0.length c0_0) := (blk_cell BK316.out 0).trans rfl; have hfz7_0 := blk_frozen BK316.out 0) | ((with_reducible refine gate_callee (f := 13) rfl ?_); refine goesL_ (some 20) rfl rfl Try.func13 (by kernel_rfl) rfl #[.agg #[.slice A0_0 l0_0.length c0_0], .int .i64 1048576] rfl zl ?_; (with_reducible refine (laws_szPool.calls _ _ l0_0 1048576 t317 _ ?side1 ?side2 A4.out).mono ?_); (case side1 => exact zc (Kd.C_below HR0_0.out HB.out)); (case side2 => exact HC0_0.out); rintro e w8 ⟨rfl, hb⟩; refine ⟨_, rfl, ?_⟩; have n0_ := Aside0.mk (blk_below (zh BK316.out) hb); have n1_ := Aside0.mk (below_step (zb HB.out) hb); clear BK316; clear HB; have BK316 := n0_; have HB := n1_; clear n0_ n1_; (try clear hb); (try clear hb2); (try clear hk); (try clear hi)))
  go_ret
  exact ⟨ze, zb HB.out⟩
 ·rw [if_neg c5] at H
  have c5b0 : decide (t317 < 0) = false := decide_eq_false c5
  clear c5
  replace H := Option.bind_eq_some_iff.mp H
  obtain ⟨t318, A90, H⟩ := H
  replace H : ((spec_MakePair.f k t318 a1 a2).bind fun bt321 => ((laws_toPool.f k l0_0).bind fun t326 => ((impl_MakePair.f k t326 a1 a2).bind fun bt330 => ((laws_eqPool.f k bt330.1 bt321.1).bind fun t335 => (if t335 = true then (laws_FnExactMakePair.j0 k a1 a2 bt321.2 bt330.2 (bt330.2 != bt321.2) l0_0 bt321.1 t326 bt330.1) else (laws_FnExactMakePair.j0 k a1 a2 bt321.2 bt330.2 true l0_0 bt321.1 t326 bt330.1)))))) = some r := H
  have A9 := Aside0.mk A90
  clear A90
  replace H := Option.bind_eq_some_iff.mp H
  obtain ⟨⟨t321, t324⟩, A100, H⟩ := H
  replace H : ((laws_toPool.f k l0_0).bind fun t326 => ((impl_MakePair.f k t326 a1 a2).bind fun bt330 => ((laws_eqPool.f k bt330.1 t321).bind fun t335 => (if t335 = true then (laws_FnExactMakePair.j0 k a1 a2 t324 bt330.2 (bt330.2 != t324) l0_0 t321 t326 bt330.1) else (laws_FnExactMakePair.j0 k a1 a2 t324 bt330.2 true l0_0 t321 t326 bt330.1))))) = some r := H
  have A10 := Aside0.mk A100
  clear A100
  replace H := Option.bind_eq_some_iff.mp H
  obtain ⟨t326, A110, H⟩ := H
  replace H : ((impl_MakePair.f k t326 a1 a2).bind fun bt330 => ((laws_eqPool.f k bt330.1 t321).bind fun t335 => (if t335 = true then (laws_FnExactMakePair.j0 k a1 a2 t324 bt330.2 (bt330.2 != t324) l0_0 t321 t326 bt330.1) else (laws_FnExactMakePair.j0 k a1 a2 t324 bt330.2 true l0_0 t321 t326 bt330.1)))) = some r := H
  have A11 := Aside0.mk A110
  clear A110
  replace H := Option.bind_eq_some_iff.mp H
  obtain ⟨⟨t330, t333⟩, A120, H⟩ := H
  replace H : ((laws_eqPool.f k t330 t321).bind fun t335 => (if t335 = true then (laws_FnExactMakePair.j0 k a1 a2 t324 t333 (t333 != t324) l0_0 t321 t326 t330) else (laws_FnExactMakePair.j0 k a1 a2 t324 t333 true l0_0 t321 t326 t330))) = some r := H
  have A12 := Aside0.mk A120
  clear A120
  have HC13 := Aside0.mk H
  clear H
  go_enter Try.func5, Try.ntmps5
  go_upto_region 8 with (first | ((with_reducible refine gate_dst (N := 3) rfl ?_); refine box_event ?hg (N := 3) ?hd (cs := #[.slice A0_0 l0_0.length c0_0]) (t := 24) ?hr ?_; (case hd => rfl); (case hg => rfl); (case hr => first | (go_simp; done) | (go_simp; rfl)); intro gb316 hg w14 hbox hb; have n0_ := Aside0.mk (below_step (zb HB.out) hb); have n1_ := Aside0.mk (hbox); have n2_ := Aside0.mk ((by rw [hg]; exact (below_size (zb HB.out)) : w.heap.size ≤ gb316)); have n3_ := Aside0.mk ((by rw [hg]; exact (below_size (zb HB.out)) : w.heap.size ≤ gb316)); clear HB; have HB := n0_; have BK316 := n1_; have GW316 := n2_; have GE316 := n3_; clear n0_ n1_ n2_ n3_; clear hb hbox hg; have hcz15_0 : w14.cell? ⟨gb316, 0, none⟩ = some (.slice A0_0 l0_0.length c0_0) := (blk_cell BK316.out 0).trans rfl; have hfz15_0 := blk_frozen BK316.out 0) | ((with_reducible refine gate_callee (f := 13) rfl ?_); refine goesL_ (some 20) rfl rfl Try.func13 (by kernel_rfl) rfl #[.agg #[.slice A0_0 l0_0.length c0_0], .int .i64 1048576] rfl zl ?_; (with_reducible refine (laws_szPool.calls _ _ l0_0 1048576 t317 _ ?side1 ?side2 A4.out).mono ?_); (case side1 => exact zc (Kd.C_below HR0_0.out HB.out)); (case side2 => exact HC0_0.out); rintro e w16 ⟨rfl, hb⟩; refine ⟨_, rfl, ?_⟩; have n0_ := Aside0.mk (blk_below (zh BK316.out) hb); have n1_ := Aside0.mk (below_step (zb HB.out) hb); clear BK316; clear HB; have BK316 := n0_; have HB := n1_; clear n0_ n1_; (try clear hb); (try clear hb2); (try clear hk); (try clear hi); have hcz17_0 : w16.cell? ⟨gb316, 0, none⟩ = some (.slice A0_0 l0_0.length c0_0) := (blk_cell BK316.out 0).trans rfl; have hfz17_0 := blk_frozen BK316.out 0) | ((with_reducible refine gate_callee (f := 15) rfl ?_); refine goesL_ (some 25) rfl rfl Try.func15 (by kernel_rfl) rfl #[.agg #[.slice A0_0 l0_0.length c0_0]] rfl zl ?_; (with_reducible refine (laws_toPool.calls k _ _ l0_0 t318 _ ?side1 ?side2 A9.out).mono ?_); (case side1 => exact zc (Kd.C_below HR0_0.out HB.out)); (case side2 => exact HC0_0.out); rintro e w18 ⟨v319, rfl, ho0, hb⟩; refine ⟨_, rfl, ?_⟩; have n0_ := Aside0.mk (Kd.R_lower ho0 (below_size (zb HB.out))); have n1_ := Aside0.mk (blk_below (zh BK316.out) hb); have n2_ := Aside0.mk (below_step (zb HB.out) hb); clear BK316; clear HB; have HO320 := n0_; have BK316 := n1_; have HB := n2_; clear n0_ n1_ n2_; (try clear hb); (try clear hb2); (try clear hk); (try clear hi); (try clear ho0); obtain ⟨Ao19, co19, eo19⟩ := Kd.R_slice HO320.out; subst eo19) | ((with_reducible refine gate_callee (f := 22) rfl ?_); refine goesL_ (some 28) rfl rfl Try.func22 (by kernel_rfl) rfl #[.agg #[.slice Ao19 t318.length co19], .int .i64 a1, .int .i64 a2] rfl zl ?_; (with_reducible refine (spec_MakePair.calls k (fun k_ => some k_ = (.slice Ao19 t318.length co19 : Value).ownBlock) (.slice Ao19 t318.length co19) t318 a1 a2 t321 t324 w _ ?side1 ?side2 A10.out).mono ?_); (case side1 => repeat (first | (with_reducible first | exact HB.out | apply below_alloc | apply pw_below_drewN | apply below_drew1 | refine below_set ?_ GE316.out) | exact HB.out)); (case side2 => exact Kd.R_tight rfl HO320.out); rintro e w20 ⟨v322, rfl, ho0, hb, hkp⟩; refine ⟨_, rfl, ?_⟩; have n0_ := Aside0.mk (blk_kept (zh BK316.out) hkp (fun hs_ => (fun e_ => (Kd.R_ne HO320.out BK316.out (by decide)) e_) hs_)); have n1_ := Aside0.mk (Kd.R_mono (ok' := fun k_ => True) ho0 (fun k_ hk_ => trivial)); have n2_ := Aside0.mk (hb); clear BK316; clear HB; clear HO320; have BK316 := n0_; have HO323 := n1_; have HB := n2_; clear n0_ n1_ n2_; (try clear hb); (try clear hkp); (try clear ho0)) | ((with_reducible refine gate_dst (N := 8) rfl ?_); refine box_event ?hg (N := 8) ?hd (cs := #[.slice none 0 0]) (t := 28) ?hr ?_; (case hd => rfl); (case hg => rfl); (case hr => first | (go_simp; done) | (go_simp; rfl)); intro gb325 hg w21 hbox hb; have n0_ := Aside0.mk (Kd.R_below (zr HO323.out) hb); have n1_ := Aside0.mk (blk_below (zh BK316.out) hb); have n2_ := Aside0.mk (below_step (zb HB.out) hb); have n3_ := Aside0.mk (hbox); have n4_ := Aside0.mk ((by rw [hg]; exact (below_size (zb HB.out)) : w.heap.size ≤ gb325)); have n5_ := Aside0.mk ((by rw [hg]; exact (below_size (zb HB.out)) : w.heap.size ≤ gb325)); have n6_ := Aside0.mk ((by rw [hg]; exact Nat.ne_of_lt (blk_lt (zh BK316.out)) : gb316 ≠ gb325)); have n7_ := Aside0.mk ((by rw [hg]; exact Nat.ne_of_gt (blk_lt (zh BK316.out)) : gb325 ≠ gb316)); clear HO323; clear BK316; clear HB; have HO323 := n0_; have BK316 := n1_; have HB := n2_; have BK325 := n3_; have GW325 := n4_; have GE325 := n5_; have NB316_325 := n6_; have NB325_316 := n7_; clear n0_ n1_ n2_ n3_ n4_ n5_ n6_ n7_; clear hb hbox hg; obtain ⟨Ao22, co22, eo22⟩ := Kd.R_slice HO323.out; subst eo22; have hnb23 := NB325_316.out; have hnc23 := NB316_325.out; have hcz24_0 : w21.cell? ⟨gb325, 0, none⟩ = some (.slice none 0 0) := (blk_cell BK325.out 0).trans rfl; have hfz24_0 := blk_frozen BK325.out 0; have hcz25_0 : w21.cell? ⟨gb316, 0, none⟩ = some (.slice A0_0 l0_0.length c0_0) := (blk_cell BK316.out 0).trans rfl; have hfz25_0 := blk_frozen BK316.out 0) | ((with_reducible refine gate_callee (f := 15) rfl ?_); refine goesL_ (some 32) rfl rfl Try.func15 (by kernel_rfl) rfl #[.agg #[.slice A0_0 l0_0.length c0_0]] rfl zl ?_; (with_reducible refine (laws_toPool.calls k _ _ l0_0 t326 _ ?side1 ?side2 A11.out).mono ?_); (case side1 => exact Kd.C_below HR0_0.out (zb HB.out)); (case side2 => exact HC0_0.out); rintro e w26 ⟨v327, rfl, ho0, hb⟩; refine ⟨_, rfl, ?_⟩; have n0_ := Aside0.mk (Kd.R_elder' (by (with_reducible repeat (first | apply Kd.R_alloc | apply Kd.R_drewN | apply Kd.R_drew)); exact (Kd.R_mono (Kd.R_far (p := ⟨gb325, 0, none⟩) (Kd.R_types HO323.out BK325.out (by decide)) (fun _ hk => hk.2) (.slice Ao22 t321.length co22)) (fun _ h_ => h_.1))) (Kd.R_base ho0) hb); have n1_ := Aside0.mk (Kd.R_lower (Kd.R_new' ho0 (Kd.R_lt (by (with_reducible repeat (first | apply Kd.R_alloc | apply Kd.R_drewN | apply Kd.R_drew)); exact (Kd.R_mono (Kd.R_far (p := ⟨gb325, 0, none⟩) (Kd.R_types HO323.out BK325.out (by decide)) (fun _ hk => hk.2) (.slice Ao22 t321.length co22)) (fun _ h_ => h_.1))))) (below_size (zb HB.out))); have n2_ := Aside0.mk (blk_below (g := gb316) (o := .cells #[.slice A0_0 l0_0.length c0_0] 24 (0, 0)) (zf BK316.out) hb); have n3_ := Aside0.mk (blk_below (g := gb325) (o := .cells #[.slice Ao22 t321.length co22] 28 (0, 0)) (by (with_reducible repeat (first | refine blk_drewN ?_ _ | refine blk_drew ?_ | refine blk_alloc ?_ _)); refine blk_put (cs := #[.slice none 0 0]) ?_ 0 _ rfl; (with_reducible repeat (first | refine blk_drewN ?_ _ | refine blk_drew ?_ | refine blk_alloc ?_ _)); exact BK325.out) hb); have n4_ := Aside0.mk (below_step (zb HB.out) hb); clear HO323; clear BK316; clear BK325; clear HB; have HO323 := n0_; have HO328 := n1_; have BK316 := n2_; have BK325 := n3_; have HB := n4_; clear n0_ n1_ n2_ n3_ n4_; (try clear hb); (try clear hb2); (try clear hk); (try clear hi); (try clear ho0)) | ((with_reducible refine gate_dst (N := 10) rfl ?_); refine box_event ?hg (N := 10) ?hd (cs := #[.slice none 0 0]) (t := 28) ?hr ?_; (case hd => rfl); (case hg => rfl); (case hr => first | (go_simp; done) | (go_simp; rfl)); intro gb329 hg w27 hbox hb; have n0_ := Aside0.mk (Kd.R_below (zr HO323.out) hb); have n1_ := Aside0.mk (Kd.R_below (zr HO328.out) hb); have n2_ := Aside0.mk (blk_below (zh BK316.out) hb); have n3_ := Aside0.mk (blk_below (zh BK325.out) hb); have n4_ := Aside0.mk (below_step (zb HB.out) hb); have n5_ := Aside0.mk (hbox); have n6_ := Aside0.mk ((by rw [hg]; exact (below_size (zb HB.out)) : w.heap.size ≤ gb329)); have n7_ := Aside0.mk ((by rw [hg]; exact (below_size (zb HB.out)) : w.heap.size ≤ gb329)); have n8_ := Aside0.mk ((by rw [hg]; exact Nat.ne_of_lt (blk_lt (zh BK316.out)) : gb316 ≠ gb329)); have n9_ := Aside0.mk ((by rw [hg]; exact Nat.ne_of_gt (blk_lt (zh BK316.out)) : gb329 ≠ gb316)); have n10_ := Aside0.mk ((by rw [hg]; exact Nat.ne_of_lt (blk_lt (zh BK325.out)) : gb325 ≠ gb329)); have n11_ := Aside0.mk ((by rw [hg]; exact Nat.ne_of_gt (blk_lt (zh BK325.out)) : gb329 ≠ gb325)); clear HO323; clear HO328; clear BK316; clear BK325; clear HB; have HO323 := n0_; have HO328 := n1_; have BK316 := n2_; have BK325 := n3_; have HB := n4_; have BK329 := n5_; have GW329 := n6_; have GE329 := n7_; have NB316_329 := n8_; have NB329_316 := n9_; have NB325_329 := n10_; have NB329_325 := n11_; clear n0_ n1_ n2_ n3_ n4_ n5_ n6_ n7_ n8_ n9_ n10_ n11_; clear hb hbox hg; obtain ⟨Ao28, co28, eo28⟩ := Kd.R_slice HO328.out; subst eo28; have hnb29 := NB329_316.out; have hnc29 := NB316_329.out; have hnb30 := NB329_325.out; have hnc30 := NB325_329.out; have hcz31_0 : w27.cell? ⟨gb329, 0, none⟩ = some (.slice none 0 0) := (blk_cell BK329.out 0).trans rfl; have hfz31_0 := blk_frozen BK329.out 0) | ((with_reducible refine gate_callee (f := 23) rfl ?_); refine goesL_ (some 37) rfl rfl Try.func23 (by kernel_rfl) rfl #[.agg #[.slice Ao28 t326.length co28], .int .i64 a1, .int .i64 a2] rfl zl ?_; (with_reducible refine (impl_MakePair.calls k _ _ t326 a1 a2 t330 t333 _ ?side1 ?side2 A12.out).mono ?_); (case side1 => refine (Kd.R_reads' (e := 49) (base := w.heap.size) (ok := fun k_ => (True ∧ some k_ ≠ (.slice Ao22 t321.length co22 : Value).ownBlock)) (n := t326.length) (c := co28) ?_).2.2; exact (by (with_reducible repeat (first | apply Kd.R_alloc | apply Kd.R_drewN | apply Kd.R_drew)); exact (Kd.R_mono (Kd.R_far (p := ⟨gb329, 0, none⟩) (Kd.R_types HO328.out BK329.out (by decide)) (fun _ hk => hk.2) (.slice Ao28 t326.length co28)) (fun _ h_ => h_.1)))); (case side2 => exact (Kd.R_reads' HO328.out).2.1); rintro e w32 ⟨v331, rfl, ho0, hb⟩; refine ⟨_, rfl, ?_⟩; have n0_ := Aside0.mk (Kd.R_elder' (by (with_reducible repeat (first | apply Kd.R_alloc | apply Kd.R_drewN | apply Kd.R_drew)); exact (Kd.R_mono (Kd.R_far (p := ⟨gb329, 0, none⟩) (Kd.R_types HO323.out BK329.out (by decide)) (fun _ hk => hk.2) (.slice Ao28 t326.length co28)) (fun _ h_ => h_.1))) (Kd.R_base ho0) hb); have n1_ := Aside0.mk (Kd.R_elder' (by (with_reducible repeat (first | apply Kd.R_alloc | apply Kd.R_drewN | apply Kd.R_drew)); exact (Kd.R_mono (Kd.R_far (p := ⟨gb329, 0, none⟩) (Kd.R_types HO328.out BK329.out (by decide)) (fun _ hk => hk.2) (.slice Ao28 t326.length co28)) (fun _ h_ => h_.1))) (Kd.R_base ho0) hb); have n2_ := Aside0.mk (Kd.R_lower (Kd.R_new' (Kd.R_new' ho0 (Kd.R_lt (by (with_reducible repeat (first | apply Kd.R_alloc | apply Kd.R_drewN | apply Kd.R_drew)); exact (Kd.R_mono (Kd.R_far (p := ⟨gb329, 0, none⟩) (Kd.R_types HO323.out BK329.out (by decide)) (fun _ hk => hk.2) (.slice Ao28 t326.length co28)) (fun _ h_ => h_.1))))) (Kd.R_lt (by (with_reducible repeat (first | apply Kd.R_alloc | apply Kd.R_drewN | apply Kd.R_drew)); exact (Kd.R_mono (Kd.R_far (p := ⟨gb329, 0, none⟩) (Kd.R_types HO328.out BK329.out (by decide)) (fun _ hk => hk.2) (.slice Ao28 t326.length co28)) (fun _ h_ => h_.1))))) (below_size (zb HB.out))); have n3_ := Aside0.mk (blk_below (g := gb316) (o := .cells #[.slice A0_0 l0_0.length c0_0] 24 (0, 0)) (zf BK316.out) hb); have n4_ := Aside0.mk (blk_below (g := gb325) (o := .cells #[.slice Ao22 t321.length co22] 28 (0, 0)) (zf BK325.out) hb); have n5_ := Aside0.mk (blk_below (g := gb329) (o := .cells #[.slice Ao28 t326.length co28] 28 (0, 0)) (by (with_reducible repeat (first | refine blk_drewN ?_ _ | refine blk_drew ?_ | refine blk_alloc ?_ _)); refine blk_put (cs := #[.slice none 0 0]) ?_ 0 _ rfl; (with_reducible repeat (first | refine blk_drewN ?_ _ | refine blk_drew ?_ | refine blk_alloc ?_ _)); exact BK329.out) hb); have n6_ := Aside0.mk (below_step (zb HB.out) hb); clear HO323; clear HO328; clear BK316; clear BK325; clear BK329; clear HB; have HO323 := n0_; have HO328 := n1_; have HO332 := n2_; have BK316 := n3_; have BK325 := n4_; have BK329 := n5_; have HB := n6_; clear n0_ n1_ n2_ n3_ n4_ n5_ n6_; (try clear hb); (try clear hb2); (try clear hk); (try clear hi); (try clear ho0)) | ((with_reducible refine gate_dst (N := 11) rfl ?_); refine box_event ?hg (N := 11) ?hd (cs := #[.slice none 0 0]) (t := 28) ?hr ?_; (case hd => rfl); (case hg => rfl); (case hr => first | (go_simp; done) | (go_simp; rfl)); intro gb334 hg w33 hbox hb; have n0_ := Aside0.mk (Kd.R_below (zr HO323.out) hb); have n1_ := Aside0.mk (Kd.R_below (zr HO328.out) hb); have n2_ := Aside0.mk (Kd.R_below (zr HO332.out) hb); have n3_ := Aside0.mk (blk_below (zh BK316.out) hb); have n4_ := Aside0.mk (blk_below (zh BK325.out) hb); have n5_ := Aside0.mk (blk_below (zh BK329.out) hb); have n6_ := Aside0.mk (below_step (zb HB.out) hb); have n7_ := Aside0.mk (hbox); have n8_ := Aside0.mk ((by rw [hg]; exact (below_size (zb HB.out)) : w.heap.size ≤ gb334)); have n9_ := Aside0.mk ((by rw [hg]; exact (below_size (zb HB.out)) : w.heap.size ≤ gb334)); have n10_ := Aside0.mk ((by rw [hg]; exact Nat.ne_of_lt (blk_lt (zh BK316.out)) : gb316 ≠ gb334)); have n11_ := Aside0.mk ((by rw [hg]; exact Nat.ne_of_gt (blk_lt (zh BK316.out)) : gb334 ≠ gb316)); have n12_ := Aside0.mk ((by rw [hg]; exact Nat.ne_of_lt (blk_lt (zh BK325.out)) : gb325 ≠ gb334)); have n13_ := Aside0.mk ((by rw [hg]; exact Nat.ne_of_gt (blk_lt (zh BK325.out)) : gb334 ≠ gb325)); have n14_ := Aside0.mk ((by rw [hg]; exact Nat.ne_of_lt (blk_lt (zh BK329.out)) : gb329 ≠ gb334)); have n15_ := Aside0.mk ((by rw [hg]; exact Nat.ne_of_gt (blk_lt (zh BK329.out)) : gb334 ≠ gb329)); clear HO323; clear HO328; clear HO332; clear BK316; clear BK325; clear BK329; clear HB; have HO323 := n0_; have HO328 := n1_; have HO332 := n2_; have BK316 := n3_; have BK325 := n4_; have BK329 := n5_; have HB := n6_; have BK334 := n7_; have GW334 := n8_; have GE334 := n9_; have NB316_334 := n10_; have NB334_316 := n11_; have NB325_334 := n12_; have NB334_325 := n13_; have NB329_334 := n14_; have NB334_329 := n15_; clear n0_ n1_ n2_ n3_ n4_ n5_ n6_ n7_ n8_ n9_ n10_ n11_ n12_ n13_ n14_ n15_; clear hb hbox hg; obtain ⟨Ao34, co34, eo34⟩ := Kd.R_slice HO332.out; subst eo34; have hnb35 := NB334_316.out; have hnc35 := NB316_334.out; have hnb36 := NB334_325.out; have hnc36 := NB325_334.out; have hnb37 := NB334_329.out; have hnc37 := NB329_334.out; have hcz38_0 : w33.cell? ⟨gb334, 0, none⟩ = some (.slice none 0 0) := (blk_cell BK334.out 0).trans rfl; have hfz38_0 := blk_frozen BK334.out 0))
  (try simp only [Act.put, List.setIfInBounds_toArray, List.set_cons_zero, List.set_cons_succ])
  go_cut [48] (fun v48 wc => ∃ (kq : Nat) (x48_12 : Bool), v48 = .bool x48_12 ∧ Aside0 (laws_FnExactMakePair.j0 kq a1 a2 t324 t333 x48_12 l0_0 t321 t326 t330 = some r) ∧ Aside0 (kq ≤ k) ∧ Aside0 (Kd.R k49 49 wc w.heap.size (fun k_ => some k_ ≠ ((.slice Ao28 t326.length co28) : Value).ownBlock ∧ some k_ ≠ ((.slice Ao34 t330.length co34) : Value).ownBlock) (.slice Ao22 t321.length co22) t321) ∧ Aside0 (Kd.R k49 49 wc w.heap.size (fun k_ => some k_ ≠ ((.slice Ao22 t321.length co22) : Value).ownBlock ∧ some k_ ≠ ((.slice Ao34 t330.length co34) : Value).ownBlock) (.slice Ao28 t326.length co28) t326) ∧ Aside0 (Kd.R k49 49 wc w.heap.size (fun k_ => some k_ ≠ ((.slice Ao22 t321.length co22) : Value).ownBlock ∧ some k_ ≠ ((.slice Ao28 t326.length co28) : Value).ownBlock) (.slice Ao34 t330.length co34) t330) ∧ Aside0 (wc.heap[gb316]? = some (.cells #[(.slice A0_0 l0_0.length c0_0)] 24 (0, 0))) ∧ Aside0 (wc.heap[gb325]? = some (.cells #[(.slice Ao22 t321.length co22)] 28 (0, 0))) ∧ Aside0 (wc.heap[gb329]? = some (.cells #[(.slice Ao28 t326.length co28)] 28 (0, 0))) ∧ Aside0 (wc.heap[gb334]? = some (.cells #[(.slice Ao34 t330.length co34)] 28 (0, 0))) ∧ Aside0 (Below w.heap.size w wc))
  case first =>
   have H := HC13.out
   clear HC13
   replace H := Option.bind_eq_some_iff.mp H
   obtain ⟨t335, A390, H⟩ := H
   replace H : (if t335 = true then (laws_FnExactMakePair.j0 k a1 a2 t324 t333 (t333 != t324) l0_0 t321 t326 t330) else (laws_FnExactMakePair.j0 k a1 a2 t324 t333 true l0_0 t321 t326 t330)) = some r := H
   have A39 := Aside0.mk A390
   clear A390
   by_cases c40 : t335 = true
   ·subst c40
    have H1 : (laws_FnExactMakePair.j0 k a1 a2 t324 t333 (t333 != t324) l0_0 t321 t326 t330) = some r := by rw [if_pos rfl] at H; exact H
    clear H
    have H := H1
    clear H1
    have H' := Aside0.mk H
    clear H
    have hnb41 := NB334_316.out
    have hnc41 := NB316_334.out
    have hnb42 := NB334_325.out
    have hnc42 := NB325_334.out
    have hnb43 := NB334_329.out
    have hnc43 := NB329_334.out
    have hcz44_0 : w33.cell? ⟨gb334, 0, none⟩ = some (.slice none 0 0) := (blk_cell BK334.out 0).trans rfl
    have hfz44_0 := blk_frozen BK334.out 0
    have hnb45 := NB325_316.out
    have hnc45 := NB316_325.out
    have hnb46 := NB325_329.out
    have hnc46 := NB329_325.out
    have hcz47_0 : w33.cell? ⟨gb325, 0, none⟩ = some (.slice Ao22 t321.length co22) := (blk_cell BK325.out 0).trans rfl
    have hfz47_0 := blk_frozen BK325.out 0
    go_wp2_with (first | ((with_reducible refine gate_callee (f := 17) rfl ?_); refine goesL_ (some 42) rfl rfl Try.func17 (by kernel_rfl) rfl #[.agg #[.slice Ao34 t330.length co34], .agg #[.slice Ao22 t321.length co22]] rfl zl ?_; (with_reducible refine (laws_eqPool.calls k _ _ t330 _ _ t321 true _ ?side1 ?side2 ?side3 ?side4 A39.out).mono ?_); (case side1 => refine (Kd.R_reads' (e := 49) (base := w.heap.size) (ok := fun k_ => ((True ∧ some k_ ≠ (.slice Ao22 t321.length co22 : Value).ownBlock) ∧ some k_ ≠ (.slice Ao28 t326.length co28 : Value).ownBlock)) (n := t330.length) (c := co34) ?_).2.2; exact (by (with_reducible repeat (first | apply Kd.R_alloc | apply Kd.R_drewN | apply Kd.R_drew)); exact (Kd.R_mono (Kd.R_far (p := ⟨gb334, 0, none⟩) (Kd.R_types HO332.out BK334.out (by decide)) (fun _ hk => hk.2) (.slice Ao34 t330.length co34)) (fun _ h_ => h_.1)))); (case side2 => exact (Kd.R_reads' HO332.out).2.1); (case side3 => refine (Kd.R_reads' (e := 49) (base := w.heap.size) (ok := fun k_ => ((True ∧ some k_ ≠ (.slice Ao28 t326.length co28 : Value).ownBlock) ∧ some k_ ≠ (.slice Ao34 t330.length co34 : Value).ownBlock)) (n := t321.length) (c := co22) ?_).2.2; exact (by (with_reducible repeat (first | apply Kd.R_alloc | apply Kd.R_drewN | apply Kd.R_drew)); exact (Kd.R_mono (Kd.R_far (p := ⟨gb334, 0, none⟩) (Kd.R_types HO323.out BK334.out (by decide)) (fun _ hk => hk.2) (.slice Ao34 t330.length co34)) (fun _ h_ => h_.1)))); (case side4 => exact (Kd.R_reads' HO323.out).2.1); rintro e w48 ⟨rfl, hb⟩; refine ⟨_, rfl, ?_⟩; have n0_ := Aside0.mk (Kd.R_below (by (with_reducible repeat (first | apply Kd.R_alloc | apply Kd.R_drewN | apply Kd.R_drew)); exact (Kd.R_mono (Kd.R_far (p := ⟨gb334, 0, none⟩) (Kd.R_types HO323.out BK334.out (by decide)) (fun _ hk => hk.2) (.slice Ao34 t330.length co34)) (fun _ h_ => h_.1))) hb); have n1_ := Aside0.mk (Kd.R_below (by (with_reducible repeat (first | apply Kd.R_alloc | apply Kd.R_drewN | apply Kd.R_drew)); exact (Kd.R_mono (Kd.R_far (p := ⟨gb334, 0, none⟩) (Kd.R_types HO328.out BK334.out (by decide)) (fun _ hk => hk.2) (.slice Ao34 t330.length co34)) (fun _ h_ => h_.1))) hb); have n2_ := Aside0.mk (Kd.R_below (by (with_reducible repeat (first | apply Kd.R_alloc | apply Kd.R_drewN | apply Kd.R_drew)); exact (Kd.R_mono (Kd.R_far (p := ⟨gb334, 0, none⟩) (Kd.R_types HO332.out BK334.out (by decide)) (fun _ hk => hk.2) (.slice Ao34 t330.length co34)) (fun _ h_ => h_.1))) hb); have n3_ := Aside0.mk (blk_below (g := gb316) (o := .cells #[.slice A0_0 l0_0.length c0_0] 24 (0, 0)) (zf BK316.out) hb); have n4_ := Aside0.mk (blk_below (g := gb325) (o := .cells #[.slice Ao22 t321.length co22] 28 (0, 0)) (zf BK325.out) hb); have n5_ := Aside0.mk (blk_below (g := gb329) (o := .cells #[.slice Ao28 t326.length co28] 28 (0, 0)) (zf BK329.out) hb); have n6_ := Aside0.mk (blk_below (g := gb334) (o := .cells #[.slice Ao34 t330.length co34] 28 (0, 0)) (by (with_reducible repeat (first | refine blk_drewN ?_ _ | refine blk_drew ?_ | refine blk_alloc ?_ _)); refine blk_put (cs := #[.slice none 0 0]) ?_ 0 _ rfl; (with_reducible repeat (first | refine blk_drewN ?_ _ | refine blk_drew ?_ | refine blk_alloc ?_ _)); exact BK334.out) hb); have n7_ := Aside0.mk (below_step (zb HB.out) hb); clear HO323; clear HO328; clear HO332; clear BK316; clear BK325; clear BK329; clear BK334; clear HB; have HO323 := n0_; have HO328 := n1_; have HO332 := n2_; have BK316 := n3_; have BK325 := n4_; have BK329 := n5_; have BK334 := n6_; have HB := n7_; clear n0_ n1_ n2_ n3_ n4_ n5_ n6_ n7_; (try clear hb); (try clear hb2); (try clear hk); (try clear hi)))
    go_meet
    case rel => exact ⟨_, ((t333 != t324)), (by first | rfl | (simp; done) | (simp [*]; done)), H', ⟨by first | omega | exact Nat.le_refl _⟩, ⟨zr (Kd.R_mono HO323.out (fun _ hk => ⟨hk.1.2, hk.2⟩))⟩, ⟨zr (Kd.R_mono HO328.out (fun _ hk => ⟨hk.1.2, hk.2⟩))⟩, ⟨zr (Kd.R_mono HO332.out (fun _ hk => ⟨hk.1.2, hk.2⟩))⟩, ⟨zh BK316.out⟩, ⟨zh BK325.out⟩, ⟨zh BK329.out⟩, ⟨zh BK334.out⟩, ⟨zb HB.out⟩⟩
   ·replace c40 := Bool.eq_false_iff.mpr c40
    subst c40
    have H1 : (laws_FnExactMakePair.j0 k a1 a2 t324 t333 true l0_0 t321 t326 t330) = some r := by rw [if_neg (show ¬ (false = true) by decide)] at H; exact H
    clear H
    have H := H1
    clear H1
    have H' := Aside0.mk H
    clear H
    have hnb49 := NB334_316.out
    have hnc49 := NB316_334.out
    have hnb50 := NB334_325.out
    have hnc50 := NB325_334.out
    have hnb51 := NB334_329.out
    have hnc51 := NB329_334.out
    have hcz52_0 : w33.cell? ⟨gb334, 0, none⟩ = some (.slice none 0 0) := (blk_cell BK334.out 0).trans rfl
    have hfz52_0 := blk_frozen BK334.out 0
    have hnb53 := NB325_316.out
    have hnc53 := NB316_325.out
    have hnb54 := NB325_329.out
    have hnc54 := NB329_325.out
    have hcz55_0 : w33.cell? ⟨gb325, 0, none⟩ = some (.slice Ao22 t321.length co22) := (blk_cell BK325.out 0).trans rfl
    have hfz55_0 := blk_frozen BK325.out 0
    go_wp2_with (first | ((with_reducible refine gate_callee (f := 17) rfl ?_); refine goesL_ (some 42) rfl rfl Try.func17 (by kernel_rfl) rfl #[.agg #[.slice Ao34 t330.length co34], .agg #[.slice Ao22 t321.length co22]] rfl zl ?_; (with_reducible refine (laws_eqPool.calls k _ _ t330 _ _ t321 false _ ?side1 ?side2 ?side3 ?side4 A39.out).mono ?_); (case side1 => refine (Kd.R_reads' (e := 49) (base := w.heap.size) (ok := fun k_ => ((True ∧ some k_ ≠ (.slice Ao22 t321.length co22 : Value).ownBlock) ∧ some k_ ≠ (.slice Ao28 t326.length co28 : Value).ownBlock)) (n := t330.length) (c := co34) ?_).2.2; exact (by (with_reducible repeat (first | apply Kd.R_alloc | apply Kd.R_drewN | apply Kd.R_drew)); exact (Kd.R_mono (Kd.R_far (p := ⟨gb334, 0, none⟩) (Kd.R_types HO332.out BK334.out (by decide)) (fun _ hk => hk.2) (.slice Ao34 t330.length co34)) (fun _ h_ => h_.1)))); (case side2 => exact (Kd.R_reads' HO332.out).2.1); (case side3 => refine (Kd.R_reads' (e := 49) (base := w.heap.size) (ok := fun k_ => ((True ∧ some k_ ≠ (.slice Ao28 t326.length co28 : Value).ownBlock) ∧ some k_ ≠ (.slice Ao34 t330.length co34 : Value).ownBlock)) (n := t321.length) (c := co22) ?_).2.2; exact (by (with_reducible repeat (first | apply Kd.R_alloc | apply Kd.R_drewN | apply Kd.R_drew)); exact (Kd.R_mono (Kd.R_far (p := ⟨gb334, 0, none⟩) (Kd.R_types HO323.out BK334.out (by decide)) (fun _ hk => hk.2) (.slice Ao34 t330.length co34)) (fun _ h_ => h_.1)))); (case side4 => exact (Kd.R_reads' HO323.out).2.1); rintro e w56 ⟨rfl, hb⟩; refine ⟨_, rfl, ?_⟩; have n0_ := Aside0.mk (Kd.R_below (by (with_reducible repeat (first | apply Kd.R_alloc | apply Kd.R_drewN | apply Kd.R_drew)); exact (Kd.R_mono (Kd.R_far (p := ⟨gb334, 0, none⟩) (Kd.R_types HO323.out BK334.out (by decide)) (fun _ hk => hk.2) (.slice Ao34 t330.length co34)) (fun _ h_ => h_.1))) hb); have n1_ := Aside0.mk (Kd.R_below (by (with_reducible repeat (first | apply Kd.R_alloc | apply Kd.R_drewN | apply Kd.R_drew)); exact (Kd.R_mono (Kd.R_far (p := ⟨gb334, 0, none⟩) (Kd.R_types HO328.out BK334.out (by decide)) (fun _ hk => hk.2) (.slice Ao34 t330.length co34)) (fun _ h_ => h_.1))) hb); have n2_ := Aside0.mk (Kd.R_below (by (with_reducible repeat (first | apply Kd.R_alloc | apply Kd.R_drewN | apply Kd.R_drew)); exact (Kd.R_mono (Kd.R_far (p := ⟨gb334, 0, none⟩) (Kd.R_types HO332.out BK334.out (by decide)) (fun _ hk => hk.2) (.slice Ao34 t330.length co34)) (fun _ h_ => h_.1))) hb); have n3_ := Aside0.mk (blk_below (g := gb316) (o := .cells #[.slice A0_0 l0_0.length c0_0] 24 (0, 0)) (zf BK316.out) hb); have n4_ := Aside0.mk (blk_below (g := gb325) (o := .cells #[.slice Ao22 t321.length co22] 28 (0, 0)) (zf BK325.out) hb); have n5_ := Aside0.mk (blk_below (g := gb329) (o := .cells #[.slice Ao28 t326.length co28] 28 (0, 0)) (zf BK329.out) hb); have n6_ := Aside0.mk (blk_below (g := gb334) (o := .cells #[.slice Ao34 t330.length co34] 28 (0, 0)) (by (with_reducible repeat (first | refine blk_drewN ?_ _ | refine blk_drew ?_ | refine blk_alloc ?_ _)); refine blk_put (cs := #[.slice none 0 0]) ?_ 0 _ rfl; (with_reducible repeat (first | refine blk_drewN ?_ _ | refine blk_drew ?_ | refine blk_alloc ?_ _)); exact BK334.out) hb); have n7_ := Aside0.mk (below_step (zb HB.out) hb); clear HO323; clear HO328; clear HO332; clear BK316; clear BK325; clear BK329; clear BK334; clear HB; have HO323 := n0_; have HO328 := n1_; have HO332 := n2_; have BK316 := n3_; have BK325 := n4_; have BK329 := n5_; have BK334 := n6_; have HB := n7_; clear n0_ n1_ n2_ n3_ n4_ n5_ n6_ n7_; (try clear hb); (try clear hb2); (try clear hk); (try clear hi)))
    go_meet
    case rel => exact ⟨_, (true), (by first | rfl | (simp; done) | (simp [*]; done)), H', ⟨by first | omega | exact Nat.le_refl _⟩, ⟨zr (Kd.R_mono HO323.out (fun _ hk => ⟨hk.1.2, hk.2⟩))⟩, ⟨zr (Kd.R_mono HO328.out (fun _ hk => ⟨hk.1.2, hk.2⟩))⟩, ⟨zr (Kd.R_mono HO332.out (fun _ hk => ⟨hk.1.2, hk.2⟩))⟩, ⟨zh BK316.out⟩, ⟨zh BK325.out⟩, ⟨zh BK329.out⟩, ⟨zh BK334.out⟩, ⟨zb HB.out⟩⟩
  case rest =>
   clear HC13
   try clear c1
   try clear c2
   try clear p2
   try clear c3
   try clear c4
   try clear c5
   try clear c5b0
   try clear c13
   try clear c15
   try clear c17
   try clear c22
   try clear c23
   try clear c29
   try clear c30
   try clear c35
   try clear c36
   try clear c37
   try clear c40
   try clear c41
   try clear c42
   try clear c43
   try clear c45
   try clear c46
   try clear c49
   try clear c50
   try clear c51
   try clear c53
   try clear c54
   try clear hcz15_0
   try clear hcz17_0
   try clear hcz24_0
   try clear hcz25_0
   try clear hcz31_0
   try clear hcz38_0
   try clear hcz44_0
   try clear hcz47_0
   try clear hcz52_0
   try clear hcz55_0
   try clear hcz7_0
   try clear hfz15_0
   try clear hfz17_0
   try clear hfz24_0
   try clear hfz25_0
   try clear hfz31_0
   try clear hfz38_0
   try clear hfz44_0
   try clear hfz47_0
   try clear hfz52_0
   try clear hfz55_0
   try clear hfz7_0
   obtain ⟨kq, x48_12, rfl, HA, HJ12, HO_326000, HO_330000, HO_335000, BK316, BK325, BK329, BK334, HB⟩ := hcut
   cases kq with
   | zero => exact absurd HA.out (by simp [laws_FnExactMakePair.j0])
   | succ kj12 =>
    have H := HA.out
    clear HA
    simp only [laws_FnExactMakePair.j0] at H
    by_cases c57 : x48_12 = true
    ·subst c57
     have H1 : (some false) = some r := by rw [if_pos rfl] at H; exact H
     clear H
     have H := H1
     clear H1
     obtain rfl := Option.some.inj H
     go_wp2
     go_ret
     exact ⟨ze, zb HB.out⟩
    ·replace c57 := Bool.eq_false_iff.mpr c57
     subst c57
     have H1 : ((laws_toPool.f kj12 l0_0).bind fun t336 => ((laws_eqPool.f kj12 t326 t336).bind fun t339 => (if t339 = true then ((laws_markPool.f kj12 t326 1).bind fun bt340 => (if bt340.1 < 0 then (laws_FnExactMakePair.j1 kj12 a1 a2 t324 true l0_0 t321 t330) else ((laws_eqPool.f kj12 t330 t321).bind fun t342 => (if t342 = true then (laws_FnExactMakePair.j1 kj12 a1 a2 t324 (t333 != t324) l0_0 t321 t330) else (laws_FnExactMakePair.j1 kj12 a1 a2 t324 true l0_0 t321 t330))))) else (some false)))) = some r := by rw [if_neg (show ¬ (false = true) by decide)] at H; exact H
     clear H
     have H := H1
     clear H1
     replace H := Option.bind_eq_some_iff.mp H
     obtain ⟨t336, A580, H⟩ := H
     replace H : ((laws_eqPool.f kj12 t326 t336).bind fun t339 => (if t339 = true then ((laws_markPool.f kj12 t326 1).bind fun bt340 => (if bt340.1 < 0 then (laws_FnExactMakePair.j1 kj12 a1 a2 t324 true l0_0 t321 t330) else ((laws_eqPool.f kj12 t330 t321).bind fun t342 => (if t342 = true then (laws_FnExactMakePair.j1 kj12 a1 a2 t324 (t333 != t324) l0_0 t321 t330) else (laws_FnExactMakePair.j1 kj12 a1 a2 t324 true l0_0 t321 t330))))) else (some false))) = some r := H
     have A58 := Aside0.mk A580
     clear A580
     replace H := Option.bind_eq_some_iff.mp H
     obtain ⟨t339, A590, H⟩ := H
     replace H : (if t339 = true then ((laws_markPool.f kj12 t326 1).bind fun bt340 => (if bt340.1 < 0 then (laws_FnExactMakePair.j1 kj12 a1 a2 t324 true l0_0 t321 t330) else ((laws_eqPool.f kj12 t330 t321).bind fun t342 => (if t342 = true then (laws_FnExactMakePair.j1 kj12 a1 a2 t324 (t333 != t324) l0_0 t321 t330) else (laws_FnExactMakePair.j1 kj12 a1 a2 t324 true l0_0 t321 t330))))) else (some false)) = some r := H
     have A59 := Aside0.mk A590
     clear A590
     by_cases c60 : t339 = true
     ·subst c60
      have H1 : ((laws_markPool.f kj12 t326 1).bind fun bt340 => (if bt340.1 < 0 then (laws_FnExactMakePair.j1 kj12 a1 a2 t324 true l0_0 t321 t330) else ((laws_eqPool.f kj12 t330 t321).bind fun t342 => (if t342 = true then (laws_FnExactMakePair.j1 kj12 a1 a2 t324 (t333 != t324) l0_0 t321 t330) else (laws_FnExactMakePair.j1 kj12 a1 a2 t324 true l0_0 t321 t330))))) = some r := by rw [if_pos rfl] at H; exact H
      clear H
      have H := H1
      clear H1
      replace H := Option.bind_eq_some_iff.mp H
      obtain ⟨⟨t340, t341⟩, A610, H⟩ := H
      replace H : (if t340 < 0 then (laws_FnExactMakePair.j1 kj12 a1 a2 t324 true l0_0 t321 t330) else ((laws_eqPool.f kj12 t330 t321).bind fun t342 => (if t342 = true then (laws_FnExactMakePair.j1 kj12 a1 a2 t324 (t333 != t324) l0_0 t321 t330) else (laws_FnExactMakePair.j1 kj12 a1 a2 t324 true l0_0 t321 t330)))) = some r := H
      have A61 := Aside0.mk A610
      clear A610
      have HC62 := Aside0.mk H
      clear H
      try go_wp2
      have n0_ := Aside0.mk (Kd.R_drew HO_326000.out)
      have n1_ := Aside0.mk (Kd.R_drew HO_330000.out)
      have n2_ := Aside0.mk (Kd.R_drew HO_335000.out)
      have n3_ := Aside0.mk (blk_drew BK316.out)
      have n4_ := Aside0.mk (blk_drew BK325.out)
      have n5_ := Aside0.mk (blk_drew BK329.out)
      have n6_ := Aside0.mk (blk_drew BK334.out)
      have n7_ := Aside0.mk (below_drew1 HB.out)
      clear HO_326000
      clear HO_330000
      clear HO_335000
      clear BK316
      clear BK325
      clear BK329
      clear BK334
      clear HB
      have HO_326000 := n0_
      have HO_330000 := n1_
      have HO_335000 := n2_
      have BK316 := n3_
      have BK325 := n4_
      have BK329 := n5_
      have BK334 := n6_
      have HB := n7_
      clear n0_ n1_ n2_ n3_ n4_ n5_ n6_ n7_
      refine start_ (n := 5) (S := fun w' => w'.cell? ⟨gb329, 0, none⟩ = some (.slice Ao28 t326.length co28) ∧ w'.cell? ⟨gb316, 0, none⟩ = some (.slice A0_0 l0_0.length c0_0)) (ds := []) #[false, false, false, false, false] (by kernel_rfl) rfl rfl ⟨(blk_cell BK329.out 0).trans rfl, (blk_cell BK316.out 0).trans rfl⟩ (fun hHeld => ?_)
      generalize wc.drew = w63 at HO_326000 HO_330000 HO_335000 BK316 BK325 BK329 BK334 HB hHeld ⊢
      refine take_ (i := 0) (N := some 49) (v := ?_) (a' := ?_) #[true, false, false, false, false] rfl rfl (by kernel_rfl) (fun _ _ _ h => h) (Or.inl ⟨by rfl, ?_⟩) hHeld ?_ ?_
      rotate_left
      ·rintro w' ⟨s0, s1⟩
       go_simp
       with_reducible rfl
      rotate_left
      ·simp only [Act.put, List.setIfInBounds_toArray, List.set_cons_zero, List.set_cons_succ, i64_w, i32_w]
       rfl
      refine take_ (i := 1) (N := some 50) (v := ?_) (a' := ?_) #[true, true, false, false, false] rfl rfl (by kernel_rfl) (fun _ _ _ h => h) (Or.inl ⟨by rfl, ?_⟩) hHeld ?_ ?_
      rotate_left
      ·rintro w' ⟨s0, s1⟩
       go_simp
       with_reducible rfl
      rotate_left
      ·simp only [Act.put, List.setIfInBounds_toArray, List.set_cons_zero, List.set_cons_succ, i64_w, i32_w]
       rfl
      refine one_ (i := 2) (N := some 51) #[true, true, true, false, false] rfl rfl (by kernel_rfl) (by decide) (fun K hK => ?_)
      refine goes_ Try.func15 (by kernel_rfl) rfl #[.agg #[.slice A0_0 l0_0.length c0_0]] (by rfl) rfl rfl zl ?_
      with_reducible refine (laws_toPool.calls kj12 _ _ l0_0 t336 _ ?side1 ?side2 A58.out).mono ?_
      (case side1 => exact zc (Kd.C_below HR0_0.out HB.out))
      (case side2 => exact HC0_0.out)
      rintro e w64 ⟨v337, rfl, ho0, hb⟩
      refine ⟨_, rfl, ?_⟩
      have n0_ := Aside0.mk (Kd.R_elder' (zr HO_326000.out) (Kd.R_base ho0) hb)
      have n1_ := Aside0.mk (Kd.R_elder' (zr HO_330000.out) (Kd.R_base ho0) hb)
      have n2_ := Aside0.mk (Kd.R_elder' (zr HO_335000.out) (Kd.R_base ho0) hb)
      have n3_ := Aside0.mk (Kd.R_lower (Kd.R_new' (Kd.R_new' (Kd.R_new' ho0 (Kd.R_lt (zr HO_326000.out))) (Kd.R_lt (zr HO_330000.out))) (Kd.R_lt (zr HO_335000.out))) (below_size (zb HB.out)))
      have n4_ := Aside0.mk (blk_below (zh BK316.out) hb)
      have n5_ := Aside0.mk (blk_below (zh BK325.out) hb)
      have n6_ := Aside0.mk (blk_below (zh BK329.out) hb)
      have n7_ := Aside0.mk (blk_below (zh BK334.out) hb)
      have n8_ := Aside0.mk (below_step (zb HB.out) hb)
      clear HO_326000
      clear HO_330000
      clear HO_335000
      clear BK316
      clear BK325
      clear BK329
      clear BK334
      clear HB
      have HO_326000 := n0_
      have HO_330000 := n1_
      have HO_335000 := n2_
      have HO338 := n3_
      have BK316 := n4_
      have BK325 := n5_
      have BK329 := n6_
      have BK334 := n7_
      have HB := n8_
      clear n0_ n1_ n2_ n3_ n4_ n5_ n6_ n7_ n8_
      (try clear hb)
      (try clear hb2)
      (try clear hk)
      (try clear hi)
      (try clear ho0)
      obtain ⟨Ao65, co65, eo65⟩ := Kd.R_slice HO338.out
      (first | subst eo65 | (injection eo65 with f1_ f2_ f3_; have f4_ := f1_.symm; have f5_ := f3_.symm; clear f1_ f2_ f3_; subst f4_; subst f5_))
      refine hK.out _ _ ⟨(blk_cell BK329.out 0).trans rfl, (blk_cell BK316.out 0).trans rfl⟩ (fun hHeld => ?_)
      clear hK K
      refine norm_ (a' := ?_) ?_ ?_
      rotate_left
      ·show Act.put _ (some 51) _ = _
       simp only [Act.put, List.setIfInBounds_toArray, List.set_cons_zero, List.set_cons_succ, i64_w, i32_w]
       rfl
      refine one_ (i := 3) (N := some 52) #[true, true, true, true, false] rfl rfl (by kernel_rfl) (by decide) (fun K hK => ?_)
      refine goes_ Try.func17 (by kernel_rfl) rfl #[.agg #[.slice Ao28 t326.length co28], .agg #[.slice Ao65 t336.length co65]] (by rfl) rfl rfl zl ?_
      with_reducible refine (laws_eqPool.calls kj12 _ _ t326 _ _ t336 true _ ?side1 ?side2 ?side3 ?side4 A59.out).mono ?_
      (case side1 => exact zc (Kd.R_reads' HO_330000.out).2.2)
      (case side2 => exact (Kd.R_reads' HO_330000.out).2.1)
      (case side3 => exact zc (Kd.R_reads' HO338.out).2.2)
      (case side4 => exact (Kd.R_reads' HO338.out).2.1)
      rintro e w66 ⟨rfl, hb⟩
      refine ⟨_, rfl, ?_⟩
      have n0_ := Aside0.mk (Kd.R_below (zr HO_326000.out) hb)
      have n1_ := Aside0.mk (Kd.R_below (zr HO_330000.out) hb)
      have n2_ := Aside0.mk (Kd.R_below (zr HO_335000.out) hb)
      have n3_ := Aside0.mk (Kd.R_below (zr HO338.out) hb)
      have n4_ := Aside0.mk (blk_below (zh BK316.out) hb)
      have n5_ := Aside0.mk (blk_below (zh BK325.out) hb)
      have n6_ := Aside0.mk (blk_below (zh BK329.out) hb)
      have n7_ := Aside0.mk (blk_below (zh BK334.out) hb)
      have n8_ := Aside0.mk (below_step (zb HB.out) hb)
      clear HO_326000
      clear HO_330000
      clear HO_335000
      clear HO338
      clear BK316
      clear BK325
      clear BK329
      clear BK334
      clear HB
      have HO_326000 := n0_
      have HO_330000 := n1_
      have HO_335000 := n2_
      have HO338 := n3_
      have BK316 := n4_
      have BK325 := n5_
      have BK329 := n6_
      have BK334 := n7_
      have HB := n8_
      clear n0_ n1_ n2_ n3_ n4_ n5_ n6_ n7_ n8_
      (try clear hb)
      (try clear hb2)
      (try clear hk)
      (try clear hi)
      refine hK.out _ _ ⟨(blk_cell BK329.out 0).trans rfl, (blk_cell BK316.out 0).trans rfl⟩ (fun hHeld => ?_)
      clear hK K
      refine norm_ (a' := ?_) ?_ ?_
      rotate_left
      ·show Act.put _ (some 52) _ = _
       simp only [Act.put, List.setIfInBounds_toArray, List.set_cons_zero, List.set_cons_succ, i64_w, i32_w]
       rfl
      refine pure_ (i := 4) (N := some 53) (v := ?_) (a' := ?_) #[true, true, true, true, true] rfl rfl (by kernel_rfl) (fun _ _ _ h => h) (Or.inl ⟨by rfl, ?_⟩) ?_ ?_
      rotate_left
      ·intro w'
       go_simp
       with_reducible rfl
      rotate_left
      ·simp only [Act.put, List.setIfInBounds_toArray, List.set_cons_zero, List.set_cons_succ, i64_w, i32_w]
       rfl
      refine done_ (by kernel_rfl) ?_
      have hnb67 := NB329_316.out
      have hnc67 := NB316_329.out
      have hnb68 := NB329_325.out
      have hnc68 := NB325_329.out
      have hnb69 := NB329_334.out
      have hnc69 := NB334_329.out
      have hcz70_0 : w66.cell? ⟨gb329, 0, none⟩ = some (.slice Ao28 t326.length co28) := (blk_cell BK329.out 0).trans rfl
      have hfz70_0 := blk_frozen BK329.out 0
      go_upto_region 14 with (first | ((with_reducible refine gate_callee (f := 18) rfl ?_); refine goesL_ (some 56) rfl rfl Try.func18 (by kernel_rfl) rfl #[.agg #[.slice Ao28 t326.length co28], .int .i64 1] rfl zl ?_; (with_reducible refine (laws_markPool.calls kj12 (fun k_ => some k_ = (.slice Ao28 t326.length co28 : Value).ownBlock) (.slice Ao28 t326.length co28) t326 1 t340 t341 w _ ?side1 ?side2 A61.out).mono ?_); (case side1 => repeat (first | (with_reducible first | exact HB.out | apply below_alloc | apply pw_below_drewN | apply below_drew1 | refine below_set ?_ GE316.out | refine below_set ?_ GE325.out | refine below_set ?_ GE329.out | refine below_set ?_ GE334.out) | exact HB.out)); (case side2 => exact Kd.R_tight rfl HO_330000.out); rintro e w71 ⟨rfl, hy0, hb, hkp⟩; refine ⟨_, rfl, ?_⟩; have n0_ := Aside0.mk (Kd.R_mono (ok' := fun k_ => some k_ ≠ (.slice Ao28 t326.length co28 : Value).ownBlock ∧ some k_ ≠ (.slice Ao34 t330.length co34 : Value).ownBlock ∧ some k_ ≠ (.slice Ao65 t336.length co65 : Value).ownBlock) (Kd.R_keptB (HO_326000.out) hkp (fun k_ hk_ hs_ => by first | exact (hk_.1.1) hs_ | (revert hk_; simp only [and_imp]; intros; exact absurd hs_ (by assumption)))) (fun k_ hk_ => by first | exact ⟨hk_.1.1.1, hk_.1.1.2, hk_.1.2⟩ | (revert hk_; simp only [and_imp]; intros; and_intros <;> assumption))); have n1_ := Aside0.mk (Kd.R_reok rfl hy0 (fun k_ e_ => HO_330000.out.1 k_ e_)); have n2_ := Aside0.mk (Kd.R_mono (ok' := fun k_ => some k_ ≠ (.slice Ao22 t321.length co22 : Value).ownBlock ∧ some k_ ≠ (.slice Ao28 t326.length co28 : Value).ownBlock ∧ some k_ ≠ (.slice Ao65 t336.length co65 : Value).ownBlock) (Kd.R_keptB (HO_335000.out) hkp (fun k_ hk_ hs_ => by first | exact (hk_.1.2) hs_ | (revert hk_; simp only [and_imp]; intros; exact absurd hs_ (by assumption)))) (fun k_ hk_ => by first | exact ⟨hk_.1.1.1, hk_.1.1.2, hk_.1.2⟩ | (revert hk_; simp only [and_imp]; intros; and_intros <;> assumption))); have n3_ := Aside0.mk (blk_kept (zh BK316.out) hkp (fun hs_ => (fun e_ => (Kd.R_ne HO_330000.out BK316.out (by decide)) e_) hs_)); have n4_ := Aside0.mk (blk_kept (zh BK325.out) hkp (fun hs_ => (fun e_ => (Kd.R_ne HO_330000.out BK325.out (by decide)) e_) hs_)); have n5_ := Aside0.mk (blk_kept (zh BK329.out) hkp (fun hs_ => (fun e_ => (Kd.R_ne HO_330000.out BK329.out (by decide)) e_) hs_)); have n6_ := Aside0.mk (blk_kept (zh BK334.out) hkp (fun hs_ => (fun e_ => (Kd.R_ne HO_330000.out BK334.out (by decide)) e_) hs_)); have n7_ := Aside0.mk (Kd.R_mono (ok' := fun k_ => some k_ ≠ (.slice Ao22 t321.length co22 : Value).ownBlock ∧ some k_ ≠ (.slice Ao28 t326.length co28 : Value).ownBlock ∧ some k_ ≠ (.slice Ao34 t330.length co34 : Value).ownBlock) (Kd.R_keptB (HO338.out) hkp (fun k_ hk_ hs_ => by first | exact (hk_.1.2) hs_ | (revert hk_; simp only [and_imp]; intros; exact absurd hs_ (by assumption)))) (fun k_ hk_ => by first | exact ⟨hk_.1.1.1.2, hk_.1.1.2, hk_.1.2⟩ | (revert hk_; simp only [and_imp]; intros; and_intros <;> assumption))); have n8_ := Aside0.mk (hb); clear HO_326000; clear HO_330000; clear HO_335000; clear BK316; clear BK325; clear BK329; clear BK334; clear HO338; clear HB; have HO_326000 := n0_; have HO_330000 := n1_; have HO_335000 := n2_; have BK316 := n3_; have BK325 := n4_; have BK329 := n5_; have BK334 := n6_; have HO338 := n7_; have HB := n8_; clear n0_ n1_ n2_ n3_ n4_ n5_ n6_ n7_ n8_; (try clear hb); (try clear hkp); (try clear hy0)))
      (try simp only [Act.put, List.setIfInBounds_toArray, List.set_cons_zero, List.set_cons_succ])
      go_cut [69] (fun v69 wc => ∃ (kq : Nat) (x69_61 : Bool), v69 = .bool x69_61 ∧ Aside0 (laws_FnExactMakePair.j1 kq a1 a2 t324 x69_61 l0_0 t321 t330 = some r) ∧ Aside0 (kq ≤ kj12) ∧ Aside0 (Kd.R k49 49 wc w.heap.size (fun k_ => some k_ ≠ ((.slice Ao28 t326.length co28) : Value).ownBlock ∧ some k_ ≠ ((.slice Ao34 t330.length co34) : Value).ownBlock) (.slice Ao22 t321.length co22) t321) ∧ Aside0 (Kd.R k49 49 wc w.heap.size (fun k_ => some k_ ≠ ((.slice Ao22 t321.length co22) : Value).ownBlock ∧ some k_ ≠ ((.slice Ao34 t330.length co34) : Value).ownBlock) (.slice Ao28 t326.length co28) t341) ∧ Aside0 (Kd.R k49 49 wc w.heap.size (fun k_ => some k_ ≠ ((.slice Ao22 t321.length co22) : Value).ownBlock ∧ some k_ ≠ ((.slice Ao28 t326.length co28) : Value).ownBlock) (.slice Ao34 t330.length co34) t330) ∧ Aside0 (wc.heap[gb316]? = some (.cells #[(.slice A0_0 l0_0.length c0_0)] 24 (0, 0))) ∧ Aside0 (wc.heap[gb325]? = some (.cells #[(.slice Ao22 t321.length co22)] 28 (0, 0))) ∧ Aside0 (wc.heap[gb329]? = some (.cells #[(.slice Ao28 t326.length co28)] 28 (0, 0))) ∧ Aside0 (wc.heap[gb334]? = some (.cells #[(.slice Ao34 t330.length co34)] 28 (0, 0))) ∧ Aside0 (Below w.heap.size w wc))
      case first =>
       have H := HC62.out
       clear HC62
       by_cases c72 : t340 < 0
       ·rw [if_pos c72] at H
        have c72b0 : decide (t340 < 0) = true := decide_eq_true c72
        clear c72
        (first | rw [c72b0] | (simp only [i64_w, i32_w]; rw [c72b0]) | skip)
        have H' := Aside0.mk H
        clear H
        go_wp2
        go_meet
        case rel => exact ⟨_, (true), (by first | rfl | (simp; done) | (simp [*]; done)), H', ⟨by have := HJ12.out; first | omega | exact Nat.le_refl _⟩, ⟨zr (Kd.R_mono HO_326000.out (fun _ hk => ⟨hk.1, hk.2.1⟩))⟩, ⟨zr (Kd.R_mono HO_330000.out (fun _ hk => ⟨hk.1.1, hk.1.2⟩))⟩, ⟨zr (Kd.R_mono HO_335000.out (fun _ hk => ⟨hk.1, hk.2.1⟩))⟩, ⟨zh BK316.out⟩, ⟨zh BK325.out⟩, ⟨zh BK329.out⟩, ⟨zh BK334.out⟩, ⟨zb HB.out⟩⟩
       ·rw [if_neg c72] at H
        have c72b0 : decide (t340 < 0) = false := decide_eq_false c72
        clear c72
        (first | rw [c72b0] | (simp only [i64_w, i32_w]; rw [c72b0]) | skip)
        replace H := Option.bind_eq_some_iff.mp H
        obtain ⟨t342, A730, H⟩ := H
        replace H : (if t342 = true then (laws_FnExactMakePair.j1 kj12 a1 a2 t324 (t333 != t324) l0_0 t321 t330) else (laws_FnExactMakePair.j1 kj12 a1 a2 t324 true l0_0 t321 t330)) = some r := H
        have A73 := Aside0.mk A730
        clear A730
        by_cases c74 : t342 = true
        ·subst c74
         have H1 : (laws_FnExactMakePair.j1 kj12 a1 a2 t324 (t333 != t324) l0_0 t321 t330) = some r := by rw [if_pos rfl] at H; exact H
         clear H
         have H := H1
         clear H1
         have H' := Aside0.mk H
         clear H
         have hnb75 := NB334_316.out
         have hnc75 := NB316_334.out
         have hnb76 := NB334_325.out
         have hnc76 := NB325_334.out
         have hnb77 := NB334_329.out
         have hnc77 := NB329_334.out
         have hcz78_0 : w71.cell? ⟨gb334, 0, none⟩ = some (.slice Ao34 t330.length co34) := (blk_cell BK334.out 0).trans rfl
         have hfz78_0 := blk_frozen BK334.out 0
         have hnb79 := NB325_316.out
         have hnc79 := NB316_325.out
         have hnb80 := NB325_329.out
         have hnc80 := NB329_325.out
         have hcz81_0 : w71.cell? ⟨gb325, 0, none⟩ = some (.slice Ao22 t321.length co22) := (blk_cell BK325.out 0).trans rfl
         have hfz81_0 := blk_frozen BK325.out 0
         go_wp2_with (first | (go_at_call 17; (with_reducible refine (laws_eqPool.calls kj12 _ _ t330 _ _ t321 true _ ?side1 ?side2 ?side3 ?side4 A73.out).mono ?_); (case side1 => exact zc (Kd.R_reads' HO_335000.out).2.2); (case side2 => exact (Kd.R_reads' HO_335000.out).2.1); (case side3 => exact zc (Kd.R_reads' HO_326000.out).2.2); (case side4 => exact (Kd.R_reads' HO_326000.out).2.1); rintro e w82 ⟨rfl, hb⟩; have n0_ := Aside0.mk (Kd.R_below (zr HO_326000.out) hb); have n1_ := Aside0.mk (Kd.R_below (zr HO_330000.out) hb); have n2_ := Aside0.mk (Kd.R_below (zr HO_335000.out) hb); have n3_ := Aside0.mk (Kd.R_below (zr HO338.out) hb); have n4_ := Aside0.mk (blk_below (zh BK316.out) hb); have n5_ := Aside0.mk (blk_below (zh BK325.out) hb); have n6_ := Aside0.mk (blk_below (zh BK329.out) hb); have n7_ := Aside0.mk (blk_below (zh BK334.out) hb); have n8_ := Aside0.mk (below_step (zb HB.out) hb); clear HO_326000; clear HO_330000; clear HO_335000; clear HO338; clear BK316; clear BK325; clear BK329; clear BK334; clear HB; have HO_326000 := n0_; have HO_330000 := n1_; have HO_335000 := n2_; have HO338 := n3_; have BK316 := n4_; have BK325 := n5_; have BK329 := n6_; have BK334 := n7_; have HB := n8_; clear n0_ n1_ n2_ n3_ n4_ n5_ n6_ n7_ n8_; (try clear hb); (try clear hb2); (try clear hk); (try clear hi)))
         go_meet
         case rel => exact ⟨_, ((t333 != t324)), (by first | rfl | (simp; done) | (simp [*]; done)), H', ⟨by have := HJ12.out; first | omega | exact Nat.le_refl _⟩, ⟨zr (Kd.R_mono HO_326000.out (fun _ hk => ⟨hk.1, hk.2.1⟩))⟩, ⟨zr (Kd.R_mono HO_330000.out (fun _ hk => ⟨hk.1.1, hk.1.2⟩))⟩, ⟨zr (Kd.R_mono HO_335000.out (fun _ hk => ⟨hk.1, hk.2.1⟩))⟩, ⟨zh BK316.out⟩, ⟨zh BK325.out⟩, ⟨zh BK329.out⟩, ⟨zh BK334.out⟩, ⟨zb HB.out⟩⟩
        ·replace c74 := Bool.eq_false_iff.mpr c74
         subst c74
         have H1 : (laws_FnExactMakePair.j1 kj12 a1 a2 t324 true l0_0 t321 t330) = some r := by rw [if_neg (show ¬ (false = true) by decide)] at H; exact H
         clear H
         have H := H1
         clear H1
         have H' := Aside0.mk H
         clear H
         have hnb83 := NB334_316.out
         have hnc83 := NB316_334.out
         have hnb84 := NB334_325.out
         have hnc84 := NB325_334.out
         have hnb85 := NB334_329.out
         have hnc85 := NB329_334.out
         have hcz86_0 : w71.cell? ⟨gb334, 0, none⟩ = some (.slice Ao34 t330.length co34) := (blk_cell BK334.out 0).trans rfl
         have hfz86_0 := blk_frozen BK334.out 0
         have hnb87 := NB325_316.out
         have hnc87 := NB316_325.out
         have hnb88 := NB325_329.out
         have hnc88 := NB329_325.out
         have hcz89_0 : w71.cell? ⟨gb325, 0, none⟩ = some (.slice Ao22 t321.length co22) := (blk_cell BK325.out 0).trans rfl
         have hfz89_0 := blk_frozen BK325.out 0
         go_wp2_with (first | (go_at_call 17; (with_reducible refine (laws_eqPool.calls kj12 _ _ t330 _ _ t321 false _ ?side1 ?side2 ?side3 ?side4 A73.out).mono ?_); (case side1 => exact zc (Kd.R_reads' HO_335000.out).2.2); (case side2 => exact (Kd.R_reads' HO_335000.out).2.1); (case side3 => exact zc (Kd.R_reads' HO_326000.out).2.2); (case side4 => exact (Kd.R_reads' HO_326000.out).2.1); rintro e w90 ⟨rfl, hb⟩; have n0_ := Aside0.mk (Kd.R_below (zr HO_326000.out) hb); have n1_ := Aside0.mk (Kd.R_below (zr HO_330000.out) hb); have n2_ := Aside0.mk (Kd.R_below (zr HO_335000.out) hb); have n3_ := Aside0.mk (Kd.R_below (zr HO338.out) hb); have n4_ := Aside0.mk (blk_below (zh BK316.out) hb); have n5_ := Aside0.mk (blk_below (zh BK325.out) hb); have n6_ := Aside0.mk (blk_below (zh BK329.out) hb); have n7_ := Aside0.mk (blk_below (zh BK334.out) hb); have n8_ := Aside0.mk (below_step (zb HB.out) hb); clear HO_326000; clear HO_330000; clear HO_335000; clear HO338; clear BK316; clear BK325; clear BK329; clear BK334; clear HB; have HO_326000 := n0_; have HO_330000 := n1_; have HO_335000 := n2_; have HO338 := n3_; have BK316 := n4_; have BK325 := n5_; have BK329 := n6_; have BK334 := n7_; have HB := n8_; clear n0_ n1_ n2_ n3_ n4_ n5_ n6_ n7_ n8_; (try clear hb); (try clear hb2); (try clear hk); (try clear hi)))
         go_meet
         case rel => exact ⟨_, (true), (by first | rfl | (simp; done) | (simp [*]; done)), H', ⟨by have := HJ12.out; first | omega | exact Nat.le_refl _⟩, ⟨zr (Kd.R_mono HO_326000.out (fun _ hk => ⟨hk.1, hk.2.1⟩))⟩, ⟨zr (Kd.R_mono HO_330000.out (fun _ hk => ⟨hk.1.1, hk.1.2⟩))⟩, ⟨zr (Kd.R_mono HO_335000.out (fun _ hk => ⟨hk.1, hk.2.1⟩))⟩, ⟨zh BK316.out⟩, ⟨zh BK325.out⟩, ⟨zh BK329.out⟩, ⟨zh BK334.out⟩, ⟨zb HB.out⟩⟩
      case rest =>
       clear HC62
       try clear c1
       try clear c2
       try clear p2
       try clear c3
       try clear c4
       try clear c5
       try clear c5b0
       try clear c6
       try clear c7
       try clear c8
       try clear c13
       try clear c15
       try clear c17
       try clear c18
       try clear c22
       try clear c23
       try clear c29
       try clear c30
       try clear c35
       try clear c36
       try clear c37
       try clear c40
       try clear c41
       try clear c42
       try clear c43
       try clear c45
       try clear c46
       try clear c49
       try clear c50
       try clear c51
       try clear c53
       try clear c54
       try clear c57
       try clear c60
       try clear c67
       try clear c68
       try clear c69
       try clear c72
       try clear c72b0
       try clear c74
       try clear c75
       try clear c76
       try clear c77
       try clear c79
       try clear c80
       try clear c83
       try clear c84
       try clear c85
       try clear c87
       try clear c88
       try clear hcz15_0
       try clear hcz17_0
       try clear hcz24_0
       try clear hcz25_0
       try clear hcz31_0
       try clear hcz38_0
       try clear hcz44_0
       try clear hcz47_0
       try clear hcz52_0
       try clear hcz55_0
       try clear hcz70_0
       try clear hcz78_0
       try clear hcz7_0
       try clear hcz81_0
       try clear hcz86_0
       try clear hcz89_0
       try clear hfz15_0
       try clear hfz17_0
       try clear hfz24_0
       try clear hfz25_0
       try clear hfz31_0
       try clear hfz38_0
       try clear hfz44_0
       try clear hfz47_0
       try clear hfz52_0
       try clear hfz55_0
       try clear hfz70_0
       try clear hfz78_0
       try clear hfz7_0
       try clear hfz81_0
       try clear hfz86_0
       try clear hfz89_0
       try clear p2
       obtain ⟨kq, x69_61, rfl, HA, HJ61, HO_326000, HO_330000, HO_335000, BK316, BK325, BK329, BK334, HB⟩ := hcut
       have hl330000_61 := (Kd.R_reads' HO_330000.out).1
       rw [hl330000_61] at HO_330000
       (try simp only [hl330000_61])
       (try simp only [hl330000_61] at BK316)
       (try simp only [hl330000_61] at BK325)
       (try simp only [hl330000_61] at BK329)
       (try simp only [hl330000_61] at BK334)
       (try simp only [hl330000_61] at HO_326000)
       (try simp only [hl330000_61] at HO_335000)
       cases kq with
       | zero => exact absurd HA.out (by simp [laws_FnExactMakePair.j1])
       | succ kj61 =>
        have H := HA.out
        clear HA
        simp only [laws_FnExactMakePair.j1] at H
        by_cases c91 : x69_61 = true
        ·subst c91
         have H1 : (some false) = some r := by rw [if_pos rfl] at H; exact H
         clear H
         have H := H1
         clear H1
         obtain rfl := Option.some.inj H
         go_wp2
         go_ret
         exact ⟨ze, zb HB.out⟩
        ·replace c91 := Bool.eq_false_iff.mpr c91
         subst c91
         have H1 : ((laws_markPool.f kj61 t330 1).bind fun bt343 => ((laws_heldPool.f kj61 bt343.2 1).bind fun t345 => (if t345 < 0 then (some false) else (if t345 = bt343.1 then ((laws_toPool.f kj61 l0_0).bind fun t346 => ((impl_MakePair.f kj61 t346 a1 a2).bind fun bt349 => ((laws_eqPool.f kj61 bt349.1 t321).bind fun t354 => (if t354 = true then (laws_FnExactMakePair.j2 kj61 bt343.1 (bt349.2 != t324) bt343.2) else (laws_FnExactMakePair.j2 kj61 bt343.1 true bt343.2))))) else (some false))))) = some r := by rw [if_neg (show ¬ (false = true) by decide)] at H; exact H
         clear H
         have H := H1
         clear H1
         replace H := Option.bind_eq_some_iff.mp H
         obtain ⟨⟨t343, t344⟩, A920, H⟩ := H
         replace H : ((laws_heldPool.f kj61 t344 1).bind fun t345 => (if t345 < 0 then (some false) else (if t345 = t343 then ((laws_toPool.f kj61 l0_0).bind fun t346 => ((impl_MakePair.f kj61 t346 a1 a2).bind fun bt349 => ((laws_eqPool.f kj61 bt349.1 t321).bind fun t354 => (if t354 = true then (laws_FnExactMakePair.j2 kj61 t343 (bt349.2 != t324) t344) else (laws_FnExactMakePair.j2 kj61 t343 true t344))))) else (some false)))) = some r := H
         have A92 := Aside0.mk A920
         clear A920
         replace H := Option.bind_eq_some_iff.mp H
         obtain ⟨t345, A930, H⟩ := H
         replace H : (if t345 < 0 then (some false) else (if t345 = t343 then ((laws_toPool.f kj61 l0_0).bind fun t346 => ((impl_MakePair.f kj61 t346 a1 a2).bind fun bt349 => ((laws_eqPool.f kj61 bt349.1 t321).bind fun t354 => (if t354 = true then (laws_FnExactMakePair.j2 kj61 t343 (bt349.2 != t324) t344) else (laws_FnExactMakePair.j2 kj61 t343 true t344))))) else (some false))) = some r := H
         have A93 := Aside0.mk A930
         clear A930
         by_cases c94 : t345 < 0
         ·rw [if_pos c94] at H
          have c94b0 : decide (t345 < 0) = true := decide_eq_true c94
          clear c94
          obtain rfl := Option.some.inj H
          have hnb95 := NB334_316.out
          have hnc95 := NB316_334.out
          have hnb96 := NB334_325.out
          have hnc96 := NB325_334.out
          have hnb97 := NB334_329.out
          have hnc97 := NB329_334.out
          have hcz98_0 : wc.cell? ⟨gb334, 0, none⟩ = some (.slice Ao34 t330.length co34) := (blk_cell BK334.out 0).trans rfl
          have hfz98_0 := blk_frozen BK334.out 0
          go_wp2_with (first | ((with_reducible refine gate_callee (f := 18) rfl ?_); refine goesL_ (some 72) rfl rfl Try.func18 (by kernel_rfl) rfl #[.agg #[.slice Ao34 t330.length co34], .int .i64 1] rfl zl ?_; (with_reducible refine (laws_markPool.calls kj61 (fun k_ => some k_ = (.slice Ao34 t330.length co34 : Value).ownBlock) (.slice Ao34 t330.length co34) t330 1 t343 t344 w _ ?side1 ?side2 A92.out).mono ?_); (case side1 => repeat (first | (with_reducible first | exact HB.out | apply below_alloc | apply pw_below_drewN | apply below_drew1 | refine below_set ?_ GE316.out | refine below_set ?_ GE325.out | refine below_set ?_ GE329.out | refine below_set ?_ GE334.out) | exact HB.out)); (case side2 => exact Kd.R_tight rfl HO_335000.out); rintro e w99 ⟨rfl, hy0, hb, hkp⟩; refine ⟨_, rfl, ?_⟩; have n0_ := Aside0.mk (Kd.R_mono (ok' := fun k_ => some k_ ≠ (.slice Ao28 t341.length co28 : Value).ownBlock ∧ some k_ ≠ (.slice Ao34 t330.length co34 : Value).ownBlock) (Kd.R_keptB (HO_326000.out) hkp (fun k_ hk_ hs_ => by first | exact (hk_.2) hs_ | (revert hk_; simp only [and_imp]; intros; exact absurd hs_ (by assumption)))) (fun k_ hk_ => by first | exact ⟨hk_.1.1, hk_.1.2⟩ | (revert hk_; simp only [and_imp]; intros; and_intros <;> assumption))); have n1_ := Aside0.mk (Kd.R_mono (ok' := fun k_ => some k_ ≠ (.slice Ao22 t321.length co22 : Value).ownBlock ∧ some k_ ≠ (.slice Ao34 t330.length co34 : Value).ownBlock) (Kd.R_keptB (HO_330000.out) hkp (fun k_ hk_ hs_ => by first | exact (hk_.2) hs_ | (revert hk_; simp only [and_imp]; intros; exact absurd hs_ (by assumption)))) (fun k_ hk_ => by first | exact ⟨hk_.1.1, hk_.1.2⟩ | (revert hk_; simp only [and_imp]; intros; and_intros <;> assumption))); have n2_ := Aside0.mk (Kd.R_reok rfl hy0 (fun k_ e_ => HO_335000.out.1 k_ e_)); have n3_ := Aside0.mk (blk_kept (zh BK316.out) hkp (fun hs_ => (fun e_ => (Kd.R_ne HO_335000.out BK316.out (by decide)) e_) hs_)); have n4_ := Aside0.mk (blk_kept (zh BK325.out) hkp (fun hs_ => (fun e_ => (Kd.R_ne HO_335000.out BK325.out (by decide)) e_) hs_)); have n5_ := Aside0.mk (blk_kept (zh BK329.out) hkp (fun hs_ => (fun e_ => (Kd.R_ne HO_335000.out BK329.out (by decide)) e_) hs_)); have n6_ := Aside0.mk (blk_kept (zh BK334.out) hkp (fun hs_ => (fun e_ => (Kd.R_ne HO_335000.out BK334.out (by decide)) e_) hs_)); have n7_ := Aside0.mk (hb); clear HO_326000; clear HO_330000; clear HO_335000; clear BK316; clear BK325; clear BK329; clear BK334; clear HB; have HO_326000 := n0_; have HO_330000 := n1_; have HO_335000 := n2_; have BK316 := n3_; have BK325 := n4_; have BK329 := n5_; have BK334 := n6_; have HB := n7_; clear n0_ n1_ n2_ n3_ n4_ n5_ n6_ n7_; (try clear hb); (try clear hkp); (try clear hy0); have hcz100_0 : w99.cell? ⟨gb334, 0, none⟩ = some (.slice Ao34 t330.length co34) := (blk_cell BK334.out 0).trans rfl; have hfz100_0 := blk_frozen BK334.out 0) | ((with_reducible refine gate_callee (f := 19) rfl ?_); refine goesL_ (some 75) rfl rfl Try.func19 (by kernel_rfl) rfl #[.agg #[.slice Ao34 t344.length co34], .int .i64 1] rfl (by (try simp only [List.map_toArray, List.map_cons, List.map_nil]); first | done | (rw [show t344.length = t330.length from (Kd.R_reads' HO_335000.out).1.symm] <;> rfl) | rfl | (simp only [List.length_drop, List.length_take]; rfl)) ?_; (with_reducible refine (laws_heldPool.calls kj61 _ _ t344 1 t345 _ ?side1 ?side2 A93.out).mono ?_); (case side1 => exact zc (Kd.R_reads' HO_335000.out).2.2); (case side2 => rw [show t344.length = t330.length from (Kd.R_reads' HO_335000.out).1.symm]; exact (Kd.R_reads' HO_335000.out).2.1); rintro e w101 ⟨rfl, hb⟩; refine ⟨_, rfl, ?_⟩; have n0_ := Aside0.mk (Kd.R_below (zr HO_326000.out) hb); have n1_ := Aside0.mk (Kd.R_below (zr HO_330000.out) hb); have n2_ := Aside0.mk (Kd.R_below (zr HO_335000.out) hb); have n3_ := Aside0.mk (blk_below (zh BK316.out) hb); have n4_ := Aside0.mk (blk_below (zh BK325.out) hb); have n5_ := Aside0.mk (blk_below (zh BK329.out) hb); have n6_ := Aside0.mk (blk_below (zh BK334.out) hb); have n7_ := Aside0.mk (below_step (zb HB.out) hb); clear HO_326000; clear HO_330000; clear HO_335000; clear BK316; clear BK325; clear BK329; clear BK334; clear HB; have HO_326000 := n0_; have HO_330000 := n1_; have HO_335000 := n2_; have BK316 := n3_; have BK325 := n4_; have BK329 := n5_; have BK334 := n6_; have HB := n7_; clear n0_ n1_ n2_ n3_ n4_ n5_ n6_ n7_; (try clear hb); (try clear hb2); (try clear hk); (try clear hi)))
          go_ret
          exact ⟨ze, zb HB.out⟩
         ·rw [if_neg c94] at H
          have c94b0 : decide (t345 < 0) = false := decide_eq_false c94
          clear c94
          by_cases c102 : t345 = t343
          ·rw [if_pos c102] at H
           have c102b0 : (t345 == t343) = true := beq_iff_eq.mpr c102
           have c102b1 : (t345 != t343) = false := bne_eq_false_iff_eq.mpr c102
           clear c102
           replace H := Option.bind_eq_some_iff.mp H
           obtain ⟨t346, A1030, H⟩ := H
           replace H : ((impl_MakePair.f kj61 t346 a1 a2).bind fun bt349 => ((laws_eqPool.f kj61 bt349.1 t321).bind fun t354 => (if t354 = true then (laws_FnExactMakePair.j2 kj61 t343 (bt349.2 != t324) t344) else (laws_FnExactMakePair.j2 kj61 t343 true t344)))) = some r := H
           have A103 := Aside0.mk A1030
           clear A1030
           replace H := Option.bind_eq_some_iff.mp H
           obtain ⟨⟨t349, t352⟩, A1040, H⟩ := H
           replace H : ((laws_eqPool.f kj61 t349 t321).bind fun t354 => (if t354 = true then (laws_FnExactMakePair.j2 kj61 t343 (t352 != t324) t344) else (laws_FnExactMakePair.j2 kj61 t343 true t344))) = some r := H
           have A104 := Aside0.mk A1040
           clear A1040
           have HC105 := Aside0.mk H
           clear H
           have hnb106 := NB334_316.out
           have hnc106 := NB316_334.out
           have hnb107 := NB334_325.out
           have hnc107 := NB325_334.out
           have hnb108 := NB334_329.out
           have hnc108 := NB329_334.out
           have hcz109_0 : wc.cell? ⟨gb334, 0, none⟩ = some (.slice Ao34 t330.length co34) := (blk_cell BK334.out 0).trans rfl
           have hfz109_0 := blk_frozen BK334.out 0
           go_upto_region 25 with (first | ((with_reducible refine gate_callee (f := 18) rfl ?_); refine goesL_ (some 72) rfl rfl Try.func18 (by kernel_rfl) rfl #[.agg #[.slice Ao34 t330.length co34], .int .i64 1] rfl zl ?_; (with_reducible refine (laws_markPool.calls kj61 (fun k_ => some k_ = (.slice Ao34 t330.length co34 : Value).ownBlock) (.slice Ao34 t330.length co34) t330 1 t343 t344 w _ ?side1 ?side2 A92.out).mono ?_); (case side1 => repeat (first | (with_reducible first | exact HB.out | apply below_alloc | apply pw_below_drewN | apply below_drew1 | refine below_set ?_ GE316.out | refine below_set ?_ GE325.out | refine below_set ?_ GE329.out | refine below_set ?_ GE334.out) | exact HB.out)); (case side2 => exact Kd.R_tight rfl HO_335000.out); rintro e w110 ⟨rfl, hy0, hb, hkp⟩; refine ⟨_, rfl, ?_⟩; have n0_ := Aside0.mk (Kd.R_mono (ok' := fun k_ => some k_ ≠ (.slice Ao28 t341.length co28 : Value).ownBlock ∧ some k_ ≠ (.slice Ao34 t330.length co34 : Value).ownBlock) (Kd.R_keptB (HO_326000.out) hkp (fun k_ hk_ hs_ => by first | exact (hk_.2) hs_ | (revert hk_; simp only [and_imp]; intros; exact absurd hs_ (by assumption)))) (fun k_ hk_ => by first | exact ⟨hk_.1.1, hk_.1.2⟩ | (revert hk_; simp only [and_imp]; intros; and_intros <;> assumption))); have n1_ := Aside0.mk (Kd.R_mono (ok' := fun k_ => some k_ ≠ (.slice Ao22 t321.length co22 : Value).ownBlock ∧ some k_ ≠ (.slice Ao34 t330.length co34 : Value).ownBlock) (Kd.R_keptB (HO_330000.out) hkp (fun k_ hk_ hs_ => by first | exact (hk_.2) hs_ | (revert hk_; simp only [and_imp]; intros; exact absurd hs_ (by assumption)))) (fun k_ hk_ => by first | exact ⟨hk_.1.1, hk_.1.2⟩ | (revert hk_; simp only [and_imp]; intros; and_intros <;> assumption))); have n2_ := Aside0.mk (Kd.R_reok rfl hy0 (fun k_ e_ => HO_335000.out.1 k_ e_)); have n3_ := Aside0.mk (blk_kept (zh BK316.out) hkp (fun hs_ => (fun e_ => (Kd.R_ne HO_335000.out BK316.out (by decide)) e_) hs_)); have n4_ := Aside0.mk (blk_kept (zh BK325.out) hkp (fun hs_ => (fun e_ => (Kd.R_ne HO_335000.out BK325.out (by decide)) e_) hs_)); have n5_ := Aside0.mk (blk_kept (zh BK329.out) hkp (fun hs_ => (fun e_ => (Kd.R_ne HO_335000.out BK329.out (by decide)) e_) hs_)); have n6_ := Aside0.mk (blk_kept (zh BK334.out) hkp (fun hs_ => (fun e_ => (Kd.R_ne HO_335000.out BK334.out (by decide)) e_) hs_)); have n7_ := Aside0.mk (hb); clear HO_326000; clear HO_330000; clear HO_335000; clear BK316; clear BK325; clear BK329; clear BK334; clear HB; have HO_326000 := n0_; have HO_330000 := n1_; have HO_335000 := n2_; have BK316 := n3_; have BK325 := n4_; have BK329 := n5_; have BK334 := n6_; have HB := n7_; clear n0_ n1_ n2_ n3_ n4_ n5_ n6_ n7_; (try clear hb); (try clear hkp); (try clear hy0); have hcz111_0 : w110.cell? ⟨gb334, 0, none⟩ = some (.slice Ao34 t330.length co34) := (blk_cell BK334.out 0).trans rfl; have hfz111_0 := blk_frozen BK334.out 0) | ((with_reducible refine gate_callee (f := 19) rfl ?_); refine goesL_ (some 75) rfl rfl Try.func19 (by kernel_rfl) rfl #[.agg #[.slice Ao34 t344.length co34], .int .i64 1] rfl (by (try simp only [List.map_toArray, List.map_cons, List.map_nil]); first | done | (rw [show t344.length = t330.length from (Kd.R_reads' HO_335000.out).1.symm] <;> rfl) | rfl | (simp only [List.length_drop, List.length_take]; rfl)) ?_; (with_reducible refine (laws_heldPool.calls kj61 _ _ t344 1 t345 _ ?side1 ?side2 A93.out).mono ?_); (case side1 => exact zc (Kd.R_reads' HO_335000.out).2.2); (case side2 => rw [show t344.length = t330.length from (Kd.R_reads' HO_335000.out).1.symm]; exact (Kd.R_reads' HO_335000.out).2.1); rintro e w112 ⟨rfl, hb⟩; refine ⟨_, rfl, ?_⟩; have n0_ := Aside0.mk (Kd.R_below (zr HO_326000.out) hb); have n1_ := Aside0.mk (Kd.R_below (zr HO_330000.out) hb); have n2_ := Aside0.mk (Kd.R_below (zr HO_335000.out) hb); have n3_ := Aside0.mk (blk_below (zh BK316.out) hb); have n4_ := Aside0.mk (blk_below (zh BK325.out) hb); have n5_ := Aside0.mk (blk_below (zh BK329.out) hb); have n6_ := Aside0.mk (blk_below (zh BK334.out) hb); have n7_ := Aside0.mk (below_step (zb HB.out) hb); clear HO_326000; clear HO_330000; clear HO_335000; clear BK316; clear BK325; clear BK329; clear BK334; clear HB; have HO_326000 := n0_; have HO_330000 := n1_; have HO_335000 := n2_; have BK316 := n3_; have BK325 := n4_; have BK329 := n5_; have BK334 := n6_; have HB := n7_; clear n0_ n1_ n2_ n3_ n4_ n5_ n6_ n7_; (try clear hb); (try clear hb2); (try clear hk); (try clear hi); have hnb113 := NB316_325.out; have hnc113 := NB325_316.out; have hnb114 := NB316_329.out; have hnc114 := NB329_316.out; have hcz115_0 : w112.cell? ⟨gb316, 0, none⟩ = some (.slice A0_0 l0_0.length c0_0) := (blk_cell BK316.out 0).trans rfl; have hfz115_0 := blk_frozen BK316.out 0) | ((with_reducible refine gate_callee (f := 15) rfl ?_); refine goesL_ (some 83) rfl rfl Try.func15 (by kernel_rfl) rfl #[.agg #[.slice A0_0 l0_0.length c0_0]] rfl zl ?_; (with_reducible refine (laws_toPool.calls kj61 _ _ l0_0 t346 _ ?side1 ?side2 A103.out).mono ?_); (case side1 => exact zc (Kd.C_below HR0_0.out HB.out)); (case side2 => exact HC0_0.out); rintro e w116 ⟨v347, rfl, ho0, hb⟩; refine ⟨_, rfl, ?_⟩; have n0_ := Aside0.mk (Kd.R_elder' (zr HO_326000.out) (Kd.R_base ho0) hb); have n1_ := Aside0.mk (Kd.R_elder' (zr HO_330000.out) (Kd.R_base ho0) hb); have n2_ := Aside0.mk (Kd.R_elder' (zr HO_335000.out) (Kd.R_base ho0) hb); have n3_ := Aside0.mk (Kd.R_lower (Kd.R_new' (Kd.R_new' (Kd.R_new' ho0 (Kd.R_lt (zr HO_326000.out))) (Kd.R_lt (zr HO_330000.out))) (Kd.R_lt (zr HO_335000.out))) (below_size (zb HB.out))); have n4_ := Aside0.mk (blk_below (zh BK316.out) hb); have n5_ := Aside0.mk (blk_below (zh BK325.out) hb); have n6_ := Aside0.mk (blk_below (zh BK329.out) hb); have n7_ := Aside0.mk (blk_below (zh BK334.out) hb); have n8_ := Aside0.mk (below_step (zb HB.out) hb); clear HO_326000; clear HO_330000; clear HO_335000; clear BK316; clear BK325; clear BK329; clear BK334; clear HB; have HO_326000 := n0_; have HO_330000 := n1_; have HO_335000 := n2_; have HO348 := n3_; have BK316 := n4_; have BK325 := n5_; have BK329 := n6_; have BK334 := n7_; have HB := n8_; clear n0_ n1_ n2_ n3_ n4_ n5_ n6_ n7_ n8_; (try clear hb); (try clear hb2); (try clear hk); (try clear hi); (try clear ho0); obtain ⟨Ao117, co117, eo117⟩ := Kd.R_slice HO348.out; subst eo117) | ((with_reducible refine gate_callee (f := 23) rfl ?_); refine goesL_ (some 86) rfl rfl Try.func23 (by kernel_rfl) rfl #[.agg #[.slice Ao117 t346.length co117], .int .i64 a1, .int .i64 a2] rfl zl ?_; (with_reducible refine (impl_MakePair.calls kj61 _ _ t346 a1 a2 t349 t352 _ ?side1 ?side2 A104.out).mono ?_); (case side1 => exact zc (Kd.R_reads' HO348.out).2.2); (case side2 => exact (Kd.R_reads' HO348.out).2.1); rintro e w118 ⟨v350, rfl, ho0, hb⟩; refine ⟨_, rfl, ?_⟩; have n0_ := Aside0.mk (Kd.R_elder' (zr HO_326000.out) (Kd.R_base ho0) hb); have n1_ := Aside0.mk (Kd.R_elder' (zr HO_330000.out) (Kd.R_base ho0) hb); have n2_ := Aside0.mk (Kd.R_elder' (zr HO_335000.out) (Kd.R_base ho0) hb); have n3_ := Aside0.mk (Kd.R_elder' (zr HO348.out) (Kd.R_base ho0) hb); have n4_ := Aside0.mk (Kd.R_lower (Kd.R_new' (Kd.R_new' (Kd.R_new' (Kd.R_new' ho0 (Kd.R_lt (zr HO_326000.out))) (Kd.R_lt (zr HO_330000.out))) (Kd.R_lt (zr HO_335000.out))) (Kd.R_lt (zr HO348.out))) (below_size (zb HB.out))); have n5_ := Aside0.mk (blk_below (zh BK316.out) hb); have n6_ := Aside0.mk (blk_below (zh BK325.out) hb); have n7_ := Aside0.mk (blk_below (zh BK329.out) hb); have n8_ := Aside0.mk (blk_below (zh BK334.out) hb); have n9_ := Aside0.mk (below_step (zb HB.out) hb); clear HO_326000; clear HO_330000; clear HO_335000; clear HO348; clear BK316; clear BK325; clear BK329; clear BK334; clear HB; have HO_326000 := n0_; have HO_330000 := n1_; have HO_335000 := n2_; have HO348 := n3_; have HO351 := n4_; have BK316 := n5_; have BK325 := n6_; have BK329 := n7_; have BK334 := n8_; have HB := n9_; clear n0_ n1_ n2_ n3_ n4_ n5_ n6_ n7_ n8_ n9_; (try clear hb); (try clear hb2); (try clear hk); (try clear hi); (try clear ho0)) | ((with_reducible refine gate_dst (N := 16) rfl ?_); refine box_event ?hg (N := 16) ?hd (cs := #[.slice none 0 0]) (t := 28) ?hr ?_; (case hd => rfl); (case hg => rfl); (case hr => first | (go_simp; done) | (go_simp; rfl)); intro gb353 hg w119 hbox hb; have n0_ := Aside0.mk (Kd.R_below (zr HO_326000.out) hb); have n1_ := Aside0.mk (Kd.R_below (zr HO_330000.out) hb); have n2_ := Aside0.mk (Kd.R_below (zr HO_335000.out) hb); have n3_ := Aside0.mk (Kd.R_below (zr HO348.out) hb); have n4_ := Aside0.mk (Kd.R_below (zr HO351.out) hb); have n5_ := Aside0.mk (blk_below (zh BK316.out) hb); have n6_ := Aside0.mk (blk_below (zh BK325.out) hb); have n7_ := Aside0.mk (blk_below (zh BK329.out) hb); have n8_ := Aside0.mk (blk_below (zh BK334.out) hb); have n9_ := Aside0.mk (below_step (zb HB.out) hb); have n10_ := Aside0.mk (hbox); have n11_ := Aside0.mk ((by rw [hg]; exact (below_size (zb HB.out)) : w.heap.size ≤ gb353)); have n12_ := Aside0.mk ((by rw [hg]; exact (below_size (zb HB.out)) : w.heap.size ≤ gb353)); have n13_ := Aside0.mk ((by rw [hg]; exact Nat.ne_of_lt (blk_lt (zh BK316.out)) : gb316 ≠ gb353)); have n14_ := Aside0.mk ((by rw [hg]; exact Nat.ne_of_gt (blk_lt (zh BK316.out)) : gb353 ≠ gb316)); have n15_ := Aside0.mk ((by rw [hg]; exact Nat.ne_of_lt (blk_lt (zh BK325.out)) : gb325 ≠ gb353)); have n16_ := Aside0.mk ((by rw [hg]; exact Nat.ne_of_gt (blk_lt (zh BK325.out)) : gb353 ≠ gb325)); have n17_ := Aside0.mk ((by rw [hg]; exact Nat.ne_of_lt (blk_lt (zh BK329.out)) : gb329 ≠ gb353)); have n18_ := Aside0.mk ((by rw [hg]; exact Nat.ne_of_gt (blk_lt (zh BK329.out)) : gb353 ≠ gb329)); have n19_ := Aside0.mk ((by rw [hg]; exact Nat.ne_of_lt (blk_lt (zh BK334.out)) : gb334 ≠ gb353)); have n20_ := Aside0.mk ((by rw [hg]; exact Nat.ne_of_gt (blk_lt (zh BK334.out)) : gb353 ≠ gb334)); clear HO_326000; clear HO_330000; clear HO_335000; clear HO348; clear HO351; clear BK316; clear BK325; clear BK329; clear BK334; clear HB; have HO_326000 := n0_; have HO_330000 := n1_; have HO_335000 := n2_; have HO348 := n3_; have HO351 := n4_; have BK316 := n5_; have BK325 := n6_; have BK329 := n7_; have BK334 := n8_; have HB := n9_; have BK353 := n10_; have GW353 := n11_; have GE353 := n12_; have NB316_353 := n13_; have NB353_316 := n14_; have NB325_353 := n15_; have NB353_325 := n16_; have NB329_353 := n17_; have NB353_329 := n18_; have NB334_353 := n19_; have NB353_334 := n20_; clear n0_ n1_ n2_ n3_ n4_ n5_ n6_ n7_ n8_ n9_ n10_ n11_ n12_ n13_ n14_ n15_ n16_ n17_ n18_ n19_ n20_; clear hb hbox hg; obtain ⟨Ao120, co120, eo120⟩ := Kd.R_slice HO351.out; subst eo120; have hnb121 := NB353_316.out; have hnc121 := NB316_353.out; have hnb122 := NB353_325.out; have hnc122 := NB325_353.out; have hnb123 := NB353_329.out; have hnc123 := NB329_353.out; have hnb124 := NB353_334.out; have hnc124 := NB334_353.out; have hcz125_0 : w119.cell? ⟨gb353, 0, none⟩ = some (.slice none 0 0) := (blk_cell BK353.out 0).trans rfl; have hfz125_0 := blk_frozen BK353.out 0))
           (try simp only [Act.put, List.setIfInBounds_toArray, List.set_cons_zero, List.set_cons_succ])
           go_cut [97] (fun v97 wc => ∃ (kq : Nat) (x97_104 : Bool), v97 = .bool x97_104 ∧ Aside0 (laws_FnExactMakePair.j2 kq t343 x97_104 t344 = some r) ∧ Aside0 (kq ≤ kj61) ∧ Aside0 (Kd.R k49 49 wc w.heap.size (fun k_ => some k_ ≠ ((.slice Ao28 t341.length co28) : Value).ownBlock ∧ some k_ ≠ ((.slice Ao34 t330.length co34) : Value).ownBlock ∧ some k_ ≠ ((.slice Ao120 t349.length co120) : Value).ownBlock) (.slice Ao22 t321.length co22) t321) ∧ Aside0 (Kd.R k49 49 wc w.heap.size (fun k_ => some k_ ≠ ((.slice Ao22 t321.length co22) : Value).ownBlock ∧ some k_ ≠ ((.slice Ao34 t330.length co34) : Value).ownBlock ∧ some k_ ≠ ((.slice Ao120 t349.length co120) : Value).ownBlock) (.slice Ao28 t341.length co28) t341) ∧ Aside0 (Kd.R k49 49 wc w.heap.size (fun k_ => some k_ ≠ ((.slice Ao22 t321.length co22) : Value).ownBlock ∧ some k_ ≠ ((.slice Ao28 t341.length co28) : Value).ownBlock ∧ some k_ ≠ ((.slice Ao120 t349.length co120) : Value).ownBlock) (.slice Ao34 t330.length co34) t344) ∧ Aside0 (Kd.R k49 49 wc w.heap.size (fun k_ => some k_ ≠ ((.slice Ao22 t321.length co22) : Value).ownBlock ∧ some k_ ≠ ((.slice Ao28 t341.length co28) : Value).ownBlock ∧ some k_ ≠ ((.slice Ao34 t330.length co34) : Value).ownBlock) (.slice Ao120 t349.length co120) t349) ∧ Aside0 (wc.heap[gb316]? = some (.cells #[(.slice A0_0 l0_0.length c0_0)] 24 (0, 0))) ∧ Aside0 (wc.heap[gb325]? = some (.cells #[(.slice Ao22 t321.length co22)] 28 (0, 0))) ∧ Aside0 (wc.heap[gb329]? = some (.cells #[(.slice Ao28 t341.length co28)] 28 (0, 0))) ∧ Aside0 (wc.heap[gb334]? = some (.cells #[(.slice Ao34 t330.length co34)] 28 (0, 0))) ∧ Aside0 (wc.heap[gb353]? = some (.cells #[(.slice Ao120 t349.length co120)] 28 (0, 0))) ∧ Aside0 (Below w.heap.size w wc))
           case first =>
            have H := HC105.out
            clear HC105
            replace H := Option.bind_eq_some_iff.mp H
            obtain ⟨t354, A1260, H⟩ := H
            replace H : (if t354 = true then (laws_FnExactMakePair.j2 kj61 t343 (t352 != t324) t344) else (laws_FnExactMakePair.j2 kj61 t343 true t344)) = some r := H
            have A126 := Aside0.mk A1260
            clear A1260
            by_cases c127 : t354 = true
            ·subst c127
             have H1 : (laws_FnExactMakePair.j2 kj61 t343 (t352 != t324) t344) = some r := by rw [if_pos rfl] at H; exact H
             clear H
             have H := H1
             clear H1
             have H' := Aside0.mk H
             clear H
             have hnb128 := NB353_316.out
             have hnc128 := NB316_353.out
             have hnb129 := NB353_325.out
             have hnc129 := NB325_353.out
             have hnb130 := NB353_329.out
             have hnc130 := NB329_353.out
             have hnb131 := NB353_334.out
             have hnc131 := NB334_353.out
             have hcz132_0 : w119.cell? ⟨gb353, 0, none⟩ = some (.slice none 0 0) := (blk_cell BK353.out 0).trans rfl
             have hfz132_0 := blk_frozen BK353.out 0
             have hnb133 := NB325_316.out
             have hnc133 := NB316_325.out
             have hnb134 := NB325_329.out
             have hnc134 := NB329_325.out
             have hnb135 := NB325_334.out
             have hnc135 := NB334_325.out
             have hcz136_0 : w119.cell? ⟨gb325, 0, none⟩ = some (.slice Ao22 t321.length co22) := (blk_cell BK325.out 0).trans rfl
             have hfz136_0 := blk_frozen BK325.out 0
             go_wp2_with (first | ((with_reducible refine gate_callee (f := 17) rfl ?_); refine goesL_ (some 91) rfl rfl Try.func17 (by kernel_rfl) rfl #[.agg #[.slice Ao120 t349.length co120], .agg #[.slice Ao22 t321.length co22]] rfl zl ?_; (with_reducible refine (laws_eqPool.calls kj61 _ _ t349 _ _ t321 true _ ?side1 ?side2 ?side3 ?side4 A126.out).mono ?_); (case side1 => refine (Kd.R_reads' (e := 49) (base := w.heap.size) (ok := fun k_ => ((((True ∧ some k_ ≠ (.slice Ao22 t321.length co22 : Value).ownBlock) ∧ some k_ ≠ (.slice Ao28 t341.length co28 : Value).ownBlock) ∧ some k_ ≠ (.slice Ao34 t330.length co34 : Value).ownBlock) ∧ some k_ ≠ (.slice Ao117 t346.length co117 : Value).ownBlock)) (n := t349.length) (c := co120) ?_).2.2; exact (by (with_reducible repeat (first | apply Kd.R_alloc | apply Kd.R_drewN | apply Kd.R_drew)); exact (Kd.R_mono (Kd.R_far (p := ⟨gb353, 0, none⟩) (Kd.R_types HO351.out BK353.out (by decide)) (fun _ hk => hk.2) (.slice Ao120 t349.length co120)) (fun _ h_ => h_.1)))); (case side2 => exact (Kd.R_reads' HO351.out).2.1); (case side3 => refine (Kd.R_reads' (e := 49) (base := w.heap.size) (ok := fun k_ => (((some k_ ≠ (.slice Ao28 t341.length co28 : Value).ownBlock ∧ some k_ ≠ (.slice Ao34 t330.length co34 : Value).ownBlock) ∧ some k_ ≠ (.slice Ao117 t346.length co117 : Value).ownBlock) ∧ some k_ ≠ (.slice Ao120 t349.length co120 : Value).ownBlock)) (n := t321.length) (c := co22) ?_).2.2; exact (by (with_reducible repeat (first | apply Kd.R_alloc | apply Kd.R_drewN | apply Kd.R_drew)); exact (Kd.R_mono (Kd.R_far (p := ⟨gb353, 0, none⟩) (Kd.R_types HO_326000.out BK353.out (by decide)) (fun _ hk => hk.2) (.slice Ao120 t349.length co120)) (fun _ h_ => h_.1)))); (case side4 => exact (Kd.R_reads' HO_326000.out).2.1); rintro e w137 ⟨rfl, hb⟩; refine ⟨_, rfl, ?_⟩; have n0_ := Aside0.mk (Kd.R_below (by (with_reducible repeat (first | apply Kd.R_alloc | apply Kd.R_drewN | apply Kd.R_drew)); exact (Kd.R_mono (Kd.R_far (p := ⟨gb353, 0, none⟩) (Kd.R_types HO_326000.out BK353.out (by decide)) (fun _ hk => hk.2) (.slice Ao120 t349.length co120)) (fun _ h_ => h_.1))) hb); have n1_ := Aside0.mk (Kd.R_below (by (with_reducible repeat (first | apply Kd.R_alloc | apply Kd.R_drewN | apply Kd.R_drew)); exact (Kd.R_mono (Kd.R_far (p := ⟨gb353, 0, none⟩) (Kd.R_types HO_330000.out BK353.out (by decide)) (fun _ hk => hk.2) (.slice Ao120 t349.length co120)) (fun _ h_ => h_.1))) hb); have n2_ := Aside0.mk (Kd.R_below (by (with_reducible repeat (first | apply Kd.R_alloc | apply Kd.R_drewN | apply Kd.R_drew)); exact (Kd.R_mono (Kd.R_far (p := ⟨gb353, 0, none⟩) (Kd.R_types HO_335000.out BK353.out (by decide)) (fun _ hk => hk.2) (.slice Ao120 t349.length co120)) (fun _ h_ => h_.1))) hb); have n3_ := Aside0.mk (Kd.R_below (by (with_reducible repeat (first | apply Kd.R_alloc | apply Kd.R_drewN | apply Kd.R_drew)); exact (Kd.R_mono (Kd.R_far (p := ⟨gb353, 0, none⟩) (Kd.R_types HO348.out BK353.out (by decide)) (fun _ hk => hk.2) (.slice Ao120 t349.length co120)) (fun _ h_ => h_.1))) hb); have n4_ := Aside0.mk (Kd.R_below (by (with_reducible repeat (first | apply Kd.R_alloc | apply Kd.R_drewN | apply Kd.R_drew)); exact (Kd.R_mono (Kd.R_far (p := ⟨gb353, 0, none⟩) (Kd.R_types HO351.out BK353.out (by decide)) (fun _ hk => hk.2) (.slice Ao120 t349.length co120)) (fun _ h_ => h_.1))) hb); have n5_ := Aside0.mk (blk_below (g := gb316) (o := .cells #[.slice A0_0 l0_0.length c0_0] 24 (0, 0)) (zf BK316.out) hb); have n6_ := Aside0.mk (blk_below (g := gb325) (o := .cells #[.slice Ao22 t321.length co22] 28 (0, 0)) (zf BK325.out) hb); have n7_ := Aside0.mk (blk_below (g := gb329) (o := .cells #[.slice Ao28 t341.length co28] 28 (0, 0)) (zf BK329.out) hb); have n8_ := Aside0.mk (blk_below (g := gb334) (o := .cells #[.slice Ao34 t330.length co34] 28 (0, 0)) (zf BK334.out) hb); have n9_ := Aside0.mk (blk_below (g := gb353) (o := .cells #[.slice Ao120 t349.length co120] 28 (0, 0)) (by (with_reducible repeat (first | refine blk_drewN ?_ _ | refine blk_drew ?_ | refine blk_alloc ?_ _)); refine blk_put (cs := #[.slice none 0 0]) ?_ 0 _ rfl; (with_reducible repeat (first | refine blk_drewN ?_ _ | refine blk_drew ?_ | refine blk_alloc ?_ _)); exact BK353.out) hb); have n10_ := Aside0.mk (below_step (zb HB.out) hb); clear HO_326000; clear HO_330000; clear HO_335000; clear HO348; clear HO351; clear BK316; clear BK325; clear BK329; clear BK334; clear BK353; clear HB; have HO_326000 := n0_; have HO_330000 := n1_; have HO_335000 := n2_; have HO348 := n3_; have HO351 := n4_; have BK316 := n5_; have BK325 := n6_; have BK329 := n7_; have BK334 := n8_; have BK353 := n9_; have HB := n10_; clear n0_ n1_ n2_ n3_ n4_ n5_ n6_ n7_ n8_ n9_ n10_; (try clear hb); (try clear hb2); (try clear hk); (try clear hi)))
             go_meet
             case rel => exact ⟨_, ((t352 != t324)), (by first | rfl | (simp; done) | (simp [*]; done)), H', ⟨by have := HJ12.out; have := HJ61.out; first | omega | exact Nat.le_refl _⟩, ⟨by (try simp only [hl330000_61]); (with_reducible repeat (first | apply Kd.R_alloc | apply Kd.R_drewN | apply Kd.R_drew)); exact Kd.R_mono HO_326000.out (fun _ hk => ⟨hk.1.1.1, ⟨hk.1.1.2, hk.2⟩⟩)⟩, ⟨by (try simp only [hl330000_61]); (with_reducible repeat (first | apply Kd.R_alloc | apply Kd.R_drewN | apply Kd.R_drew)); exact Kd.R_mono HO_330000.out (fun _ hk => ⟨hk.1.1.1, ⟨hk.1.1.2, hk.2⟩⟩)⟩, ⟨by (try simp only [hl330000_61]); (with_reducible repeat (first | apply Kd.R_alloc | apply Kd.R_drewN | apply Kd.R_drew)); exact Kd.R_mono HO_335000.out (fun _ hk => ⟨hk.1.1.1, ⟨hk.1.1.2, hk.2⟩⟩)⟩, ⟨by (try simp only [hl330000_61]); (with_reducible repeat (first | apply Kd.R_alloc | apply Kd.R_drewN | apply Kd.R_drew)); exact Kd.R_mono HO351.out (fun _ hk => ⟨hk.1.1.1.2, ⟨hk.1.1.2, hk.1.2⟩⟩)⟩, ⟨by (try simp only [hl330000_61]); (with_reducible repeat (first | refine blk_drewN ?_ _ | refine blk_drew ?_ | refine blk_alloc ?_ _)); exact BK316.out⟩, ⟨by (try simp only [hl330000_61]); (with_reducible repeat (first | refine blk_drewN ?_ _ | refine blk_drew ?_ | refine blk_alloc ?_ _)); exact BK325.out⟩, ⟨by (try simp only [hl330000_61]); (with_reducible repeat (first | refine blk_drewN ?_ _ | refine blk_drew ?_ | refine blk_alloc ?_ _)); exact BK329.out⟩, ⟨by (try simp only [hl330000_61]); (with_reducible repeat (first | refine blk_drewN ?_ _ | refine blk_drew ?_ | refine blk_alloc ?_ _)); exact BK334.out⟩, ⟨by (try simp only [hl330000_61]); (with_reducible repeat (first | refine blk_drewN ?_ _ | refine blk_drew ?_ | refine blk_alloc ?_ _)); exact BK353.out⟩, ⟨zb HB.out⟩⟩
            ·replace c127 := Bool.eq_false_iff.mpr c127
             subst c127
             have H1 : (laws_FnExactMakePair.j2 kj61 t343 true t344) = some r := by rw [if_neg (show ¬ (false = true) by decide)] at H; exact H
             clear H
             have H := H1
             clear H1
             have H' := Aside0.mk H
             clear H
             have hnb138 := NB353_316.out
             have hnc138 := NB316_353.out
             have hnb139 := NB353_325.out
             have hnc139 := NB325_353.out
             have hnb140 := NB353_329.out
             have hnc140 := NB329_353.out
             have hnb141 := NB353_334.out
             have hnc141 := NB334_353.out
             have hcz142_0 : w119.cell? ⟨gb353, 0, none⟩ = some (.slice none 0 0) := (blk_cell BK353.out 0).trans rfl
             have hfz142_0 := blk_frozen BK353.out 0
             have hnb143 := NB325_316.out
             have hnc143 := NB316_325.out
             have hnb144 := NB325_329.out
             have hnc144 := NB329_325.out
             have hnb145 := NB325_334.out
             have hnc145 := NB334_325.out
             have hcz146_0 : w119.cell? ⟨gb325, 0, none⟩ = some (.slice Ao22 t321.length co22) := (blk_cell BK325.out 0).trans rfl
             have hfz146_0 := blk_frozen BK325.out 0
             go_wp2_with (first | ((with_reducible refine gate_callee (f := 17) rfl ?_); refine goesL_ (some 91) rfl rfl Try.func17 (by kernel_rfl) rfl #[.agg #[.slice Ao120 t349.length co120], .agg #[.slice Ao22 t321.length co22]] rfl zl ?_; (with_reducible refine (laws_eqPool.calls kj61 _ _ t349 _ _ t321 false _ ?side1 ?side2 ?side3 ?side4 A126.out).mono ?_); (case side1 => refine (Kd.R_reads' (e := 49) (base := w.heap.size) (ok := fun k_ => ((((True ∧ some k_ ≠ (.slice Ao22 t321.length co22 : Value).ownBlock) ∧ some k_ ≠ (.slice Ao28 t341.length co28 : Value).ownBlock) ∧ some k_ ≠ (.slice Ao34 t330.length co34 : Value).ownBlock) ∧ some k_ ≠ (.slice Ao117 t346.length co117 : Value).ownBlock)) (n := t349.length) (c := co120) ?_).2.2; exact (by (with_reducible repeat (first | apply Kd.R_alloc | apply Kd.R_drewN | apply Kd.R_drew)); exact (Kd.R_mono (Kd.R_far (p := ⟨gb353, 0, none⟩) (Kd.R_types HO351.out BK353.out (by decide)) (fun _ hk => hk.2) (.slice Ao120 t349.length co120)) (fun _ h_ => h_.1)))); (case side2 => exact (Kd.R_reads' HO351.out).2.1); (case side3 => refine (Kd.R_reads' (e := 49) (base := w.heap.size) (ok := fun k_ => (((some k_ ≠ (.slice Ao28 t341.length co28 : Value).ownBlock ∧ some k_ ≠ (.slice Ao34 t330.length co34 : Value).ownBlock) ∧ some k_ ≠ (.slice Ao117 t346.length co117 : Value).ownBlock) ∧ some k_ ≠ (.slice Ao120 t349.length co120 : Value).ownBlock)) (n := t321.length) (c := co22) ?_).2.2; exact (by (with_reducible repeat (first | apply Kd.R_alloc | apply Kd.R_drewN | apply Kd.R_drew)); exact (Kd.R_mono (Kd.R_far (p := ⟨gb353, 0, none⟩) (Kd.R_types HO_326000.out BK353.out (by decide)) (fun _ hk => hk.2) (.slice Ao120 t349.length co120)) (fun _ h_ => h_.1)))); (case side4 => exact (Kd.R_reads' HO_326000.out).2.1); rintro e w147 ⟨rfl, hb⟩; refine ⟨_, rfl, ?_⟩; have n0_ := Aside0.mk (Kd.R_below (by (with_reducible repeat (first | apply Kd.R_alloc | apply Kd.R_drewN | apply Kd.R_drew)); exact (Kd.R_mono (Kd.R_far (p := ⟨gb353, 0, none⟩) (Kd.R_types HO_326000.out BK353.out (by decide)) (fun _ hk => hk.2) (.slice Ao120 t349.length co120)) (fun _ h_ => h_.1))) hb); have n1_ := Aside0.mk (Kd.R_below (by (with_reducible repeat (first | apply Kd.R_alloc | apply Kd.R_drewN | apply Kd.R_drew)); exact (Kd.R_mono (Kd.R_far (p := ⟨gb353, 0, none⟩) (Kd.R_types HO_330000.out BK353.out (by decide)) (fun _ hk => hk.2) (.slice Ao120 t349.length co120)) (fun _ h_ => h_.1))) hb); have n2_ := Aside0.mk (Kd.R_below (by (with_reducible repeat (first | apply Kd.R_alloc | apply Kd.R_drewN | apply Kd.R_drew)); exact (Kd.R_mono (Kd.R_far (p := ⟨gb353, 0, none⟩) (Kd.R_types HO_335000.out BK353.out (by decide)) (fun _ hk => hk.2) (.slice Ao120 t349.length co120)) (fun _ h_ => h_.1))) hb); have n3_ := Aside0.mk (Kd.R_below (by (with_reducible repeat (first | apply Kd.R_alloc | apply Kd.R_drewN | apply Kd.R_drew)); exact (Kd.R_mono (Kd.R_far (p := ⟨gb353, 0, none⟩) (Kd.R_types HO348.out BK353.out (by decide)) (fun _ hk => hk.2) (.slice Ao120 t349.length co120)) (fun _ h_ => h_.1))) hb); have n4_ := Aside0.mk (Kd.R_below (by (with_reducible repeat (first | apply Kd.R_alloc | apply Kd.R_drewN | apply Kd.R_drew)); exact (Kd.R_mono (Kd.R_far (p := ⟨gb353, 0, none⟩) (Kd.R_types HO351.out BK353.out (by decide)) (fun _ hk => hk.2) (.slice Ao120 t349.length co120)) (fun _ h_ => h_.1))) hb); have n5_ := Aside0.mk (blk_below (g := gb316) (o := .cells #[.slice A0_0 l0_0.length c0_0] 24 (0, 0)) (zf BK316.out) hb); have n6_ := Aside0.mk (blk_below (g := gb325) (o := .cells #[.slice Ao22 t321.length co22] 28 (0, 0)) (zf BK325.out) hb); have n7_ := Aside0.mk (blk_below (g := gb329) (o := .cells #[.slice Ao28 t341.length co28] 28 (0, 0)) (zf BK329.out) hb); have n8_ := Aside0.mk (blk_below (g := gb334) (o := .cells #[.slice Ao34 t330.length co34] 28 (0, 0)) (zf BK334.out) hb); have n9_ := Aside0.mk (blk_below (g := gb353) (o := .cells #[.slice Ao120 t349.length co120] 28 (0, 0)) (by (with_reducible repeat (first | refine blk_drewN ?_ _ | refine blk_drew ?_ | refine blk_alloc ?_ _)); refine blk_put (cs := #[.slice none 0 0]) ?_ 0 _ rfl; (with_reducible repeat (first | refine blk_drewN ?_ _ | refine blk_drew ?_ | refine blk_alloc ?_ _)); exact BK353.out) hb); have n10_ := Aside0.mk (below_step (zb HB.out) hb); clear HO_326000; clear HO_330000; clear HO_335000; clear HO348; clear HO351; clear BK316; clear BK325; clear BK329; clear BK334; clear BK353; clear HB; have HO_326000 := n0_; have HO_330000 := n1_; have HO_335000 := n2_; have HO348 := n3_; have HO351 := n4_; have BK316 := n5_; have BK325 := n6_; have BK329 := n7_; have BK334 := n8_; have BK353 := n9_; have HB := n10_; clear n0_ n1_ n2_ n3_ n4_ n5_ n6_ n7_ n8_ n9_ n10_; (try clear hb); (try clear hb2); (try clear hk); (try clear hi)))
             go_meet
             case rel => exact ⟨_, (true), (by first | rfl | (simp; done) | (simp [*]; done)), H', ⟨by have := HJ12.out; have := HJ61.out; first | omega | exact Nat.le_refl _⟩, ⟨by (try simp only [hl330000_61]); (with_reducible repeat (first | apply Kd.R_alloc | apply Kd.R_drewN | apply Kd.R_drew)); exact Kd.R_mono HO_326000.out (fun _ hk => ⟨hk.1.1.1, ⟨hk.1.1.2, hk.2⟩⟩)⟩, ⟨by (try simp only [hl330000_61]); (with_reducible repeat (first | apply Kd.R_alloc | apply Kd.R_drewN | apply Kd.R_drew)); exact Kd.R_mono HO_330000.out (fun _ hk => ⟨hk.1.1.1, ⟨hk.1.1.2, hk.2⟩⟩)⟩, ⟨by (try simp only [hl330000_61]); (with_reducible repeat (first | apply Kd.R_alloc | apply Kd.R_drewN | apply Kd.R_drew)); exact Kd.R_mono HO_335000.out (fun _ hk => ⟨hk.1.1.1, ⟨hk.1.1.2, hk.2⟩⟩)⟩, ⟨by (try simp only [hl330000_61]); (with_reducible repeat (first | apply Kd.R_alloc | apply Kd.R_drewN | apply Kd.R_drew)); exact Kd.R_mono HO351.out (fun _ hk => ⟨hk.1.1.1.2, ⟨hk.1.1.2, hk.1.2⟩⟩)⟩, ⟨by (try simp only [hl330000_61]); (with_reducible repeat (first | refine blk_drewN ?_ _ | refine blk_drew ?_ | refine blk_alloc ?_ _)); exact BK316.out⟩, ⟨by (try simp only [hl330000_61]); (with_reducible repeat (first | refine blk_drewN ?_ _ | refine blk_drew ?_ | refine blk_alloc ?_ _)); exact BK325.out⟩, ⟨by (try simp only [hl330000_61]); (with_reducible repeat (first | refine blk_drewN ?_ _ | refine blk_drew ?_ | refine blk_alloc ?_ _)); exact BK329.out⟩, ⟨by (try simp only [hl330000_61]); (with_reducible repeat (first | refine blk_drewN ?_ _ | refine blk_drew ?_ | refine blk_alloc ?_ _)); exact BK334.out⟩, ⟨by (try simp only [hl330000_61]); (with_reducible repeat (first | refine blk_drewN ?_ _ | refine blk_drew ?_ | refine blk_alloc ?_ _)); exact BK353.out⟩, ⟨zb HB.out⟩⟩
           case rest =>
            clear HC105
            try clear c1
            try clear c2
            try clear p2
            try clear c3
            try clear c4
            try clear c5
            try clear c5b0
            try clear c6
            try clear c7
            try clear c8
            try clear c9
            try clear c10
            try clear c11
            try clear c12
            try clear c13
            try clear c14
            try clear c15
            try clear c17
            try clear c18
            try clear c19
            try clear c22
            try clear c23
            try clear c29
            try clear c30
            try clear c35
            try clear c36
            try clear c37
            try clear c40
            try clear c41
            try clear c42
            try clear c43
            try clear c45
            try clear c46
            try clear c49
            try clear c50
            try clear c51
            try clear c53
            try clear c54
            try clear c57
            try clear c60
            try clear c67
            try clear c68
            try clear c69
            try clear c72
            try clear c72b0
            try clear c74
            try clear c75
            try clear c76
            try clear c77
            try clear c79
            try clear c80
            try clear c83
            try clear c84
            try clear c85
            try clear c87
            try clear c88
            try clear c91
            try clear c94
            try clear c94b0
            try clear c95
            try clear c96
            try clear c97
            try clear c102
            try clear c102b0
            try clear c102b1
            try clear c106
            try clear c107
            try clear c108
            try clear c113
            try clear c114
            try clear c121
            try clear c122
            try clear c123
            try clear c124
            try clear c127
            try clear c128
            try clear c129
            try clear c130
            try clear c131
            try clear c133
            try clear c134
            try clear c135
            try clear c138
            try clear c139
            try clear c140
            try clear c141
            try clear c143
            try clear c144
            try clear c145
            try clear hcz100_0
            try clear hcz109_0
            try clear hcz111_0
            try clear hcz115_0
            try clear hcz125_0
            try clear hcz132_0
            try clear hcz136_0
            try clear hcz142_0
            try clear hcz146_0
            try clear hcz15_0
            try clear hcz17_0
            try clear hcz24_0
            try clear hcz25_0
            try clear hcz31_0
            try clear hcz38_0
            try clear hcz44_0
            try clear hcz47_0
            try clear hcz52_0
            try clear hcz55_0
            try clear hcz70_0
            try clear hcz78_0
            try clear hcz7_0
            try clear hcz81_0
            try clear hcz86_0
            try clear hcz89_0
            try clear hcz98_0
            try clear hfz100_0
            try clear hfz109_0
            try clear hfz111_0
            try clear hfz115_0
            try clear hfz125_0
            try clear hfz132_0
            try clear hfz136_0
            try clear hfz142_0
            try clear hfz146_0
            try clear hfz15_0
            try clear hfz17_0
            try clear hfz24_0
            try clear hfz25_0
            try clear hfz31_0
            try clear hfz38_0
            try clear hfz44_0
            try clear hfz47_0
            try clear hfz52_0
            try clear hfz55_0
            try clear hfz70_0
            try clear hfz78_0
            try clear hfz7_0
            try clear hfz81_0
            try clear hfz86_0
            try clear hfz89_0
            try clear hfz98_0
            try clear p2
            obtain ⟨kq, x97_104, rfl, HA, HJ104, HO_326000, HO_330000, HO_335000, HO_354000, BK316, BK325, BK329, BK334, BK353, HB⟩ := hcut
            have hl335000_104 := (Kd.R_reads' HO_335000.out).1
            rw [hl335000_104] at HO_335000
            (try simp only [hl335000_104])
            (try simp only [hl335000_104] at BK316)
            (try simp only [hl335000_104] at BK325)
            (try simp only [hl335000_104] at BK329)
            (try simp only [hl335000_104] at BK334)
            (try simp only [hl335000_104] at BK353)
            (try simp only [hl335000_104] at HO_326000)
            (try simp only [hl335000_104] at HO_330000)
            (try simp only [hl335000_104] at HO_354000)
            cases kq with
            | zero => exact absurd HA.out (by simp [laws_FnExactMakePair.j2])
            | succ kj104 =>
             have H := HA.out
             clear HA
             simp only [laws_FnExactMakePair.j2] at H
             by_cases c148 : x97_104 = true
             ·subst c148
              have H1 : (some false) = some r := by rw [if_pos rfl] at H; exact H
              clear H
              have H := H1
              clear H1
              obtain rfl := Option.some.inj H
              go_wp2
              go_ret
              exact ⟨ze, zb HB.out⟩
             ·replace c148 := Bool.eq_false_iff.mpr c148
              subst c148
              have H1 : ((laws_heldPool.f kj104 t344 1).bind fun t355 => (if t355 < 0 then (some false) else (if t355 = t343 then (some true) else (some false)))) = some r := by rw [if_neg (show ¬ (false = true) by decide)] at H; exact H
              clear H
              have H := H1
              clear H1
              replace H := Option.bind_eq_some_iff.mp H
              obtain ⟨t355, A1490, H⟩ := H
              replace H : (if t355 < 0 then (some false) else (if t355 = t343 then (some true) else (some false))) = some r := H
              have A149 := Aside0.mk A1490
              clear A1490
              by_cases c150 : t355 < 0
              ·rw [if_pos c150] at H
               have c150b0 : decide (t355 < 0) = true := decide_eq_true c150
               clear c150
               obtain rfl := Option.some.inj H
               have hnb151 := NB334_316.out
               have hnc151 := NB316_334.out
               have hnb152 := NB334_325.out
               have hnc152 := NB325_334.out
               have hnb153 := NB334_329.out
               have hnc153 := NB329_334.out
               have hnb154 := NB334_353.out
               have hnc154 := NB353_334.out
               have hcz155_0 : wc.cell? ⟨gb334, 0, none⟩ = some (.slice Ao34 t344.length co34) := (blk_cell BK334.out 0).trans rfl
               have hfz155_0 := blk_frozen BK334.out 0
               go_wp2_with (first | ((with_reducible refine gate_callee (f := 19) rfl ?_); refine goesL_ (some 100) rfl rfl Try.func19 (by kernel_rfl) rfl #[.agg #[.slice Ao34 t344.length co34], .int .i64 1] rfl zl ?_; (with_reducible refine (laws_heldPool.calls kj104 _ _ t344 1 t355 _ ?side1 ?side2 A149.out).mono ?_); (case side1 => exact zc (Kd.R_reads' HO_335000.out).2.2); (case side2 => exact (Kd.R_reads' HO_335000.out).2.1); rintro e w156 ⟨rfl, hb⟩; refine ⟨_, rfl, ?_⟩; have n0_ := Aside0.mk (Kd.R_below (zr HO_326000.out) hb); have n1_ := Aside0.mk (Kd.R_below (zr HO_330000.out) hb); have n2_ := Aside0.mk (Kd.R_below (zr HO_335000.out) hb); have n3_ := Aside0.mk (Kd.R_below (zr HO_354000.out) hb); have n4_ := Aside0.mk (blk_below (zh BK316.out) hb); have n5_ := Aside0.mk (blk_below (zh BK325.out) hb); have n6_ := Aside0.mk (blk_below (zh BK329.out) hb); have n7_ := Aside0.mk (blk_below (zh BK334.out) hb); have n8_ := Aside0.mk (blk_below (zh BK353.out) hb); have n9_ := Aside0.mk (below_step (zb HB.out) hb); clear HO_326000; clear HO_330000; clear HO_335000; clear HO_354000; clear BK316; clear BK325; clear BK329; clear BK334; clear BK353; clear HB; have HO_326000 := n0_; have HO_330000 := n1_; have HO_335000 := n2_; have HO_354000 := n3_; have BK316 := n4_; have BK325 := n5_; have BK329 := n6_; have BK334 := n7_; have BK353 := n8_; have HB := n9_; clear n0_ n1_ n2_ n3_ n4_ n5_ n6_ n7_ n8_ n9_; (try clear hb); (try clear hb2); (try clear hk); (try clear hi)))
               go_ret
               exact ⟨ze, zb HB.out⟩
              ·rw [if_neg c150] at H
               have c150b0 : decide (t355 < 0) = false := decide_eq_false c150
               clear c150
               by_cases c157 : t355 = t343
               ·rw [if_pos c157] at H
                have c157b0 : (t355 == t343) = true := beq_iff_eq.mpr c157
                have c157b1 : (t355 != t343) = false := bne_eq_false_iff_eq.mpr c157
                clear c157
                obtain rfl := Option.some.inj H
                have hnb158 := NB334_316.out
                have hnc158 := NB316_334.out
                have hnb159 := NB334_325.out
                have hnc159 := NB325_334.out
                have hnb160 := NB334_329.out
                have hnc160 := NB329_334.out
                have hnb161 := NB334_353.out
                have hnc161 := NB353_334.out
                have hcz162_0 : wc.cell? ⟨gb334, 0, none⟩ = some (.slice Ao34 t344.length co34) := (blk_cell BK334.out 0).trans rfl
                have hfz162_0 := blk_frozen BK334.out 0
                go_wp2_with (first | ((with_reducible refine gate_callee (f := 19) rfl ?_); refine goesL_ (some 100) rfl rfl Try.func19 (by kernel_rfl) rfl #[.agg #[.slice Ao34 t344.length co34], .int .i64 1] rfl zl ?_; (with_reducible refine (laws_heldPool.calls kj104 _ _ t344 1 t355 _ ?side1 ?side2 A149.out).mono ?_); (case side1 => exact zc (Kd.R_reads' HO_335000.out).2.2); (case side2 => exact (Kd.R_reads' HO_335000.out).2.1); rintro e w163 ⟨rfl, hb⟩; refine ⟨_, rfl, ?_⟩; have n0_ := Aside0.mk (Kd.R_below (zr HO_326000.out) hb); have n1_ := Aside0.mk (Kd.R_below (zr HO_330000.out) hb); have n2_ := Aside0.mk (Kd.R_below (zr HO_335000.out) hb); have n3_ := Aside0.mk (Kd.R_below (zr HO_354000.out) hb); have n4_ := Aside0.mk (blk_below (zh BK316.out) hb); have n5_ := Aside0.mk (blk_below (zh BK325.out) hb); have n6_ := Aside0.mk (blk_below (zh BK329.out) hb); have n7_ := Aside0.mk (blk_below (zh BK334.out) hb); have n8_ := Aside0.mk (blk_below (zh BK353.out) hb); have n9_ := Aside0.mk (below_step (zb HB.out) hb); clear HO_326000; clear HO_330000; clear HO_335000; clear HO_354000; clear BK316; clear BK325; clear BK329; clear BK334; clear BK353; clear HB; have HO_326000 := n0_; have HO_330000 := n1_; have HO_335000 := n2_; have HO_354000 := n3_; have BK316 := n4_; have BK325 := n5_; have BK329 := n6_; have BK334 := n7_; have BK353 := n8_; have HB := n9_; clear n0_ n1_ n2_ n3_ n4_ n5_ n6_ n7_ n8_ n9_; (try clear hb); (try clear hb2); (try clear hk); (try clear hi)))
                go_ret
                exact ⟨ze, zb HB.out⟩
               ·rw [if_neg c157] at H
                have c157b0 : (t355 == t343) = false := beq_eq_false_iff_ne.mpr c157
                have c157b1 : (t355 != t343) = true := bne_iff_ne.mpr c157
                obtain rfl := Option.some.inj H
                have hnb164 := NB334_316.out
                have hnc164 := NB316_334.out
                have hnb165 := NB334_325.out
                have hnc165 := NB325_334.out
                have hnb166 := NB334_329.out
                have hnc166 := NB329_334.out
                have hnb167 := NB334_353.out
                have hnc167 := NB353_334.out
                have hcz168_0 : wc.cell? ⟨gb334, 0, none⟩ = some (.slice Ao34 t344.length co34) := (blk_cell BK334.out 0).trans rfl
                have hfz168_0 := blk_frozen BK334.out 0
                go_wp2_with (first | ((with_reducible refine gate_callee (f := 19) rfl ?_); refine goesL_ (some 100) rfl rfl Try.func19 (by kernel_rfl) rfl #[.agg #[.slice Ao34 t344.length co34], .int .i64 1] rfl zl ?_; (with_reducible refine (laws_heldPool.calls kj104 _ _ t344 1 t355 _ ?side1 ?side2 A149.out).mono ?_); (case side1 => exact zc (Kd.R_reads' HO_335000.out).2.2); (case side2 => exact (Kd.R_reads' HO_335000.out).2.1); rintro e w169 ⟨rfl, hb⟩; refine ⟨_, rfl, ?_⟩; have n0_ := Aside0.mk (Kd.R_below (zr HO_326000.out) hb); have n1_ := Aside0.mk (Kd.R_below (zr HO_330000.out) hb); have n2_ := Aside0.mk (Kd.R_below (zr HO_335000.out) hb); have n3_ := Aside0.mk (Kd.R_below (zr HO_354000.out) hb); have n4_ := Aside0.mk (blk_below (zh BK316.out) hb); have n5_ := Aside0.mk (blk_below (zh BK325.out) hb); have n6_ := Aside0.mk (blk_below (zh BK329.out) hb); have n7_ := Aside0.mk (blk_below (zh BK334.out) hb); have n8_ := Aside0.mk (blk_below (zh BK353.out) hb); have n9_ := Aside0.mk (below_step (zb HB.out) hb); clear HO_326000; clear HO_330000; clear HO_335000; clear HO_354000; clear BK316; clear BK325; clear BK329; clear BK334; clear BK353; clear HB; have HO_326000 := n0_; have HO_330000 := n1_; have HO_335000 := n2_; have HO_354000 := n3_; have BK316 := n4_; have BK325 := n5_; have BK329 := n6_; have BK334 := n7_; have BK353 := n8_; have HB := n9_; clear n0_ n1_ n2_ n3_ n4_ n5_ n6_ n7_ n8_ n9_; (try clear hb); (try clear hb2); (try clear hk); (try clear hi)))
                go_ret
                exact ⟨ze, zb HB.out⟩
          ·rw [if_neg c102] at H
           have c102b0 : (t345 == t343) = false := beq_eq_false_iff_ne.mpr c102
           have c102b1 : (t345 != t343) = true := bne_iff_ne.mpr c102
           obtain rfl := Option.some.inj H
           have hnb170 := NB334_316.out
           have hnc170 := NB316_334.out
           have hnb171 := NB334_325.out
           have hnc171 := NB325_334.out
           have hnb172 := NB334_329.out
           have hnc172 := NB329_334.out
           have hcz173_0 : wc.cell? ⟨gb334, 0, none⟩ = some (.slice Ao34 t330.length co34) := (blk_cell BK334.out 0).trans rfl
           have hfz173_0 := blk_frozen BK334.out 0
           go_wp2_with (first | ((with_reducible refine gate_callee (f := 18) rfl ?_); refine goesL_ (some 72) rfl rfl Try.func18 (by kernel_rfl) rfl #[.agg #[.slice Ao34 t330.length co34], .int .i64 1] rfl zl ?_; (with_reducible refine (laws_markPool.calls kj61 (fun k_ => some k_ = (.slice Ao34 t330.length co34 : Value).ownBlock) (.slice Ao34 t330.length co34) t330 1 t343 t344 w _ ?side1 ?side2 A92.out).mono ?_); (case side1 => repeat (first | (with_reducible first | exact HB.out | apply below_alloc | apply pw_below_drewN | apply below_drew1 | refine below_set ?_ GE316.out | refine below_set ?_ GE325.out | refine below_set ?_ GE329.out | refine below_set ?_ GE334.out) | exact HB.out)); (case side2 => exact Kd.R_tight rfl HO_335000.out); rintro e w174 ⟨rfl, hy0, hb, hkp⟩; refine ⟨_, rfl, ?_⟩; have n0_ := Aside0.mk (Kd.R_mono (ok' := fun k_ => some k_ ≠ (.slice Ao28 t341.length co28 : Value).ownBlock ∧ some k_ ≠ (.slice Ao34 t330.length co34 : Value).ownBlock) (Kd.R_keptB (HO_326000.out) hkp (fun k_ hk_ hs_ => by first | exact (hk_.2) hs_ | (revert hk_; simp only [and_imp]; intros; exact absurd hs_ (by assumption)))) (fun k_ hk_ => by first | exact ⟨hk_.1.1, hk_.1.2⟩ | (revert hk_; simp only [and_imp]; intros; and_intros <;> assumption))); have n1_ := Aside0.mk (Kd.R_mono (ok' := fun k_ => some k_ ≠ (.slice Ao22 t321.length co22 : Value).ownBlock ∧ some k_ ≠ (.slice Ao34 t330.length co34 : Value).ownBlock) (Kd.R_keptB (HO_330000.out) hkp (fun k_ hk_ hs_ => by first | exact (hk_.2) hs_ | (revert hk_; simp only [and_imp]; intros; exact absurd hs_ (by assumption)))) (fun k_ hk_ => by first | exact ⟨hk_.1.1, hk_.1.2⟩ | (revert hk_; simp only [and_imp]; intros; and_intros <;> assumption))); have n2_ := Aside0.mk (Kd.R_reok rfl hy0 (fun k_ e_ => HO_335000.out.1 k_ e_)); have n3_ := Aside0.mk (blk_kept (zh BK316.out) hkp (fun hs_ => (fun e_ => (Kd.R_ne HO_335000.out BK316.out (by decide)) e_) hs_)); have n4_ := Aside0.mk (blk_kept (zh BK325.out) hkp (fun hs_ => (fun e_ => (Kd.R_ne HO_335000.out BK325.out (by decide)) e_) hs_)); have n5_ := Aside0.mk (blk_kept (zh BK329.out) hkp (fun hs_ => (fun e_ => (Kd.R_ne HO_335000.out BK329.out (by decide)) e_) hs_)); have n6_ := Aside0.mk (blk_kept (zh BK334.out) hkp (fun hs_ => (fun e_ => (Kd.R_ne HO_335000.out BK334.out (by decide)) e_) hs_)); have n7_ := Aside0.mk (hb); clear HO_326000; clear HO_330000; clear HO_335000; clear BK316; clear BK325; clear BK329; clear BK334; clear HB; have HO_326000 := n0_; have HO_330000 := n1_; have HO_335000 := n2_; have BK316 := n3_; have BK325 := n4_; have BK329 := n5_; have BK334 := n6_; have HB := n7_; clear n0_ n1_ n2_ n3_ n4_ n5_ n6_ n7_; (try clear hb); (try clear hkp); (try clear hy0); have hcz175_0 : w174.cell? ⟨gb334, 0, none⟩ = some (.slice Ao34 t330.length co34) := (blk_cell BK334.out 0).trans rfl; have hfz175_0 := blk_frozen BK334.out 0) | ((with_reducible refine gate_callee (f := 19) rfl ?_); refine goesL_ (some 75) rfl rfl Try.func19 (by kernel_rfl) rfl #[.agg #[.slice Ao34 t344.length co34], .int .i64 1] rfl (by (try simp only [List.map_toArray, List.map_cons, List.map_nil]); first | done | (rw [show t344.length = t330.length from (Kd.R_reads' HO_335000.out).1.symm] <;> rfl) | rfl | (simp only [List.length_drop, List.length_take]; rfl)) ?_; (with_reducible refine (laws_heldPool.calls kj61 _ _ t344 1 t345 _ ?side1 ?side2 A93.out).mono ?_); (case side1 => exact zc (Kd.R_reads' HO_335000.out).2.2); (case side2 => rw [show t344.length = t330.length from (Kd.R_reads' HO_335000.out).1.symm]; exact (Kd.R_reads' HO_335000.out).2.1); rintro e w176 ⟨rfl, hb⟩; refine ⟨_, rfl, ?_⟩; have n0_ := Aside0.mk (Kd.R_below (zr HO_326000.out) hb); have n1_ := Aside0.mk (Kd.R_below (zr HO_330000.out) hb); have n2_ := Aside0.mk (Kd.R_below (zr HO_335000.out) hb); have n3_ := Aside0.mk (blk_below (zh BK316.out) hb); have n4_ := Aside0.mk (blk_below (zh BK325.out) hb); have n5_ := Aside0.mk (blk_below (zh BK329.out) hb); have n6_ := Aside0.mk (blk_below (zh BK334.out) hb); have n7_ := Aside0.mk (below_step (zb HB.out) hb); clear HO_326000; clear HO_330000; clear HO_335000; clear BK316; clear BK325; clear BK329; clear BK334; clear HB; have HO_326000 := n0_; have HO_330000 := n1_; have HO_335000 := n2_; have BK316 := n3_; have BK325 := n4_; have BK329 := n5_; have BK334 := n6_; have HB := n7_; clear n0_ n1_ n2_ n3_ n4_ n5_ n6_ n7_; (try clear hb); (try clear hb2); (try clear hk); (try clear hi)))
           go_ret
           exact ⟨ze, zb HB.out⟩
     ·replace c60 := Bool.eq_false_iff.mpr c60
      subst c60
      have H1 : (some false) = some r := by rw [if_neg (show ¬ (false = true) by decide)] at H; exact H
      clear H
      have H := H1
      clear H1
      obtain rfl := Option.some.inj H
      try go_wp2
      have n0_ := Aside0.mk (Kd.R_drew HO_326000.out)
      have n1_ := Aside0.mk (Kd.R_drew HO_330000.out)
      have n2_ := Aside0.mk (Kd.R_drew HO_335000.out)
      have n3_ := Aside0.mk (blk_drew BK316.out)
      have n4_ := Aside0.mk (blk_drew BK325.out)
      have n5_ := Aside0.mk (blk_drew BK329.out)
      have n6_ := Aside0.mk (blk_drew BK334.out)
      have n7_ := Aside0.mk (below_drew1 HB.out)
      clear HO_326000
      clear HO_330000
      clear HO_335000
      clear BK316
      clear BK325
      clear BK329
      clear BK334
      clear HB
      have HO_326000 := n0_
      have HO_330000 := n1_
      have HO_335000 := n2_
      have BK316 := n3_
      have BK325 := n4_
      have BK329 := n5_
      have BK334 := n6_
      have HB := n7_
      clear n0_ n1_ n2_ n3_ n4_ n5_ n6_ n7_
      refine start_ (n := 5) (S := fun w' => w'.cell? ⟨gb329, 0, none⟩ = some (.slice Ao28 t326.length co28) ∧ w'.cell? ⟨gb316, 0, none⟩ = some (.slice A0_0 l0_0.length c0_0)) (ds := []) #[false, false, false, false, false] (by kernel_rfl) rfl rfl ⟨(blk_cell BK329.out 0).trans rfl, (blk_cell BK316.out 0).trans rfl⟩ (fun hHeld => ?_)
      generalize wc.drew = w177 at HO_326000 HO_330000 HO_335000 BK316 BK325 BK329 BK334 HB hHeld ⊢
      refine take_ (i := 0) (N := some 49) (v := ?_) (a' := ?_) #[true, false, false, false, false] rfl rfl (by kernel_rfl) (fun _ _ _ h => h) (Or.inl ⟨by rfl, ?_⟩) hHeld ?_ ?_
      rotate_left
      ·rintro w' ⟨s0, s1⟩
       go_simp
       with_reducible rfl
      rotate_left
      ·simp only [Act.put, List.setIfInBounds_toArray, List.set_cons_zero, List.set_cons_succ, i64_w, i32_w]
       rfl
      refine take_ (i := 1) (N := some 50) (v := ?_) (a' := ?_) #[true, true, false, false, false] rfl rfl (by kernel_rfl) (fun _ _ _ h => h) (Or.inl ⟨by rfl, ?_⟩) hHeld ?_ ?_
      rotate_left
      ·rintro w' ⟨s0, s1⟩
       go_simp
       with_reducible rfl
      rotate_left
      ·simp only [Act.put, List.setIfInBounds_toArray, List.set_cons_zero, List.set_cons_succ, i64_w, i32_w]
       rfl
      refine one_ (i := 2) (N := some 51) #[true, true, true, false, false] rfl rfl (by kernel_rfl) (by decide) (fun K hK => ?_)
      refine goes_ Try.func15 (by kernel_rfl) rfl #[.agg #[.slice A0_0 l0_0.length c0_0]] (by rfl) rfl rfl zl ?_
      with_reducible refine (laws_toPool.calls kj12 _ _ l0_0 t336 _ ?side1 ?side2 A58.out).mono ?_
      (case side1 => exact zc (Kd.C_below HR0_0.out HB.out))
      (case side2 => exact HC0_0.out)
      rintro e w178 ⟨v337, rfl, ho0, hb⟩
      refine ⟨_, rfl, ?_⟩
      have n0_ := Aside0.mk (Kd.R_elder' (zr HO_326000.out) (Kd.R_base ho0) hb)
      have n1_ := Aside0.mk (Kd.R_elder' (zr HO_330000.out) (Kd.R_base ho0) hb)
      have n2_ := Aside0.mk (Kd.R_elder' (zr HO_335000.out) (Kd.R_base ho0) hb)
      have n3_ := Aside0.mk (Kd.R_lower (Kd.R_new' (Kd.R_new' (Kd.R_new' ho0 (Kd.R_lt (zr HO_326000.out))) (Kd.R_lt (zr HO_330000.out))) (Kd.R_lt (zr HO_335000.out))) (below_size (zb HB.out)))
      have n4_ := Aside0.mk (blk_below (zh BK316.out) hb)
      have n5_ := Aside0.mk (blk_below (zh BK325.out) hb)
      have n6_ := Aside0.mk (blk_below (zh BK329.out) hb)
      have n7_ := Aside0.mk (blk_below (zh BK334.out) hb)
      have n8_ := Aside0.mk (below_step (zb HB.out) hb)
      clear HO_326000
      clear HO_330000
      clear HO_335000
      clear BK316
      clear BK325
      clear BK329
      clear BK334
      clear HB
      have HO_326000 := n0_
      have HO_330000 := n1_
      have HO_335000 := n2_
      have HO338 := n3_
      have BK316 := n4_
      have BK325 := n5_
      have BK329 := n6_
      have BK334 := n7_
      have HB := n8_
      clear n0_ n1_ n2_ n3_ n4_ n5_ n6_ n7_ n8_
      (try clear hb)
      (try clear hb2)
      (try clear hk)
      (try clear hi)
      (try clear ho0)
      obtain ⟨Ao179, co179, eo179⟩ := Kd.R_slice HO338.out
      (first | subst eo179 | (injection eo179 with f1_ f2_ f3_; have f4_ := f1_.symm; have f5_ := f3_.symm; clear f1_ f2_ f3_; subst f4_; subst f5_))
      refine hK.out _ _ ⟨(blk_cell BK329.out 0).trans rfl, (blk_cell BK316.out 0).trans rfl⟩ (fun hHeld => ?_)
      clear hK K
      refine norm_ (a' := ?_) ?_ ?_
      rotate_left
      ·show Act.put _ (some 51) _ = _
       simp only [Act.put, List.setIfInBounds_toArray, List.set_cons_zero, List.set_cons_succ, i64_w, i32_w]
       rfl
      refine one_ (i := 3) (N := some 52) #[true, true, true, true, false] rfl rfl (by kernel_rfl) (by decide) (fun K hK => ?_)
      refine goes_ Try.func17 (by kernel_rfl) rfl #[.agg #[.slice Ao28 t326.length co28], .agg #[.slice Ao179 t336.length co179]] (by rfl) rfl rfl zl ?_
      with_reducible refine (laws_eqPool.calls kj12 _ _ t326 _ _ t336 false _ ?side1 ?side2 ?side3 ?side4 A59.out).mono ?_
      (case side1 => exact zc (Kd.R_reads' HO_330000.out).2.2)
      (case side2 => exact (Kd.R_reads' HO_330000.out).2.1)
      (case side3 => exact zc (Kd.R_reads' HO338.out).2.2)
      (case side4 => exact (Kd.R_reads' HO338.out).2.1)
      rintro e w180 ⟨rfl, hb⟩
      refine ⟨_, rfl, ?_⟩
      have n0_ := Aside0.mk (Kd.R_below (zr HO_326000.out) hb)
      have n1_ := Aside0.mk (Kd.R_below (zr HO_330000.out) hb)
      have n2_ := Aside0.mk (Kd.R_below (zr HO_335000.out) hb)
      have n3_ := Aside0.mk (Kd.R_below (zr HO338.out) hb)
      have n4_ := Aside0.mk (blk_below (zh BK316.out) hb)
      have n5_ := Aside0.mk (blk_below (zh BK325.out) hb)
      have n6_ := Aside0.mk (blk_below (zh BK329.out) hb)
      have n7_ := Aside0.mk (blk_below (zh BK334.out) hb)
      have n8_ := Aside0.mk (below_step (zb HB.out) hb)
      clear HO_326000
      clear HO_330000
      clear HO_335000
      clear HO338
      clear BK316
      clear BK325
      clear BK329
      clear BK334
      clear HB
      have HO_326000 := n0_
      have HO_330000 := n1_
      have HO_335000 := n2_
      have HO338 := n3_
      have BK316 := n4_
      have BK325 := n5_
      have BK329 := n6_
      have BK334 := n7_
      have HB := n8_
      clear n0_ n1_ n2_ n3_ n4_ n5_ n6_ n7_ n8_
      (try clear hb)
      (try clear hb2)
      (try clear hk)
      (try clear hi)
      refine hK.out _ _ ⟨(blk_cell BK329.out 0).trans rfl, (blk_cell BK316.out 0).trans rfl⟩ (fun hHeld => ?_)
      clear hK K
      refine norm_ (a' := ?_) ?_ ?_
      rotate_left
      ·show Act.put _ (some 52) _ = _
       simp only [Act.put, List.setIfInBounds_toArray, List.set_cons_zero, List.set_cons_succ, i64_w, i32_w]
       rfl
      refine pure_ (i := 4) (N := some 53) (v := ?_) (a' := ?_) #[true, true, true, true, true] rfl rfl (by kernel_rfl) (fun _ _ _ h => h) (Or.inl ⟨by rfl, ?_⟩) ?_ ?_
      rotate_left
      ·intro w'
       go_simp
       with_reducible rfl
      rotate_left
      ·simp only [Act.put, List.setIfInBounds_toArray, List.set_cons_zero, List.set_cons_succ, i64_w, i32_w]
       rfl
      refine done_ (by kernel_rfl) ?_
      try go_wp2
      go_ret
      exact ⟨ze, zb HB.out⟩

end Go.Proofs.Ytpgaifjneedjoaa.B
