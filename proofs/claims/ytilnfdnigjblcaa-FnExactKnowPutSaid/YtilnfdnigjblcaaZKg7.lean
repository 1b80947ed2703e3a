import Derived.Test.YtilnfdnigjblcaaZK0
import Derived.Test.YtilnfdnigjblcaaZKg0
import Derived.Test.YtilnfdnigjblcaaZKg3
import Derived.Test.YtilnfdnigjblcaaZKg5
import Derived.Test.YtilnfdnigjblcaaZKg6
section
-- Written by this session's program (wip/tools/gprint.py over the kit's print) out of the translation; Lean checks it.
namespace Go.Proofs.Ytilnfdnigjblcaa.K
open Go.RowKit Go.Proofs.YtilnfdnigjblcaaW.PrintWords Go.Proofs.YtilnfdnigjblcaaW.PrintLast Go.Proofs.YtilnfdnigjblcaaW.PrintMore
attribute [local go_sem] max2_int min2_int max_two min_two max_three min_three max_four min_four   -- for this text's walks alone
set_option linter.unusedVariables false
set_option linter.unusedSimpArgs false
set_option maxRecDepth 100000

/-! ### laws_FnExactKnowPut: function 3 -/
mutual
def laws_FnExactKnowPut.j0 : Nat → List Int → Int → List Int → Bool → List Int → List Int → Bool → Bool → List (S70) → List (S67) → Option (Bool)
 | 0, _, _, _, _, _, _, _, _, _, _ => none
 | k + 1, x1, x2, x8, x9, x11, x12, x13, x55, x251000, x266000 => if x55 = true then (some false) else ((laws_toPool.f k x251000).bind fun t274 => ((laws_eqPool.f k x266000 t274).bind fun t277 => (if t277 = true then ((laws_toIntS.f k x1).bind fun t278 => ((laws_eqIntS.f k x11 t278).bind fun t281 => (if t281 = true then ((laws_markPool.f k x266000 1).bind fun bt282 => ((laws_markIntS.f k x11 bt282.1).bind fun bt284 => (if bt284.1 < 0 then (laws_FnExactKnowPut.j1 k x1 x2 x8 x9 x12 true x251000) else ((laws_eqIntS.f k x12 x8).bind fun t286 => (if t286 = true then (laws_FnExactKnowPut.j1 k x1 x2 x8 x9 x12 (x13 != x9) x251000) else (laws_FnExactKnowPut.j1 k x1 x2 x8 x9 x12 true x251000)))))) else (some false)))) else (some false))))
def laws_FnExactKnowPut.j1 : Nat → List Int → Int → List Int → Bool → List Int → Bool → List (S70) → Option (Bool)
 | 0, _, _, _, _, _, _, _ => none
 | k + 1, x1, x2, x8, x9, x12, x84, x251000 => if x84 = true then (some false) else ((laws_markIntS.f k x12 1).bind fun bt287 => ((laws_heldIntS.f k bt287.2 1).bind fun t289 => (if t289 < 0 then (some false) else (if t289 = bt287.1 then ((laws_toPool.f k x251000).bind fun t290 => ((laws_toIntS.f k x1).bind fun t293 => ((impl_KnowPut.f k t290 t293 x2).bind fun bt296 => ((laws_eqIntS.f k bt296.1 x8).bind fun t300 => (if t300 = true then (laws_FnExactKnowPut.j2 k bt287.2 bt287.1 (bt296.2 != x9)) else (laws_FnExactKnowPut.j2 k bt287.2 bt287.1 true)))))) else (some false)))))
def laws_FnExactKnowPut.j2 : Nat → List Int → Int → Bool → Option (Bool)
 | 0, _, _, _ => none
 | k + 1, x12, x15, x113 => if x113 = true then (some false) else ((laws_heldIntS.f k x12 1).bind fun t301 => (if t301 < 0 then (some false) else (if t301 = x15 then (some true) else (some false))))
end
def laws_FnExactKnowPut.f (k : Nat) (l0_0 : List (S70)) (l1 : List Int) (a2 : Int) : Option (Bool) := if (l1.length : Int) > 1048576 then (some true) else ((laws_szPool.f l0_0 1048576).bind fun t251 => (if t251 < 0 then (some true) else ((laws_toPool.f k l0_0).bind fun t252 => ((laws_toIntS.f k l1).bind fun t255 => ((spec_KnowPut.f k t252 t255 a2).bind fun bt258 => ((laws_toPool.f k l0_0).bind fun t262 => ((laws_toIntS.f k l1).bind fun t266 => ((impl_KnowPut.f k t262 t266 a2).bind fun bt269 => ((laws_eqIntS.f k bt269.1 bt258.1).bind fun t273 => (if t273 = true then (laws_FnExactKnowPut.j0 k l1 a2 bt258.1 bt258.2 t266 bt269.1 bt269.2 (bt269.2 != bt258.2) l0_0 t262) else (laws_FnExactKnowPut.j0 k l1 a2 bt258.1 bt258.2 t266 bt269.1 bt269.2 true l0_0 t262)))))))))))
theorem laws_FnExactKnowPut.mono_l : ∀ k, (∀ y0 y1 y2 y3 y4 y5 y6 y7 y8 y9, LeO (laws_FnExactKnowPut.j0 k y0 y1 y2 y3 y4 y5 y6 y7 y8 y9) (laws_FnExactKnowPut.j0 (k + 1) y0 y1 y2 y3 y4 y5 y6 y7 y8 y9)) ∧ (∀ y0 y1 y2 y3 y4 y5 y6, LeO (laws_FnExactKnowPut.j1 k y0 y1 y2 y3 y4 y5 y6) (laws_FnExactKnowPut.j1 (k + 1) y0 y1 y2 y3 y4 y5 y6)) ∧ (∀ y0 y1 y2, LeO (laws_FnExactKnowPut.j2 k y0 y1 y2) (laws_FnExactKnowPut.j2 (k + 1) y0 y1 y2))
 | 0 => ⟨fun _ _ _ _ _ _ _ _ _ _ r h => by simp [laws_FnExactKnowPut.j0] at h, fun _ _ _ _ _ _ _ r h => by simp [laws_FnExactKnowPut.j1] at h, fun _ _ _ r h => by simp [laws_FnExactKnowPut.j2] at h⟩
 | k + 1 => by
  obtain ⟨ih0, ih1, ih2⟩ := laws_FnExactKnowPut.mono_l k
  refine ⟨?_, ?_, ?_⟩
  ·intro y0 y1 y2 y3 y4 y5 y6 y7 y8 y9
   unfold laws_FnExactKnowPut.j0
   repeat' first
   | (with_reducible exact ih0 _ _ _ _ _ _ _ _ _ _)
   | (with_reducible exact ih1 _ _ _ _ _ _ _)
   | (with_reducible exact ih2 _ _ _)
   | (with_reducible exact impl_KnowPut.mono _ _ _ _)
   | (with_reducible exact laws_eqIntS.mono _ _ _)
   | (with_reducible exact laws_eqPool.mono _ _ _)
   | (with_reducible exact laws_heldIntS.mono _ _ _)
   | (with_reducible exact laws_markIntS.mono _ _ _)
   | (with_reducible exact laws_markPool.mono _ _ _)
   | (with_reducible exact laws_toIntS.mono _ _)
   | (with_reducible exact laws_toPool.mono _ _)
   | (with_reducible exact spec_KnowPut.mono _ _ _ _)
   | (with_reducible exact LeO.refl _)
   | (with_reducible exact LeO.none _)
   | (with_reducible refine LeO.ite ?_ ?_)
   | (with_reducible refine LeO.bind ?_ (fun _ => ?_))
   | exact ih0 _ _ _ _ _ _ _ _ _ _
   | exact ih1 _ _ _ _ _ _ _
   | exact ih2 _ _ _
   | exact impl_KnowPut.mono _ _ _ _
   | exact laws_eqIntS.mono _ _ _
   | exact laws_eqPool.mono _ _ _
   | exact laws_heldIntS.mono _ _ _
   | exact laws_markIntS.mono _ _ _
   | exact laws_markPool.mono _ _ _
   | exact laws_toIntS.mono _ _
   | exact laws_toPool.mono _ _
   | exact spec_KnowPut.mono _ _ _ _
   | exact LeO.none _
   | refine LeO.ite ?_ ?_
   | refine LeO.bind ?_ (fun _ => ?_)
  ·intro y0 y1 y2 y3 y4 y5 y6
   unfold laws_FnExactKnowPut.j1
   repeat' first
   | (with_reducible exact ih0 _ _ _ _ _ _ _ _ _ _)
   | (with_reducible exact ih1 _ _ _ _ _ _ _)
   | (with_reducible exact ih2 _ _ _)
   | (with_reducible exact impl_KnowPut.mono _ _ _ _)
   | (with_reducible exact laws_eqIntS.mono _ _ _)
   | (with_reducible exact laws_eqPool.mono _ _ _)
   | (with_reducible exact laws_heldIntS.mono _ _ _)
   | (with_reducible exact laws_markIntS.mono _ _ _)
   | (with_reducible exact laws_markPool.mono _ _ _)
   | (with_reducible exact laws_toIntS.mono _ _)
   | (with_reducible exact laws_toPool.mono _ _)
   | (with_reducible exact spec_KnowPut.mono _ _ _ _)
   | (with_reducible exact LeO.refl _)
   | (with_reducible exact LeO.none _)
   | (with_reducible refine LeO.ite ?_ ?_)
   | (with_reducible refine LeO.bind ?_ (fun _ => ?_))
   | exact ih0 _ _ _ _ _ _ _ _ _ _
   | exact ih1 _ _ _ _ _ _ _
   | exact ih2 _ _ _
   | exact impl_KnowPut.mono _ _ _ _
   | exact laws_eqIntS.mono _ _ _
   | exact laws_eqPool.mono _ _ _
   | exact laws_heldIntS.mono _ _ _
   | exact laws_markIntS.mono _ _ _
   | exact laws_markPool.mono _ _ _
   | exact laws_toIntS.mono _ _
   | exact laws_toPool.mono _ _
   | exact spec_KnowPut.mono _ _ _ _
   | exact LeO.none _
   | refine LeO.ite ?_ ?_
   | refine LeO.bind ?_ (fun _ => ?_)
  ·intro y0 y1 y2
   unfold laws_FnExactKnowPut.j2
   repeat' first
   | (with_reducible exact ih0 _ _ _ _ _ _ _ _ _ _)
   | (with_reducible exact ih1 _ _ _ _ _ _ _)
   | (with_reducible exact ih2 _ _ _)
   | (with_reducible exact impl_KnowPut.mono _ _ _ _)
   | (with_reducible exact laws_eqIntS.mono _ _ _)
   | (with_reducible exact laws_eqPool.mono _ _ _)
   | (with_reducible exact laws_heldIntS.mono _ _ _)
   | (with_reducible exact laws_markIntS.mono _ _ _)
   | (with_reducible exact laws_markPool.mono _ _ _)
   | (with_reducible exact laws_toIntS.mono _ _)
   | (with_reducible exact laws_toPool.mono _ _)
   | (with_reducible exact spec_KnowPut.mono _ _ _ _)
   | (with_reducible exact LeO.refl _)
   | (with_reducible exact LeO.none _)
   | (with_reducible refine LeO.ite ?_ ?_)
   | (with_reducible refine LeO.bind ?_ (fun _ => ?_))
   | exact ih0 _ _ _ _ _ _ _ _ _ _
   | exact ih1 _ _ _ _ _ _ _
   | exact ih2 _ _ _
   | exact impl_KnowPut.mono _ _ _ _
   | exact laws_eqIntS.mono _ _ _
   | exact laws_eqPool.mono _ _ _
   | exact laws_heldIntS.mono _ _ _
   | exact laws_markIntS.mono _ _ _
   | exact laws_markPool.mono _ _ _
   | exact laws_toIntS.mono _ _
   | exact laws_toPool.mono _ _
   | exact spec_KnowPut.mono _ _ _ _
   | exact LeO.none _
   | refine LeO.ite ?_ ?_
   | refine LeO.bind ?_ (fun _ => ?_)
theorem laws_FnExactKnowPut.mono : ∀ a0 a1 a2 k, LeO (laws_FnExactKnowPut.f k a0 a1 a2) (laws_FnExactKnowPut.f (k + 1) a0 a1 a2) := by
 intro a0 a1 a2 k
 obtain ⟨ih0, ih1, ih2⟩ := laws_FnExactKnowPut.mono_l k
 unfold laws_FnExactKnowPut.f
 repeat' first
   | (with_reducible exact ih0 _ _ _ _ _ _ _ _ _ _)
   | (with_reducible exact ih1 _ _ _ _ _ _ _)
   | (with_reducible exact ih2 _ _ _)
   | (with_reducible exact impl_KnowPut.mono _ _ _ _)
   | (with_reducible exact laws_eqIntS.mono _ _ _)
   | (with_reducible exact laws_eqPool.mono _ _ _)
   | (with_reducible exact laws_heldIntS.mono _ _ _)
   | (with_reducible exact laws_markIntS.mono _ _ _)
   | (with_reducible exact laws_markPool.mono _ _ _)
   | (with_reducible exact laws_toIntS.mono _ _)
   | (with_reducible exact laws_toPool.mono _ _)
   | (with_reducible exact spec_KnowPut.mono _ _ _ _)
   | (with_reducible exact LeO.refl _)
   | (with_reducible exact LeO.none _)
   | (with_reducible refine LeO.ite ?_ ?_)
   | (with_reducible refine LeO.bind ?_ (fun _ => ?_))
   | exact ih0 _ _ _ _ _ _ _ _ _ _
   | exact ih1 _ _ _ _ _ _ _
   | exact ih2 _ _ _
   | exact impl_KnowPut.mono _ _ _ _
   | exact laws_eqIntS.mono _ _ _
   | exact laws_eqPool.mono _ _ _
   | exact laws_heldIntS.mono _ _ _
   | exact laws_markIntS.mono _ _ _
   | exact laws_markPool.mono _ _ _
   | exact laws_toIntS.mono _ _
   | exact laws_toPool.mono _ _
   | exact spec_KnowPut.mono _ _ _ _
   | exact LeO.none _
   | refine LeO.ite ?_ ?_
   | refine LeO.bind ?_ (fun _ => ?_)
set_option maxHeartbeats 8000000 in
set_option maxRecDepth 100000 in
theorem laws_FnExactKnowPut.calls (k : Nat) (A0_0 : Option Addr) (c0_0 : Nat) (l0_0 : List (S70)) (A1 : Option Addr) (c1 : Nat) (l1 : List Int) (a2 : Int) (r : Bool) (w : World) (hr0_0 : Kd.C k70 w A0_0 l0_0.length l0_0) (hc0_0 : l0_0.length ≤ c0_0) (hr1 : Kd.C (Kd.int .i64) w A1 l1.length l1) (hc1 : l1.length ≤ c1) (h : laws_FnExactKnowPut.f k l0_0 l1 a2 = some r) :
  Calls Try.prog 3 #[.agg #[.slice A0_0 l0_0.length c0_0], .slice A1 l1.length c1, .int .i64 a2] w fun e w' => e = .returned (.bool r) ∧ Below w.heap.size w w' := by
 have hu24 := Try.underlying24
 have hu31 := Try.underlying31
 have HR0_0 := Aside0.mk hr0_0
 have HC0_0 := Aside0.mk hc0_0
 clear hr0_0 hc0_0
 have HR1 := Aside0.mk hr1
 have HC1 := Aside0.mk hc1
 clear hr1 hc1
 have HB := Aside0.mk (Below.refl w.heap.size w)
 have H : (if (l1.length : Int) > 1048576 then (some true) else ((laws_szPool.f l0_0 1048576).bind fun t251 => (if t251 < 0 then (some true) else ((laws_toPool.f k l0_0).bind fun t252 => ((laws_toIntS.f k l1).bind fun t255 => ((spec_KnowPut.f k t252 t255 a2).bind fun bt258 => ((laws_toPool.f k l0_0).bind fun t262 => ((laws_toIntS.f k l1).bind fun t266 => ((impl_KnowPut.f k t262 t266 a2).bind fun bt269 => ((laws_eqIntS.f k bt269.1 bt258.1).bind fun t273 => (if t273 = true then (laws_FnExactKnowPut.j0 k l1 a2 bt258.1 bt258.2 t266 bt269.1 bt269.2 (bt269.2 != bt258.2) l0_0 t262) else (laws_FnExactKnowPut.j0 k l1 a2 bt258.1 bt258.2 t266 bt269.1 bt269.2 true l0_0 t262)))))))))))) = some r := h
 clear h
 by_cases c4 : (l1.length : Int) > 1048576
 ·rw [if_pos c4] at H
  have c4b0 : decide (1048576 < (l1.length : Int)) = true := decide_eq_true c4
  have c4b1 : decide (1048576 < l1.length) = true := decide_eq_true (by omega)
  clear c4
  obtain rfl := Option.some.inj H
  go_enter Try.func3, Try.ntmps3
  go_wp2_with (first | ((with_reducible refine gate_dst (N := 3) rfl ?_); refine box_event ?hg (N := 3) ?hd (cs := #[.slice A0_0 l0_0.length c0_0]) (t := 24) ?hr ?_; (case hd => rfl); (case hg => rfl); (case hr => first | (go_simp; done) | (go_simp; rfl)); intro gb250 hg w5 hbox hb; have n0_ := Aside0.mk (below_step (zb HB.out) hb); have n1_ := Aside0.mk (hbox); have n2_ := Aside0.mk ((by rw [hg]; exact (below_size (zb HB.out)) : w.heap.size ≤ gb250)); have n3_ := Aside0.mk ((by rw [hg]; exact (below_size (zb HB.out)) : w.heap.size ≤ gb250)); clear HB; have HB := n0_; have BK250 := n1_; have GW250 := n2_; have GE250 := n3_; clear n0_ n1_ n2_ n3_; clear hb hbox hg))
  go_ret
  exact ⟨ze, zb HB.out⟩
 ·rw [if_neg c4] at H
  have c4b0 : decide (1048576 < (l1.length : Int)) = false := decide_eq_false c4
  have c4b1 : decide (1048576 < l1.length) = false := decide_eq_false (by omega)
  clear c4
  replace H := Option.bind_eq_some_iff.mp H
  obtain ⟨t251, A60, H⟩ := H
  replace H : (if t251 < 0 then (some true) else ((laws_toPool.f k l0_0).bind fun t252 => ((laws_toIntS.f k l1).bind fun t255 => ((spec_KnowPut.f k t252 t255 a2).bind fun bt258 => ((laws_toPool.f k l0_0).bind fun t262 => ((laws_toIntS.f k l1).bind fun t266 => ((impl_KnowPut.f k t262 t266 a2).bind fun bt269 => ((laws_eqIntS.f k bt269.1 bt258.1).bind fun t273 => (if t273 = true then (laws_FnExactKnowPut.j0 k l1 a2 bt258.1 bt258.2 t266 bt269.1 bt269.2 (bt269.2 != bt258.2) l0_0 t262) else (laws_FnExactKnowPut.j0 k l1 a2 bt258.1 bt258.2 t266 bt269.1 bt269.2 true l0_0 t262)))))))))) = some r := H
  have A6 := Aside0.mk A60
  clear A60
  by_cases c7 : t251 < 0
  ·rw [if_pos c7] at H
   have c7b0 : decide (t251 < 0) = true := decide_eq_true c7
   clear c7
   obtain rfl := Option.some.inj H
   go_enter Try.func3, Try.ntmps3
   go_wp2_with (first | ((with_reducible refine gate_dst (N := 3) rfl ?_); refine box_event ?hg (N := 3) ?hd (cs := #[.slice A0_0 l0_0.length c0_0]) (t := 24) ?hr ?_; (case hd => rfl); (case hg => rfl); (case hr => first | (go_simp; done) | (go_simp; rfl)); intro gb250 hg w8 hbox hb; have n0_ := Aside0.mk (below_step (zb HB.out) hb); have n1_ := Aside0.mk (hbox); have n2_ := Aside0.mk ((by rw [hg]; exact (below_size (zb HB.out)) : w.heap.size ≤ gb250)); have n3_ := Aside0.mk ((by rw [hg]; exact (below_size (zb HB.out)) : w.heap.size ≤ gb250)); clear HB; have HB := n0_; have BK250 := n1_; have GW250 := n2_; have GE250 := n3_; clear n0_ n1_ n2_ n3_; clear hb hbox hg; have hcz9_0 : w8.cell? ⟨gb250, 0, none⟩ = some (.slice A0_0 l0_0.length c0_0) := (blk_cell BK250.out 0).trans rfl; have hfz9_0 := blk_frozen BK250.out 0) | ((with_reducible refine gate_callee (f := 7) rfl ?_); refine goesL_ (some 24) rfl rfl Try.func7 (by kernel_rfl) rfl #[.agg #[.slice A0_0 l0_0.length c0_0], .int .i64 1048576] rfl zl ?_; (with_reducible refine (laws_szPool.calls _ _ l0_0 1048576 t251 _ ?side1 ?side2 A6.out).mono ?_); (case side1 => exact zc (Kd.C_below HR0_0.out HB.out)); (case side2 => exact HC0_0.out); rintro e w10 ⟨rfl, hb⟩; refine ⟨_, rfl, ?_⟩; have n0_ := Aside0.mk (blk_below (zh BK250.out) hb); have n1_ := Aside0.mk (below_step (zb HB.out) hb); clear BK250; clear HB; have BK250 := n0_; have HB := n1_; clear n0_ n1_; (try clear hb); (try clear hb2); (try clear hk); (try clear hi)))
   go_ret
   exact ⟨ze, zb HB.out⟩
  ·rw [if_neg c7] at H
   have c7b0 : decide (t251 < 0) = false := decide_eq_false c7
   clear c7
   replace H := Option.bind_eq_some_iff.mp H
   obtain ⟨t252, A110, H⟩ := H
   replace H : ((laws_toIntS.f k l1).bind fun t255 => ((spec_KnowPut.f k t252 t255 a2).bind fun bt258 => ((laws_toPool.f k l0_0).bind fun t262 => ((laws_toIntS.f k l1).bind fun t266 => ((impl_KnowPut.f k t262 t266 a2).bind fun bt269 => ((laws_eqIntS.f k bt269.1 bt258.1).bind fun t273 => (if t273 = true then (laws_FnExactKnowPut.j0 k l1 a2 bt258.1 bt258.2 t266 bt269.1 bt269.2 (bt269.2 != bt258.2) l0_0 t262) else (laws_FnExactKnowPut.j0 k l1 a2 bt258.1 bt258.2 t266 bt269.1 bt269.2 true l0_0 t262)))))))) = some r := H
   have A11 := Aside0.mk A110
   clear A110
   replace H := Option.bind_eq_some_iff.mp H
   obtain ⟨t255, A120, H⟩ := H
   replace H : ((spec_KnowPut.f k t252 t255 a2).bind fun bt258 => ((laws_toPool.f k l0_0).bind fun t262 => ((laws_toIntS.f k l1).bind fun t266 => ((impl_KnowPut.f k t262 t266 a2).bind fun bt269 => ((laws_eqIntS.f k bt269.1 bt258.1).bind fun t273 => (if t273 = true then (laws_FnExactKnowPut.j0 k l1 a2 bt258.1 bt258.2 t266 bt269.1 bt269.2 (bt269.2 != bt258.2) l0_0 t262) else (laws_FnExactKnowPut.j0 k l1 a2 bt258.1 bt258.2 t266 bt269.1 bt269.2 true l0_0 t262))))))) = some r := H
   have A12 := Aside0.mk A120
   clear A120
   replace H := Option.bind_eq_some_iff.mp H
   obtain ⟨⟨t258, t261⟩, A130, H⟩ := H
   replace H : ((laws_toPool.f k l0_0).bind fun t262 => ((laws_toIntS.f k l1).bind fun t266 => ((impl_KnowPut.f k t262 t266 a2).bind fun bt269 => ((laws_eqIntS.f k bt269.1 t258).bind fun t273 => (if t273 = true then (laws_FnExactKnowPut.j0 k l1 a2 t258 t261 t266 bt269.1 bt269.2 (bt269.2 != t261) l0_0 t262) else (laws_FnExactKnowPut.j0 k l1 a2 t258 t261 t266 bt269.1 bt269.2 true l0_0 t262)))))) = some r := H
   have A13 := Aside0.mk A130
   clear A130
   replace H := Option.bind_eq_some_iff.mp H
   obtain ⟨t262, A140, H⟩ := H
   replace H : ((laws_toIntS.f k l1).bind fun t266 => ((impl_KnowPut.f k t262 t266 a2).bind fun bt269 => ((laws_eqIntS.f k bt269.1 t258).bind fun t273 => (if t273 = true then (laws_FnExactKnowPut.j0 k l1 a2 t258 t261 t266 bt269.1 bt269.2 (bt269.2 != t261) l0_0 t262) else (laws_FnExactKnowPut.j0 k l1 a2 t258 t261 t266 bt269.1 bt269.2 true l0_0 t262))))) = some r := H
   have A14 := Aside0.mk A140
   clear A140
   replace H := Option.bind_eq_some_iff.mp H
   obtain ⟨t266, A150, H⟩ := H
   replace H : ((impl_KnowPut.f k t262 t266 a2).bind fun bt269 => ((laws_eqIntS.f k bt269.1 t258).bind fun t273 => (if t273 = true then (laws_FnExactKnowPut.j0 k l1 a2 t258 t261 t266 bt269.1 bt269.2 (bt269.2 != t261) l0_0 t262) else (laws_FnExactKnowPut.j0 k l1 a2 t258 t261 t266 bt269.1 bt269.2 true l0_0 t262)))) = some r := H
   have A15 := Aside0.mk A150
   clear A150
   replace H := Option.bind_eq_some_iff.mp H
   obtain ⟨⟨t269, t272⟩, A160, H⟩ := H
   replace H : ((laws_eqIntS.f k t269 t258).bind fun t273 => (if t273 = true then (laws_FnExactKnowPut.j0 k l1 a2 t258 t261 t266 t269 t272 (t272 != t261) l0_0 t262) else (laws_FnExactKnowPut.j0 k l1 a2 t258 t261 t266 t269 t272 true l0_0 t262))) = some r := H
   have A16 := Aside0.mk A160
   clear A160
   have HC17 := Aside0.mk H
   clear H
   go_enter Try.func3, Try.ntmps3
   go_upto_region 11 with (first | ((with_reducible refine gate_dst (N := 3) rfl ?_); refine box_event ?hg (N := 3) ?hd (cs := #[.slice A0_0 l0_0.length c0_0]) (t := 24) ?hr ?_; (case hd => rfl); (case hg => rfl); (case hr => first | (go_simp; done) | (go_simp; rfl)); intro gb250 hg w18 hbox hb; have n0_ := Aside0.mk (below_step (zb HB.out) hb); have n1_ := Aside0.mk (hbox); have n2_ := Aside0.mk ((by rw [hg]; exact (below_size (zb HB.out)) : w.heap.size ≤ gb250)); have n3_ := Aside0.mk ((by rw [hg]; exact (below_size (zb HB.out)) : w.heap.size ≤ gb250)); clear HB; have HB := n0_; have BK250 := n1_; have GW250 := n2_; have GE250 := n3_; clear n0_ n1_ n2_ n3_; clear hb hbox hg; have hcz19_0 : w18.cell? ⟨gb250, 0, none⟩ = some (.slice A0_0 l0_0.length c0_0) := (blk_cell BK250.out 0).trans rfl; have hfz19_0 := blk_frozen BK250.out 0) | ((with_reducible refine gate_callee (f := 7) rfl ?_); refine goesL_ (some 24) rfl rfl Try.func7 (by kernel_rfl) rfl #[.agg #[.slice A0_0 l0_0.length c0_0], .int .i64 1048576] rfl zl ?_; (with_reducible refine (laws_szPool.calls _ _ l0_0 1048576 t251 _ ?side1 ?side2 A6.out).mono ?_); (case side1 => exact zc (Kd.C_below HR0_0.out HB.out)); (case side2 => exact HC0_0.out); rintro e w20 ⟨rfl, hb⟩; refine ⟨_, rfl, ?_⟩; have n0_ := Aside0.mk (blk_below (zh BK250.out) hb); have n1_ := Aside0.mk (below_step (zb HB.out) hb); clear BK250; clear HB; have BK250 := n0_; have HB := n1_; clear n0_ n1_; (try clear hb); (try clear hb2); (try clear hk); (try clear hi); have hcz21_0 : w20.cell? ⟨gb250, 0, none⟩ = some (.slice A0_0 l0_0.length c0_0) := (blk_cell BK250.out 0).trans rfl; have hfz21_0 := blk_frozen BK250.out 0) | ((with_reducible refine gate_callee (f := 9) rfl ?_); refine goesL_ (some 29) rfl rfl Try.func9 (by kernel_rfl) rfl #[.agg #[.slice A0_0 l0_0.length c0_0]] rfl zl ?_; (with_reducible refine (laws_toPool.calls k _ _ l0_0 t252 _ ?side1 ?side2 A11.out).mono ?_); (case side1 => exact zc (Kd.C_below HR0_0.out HB.out)); (case side2 => exact HC0_0.out); rintro e w22 ⟨v253, rfl, ho0, hb⟩; refine ⟨_, rfl, ?_⟩; have n0_ := Aside0.mk (Kd.R_lower ho0 (below_size (zb HB.out))); have n1_ := Aside0.mk (blk_below (zh BK250.out) hb); have n2_ := Aside0.mk (below_step (zb HB.out) hb); clear BK250; clear HB; have HO254 := n0_; have BK250 := n1_; have HB := n2_; clear n0_ n1_ n2_; (try clear hb); (try clear hb2); (try clear hk); (try clear hi); (try clear ho0)) | ((with_reducible refine gate_callee (f := 10) rfl ?_); refine goesL_ (some 31) rfl rfl Try.func10 (by kernel_rfl) rfl #[.slice A1 l1.length c1] rfl zl ?_; (with_reducible refine (laws_toIntS.calls k _ _ l1 t255 _ ?side1 ?side2 A12.out).mono ?_); (case side1 => exact zc (Kd.C_below HR1.out HB.out)); (case side2 => exact HC1.out); rintro e w23 ⟨v256, rfl, ho0, hb⟩; refine ⟨_, rfl, ?_⟩; have n0_ := Aside0.mk (Kd.R_below (zr HO254.out) hb); have n1_ := Aside0.mk (Kd.R_lower ho0 (below_size (zb HB.out))); have n2_ := Aside0.mk (blk_below (zh BK250.out) hb); have n3_ := Aside0.mk (below_step (zb HB.out) hb); clear HO254; clear BK250; clear HB; have HO254 := n0_; have HO257 := n1_; have BK250 := n2_; have HB := n3_; clear n0_ n1_ n2_ n3_; (try clear hb); (try clear hb2); (try clear hk); (try clear hi); (try clear ho0); obtain ⟨Ao24, co24, eo24⟩ := Kd.R_slice HO254.out; subst eo24; obtain ⟨Ao25, co25, eo25⟩ := Kd.R_slice HO257.out; subst eo25) | ((with_reducible refine gate_callee (f := 8) rfl ?_); refine goesL_ (some 33) rfl rfl Try.func8 (by kernel_rfl) rfl #[.agg #[.slice Ao24 t252.length co24], .slice Ao25 t255.length co25, .int .i64 a2] rfl zl ?_; (with_reducible refine (spec_KnowPut.calls k _ _ t252 _ _ t255 a2 t258 t261 _ ?side1 ?side2 ?side3 ?side4 A13.out).mono ?_); (case side1 => exact zc (Kd.R_reads' HO254.out).2.2); (case side2 => exact (Kd.R_reads' HO254.out).2.1); (case side3 => exact zc (Kd.R_reads' HO257.out).2.2); (case side4 => exact (Kd.R_reads' HO257.out).2.1); rintro e w26 ⟨v259, rfl, ho0, hb⟩; refine ⟨_, rfl, ?_⟩; have n0_ := Aside0.mk (Kd.R_below (zr HO254.out) hb); have n1_ := Aside0.mk (Kd.R_elder' (zr HO257.out) (Kd.R_base ho0) hb); have n2_ := Aside0.mk (Kd.R_lower (Kd.R_new' ho0 (Kd.R_lt (zr HO257.out))) (below_size (zb HB.out))); have n3_ := Aside0.mk (blk_below (zh BK250.out) hb); have n4_ := Aside0.mk (below_step (zb HB.out) hb); clear HO254; clear HO257; clear BK250; clear HB; have HO254 := n0_; have HO257 := n1_; have HO260 := n2_; have BK250 := n3_; have HB := n4_; clear n0_ n1_ n2_ n3_ n4_; (try clear hb); (try clear hb2); (try clear hk); (try clear hi); (try clear ho0); have hcz27_0 : w26.cell? ⟨gb250, 0, none⟩ = some (.slice A0_0 l0_0.length c0_0) := (blk_cell BK250.out 0).trans rfl; have hfz27_0 := blk_frozen BK250.out 0) | ((with_reducible refine gate_callee (f := 9) rfl ?_); refine goesL_ (some 37) rfl rfl Try.func9 (by kernel_rfl) rfl #[.agg #[.slice A0_0 l0_0.length c0_0]] rfl zl ?_; (with_reducible refine (laws_toPool.calls k _ _ l0_0 t262 _ ?side1 ?side2 A14.out).mono ?_); (case side1 => exact zc (Kd.C_below HR0_0.out HB.out)); (case side2 => exact HC0_0.out); rintro e w28 ⟨v263, rfl, ho0, hb⟩; refine ⟨_, rfl, ?_⟩; have n0_ := Aside0.mk (Kd.R_elder' (zr HO254.out) (Kd.R_base ho0) hb); have n1_ := Aside0.mk (Kd.R_below (zr HO257.out) hb); have n2_ := Aside0.mk (Kd.R_below (zr HO260.out) hb); have n3_ := Aside0.mk (Kd.R_lower (Kd.R_new' ho0 (Kd.R_lt (zr HO254.out))) (below_size (zb HB.out))); have n4_ := Aside0.mk (blk_below (zh BK250.out) hb); have n5_ := Aside0.mk (below_step (zb HB.out) hb); clear HO254; clear HO257; clear HO260; clear BK250; clear HB; have HO254 := n0_; have HO257 := n1_; have HO260 := n2_; have HO264 := n3_; have BK250 := n4_; have HB := n5_; clear n0_ n1_ n2_ n3_ n4_ n5_; (try clear hb); (try clear hb2); (try clear hk); (try clear hi); (try clear ho0)) | ((with_reducible refine gate_dst (N := 10) rfl ?_); refine box_event ?hg (N := 10) ?hd (cs := #[.slice none 0 0]) (t := 31) ?hr ?_; (case hd => rfl); (case hg => rfl); (case hr => first | (go_simp; done) | (go_simp; rfl)); intro gb265 hg w29 hbox hb; have n0_ := Aside0.mk (Kd.R_below (zr HO254.out) hb); have n1_ := Aside0.mk (Kd.R_below (zr HO257.out) hb); have n2_ := Aside0.mk (Kd.R_below (zr HO260.out) hb); have n3_ := Aside0.mk (Kd.R_below (zr HO264.out) hb); have n4_ := Aside0.mk (blk_below (zh BK250.out) hb); have n5_ := Aside0.mk (below_step (zb HB.out) hb); have n6_ := Aside0.mk (hbox); have n7_ := Aside0.mk ((by rw [hg]; exact (below_size (zb HB.out)) : w.heap.size ≤ gb265)); have n8_ := Aside0.mk ((by rw [hg]; exact (below_size (zb HB.out)) : w.heap.size ≤ gb265)); have n9_ := Aside0.mk ((by rw [hg]; exact Nat.ne_of_lt (blk_lt (zh BK250.out)) : gb250 ≠ gb265)); have n10_ := Aside0.mk ((by rw [hg]; exact Nat.ne_of_gt (blk_lt (zh BK250.out)) : gb265 ≠ gb250)); clear HO254; clear HO257; clear HO260; clear HO264; clear BK250; clear HB; have HO254 := n0_; have HO257 := n1_; have HO260 := n2_; have HO264 := n3_; have BK250 := n4_; have HB := n5_; have BK265 := n6_; have GW265 := n7_; have GE265 := n8_; have NB250_265 := n9_; have NB265_250 := n10_; clear n0_ n1_ n2_ n3_ n4_ n5_ n6_ n7_ n8_ n9_ n10_; clear hb hbox hg; obtain ⟨Ao30, co30, eo30⟩ := Kd.R_slice HO264.out; subst eo30; have hnb31 := NB265_250.out; have hnc31 := NB250_265.out; have hcz32_0 : w29.cell? ⟨gb265, 0, none⟩ = some (.slice none 0 0) := (blk_cell BK265.out 0).trans rfl; have hfz32_0 := blk_frozen BK265.out 0) | ((with_reducible refine gate_callee (f := 10) rfl ?_); refine goesL_ (some 39) rfl rfl Try.func10 (by kernel_rfl) rfl #[.slice A1 l1.length c1] rfl zl ?_; (with_reducible refine (laws_toIntS.calls k _ _ l1 t266 _ ?side1 ?side2 A15.out).mono ?_); (case side1 => exact Kd.C_below HR1.out (zb HB.out)); (case side2 => exact HC1.out); rintro e w33 ⟨v267, rfl, ho0, hb⟩; refine ⟨_, rfl, ?_⟩; have n0_ := Aside0.mk (Kd.R_below (by (with_reducible repeat (first | apply Kd.R_alloc | apply Kd.R_drewN | apply Kd.R_drew)); exact (Kd.R_mono (Kd.R_far (p := ⟨gb265, 0, none⟩) (Kd.R_types HO254.out BK265.out (by decide)) (fun _ hk => hk.2) (.slice Ao30 t262.length co30)) (fun _ h_ => h_.1))) hb); have n1_ := Aside0.mk (Kd.R_elder' (by (with_reducible repeat (first | apply Kd.R_alloc | apply Kd.R_drewN | apply Kd.R_drew)); exact (Kd.R_mono (Kd.R_far (p := ⟨gb265, 0, none⟩) (Kd.R_types HO257.out BK265.out (by decide)) (fun _ hk => hk.2) (.slice Ao30 t262.length co30)) (fun _ h_ => h_.1))) (Kd.R_base ho0) hb); have n2_ := Aside0.mk (Kd.R_elder' (by (with_reducible repeat (first | apply Kd.R_alloc | apply Kd.R_drewN | apply Kd.R_drew)); exact (Kd.R_mono (Kd.R_far (p := ⟨gb265, 0, none⟩) (Kd.R_types HO260.out BK265.out (by decide)) (fun _ hk => hk.2) (.slice Ao30 t262.length co30)) (fun _ h_ => h_.1))) (Kd.R_base ho0) hb); have n3_ := Aside0.mk (Kd.R_below (by (with_reducible repeat (first | apply Kd.R_alloc | apply Kd.R_drewN | apply Kd.R_drew)); exact (Kd.R_mono (Kd.R_far (p := ⟨gb265, 0, none⟩) (Kd.R_types HO264.out BK265.out (by decide)) (fun _ hk => hk.2) (.slice Ao30 t262.length co30)) (fun _ h_ => h_.1))) hb); have n4_ := Aside0.mk (Kd.R_lower (Kd.R_new' (Kd.R_new' ho0 (Kd.R_lt (by (with_reducible repeat (first | apply Kd.R_alloc | apply Kd.R_drewN | apply Kd.R_drew)); exact (Kd.R_mono (Kd.R_far (p := ⟨gb265, 0, none⟩) (Kd.R_types HO257.out BK265.out (by decide)) (fun _ hk => hk.2) (.slice Ao30 t262.length co30)) (fun _ h_ => h_.1))))) (Kd.R_lt (by (with_reducible repeat (first | apply Kd.R_alloc | apply Kd.R_drewN | apply Kd.R_drew)); exact (Kd.R_mono (Kd.R_far (p := ⟨gb265, 0, none⟩) (Kd.R_types HO260.out BK265.out (by decide)) (fun _ hk => hk.2) (.slice Ao30 t262.length co30)) (fun _ h_ => h_.1))))) (below_size (zb HB.out))); have n5_ := Aside0.mk (blk_below (g := gb250) (o := .cells #[.slice A0_0 l0_0.length c0_0] 24 (0, 0)) (zf BK250.out) hb); have n6_ := Aside0.mk (blk_below (g := gb265) (o := .cells #[.slice Ao30 t262.length co30] 31 (0, 0)) (by (with_reducible repeat (first | refine blk_drewN ?_ _ | refine blk_drew ?_ | refine blk_alloc ?_ _)); refine blk_put (cs := #[.slice none 0 0]) ?_ 0 _ rfl; (with_reducible repeat (first | refine blk_drewN ?_ _ | refine blk_drew ?_ | refine blk_alloc ?_ _)); exact BK265.out) hb); have n7_ := Aside0.mk (below_step (zb HB.out) hb); clear HO254; clear HO257; clear HO260; clear HO264; clear BK250; clear BK265; clear HB; have HO254 := n0_; have HO257 := n1_; have HO260 := n2_; have HO264 := n3_; have HO268 := n4_; have BK250 := n5_; have BK265 := n6_; have HB := n7_; clear n0_ n1_ n2_ n3_ n4_ n5_ n6_ n7_; (try clear hb); (try clear hb2); (try clear hk); (try clear hi); (try clear ho0); have hcz34_0 : w33.cell? ⟨gb265, 0, none⟩ = some (.slice Ao30 t262.length co30) := (blk_cell BK265.out 0).trans rfl; have hfz34_0 := blk_frozen BK265.out 0; obtain ⟨Ao35, co35, eo35⟩ := Kd.R_slice HO268.out; subst eo35) | ((with_reducible refine gate_callee (f := 11) rfl ?_); refine goesL_ (some 44) rfl rfl Try.func11 (by kernel_rfl) rfl #[.agg #[.slice Ao30 t262.length co30], .slice Ao35 t266.length co35, .int .i64 a2] rfl zl ?_; (with_reducible refine (impl_KnowPut.calls k _ _ t262 _ _ t266 a2 t269 t272 _ ?side1 ?side2 ?side3 ?side4 A16.out).mono ?_); (case side1 => exact zc (Kd.R_reads' HO264.out).2.2); (case side2 => exact (Kd.R_reads' HO264.out).2.1); (case side3 => exact zc (Kd.R_reads' HO268.out).2.2); (case side4 => exact (Kd.R_reads' HO268.out).2.1); rintro e w36 ⟨v270, rfl, ho0, hb⟩; refine ⟨_, rfl, ?_⟩; have n0_ := Aside0.mk (Kd.R_below (zr HO254.out) hb); have n1_ := Aside0.mk (Kd.R_elder' (zr HO257.out) (Kd.R_base ho0) hb); have n2_ := Aside0.mk (Kd.R_elder' (zr HO260.out) (Kd.R_base ho0) hb); have n3_ := Aside0.mk (Kd.R_below (zr HO264.out) hb); have n4_ := Aside0.mk (Kd.R_elder' (zr HO268.out) (Kd.R_base ho0) hb); have n5_ := Aside0.mk (Kd.R_lower (Kd.R_new' (Kd.R_new' (Kd.R_new' ho0 (Kd.R_lt (zr HO257.out))) (Kd.R_lt (zr HO260.out))) (Kd.R_lt (zr HO268.out))) (below_size (zb HB.out))); have n6_ := Aside0.mk (blk_below (zh BK250.out) hb); have n7_ := Aside0.mk (blk_below (zh BK265.out) hb); have n8_ := Aside0.mk (below_step (zb HB.out) hb); clear HO254; clear HO257; clear HO260; clear HO264; clear HO268; clear BK250; clear BK265; clear HB; have HO254 := n0_; have HO257 := n1_; have HO260 := n2_; have HO264 := n3_; have HO268 := n4_; have HO271 := n5_; have BK250 := n6_; have BK265 := n7_; have HB := n8_; clear n0_ n1_ n2_ n3_ n4_ n5_ n6_ n7_ n8_; (try clear hb); (try clear hb2); (try clear hk); (try clear hi); (try clear ho0)))
   (try simp only [Act.put, List.setIfInBounds_toArray, List.set_cons_zero, List.set_cons_succ])
   go_cut [55] (fun v55 wc => ∃ (kq : Nat) (x55_16 : Bool), v55 = .bool x55_16 ∧ Aside0 (laws_FnExactKnowPut.j0 kq l1 a2 t258 t261 t266 t269 t272 x55_16 l0_0 t262 = some r) ∧ Aside0 (kq ≤ k) ∧ Aside0 (Kd.R (Kd.int .i64) 3 wc w.heap.size (fun k_ => some k_ ≠ ((.slice Ao35 t266.length co35) : Value).ownBlock ∧ some k_ ≠ (v270 : Value).ownBlock) v259 t258) ∧ Aside0 (Kd.R (Kd.int .i64) 3 wc w.heap.size (fun k_ => some k_ ≠ (v259 : Value).ownBlock ∧ some k_ ≠ (v270 : Value).ownBlock) (.slice Ao35 t266.length co35) t266) ∧ Aside0 (Kd.R (Kd.int .i64) 3 wc w.heap.size (fun k_ => some k_ ≠ (v259 : Value).ownBlock ∧ some k_ ≠ ((.slice Ao35 t266.length co35) : Value).ownBlock) v270 t269) ∧ Aside0 (Kd.R k67 67 wc w.heap.size (fun _ => True) (.slice Ao30 t262.length co30) t262) ∧ Aside0 (wc.heap[gb250]? = some (.cells #[(.slice A0_0 l0_0.length c0_0)] 24 (0, 0))) ∧ Aside0 (wc.heap[gb265]? = some (.cells #[(.slice Ao30 t262.length co30)] 31 (0, 0))) ∧ Aside0 (Below w.heap.size w wc))
   case first =>
    have H := HC17.out
    clear HC17
    replace H := Option.bind_eq_some_iff.mp H
    obtain ⟨t273, A370, H⟩ := H
    replace H : (if t273 = true then (laws_FnExactKnowPut.j0 k l1 a2 t258 t261 t266 t269 t272 (t272 != t261) l0_0 t262) else (laws_FnExactKnowPut.j0 k l1 a2 t258 t261 t266 t269 t272 true l0_0 t262)) = some r := H
    have A37 := Aside0.mk A370
    clear A370
    by_cases c38 : t273 = true
    ·subst c38
     have H1 : (laws_FnExactKnowPut.j0 k l1 a2 t258 t261 t266 t269 t272 (t272 != t261) l0_0 t262) = some r := by rw [if_pos rfl] at H; exact H
     clear H
     have H := H1
     clear H1
     have H' := Aside0.mk H
     clear H
     obtain ⟨Ao39, co39, eo39⟩ := Kd.R_slice HO271.out
     subst eo39
     obtain ⟨Ao40, co40, eo40⟩ := Kd.R_slice HO260.out
     subst eo40
     go_wp2_with (first | ((with_reducible refine gate_callee (f := 12) rfl ?_); refine goesL_ (some 49) rfl rfl Try.func12 (by kernel_rfl) rfl #[.slice Ao39 t269.length co39, .slice Ao40 t258.length co40] rfl zl ?_; (with_reducible refine (laws_eqIntS.calls k _ _ t269 _ _ t258 true _ ?side1 ?side2 ?side3 ?side4 A37.out).mono ?_); (case side1 => exact zc (Kd.R_reads' HO271.out).2.2); (case side2 => exact (Kd.R_reads' HO271.out).2.1); (case side3 => exact zc (Kd.R_reads' HO260.out).2.2); (case side4 => exact (Kd.R_reads' HO260.out).2.1); rintro e w' ⟨rfl, ⟨nd, rfl⟩⟩; refine ⟨_, rfl, ?_⟩))
     go_meet
     case rel => exact ⟨_, ((t272 != t261)), (by first | rfl | (simp; done) | (simp [*]; done)), H', ⟨by first | omega | exact Nat.le_refl _⟩, ⟨zr (Kd.R_mono HO260.out (fun _ hk => ⟨hk.1.2, hk.2⟩))⟩, ⟨zr (Kd.R_mono HO268.out (fun _ hk => ⟨hk.1.2, hk.2⟩))⟩, ⟨zr (Kd.R_mono HO271.out (fun _ hk => ⟨hk.1.2, hk.2⟩))⟩, ⟨zr (Kd.R_mono HO264.out (fun _ hk => trivial))⟩, ⟨zh BK250.out⟩, ⟨zh BK265.out⟩, ⟨zb HB.out⟩⟩
    ·replace c38 := Bool.eq_false_iff.mpr c38
     subst c38
     have H1 : (laws_FnExactKnowPut.j0 k l1 a2 t258 t261 t266 t269 t272 true l0_0 t262) = some r := by rw [if_neg (show ¬ (false = true) by decide)] at H; exact H
     clear H
     have H := H1
     clear H1
     have H' := Aside0.mk H
     clear H
     obtain ⟨Ao41, co41, eo41⟩ := Kd.R_slice HO271.out
     subst eo41
     obtain ⟨Ao42, co42, eo42⟩ := Kd.R_slice HO260.out
     subst eo42
     go_wp2_with (first | ((with_reducible refine gate_callee (f := 12) rfl ?_); refine goesL_ (some 49) rfl rfl Try.func12 (by kernel_rfl) rfl #[.slice Ao41 t269.length co41, .slice Ao42 t258.length co42] rfl zl ?_; (with_reducible refine (laws_eqIntS.calls k _ _ t269 _ _ t258 false _ ?side1 ?side2 ?side3 ?side4 A37.out).mono ?_); (case side1 => exact zc (Kd.R_reads' HO271.out).2.2); (case side2 => exact (Kd.R_reads' HO271.out).2.1); (case side3 => exact zc (Kd.R_reads' HO260.out).2.2); (case side4 => exact (Kd.R_reads' HO260.out).2.1); rintro e w' ⟨rfl, ⟨nd, rfl⟩⟩; refine ⟨_, rfl, ?_⟩))
     go_meet
     case rel => exact ⟨_, (true), (by first | rfl | (simp; done) | (simp [*]; done)), H', ⟨by first | omega | exact Nat.le_refl _⟩, ⟨zr (Kd.R_mono HO260.out (fun _ hk => ⟨hk.1.2, hk.2⟩))⟩, ⟨zr (Kd.R_mono HO268.out (fun _ hk => ⟨hk.1.2, hk.2⟩))⟩, ⟨zr (Kd.R_mono HO271.out (fun _ hk => ⟨hk.1.2, hk.2⟩))⟩, ⟨zr (Kd.R_mono HO264.out (fun _ hk => trivial))⟩, ⟨zh BK250.out⟩, ⟨zh BK265.out⟩, ⟨zb HB.out⟩⟩
   case rest =>
    clear HC17
    try clear c1
    try clear p2
    try clear c3
    try clear c4
    try clear c4b0
    try clear c4b1
    try clear c7
    try clear c7b0
    try clear c8
    try clear c9
    try clear c10
    try clear c11
    try clear c12
    try clear c31
    try clear c38
    try clear hcz19_0
    try clear hcz21_0
    try clear hcz27_0
    try clear hcz32_0
    try clear hcz34_0
    try clear hcz9_0
    try clear hfz19_0
    try clear hfz21_0
    try clear hfz27_0
    try clear hfz32_0
    try clear hfz34_0
    try clear hfz9_0
    obtain ⟨kq, x55_16, rfl, HA, HJ16, HO_8, HO_11, HO_12, HO_266000, BK250, BK265, HB⟩ := hcut
    cases kq with
    | zero => exact absurd HA.out (by simp [laws_FnExactKnowPut.j0])
    | succ kj16 =>
     have H := HA.out
     clear HA
     simp only [laws_FnExactKnowPut.j0] at H
     by_cases c43 : x55_16 = true
     ·subst c43
      have H1 : (some false) = some r := by rw [if_pos rfl] at H; exact H
      clear H
      have H := H1
      clear H1
      obtain rfl := Option.some.inj H
      go_wp2
      go_ret
      exact ⟨ze, zb HB.out⟩
     ·replace c43 := Bool.eq_false_iff.mpr c43
      subst c43
      have H1 : ((laws_toPool.f kj16 l0_0).bind fun t274 => ((laws_eqPool.f kj16 t262 t274).bind fun t277 => (if t277 = true then ((laws_toIntS.f kj16 l1).bind fun t278 => ((laws_eqIntS.f kj16 t266 t278).bind fun t281 => (if t281 = true then ((laws_markPool.f kj16 t262 1).bind fun bt282 => ((laws_markIntS.f kj16 t266 bt282.1).bind fun bt284 => (if bt284.1 < 0 then (laws_FnExactKnowPut.j1 kj16 l1 a2 t258 t261 t269 true l0_0) else ((laws_eqIntS.f kj16 t269 t258).bind fun t286 => (if t286 = true then (laws_FnExactKnowPut.j1 kj16 l1 a2 t258 t261 t269 (t272 != t261) l0_0) else (laws_FnExactKnowPut.j1 kj16 l1 a2 t258 t261 t269 true l0_0)))))) else (some false)))) else (some false)))) = some r := by rw [if_neg (show ¬ (false = true) by decide)] at H; exact H
      clear H
      have H := H1
      clear H1
      replace H := Option.bind_eq_some_iff.mp H
      obtain ⟨t274, A440, H⟩ := H
      replace H : ((laws_eqPool.f kj16 t262 t274).bind fun t277 => (if t277 = true then ((laws_toIntS.f kj16 l1).bind fun t278 => ((laws_eqIntS.f kj16 t266 t278).bind fun t281 => (if t281 = true then ((laws_markPool.f kj16 t262 1).bind fun bt282 => ((laws_markIntS.f kj16 t266 bt282.1).bind fun bt284 => (if bt284.1 < 0 then (laws_FnExactKnowPut.j1 kj16 l1 a2 t258 t261 t269 true l0_0) else ((laws_eqIntS.f kj16 t269 t258).bind fun t286 => (if t286 = true then (laws_FnExactKnowPut.j1 kj16 l1 a2 t258 t261 t269 (t272 != t261) l0_0) else (laws_FnExactKnowPut.j1 kj16 l1 a2 t258 t261 t269 true l0_0)))))) else (some false)))) else (some false))) = some r := H
      have A44 := Aside0.mk A440
      clear A440
      replace H := Option.bind_eq_some_iff.mp H
      obtain ⟨t277, A450, H⟩ := H
      replace H : (if t277 = true then ((laws_toIntS.f kj16 l1).bind fun t278 => ((laws_eqIntS.f kj16 t266 t278).bind fun t281 => (if t281 = true then ((laws_markPool.f kj16 t262 1).bind fun bt282 => ((laws_markIntS.f kj16 t266 bt282.1).bind fun bt284 => (if bt284.1 < 0 then (laws_FnExactKnowPut.j1 kj16 l1 a2 t258 t261 t269 true l0_0) else ((laws_eqIntS.f kj16 t269 t258).bind fun t286 => (if t286 = true then (laws_FnExactKnowPut.j1 kj16 l1 a2 t258 t261 t269 (t272 != t261) l0_0) else (laws_FnExactKnowPut.j1 kj16 l1 a2 t258 t261 t269 true l0_0)))))) else (some false)))) else (some false)) = some r := H
      have A45 := Aside0.mk A450
      clear A450
      by_cases c46 : t277 = true
      ·subst c46
       have H1 : ((laws_toIntS.f kj16 l1).bind fun t278 => ((laws_eqIntS.f kj16 t266 t278).bind fun t281 => (if t281 = true then ((laws_markPool.f kj16 t262 1).bind fun bt282 => ((laws_markIntS.f kj16 t266 bt282.1).bind fun bt284 => (if bt284.1 < 0 then (laws_FnExactKnowPut.j1 kj16 l1 a2 t258 t261 t269 true l0_0) else ((laws_eqIntS.f kj16 t269 t258).bind fun t286 => (if t286 = true then (laws_FnExactKnowPut.j1 kj16 l1 a2 t258 t261 t269 (t272 != t261) l0_0) else (laws_FnExactKnowPut.j1 kj16 l1 a2 t258 t261 t269 true l0_0)))))) else (some false)))) = some r := by rw [if_pos rfl] at H; exact H
       clear H
       have H := H1
       clear H1
       replace H := Option.bind_eq_some_iff.mp H
       obtain ⟨t278, A470, H⟩ := H
       replace H : ((laws_eqIntS.f kj16 t266 t278).bind fun t281 => (if t281 = true then ((laws_markPool.f kj16 t262 1).bind fun bt282 => ((laws_markIntS.f kj16 t266 bt282.1).bind fun bt284 => (if bt284.1 < 0 then (laws_FnExactKnowPut.j1 kj16 l1 a2 t258 t261 t269 true l0_0) else ((laws_eqIntS.f kj16 t269 t258).bind fun t286 => (if t286 = true then (laws_FnExactKnowPut.j1 kj16 l1 a2 t258 t261 t269 (t272 != t261) l0_0) else (laws_FnExactKnowPut.j1 kj16 l1 a2 t258 t261 t269 true l0_0)))))) else (some false))) = some r := H
       have A47 := Aside0.mk A470
       clear A470
       replace H := Option.bind_eq_some_iff.mp H
       obtain ⟨t281, A480, H⟩ := H
       replace H : (if t281 = true then ((laws_markPool.f kj16 t262 1).bind fun bt282 => ((laws_markIntS.f kj16 t266 bt282.1).bind fun bt284 => (if bt284.1 < 0 then (laws_FnExactKnowPut.j1 kj16 l1 a2 t258 t261 t269 true l0_0) else ((laws_eqIntS.f kj16 t269 t258).bind fun t286 => (if t286 = true then (laws_FnExactKnowPut.j1 kj16 l1 a2 t258 t261 t269 (t272 != t261) l0_0) else (laws_FnExactKnowPut.j1 kj16 l1 a2 t258 t261 t269 true l0_0)))))) else (some false)) = some r := H
       have A48 := Aside0.mk A480
       clear A480
       by_cases c49 : t281 = true
       ·subst c49
        have H1 : ((laws_markPool.f kj16 t262 1).bind fun bt282 => ((laws_markIntS.f kj16 t266 bt282.1).bind fun bt284 => (if bt284.1 < 0 then (laws_FnExactKnowPut.j1 kj16 l1 a2 t258 t261 t269 true l0_0) else ((laws_eqIntS.f kj16 t269 t258).bind fun t286 => (if t286 = true then (laws_FnExactKnowPut.j1 kj16 l1 a2 t258 t261 t269 (t272 != t261) l0_0) else (laws_FnExactKnowPut.j1 kj16 l1 a2 t258 t261 t269 true l0_0)))))) = some r := by rw [if_pos rfl] at H; exact H
        clear H
        have H := H1
        clear H1
        replace H := Option.bind_eq_some_iff.mp H
        obtain ⟨⟨t282, t283⟩, A500, H⟩ := H
        replace H : ((laws_markIntS.f kj16 t266 t282).bind fun bt284 => (if bt284.1 < 0 then (laws_FnExactKnowPut.j1 kj16 l1 a2 t258 t261 t269 true l0_0) else ((laws_eqIntS.f kj16 t269 t258).bind fun t286 => (if t286 = true then (laws_FnExactKnowPut.j1 kj16 l1 a2 t258 t261 t269 (t272 != t261) l0_0) else (laws_FnExactKnowPut.j1 kj16 l1 a2 t258 t261 t269 true l0_0))))) = some r := H
        have A50 := Aside0.mk A500
        clear A500
        replace H := Option.bind_eq_some_iff.mp H
        obtain ⟨⟨t284, t285⟩, A510, H⟩ := H
        replace H : (if t284 < 0 then (laws_FnExactKnowPut.j1 kj16 l1 a2 t258 t261 t269 true l0_0) else ((laws_eqIntS.f kj16 t269 t258).bind fun t286 => (if t286 = true then (laws_FnExactKnowPut.j1 kj16 l1 a2 t258 t261 t269 (t272 != t261) l0_0) else (laws_FnExactKnowPut.j1 kj16 l1 a2 t258 t261 t269 true l0_0)))) = some r := H
        have A51 := Aside0.mk A510
        clear A510
        have HC52 := Aside0.mk H
        clear H
        try go_wp2
        have n0_ := Aside0.mk (Kd.R_drew HO_8.out)
        have n1_ := Aside0.mk (Kd.R_drew HO_11.out)
        have n2_ := Aside0.mk (Kd.R_drew HO_12.out)
        have n3_ := Aside0.mk (Kd.R_drew HO_266000.out)
        have n4_ := Aside0.mk (blk_drew BK250.out)
        have n5_ := Aside0.mk (blk_drew BK265.out)
        have n6_ := Aside0.mk (below_drew1 HB.out)
        clear HO_8
        clear HO_11
        clear HO_12
        clear HO_266000
        clear BK250
        clear BK265
        clear HB
        have HO_8 := n0_
        have HO_11 := n1_
        have HO_12 := n2_
        have HO_266000 := n3_
        have BK250 := n4_
        have BK265 := n5_
        have HB := n6_
        clear n0_ n1_ n2_ n3_ n4_ n5_ n6_
        refine start_ (n := 5) (S := fun w' => w'.cell? ⟨gb265, 0, none⟩ = some (.slice Ao30 t262.length co30) ∧ w'.cell? ⟨gb250, 0, none⟩ = some (.slice A0_0 l0_0.length c0_0)) (ds := []) #[false, false, false, false, false] (by kernel_rfl) rfl rfl ⟨(blk_cell BK265.out 0).trans rfl, (blk_cell BK250.out 0).trans rfl⟩ (fun hHeld => ?_)
        generalize wc.drew = w53 at HO_8 HO_11 HO_12 HO_266000 BK250 BK265 HB hHeld ⊢
        refine take_ (i := 0) (N := some 56) (v := ?_) (a' := ?_) #[true, false, false, false, false] rfl rfl (by kernel_rfl) (fun _ _ _ h => h) (Or.inl ⟨by rfl, ?_⟩) hHeld ?_ ?_
        rotate_left
        ·rintro w' ⟨s0, s1⟩
         go_simp
         with_reducible rfl
        rotate_left
        ·simp only [Act.put, List.setIfInBounds_toArray, List.set_cons_zero, List.set_cons_succ, i64_w, i32_w]
         rfl
        refine take_ (i := 1) (N := some 57) (v := ?_) (a' := ?_) #[true, true, false, false, false] rfl rfl (by kernel_rfl) (fun _ _ _ h => h) (Or.inl ⟨by rfl, ?_⟩) hHeld ?_ ?_
        rotate_left
        ·rintro w' ⟨s0, s1⟩
         go_simp
         with_reducible rfl
        rotate_left
        ·simp only [Act.put, List.setIfInBounds_toArray, List.set_cons_zero, List.set_cons_succ, i64_w, i32_w]
         rfl
        refine one_ (i := 2) (N := some 58) #[true, true, true, false, false] rfl rfl (by kernel_rfl) (by decide) (fun K hK => ?_)
        refine goes_ Try.func9 (by kernel_rfl) rfl #[.agg #[.slice A0_0 l0_0.length c0_0]] (by rfl) rfl rfl zl ?_
        with_reducible refine (laws_toPool.calls kj16 _ _ l0_0 t274 _ ?side1 ?side2 A44.out).mono ?_
        (case side1 => exact zc (Kd.C_below HR0_0.out HB.out))
        (case side2 => exact HC0_0.out)
        rintro e w54 ⟨v275, rfl, ho0, hb⟩
        refine ⟨_, rfl, ?_⟩
        have n0_ := Aside0.mk (Kd.R_below (zr HO_8.out) hb)
        have n1_ := Aside0.mk (Kd.R_below (zr HO_11.out) hb)
        have n2_ := Aside0.mk (Kd.R_below (zr HO_12.out) hb)
        have n3_ := Aside0.mk (Kd.R_elder' (zr HO_266000.out) (Kd.R_base ho0) hb)
        have n4_ := Aside0.mk (Kd.R_lower (Kd.R_new' ho0 (Kd.R_lt (zr HO_266000.out))) (below_size (zb HB.out)))
        have n5_ := Aside0.mk (blk_below (zh BK250.out) hb)
        have n6_ := Aside0.mk (blk_below (zh BK265.out) hb)
        have n7_ := Aside0.mk (below_step (zb HB.out) hb)
        clear HO_8
        clear HO_11
        clear HO_12
        clear HO_266000
        clear BK250
        clear BK265
        clear HB
        have HO_8 := n0_
        have HO_11 := n1_
        have HO_12 := n2_
        have HO_266000 := n3_
        have HO276 := n4_
        have BK250 := n5_
        have BK265 := n6_
        have HB := n7_
        clear n0_ n1_ n2_ n3_ n4_ n5_ n6_ n7_
        (try clear hb)
        (try clear hb2)
        (try clear hk)
        (try clear hi)
        (try clear ho0)
        obtain ⟨Ao55, co55, eo55⟩ := Kd.R_slice HO276.out
        (first | subst eo55 | (injection eo55 with f1_ f2_ f3_; have f4_ := f1_.symm; have f5_ := f3_.symm; clear f1_ f2_ f3_; subst f4_; subst f5_))
        refine hK.out _ _ ⟨(blk_cell BK265.out 0).trans rfl, (blk_cell BK250.out 0).trans rfl⟩ (fun hHeld => ?_)
        clear hK K
        refine norm_ (a' := ?_) ?_ ?_
        rotate_left
        ·show Act.put _ (some 58) _ = _
         simp only [Act.put, List.setIfInBounds_toArray, List.set_cons_zero, List.set_cons_succ, i64_w, i32_w]
         rfl
        refine one_ (i := 3) (N := some 59) #[true, true, true, true, false] rfl rfl (by kernel_rfl) (by decide) (fun K hK => ?_)
        refine goes_ Try.func13 (by kernel_rfl) rfl #[.agg #[.slice Ao30 t262.length co30], .agg #[.slice Ao55 t274.length co55]] (by rfl) rfl rfl zl ?_
        with_reducible refine (laws_eqPool.calls kj16 _ _ t262 _ _ t274 true _ ?side1 ?side2 ?side3 ?side4 A45.out).mono ?_
        (case side1 => exact zc (Kd.R_reads' HO_266000.out).2.2)
        (case side2 => exact (Kd.R_reads' HO_266000.out).2.1)
        (case side3 => exact zc (Kd.R_reads' HO276.out).2.2)
        (case side4 => exact (Kd.R_reads' HO276.out).2.1)
        rintro e w56 ⟨rfl, hb⟩
        refine ⟨_, rfl, ?_⟩
        have n0_ := Aside0.mk (Kd.R_below (zr HO_8.out) hb)
        have n1_ := Aside0.mk (Kd.R_below (zr HO_11.out) hb)
        have n2_ := Aside0.mk (Kd.R_below (zr HO_12.out) hb)
        have n3_ := Aside0.mk (Kd.R_below (zr HO_266000.out) hb)
        have n4_ := Aside0.mk (Kd.R_below (zr HO276.out) hb)
        have n5_ := Aside0.mk (blk_below (zh BK250.out) hb)
        have n6_ := Aside0.mk (blk_below (zh BK265.out) hb)
        have n7_ := Aside0.mk (below_step (zb HB.out) hb)
        clear HO_8
        clear HO_11
        clear HO_12
        clear HO_266000
        clear HO276
        clear BK250
        clear BK265
        clear HB
        have HO_8 := n0_
        have HO_11 := n1_
        have HO_12 := n2_
        have HO_266000 := n3_
        have HO276 := n4_
        have BK250 := n5_
        have BK265 := n6_
        have HB := n7_
        clear n0_ n1_ n2_ n3_ n4_ n5_ n6_ n7_
        (try clear hb)
        (try clear hb2)
        (try clear hk)
        (try clear hi)
        refine hK.out _ _ ⟨(blk_cell BK265.out 0).trans rfl, (blk_cell BK250.out 0).trans rfl⟩ (fun hHeld => ?_)
        clear hK K
        refine norm_ (a' := ?_) ?_ ?_
        rotate_left
        ·show Act.put _ (some 59) _ = _
         simp only [Act.put, List.setIfInBounds_toArray, List.set_cons_zero, List.set_cons_succ, i64_w, i32_w]
         rfl
        refine pure_ (i := 4) (N := some 60) (v := ?_) (a' := ?_) #[true, true, true, true, true] rfl rfl (by kernel_rfl) (fun _ _ _ h => h) (Or.inl ⟨by rfl, ?_⟩) ?_ ?_
        rotate_left
        ·intro w'
         go_simp
         with_reducible rfl
        rotate_left
        ·simp only [Act.put, List.setIfInBounds_toArray, List.set_cons_zero, List.set_cons_succ, i64_w, i32_w]
         rfl
        refine done_ (by kernel_rfl) ?_
        go_upto_region 20 with (first | ((with_reducible refine gate_callee (f := 10) rfl ?_); refine goesL_ (some 63) rfl rfl Try.func10 (by kernel_rfl) rfl #[.slice A1 l1.length c1] rfl zl ?_; (with_reducible refine (laws_toIntS.calls kj16 _ _ l1 t278 _ ?side1 ?side2 A47.out).mono ?_); (case side1 => exact zc (Kd.C_below HR1.out HB.out)); (case side2 => exact HC1.out); rintro e w57 ⟨v279, rfl, ho0, hb⟩; refine ⟨_, rfl, ?_⟩; have n0_ := Aside0.mk (Kd.R_elder' (zr HO_8.out) (Kd.R_base ho0) hb); have n1_ := Aside0.mk (Kd.R_elder' (zr HO_11.out) (Kd.R_base ho0) hb); have n2_ := Aside0.mk (Kd.R_elder' (zr HO_12.out) (Kd.R_base ho0) hb); have n3_ := Aside0.mk (Kd.R_below (zr HO_266000.out) hb); have n4_ := Aside0.mk (Kd.R_below (zr HO276.out) hb); have n5_ := Aside0.mk (Kd.R_lower (Kd.R_new' (Kd.R_new' (Kd.R_new' ho0 (Kd.R_lt (zr HO_8.out))) (Kd.R_lt (zr HO_11.out))) (Kd.R_lt (zr HO_12.out))) (below_size (zb HB.out))); have n6_ := Aside0.mk (blk_below (zh BK250.out) hb); have n7_ := Aside0.mk (blk_below (zh BK265.out) hb); have n8_ := Aside0.mk (below_step (zb HB.out) hb); clear HO_8; clear HO_11; clear HO_12; clear HO_266000; clear HO276; clear BK250; clear BK265; clear HB; have HO_8 := n0_; have HO_11 := n1_; have HO_12 := n2_; have HO_266000 := n3_; have HO276 := n4_; have HO280 := n5_; have BK250 := n6_; have BK265 := n7_; have HB := n8_; clear n0_ n1_ n2_ n3_ n4_ n5_ n6_ n7_ n8_; (try clear hb); (try clear hb2); (try clear hk); (try clear hi); (try clear ho0); obtain ⟨Ao58, co58, eo58⟩ := Kd.R_slice HO280.out; subst eo58) | ((with_reducible refine gate_callee (f := 12) rfl ?_); refine goesL_ (some 64) rfl rfl Try.func12 (by kernel_rfl) rfl #[.slice Ao35 t266.length co35, .slice Ao58 t278.length co58] rfl zl ?_; (with_reducible refine (laws_eqIntS.calls kj16 _ _ t266 _ _ t278 true _ ?side1 ?side2 ?side3 ?side4 A48.out).mono ?_); (case side1 => exact zc (Kd.R_reads' HO_11.out).2.2); (case side2 => exact (Kd.R_reads' HO_11.out).2.1); (case side3 => exact zc (Kd.R_reads' HO280.out).2.2); (case side4 => exact (Kd.R_reads' HO280.out).2.1); rintro e w' ⟨rfl, ⟨nd, rfl⟩⟩; refine ⟨_, rfl, ?_⟩; have hnb59 := NB265_250.out; have hnc59 := NB250_265.out; have hcz60_0 : w57.cell? ⟨gb265, 0, none⟩ = some (.slice Ao30 t262.length co30) := (blk_cell BK265.out 0).trans rfl; have hfz60_0 := blk_frozen BK265.out 0) | ((with_reducible refine gate_callee (f := 14) rfl ?_); refine goesL_ (some 68) rfl rfl Try.func14 (by kernel_rfl) rfl #[.agg #[.slice Ao30 t262.length co30], .int .i64 1] rfl zl ?_; (with_reducible refine (laws_markPool.calls kj16 (fun k_ => some k_ = (.slice Ao30 t262.length co30 : Value).ownBlock) (.slice Ao30 t262.length co30) t262 1 t282 t283 w _ ?side1 ?side2 A50.out).mono ?_); (case side1 => repeat (first | (with_reducible first | exact HB.out | apply below_alloc | apply pw_below_drewN | apply below_drew1 | refine below_set ?_ GE250.out | refine below_set ?_ GE265.out) | exact HB.out)); (case side2 => exact Kd.R_tight rfl HO_266000.out); rintro e w61 ⟨rfl, hy0, hb, hkp⟩; refine ⟨_, rfl, ?_⟩; have n0_ := Aside0.mk (Kd.R_mono (ok' := fun k_ => some k_ ≠ (.slice Ao35 t266.length co35 : Value).ownBlock ∧ some k_ ≠ (v270 : Value).ownBlock ∧ some k_ ≠ (.slice Ao58 t278.length co58 : Value).ownBlock) (Kd.R_keptB ((Kd.R_apart' HO_8.out (Kd.R_typed HO_266000.out) (by decide))) hkp (fun k_ hk_ hs_ => by first | exact (hk_.2) hs_ | (revert hk_; simp only [and_imp]; intros; exact absurd hs_ (by assumption)))) (fun k_ hk_ => by first | exact ⟨hk_.1.1.1.1, hk_.1.1.1.2, hk_.1.1.2⟩ | (revert hk_; simp only [and_imp]; intros; and_intros <;> assumption))); have n1_ := Aside0.mk (Kd.R_mono (ok' := fun k_ => some k_ ≠ (v259 : Value).ownBlock ∧ some k_ ≠ (v270 : Value).ownBlock ∧ some k_ ≠ (.slice Ao58 t278.length co58 : Value).ownBlock) (Kd.R_keptB ((Kd.R_apart' HO_11.out (Kd.R_typed HO_266000.out) (by decide))) hkp (fun k_ hk_ hs_ => by first | exact (hk_.2) hs_ | (revert hk_; simp only [and_imp]; intros; exact absurd hs_ (by assumption)))) (fun k_ hk_ => by first | exact ⟨hk_.1.1.1.1, hk_.1.1.1.2, hk_.1.1.2⟩ | (revert hk_; simp only [and_imp]; intros; and_intros <;> assumption))); have n2_ := Aside0.mk (Kd.R_mono (ok' := fun k_ => some k_ ≠ (v259 : Value).ownBlock ∧ some k_ ≠ (.slice Ao35 t266.length co35 : Value).ownBlock ∧ some k_ ≠ (.slice Ao58 t278.length co58 : Value).ownBlock) (Kd.R_keptB ((Kd.R_apart' HO_12.out (Kd.R_typed HO_266000.out) (by decide))) hkp (fun k_ hk_ hs_ => by first | exact (hk_.2) hs_ | (revert hk_; simp only [and_imp]; intros; exact absurd hs_ (by assumption)))) (fun k_ hk_ => by first | exact ⟨hk_.1.1.1.1, hk_.1.1.1.2, hk_.1.1.2⟩ | (revert hk_; simp only [and_imp]; intros; and_intros <;> assumption))); have n3_ := Aside0.mk (Kd.R_reok rfl hy0 (fun k_ e_ => HO_266000.out.1 k_ e_)); have n4_ := Aside0.mk (blk_kept (zh BK250.out) hkp (fun hs_ => (fun e_ => (Kd.R_ne HO_266000.out BK250.out (by decide)) e_) hs_)); have n5_ := Aside0.mk (blk_kept (zh BK265.out) hkp (fun hs_ => (fun e_ => (Kd.R_ne HO_266000.out BK265.out (by decide)) e_) hs_)); have n6_ := Aside0.mk (Kd.R_mono (ok' := fun k_ => some k_ ≠ (.slice Ao30 t262.length co30 : Value).ownBlock) (Kd.R_keptB (HO276.out) hkp (fun k_ hk_ hs_ => by first | exact (hk_.2) hs_ | (revert hk_; simp only [and_imp]; intros; exact absurd hs_ (by assumption)))) (fun k_ hk_ => by first | exact hk_.1.2 | (revert hk_; simp only [and_imp]; intros; and_intros <;> assumption))); have n7_ := Aside0.mk (Kd.R_mono (ok' := fun k_ => some k_ ≠ (v259 : Value).ownBlock ∧ some k_ ≠ (.slice Ao35 t266.length co35 : Value).ownBlock ∧ some k_ ≠ (v270 : Value).ownBlock) (Kd.R_keptB ((Kd.R_apart' HO280.out (Kd.R_typed HO_266000.out) (by decide))) hkp (fun k_ hk_ hs_ => by first | exact (hk_.2) hs_ | (revert hk_; simp only [and_imp]; intros; exact absurd hs_ (by assumption)))) (fun k_ hk_ => by first | exact ⟨hk_.1.1.1.1.2, hk_.1.1.1.2, hk_.1.1.2⟩ | (revert hk_; simp only [and_imp]; intros; and_intros <;> assumption))); have n8_ := Aside0.mk (hb); clear HO_8; clear HO_11; clear HO_12; clear HO_266000; clear BK250; clear BK265; clear HO276; clear HO280; clear HB; have HO_8 := n0_; have HO_11 := n1_; have HO_12 := n2_; have HO_266000 := n3_; have BK250 := n4_; have BK265 := n5_; have HO276 := n6_; have HO280 := n7_; have HB := n8_; clear n0_ n1_ n2_ n3_ n4_ n5_ n6_ n7_ n8_; (try clear hb); (try clear hkp); (try clear hy0)) | ((with_reducible refine gate_callee (f := 15) rfl ?_); refine goesL_ (some 71) rfl rfl Try.func15 (by kernel_rfl) rfl #[.slice Ao35 t266.length co35, .int .i64 t282] rfl zl ?_; (with_reducible refine (laws_markIntS.calls kj16 (fun k_ => some k_ = (.slice Ao35 t266.length co35 : Value).ownBlock) (.slice Ao35 t266.length co35) t266 t282 t284 t285 w _ ?side1 ?side2 A51.out).mono ?_); (case side1 => repeat (first | (with_reducible first | exact HB.out | apply below_alloc | apply pw_below_drewN | apply below_drew1 | refine below_set ?_ GE250.out | refine below_set ?_ GE265.out) | exact HB.out)); (case side2 => exact Kd.R_tight rfl HO_11.out); rintro e w62 ⟨rfl, hy0, hb, hkp⟩; refine ⟨_, rfl, ?_⟩; have n0_ := Aside0.mk (Kd.R_mono (ok' := fun k_ => some k_ ≠ (.slice Ao35 t266.length co35 : Value).ownBlock ∧ some k_ ≠ (v270 : Value).ownBlock ∧ some k_ ≠ (.slice Ao58 t278.length co58 : Value).ownBlock) (Kd.R_keptB (HO_8.out) hkp (fun k_ hk_ hs_ => by first | exact (hk_.1) hs_ | (revert hk_; simp only [and_imp]; intros; exact absurd hs_ (by assumption)))) (fun k_ hk_ => by first | exact ⟨hk_.1.1, hk_.1.2.1, hk_.1.2.2⟩ | (revert hk_; simp only [and_imp]; intros; and_intros <;> assumption))); have n1_ := Aside0.mk (Kd.R_reok rfl hy0 (fun k_ e_ => HO_11.out.1 k_ e_)); have n2_ := Aside0.mk (Kd.R_mono (ok' := fun k_ => some k_ ≠ (v259 : Value).ownBlock ∧ some k_ ≠ (.slice Ao35 t266.length co35 : Value).ownBlock ∧ some k_ ≠ (.slice Ao58 t278.length co58 : Value).ownBlock) (Kd.R_keptB (HO_12.out) hkp (fun k_ hk_ hs_ => by first | exact (hk_.2.1) hs_ | (revert hk_; simp only [and_imp]; intros; exact absurd hs_ (by assumption)))) (fun k_ hk_ => by first | exact ⟨hk_.1.1, hk_.1.2.1, hk_.1.2.2⟩ | (revert hk_; simp only [and_imp]; intros; and_intros <;> assumption))); have n3_ := Aside0.mk (Kd.R_mono (ok' := fun k_ => some k_ ≠ (.slice Ao55 t274.length co55 : Value).ownBlock) (Kd.R_keptB ((Kd.R_apart' HO_266000.out (Kd.R_typed HO_11.out) (by decide))) hkp (fun k_ hk_ hs_ => by first | exact (hk_.2) hs_ | (revert hk_; simp only [and_imp]; intros; exact absurd hs_ (by assumption)))) (fun k_ hk_ => by first | exact hk_.1.1.2 | (revert hk_; simp only [and_imp]; intros; and_intros <;> assumption))); have n4_ := Aside0.mk (blk_kept (zh BK250.out) hkp (fun hs_ => (fun e_ => (Kd.R_ne HO_11.out BK250.out (by decide)) e_) hs_)); have n5_ := Aside0.mk (blk_kept (zh BK265.out) hkp (fun hs_ => (fun e_ => (Kd.R_ne HO_11.out BK265.out (by decide)) e_) hs_)); have n6_ := Aside0.mk (Kd.R_mono (ok' := fun k_ => some k_ ≠ (.slice Ao30 t262.length co30 : Value).ownBlock) (Kd.R_keptB ((Kd.R_apart' HO276.out (Kd.R_typed HO_11.out) (by decide))) hkp (fun k_ hk_ hs_ => by first | exact (hk_.2) hs_ | (revert hk_; simp only [and_imp]; intros; exact absurd hs_ (by assumption)))) (fun k_ hk_ => by first | exact hk_.1.1 | (revert hk_; simp only [and_imp]; intros; and_intros <;> assumption))); have n7_ := Aside0.mk (Kd.R_mono (ok' := fun k_ => some k_ ≠ (v259 : Value).ownBlock ∧ some k_ ≠ (.slice Ao35 t266.length co35 : Value).ownBlock ∧ some k_ ≠ (v270 : Value).ownBlock) (Kd.R_keptB (HO280.out) hkp (fun k_ hk_ hs_ => by first | exact (hk_.2.1) hs_ | (revert hk_; simp only [and_imp]; intros; exact absurd hs_ (by assumption)))) (fun k_ hk_ => by first | exact ⟨hk_.1.1, hk_.1.2.1, hk_.1.2.2⟩ | (revert hk_; simp only [and_imp]; intros; and_intros <;> assumption))); have n8_ := Aside0.mk (hb); clear HO_8; clear HO_11; clear HO_12; clear HO_266000; clear BK250; clear BK265; clear HO276; clear HO280; clear HB; have HO_8 := n0_; have HO_11 := n1_; have HO_12 := n2_; have HO_266000 := n3_; have BK250 := n4_; have BK265 := n5_; have HO276 := n6_; have HO280 := n7_; have HB := n8_; clear n0_ n1_ n2_ n3_ n4_ n5_ n6_ n7_ n8_; (try clear hb); (try clear hkp); (try clear hy0)))
        (try simp only [Act.put, List.setIfInBounds_toArray, List.set_cons_zero, List.set_cons_succ])
        go_cut [84] (fun v84 wc => ∃ (kq : Nat) (x84_51 : Bool), v84 = .bool x84_51 ∧ Aside0 (laws_FnExactKnowPut.j1 kq l1 a2 t258 t261 t269 x84_51 l0_0 = some r) ∧ Aside0 (kq ≤ kj16) ∧ Aside0 (Kd.R (Kd.int .i64) 3 wc w.heap.size (fun k_ => some k_ ≠ (v270 : Value).ownBlock) v259 t258) ∧ Aside0 (Kd.R (Kd.int .i64) 3 wc w.heap.size (fun k_ => some k_ ≠ (v259 : Value).ownBlock) v270 t269) ∧ Aside0 (Kd.R k67 67 wc w.heap.size (fun _ => True) (.slice Ao30 t262.length co30) t283) ∧ Aside0 (wc.heap[gb250]? = some (.cells #[(.slice A0_0 l0_0.length c0_0)] 24 (0, 0))) ∧ Aside0 (wc.heap[gb265]? = some (.cells #[(.slice Ao30 t262.length co30)] 31 (0, 0))) ∧ Aside0 (Below w.heap.size w wc))
        case first =>
         have H := HC52.out
         clear HC52
         by_cases c63 : t284 < 0
         ·rw [if_pos c63] at H
          have c63b0 : decide (t284 < 0) = true := decide_eq_true c63
          clear c63
          (first | rw [c63b0] | (simp only [i64_w, i32_w]; rw [c63b0]) | skip)
          have H' := Aside0.mk H
          clear H
          go_wp2
          go_meet
          case rel => exact ⟨_, (true), (by first | rfl | (simp; done) | (simp [*]; done)), H', ⟨by have := HJ16.out; first | omega | exact Nat.le_refl _⟩, ⟨zr (Kd.R_mono HO_8.out (fun _ hk => hk.2.1))⟩, ⟨zr (Kd.R_mono HO_12.out (fun _ hk => hk.1))⟩, ⟨zr (Kd.R_mono HO_266000.out (fun _ hk => trivial))⟩, ⟨zh BK250.out⟩, ⟨zh BK265.out⟩, ⟨zb HB.out⟩⟩
         ·rw [if_neg c63] at H
          have c63b0 : decide (t284 < 0) = false := decide_eq_false c63
          clear c63
          (first | rw [c63b0] | (simp only [i64_w, i32_w]; rw [c63b0]) | skip)
          replace H := Option.bind_eq_some_iff.mp H
          obtain ⟨t286, A640, H⟩ := H
          replace H : (if t286 = true then (laws_FnExactKnowPut.j1 kj16 l1 a2 t258 t261 t269 (t272 != t261) l0_0) else (laws_FnExactKnowPut.j1 kj16 l1 a2 t258 t261 t269 true l0_0)) = some r := H
          have A64 := Aside0.mk A640
          clear A640
          by_cases c65 : t286 = true
          ·subst c65
           have H1 : (laws_FnExactKnowPut.j1 kj16 l1 a2 t258 t261 t269 (t272 != t261) l0_0) = some r := by rw [if_pos rfl] at H; exact H
           clear H
           have H := H1
           clear H1
           have H' := Aside0.mk H
           clear H
           obtain ⟨Ao66, co66, eo66⟩ := Kd.R_slice HO_12.out
           subst eo66
           obtain ⟨Ao67, co67, eo67⟩ := Kd.R_slice HO_8.out
           subst eo67
           go_wp2_with (first | (go_at_call 12; (with_reducible refine (laws_eqIntS.calls kj16 _ _ t269 _ _ t258 true _ ?side1 ?side2 ?side3 ?side4 A64.out).mono ?_); (case side1 => exact zc (Kd.R_reads' HO_12.out).2.2); (case side2 => exact (Kd.R_reads' HO_12.out).2.1); (case side3 => exact zc (Kd.R_reads' HO_8.out).2.2); (case side4 => exact (Kd.R_reads' HO_8.out).2.1); rintro e w' ⟨rfl, ⟨nd, rfl⟩⟩))
           go_meet
           case rel => exact ⟨_, ((t272 != t261)), (by first | rfl | (simp; done) | (simp [*]; done)), H', ⟨by have := HJ16.out; first | omega | exact Nat.le_refl _⟩, ⟨zr (Kd.R_mono HO_8.out (fun _ hk => hk.2.1))⟩, ⟨zr (Kd.R_mono HO_12.out (fun _ hk => hk.1))⟩, ⟨zr (Kd.R_mono HO_266000.out (fun _ hk => trivial))⟩, ⟨zh BK250.out⟩, ⟨zh BK265.out⟩, ⟨zb HB.out⟩⟩
          ·replace c65 := Bool.eq_false_iff.mpr c65
           subst c65
           have H1 : (laws_FnExactKnowPut.j1 kj16 l1 a2 t258 t261 t269 true l0_0) = some r := by rw [if_neg (show ¬ (false = true) by decide)] at H; exact H
           clear H
           have H := H1
           clear H1
           have H' := Aside0.mk H
           clear H
           obtain ⟨Ao68, co68, eo68⟩ := Kd.R_slice HO_12.out
           subst eo68
           obtain ⟨Ao69, co69, eo69⟩ := Kd.R_slice HO_8.out
           subst eo69
           go_wp2_with (first | (go_at_call 12; (with_reducible refine (laws_eqIntS.calls kj16 _ _ t269 _ _ t258 false _ ?side1 ?side2 ?side3 ?side4 A64.out).mono ?_); (case side1 => exact zc (Kd.R_reads' HO_12.out).2.2); (case side2 => exact (Kd.R_reads' HO_12.out).2.1); (case side3 => exact zc (Kd.R_reads' HO_8.out).2.2); (case side4 => exact (Kd.R_reads' HO_8.out).2.1); rintro e w' ⟨rfl, ⟨nd, rfl⟩⟩))
           go_meet
           case rel => exact ⟨_, (true), (by first | rfl | (simp; done) | (simp [*]; done)), H', ⟨by have := HJ16.out; first | omega | exact Nat.le_refl _⟩, ⟨zr (Kd.R_mono HO_8.out (fun _ hk => hk.2.1))⟩, ⟨zr (Kd.R_mono HO_12.out (fun _ hk => hk.1))⟩, ⟨zr (Kd.R_mono HO_266000.out (fun _ hk => trivial))⟩, ⟨zh BK250.out⟩, ⟨zh BK265.out⟩, ⟨zb HB.out⟩⟩
        case rest =>
         clear HC52
         try clear c1
         try clear p2
         try clear c3
         try clear c4
         try clear c4b0
         try clear c4b1
         try clear c5
         try clear c6
         try clear c7
         try clear c7b0
         try clear c8
         try clear c9
         try clear c10
         try clear c11
         try clear c12
         try clear c13
         try clear c14
         try clear c15
         try clear c31
         try clear c38
         try clear c43
         try clear c46
         try clear c49
         try clear c59
         try clear c63
         try clear c63b0
         try clear c65
         try clear hcz19_0
         try clear hcz21_0
         try clear hcz27_0
         try clear hcz32_0
         try clear hcz34_0
         try clear hcz60_0
         try clear hcz9_0
         try clear hfz19_0
         try clear hfz21_0
         try clear hfz27_0
         try clear hfz32_0
         try clear hfz34_0
         try clear hfz60_0
         try clear hfz9_0
         try clear p2
         obtain ⟨kq, x84_51, rfl, HA, HJ51, HO_8, HO_12, HO_266000, BK250, BK265, HB⟩ := hcut
         have hl266000_51 := (Kd.R_reads' HO_266000.out).1
         rw [hl266000_51] at HO_266000
         (try simp only [hl266000_51])
         (try simp only [hl266000_51] at BK250)
         (try simp only [hl266000_51] at BK265)
         (try simp only [hl266000_51] at HO_8)
         (try simp only [hl266000_51] at HO_12)
         cases kq with
         | zero => exact absurd HA.out (by simp [laws_FnExactKnowPut.j1])
         | succ kj51 =>
          have H := HA.out
          clear HA
          simp only [laws_FnExactKnowPut.j1] at H
          by_cases c70 : x84_51 = true
          ·subst c70
           have H1 : (some false) = some r := by rw [if_pos rfl] at H; exact H
           clear H
           have H := H1
           clear H1
           obtain rfl := Option.some.inj H
           go_wp2
           go_ret
           exact ⟨ze, zb HB.out⟩
          ·replace c70 := Bool.eq_false_iff.mpr c70
           subst c70
           have H1 : ((laws_markIntS.f kj51 t269 1).bind fun bt287 => ((laws_heldIntS.f kj51 bt287.2 1).bind fun t289 => (if t289 < 0 then (some false) else (if t289 = bt287.1 then ((laws_toPool.f kj51 l0_0).bind fun t290 => ((laws_toIntS.f kj51 l1).bind fun t293 => ((impl_KnowPut.f kj51 t290 t293 a2).bind fun bt296 => ((laws_eqIntS.f kj51 bt296.1 t258).bind fun t300 => (if t300 = true then (laws_FnExactKnowPut.j2 kj51 bt287.2 bt287.1 (bt296.2 != t261)) else (laws_FnExactKnowPut.j2 kj51 bt287.2 bt287.1 true)))))) else (some false))))) = some r := by rw [if_neg (show ¬ (false = true) by decide)] at H; exact H
           clear H
           have H := H1
           clear H1
           replace H := Option.bind_eq_some_iff.mp H
           obtain ⟨⟨t287, t288⟩, A710, H⟩ := H
           replace H : ((laws_heldIntS.f kj51 t288 1).bind fun t289 => (if t289 < 0 then (some false) else (if t289 = t287 then ((laws_toPool.f kj51 l0_0).bind fun t290 => ((laws_toIntS.f kj51 l1).bind fun t293 => ((impl_KnowPut.f kj51 t290 t293 a2).bind fun bt296 => ((laws_eqIntS.f kj51 bt296.1 t258).bind fun t300 => (if t300 = true then (laws_FnExactKnowPut.j2 kj51 t288 t287 (bt296.2 != t261)) else (laws_FnExactKnowPut.j2 kj51 t288 t287 true)))))) else (some false)))) = some r := H
           have A71 := Aside0.mk A710
           clear A710
           replace H := Option.bind_eq_some_iff.mp H
           obtain ⟨t289, A720, H⟩ := H
           replace H : (if t289 < 0 then (some false) else (if t289 = t287 then ((laws_toPool.f kj51 l0_0).bind fun t290 => ((laws_toIntS.f kj51 l1).bind fun t293 => ((impl_KnowPut.f kj51 t290 t293 a2).bind fun bt296 => ((laws_eqIntS.f kj51 bt296.1 t258).bind fun t300 => (if t300 = true then (laws_FnExactKnowPut.j2 kj51 t288 t287 (bt296.2 != t261)) else (laws_FnExactKnowPut.j2 kj51 t288 t287 true)))))) else (some false))) = some r := H
           have A72 := Aside0.mk A720
           clear A720
           by_cases c73 : t289 < 0
           ·rw [if_pos c73] at H
            have c73b0 : decide (t289 < 0) = true := decide_eq_true c73
            clear c73
            obtain rfl := Option.some.inj H
            obtain ⟨Ao74, co74, eo74⟩ := Kd.R_slice HO_12.out
            subst eo74
            go_wp2_with (first | ((with_reducible refine gate_callee (f := 15) rfl ?_); refine goesL_ (some 87) rfl rfl Try.func15 (by kernel_rfl) rfl #[.slice Ao74 t269.length co74, .int .i64 1] rfl zl ?_; (with_reducible refine (laws_markIntS.calls kj51 (fun k_ => some k_ = (.slice Ao74 t269.length co74 : Value).ownBlock) (.slice Ao74 t269.length co74) t269 1 t287 t288 w _ ?side1 ?side2 A71.out).mono ?_); (case side1 => repeat (first | (with_reducible first | exact HB.out | apply below_alloc | apply pw_below_drewN | apply below_drew1 | refine below_set ?_ GE250.out | refine below_set ?_ GE265.out) | exact HB.out)); (case side2 => exact Kd.R_tight rfl HO_12.out); rintro e w75 ⟨rfl, hy0, hb, hkp⟩; refine ⟨_, rfl, ?_⟩; have n0_ := Aside0.mk (Kd.R_mono (ok' := fun k_ => some k_ ≠ (.slice Ao74 t269.length co74 : Value).ownBlock) (Kd.R_keptB (HO_8.out) hkp (fun k_ hk_ hs_ => by first | exact (hk_) hs_ | (revert hk_; simp only [and_imp]; intros; exact absurd hs_ (by assumption)))) (fun k_ hk_ => by first | exact hk_.1 | (revert hk_; simp only [and_imp]; intros; and_intros <;> assumption))); have n1_ := Aside0.mk (Kd.R_reok rfl hy0 (fun k_ e_ => HO_12.out.1 k_ e_)); have n2_ := Aside0.mk (Kd.R_mono (ok' := fun k_ => True) (Kd.R_keptB ((Kd.R_apart' HO_266000.out (Kd.R_typed HO_12.out) (by decide))) hkp (fun k_ hk_ hs_ => by first | exact (hk_.2) hs_ | (revert hk_; simp only [and_imp]; intros; exact absurd hs_ (by assumption)))) (fun k_ hk_ => trivial)); have n3_ := Aside0.mk (blk_kept (zh BK250.out) hkp (fun hs_ => (fun e_ => (Kd.R_ne HO_12.out BK250.out (by decide)) e_) hs_)); have n4_ := Aside0.mk (blk_kept (zh BK265.out) hkp (fun hs_ => (fun e_ => (Kd.R_ne HO_12.out BK265.out (by decide)) e_) hs_)); have n5_ := Aside0.mk (hb); clear HO_8; clear HO_12; clear HO_266000; clear BK250; clear BK265; clear HB; have HO_8 := n0_; have HO_12 := n1_; have HO_266000 := n2_; have BK250 := n3_; have BK265 := n4_; have HB := n5_; clear n0_ n1_ n2_ n3_ n4_ n5_; (try clear hb); (try clear hkp); (try clear hy0)) | ((with_reducible refine gate_callee (f := 16) rfl ?_); refine goesL_ (some 90) rfl rfl Try.func16 (by kernel_rfl) rfl #[.slice Ao74 t288.length co74, .int .i64 1] rfl (by (try simp only [List.map_toArray, List.map_cons, List.map_nil]); first | done | (rw [show t288.length = t269.length from (Kd.R_reads' HO_12.out).1.symm] <;> rfl) | rfl | (simp only [List.length_drop, List.length_take]; rfl)) ?_; (with_reducible refine (laws_heldIntS.calls kj51 _ _ t288 1 t289 _ ?side1 ?side2 A72.out).mono ?_); (case side1 => exact zc (Kd.R_reads' HO_12.out).2.2); (case side2 => rw [show t288.length = t269.length from (Kd.R_reads' HO_12.out).1.symm]; exact (Kd.R_reads' HO_12.out).2.1); rintro e w' ⟨rfl, ⟨nd, rfl⟩⟩; refine ⟨_, rfl, ?_⟩))
            go_ret
            exact ⟨ze, zb HB.out⟩
           ·rw [if_neg c73] at H
            have c73b0 : decide (t289 < 0) = false := decide_eq_false c73
            clear c73
            by_cases c76 : t289 = t287
            ·rw [if_pos c76] at H
             have c76b0 : (t289 == t287) = true := beq_iff_eq.mpr c76
             have c76b1 : (t289 != t287) = false := bne_eq_false_iff_eq.mpr c76
             clear c76
             replace H := Option.bind_eq_some_iff.mp H
             obtain ⟨t290, A770, H⟩ := H
             replace H : ((laws_toIntS.f kj51 l1).bind fun t293 => ((impl_KnowPut.f kj51 t290 t293 a2).bind fun bt296 => ((laws_eqIntS.f kj51 bt296.1 t258).bind fun t300 => (if t300 = true then (laws_FnExactKnowPut.j2 kj51 t288 t287 (bt296.2 != t261)) else (laws_FnExactKnowPut.j2 kj51 t288 t287 true))))) = some r := H
             have A77 := Aside0.mk A770
             clear A770
             replace H := Option.bind_eq_some_iff.mp H
             obtain ⟨t293, A780, H⟩ := H
             replace H : ((impl_KnowPut.f kj51 t290 t293 a2).bind fun bt296 => ((laws_eqIntS.f kj51 bt296.1 t258).bind fun t300 => (if t300 = true then (laws_FnExactKnowPut.j2 kj51 t288 t287 (bt296.2 != t261)) else (laws_FnExactKnowPut.j2 kj51 t288 t287 true)))) = some r := H
             have A78 := Aside0.mk A780
             clear A780
             replace H := Option.bind_eq_some_iff.mp H
             obtain ⟨⟨t296, t299⟩, A790, H⟩ := H
             replace H : ((laws_eqIntS.f kj51 t296 t258).bind fun t300 => (if t300 = true then (laws_FnExactKnowPut.j2 kj51 t288 t287 (t299 != t261)) else (laws_FnExactKnowPut.j2 kj51 t288 t287 true))) = some r := H
             have A79 := Aside0.mk A790
             clear A790
             have HC80 := Aside0.mk H
             clear H
             obtain ⟨Ao81, co81, eo81⟩ := Kd.R_slice HO_12.out
             subst eo81
             go_upto_region 31 with (first | ((with_reducible refine gate_callee (f := 15) rfl ?_); refine goesL_ (some 87) rfl rfl Try.func15 (by kernel_rfl) rfl #[.slice Ao81 t269.length co81, .int .i64 1] rfl zl ?_; (with_reducible refine (laws_markIntS.calls kj51 (fun k_ => some k_ = (.slice Ao81 t269.length co81 : Value).ownBlock) (.slice Ao81 t269.length co81) t269 1 t287 t288 w _ ?side1 ?side2 A71.out).mono ?_); (case side1 => repeat (first | (with_reducible first | exact HB.out | apply below_alloc | apply pw_below_drewN | apply below_drew1 | refine below_set ?_ GE250.out | refine below_set ?_ GE265.out) | exact HB.out)); (case side2 => exact Kd.R_tight rfl HO_12.out); rintro e w82 ⟨rfl, hy0, hb, hkp⟩; refine ⟨_, rfl, ?_⟩; have n0_ := Aside0.mk (Kd.R_mono (ok' := fun k_ => some k_ ≠ (.slice Ao81 t269.length co81 : Value).ownBlock) (Kd.R_keptB (HO_8.out) hkp (fun k_ hk_ hs_ => by first | exact (hk_) hs_ | (revert hk_; simp only [and_imp]; intros; exact absurd hs_ (by assumption)))) (fun k_ hk_ => by first | exact hk_.1 | (revert hk_; simp only [and_imp]; intros; and_intros <;> assumption))); have n1_ := Aside0.mk (Kd.R_reok rfl hy0 (fun k_ e_ => HO_12.out.1 k_ e_)); have n2_ := Aside0.mk (Kd.R_mono (ok' := fun k_ => True) (Kd.R_keptB ((Kd.R_apart' HO_266000.out (Kd.R_typed HO_12.out) (by decide))) hkp (fun k_ hk_ hs_ => by first | exact (hk_.2) hs_ | (revert hk_; simp only [and_imp]; intros; exact absurd hs_ (by assumption)))) (fun k_ hk_ => trivial)); have n3_ := Aside0.mk (blk_kept (zh BK250.out) hkp (fun hs_ => (fun e_ => (Kd.R_ne HO_12.out BK250.out (by decide)) e_) hs_)); have n4_ := Aside0.mk (blk_kept (zh BK265.out) hkp (fun hs_ => (fun e_ => (Kd.R_ne HO_12.out BK265.out (by decide)) e_) hs_)); have n5_ := Aside0.mk (hb); clear HO_8; clear HO_12; clear HO_266000; clear BK250; clear BK265; clear HB; have HO_8 := n0_; have HO_12 := n1_; have HO_266000 := n2_; have BK250 := n3_; have BK265 := n4_; have HB := n5_; clear n0_ n1_ n2_ n3_ n4_ n5_; (try clear hb); (try clear hkp); (try clear hy0)) | ((with_reducible refine gate_callee (f := 16) rfl ?_); refine goesL_ (some 90) rfl rfl Try.func16 (by kernel_rfl) rfl #[.slice Ao81 t288.length co81, .int .i64 1] rfl (by (try simp only [List.map_toArray, List.map_cons, List.map_nil]); first | done | (rw [show t288.length = t269.length from (Kd.R_reads' HO_12.out).1.symm] <;> rfl) | rfl | (simp only [List.length_drop, List.length_take]; rfl)) ?_; (with_reducible refine (laws_heldIntS.calls kj51 _ _ t288 1 t289 _ ?side1 ?side2 A72.out).mono ?_); (case side1 => exact zc (Kd.R_reads' HO_12.out).2.2); (case side2 => rw [show t288.length = t269.length from (Kd.R_reads' HO_12.out).1.symm]; exact (Kd.R_reads' HO_12.out).2.1); rintro e w' ⟨rfl, ⟨nd, rfl⟩⟩; refine ⟨_, rfl, ?_⟩; have hnb83 := NB250_265.out; have hnc83 := NB265_250.out; have hcz84_0 : w82.cell? ⟨gb250, 0, none⟩ = some (.slice A0_0 l0_0.length c0_0) := (blk_cell BK250.out 0).trans rfl; have hfz84_0 := blk_frozen BK250.out 0) | ((with_reducible refine gate_callee (f := 9) rfl ?_); refine goesL_ (some 98) rfl rfl Try.func9 (by kernel_rfl) rfl #[.agg #[.slice A0_0 l0_0.length c0_0]] rfl zl ?_; (with_reducible refine (laws_toPool.calls kj51 _ _ l0_0 t290 _ ?side1 ?side2 A77.out).mono ?_); (case side1 => exact zc (Kd.C_below HR0_0.out (zb HB.out))); (case side2 => exact HC0_0.out); rintro e w85 ⟨v291, rfl, ho0, hb⟩; refine ⟨_, rfl, ?_⟩; have n0_ := Aside0.mk (Kd.R_below (zr HO_8.out) hb); have n1_ := Aside0.mk (Kd.R_below (zr HO_12.out) hb); have n2_ := Aside0.mk (Kd.R_elder' (zr HO_266000.out) (Kd.R_base ho0) hb); have n3_ := Aside0.mk (Kd.R_lower (Kd.R_new' ho0 (Kd.R_lt (zr HO_266000.out))) (below_size (zb HB.out))); have n4_ := Aside0.mk (blk_below (zh BK250.out) hb); have n5_ := Aside0.mk (blk_below (zh BK265.out) hb); have n6_ := Aside0.mk (below_step (zb HB.out) hb); clear HO_8; clear HO_12; clear HO_266000; clear BK250; clear BK265; clear HB; have HO_8 := n0_; have HO_12 := n1_; have HO_266000 := n2_; have HO292 := n3_; have BK250 := n4_; have BK265 := n5_; have HB := n6_; clear n0_ n1_ n2_ n3_ n4_ n5_ n6_; (try clear hb); (try clear hb2); (try clear hk); (try clear hi); (try clear ho0)) | ((with_reducible refine gate_callee (f := 10) rfl ?_); refine goesL_ (some 100) rfl rfl Try.func10 (by kernel_rfl) rfl #[.slice A1 l1.length c1] rfl zl ?_; (with_reducible refine (laws_toIntS.calls kj51 _ _ l1 t293 _ ?side1 ?side2 A78.out).mono ?_); (case side1 => exact zc (Kd.C_below HR1.out HB.out)); (case side2 => exact HC1.out); rintro e w86 ⟨v294, rfl, ho0, hb⟩; refine ⟨_, rfl, ?_⟩; have n0_ := Aside0.mk (Kd.R_elder' (zr HO_8.out) (Kd.R_base ho0) hb); have n1_ := Aside0.mk (Kd.R_elder' (zr HO_12.out) (Kd.R_base ho0) hb); have n2_ := Aside0.mk (Kd.R_below (zr HO_266000.out) hb); have n3_ := Aside0.mk (Kd.R_below (zr HO292.out) hb); have n4_ := Aside0.mk (Kd.R_lower (Kd.R_new' (Kd.R_new' ho0 (Kd.R_lt (zr HO_8.out))) (Kd.R_lt (zr HO_12.out))) (below_size (zb HB.out))); have n5_ := Aside0.mk (blk_below (zh BK250.out) hb); have n6_ := Aside0.mk (blk_below (zh BK265.out) hb); have n7_ := Aside0.mk (below_step (zb HB.out) hb); clear HO_8; clear HO_12; clear HO_266000; clear HO292; clear BK250; clear BK265; clear HB; have HO_8 := n0_; have HO_12 := n1_; have HO_266000 := n2_; have HO292 := n3_; have HO295 := n4_; have BK250 := n5_; have BK265 := n6_; have HB := n7_; clear n0_ n1_ n2_ n3_ n4_ n5_ n6_ n7_; (try clear hb); (try clear hb2); (try clear hk); (try clear hi); (try clear ho0); obtain ⟨Ao87, co87, eo87⟩ := Kd.R_slice HO292.out; subst eo87; obtain ⟨Ao88, co88, eo88⟩ := Kd.R_slice HO295.out; subst eo88) | ((with_reducible refine gate_callee (f := 11) rfl ?_); refine goesL_ (some 102) rfl rfl Try.func11 (by kernel_rfl) rfl #[.agg #[.slice Ao87 t290.length co87], .slice Ao88 t293.length co88, .int .i64 a2] rfl zl ?_; (with_reducible refine (impl_KnowPut.calls kj51 _ _ t290 _ _ t293 a2 t296 t299 _ ?side1 ?side2 ?side3 ?side4 A79.out).mono ?_); (case side1 => exact zc (Kd.R_reads' HO292.out).2.2); (case side2 => exact (Kd.R_reads' HO292.out).2.1); (case side3 => exact zc (Kd.R_reads' HO295.out).2.2); (case side4 => exact (Kd.R_reads' HO295.out).2.1); rintro e w89 ⟨v297, rfl, ho0, hb⟩; refine ⟨_, rfl, ?_⟩; have n0_ := Aside0.mk (Kd.R_elder' (zr HO_8.out) (Kd.R_base ho0) hb); have n1_ := Aside0.mk (Kd.R_elder' (zr HO_12.out) (Kd.R_base ho0) hb); have n2_ := Aside0.mk (Kd.R_below (zr HO_266000.out) hb); have n3_ := Aside0.mk (Kd.R_below (zr HO292.out) hb); have n4_ := Aside0.mk (Kd.R_elder' (zr HO295.out) (Kd.R_base ho0) hb); have n5_ := Aside0.mk (Kd.R_lower (Kd.R_new' (Kd.R_new' (Kd.R_new' ho0 (Kd.R_lt (zr HO_8.out))) (Kd.R_lt (zr HO_12.out))) (Kd.R_lt (zr HO295.out))) (below_size (zb HB.out))); have n6_ := Aside0.mk (blk_below (zh BK250.out) hb); have n7_ := Aside0.mk (blk_below (zh BK265.out) hb); have n8_ := Aside0.mk (below_step (zb HB.out) hb); clear HO_8; clear HO_12; clear HO_266000; clear HO292; clear HO295; clear BK250; clear BK265; clear HB; have HO_8 := n0_; have HO_12 := n1_; have HO_266000 := n2_; have HO292 := n3_; have HO295 := n4_; have HO298 := n5_; have BK250 := n6_; have BK265 := n7_; have HB := n8_; clear n0_ n1_ n2_ n3_ n4_ n5_ n6_ n7_ n8_; (try clear hb); (try clear hb2); (try clear hk); (try clear hi); (try clear ho0)))
             (try simp only [Act.put, List.setIfInBounds_toArray, List.set_cons_zero, List.set_cons_succ])
             go_cut [113] (fun v113 wc => ∃ (kq : Nat) (x113_79 : Bool), v113 = .bool x113_79 ∧ Aside0 (laws_FnExactKnowPut.j2 kq t288 t287 x113_79 = some r) ∧ Aside0 (kq ≤ kj51) ∧ Aside0 (Kd.R (Kd.int .i64) 3 wc w.heap.size (fun _ => True) (.slice Ao81 t269.length co81) t288) ∧ Aside0 (Kd.R k67 67 wc w.heap.size (fun _ => True) (.slice Ao30 t283.length co30) t283) ∧ Aside0 (wc.heap[gb250]? = some (.cells #[(.slice A0_0 l0_0.length c0_0)] 24 (0, 0))) ∧ Aside0 (wc.heap[gb265]? = some (.cells #[(.slice Ao30 t283.length co30)] 31 (0, 0))) ∧ Aside0 (Below w.heap.size w wc))
             case first =>
              have H := HC80.out
              clear HC80
              replace H := Option.bind_eq_some_iff.mp H
              obtain ⟨t300, A900, H⟩ := H
              replace H : (if t300 = true then (laws_FnExactKnowPut.j2 kj51 t288 t287 (t299 != t261)) else (laws_FnExactKnowPut.j2 kj51 t288 t287 true)) = some r := H
              have A90 := Aside0.mk A900
              clear A900
              by_cases c91 : t300 = true
              ·subst c91
               have H1 : (laws_FnExactKnowPut.j2 kj51 t288 t287 (t299 != t261)) = some r := by rw [if_pos rfl] at H; exact H
               clear H
               have H := H1
               clear H1
               have H' := Aside0.mk H
               clear H
               obtain ⟨Ao92, co92, eo92⟩ := Kd.R_slice HO298.out
               subst eo92
               obtain ⟨Ao93, co93, eo93⟩ := Kd.R_slice HO_8.out
               subst eo93
               go_wp2_with (first | ((with_reducible refine gate_callee (f := 12) rfl ?_); refine goesL_ (some 107) rfl rfl Try.func12 (by kernel_rfl) rfl #[.slice Ao92 t296.length co92, .slice Ao93 t258.length co93] rfl zl ?_; (with_reducible refine (laws_eqIntS.calls kj51 _ _ t296 _ _ t258 true _ ?side1 ?side2 ?side3 ?side4 A90.out).mono ?_); (case side1 => exact zc (Kd.R_reads' HO298.out).2.2); (case side2 => exact (Kd.R_reads' HO298.out).2.1); (case side3 => exact zc (Kd.R_reads' HO_8.out).2.2); (case side4 => exact (Kd.R_reads' HO_8.out).2.1); rintro e w' ⟨rfl, ⟨nd, rfl⟩⟩; refine ⟨_, rfl, ?_⟩))
               go_meet
               case rel => exact ⟨_, ((t299 != t261)), (by first | rfl | (simp; done) | (simp [*]; done)), H', ⟨by have := HJ16.out; have := HJ51.out; first | omega | exact Nat.le_refl _⟩, ⟨by (try simp only [hl266000_51]); (with_reducible repeat (first | apply Kd.R_alloc | apply Kd.R_drewN | apply Kd.R_drew)); exact Kd.R_mono HO_12.out (fun _ hk => trivial)⟩, ⟨by (try simp only [hl266000_51]); (with_reducible repeat (first | apply Kd.R_alloc | apply Kd.R_drewN | apply Kd.R_drew)); exact Kd.R_mono HO_266000.out (fun _ hk => trivial)⟩, ⟨by (try simp only [hl266000_51]); (with_reducible repeat (first | refine blk_drewN ?_ _ | refine blk_drew ?_ | refine blk_alloc ?_ _)); exact BK250.out⟩, ⟨by (try simp only [hl266000_51]); (with_reducible repeat (first | refine blk_drewN ?_ _ | refine blk_drew ?_ | refine blk_alloc ?_ _)); exact BK265.out⟩, ⟨zb HB.out⟩⟩
              ·replace c91 := Bool.eq_false_iff.mpr c91
               subst c91
               have H1 : (laws_FnExactKnowPut.j2 kj51 t288 t287 true) = some r := by rw [if_neg (show ¬ (false = true) by decide)] at H; exact H
               clear H
               have H := H1
               clear H1
               have H' := Aside0.mk H
               clear H
               obtain ⟨Ao94, co94, eo94⟩ := Kd.R_slice HO298.out
               subst eo94
               obtain ⟨Ao95, co95, eo95⟩ := Kd.R_slice HO_8.out
               subst eo95
               go_wp2_with (first | ((with_reducible refine gate_callee (f := 12) rfl ?_); refine goesL_ (some 107) rfl rfl Try.func12 (by kernel_rfl) rfl #[.slice Ao94 t296.length co94, .slice Ao95 t258.length co95] rfl zl ?_; (with_reducible refine (laws_eqIntS.calls kj51 _ _ t296 _ _ t258 false _ ?side1 ?side2 ?side3 ?side4 A90.out).mono ?_); (case side1 => exact zc (Kd.R_reads' HO298.out).2.2); (case side2 => exact (Kd.R_reads' HO298.out).2.1); (case side3 => exact zc (Kd.R_reads' HO_8.out).2.2); (case side4 => exact (Kd.R_reads' HO_8.out).2.1); rintro e w' ⟨rfl, ⟨nd, rfl⟩⟩; refine ⟨_, rfl, ?_⟩))
               go_meet
               case rel => exact ⟨_, (true), (by first | rfl | (simp; done) | (simp [*]; done)), H', ⟨by have := HJ16.out; have := HJ51.out; first | omega | exact Nat.le_refl _⟩, ⟨by (try simp only [hl266000_51]); (with_reducible repeat (first | apply Kd.R_alloc | apply Kd.R_drewN | apply Kd.R_drew)); exact Kd.R_mono HO_12.out (fun _ hk => trivial)⟩, ⟨by (try simp only [hl266000_51]); (with_reducible repeat (first | apply Kd.R_alloc | apply Kd.R_drewN | apply Kd.R_drew)); exact Kd.R_mono HO_266000.out (fun _ hk => trivial)⟩, ⟨by (try simp only [hl266000_51]); (with_reducible repeat (first | refine blk_drewN ?_ _ | refine blk_drew ?_ | refine blk_alloc ?_ _)); exact BK250.out⟩, ⟨by (try simp only [hl266000_51]); (with_reducible repeat (first | refine blk_drewN ?_ _ | refine blk_drew ?_ | refine blk_alloc ?_ _)); exact BK265.out⟩, ⟨zb HB.out⟩⟩
             case rest =>
              clear HC80
              try clear c1
              try clear p2
              try clear c3
              try clear c4
              try clear c4b0
              try clear c4b1
              try clear c5
              try clear c6
              try clear c7
              try clear c7b0
              try clear c8
              try clear c9
              try clear c10
              try clear c11
              try clear c12
              try clear c13
              try clear c14
              try clear c15
              try clear c16
              try clear c31
              try clear c38
              try clear c43
              try clear c46
              try clear c49
              try clear c59
              try clear c63
              try clear c63b0
              try clear c65
              try clear c70
              try clear c73
              try clear c73b0
              try clear c76
              try clear c76b0
              try clear c76b1
              try clear c83
              try clear c91
              try clear hcz19_0
              try clear hcz21_0
              try clear hcz27_0
              try clear hcz32_0
              try clear hcz34_0
              try clear hcz60_0
              try clear hcz84_0
              try clear hcz9_0
              try clear hfz19_0
              try clear hfz21_0
              try clear hfz27_0
              try clear hfz32_0
              try clear hfz34_0
              try clear hfz60_0
              try clear hfz84_0
              try clear hfz9_0
              try clear p2
              obtain ⟨kq, x113_79, rfl, HA, HJ79, HO_12, HO_266000, BK250, BK265, HB⟩ := hcut
              have hl12_79 := (Kd.R_reads' HO_12.out).1
              rw [hl12_79] at HO_12
              (try simp only [hl12_79])
              (try simp only [hl12_79] at BK250)
              (try simp only [hl12_79] at BK265)
              (try simp only [hl12_79] at HO_266000)
              cases kq with
              | zero => exact absurd HA.out (by simp [laws_FnExactKnowPut.j2])
              | succ kj79 =>
               have H := HA.out
               clear HA
               simp only [laws_FnExactKnowPut.j2] at H
               by_cases c96 : x113_79 = true
               ·subst c96
                have H1 : (some false) = some r := by rw [if_pos rfl] at H; exact H
                clear H
                have H := H1
                clear H1
                obtain rfl := Option.some.inj H
                go_wp2
                go_ret
                exact ⟨ze, zb HB.out⟩
               ·replace c96 := Bool.eq_false_iff.mpr c96
                subst c96
                have H1 : ((laws_heldIntS.f kj79 t288 1).bind fun t301 => (if t301 < 0 then (some false) else (if t301 = t287 then (some true) else (some false)))) = some r := by rw [if_neg (show ¬ (false = true) by decide)] at H; exact H
                clear H
                have H := H1
                clear H1
                replace H := Option.bind_eq_some_iff.mp H
                obtain ⟨t301, A970, H⟩ := H
                replace H : (if t301 < 0 then (some false) else (if t301 = t287 then (some true) else (some false))) = some r := H
                have A97 := Aside0.mk A970
                clear A970
                by_cases c98 : t301 < 0
                ·rw [if_pos c98] at H
                 have c98b0 : decide (t301 < 0) = true := decide_eq_true c98
                 clear c98
                 obtain rfl := Option.some.inj H
                 go_wp2_with (first | ((with_reducible refine gate_callee (f := 16) rfl ?_); refine goesL_ (some 116) rfl rfl Try.func16 (by kernel_rfl) rfl #[.slice Ao81 t288.length co81, .int .i64 1] rfl zl ?_; (with_reducible refine (laws_heldIntS.calls kj79 _ _ t288 1 t301 _ ?side1 ?side2 A97.out).mono ?_); (case side1 => exact zc (Kd.R_reads' HO_12.out).2.2); (case side2 => exact (Kd.R_reads' HO_12.out).2.1); rintro e w' ⟨rfl, ⟨nd, rfl⟩⟩; refine ⟨_, rfl, ?_⟩))
                 go_ret
                 exact ⟨ze, zb HB.out⟩
                ·rw [if_neg c98] at H
                 have c98b0 : decide (t301 < 0) = false := decide_eq_false c98
                 clear c98
                 by_cases c99 : t301 = t287
                 ·rw [if_pos c99] at H
                  have c99b0 : (t301 == t287) = true := beq_iff_eq.mpr c99
                  have c99b1 : (t301 != t287) = false := bne_eq_false_iff_eq.mpr c99
                  clear c99
                  obtain rfl := Option.some.inj H
                  go_wp2_with (first | ((with_reducible refine gate_callee (f := 16) rfl ?_); refine goesL_ (some 116) rfl rfl Try.func16 (by kernel_rfl) rfl #[.slice Ao81 t288.length co81, .int .i64 1] rfl zl ?_; (with_reducible refine (laws_heldIntS.calls kj79 _ _ t288 1 t301 _ ?side1 ?side2 A97.out).mono ?_); (case side1 => exact zc (Kd.R_reads' HO_12.out).2.2); (case side2 => exact (Kd.R_reads' HO_12.out).2.1); rintro e w' ⟨rfl, ⟨nd, rfl⟩⟩; refine ⟨_, rfl, ?_⟩))
                  go_ret
                  exact ⟨ze, zb HB.out⟩
                 ·rw [if_neg c99] at H
                  have c99b0 : (t301 == t287) = false := beq_eq_false_iff_ne.mpr c99
                  have c99b1 : (t301 != t287) = true := bne_iff_ne.mpr c99
                  obtain rfl := Option.some.inj H
                  go_wp2_with (first | ((with_reducible refine gate_callee (f := 16) rfl ?_); refine goesL_ (some 116) rfl rfl Try.func16 (by kernel_rfl) rfl #[.slice Ao81 t288.length co81, .int .i64 1] rfl zl ?_; (with_reducible refine (laws_heldIntS.calls kj79 _ _ t288 1 t301 _ ?side1 ?side2 A97.out).mono ?_); (case side1 => exact zc (Kd.R_reads' HO_12.out).2.2); (case side2 => exact (Kd.R_reads' HO_12.out).2.1); rintro e w' ⟨rfl, ⟨nd, rfl⟩⟩; refine ⟨_, rfl, ?_⟩))
                  go_ret
                  exact ⟨ze, zb HB.out⟩
            ·rw [if_neg c76] at H
             have c76b0 : (t289 == t287) = false := beq_eq_false_iff_ne.mpr c76
             have c76b1 : (t289 != t287) = true := bne_iff_ne.mpr c76
             obtain rfl := Option.some.inj H
             obtain ⟨Ao100, co100, eo100⟩ := Kd.R_slice HO_12.out
             subst eo100
             go_wp2_with (first | ((with_reducible refine gate_callee (f := 15) rfl ?_); refine goesL_ (some 87) rfl rfl Try.func15 (by kernel_rfl) rfl #[.slice Ao100 t269.length co100, .int .i64 1] rfl zl ?_; (with_reducible refine (laws_markIntS.calls kj51 (fun k_ => some k_ = (.slice Ao100 t269.length co100 : Value).ownBlock) (.slice Ao100 t269.length co100) t269 1 t287 t288 w _ ?side1 ?side2 A71.out).mono ?_); (case side1 => repeat (first | (with_reducible first | exact HB.out | apply below_alloc | apply pw_below_drewN | apply below_drew1 | refine below_set ?_ GE250.out | refine below_set ?_ GE265.out) | exact HB.out)); (case side2 => exact Kd.R_tight rfl HO_12.out); rintro e w101 ⟨rfl, hy0, hb, hkp⟩; refine ⟨_, rfl, ?_⟩; have n0_ := Aside0.mk (Kd.R_mono (ok' := fun k_ => some k_ ≠ (.slice Ao100 t269.length co100 : Value).ownBlock) (Kd.R_keptB (HO_8.out) hkp (fun k_ hk_ hs_ => by first | exact (hk_) hs_ | (revert hk_; simp only [and_imp]; intros; exact absurd hs_ (by assumption)))) (fun k_ hk_ => by first | exact hk_.1 | (revert hk_; simp only [and_imp]; intros; and_intros <;> assumption))); have n1_ := Aside0.mk (Kd.R_reok rfl hy0 (fun k_ e_ => HO_12.out.1 k_ e_)); have n2_ := Aside0.mk (Kd.R_mono (ok' := fun k_ => True) (Kd.R_keptB ((Kd.R_apart' HO_266000.out (Kd.R_typed HO_12.out) (by decide))) hkp (fun k_ hk_ hs_ => by first | exact (hk_.2) hs_ | (revert hk_; simp only [and_imp]; intros; exact absurd hs_ (by assumption)))) (fun k_ hk_ => trivial)); have n3_ := Aside0.mk (blk_kept (zh BK250.out) hkp (fun hs_ => (fun e_ => (Kd.R_ne HO_12.out BK250.out (by decide)) e_) hs_)); have n4_ := Aside0.mk (blk_kept (zh BK265.out) hkp (fun hs_ => (fun e_ => (Kd.R_ne HO_12.out BK265.out (by decide)) e_) hs_)); have n5_ := Aside0.mk (hb); clear HO_8; clear HO_12; clear HO_266000; clear BK250; clear BK265; clear HB; have HO_8 := n0_; have HO_12 := n1_; have HO_266000 := n2_; have BK250 := n3_; have BK265 := n4_; have HB := n5_; clear n0_ n1_ n2_ n3_ n4_ n5_; (try clear hb); (try clear hkp); (try clear hy0)) | ((with_reducible refine gate_callee (f := 16) rfl ?_); refine goesL_ (some 90) rfl rfl Try.func16 (by kernel_rfl) rfl #[.slice Ao100 t288.length co100, .int .i64 1] rfl (by (try simp only [List.map_toArray, List.map_cons, List.map_nil]); first | done | (rw [show t288.length = t269.length from (Kd.R_reads' HO_12.out).1.symm] <;> rfl) | rfl | (simp only [List.length_drop, List.length_take]; rfl)) ?_; (with_reducible refine (laws_heldIntS.calls kj51 _ _ t288 1 t289 _ ?side1 ?side2 A72.out).mono ?_); (case side1 => exact zc (Kd.R_reads' HO_12.out).2.2); (case side2 => rw [show t288.length = t269.length from (Kd.R_reads' HO_12.out).1.symm]; exact (Kd.R_reads' HO_12.out).2.1); rintro e w' ⟨rfl, ⟨nd, rfl⟩⟩; refine ⟨_, rfl, ?_⟩))
             go_ret
             exact ⟨ze, zb HB.out⟩
       ·replace c49 := Bool.eq_false_iff.mpr c49
        subst c49
        have H1 : (some false) = some r := by rw [if_neg (show ¬ (false = true) by decide)] at H; exact H
        clear H
        have H := H1
        clear H1
        obtain rfl := Option.some.inj H
        try go_wp2
        have n0_ := Aside0.mk (Kd.R_drew HO_8.out)
        have n1_ := Aside0.mk (Kd.R_drew HO_11.out)
        have n2_ := Aside0.mk (Kd.R_drew HO_12.out)
        have n3_ := Aside0.mk (Kd.R_drew HO_266000.out)
        have n4_ := Aside0.mk (blk_drew BK250.out)
        have n5_ := Aside0.mk (blk_drew BK265.out)
        have n6_ := Aside0.mk (below_drew1 HB.out)
        clear HO_8
        clear HO_11
        clear HO_12
        clear HO_266000
        clear BK250
        clear BK265
        clear HB
        have HO_8 := n0_
        have HO_11 := n1_
        have HO_12 := n2_
        have HO_266000 := n3_
        have BK250 := n4_
        have BK265 := n5_
        have HB := n6_
        clear n0_ n1_ n2_ n3_ n4_ n5_ n6_
        refine start_ (n := 5) (S := fun w' => w'.cell? ⟨gb265, 0, none⟩ = some (.slice Ao30 t262.length co30) ∧ w'.cell? ⟨gb250, 0, none⟩ = some (.slice A0_0 l0_0.length c0_0)) (ds := []) #[false, false, false, false, false] (by kernel_rfl) rfl rfl ⟨(blk_cell BK265.out 0).trans rfl, (blk_cell BK250.out 0).trans rfl⟩ (fun hHeld => ?_)
        generalize wc.drew = w102 at HO_8 HO_11 HO_12 HO_266000 BK250 BK265 HB hHeld ⊢
        refine take_ (i := 0) (N := some 56) (v := ?_) (a' := ?_) #[true, false, false, false, false] rfl rfl (by kernel_rfl) (fun _ _ _ h => h) (Or.inl ⟨by rfl, ?_⟩) hHeld ?_ ?_
        rotate_left
        ·rintro w' ⟨s0, s1⟩
         go_simp
         with_reducible rfl
        rotate_left
        ·simp only [Act.put, List.setIfInBounds_toArray, List.set_cons_zero, List.set_cons_succ, i64_w, i32_w]
         rfl
        refine take_ (i := 1) (N := some 57) (v := ?_) (a' := ?_) #[true, true, false, false, false] rfl rfl (by kernel_rfl) (fun _ _ _ h => h) (Or.inl ⟨by rfl, ?_⟩) hHeld ?_ ?_
        rotate_left
        ·rintro w' ⟨s0, s1⟩
         go_simp
         with_reducible rfl
        rotate_left
        ·simp only [Act.put, List.setIfInBounds_toArray, List.set_cons_zero, List.set_cons_succ, i64_w, i32_w]
         rfl
        refine one_ (i := 2) (N := some 58) #[true, true, true, false, false] rfl rfl (by kernel_rfl) (by decide) (fun K hK => ?_)
        refine goes_ Try.func9 (by kernel_rfl) rfl #[.agg #[.slice A0_0 l0_0.length c0_0]] (by rfl) rfl rfl zl ?_
        with_reducible refine (laws_toPool.calls kj16 _ _ l0_0 t274 _ ?side1 ?side2 A44.out).mono ?_
        (case side1 => exact zc (Kd.C_below HR0_0.out HB.out))
        (case side2 => exact HC0_0.out)
        rintro e w103 ⟨v275, rfl, ho0, hb⟩
        refine ⟨_, rfl, ?_⟩
        have n0_ := Aside0.mk (Kd.R_below (zr HO_8.out) hb)
        have n1_ := Aside0.mk (Kd.R_below (zr HO_11.out) hb)
        have n2_ := Aside0.mk (Kd.R_below (zr HO_12.out) hb)
        have n3_ := Aside0.mk (Kd.R_elder' (zr HO_266000.out) (Kd.R_base ho0) hb)
        have n4_ := Aside0.mk (Kd.R_lower (Kd.R_new' ho0 (Kd.R_lt (zr HO_266000.out))) (below_size (zb HB.out)))
        have n5_ := Aside0.mk (blk_below (zh BK250.out) hb)
        have n6_ := Aside0.mk (blk_below (zh BK265.out) hb)
        have n7_ := Aside0.mk (below_step (zb HB.out) hb)
        clear HO_8
        clear HO_11
        clear HO_12
        clear HO_266000
        clear BK250
        clear BK265
        clear HB
        have HO_8 := n0_
        have HO_11 := n1_
        have HO_12 := n2_
        have HO_266000 := n3_
        have HO276 := n4_
        have BK250 := n5_
        have BK265 := n6_
        have HB := n7_
        clear n0_ n1_ n2_ n3_ n4_ n5_ n6_ n7_
        (try clear hb)
        (try clear hb2)
        (try clear hk)
        (try clear hi)
        (try clear ho0)
        obtain ⟨Ao104, co104, eo104⟩ := Kd.R_slice HO276.out
        (first | subst eo104 | (injection eo104 with f1_ f2_ f3_; have f4_ := f1_.symm; have f5_ := f3_.symm; clear f1_ f2_ f3_; subst f4_; subst f5_))
        refine hK.out _ _ ⟨(blk_cell BK265.out 0).trans rfl, (blk_cell BK250.out 0).trans rfl⟩ (fun hHeld => ?_)
        clear hK K
        refine norm_ (a' := ?_) ?_ ?_
        rotate_left
        ·show Act.put _ (some 58) _ = _
         simp only [Act.put, List.setIfInBounds_toArray, List.set_cons_zero, List.set_cons_succ, i64_w, i32_w]
         rfl
        refine one_ (i := 3) (N := some 59) #[true, true, true, true, false] rfl rfl (by kernel_rfl) (by decide) (fun K hK => ?_)
        refine goes_ Try.func13 (by kernel_rfl) rfl #[.agg #[.slice Ao30 t262.length co30], .agg #[.slice Ao104 t274.length co104]] (by rfl) rfl rfl zl ?_
        with_reducible refine (laws_eqPool.calls kj16 _ _ t262 _ _ t274 true _ ?side1 ?side2 ?side3 ?side4 A45.out).mono ?_
        (case side1 => exact zc (Kd.R_reads' HO_266000.out).2.2)
        (case side2 => exact (Kd.R_reads' HO_266000.out).2.1)
        (case side3 => exact zc (Kd.R_reads' HO276.out).2.2)
        (case side4 => exact (Kd.R_reads' HO276.out).2.1)
        rintro e w105 ⟨rfl, hb⟩
        refine ⟨_, rfl, ?_⟩
        have n0_ := Aside0.mk (Kd.R_below (zr HO_8.out) hb)
        have n1_ := Aside0.mk (Kd.R_below (zr HO_11.out) hb)
        have n2_ := Aside0.mk (Kd.R_below (zr HO_12.out) hb)
        have n3_ := Aside0.mk (Kd.R_below (zr HO_266000.out) hb)
        have n4_ := Aside0.mk (Kd.R_below (zr HO276.out) hb)
        have n5_ := Aside0.mk (blk_below (zh BK250.out) hb)
        have n6_ := Aside0.mk (blk_below (zh BK265.out) hb)
        have n7_ := Aside0.mk (below_step (zb HB.out) hb)
        clear HO_8
        clear HO_11
        clear HO_12
        clear HO_266000
        clear HO276
        clear BK250
        clear BK265
        clear HB
        have HO_8 := n0_
        have HO_11 := n1_
        have HO_12 := n2_
        have HO_266000 := n3_
        have HO276 := n4_
        have BK250 := n5_
        have BK265 := n6_
        have HB := n7_
        clear n0_ n1_ n2_ n3_ n4_ n5_ n6_ n7_
        (try clear hb)
        (try clear hb2)
        (try clear hk)
        (try clear hi)
        refine hK.out _ _ ⟨(blk_cell BK265.out 0).trans rfl, (blk_cell BK250.out 0).trans rfl⟩ (fun hHeld => ?_)
        clear hK K
        refine norm_ (a' := ?_) ?_ ?_
        rotate_left
        ·show Act.put _ (some 59) _ = _
         simp only [Act.put, List.setIfInBounds_toArray, List.set_cons_zero, List.set_cons_succ, i64_w, i32_w]
         rfl
        refine pure_ (i := 4) (N := some 60) (v := ?_) (a' := ?_) #[true, true, true, true, true] rfl rfl (by kernel_rfl) (fun _ _ _ h => h) (Or.inl ⟨by rfl, ?_⟩) ?_ ?_
        rotate_left
        ·intro w'
         go_simp
         with_reducible rfl
        rotate_left
        ·simp only [Act.put, List.setIfInBounds_toArray, List.set_cons_zero, List.set_cons_succ, i64_w, i32_w]
         rfl
        refine done_ (by kernel_rfl) ?_
        try go_wp2_with (first | ((with_reducible refine gate_callee (f := 10) rfl ?_); refine goesL_ (some 63) rfl rfl Try.func10 (by kernel_rfl) rfl #[.slice A1 l1.length c1] rfl zl ?_; (with_reducible refine (laws_toIntS.calls kj16 _ _ l1 t278 _ ?side1 ?side2 A47.out).mono ?_); (case side1 => exact zc (Kd.C_below HR1.out HB.out)); (case side2 => exact HC1.out); rintro e w106 ⟨v279, rfl, ho0, hb⟩; refine ⟨_, rfl, ?_⟩; have n0_ := Aside0.mk (Kd.R_elder' (zr HO_8.out) (Kd.R_base ho0) hb); have n1_ := Aside0.mk (Kd.R_elder' (zr HO_11.out) (Kd.R_base ho0) hb); have n2_ := Aside0.mk (Kd.R_elder' (zr HO_12.out) (Kd.R_base ho0) hb); have n3_ := Aside0.mk (Kd.R_below (zr HO_266000.out) hb); have n4_ := Aside0.mk (Kd.R_below (zr HO276.out) hb); have n5_ := Aside0.mk (Kd.R_lower (Kd.R_new' (Kd.R_new' (Kd.R_new' ho0 (Kd.R_lt (zr HO_8.out))) (Kd.R_lt (zr HO_11.out))) (Kd.R_lt (zr HO_12.out))) (below_size (zb HB.out))); have n6_ := Aside0.mk (blk_below (zh BK250.out) hb); have n7_ := Aside0.mk (blk_below (zh BK265.out) hb); have n8_ := Aside0.mk (below_step (zb HB.out) hb); clear HO_8; clear HO_11; clear HO_12; clear HO_266000; clear HO276; clear BK250; clear BK265; clear HB; have HO_8 := n0_; have HO_11 := n1_; have HO_12 := n2_; have HO_266000 := n3_; have HO276 := n4_; have HO280 := n5_; have BK250 := n6_; have BK265 := n7_; have HB := n8_; clear n0_ n1_ n2_ n3_ n4_ n5_ n6_ n7_ n8_; (try clear hb); (try clear hb2); (try clear hk); (try clear hi); (try clear ho0); obtain ⟨Ao107, co107, eo107⟩ := Kd.R_slice HO280.out; subst eo107) | ((with_reducible refine gate_callee (f := 12) rfl ?_); refine goesL_ (some 64) rfl rfl Try.func12 (by kernel_rfl) rfl #[.slice Ao35 t266.length co35, .slice Ao107 t278.length co107] rfl zl ?_; (with_reducible refine (laws_eqIntS.calls kj16 _ _ t266 _ _ t278 false _ ?side1 ?side2 ?side3 ?side4 A48.out).mono ?_); (case side1 => exact zc (Kd.R_reads' HO_11.out).2.2); (case side2 => exact (Kd.R_reads' HO_11.out).2.1); (case side3 => exact zc (Kd.R_reads' HO280.out).2.2); (case side4 => exact (Kd.R_reads' HO280.out).2.1); rintro e w' ⟨rfl, ⟨nd, rfl⟩⟩; refine ⟨_, rfl, ?_⟩))
        go_ret
        exact ⟨ze, zb HB.out⟩
      ·replace c46 := Bool.eq_false_iff.mpr c46
       subst c46
       have H1 : (some false) = some r := by rw [if_neg (show ¬ (false = true) by decide)] at H; exact H
       clear H
       have H := H1
       clear H1
       obtain rfl := Option.some.inj H
       try go_wp2
       have n0_ := Aside0.mk (Kd.R_drew HO_8.out)
       have n1_ := Aside0.mk (Kd.R_drew HO_11.out)
       have n2_ := Aside0.mk (Kd.R_drew HO_12.out)
       have n3_ := Aside0.mk (Kd.R_drew HO_266000.out)
       have n4_ := Aside0.mk (blk_drew BK250.out)
       have n5_ := Aside0.mk (blk_drew BK265.out)
       have n6_ := Aside0.mk (below_drew1 HB.out)
       clear HO_8
       clear HO_11
       clear HO_12
       clear HO_266000
       clear BK250
       clear BK265
       clear HB
       have HO_8 := n0_
       have HO_11 := n1_
       have HO_12 := n2_
       have HO_266000 := n3_
       have BK250 := n4_
       have BK265 := n5_
       have HB := n6_
       clear n0_ n1_ n2_ n3_ n4_ n5_ n6_
       refine start_ (n := 5) (S := fun w' => w'.cell? ⟨gb265, 0, none⟩ = some (.slice Ao30 t262.length co30) ∧ w'.cell? ⟨gb250, 0, none⟩ = some (.slice A0_0 l0_0.length c0_0)) (ds := []) #[false, false, false, false, false] (by kernel_rfl) rfl rfl ⟨(blk_cell BK265.out 0).trans rfl, (blk_cell BK250.out 0).trans rfl⟩ (fun hHeld => ?_)
       generalize wc.drew = w108 at HO_8 HO_11 HO_12 HO_266000 BK250 BK265 HB hHeld ⊢
       refine take_ (i := 0) (N := some 56) (v := ?_) (a' := ?_) #[true, false, false, false, false] rfl rfl (by kernel_rfl) (fun _ _ _ h => h) (Or.inl ⟨by rfl, ?_⟩) hHeld ?_ ?_
       rotate_left
       ·rintro w' ⟨s0, s1⟩
        go_simp
        with_reducible rfl
       rotate_left
       ·simp only [Act.put, List.setIfInBounds_toArray, List.set_cons_zero, List.set_cons_succ, i64_w, i32_w]
        rfl
       refine take_ (i := 1) (N := some 57) (v := ?_) (a' := ?_) #[true, true, false, false, false] rfl rfl (by kernel_rfl) (fun _ _ _ h => h) (Or.inl ⟨by rfl, ?_⟩) hHeld ?_ ?_
       rotate_left
       ·rintro w' ⟨s0, s1⟩
        go_simp
        with_reducible rfl
       rotate_left
       ·simp only [Act.put, List.setIfInBounds_toArray, List.set_cons_zero, List.set_cons_succ, i64_w, i32_w]
        rfl
       refine one_ (i := 2) (N := some 58) #[true, true, true, false, false] rfl rfl (by kernel_rfl) (by decide) (fun K hK => ?_)
       refine goes_ Try.func9 (by kernel_rfl) rfl #[.agg #[.slice A0_0 l0_0.length c0_0]] (by rfl) rfl rfl zl ?_
       with_reducible refine (laws_toPool.calls kj16 _ _ l0_0 t274 _ ?side1 ?side2 A44.out).mono ?_
       (case side1 => exact zc (Kd.C_below HR0_0.out HB.out))
       (case side2 => exact HC0_0.out)
       rintro e w109 ⟨v275, rfl, ho0, hb⟩
       refine ⟨_, rfl, ?_⟩
       have n0_ := Aside0.mk (Kd.R_below (zr HO_8.out) hb)
       have n1_ := Aside0.mk (Kd.R_below (zr HO_11.out) hb)
       have n2_ := Aside0.mk (Kd.R_below (zr HO_12.out) hb)
       have n3_ := Aside0.mk (Kd.R_elder' (zr HO_266000.out) (Kd.R_base ho0) hb)
       have n4_ := Aside0.mk (Kd.R_lower (Kd.R_new' ho0 (Kd.R_lt (zr HO_266000.out))) (below_size (zb HB.out)))
       have n5_ := Aside0.mk (blk_below (zh BK250.out) hb)
       have n6_ := Aside0.mk (blk_below (zh BK265.out) hb)
       have n7_ := Aside0.mk (below_step (zb HB.out) hb)
       clear HO_8
       clear HO_11
       clear HO_12
       clear HO_266000
       clear BK250
       clear BK265
       clear HB
       have HO_8 := n0_
       have HO_11 := n1_
       have HO_12 := n2_
       have HO_266000 := n3_
       have HO276 := n4_
       have BK250 := n5_
       have BK265 := n6_
       have HB := n7_
       clear n0_ n1_ n2_ n3_ n4_ n5_ n6_ n7_
       (try clear hb)
       (try clear hb2)
       (try clear hk)
       (try clear hi)
       (try clear ho0)
       obtain ⟨Ao110, co110, eo110⟩ := Kd.R_slice HO276.out
       (first | subst eo110 | (injection eo110 with f1_ f2_ f3_; have f4_ := f1_.symm; have f5_ := f3_.symm; clear f1_ f2_ f3_; subst f4_; subst f5_))
       refine hK.out _ _ ⟨(blk_cell BK265.out 0).trans rfl, (blk_cell BK250.out 0).trans rfl⟩ (fun hHeld => ?_)
       clear hK K
       refine norm_ (a' := ?_) ?_ ?_
       rotate_left
       ·show Act.put _ (some 58) _ = _
        simp only [Act.put, List.setIfInBounds_toArray, List.set_cons_zero, List.set_cons_succ, i64_w, i32_w]
        rfl
       refine one_ (i := 3) (N := some 59) #[true, true, true, true, false] rfl rfl (by kernel_rfl) (by decide) (fun K hK => ?_)
       refine goes_ Try.func13 (by kernel_rfl) rfl #[.agg #[.slice Ao30 t262.length co30], .agg #[.slice Ao110 t274.length co110]] (by rfl) rfl rfl zl ?_
       with_reducible refine (laws_eqPool.calls kj16 _ _ t262 _ _ t274 false _ ?side1 ?side2 ?side3 ?side4 A45.out).mono ?_
       (case side1 => exact zc (Kd.R_reads' HO_266000.out).2.2)
       (case side2 => exact (Kd.R_reads' HO_266000.out).2.1)
       (case side3 => exact zc (Kd.R_reads' HO276.out).2.2)
       (case side4 => exact (Kd.R_reads' HO276.out).2.1)
       rintro e w111 ⟨rfl, hb⟩
       refine ⟨_, rfl, ?_⟩
       have n0_ := Aside0.mk (Kd.R_below (zr HO_8.out) hb)
       have n1_ := Aside0.mk (Kd.R_below (zr HO_11.out) hb)
       have n2_ := Aside0.mk (Kd.R_below (zr HO_12.out) hb)
       have n3_ := Aside0.mk (Kd.R_below (zr HO_266000.out) hb)
       have n4_ := Aside0.mk (Kd.R_below (zr HO276.out) hb)
       have n5_ := Aside0.mk (blk_below (zh BK250.out) hb)
       have n6_ := Aside0.mk (blk_below (zh BK265.out) hb)
       have n7_ := Aside0.mk (below_step (zb HB.out) hb)
       clear HO_8
       clear HO_11
       clear HO_12
       clear HO_266000
       clear HO276
       clear BK250
       clear BK265
       clear HB
       have HO_8 := n0_
       have HO_11 := n1_
       have HO_12 := n2_
       have HO_266000 := n3_
       have HO276 := n4_
       have BK250 := n5_
       have BK265 := n6_
       have HB := n7_
       clear n0_ n1_ n2_ n3_ n4_ n5_ n6_ n7_
       (try clear hb)
       (try clear hb2)
       (try clear hk)
       (try clear hi)
       refine hK.out _ _ ⟨(blk_cell BK265.out 0).trans rfl, (blk_cell BK250.out 0).trans rfl⟩ (fun hHeld => ?_)
       clear hK K
       refine norm_ (a' := ?_) ?_ ?_
       rotate_left
       ·show Act.put _ (some 59) _ = _
        simp only [Act.put, List.setIfInBounds_toArray, List.set_cons_zero, List.set_cons_succ, i64_w, i32_w]
        rfl
       refine pure_ (i := 4) (N := some 60) (v := ?_) (a' := ?_) #[true, true, true, true, true] rfl rfl (by kernel_rfl) (fun _ _ _ h => h) (Or.inl ⟨by rfl, ?_⟩) ?_ ?_
       rotate_left
       ·intro w'
        go_simp
        with_reducible rfl
       rotate_left
       ·simp only [Act.put, List.setIfInBounds_toArray, List.set_cons_zero, List.set_cons_succ, i64_w, i32_w]
        rfl
       refine done_ (by kernel_rfl) ?_
       try go_wp2
       go_ret
       exact ⟨ze, zb HB.out⟩

end Go.Proofs.Ytilnfdnigjblcaa.K
end
