import Derived.Test.YtobkledmbnacjaaZSSW0
import Derived.Test.YtobkledmbnacjaaZSSWg0
import Derived.Test.YtobkledmbnacjaaZSSWg2
import Derived.Test.YtobkledmbnacjaaZSSWg3
import Derived.Test.YtobkledmbnacjaaZSSWg4
import Derived.Test.YtobkledmbnacjaaZSSWg5
section
-- Written by this session's program (wip/tools/gprint.py over the kit's print) out of the translation; Lean checks it.
namespace Go.Proofs.Ytobkledmbnacjaa.SW
open Go.RowKit Go.Proofs.YtobkledmbnacjaaW.PrintWords Go.Proofs.YtobkledmbnacjaaW.PrintLast Go.Proofs.YtobkledmbnacjaaW.PrintMore
attribute [local go_sem] max2_int min2_int max_two min_two max_three min_three max_four min_four   -- for this text's walks alone
set_option linter.unusedVariables false
set_option linter.unusedSimpArgs false
set_option maxRecDepth 100000

/-! ### laws_FnExactTermSwap: function 3 -/
mutual
def laws_FnExactTermSwap.j0 : Nat → Int → Int → Int → Int → Int → Bool → List (S79) → List (S55) → List (S55) → List (S55) → Option (Bool)
 | 0, _, _, _, _, _, _, _, _, _, _ => none
 | k + 1, x1, x2, x3, x11, x14, x52, x282000, x291000, x295000, x300000 => if x52 = true then (some false) else ((laws_toPool.f k x282000).bind fun t301 => ((laws_eqPool.f k x295000 t301).bind fun t304 => (if t304 = true then ((laws_markPool.f k x295000 1).bind fun bt305 => (if bt305.1 < 0 then (laws_FnExactTermSwap.j1 k x1 x2 x3 x11 true x282000 x291000 x300000) else ((laws_eqPool.f k x300000 x291000).bind fun t307 => (if t307 = true then (laws_FnExactTermSwap.j1 k x1 x2 x3 x11 (x14 != x11) x282000 x291000 x300000) else (laws_FnExactTermSwap.j1 k x1 x2 x3 x11 true x282000 x291000 x300000))))) else (some false))))
def laws_FnExactTermSwap.j1 : Nat → Int → Int → Int → Int → Bool → List (S79) → List (S55) → List (S55) → Option (Bool)
 | 0, _, _, _, _, _, _, _, _ => none
 | k + 1, x1, x2, x3, x11, x73, x282000, x291000, x300000 => if x73 = true then (some false) else ((laws_markPool.f k x300000 1).bind fun bt308 => ((laws_heldPool.f k bt308.2 1).bind fun t310 => (if t310 < 0 then (some false) else (if t310 = bt308.1 then ((laws_toPool.f k x282000).bind fun t311 => ((impl_TermSwap.f k t311 x1 x2 x3).bind fun bt314 => ((laws_eqPool.f k bt314.1 x291000).bind fun t319 => (if t319 = true then (laws_FnExactTermSwap.j2 k bt308.1 (bt314.2 != x11) bt308.2) else (laws_FnExactTermSwap.j2 k bt308.1 true bt308.2))))) else (some false)))))
def laws_FnExactTermSwap.j2 : Nat → Int → Bool → List (S55) → Option (Bool)
 | 0, _, _, _ => none
 | k + 1, x16, x102, x300000 => if x102 = true then (some false) else ((laws_heldPool.f k x300000 1).bind fun t320 => (if t320 < 0 then (some false) else (if t320 = x16 then (some true) else (some false))))
end
def laws_FnExactTermSwap.f (k : Nat) (l0_0 : List (S79)) (a1 : Int) (a2 : Int) (a3 : Int) : Option (Bool) := (laws_szPool.f l0_0 1048576).bind fun t282 => (if t282 < 0 then (some true) else ((laws_toPool.f k l0_0).bind fun t283 => ((spec_TermSwap.f k t283 a1 a2 a3).bind fun bt286 => ((laws_toPool.f k l0_0).bind fun t291 => ((impl_TermSwap.f k t291 a1 a2 a3).bind fun bt295 => ((laws_eqPool.f k bt295.1 bt286.1).bind fun t300 => (if t300 = true then (laws_FnExactTermSwap.j0 k a1 a2 a3 bt286.2 bt295.2 (bt295.2 != bt286.2) l0_0 bt286.1 t291 bt295.1) else (laws_FnExactTermSwap.j0 k a1 a2 a3 bt286.2 bt295.2 true l0_0 bt286.1 t291 bt295.1))))))))
theorem laws_FnExactTermSwap.mono_l : ∀ k, (∀ y0 y1 y2 y3 y4 y5 y6 y7 y8 y9, LeO (laws_FnExactTermSwap.j0 k y0 y1 y2 y3 y4 y5 y6 y7 y8 y9) (laws_FnExactTermSwap.j0 (k + 1) y0 y1 y2 y3 y4 y5 y6 y7 y8 y9)) ∧ (∀ y0 y1 y2 y3 y4 y5 y6 y7, LeO (laws_FnExactTermSwap.j1 k y0 y1 y2 y3 y4 y5 y6 y7) (laws_FnExactTermSwap.j1 (k + 1) y0 y1 y2 y3 y4 y5 y6 y7)) ∧ (∀ y0 y1 y2, LeO (laws_FnExactTermSwap.j2 k y0 y1 y2) (laws_FnExactTermSwap.j2 (k + 1) y0 y1 y2))
 | 0 => ⟨fun _ _ _ _ _ _ _ _ _ _ r h => by simp [laws_FnExactTermSwap.j0] at h, fun _ _ _ _ _ _ _ _ r h => by simp [laws_FnExactTermSwap.j1] at h, fun _ _ _ r h => by simp [laws_FnExactTermSwap.j2] at h⟩
 | k + 1 => by
  obtain ⟨ih0, ih1, ih2⟩ := laws_FnExactTermSwap.mono_l k
  refine ⟨?_, ?_, ?_⟩
  ·intro y0 y1 y2 y3 y4 y5 y6 y7 y8 y9
   unfold laws_FnExactTermSwap.j0
   repeat' first
   | (with_reducible exact ih0 _ _ _ _ _ _ _ _ _ _)
   | (with_reducible exact ih1 _ _ _ _ _ _ _ _)
   | (with_reducible exact ih2 _ _ _)
   | (with_reducible exact impl_TermSwap.mono _ _ _ _ _)
   | (with_reducible exact laws_eqPool.mono _ _ _)
   | (with_reducible exact laws_heldPool.mono _ _ _)
   | (with_reducible exact laws_markPool.mono _ _ _)
   | (with_reducible exact laws_toPool.mono _ _)
   | (with_reducible exact spec_TermSwap.mono _ _ _ _ _)
   | (with_reducible exact LeO.refl _)
   | (with_reducible exact LeO.none _)
   | (with_reducible refine LeO.ite ?_ ?_)
   | (with_reducible refine LeO.bind ?_ (fun _ => ?_))
   | exact ih0 _ _ _ _ _ _ _ _ _ _
   | exact ih1 _ _ _ _ _ _ _ _
   | exact ih2 _ _ _
   | exact impl_TermSwap.mono _ _ _ _ _
   | exact laws_eqPool.mono _ _ _
   | exact laws_heldPool.mono _ _ _
   | exact laws_markPool.mono _ _ _
   | exact laws_toPool.mono _ _
   | exact spec_TermSwap.mono _ _ _ _ _
   | exact LeO.none _
   | refine LeO.ite ?_ ?_
   | refine LeO.bind ?_ (fun _ => ?_)
  ·intro y0 y1 y2 y3 y4 y5 y6 y7
   unfold laws_FnExactTermSwap.j1
   repeat' first
   | (with_reducible exact ih0 _ _ _ _ _ _ _ _ _ _)
   | (with_reducible exact ih1 _ _ _ _ _ _ _ _)
   | (with_reducible exact ih2 _ _ _)
   | (with_reducible exact impl_TermSwap.mono _ _ _ _ _)
   | (with_reducible exact laws_eqPool.mono _ _ _)
   | (with_reducible exact laws_heldPool.mono _ _ _)
   | (with_reducible exact laws_markPool.mono _ _ _)
   | (with_reducible exact laws_toPool.mono _ _)
   | (with_reducible exact spec_TermSwap.mono _ _ _ _ _)
   | (with_reducible exact LeO.refl _)
   | (with_reducible exact LeO.none _)
   | (with_reducible refine LeO.ite ?_ ?_)
   | (with_reducible refine LeO.bind ?_ (fun _ => ?_))
   | exact ih0 _ _ _ _ _ _ _ _ _ _
   | exact ih1 _ _ _ _ _ _ _ _
   | exact ih2 _ _ _
   | exact impl_TermSwap.mono _ _ _ _ _
   | exact laws_eqPool.mono _ _ _
   | exact laws_heldPool.mono _ _ _
   | exact laws_markPool.mono _ _ _
   | exact laws_toPool.mono _ _
   | exact spec_TermSwap.mono _ _ _ _ _
   | exact LeO.none _
   | refine LeO.ite ?_ ?_
   | refine LeO.bind ?_ (fun _ => ?_)
  ·intro y0 y1 y2
   unfold laws_FnExactTermSwap.j2
   repeat' first
   | (with_reducible exact ih0 _ _ _ _ _ _ _ _ _ _)
   | (with_reducible exact ih1 _ _ _ _ _ _ _ _)
   | (with_reducible exact ih2 _ _ _)
   | (with_reducible exact impl_TermSwap.mono _ _ _ _ _)
   | (with_reducible exact laws_eqPool.mono _ _ _)
   | (with_reducible exact laws_heldPool.mono _ _ _)
   | (with_reducible exact laws_markPool.mono _ _ _)
   | (with_reducible exact laws_toPool.mono _ _)
   | (with_reducible exact spec_TermSwap.mono _ _ _ _ _)
   | (with_reducible exact LeO.refl _)
   | (with_reducible exact LeO.none _)
   | (with_reducible refine LeO.ite ?_ ?_)
   | (with_reducible refine LeO.bind ?_ (fun _ => ?_))
   | exact ih0 _ _ _ _ _ _ _ _ _ _
   | exact ih1 _ _ _ _ _ _ _ _
   | exact ih2 _ _ _
   | exact impl_TermSwap.mono _ _ _ _ _
   | exact laws_eqPool.mono _ _ _
   | exact laws_heldPool.mono _ _ _
   | exact laws_markPool.mono _ _ _
   | exact laws_toPool.mono _ _
   | exact spec_TermSwap.mono _ _ _ _ _
   | exact LeO.none _
   | refine LeO.ite ?_ ?_
   | refine LeO.bind ?_ (fun _ => ?_)
theorem laws_FnExactTermSwap.mono : ∀ a0 a1 a2 a3 k, LeO (laws_FnExactTermSwap.f k a0 a1 a2 a3) (laws_FnExactTermSwap.f (k + 1) a0 a1 a2 a3) := by
 intro a0 a1 a2 a3 k
 obtain ⟨ih0, ih1, ih2⟩ := laws_FnExactTermSwap.mono_l k
 unfold laws_FnExactTermSwap.f
 repeat' first
   | (with_reducible exact ih0 _ _ _ _ _ _ _ _ _ _)
   | (with_reducible exact ih1 _ _ _ _ _ _ _ _)
   | (with_reducible exact ih2 _ _ _)
   | (with_reducible exact impl_TermSwap.mono _ _ _ _ _)
   | (with_reducible exact laws_eqPool.mono _ _ _)
   | (with_reducible exact laws_heldPool.mono _ _ _)
   | (with_reducible exact laws_markPool.mono _ _ _)
   | (with_reducible exact laws_toPool.mono _ _)
   | (with_reducible exact spec_TermSwap.mono _ _ _ _ _)
   | (with_reducible exact LeO.refl _)
   | (with_reducible exact LeO.none _)
   | (with_reducible refine LeO.ite ?_ ?_)
   | (with_reducible refine LeO.bind ?_ (fun _ => ?_))
   | exact ih0 _ _ _ _ _ _ _ _ _ _
   | exact ih1 _ _ _ _ _ _ _ _
   | exact ih2 _ _ _
   | exact impl_TermSwap.mono _ _ _ _ _
   | exact laws_eqPool.mono _ _ _
   | exact laws_heldPool.mono _ _ _
   | exact laws_markPool.mono _ _ _
   | exact laws_toPool.mono _ _
   | exact spec_TermSwap.mono _ _ _ _ _
   | exact LeO.none _
   | refine LeO.ite ?_ ?_
   | refine LeO.bind ?_ (fun _ => ?_)
set_option maxHeartbeats 8000000 in
set_option maxRecDepth 100000 in
theorem laws_FnExactTermSwap.calls (k : Nat) (A0_0 : Option Addr) (c0_0 : Nat) (l0_0 : List (S79)) (a1 : Int) (a2 : Int) (a3 : Int) (r : Bool) (w : World) (hr0_0 : Kd.C k79 w A0_0 l0_0.length l0_0) (hc0_0 : l0_0.length ≤ c0_0) (h : laws_FnExactTermSwap.f k l0_0 a1 a2 a3 = some r) :
  Calls Try.prog 3 #[.agg #[.slice A0_0 l0_0.length c0_0], .int .i64 a1, .int .i64 a2, .int .i64 a3] w fun e w' => e = .returned (.bool r) ∧ Below w.heap.size w w' := by
 have hu24 := Try.underlying24
 have hu28 := Try.underlying28
 have HR0_0 := Aside0.mk hr0_0
 have HC0_0 := Aside0.mk hc0_0
 clear hr0_0 hc0_0
 have HB := Aside0.mk (Below.refl w.heap.size w)
 have H : ((laws_szPool.f l0_0 1048576).bind fun t282 => (if t282 < 0 then (some true) else ((laws_toPool.f k l0_0).bind fun t283 => ((spec_TermSwap.f k t283 a1 a2 a3).bind fun bt286 => ((laws_toPool.f k l0_0).bind fun t291 => ((impl_TermSwap.f k t291 a1 a2 a3).bind fun bt295 => ((laws_eqPool.f k bt295.1 bt286.1).bind fun t300 => (if t300 = true then (laws_FnExactTermSwap.j0 k a1 a2 a3 bt286.2 bt295.2 (bt295.2 != bt286.2) l0_0 bt286.1 t291 bt295.1) else (laws_FnExactTermSwap.j0 k a1 a2 a3 bt286.2 bt295.2 true l0_0 bt286.1 t291 bt295.1))))))))) = some r := h
 clear h
 replace H := Option.bind_eq_some_iff.mp H
 obtain ⟨t282, A50, H⟩ := H
 replace H : (if t282 < 0 then (some true) else ((laws_toPool.f k l0_0).bind fun t283 => ((spec_TermSwap.f k t283 a1 a2 a3).bind fun bt286 => ((laws_toPool.f k l0_0).bind fun t291 => ((impl_TermSwap.f k t291 a1 a2 a3).bind fun bt295 => ((laws_eqPool.f k bt295.1 bt286.1).bind fun t300 => (if t300 = true then (laws_FnExactTermSwap.j0 k a1 a2 a3 bt286.2 bt295.2 (bt295.2 != bt286.2) l0_0 bt286.1 t291 bt295.1) else (laws_FnExactTermSwap.j0 k a1 a2 a3 bt286.2 bt295.2 true l0_0 bt286.1 t291 bt295.1)))))))) = some r := H
 have A5 := Aside0.mk A50
 clear A50
 by_cases c6 : t282 < 0
 ·rw [if_pos c6] at H
  have c6b0 : decide (t282 < 0) = true := decide_eq_true c6
  clear c6
  obtain rfl := Option.some.inj H
  go_enter Try.func3, Try.ntmps3
  go_wp2_with (first | ((with_reducible refine gate_dst (N := 4) rfl ?_); refine box_event ?hg (N := 4) ?hd (cs := #[.slice A0_0 l0_0.length c0_0]) (t := 24) ?hr ?_; (case hd => rfl); (case hg => rfl); (case hr => first | (go_simp; done) | (go_simp; rfl)); intro gb281 hg w7 hbox hb; have n0_ := Aside0.mk (below_step (zb HB.out) hb); have n1_ := Aside0.mk (hbox); have n2_ := Aside0.mk ((by rw [hg]; exact (below_size (zb HB.out)) : w.heap.size ≤ gb281)); have n3_ := Aside0.mk ((by rw [hg]; exact (below_size (zb HB.out)) : w.heap.size ≤ gb281)); clear HB; have HB := n0_; have BK281 := n1_; have GW281 := n2_; have GE281 := n3_; clear n0_ n1_ n2_ n3_; clear hb hbox hg; have hcz8_0 : w7.cell? ⟨gb281, 0, none⟩ = some (.slice A0_0 l0_0.length c0_0) := (blk_cell BK281.out 0).trans rfl; have hfz8_0 := blk_frozen BK281.out 0) | ((with_reducible refine gate_callee (f := 7) rfl ?_); refine goesL_ (some 22) rfl rfl Try.func7 (by kernel_rfl) rfl #[.agg #[.slice A0_0 l0_0.length c0_0], .int .i64 1048576] rfl zl ?_; (with_reducible refine (laws_szPool.calls _ _ l0_0 1048576 t282 _ ?side1 ?side2 A5.out).mono ?_); (case side1 => exact zc (Kd.C_below HR0_0.out HB.out)); (case side2 => exact HC0_0.out); rintro e w9 ⟨rfl, hb⟩; refine ⟨_, rfl, ?_⟩; have n0_ := Aside0.mk (blk_below (zh BK281.out) hb); have n1_ := Aside0.mk (below_step (zb HB.out) hb); clear BK281; clear HB; have BK281 := n0_; have HB := n1_; clear n0_ n1_; (try clear hb); (try clear hb2); (try clear hk); (try clear hi)))
  go_ret
  exact ⟨ze, zb HB.out⟩
 ·rw [if_neg c6] at H
  have c6b0 : decide (t282 < 0) = false := decide_eq_false c6
  clear c6
  replace H := Option.bind_eq_some_iff.mp H
  obtain ⟨t283, A100, H⟩ := H
  replace H : ((spec_TermSwap.f k t283 a1 a2 a3).bind fun bt286 => ((laws_toPool.f k l0_0).bind fun t291 => ((impl_TermSwap.f k t291 a1 a2 a3).bind fun bt295 => ((laws_eqPool.f k bt295.1 bt286.1).bind fun t300 => (if t300 = true then (laws_FnExactTermSwap.j0 k a1 a2 a3 bt286.2 bt295.2 (bt295.2 != bt286.2) l0_0 bt286.1 t291 bt295.1) else (laws_FnExactTermSwap.j0 k a1 a2 a3 bt286.2 bt295.2 true l0_0 bt286.1 t291 bt295.1)))))) = some r := H
  have A10 := Aside0.mk A100
  clear A100
  replace H := Option.bind_eq_some_iff.mp H
  obtain ⟨⟨t286, t289⟩, A110, H⟩ := H
  replace H : ((laws_toPool.f k l0_0).bind fun t291 => ((impl_TermSwap.f k t291 a1 a2 a3).bind fun bt295 => ((laws_eqPool.f k bt295.1 t286).bind fun t300 => (if t300 = true then (laws_FnExactTermSwap.j0 k a1 a2 a3 t289 bt295.2 (bt295.2 != t289) l0_0 t286 t291 bt295.1) else (laws_FnExactTermSwap.j0 k a1 a2 a3 t289 bt295.2 true l0_0 t286 t291 bt295.1))))) = some r := H
  have A11 := Aside0.mk A110
  clear A110
  replace H := Option.bind_eq_some_iff.mp H
  obtain ⟨t291, A120, H⟩ := H
  replace H : ((impl_TermSwap.f k t291 a1 a2 a3).bind fun bt295 => ((laws_eqPool.f k bt295.1 t286).bind fun t300 => (if t300 = true then (laws_FnExactTermSwap.j0 k a1 a2 a3 t289 bt295.2 (bt295.2 != t289) l0_0 t286 t291 bt295.1) else (laws_FnExactTermSwap.j0 k a1 a2 a3 t289 bt295.2 true l0_0 t286 t291 bt295.1)))) = some r := H
  have A12 := Aside0.mk A120
  clear A120
  replace H := Option.bind_eq_some_iff.mp H
  obtain ⟨⟨t295, t298⟩, A130, H⟩ := H
  replace H : ((laws_eqPool.f k t295 t286).bind fun t300 => (if t300 = true then (laws_FnExactTermSwap.j0 k a1 a2 a3 t289 t298 (t298 != t289) l0_0 t286 t291 t295) else (laws_FnExactTermSwap.j0 k a1 a2 a3 t289 t298 true l0_0 t286 t291 t295))) = some r := H
  have A13 := Aside0.mk A130
  clear A130
  have HC14 := Aside0.mk H
  clear H
  go_enter Try.func3, Try.ntmps3
  go_upto_region 8 with (first | ((with_reducible refine gate_dst (N := 4) rfl ?_); refine box_event ?hg (N := 4) ?hd (cs := #[.slice A0_0 l0_0.length c0_0]) (t := 24) ?hr ?_; (case hd => rfl); (case hg => rfl); (case hr => first | (go_simp; done) | (go_simp; rfl)); intro gb281 hg w15 hbox hb; have n0_ := Aside0.mk (below_step (zb HB.out) hb); have n1_ := Aside0.mk (hbox); have n2_ := Aside0.mk ((by rw [hg]; exact (below_size (zb HB.out)) : w.heap.size ≤ gb281)); have n3_ := Aside0.mk ((by rw [hg]; exact (below_size (zb HB.out)) : w.heap.size ≤ gb281)); clear HB; have HB := n0_; have BK281 := n1_; have GW281 := n2_; have GE281 := n3_; clear n0_ n1_ n2_ n3_; clear hb hbox hg; have hcz16_0 : w15.cell? ⟨gb281, 0, none⟩ = some (.slice A0_0 l0_0.length c0_0) := (blk_cell BK281.out 0).trans rfl; have hfz16_0 := blk_frozen BK281.out 0) | ((with_reducible refine gate_callee (f := 7) rfl ?_); refine goesL_ (some 22) rfl rfl Try.func7 (by kernel_rfl) rfl #[.agg #[.slice A0_0 l0_0.length c0_0], .int .i64 1048576] rfl zl ?_; (with_reducible refine (laws_szPool.calls _ _ l0_0 1048576 t282 _ ?side1 ?side2 A5.out).mono ?_); (case side1 => exact zc (Kd.C_below HR0_0.out HB.out)); (case side2 => exact HC0_0.out); rintro e w17 ⟨rfl, hb⟩; refine ⟨_, rfl, ?_⟩; have n0_ := Aside0.mk (blk_below (zh BK281.out) hb); have n1_ := Aside0.mk (below_step (zb HB.out) hb); clear BK281; clear HB; have BK281 := n0_; have HB := n1_; clear n0_ n1_; (try clear hb); (try clear hb2); (try clear hk); (try clear hi); have hcz18_0 : w17.cell? ⟨gb281, 0, none⟩ = some (.slice A0_0 l0_0.length c0_0) := (blk_cell BK281.out 0).trans rfl; have hfz18_0 := blk_frozen BK281.out 0) | ((with_reducible refine gate_callee (f := 9) rfl ?_); refine goesL_ (some 27) rfl rfl Try.func9 (by kernel_rfl) rfl #[.agg #[.slice A0_0 l0_0.length c0_0]] rfl zl ?_; (with_reducible refine (laws_toPool.calls k _ _ l0_0 t283 _ ?side1 ?side2 A10.out).mono ?_); (case side1 => exact zc (Kd.C_below HR0_0.out HB.out)); (case side2 => exact HC0_0.out); rintro e w19 ⟨v284, rfl, ho0, hb⟩; refine ⟨_, rfl, ?_⟩; have n0_ := Aside0.mk (Kd.R_lower ho0 (below_size (zb HB.out))); have n1_ := Aside0.mk (blk_below (zh BK281.out) hb); have n2_ := Aside0.mk (below_step (zb HB.out) hb); clear BK281; clear HB; have HO285 := n0_; have BK281 := n1_; have HB := n2_; clear n0_ n1_ n2_; (try clear hb); (try clear hb2); (try clear hk); (try clear hi); (try clear ho0); obtain ⟨Ao20, co20, eo20⟩ := Kd.R_slice HO285.out; subst eo20) | ((with_reducible refine gate_callee (f := 8) rfl ?_); refine goesL_ (some 31) rfl rfl Try.func8 (by kernel_rfl) rfl #[.agg #[.slice Ao20 t283.length co20], .int .i64 a1, .int .i64 a2, .int .i64 a3] rfl zl ?_; (with_reducible refine (spec_TermSwap.calls k (fun k_ => some k_ = (.slice Ao20 t283.length co20 : Value).ownBlock) _ _ t283 a1 a2 a3 t286 t289 _ ?side1 A11.out).mono ?_); (case side1 => exact Kd.R_V (Kd.R_tight rfl (Kd.R_types (HO285.out) BK281.out (by decide)))); rintro e w21 ⟨v287, rfl, ho0, hb⟩; refine ⟨_, rfl, ?_⟩; have n0_ := Aside0.mk (Kd.R_elder' (zr HO285.out) (Kd.R_base ho0) hb); have n1_ := Aside0.mk (Kd.R_lower (Kd.R_new' (Kd.R_mono (ok' := fun k_ => True) ho0 (fun _ hk_ => trivial)) (Kd.R_lt (zr HO285.out))) (below_size (zb HB.out))); have n2_ := Aside0.mk (blk_below (zh BK281.out) hb); have n3_ := Aside0.mk (below_step (zb HB.out) hb); clear HO285; clear BK281; clear HB; have HO285 := n0_; have HO288 := n1_; have BK281 := n2_; have HB := n3_; clear n0_ n1_ n2_ n3_; (try clear hb); (try clear hb2); (try clear hk); (try clear hi); (try clear ho0)) | ((with_reducible refine gate_dst (N := 10) rfl ?_); refine box_event ?hg (N := 10) ?hd (cs := #[.slice none 0 0]) (t := 28) ?hr ?_; (case hd => rfl); (case hg => rfl); (case hr => first | (go_simp; done) | (go_simp; rfl)); intro gb290 hg w22 hbox hb; have n0_ := Aside0.mk (Kd.R_below (zr HO285.out) hb); have n1_ := Aside0.mk (Kd.R_below (zr HO288.out) hb); have n2_ := Aside0.mk (blk_below (zh BK281.out) hb); have n3_ := Aside0.mk (below_step (zb HB.out) hb); have n4_ := Aside0.mk (hbox); have n5_ := Aside0.mk ((by rw [hg]; exact (below_size (zb HB.out)) : w.heap.size ≤ gb290)); have n6_ := Aside0.mk ((by rw [hg]; exact (below_size (zb HB.out)) : w.heap.size ≤ gb290)); have n7_ := Aside0.mk ((by rw [hg]; exact Nat.ne_of_lt (blk_lt (zh BK281.out)) : gb281 ≠ gb290)); have n8_ := Aside0.mk ((by rw [hg]; exact Nat.ne_of_gt (blk_lt (zh BK281.out)) : gb290 ≠ gb281)); clear HO285; clear HO288; clear BK281; clear HB; have HO285 := n0_; have HO288 := n1_; have BK281 := n2_; have HB := n3_; have BK290 := n4_; have GW290 := n5_; have GE290 := n6_; have NB281_290 := n7_; have NB290_281 := n8_; clear n0_ n1_ n2_ n3_ n4_ n5_ n6_ n7_ n8_; clear hb hbox hg; obtain ⟨Ao23, co23, eo23⟩ := Kd.R_slice HO288.out; subst eo23; have hnb24 := NB290_281.out; have hnc24 := NB281_290.out; have hcz25_0 : w22.cell? ⟨gb290, 0, none⟩ = some (.slice none 0 0) := (blk_cell BK290.out 0).trans rfl; have hfz25_0 := blk_frozen BK290.out 0; have hcz26_0 : w22.cell? ⟨gb281, 0, none⟩ = some (.slice A0_0 l0_0.length c0_0) := (blk_cell BK281.out 0).trans rfl; have hfz26_0 := blk_frozen BK281.out 0) | ((with_reducible refine gate_callee (f := 9) rfl ?_); refine goesL_ (some 35) rfl rfl Try.func9 (by kernel_rfl) rfl #[.agg #[.slice A0_0 l0_0.length c0_0]] rfl zl ?_; (with_reducible refine (laws_toPool.calls k _ _ l0_0 t291 _ ?side1 ?side2 A12.out).mono ?_); (case side1 => exact Kd.C_below HR0_0.out (zb HB.out)); (case side2 => exact HC0_0.out); rintro e w27 ⟨v292, rfl, ho0, hb⟩; refine ⟨_, rfl, ?_⟩; have n0_ := Aside0.mk (Kd.R_elder' (by (with_reducible repeat (first | apply Kd.R_alloc | apply Kd.R_drewN | apply Kd.R_drew)); exact (Kd.R_mono (Kd.R_far (p := ⟨gb290, 0, none⟩) (Kd.R_types HO285.out BK290.out (by decide)) (fun _ hk => hk.2) (.slice Ao23 t286.length co23)) (fun _ h_ => h_.1))) (Kd.R_base ho0) hb); have n1_ := Aside0.mk (Kd.R_elder' (by (with_reducible repeat (first | apply Kd.R_alloc | apply Kd.R_drewN | apply Kd.R_drew)); exact (Kd.R_mono (Kd.R_far (p := ⟨gb290, 0, none⟩) (Kd.R_types HO288.out BK290.out (by decide)) (fun _ hk => hk.2) (.slice Ao23 t286.length co23)) (fun _ h_ => h_.1))) (Kd.R_base ho0) hb); have n2_ := Aside0.mk (Kd.R_lower (Kd.R_new' (Kd.R_new' ho0 (Kd.R_lt (by (with_reducible repeat (first | apply Kd.R_alloc | apply Kd.R_drewN | apply Kd.R_drew)); exact (Kd.R_mono (Kd.R_far (p := ⟨gb290, 0, none⟩) (Kd.R_types HO285.out BK290.out (by decide)) (fun _ hk => hk.2) (.slice Ao23 t286.length co23)) (fun _ h_ => h_.1))))) (Kd.R_lt (by (with_reducible repeat (first | apply Kd.R_alloc | apply Kd.R_drewN | apply Kd.R_drew)); exact (Kd.R_mono (Kd.R_far (p := ⟨gb290, 0, none⟩) (Kd.R_types HO288.out BK290.out (by decide)) (fun _ hk => hk.2) (.slice Ao23 t286.length co23)) (fun _ h_ => h_.1))))) (below_size (zb HB.out))); have n3_ := Aside0.mk (blk_below (g := gb281) (o := .cells #[.slice A0_0 l0_0.length c0_0] 24 (0, 0)) (zf BK281.out) hb); have n4_ := Aside0.mk (blk_below (g := gb290) (o := .cells #[.slice Ao23 t286.length co23] 28 (0, 0)) (by (with_reducible repeat (first | refine blk_drewN ?_ _ | refine blk_drew ?_ | refine blk_alloc ?_ _)); refine blk_put (cs := #[.slice none 0 0]) ?_ 0 _ rfl; (with_reducible repeat (first | refine blk_drewN ?_ _ | refine blk_drew ?_ | refine blk_alloc ?_ _)); exact BK290.out) hb); have n5_ := Aside0.mk (below_step (zb HB.out) hb); clear HO285; clear HO288; clear BK281; clear BK290; clear HB; have HO285 := n0_; have HO288 := n1_; have HO293 := n2_; have BK281 := n3_; have BK290 := n4_; have HB := n5_; clear n0_ n1_ n2_ n3_ n4_ n5_; (try clear hb); (try clear hb2); (try clear hk); (try clear hi); (try clear ho0)) | ((with_reducible refine gate_dst (N := 12) rfl ?_); refine box_event ?hg (N := 12) ?hd (cs := #[.slice none 0 0]) (t := 28) ?hr ?_; (case hd => rfl); (case hg => rfl); (case hr => first | (go_simp; done) | (go_simp; rfl)); intro gb294 hg w28 hbox hb; have n0_ := Aside0.mk (Kd.R_below (zr HO285.out) hb); have n1_ := Aside0.mk (Kd.R_below (zr HO288.out) hb); have n2_ := Aside0.mk (Kd.R_below (zr HO293.out) hb); have n3_ := Aside0.mk (blk_below (zh BK281.out) hb); have n4_ := Aside0.mk (blk_below (zh BK290.out) hb); have n5_ := Aside0.mk (below_step (zb HB.out) hb); have n6_ := Aside0.mk (hbox); have n7_ := Aside0.mk ((by rw [hg]; exact (below_size (zb HB.out)) : w.heap.size ≤ gb294)); have n8_ := Aside0.mk ((by rw [hg]; exact (below_size (zb HB.out)) : w.heap.size ≤ gb294)); have n9_ := Aside0.mk ((by rw [hg]; exact Nat.ne_of_lt (blk_lt (zh BK281.out)) : gb281 ≠ gb294)); have n10_ := Aside0.mk ((by rw [hg]; exact Nat.ne_of_gt (blk_lt (zh BK281.out)) : gb294 ≠ gb281)); have n11_ := Aside0.mk ((by rw [hg]; exact Nat.ne_of_lt (blk_lt (zh BK290.out)) : gb290 ≠ gb294)); have n12_ := Aside0.mk ((by rw [hg]; exact Nat.ne_of_gt (blk_lt (zh BK290.out)) : gb294 ≠ gb290)); clear HO285; clear HO288; clear HO293; clear BK281; clear BK290; clear HB; have HO285 := n0_; have HO288 := n1_; have HO293 := n2_; have BK281 := n3_; have BK290 := n4_; have HB := n5_; have BK294 := n6_; have GW294 := n7_; have GE294 := n8_; have NB281_294 := n9_; have NB294_281 := n10_; have NB290_294 := n11_; have NB294_290 := n12_; clear n0_ n1_ n2_ n3_ n4_ n5_ n6_ n7_ n8_ n9_ n10_ n11_ n12_; clear hb hbox hg; obtain ⟨Ao29, co29, eo29⟩ := Kd.R_slice HO293.out; subst eo29; have hnb30 := NB294_281.out; have hnc30 := NB281_294.out; have hnb31 := NB294_290.out; have hnc31 := NB290_294.out; have hcz32_0 : w28.cell? ⟨gb294, 0, none⟩ = some (.slice none 0 0) := (blk_cell BK294.out 0).trans rfl; have hfz32_0 := blk_frozen BK294.out 0) | ((with_reducible refine gate_callee (f := 10) rfl ?_); refine goesL_ (some 41) rfl rfl Try.func10 (by kernel_rfl) rfl #[.agg #[.slice Ao29 t291.length co29], .int .i64 a1, .int .i64 a2, .int .i64 a3] rfl zl ?_; (with_reducible refine (impl_TermSwap.calls k _ _ t291 a1 a2 a3 t295 t298 _ ?side1 ?side2 A13.out).mono ?_); (case side1 => refine (Kd.R_reads' (e := 55) (base := w.heap.size) (ok := fun k_ => ((True ∧ some k_ ≠ (.slice Ao20 t283.length co20 : Value).ownBlock) ∧ some k_ ≠ (.slice Ao23 t286.length co23 : Value).ownBlock)) (n := t291.length) (c := co29) ?_).2.2; exact (by (with_reducible repeat (first | apply Kd.R_alloc | apply Kd.R_drewN | apply Kd.R_drew)); exact (Kd.R_mono (Kd.R_far (p := ⟨gb294, 0, none⟩) (Kd.R_types HO293.out BK294.out (by decide)) (fun _ hk => hk.2) (.slice Ao29 t291.length co29)) (fun _ h_ => h_.1)))); (case side2 => exact (Kd.R_reads' HO293.out).2.1); rintro e w33 ⟨v296, rfl, ho0, hb⟩; refine ⟨_, rfl, ?_⟩; have n0_ := Aside0.mk (Kd.R_elder' (by (with_reducible repeat (first | apply Kd.R_alloc | apply Kd.R_drewN | apply Kd.R_drew)); exact (Kd.R_mono (Kd.R_far (p := ⟨gb294, 0, none⟩) (Kd.R_types HO285.out BK294.out (by decide)) (fun _ hk => hk.2) (.slice Ao29 t291.length co29)) (fun _ h_ => h_.1))) (Kd.R_base ho0) hb); have n1_ := Aside0.mk (Kd.R_elder' (by (with_reducible repeat (first | apply Kd.R_alloc | apply Kd.R_drewN | apply Kd.R_drew)); exact (Kd.R_mono (Kd.R_far (p := ⟨gb294, 0, none⟩) (Kd.R_types HO288.out BK294.out (by decide)) (fun _ hk => hk.2) (.slice Ao29 t291.length co29)) (fun _ h_ => h_.1))) (Kd.R_base ho0) hb); have n2_ := Aside0.mk (Kd.R_elder' (by (with_reducible repeat (first | apply Kd.R_alloc | apply Kd.R_drewN | apply Kd.R_drew)); exact (Kd.R_mono (Kd.R_far (p := ⟨gb294, 0, none⟩) (Kd.R_types HO293.out BK294.out (by decide)) (fun _ hk => hk.2) (.slice Ao29 t291.length co29)) (fun _ h_ => h_.1))) (Kd.R_base ho0) hb); have n3_ := Aside0.mk (Kd.R_lower (Kd.R_new' (Kd.R_new' (Kd.R_new' ho0 (Kd.R_lt (by (with_reducible repeat (first | apply Kd.R_alloc | apply Kd.R_drewN | apply Kd.R_drew)); exact (Kd.R_mono (Kd.R_far (p := ⟨gb294, 0, none⟩) (Kd.R_types HO285.out BK294.out (by decide)) (fun _ hk => hk.2) (.slice Ao29 t291.length co29)) (fun _ h_ => h_.1))))) (Kd.R_lt (by (with_reducible repeat (first | apply Kd.R_alloc | apply Kd.R_drewN | apply Kd.R_drew)); exact (Kd.R_mono (Kd.R_far (p := ⟨gb294, 0, none⟩) (Kd.R_types HO288.out BK294.out (by decide)) (fun _ hk => hk.2) (.slice Ao29 t291.length co29)) (fun _ h_ => h_.1))))) (Kd.R_lt (by (with_reducible repeat (first | apply Kd.R_alloc | apply Kd.R_drewN | apply Kd.R_drew)); exact (Kd.R_mono (Kd.R_far (p := ⟨gb294, 0, none⟩) (Kd.R_types HO293.out BK294.out (by decide)) (fun _ hk => hk.2) (.slice Ao29 t291.length co29)) (fun _ h_ => h_.1))))) (below_size (zb HB.out))); have n4_ := Aside0.mk (blk_below (g := gb281) (o := .cells #[.slice A0_0 l0_0.length c0_0] 24 (0, 0)) (zf BK281.out) hb); have n5_ := Aside0.mk (blk_below (g := gb290) (o := .cells #[.slice Ao23 t286.length co23] 28 (0, 0)) (zf BK290.out) hb); have n6_ := Aside0.mk (blk_below (g := gb294) (o := .cells #[.slice Ao29 t291.length co29] 28 (0, 0)) (by (with_reducible repeat (first | refine blk_drewN ?_ _ | refine blk_drew ?_ | refine blk_alloc ?_ _)); refine blk_put (cs := #[.slice none 0 0]) ?_ 0 _ rfl; (with_reducible repeat (first | refine blk_drewN ?_ _ | refine blk_drew ?_ | refine blk_alloc ?_ _)); exact BK294.out) hb); have n7_ := Aside0.mk (below_step (zb HB.out) hb); clear HO285; clear HO288; clear HO293; clear BK281; clear BK290; clear BK294; clear HB; have HO285 := n0_; have HO288 := n1_; have HO293 := n2_; have HO297 := n3_; have BK281 := n4_; have BK290 := n5_; have BK294 := n6_; have HB := n7_; clear n0_ n1_ n2_ n3_ n4_ n5_ n6_ n7_; (try clear hb); (try clear hb2); (try clear hk); (try clear hi); (try clear ho0)) | ((with_reducible refine gate_dst (N := 13) rfl ?_); refine box_event ?hg (N := 13) ?hd (cs := #[.slice none 0 0]) (t := 28) ?hr ?_; (case hd => rfl); (case hg => rfl); (case hr => first | (go_simp; done) | (go_simp; rfl)); intro gb299 hg w34 hbox hb; have n0_ := Aside0.mk (Kd.R_below (zr HO285.out) hb); have n1_ := Aside0.mk (Kd.R_below (zr HO288.out) hb); have n2_ := Aside0.mk (Kd.R_below (zr HO293.out) hb); have n3_ := Aside0.mk (Kd.R_below (zr HO297.out) hb); have n4_ := Aside0.mk (blk_below (zh BK281.out) hb); have n5_ := Aside0.mk (blk_below (zh BK290.out) hb); have n6_ := Aside0.mk (blk_below (zh BK294.out) hb); have n7_ := Aside0.mk (below_step (zb HB.out) hb); have n8_ := Aside0.mk (hbox); have n9_ := Aside0.mk ((by rw [hg]; exact (below_size (zb HB.out)) : w.heap.size ≤ gb299)); have n10_ := Aside0.mk ((by rw [hg]; exact (below_size (zb HB.out)) : w.heap.size ≤ gb299)); have n11_ := Aside0.mk ((by rw [hg]; exact Nat.ne_of_lt (blk_lt (zh BK281.out)) : gb281 ≠ gb299)); have n12_ := Aside0.mk ((by rw [hg]; exact Nat.ne_of_gt (blk_lt (zh BK281.out)) : gb299 ≠ gb281)); have n13_ := Aside0.mk ((by rw [hg]; exact Nat.ne_of_lt (blk_lt (zh BK290.out)) : gb290 ≠ gb299)); have n14_ := Aside0.mk ((by rw [hg]; exact Nat.ne_of_gt (blk_lt (zh BK290.out)) : gb299 ≠ gb290)); have n15_ := Aside0.mk ((by rw [hg]; exact Nat.ne_of_lt (blk_lt (zh BK294.out)) : gb294 ≠ gb299)); have n16_ := Aside0.mk ((by rw [hg]; exact Nat.ne_of_gt (blk_lt (zh BK294.out)) : gb299 ≠ gb294)); clear HO285; clear HO288; clear HO293; clear HO297; clear BK281; clear BK290; clear BK294; clear HB; have HO285 := n0_; have HO288 := n1_; have HO293 := n2_; have HO297 := n3_; have BK281 := n4_; have BK290 := n5_; have BK294 := n6_; have HB := n7_; have BK299 := n8_; have GW299 := n9_; have GE299 := n10_; have NB281_299 := n11_; have NB299_281 := n12_; have NB290_299 := n13_; have NB299_290 := n14_; have NB294_299 := n15_; have NB299_294 := n16_; clear n0_ n1_ n2_ n3_ n4_ n5_ n6_ n7_ n8_ n9_ n10_ n11_ n12_ n13_ n14_ n15_ n16_; clear hb hbox hg; obtain ⟨Ao35, co35, eo35⟩ := Kd.R_slice HO297.out; subst eo35; have hnb36 := NB299_281.out; have hnc36 := NB281_299.out; have hnb37 := NB299_290.out; have hnc37 := NB290_299.out; have hnb38 := NB299_294.out; have hnc38 := NB294_299.out; have hcz39_0 : w34.cell? ⟨gb299, 0, none⟩ = some (.slice none 0 0) := (blk_cell BK299.out 0).trans rfl; have hfz39_0 := blk_frozen BK299.out 0))
  (try simp only [Act.put, List.setIfInBounds_toArray, List.set_cons_zero, List.set_cons_succ])
  go_cut [52] (fun v52 wc => ∃ (kq : Nat) (x52_13 : Bool), v52 = .bool x52_13 ∧ Aside0 (laws_FnExactTermSwap.j0 kq a1 a2 a3 t289 t298 x52_13 l0_0 t286 t291 t295 = some r) ∧ Aside0 (kq ≤ k) ∧ Aside0 (Kd.R k55 55 wc w.heap.size (fun k_ => some k_ ≠ ((.slice Ao29 t291.length co29) : Value).ownBlock ∧ some k_ ≠ ((.slice Ao35 t295.length co35) : Value).ownBlock) (.slice Ao23 t286.length co23) t286) ∧ Aside0 (Kd.R k55 55 wc w.heap.size (fun k_ => some k_ ≠ ((.slice Ao23 t286.length co23) : Value).ownBlock ∧ some k_ ≠ ((.slice Ao35 t295.length co35) : Value).ownBlock) (.slice Ao29 t291.length co29) t291) ∧ Aside0 (Kd.R k55 55 wc w.heap.size (fun k_ => some k_ ≠ ((.slice Ao23 t286.length co23) : Value).ownBlock ∧ some k_ ≠ ((.slice Ao29 t291.length co29) : Value).ownBlock) (.slice Ao35 t295.length co35) t295) ∧ Aside0 (wc.heap[gb281]? = some (.cells #[(.slice A0_0 l0_0.length c0_0)] 24 (0, 0))) ∧ Aside0 (wc.heap[gb290]? = some (.cells #[(.slice Ao23 t286.length co23)] 28 (0, 0))) ∧ Aside0 (wc.heap[gb294]? = some (.cells #[(.slice Ao29 t291.length co29)] 28 (0, 0))) ∧ Aside0 (wc.heap[gb299]? = some (.cells #[(.slice Ao35 t295.length co35)] 28 (0, 0))) ∧ Aside0 (Below w.heap.size w wc))
  case first =>
   have H := HC14.out
   clear HC14
   replace H := Option.bind_eq_some_iff.mp H
   obtain ⟨t300, A400, H⟩ := H
   replace H : (if t300 = true then (laws_FnExactTermSwap.j0 k a1 a2 a3 t289 t298 (t298 != t289) l0_0 t286 t291 t295) else (laws_FnExactTermSwap.j0 k a1 a2 a3 t289 t298 true l0_0 t286 t291 t295)) = some r := H
   have A40 := Aside0.mk A400
   clear A400
   by_cases c41 : t300 = true
   ·subst c41
    have H1 : (laws_FnExactTermSwap.j0 k a1 a2 a3 t289 t298 (t298 != t289) l0_0 t286 t291 t295) = some r := by rw [if_pos rfl] at H; exact H
    clear H
    have H := H1
    clear H1
    have H' := Aside0.mk H
    clear H
    have hnb42 := NB299_281.out
    have hnc42 := NB281_299.out
    have hnb43 := NB299_290.out
    have hnc43 := NB290_299.out
    have hnb44 := NB299_294.out
    have hnc44 := NB294_299.out
    have hcz45_0 : w34.cell? ⟨gb299, 0, none⟩ = some (.slice none 0 0) := (blk_cell BK299.out 0).trans rfl
    have hfz45_0 := blk_frozen BK299.out 0
    have hnb46 := NB290_281.out
    have hnc46 := NB281_290.out
    have hnb47 := NB290_294.out
    have hnc47 := NB294_290.out
    have hcz48_0 : w34.cell? ⟨gb290, 0, none⟩ = some (.slice Ao23 t286.length co23) := (blk_cell BK290.out 0).trans rfl
    have hfz48_0 := blk_frozen BK290.out 0
    go_wp2_with (first | ((with_reducible refine gate_callee (f := 11) rfl ?_); refine goesL_ (some 46) rfl rfl Try.func11 (by kernel_rfl) rfl #[.agg #[.slice Ao35 t295.length co35], .agg #[.slice Ao23 t286.length co23]] rfl zl ?_; (with_reducible refine (laws_eqPool.calls k _ _ t295 _ _ t286 true _ ?side1 ?side2 ?side3 ?side4 A40.out).mono ?_); (case side1 => refine (Kd.R_reads' (e := 55) (base := w.heap.size) (ok := fun k_ => (((True ∧ some k_ ≠ (.slice Ao20 t283.length co20 : Value).ownBlock) ∧ some k_ ≠ (.slice Ao23 t286.length co23 : Value).ownBlock) ∧ some k_ ≠ (.slice Ao29 t291.length co29 : Value).ownBlock)) (n := t295.length) (c := co35) ?_).2.2; exact (by (with_reducible repeat (first | apply Kd.R_alloc | apply Kd.R_drewN | apply Kd.R_drew)); exact (Kd.R_mono (Kd.R_far (p := ⟨gb299, 0, none⟩) (Kd.R_types HO297.out BK299.out (by decide)) (fun _ hk => hk.2) (.slice Ao35 t295.length co35)) (fun _ h_ => h_.1)))); (case side2 => exact (Kd.R_reads' HO297.out).2.1); (case side3 => refine (Kd.R_reads' (e := 55) (base := w.heap.size) (ok := fun k_ => (((True ∧ some k_ ≠ (.slice Ao20 t283.length co20 : Value).ownBlock) ∧ some k_ ≠ (.slice Ao29 t291.length co29 : Value).ownBlock) ∧ some k_ ≠ (.slice Ao35 t295.length co35 : Value).ownBlock)) (n := t286.length) (c := co23) ?_).2.2; exact (by (with_reducible repeat (first | apply Kd.R_alloc | apply Kd.R_drewN | apply Kd.R_drew)); exact (Kd.R_mono (Kd.R_far (p := ⟨gb299, 0, none⟩) (Kd.R_types HO288.out BK299.out (by decide)) (fun _ hk => hk.2) (.slice Ao35 t295.length co35)) (fun _ h_ => h_.1)))); (case side4 => exact (Kd.R_reads' HO288.out).2.1); rintro e w49 ⟨rfl, hb⟩; refine ⟨_, rfl, ?_⟩; have n0_ := Aside0.mk (Kd.R_below (by (with_reducible repeat (first | apply Kd.R_alloc | apply Kd.R_drewN | apply Kd.R_drew)); exact (Kd.R_mono (Kd.R_far (p := ⟨gb299, 0, none⟩) (Kd.R_types HO285.out BK299.out (by decide)) (fun _ hk => hk.2) (.slice Ao35 t295.length co35)) (fun _ h_ => h_.1))) hb); have n1_ := Aside0.mk (Kd.R_below (by (with_reducible repeat (first | apply Kd.R_alloc | apply Kd.R_drewN | apply Kd.R_drew)); exact (Kd.R_mono (Kd.R_far (p := ⟨gb299, 0, none⟩) (Kd.R_types HO288.out BK299.out (by decide)) (fun _ hk => hk.2) (.slice Ao35 t295.length co35)) (fun _ h_ => h_.1))) hb); have n2_ := Aside0.mk (Kd.R_below (by (with_reducible repeat (first | apply Kd.R_alloc | apply Kd.R_drewN | apply Kd.R_drew)); exact (Kd.R_mono (Kd.R_far (p := ⟨gb299, 0, none⟩) (Kd.R_types HO293.out BK299.out (by decide)) (fun _ hk => hk.2) (.slice Ao35 t295.length co35)) (fun _ h_ => h_.1))) hb); have n3_ := Aside0.mk (Kd.R_below (by (with_reducible repeat (first | apply Kd.R_alloc | apply Kd.R_drewN | apply Kd.R_drew)); exact (Kd.R_mono (Kd.R_far (p := ⟨gb299, 0, none⟩) (Kd.R_types HO297.out BK299.out (by decide)) (fun _ hk => hk.2) (.slice Ao35 t295.length co35)) (fun _ h_ => h_.1))) hb); have n4_ := Aside0.mk (blk_below (g := gb281) (o := .cells #[.slice A0_0 l0_0.length c0_0] 24 (0, 0)) (zf BK281.out) hb); have n5_ := Aside0.mk (blk_below (g := gb290) (o := .cells #[.slice Ao23 t286.length co23] 28 (0, 0)) (zf BK290.out) hb); have n6_ := Aside0.mk (blk_below (g := gb294) (o := .cells #[.slice Ao29 t291.length co29] 28 (0, 0)) (zf BK294.out) hb); have n7_ := Aside0.mk (blk_below (g := gb299) (o := .cells #[.slice Ao35 t295.length co35] 28 (0, 0)) (by (with_reducible repeat (first | refine blk_drewN ?_ _ | refine blk_drew ?_ | refine blk_alloc ?_ _)); refine blk_put (cs := #[.slice none 0 0]) ?_ 0 _ rfl; (with_reducible repeat (first | refine blk_drewN ?_ _ | refine blk_drew ?_ | refine blk_alloc ?_ _)); exact BK299.out) hb); have n8_ := Aside0.mk (below_step (zb HB.out) hb); clear HO285; clear HO288; clear HO293; clear HO297; clear BK281; clear BK290; clear BK294; clear BK299; clear HB; have HO285 := n0_; have HO288 := n1_; have HO293 := n2_; have HO297 := n3_; have BK281 := n4_; have BK290 := n5_; have BK294 := n6_; have BK299 := n7_; have HB := n8_; clear n0_ n1_ n2_ n3_ n4_ n5_ n6_ n7_ n8_; (try clear hb); (try clear hb2); (try clear hk); (try clear hi)))
    go_meet
    case rel => exact ⟨_, ((t298 != t289)), (by first | rfl | (simp; done) | (simp [*]; done)), H', ⟨by first | omega | exact Nat.le_refl _⟩, ⟨zr (Kd.R_mono HO288.out (fun _ hk => ⟨hk.1.2, hk.2⟩))⟩, ⟨zr (Kd.R_mono HO293.out (fun _ hk => ⟨hk.1.2, hk.2⟩))⟩, ⟨zr (Kd.R_mono HO297.out (fun _ hk => ⟨hk.1.2, hk.2⟩))⟩, ⟨zh BK281.out⟩, ⟨zh BK290.out⟩, ⟨zh BK294.out⟩, ⟨zh BK299.out⟩, ⟨zb HB.out⟩⟩
   ·replace c41 := Bool.eq_false_iff.mpr c41
    subst c41
    have H1 : (laws_FnExactTermSwap.j0 k a1 a2 a3 t289 t298 true l0_0 t286 t291 t295) = some r := by rw [if_neg (show ¬ (false = true) by decide)] at H; exact H
    clear H
    have H := H1
    clear H1
    have H' := Aside0.mk H
    clear H
    have hnb50 := NB299_281.out
    have hnc50 := NB281_299.out
    have hnb51 := NB299_290.out
    have hnc51 := NB290_299.out
    have hnb52 := NB299_294.out
    have hnc52 := NB294_299.out
    have hcz53_0 : w34.cell? ⟨gb299, 0, none⟩ = some (.slice none 0 0) := (blk_cell BK299.out 0).trans rfl
    have hfz53_0 := blk_frozen BK299.out 0
    have hnb54 := NB290_281.out
    have hnc54 := NB281_290.out
    have hnb55 := NB290_294.out
    have hnc55 := NB294_290.out
    have hcz56_0 : w34.cell? ⟨gb290, 0, none⟩ = some (.slice Ao23 t286.length co23) := (blk_cell BK290.out 0).trans rfl
    have hfz56_0 := blk_frozen BK290.out 0
    go_wp2_with (first | ((with_reducible refine gate_callee (f := 11) rfl ?_); refine goesL_ (some 46) rfl rfl Try.func11 (by kernel_rfl) rfl #[.agg #[.slice Ao35 t295.length co35], .agg #[.slice Ao23 t286.length co23]] rfl zl ?_; (with_reducible refine (laws_eqPool.calls k _ _ t295 _ _ t286 false _ ?side1 ?side2 ?side3 ?side4 A40.out).mono ?_); (case side1 => refine (Kd.R_reads' (e := 55) (base := w.heap.size) (ok := fun k_ => (((True ∧ some k_ ≠ (.slice Ao20 t283.length co20 : Value).ownBlock) ∧ some k_ ≠ (.slice Ao23 t286.length co23 : Value).ownBlock) ∧ some k_ ≠ (.slice Ao29 t291.length co29 : Value).ownBlock)) (n := t295.length) (c := co35) ?_).2.2; exact (by (with_reducible repeat (first | apply Kd.R_alloc | apply Kd.R_drewN | apply Kd.R_drew)); exact (Kd.R_mono (Kd.R_far (p := ⟨gb299, 0, none⟩) (Kd.R_types HO297.out BK299.out (by decide)) (fun _ hk => hk.2) (.slice Ao35 t295.length co35)) (fun _ h_ => h_.1)))); (case side2 => exact (Kd.R_reads' HO297.out).2.1); (case side3 => refine (Kd.R_reads' (e := 55) (base := w.heap.size) (ok := fun k_ => (((True ∧ some k_ ≠ (.slice Ao20 t283.length co20 : Value).ownBlock) ∧ some k_ ≠ (.slice Ao29 t291.length co29 : Value).ownBlock) ∧ some k_ ≠ (.slice Ao35 t295.length co35 : Value).ownBlock)) (n := t286.length) (c := co23) ?_).2.2; exact (by (with_reducible repeat (first | apply Kd.R_alloc | apply Kd.R_drewN | apply Kd.R_drew)); exact (Kd.R_mono (Kd.R_far (p := ⟨gb299, 0, none⟩) (Kd.R_types HO288.out BK299.out (by decide)) (fun _ hk => hk.2) (.slice Ao35 t295.length co35)) (fun _ h_ => h_.1)))); (case side4 => exact (Kd.R_reads' HO288.out).2.1); rintro e w57 ⟨rfl, hb⟩; refine ⟨_, rfl, ?_⟩; have n0_ := Aside0.mk (Kd.R_below (by (with_reducible repeat (first | apply Kd.R_alloc | apply Kd.R_drewN | apply Kd.R_drew)); exact (Kd.R_mono (Kd.R_far (p := ⟨gb299, 0, none⟩) (Kd.R_types HO285.out BK299.out (by decide)) (fun _ hk => hk.2) (.slice Ao35 t295.length co35)) (fun _ h_ => h_.1))) hb); have n1_ := Aside0.mk (Kd.R_below (by (with_reducible repeat (first | apply Kd.R_alloc | apply Kd.R_drewN | apply Kd.R_drew)); exact (Kd.R_mono (Kd.R_far (p := ⟨gb299, 0, none⟩) (Kd.R_types HO288.out BK299.out (by decide)) (fun _ hk => hk.2) (.slice Ao35 t295.length co35)) (fun _ h_ => h_.1))) hb); have n2_ := Aside0.mk (Kd.R_below (by (with_reducible repeat (first | apply Kd.R_alloc | apply Kd.R_drewN | apply Kd.R_drew)); exact (Kd.R_mono (Kd.R_far (p := ⟨gb299, 0, none⟩) (Kd.R_types HO293.out BK299.out (by decide)) (fun _ hk => hk.2) (.slice Ao35 t295.length co35)) (fun _ h_ => h_.1))) hb); have n3_ := Aside0.mk (Kd.R_below (by (with_reducible repeat (first | apply Kd.R_alloc | apply Kd.R_drewN | apply Kd.R_drew)); exact (Kd.R_mono (Kd.R_far (p := ⟨gb299, 0, none⟩) (Kd.R_types HO297.out BK299.out (by decide)) (fun _ hk => hk.2) (.slice Ao35 t295.length co35)) (fun _ h_ => h_.1))) hb); have n4_ := Aside0.mk (blk_below (g := gb281) (o := .cells #[.slice A0_0 l0_0.length c0_0] 24 (0, 0)) (zf BK281.out) hb); have n5_ := Aside0.mk (blk_below (g := gb290) (o := .cells #[.slice Ao23 t286.length co23] 28 (0, 0)) (zf BK290.out) hb); have n6_ := Aside0.mk (blk_below (g := gb294) (o := .cells #[.slice Ao29 t291.length co29] 28 (0, 0)) (zf BK294.out) hb); have n7_ := Aside0.mk (blk_below (g := gb299) (o := .cells #[.slice Ao35 t295.length co35] 28 (0, 0)) (by (with_reducible repeat (first | refine blk_drewN ?_ _ | refine blk_drew ?_ | refine blk_alloc ?_ _)); refine blk_put (cs := #[.slice none 0 0]) ?_ 0 _ rfl; (with_reducible repeat (first | refine blk_drewN ?_ _ | refine blk_drew ?_ | refine blk_alloc ?_ _)); exact BK299.out) hb); have n8_ := Aside0.mk (below_step (zb HB.out) hb); clear HO285; clear HO288; clear HO293; clear HO297; clear BK281; clear BK290; clear BK294; clear BK299; clear HB; have HO285 := n0_; have HO288 := n1_; have HO293 := n2_; have HO297 := n3_; have BK281 := n4_; have BK290 := n5_; have BK294 := n6_; have BK299 := n7_; have HB := n8_; clear n0_ n1_ n2_ n3_ n4_ n5_ n6_ n7_ n8_; (try clear hb); (try clear hb2); (try clear hk); (try clear hi)))
    go_meet
    case rel => exact ⟨_, (true), (by first | rfl | (simp; done) | (simp [*]; done)), H', ⟨by first | omega | exact Nat.le_refl _⟩, ⟨zr (Kd.R_mono HO288.out (fun _ hk => ⟨hk.1.2, hk.2⟩))⟩, ⟨zr (Kd.R_mono HO293.out (fun _ hk => ⟨hk.1.2, hk.2⟩))⟩, ⟨zr (Kd.R_mono HO297.out (fun _ hk => ⟨hk.1.2, hk.2⟩))⟩, ⟨zh BK281.out⟩, ⟨zh BK290.out⟩, ⟨zh BK294.out⟩, ⟨zh BK299.out⟩, ⟨zb HB.out⟩⟩
  case rest =>
   clear HC14
   try clear c1
   try clear c2
   try clear p2
   try clear c3
   try clear c4
   try clear c5
   try clear c6
   try clear c6b0
   try clear c7
   try clear c8
   try clear c9
   try clear c10
   try clear c11
   try clear c24
   try clear c30
   try clear c31
   try clear c36
   try clear c37
   try clear c38
   try clear c41
   try clear c42
   try clear c43
   try clear c44
   try clear c46
   try clear c47
   try clear c50
   try clear c51
   try clear c52
   try clear c54
   try clear c55
   try clear hcz16_0
   try clear hcz18_0
   try clear hcz25_0
   try clear hcz26_0
   try clear hcz32_0
   try clear hcz39_0
   try clear hcz45_0
   try clear hcz48_0
   try clear hcz53_0
   try clear hcz56_0
   try clear hcz8_0
   try clear hfz16_0
   try clear hfz18_0
   try clear hfz25_0
   try clear hfz26_0
   try clear hfz32_0
   try clear hfz39_0
   try clear hfz45_0
   try clear hfz48_0
   try clear hfz53_0
   try clear hfz56_0
   try clear hfz8_0
   obtain ⟨kq, x52_13, rfl, HA, HJ13, HO_291000, HO_295000, HO_300000, BK281, BK290, BK294, BK299, HB⟩ := hcut
   cases kq with
   | zero => exact absurd HA.out (by simp [laws_FnExactTermSwap.j0])
   | succ kj13 =>
    have H := HA.out
    clear HA
    simp only [laws_FnExactTermSwap.j0] at H
    by_cases c58 : x52_13 = true
    ·subst c58
     have H1 : (some false) = some r := by rw [if_pos rfl] at H; exact H
     clear H
     have H := H1
     clear H1
     obtain rfl := Option.some.inj H
     go_wp2
     go_ret
     exact ⟨ze, zb HB.out⟩
    ·replace c58 := Bool.eq_false_iff.mpr c58
     subst c58
     have H1 : ((laws_toPool.f kj13 l0_0).bind fun t301 => ((laws_eqPool.f kj13 t291 t301).bind fun t304 => (if t304 = true then ((laws_markPool.f kj13 t291 1).bind fun bt305 => (if bt305.1 < 0 then (laws_FnExactTermSwap.j1 kj13 a1 a2 a3 t289 true l0_0 t286 t295) else ((laws_eqPool.f kj13 t295 t286).bind fun t307 => (if t307 = true then (laws_FnExactTermSwap.j1 kj13 a1 a2 a3 t289 (t298 != t289) l0_0 t286 t295) else (laws_FnExactTermSwap.j1 kj13 a1 a2 a3 t289 true l0_0 t286 t295))))) else (some false)))) = some r := by rw [if_neg (show ¬ (false = true) by decide)] at H; exact H
     clear H
     have H := H1
     clear H1
     replace H := Option.bind_eq_some_iff.mp H
     obtain ⟨t301, A590, H⟩ := H
     replace H : ((laws_eqPool.f kj13 t291 t301).bind fun t304 => (if t304 = true then ((laws_markPool.f kj13 t291 1).bind fun bt305 => (if bt305.1 < 0 then (laws_FnExactTermSwap.j1 kj13 a1 a2 a3 t289 true l0_0 t286 t295) else ((laws_eqPool.f kj13 t295 t286).bind fun t307 => (if t307 = true then (laws_FnExactTermSwap.j1 kj13 a1 a2 a3 t289 (t298 != t289) l0_0 t286 t295) else (laws_FnExactTermSwap.j1 kj13 a1 a2 a3 t289 true l0_0 t286 t295))))) else (some false))) = some r := H
     have A59 := Aside0.mk A590
     clear A590
     replace H := Option.bind_eq_some_iff.mp H
     obtain ⟨t304, A600, H⟩ := H
     replace H : (if t304 = true then ((laws_markPool.f kj13 t291 1).bind fun bt305 => (if bt305.1 < 0 then (laws_FnExactTermSwap.j1 kj13 a1 a2 a3 t289 true l0_0 t286 t295) else ((laws_eqPool.f kj13 t295 t286).bind fun t307 => (if t307 = true then (laws_FnExactTermSwap.j1 kj13 a1 a2 a3 t289 (t298 != t289) l0_0 t286 t295) else (laws_FnExactTermSwap.j1 kj13 a1 a2 a3 t289 true l0_0 t286 t295))))) else (some false)) = some r := H
     have A60 := Aside0.mk A600
     clear A600
     by_cases c61 : t304 = true
     ·subst c61
      have H1 : ((laws_markPool.f kj13 t291 1).bind fun bt305 => (if bt305.1 < 0 then (laws_FnExactTermSwap.j1 kj13 a1 a2 a3 t289 true l0_0 t286 t295) else ((laws_eqPool.f kj13 t295 t286).bind fun t307 => (if t307 = true then (laws_FnExactTermSwap.j1 kj13 a1 a2 a3 t289 (t298 != t289) l0_0 t286 t295) else (laws_FnExactTermSwap.j1 kj13 a1 a2 a3 t289 true l0_0 t286 t295))))) = some r := by rw [if_pos rfl] at H; exact H
      clear H
      have H := H1
      clear H1
      replace H := Option.bind_eq_some_iff.mp H
      obtain ⟨⟨t305, t306⟩, A620, H⟩ := H
      replace H : (if t305 < 0 then (laws_FnExactTermSwap.j1 kj13 a1 a2 a3 t289 true l0_0 t286 t295) else ((laws_eqPool.f kj13 t295 t286).bind fun t307 => (if t307 = true then (laws_FnExactTermSwap.j1 kj13 a1 a2 a3 t289 (t298 != t289) l0_0 t286 t295) else (laws_FnExactTermSwap.j1 kj13 a1 a2 a3 t289 true l0_0 t286 t295)))) = some r := H
      have A62 := Aside0.mk A620
      clear A620
      have HC63 := Aside0.mk H
      clear H
      try go_wp2
      have n0_ := Aside0.mk (Kd.R_drew HO_291000.out)
      have n1_ := Aside0.mk (Kd.R_drew HO_295000.out)
      have n2_ := Aside0.mk (Kd.R_drew HO_300000.out)
      have n3_ := Aside0.mk (blk_drew BK281.out)
      have n4_ := Aside0.mk (blk_drew BK290.out)
      have n5_ := Aside0.mk (blk_drew BK294.out)
      have n6_ := Aside0.mk (blk_drew BK299.out)
      have n7_ := Aside0.mk (below_drew1 HB.out)
      clear HO_291000
      clear HO_295000
      clear HO_300000
      clear BK281
      clear BK290
      clear BK294
      clear BK299
      clear HB
      have HO_291000 := n0_
      have HO_295000 := n1_
      have HO_300000 := n2_
      have BK281 := n3_
      have BK290 := n4_
      have BK294 := n5_
      have BK299 := n6_
      have HB := n7_
      clear n0_ n1_ n2_ n3_ n4_ n5_ n6_ n7_
      refine start_ (n := 5) (S := fun w' => w'.cell? ⟨gb294, 0, none⟩ = some (.slice Ao29 t291.length co29) ∧ w'.cell? ⟨gb281, 0, none⟩ = some (.slice A0_0 l0_0.length c0_0)) (ds := []) #[false, false, false, false, false] (by kernel_rfl) rfl rfl ⟨(blk_cell BK294.out 0).trans rfl, (blk_cell BK281.out 0).trans rfl⟩ (fun hHeld => ?_)
      generalize wc.drew = w64 at HO_291000 HO_295000 HO_300000 BK281 BK290 BK294 BK299 HB hHeld ⊢
      refine take_ (i := 0) (N := some 53) (v := ?_) (a' := ?_) #[true, false, false, false, false] rfl rfl (by kernel_rfl) (fun _ _ _ h => h) (Or.inl ⟨by rfl, ?_⟩) hHeld ?_ ?_
      rotate_left
      ·rintro w' ⟨s0, s1⟩
       go_simp
       with_reducible rfl
      rotate_left
      ·simp only [Act.put, List.setIfInBounds_toArray, List.set_cons_zero, List.set_cons_succ, i64_w, i32_w]
       rfl
      refine take_ (i := 1) (N := some 54) (v := ?_) (a' := ?_) #[true, true, false, false, false] rfl rfl (by kernel_rfl) (fun _ _ _ h => h) (Or.inl ⟨by rfl, ?_⟩) hHeld ?_ ?_
      rotate_left
      ·rintro w' ⟨s0, s1⟩
       go_simp
       with_reducible rfl
      rotate_left
      ·simp only [Act.put, List.setIfInBounds_toArray, List.set_cons_zero, List.set_cons_succ, i64_w, i32_w]
       rfl
      refine one_ (i := 2) (N := some 55) #[true, true, true, false, false] rfl rfl (by kernel_rfl) (by decide) (fun K hK => ?_)
      refine goes_ Try.func9 (by kernel_rfl) rfl #[.agg #[.slice A0_0 l0_0.length c0_0]] (by rfl) rfl rfl zl ?_
      with_reducible refine (laws_toPool.calls kj13 _ _ l0_0 t301 _ ?side1 ?side2 A59.out).mono ?_
      (case side1 => exact zc (Kd.C_below HR0_0.out HB.out))
      (case side2 => exact HC0_0.out)
      rintro e w65 ⟨v302, rfl, ho0, hb⟩
      refine ⟨_, rfl, ?_⟩
      have n0_ := Aside0.mk (Kd.R_elder' (zr HO_291000.out) (Kd.R_base ho0) hb)
      have n1_ := Aside0.mk (Kd.R_elder' (zr HO_295000.out) (Kd.R_base ho0) hb)
      have n2_ := Aside0.mk (Kd.R_elder' (zr HO_300000.out) (Kd.R_base ho0) hb)
      have n3_ := Aside0.mk (Kd.R_lower (Kd.R_new' (Kd.R_new' (Kd.R_new' ho0 (Kd.R_lt (zr HO_291000.out))) (Kd.R_lt (zr HO_295000.out))) (Kd.R_lt (zr HO_300000.out))) (below_size (zb HB.out)))
      have n4_ := Aside0.mk (blk_below (zh BK281.out) hb)
      have n5_ := Aside0.mk (blk_below (zh BK290.out) hb)
      have n6_ := Aside0.mk (blk_below (zh BK294.out) hb)
      have n7_ := Aside0.mk (blk_below (zh BK299.out) hb)
      have n8_ := Aside0.mk (below_step (zb HB.out) hb)
      clear HO_291000
      clear HO_295000
      clear HO_300000
      clear BK281
      clear BK290
      clear BK294
      clear BK299
      clear HB
      have HO_291000 := n0_
      have HO_295000 := n1_
      have HO_300000 := n2_
      have HO303 := n3_
      have BK281 := n4_
      have BK290 := n5_
      have BK294 := n6_
      have BK299 := n7_
      have HB := n8_
      clear n0_ n1_ n2_ n3_ n4_ n5_ n6_ n7_ n8_
      (try clear hb)
      (try clear hb2)
      (try clear hk)
      (try clear hi)
      (try clear ho0)
      obtain ⟨Ao66, co66, eo66⟩ := Kd.R_slice HO303.out
      (first | subst eo66 | (injection eo66 with f1_ f2_ f3_; have f4_ := f1_.symm; have f5_ := f3_.symm; clear f1_ f2_ f3_; subst f4_; subst f5_))
      refine hK.out _ _ ⟨(blk_cell BK294.out 0).trans rfl, (blk_cell BK281.out 0).trans rfl⟩ (fun hHeld => ?_)
      clear hK K
      refine norm_ (a' := ?_) ?_ ?_
      rotate_left
      ·show Act.put _ (some 55) _ = _
       simp only [Act.put, List.setIfInBounds_toArray, List.set_cons_zero, List.set_cons_succ, i64_w, i32_w]
       rfl
      refine one_ (i := 3) (N := some 56) #[true, true, true, true, false] rfl rfl (by kernel_rfl) (by decide) (fun K hK => ?_)
      refine goes_ Try.func11 (by kernel_rfl) rfl #[.agg #[.slice Ao29 t291.length co29], .agg #[.slice Ao66 t301.length co66]] (by rfl) rfl rfl zl ?_
      with_reducible refine (laws_eqPool.calls kj13 _ _ t291 _ _ t301 true _ ?side1 ?side2 ?side3 ?side4 A60.out).mono ?_
      (case side1 => exact zc (Kd.R_reads' HO_295000.out).2.2)
      (case side2 => exact (Kd.R_reads' HO_295000.out).2.1)
      (case side3 => exact zc (Kd.R_reads' HO303.out).2.2)
      (case side4 => exact (Kd.R_reads' HO303.out).2.1)
      rintro e w67 ⟨rfl, hb⟩
      refine ⟨_, rfl, ?_⟩
      have n0_ := Aside0.mk (Kd.R_below (zr HO_291000.out) hb)
      have n1_ := Aside0.mk (Kd.R_below (zr HO_295000.out) hb)
      have n2_ := Aside0.mk (Kd.R_below (zr HO_300000.out) hb)
      have n3_ := Aside0.mk (Kd.R_below (zr HO303.out) hb)
      have n4_ := Aside0.mk (blk_below (zh BK281.out) hb)
      have n5_ := Aside0.mk (blk_below (zh BK290.out) hb)
      have n6_ := Aside0.mk (blk_below (zh BK294.out) hb)
      have n7_ := Aside0.mk (blk_below (zh BK299.out) hb)
      have n8_ := Aside0.mk (below_step (zb HB.out) hb)
      clear HO_291000
      clear HO_295000
      clear HO_300000
      clear HO303
      clear BK281
      clear BK290
      clear BK294
      clear BK299
      clear HB
      have HO_291000 := n0_
      have HO_295000 := n1_
      have HO_300000 := n2_
      have HO303 := n3_
      have BK281 := n4_
      have BK290 := n5_
      have BK294 := n6_
      have BK299 := n7_
      have HB := n8_
      clear n0_ n1_ n2_ n3_ n4_ n5_ n6_ n7_ n8_
      (try clear hb)
      (try clear hb2)
      (try clear hk)
      (try clear hi)
      refine hK.out _ _ ⟨(blk_cell BK294.out 0).trans rfl, (blk_cell BK281.out 0).trans rfl⟩ (fun hHeld => ?_)
      clear hK K
      refine norm_ (a' := ?_) ?_ ?_
      rotate_left
      ·show Act.put _ (some 56) _ = _
       simp only [Act.put, List.setIfInBounds_toArray, List.set_cons_zero, List.set_cons_succ, i64_w, i32_w]
       rfl
      refine pure_ (i := 4) (N := some 57) (v := ?_) (a' := ?_) #[true, true, true, true, true] rfl rfl (by kernel_rfl) (fun _ _ _ h => h) (Or.inl ⟨by rfl, ?_⟩) ?_ ?_
      rotate_left
      ·intro w'
       go_simp
       with_reducible rfl
      rotate_left
      ·simp only [Act.put, List.setIfInBounds_toArray, List.set_cons_zero, List.set_cons_succ, i64_w, i32_w]
       rfl
      refine done_ (by kernel_rfl) ?_
      have hnb68 := NB294_281.out
      have hnc68 := NB281_294.out
      have hnb69 := NB294_290.out
      have hnc69 := NB290_294.out
      have hnb70 := NB294_299.out
      have hnc70 := NB299_294.out
      have hcz71_0 : w67.cell? ⟨gb294, 0, none⟩ = some (.slice Ao29 t291.length co29) := (blk_cell BK294.out 0).trans rfl
      have hfz71_0 := blk_frozen BK294.out 0
      go_upto_region 14 with (first | ((with_reducible refine gate_callee (f := 12) rfl ?_); refine goesL_ (some 60) rfl rfl Try.func12 (by kernel_rfl) rfl #[.agg #[.slice Ao29 t291.length co29], .int .i64 1] rfl zl ?_; (with_reducible refine (laws_markPool.calls kj13 (fun k_ => some k_ = (.slice Ao29 t291.length co29 : Value).ownBlock) (.slice Ao29 t291.length co29) t291 1 t305 t306 w _ ?side1 ?side2 A62.out).mono ?_); (case side1 => exact zb HB.out); (case side2 => exact Kd.R_tight rfl HO_295000.out); rintro e w72 ⟨rfl, hy0, hb, hkp⟩; refine ⟨_, rfl, ?_⟩; have n0_ := Aside0.mk (Kd.R_mono (ok' := fun k_ => some k_ ≠ (.slice Ao29 t291.length co29 : Value).ownBlock ∧ some k_ ≠ (.slice Ao35 t295.length co35 : Value).ownBlock ∧ some k_ ≠ (.slice Ao66 t301.length co66 : Value).ownBlock) (Kd.R_keptB (HO_291000.out) hkp (fun k_ hk_ hs_ => by first | exact (hk_.1.1) hs_ | (revert hk_; simp only [and_imp]; intros; exact absurd hs_ (by assumption)))) (fun k_ hk_ => by first | exact ⟨hk_.1.1.1, hk_.1.1.2, hk_.1.2⟩ | (revert hk_; simp only [and_imp]; intros; and_intros <;> assumption))); have n1_ := Aside0.mk (Kd.R_reok rfl hy0 (fun k_ e_ => HO_295000.out.1 k_ e_)); have n2_ := Aside0.mk (Kd.R_mono (ok' := fun k_ => some k_ ≠ (.slice Ao23 t286.length co23 : Value).ownBlock ∧ some k_ ≠ (.slice Ao29 t291.length co29 : Value).ownBlock ∧ some k_ ≠ (.slice Ao66 t301.length co66 : Value).ownBlock) (Kd.R_keptB (HO_300000.out) hkp (fun k_ hk_ hs_ => by first | exact (hk_.1.2) hs_ | (revert hk_; simp only [and_imp]; intros; exact absurd hs_ (by assumption)))) (fun k_ hk_ => by first | exact ⟨hk_.1.1.1, hk_.1.1.2, hk_.1.2⟩ | (revert hk_; simp only [and_imp]; intros; and_intros <;> assumption))); have n3_ := Aside0.mk (blk_kept (zh BK281.out) hkp (fun hs_ => (fun e_ => (Kd.R_ne HO_295000.out BK281.out (by decide)) e_) hs_)); have n4_ := Aside0.mk (blk_kept (zh BK290.out) hkp (fun hs_ => (fun e_ => (Kd.R_ne HO_295000.out BK290.out (by decide)) e_) hs_)); have n5_ := Aside0.mk (blk_kept (zh BK294.out) hkp (fun hs_ => (fun e_ => (Kd.R_ne HO_295000.out BK294.out (by decide)) e_) hs_)); have n6_ := Aside0.mk (blk_kept (zh BK299.out) hkp (fun hs_ => (fun e_ => (Kd.R_ne HO_295000.out BK299.out (by decide)) e_) hs_)); have n7_ := Aside0.mk (Kd.R_mono (ok' := fun k_ => some k_ ≠ (.slice Ao23 t286.length co23 : Value).ownBlock ∧ some k_ ≠ (.slice Ao29 t291.length co29 : Value).ownBlock ∧ some k_ ≠ (.slice Ao35 t295.length co35 : Value).ownBlock) (Kd.R_keptB (HO303.out) hkp (fun k_ hk_ hs_ => by first | exact (hk_.1.2) hs_ | (revert hk_; simp only [and_imp]; intros; exact absurd hs_ (by assumption)))) (fun k_ hk_ => by first | exact ⟨hk_.1.1.1.2, hk_.1.1.2, hk_.1.2⟩ | (revert hk_; simp only [and_imp]; intros; and_intros <;> assumption))); have n8_ := Aside0.mk (hb); clear HO_291000; clear HO_295000; clear HO_300000; clear BK281; clear BK290; clear BK294; clear BK299; clear HO303; clear HB; have HO_291000 := n0_; have HO_295000 := n1_; have HO_300000 := n2_; have BK281 := n3_; have BK290 := n4_; have BK294 := n5_; have BK299 := n6_; have HO303 := n7_; have HB := n8_; clear n0_ n1_ n2_ n3_ n4_ n5_ n6_ n7_ n8_; (try clear hb); (try clear hkp); (try clear hy0)))
      (try simp only [Act.put, List.setIfInBounds_toArray, List.set_cons_zero, List.set_cons_succ])
      go_cut [73] (fun v73 wc => ∃ (kq : Nat) (x73_62 : Bool), v73 = .bool x73_62 ∧ Aside0 (laws_FnExactTermSwap.j1 kq a1 a2 a3 t289 x73_62 l0_0 t286 t295 = some r) ∧ Aside0 (kq ≤ kj13) ∧ Aside0 (Kd.R k55 55 wc w.heap.size (fun k_ => some k_ ≠ ((.slice Ao29 t291.length co29) : Value).ownBlock ∧ some k_ ≠ ((.slice Ao35 t295.length co35) : Value).ownBlock) (.slice Ao23 t286.length co23) t286) ∧ Aside0 (Kd.R k55 55 wc w.heap.size (fun k_ => some k_ ≠ ((.slice Ao23 t286.length co23) : Value).ownBlock ∧ some k_ ≠ ((.slice Ao35 t295.length co35) : Value).ownBlock) (.slice Ao29 t291.length co29) t306) ∧ Aside0 (Kd.R k55 55 wc w.heap.size (fun k_ => some k_ ≠ ((.slice Ao23 t286.length co23) : Value).ownBlock ∧ some k_ ≠ ((.slice Ao29 t291.length co29) : Value).ownBlock) (.slice Ao35 t295.length co35) t295) ∧ Aside0 (wc.heap[gb281]? = some (.cells #[(.slice A0_0 l0_0.length c0_0)] 24 (0, 0))) ∧ Aside0 (wc.heap[gb290]? = some (.cells #[(.slice Ao23 t286.length co23)] 28 (0, 0))) ∧ Aside0 (wc.heap[gb294]? = some (.cells #[(.slice Ao29 t291.length co29)] 28 (0, 0))) ∧ Aside0 (wc.heap[gb299]? = some (.cells #[(.slice Ao35 t295.length co35)] 28 (0, 0))) ∧ Aside0 (Below w.heap.size w wc))
      case first =>
       have H := HC63.out
       clear HC63
       by_cases c73 : t305 < 0
       ·rw [if_pos c73] at H
        have c73b0 : decide (t305 < 0) = true := decide_eq_true c73
        clear c73
        (first | rw [c73b0] | (simp only [i64_w, i32_w]; rw [c73b0]) | skip)
        have H' := Aside0.mk H
        clear H
        go_wp2
        go_meet
        case rel => exact ⟨_, (true), (by first | rfl | (simp; done) | (simp [*]; done)), H', ⟨by have := HJ13.out; first | omega | exact Nat.le_refl _⟩, ⟨zr (Kd.R_mono HO_291000.out (fun _ hk => ⟨hk.1, hk.2.1⟩))⟩, ⟨zr (Kd.R_mono HO_295000.out (fun _ hk => ⟨hk.1.1, hk.1.2⟩))⟩, ⟨zr (Kd.R_mono HO_300000.out (fun _ hk => ⟨hk.1, hk.2.1⟩))⟩, ⟨zh BK281.out⟩, ⟨zh BK290.out⟩, ⟨zh BK294.out⟩, ⟨zh BK299.out⟩, ⟨zb HB.out⟩⟩
       ·rw [if_neg c73] at H
        have c73b0 : decide (t305 < 0) = false := decide_eq_false c73
        clear c73
        (first | rw [c73b0] | (simp only [i64_w, i32_w]; rw [c73b0]) | skip)
        replace H := Option.bind_eq_some_iff.mp H
        obtain ⟨t307, A740, H⟩ := H
        replace H : (if t307 = true then (laws_FnExactTermSwap.j1 kj13 a1 a2 a3 t289 (t298 != t289) l0_0 t286 t295) else (laws_FnExactTermSwap.j1 kj13 a1 a2 a3 t289 true l0_0 t286 t295)) = some r := H
        have A74 := Aside0.mk A740
        clear A740
        by_cases c75 : t307 = true
        ·subst c75
         have H1 : (laws_FnExactTermSwap.j1 kj13 a1 a2 a3 t289 (t298 != t289) l0_0 t286 t295) = some r := by rw [if_pos rfl] at H; exact H
         clear H
         have H := H1
         clear H1
         have H' := Aside0.mk H
         clear H
         have hnb76 := NB299_281.out
         have hnc76 := NB281_299.out
         have hnb77 := NB299_290.out
         have hnc77 := NB290_299.out
         have hnb78 := NB299_294.out
         have hnc78 := NB294_299.out
         have hcz79_0 : w72.cell? ⟨gb299, 0, none⟩ = some (.slice Ao35 t295.length co35) := (blk_cell BK299.out 0).trans rfl
         have hfz79_0 := blk_frozen BK299.out 0
         have hnb80 := NB290_281.out
         have hnc80 := NB281_290.out
         have hnb81 := NB290_294.out
         have hnc81 := NB294_290.out
         have hcz82_0 : w72.cell? ⟨gb290, 0, none⟩ = some (.slice Ao23 t286.length co23) := (blk_cell BK290.out 0).trans rfl
         have hfz82_0 := blk_frozen BK290.out 0
         go_wp2_with (first | (go_at_call 11; (with_reducible refine (laws_eqPool.calls kj13 _ _ t295 _ _ t286 true _ ?side1 ?side2 ?side3 ?side4 A74.out).mono ?_); (case side1 => exact zc (Kd.R_reads' HO_300000.out).2.2); (case side2 => exact (Kd.R_reads' HO_300000.out).2.1); (case side3 => exact zc (Kd.R_reads' HO_291000.out).2.2); (case side4 => exact (Kd.R_reads' HO_291000.out).2.1); rintro e w83 ⟨rfl, hb⟩; have n0_ := Aside0.mk (Kd.R_below (zr HO_291000.out) hb); have n1_ := Aside0.mk (Kd.R_below (zr HO_295000.out) hb); have n2_ := Aside0.mk (Kd.R_below (zr HO_300000.out) hb); have n3_ := Aside0.mk (Kd.R_below (zr HO303.out) hb); have n4_ := Aside0.mk (blk_below (zh BK281.out) hb); have n5_ := Aside0.mk (blk_below (zh BK290.out) hb); have n6_ := Aside0.mk (blk_below (zh BK294.out) hb); have n7_ := Aside0.mk (blk_below (zh BK299.out) hb); have n8_ := Aside0.mk (below_step (zb HB.out) hb); clear HO_291000; clear HO_295000; clear HO_300000; clear HO303; clear BK281; clear BK290; clear BK294; clear BK299; clear HB; have HO_291000 := n0_; have HO_295000 := n1_; have HO_300000 := n2_; have HO303 := n3_; have BK281 := n4_; have BK290 := n5_; have BK294 := n6_; have BK299 := n7_; have HB := n8_; clear n0_ n1_ n2_ n3_ n4_ n5_ n6_ n7_ n8_; (try clear hb); (try clear hb2); (try clear hk); (try clear hi)))
         go_meet
         case rel => exact ⟨_, ((t298 != t289)), (by first | rfl | (simp; done) | (simp [*]; done)), H', ⟨by have := HJ13.out; first | omega | exact Nat.le_refl _⟩, ⟨zr (Kd.R_mono HO_291000.out (fun _ hk => ⟨hk.1, hk.2.1⟩))⟩, ⟨zr (Kd.R_mono HO_295000.out (fun _ hk => ⟨hk.1.1, hk.1.2⟩))⟩, ⟨zr (Kd.R_mono HO_300000.out (fun _ hk => ⟨hk.1, hk.2.1⟩))⟩, ⟨zh BK281.out⟩, ⟨zh BK290.out⟩, ⟨zh BK294.out⟩, ⟨zh BK299.out⟩, ⟨zb HB.out⟩⟩
        ·replace c75 := Bool.eq_false_iff.mpr c75
         subst c75
         have H1 : (laws_FnExactTermSwap.j1 kj13 a1 a2 a3 t289 true l0_0 t286 t295) = some r := by rw [if_neg (show ¬ (false = true) by decide)] at H; exact H
         clear H
         have H := H1
         clear H1
         have H' := Aside0.mk H
         clear H
         have hnb84 := NB299_281.out
         have hnc84 := NB281_299.out
         have hnb85 := NB299_290.out
         have hnc85 := NB290_299.out
         have hnb86 := NB299_294.out
         have hnc86 := NB294_299.out
         have hcz87_0 : w72.cell? ⟨gb299, 0, none⟩ = some (.slice Ao35 t295.length co35) := (blk_cell BK299.out 0).trans rfl
         have hfz87_0 := blk_frozen BK299.out 0
         have hnb88 := NB290_281.out
         have hnc88 := NB281_290.out
         have hnb89 := NB290_294.out
         have hnc89 := NB294_290.out
         have hcz90_0 : w72.cell? ⟨gb290, 0, none⟩ = some (.slice Ao23 t286.length co23) := (blk_cell BK290.out 0).trans rfl
         have hfz90_0 := blk_frozen BK290.out 0
         go_wp2_with (first | (go_at_call 11; (with_reducible refine (laws_eqPool.calls kj13 _ _ t295 _ _ t286 false _ ?side1 ?side2 ?side3 ?side4 A74.out).mono ?_); (case side1 => exact zc (Kd.R_reads' HO_300000.out).2.2); (case side2 => exact (Kd.R_reads' HO_300000.out).2.1); (case side3 => exact zc (Kd.R_reads' HO_291000.out).2.2); (case side4 => exact (Kd.R_reads' HO_291000.out).2.1); rintro e w91 ⟨rfl, hb⟩; have n0_ := Aside0.mk (Kd.R_below (zr HO_291000.out) hb); have n1_ := Aside0.mk (Kd.R_below (zr HO_295000.out) hb); have n2_ := Aside0.mk (Kd.R_below (zr HO_300000.out) hb); have n3_ := Aside0.mk (Kd.R_below (zr HO303.out) hb); have n4_ := Aside0.mk (blk_below (zh BK281.out) hb); have n5_ := Aside0.mk (blk_below (zh BK290.out) hb); have n6_ := Aside0.mk (blk_below (zh BK294.out) hb); have n7_ := Aside0.mk (blk_below (zh BK299.out) hb); have n8_ := Aside0.mk (below_step (zb HB.out) hb); clear HO_291000; clear HO_295000; clear HO_300000; clear HO303; clear BK281; clear BK290; clear BK294; clear BK299; clear HB; have HO_291000 := n0_; have HO_295000 := n1_; have HO_300000 := n2_; have HO303 := n3_; have BK281 := n4_; have BK290 := n5_; have BK294 := n6_; have BK299 := n7_; have HB := n8_; clear n0_ n1_ n2_ n3_ n4_ n5_ n6_ n7_ n8_; (try clear hb); (try clear hb2); (try clear hk); (try clear hi)))
         go_meet
         case rel => exact ⟨_, (true), (by first | rfl | (simp; done) | (simp [*]; done)), H', ⟨by have := HJ13.out; first | omega | exact Nat.le_refl _⟩, ⟨zr (Kd.R_mono HO_291000.out (fun _ hk => ⟨hk.1, hk.2.1⟩))⟩, ⟨zr (Kd.R_mono HO_295000.out (fun _ hk => ⟨hk.1.1, hk.1.2⟩))⟩, ⟨zr (Kd.R_mono HO_300000.out (fun _ hk => ⟨hk.1, hk.2.1⟩))⟩, ⟨zh BK281.out⟩, ⟨zh BK290.out⟩, ⟨zh BK294.out⟩, ⟨zh BK299.out⟩, ⟨zb HB.out⟩⟩
      case rest =>
       clear HC63
       try clear c1
       try clear c2
       try clear p2
       try clear c3
       try clear c4
       try clear c5
       try clear c6
       try clear c6b0
       try clear c7
       try clear c8
       try clear c9
       try clear c10
       try clear c11
       try clear c12
       try clear c24
       try clear c30
       try clear c31
       try clear c36
       try clear c37
       try clear c38
       try clear c41
       try clear c42
       try clear c43
       try clear c44
       try clear c46
       try clear c47
       try clear c50
       try clear c51
       try clear c52
       try clear c54
       try clear c55
       try clear c58
       try clear c61
       try clear c68
       try clear c69
       try clear c70
       try clear c73
       try clear c73b0
       try clear c75
       try clear c76
       try clear c77
       try clear c78
       try clear c80
       try clear c81
       try clear c84
       try clear c85
       try clear c86
       try clear c88
       try clear c89
       try clear hcz16_0
       try clear hcz18_0
       try clear hcz25_0
       try clear hcz26_0
       try clear hcz32_0
       try clear hcz39_0
       try clear hcz45_0
       try clear hcz48_0
       try clear hcz53_0
       try clear hcz56_0
       try clear hcz71_0
       try clear hcz79_0
       try clear hcz82_0
       try clear hcz87_0
       try clear hcz8_0
       try clear hcz90_0
       try clear hfz16_0
       try clear hfz18_0
       try clear hfz25_0
       try clear hfz26_0
       try clear hfz32_0
       try clear hfz39_0
       try clear hfz45_0
       try clear hfz48_0
       try clear hfz53_0
       try clear hfz56_0
       try clear hfz71_0
       try clear hfz79_0
       try clear hfz82_0
       try clear hfz87_0
       try clear hfz8_0
       try clear hfz90_0
       try clear p2
       obtain ⟨kq, x73_62, rfl, HA, HJ62, HO_291000, HO_295000, HO_300000, BK281, BK290, BK294, BK299, HB⟩ := hcut
       have hl295000_62 := (Kd.R_reads' HO_295000.out).1
       rw [hl295000_62] at HO_295000
       (try simp only [hl295000_62])
       (try simp only [hl295000_62] at BK281)
       (try simp only [hl295000_62] at BK290)
       (try simp only [hl295000_62] at BK294)
       (try simp only [hl295000_62] at BK299)
       (try simp only [hl295000_62] at HO_291000)
       (try simp only [hl295000_62] at HO_300000)
       cases kq with
       | zero => exact absurd HA.out (by simp [laws_FnExactTermSwap.j1])
       | succ kj62 =>
        have H := HA.out
        clear HA
        simp only [laws_FnExactTermSwap.j1] at H
        by_cases c92 : x73_62 = true
        ·subst c92
         have H1 : (some false) = some r := by rw [if_pos rfl] at H; exact H
         clear H
         have H := H1
         clear H1
         obtain rfl := Option.some.inj H
         go_wp2
         go_ret
         exact ⟨ze, zb HB.out⟩
        ·replace c92 := Bool.eq_false_iff.mpr c92
         subst c92
         have H1 : ((laws_markPool.f kj62 t295 1).bind fun bt308 => ((laws_heldPool.f kj62 bt308.2 1).bind fun t310 => (if t310 < 0 then (some false) else (if t310 = bt308.1 then ((laws_toPool.f kj62 l0_0).bind fun t311 => ((impl_TermSwap.f kj62 t311 a1 a2 a3).bind fun bt314 => ((laws_eqPool.f kj62 bt314.1 t286).bind fun t319 => (if t319 = true then (laws_FnExactTermSwap.j2 kj62 bt308.1 (bt314.2 != t289) bt308.2) else (laws_FnExactTermSwap.j2 kj62 bt308.1 true bt308.2))))) else (some false))))) = some r := by rw [if_neg (show ¬ (false = true) by decide)] at H; exact H
         clear H
         have H := H1
         clear H1
         replace H := Option.bind_eq_some_iff.mp H
         obtain ⟨⟨t308, t309⟩, A930, H⟩ := H
         replace H : ((laws_heldPool.f kj62 t309 1).bind fun t310 => (if t310 < 0 then (some false) else (if t310 = t308 then ((laws_toPool.f kj62 l0_0).bind fun t311 => ((impl_TermSwap.f kj62 t311 a1 a2 a3).bind fun bt314 => ((laws_eqPool.f kj62 bt314.1 t286).bind fun t319 => (if t319 = true then (laws_FnExactTermSwap.j2 kj62 t308 (bt314.2 != t289) t309) else (laws_FnExactTermSwap.j2 kj62 t308 true t309))))) else (some false)))) = some r := H
         have A93 := Aside0.mk A930
         clear A930
         replace H := Option.bind_eq_some_iff.mp H
         obtain ⟨t310, A940, H⟩ := H
         replace H : (if t310 < 0 then (some false) else (if t310 = t308 then ((laws_toPool.f kj62 l0_0).bind fun t311 => ((impl_TermSwap.f kj62 t311 a1 a2 a3).bind fun bt314 => ((laws_eqPool.f kj62 bt314.1 t286).bind fun t319 => (if t319 = true then (laws_FnExactTermSwap.j2 kj62 t308 (bt314.2 != t289) t309) else (laws_FnExactTermSwap.j2 kj62 t308 true t309))))) else (some false))) = some r := H
         have A94 := Aside0.mk A940
         clear A940
         by_cases c95 : t310 < 0
         ·rw [if_pos c95] at H
          have c95b0 : decide (t310 < 0) = true := decide_eq_true c95
          clear c95
          obtain rfl := Option.some.inj H
          have hnb96 := NB299_281.out
          have hnc96 := NB281_299.out
          have hnb97 := NB299_290.out
          have hnc97 := NB290_299.out
          have hnb98 := NB299_294.out
          have hnc98 := NB294_299.out
          have hcz99_0 : wc.cell? ⟨gb299, 0, none⟩ = some (.slice Ao35 t295.length co35) := (blk_cell BK299.out 0).trans rfl
          have hfz99_0 := blk_frozen BK299.out 0
          go_wp2_with (first | ((with_reducible refine gate_callee (f := 12) rfl ?_); refine goesL_ (some 76) rfl rfl Try.func12 (by kernel_rfl) rfl #[.agg #[.slice Ao35 t295.length co35], .int .i64 1] rfl zl ?_; (with_reducible refine (laws_markPool.calls kj62 (fun k_ => some k_ = (.slice Ao35 t295.length co35 : Value).ownBlock) (.slice Ao35 t295.length co35) t295 1 t308 t309 w _ ?side1 ?side2 A93.out).mono ?_); (case side1 => exact zb HB.out); (case side2 => exact Kd.R_tight rfl HO_300000.out); rintro e w100 ⟨rfl, hy0, hb, hkp⟩; refine ⟨_, rfl, ?_⟩; have n0_ := Aside0.mk (Kd.R_mono (ok' := fun k_ => some k_ ≠ (.slice Ao29 t306.length co29 : Value).ownBlock ∧ some k_ ≠ (.slice Ao35 t295.length co35 : Value).ownBlock) (Kd.R_keptB (HO_291000.out) hkp (fun k_ hk_ hs_ => by first | exact (hk_.2) hs_ | (revert hk_; simp only [and_imp]; intros; exact absurd hs_ (by assumption)))) (fun k_ hk_ => by first | exact ⟨hk_.1.1, hk_.1.2⟩ | (revert hk_; simp only [and_imp]; intros; and_intros <;> assumption))); have n1_ := Aside0.mk (Kd.R_mono (ok' := fun k_ => some k_ ≠ (.slice Ao23 t286.length co23 : Value).ownBlock ∧ some k_ ≠ (.slice Ao35 t295.length co35 : Value).ownBlock) (Kd.R_keptB (HO_295000.out) hkp (fun k_ hk_ hs_ => by first | exact (hk_.2) hs_ | (revert hk_; simp only [and_imp]; intros; exact absurd hs_ (by assumption)))) (fun k_ hk_ => by first | exact ⟨hk_.1.1, hk_.1.2⟩ | (revert hk_; simp only [and_imp]; intros; and_intros <;> assumption))); have n2_ := Aside0.mk (Kd.R_reok rfl hy0 (fun k_ e_ => HO_300000.out.1 k_ e_)); have n3_ := Aside0.mk (blk_kept (zh BK281.out) hkp (fun hs_ => (fun e_ => (Kd.R_ne HO_300000.out BK281.out (by decide)) e_) hs_)); have n4_ := Aside0.mk (blk_kept (zh BK290.out) hkp (fun hs_ => (fun e_ => (Kd.R_ne HO_300000.out BK290.out (by decide)) e_) hs_)); have n5_ := Aside0.mk (blk_kept (zh BK294.out) hkp (fun hs_ => (fun e_ => (Kd.R_ne HO_300000.out BK294.out (by decide)) e_) hs_)); have n6_ := Aside0.mk (blk_kept (zh BK299.out) hkp (fun hs_ => (fun e_ => (Kd.R_ne HO_300000.out BK299.out (by decide)) e_) hs_)); have n7_ := Aside0.mk (hb); clear HO_291000; clear HO_295000; clear HO_300000; clear BK281; clear BK290; clear BK294; clear BK299; clear HB; have HO_291000 := n0_; have HO_295000 := n1_; have HO_300000 := n2_; have BK281 := n3_; have BK290 := n4_; have BK294 := n5_; have BK299 := n6_; have HB := n7_; clear n0_ n1_ n2_ n3_ n4_ n5_ n6_ n7_; (try clear hb); (try clear hkp); (try clear hy0); have hcz101_0 : w100.cell? ⟨gb299, 0, none⟩ = some (.slice Ao35 t295.length co35) := (blk_cell BK299.out 0).trans rfl; have hfz101_0 := blk_frozen BK299.out 0) | ((with_reducible refine gate_callee (f := 13) rfl ?_); refine goesL_ (some 79) rfl rfl Try.func13 (by kernel_rfl) rfl #[.agg #[.slice Ao35 t309.length co35], .int .i64 1] rfl (by (try simp only [List.map_toArray, List.map_cons, List.map_nil]); first | done | (rw [show t309.length = t295.length from (Kd.R_reads' HO_300000.out).1.symm] <;> rfl) | rfl | (simp only [List.length_drop, List.length_take]; rfl)) ?_; (with_reducible refine (laws_heldPool.calls kj62 _ _ t309 1 t310 _ ?side1 ?side2 A94.out).mono ?_); (case side1 => exact zc (Kd.R_reads' HO_300000.out).2.2); (case side2 => rw [show t309.length = t295.length from (Kd.R_reads' HO_300000.out).1.symm]; exact (Kd.R_reads' HO_300000.out).2.1); rintro e w102 ⟨rfl, hb⟩; refine ⟨_, rfl, ?_⟩; have n0_ := Aside0.mk (Kd.R_below (zr HO_291000.out) hb); have n1_ := Aside0.mk (Kd.R_below (zr HO_295000.out) hb); have n2_ := Aside0.mk (Kd.R_below (zr HO_300000.out) hb); have n3_ := Aside0.mk (blk_below (zh BK281.out) hb); have n4_ := Aside0.mk (blk_below (zh BK290.out) hb); have n5_ := Aside0.mk (blk_below (zh BK294.out) hb); have n6_ := Aside0.mk (blk_below (zh BK299.out) hb); have n7_ := Aside0.mk (below_step (zb HB.out) hb); clear HO_291000; clear HO_295000; clear HO_300000; clear BK281; clear BK290; clear BK294; clear BK299; clear HB; have HO_291000 := n0_; have HO_295000 := n1_; have HO_300000 := n2_; have BK281 := n3_; have BK290 := n4_; have BK294 := n5_; have BK299 := n6_; have HB := n7_; clear n0_ n1_ n2_ n3_ n4_ n5_ n6_ n7_; (try clear hb); (try clear hb2); (try clear hk); (try clear hi)))
          go_ret
          exact ⟨ze, zb HB.out⟩
         ·rw [if_neg c95] at H
          have c95b0 : decide (t310 < 0) = false := decide_eq_false c95
          clear c95
          by_cases c103 : t310 = t308
          ·rw [if_pos c103] at H
           have c103b0 : (t310 == t308) = true := beq_iff_eq.mpr c103
           have c103b1 : (t310 != t308) = false := bne_eq_false_iff_eq.mpr c103
           clear c103
           replace H := Option.bind_eq_some_iff.mp H
           obtain ⟨t311, A1040, H⟩ := H
           replace H : ((impl_TermSwap.f kj62 t311 a1 a2 a3).bind fun bt314 => ((laws_eqPool.f kj62 bt314.1 t286).bind fun t319 => (if t319 = true then (laws_FnExactTermSwap.j2 kj62 t308 (bt314.2 != t289) t309) else (laws_FnExactTermSwap.j2 kj62 t308 true t309)))) = some r := H
           have A104 := Aside0.mk A1040
           clear A1040
           replace H := Option.bind_eq_some_iff.mp H
           obtain ⟨⟨t314, t317⟩, A1050, H⟩ := H
           replace H : ((laws_eqPool.f kj62 t314 t286).bind fun t319 => (if t319 = true then (laws_FnExactTermSwap.j2 kj62 t308 (t317 != t289) t309) else (laws_FnExactTermSwap.j2 kj62 t308 true t309))) = some r := H
           have A105 := Aside0.mk A1050
           clear A1050
           have HC106 := Aside0.mk H
           clear H
           have hnb107 := NB299_281.out
           have hnc107 := NB281_299.out
           have hnb108 := NB299_290.out
           have hnc108 := NB290_299.out
           have hnb109 := NB299_294.out
           have hnc109 := NB294_299.out
           have hcz110_0 : wc.cell? ⟨gb299, 0, none⟩ = some (.slice Ao35 t295.length co35) := (blk_cell BK299.out 0).trans rfl
           have hfz110_0 := blk_frozen BK299.out 0
           go_upto_region 25 with (first | ((with_reducible refine gate_callee (f := 12) rfl ?_); refine goesL_ (some 76) rfl rfl Try.func12 (by kernel_rfl) rfl #[.agg #[.slice Ao35 t295.length co35], .int .i64 1] rfl zl ?_; (with_reducible refine (laws_markPool.calls kj62 (fun k_ => some k_ = (.slice Ao35 t295.length co35 : Value).ownBlock) (.slice Ao35 t295.length co35) t295 1 t308 t309 w _ ?side1 ?side2 A93.out).mono ?_); (case side1 => exact zb HB.out); (case side2 => exact Kd.R_tight rfl HO_300000.out); rintro e w111 ⟨rfl, hy0, hb, hkp⟩; refine ⟨_, rfl, ?_⟩; have n0_ := Aside0.mk (Kd.R_mono (ok' := fun k_ => some k_ ≠ (.slice Ao29 t306.length co29 : Value).ownBlock ∧ some k_ ≠ (.slice Ao35 t295.length co35 : Value).ownBlock) (Kd.R_keptB (HO_291000.out) hkp (fun k_ hk_ hs_ => by first | exact (hk_.2) hs_ | (revert hk_; simp only [and_imp]; intros; exact absurd hs_ (by assumption)))) (fun k_ hk_ => by first | exact ⟨hk_.1.1, hk_.1.2⟩ | (revert hk_; simp only [and_imp]; intros; and_intros <;> assumption))); have n1_ := Aside0.mk (Kd.R_mono (ok' := fun k_ => some k_ ≠ (.slice Ao23 t286.length co23 : Value).ownBlock ∧ some k_ ≠ (.slice Ao35 t295.length co35 : Value).ownBlock) (Kd.R_keptB (HO_295000.out) hkp (fun k_ hk_ hs_ => by first | exact (hk_.2) hs_ | (revert hk_; simp only [and_imp]; intros; exact absurd hs_ (by assumption)))) (fun k_ hk_ => by first | exact ⟨hk_.1.1, hk_.1.2⟩ | (revert hk_; simp only [and_imp]; intros; and_intros <;> assumption))); have n2_ := Aside0.mk (Kd.R_reok rfl hy0 (fun k_ e_ => HO_300000.out.1 k_ e_)); have n3_ := Aside0.mk (blk_kept (zh BK281.out) hkp (fun hs_ => (fun e_ => (Kd.R_ne HO_300000.out BK281.out (by decide)) e_) hs_)); have n4_ := Aside0.mk (blk_kept (zh BK290.out) hkp (fun hs_ => (fun e_ => (Kd.R_ne HO_300000.out BK290.out (by decide)) e_) hs_)); have n5_ := Aside0.mk (blk_kept (zh BK294.out) hkp (fun hs_ => (fun e_ => (Kd.R_ne HO_300000.out BK294.out (by decide)) e_) hs_)); have n6_ := Aside0.mk (blk_kept (zh BK299.out) hkp (fun hs_ => (fun e_ => (Kd.R_ne HO_300000.out BK299.out (by decide)) e_) hs_)); have n7_ := Aside0.mk (hb); clear HO_291000; clear HO_295000; clear HO_300000; clear BK281; clear BK290; clear BK294; clear BK299; clear HB; have HO_291000 := n0_; have HO_295000 := n1_; have HO_300000 := n2_; have BK281 := n3_; have BK290 := n4_; have BK294 := n5_; have BK299 := n6_; have HB := n7_; clear n0_ n1_ n2_ n3_ n4_ n5_ n6_ n7_; (try clear hb); (try clear hkp); (try clear hy0); have hcz112_0 : w111.cell? ⟨gb299, 0, none⟩ = some (.slice Ao35 t295.length co35) := (blk_cell BK299.out 0).trans rfl; have hfz112_0 := blk_frozen BK299.out 0) | ((with_reducible refine gate_callee (f := 13) rfl ?_); refine goesL_ (some 79) rfl rfl Try.func13 (by kernel_rfl) rfl #[.agg #[.slice Ao35 t309.length co35], .int .i64 1] rfl (by (try simp only [List.map_toArray, List.map_cons, List.map_nil]); first | done | (rw [show t309.length = t295.length from (Kd.R_reads' HO_300000.out).1.symm] <;> rfl) | rfl | (simp only [List.length_drop, List.length_take]; rfl)) ?_; (with_reducible refine (laws_heldPool.calls kj62 _ _ t309 1 t310 _ ?side1 ?side2 A94.out).mono ?_); (case side1 => exact zc (Kd.R_reads' HO_300000.out).2.2); (case side2 => rw [show t309.length = t295.length from (Kd.R_reads' HO_300000.out).1.symm]; exact (Kd.R_reads' HO_300000.out).2.1); rintro e w113 ⟨rfl, hb⟩; refine ⟨_, rfl, ?_⟩; have n0_ := Aside0.mk (Kd.R_below (zr HO_291000.out) hb); have n1_ := Aside0.mk (Kd.R_below (zr HO_295000.out) hb); have n2_ := Aside0.mk (Kd.R_below (zr HO_300000.out) hb); have n3_ := Aside0.mk (blk_below (zh BK281.out) hb); have n4_ := Aside0.mk (blk_below (zh BK290.out) hb); have n5_ := Aside0.mk (blk_below (zh BK294.out) hb); have n6_ := Aside0.mk (blk_below (zh BK299.out) hb); have n7_ := Aside0.mk (below_step (zb HB.out) hb); clear HO_291000; clear HO_295000; clear HO_300000; clear BK281; clear BK290; clear BK294; clear BK299; clear HB; have HO_291000 := n0_; have HO_295000 := n1_; have HO_300000 := n2_; have BK281 := n3_; have BK290 := n4_; have BK294 := n5_; have BK299 := n6_; have HB := n7_; clear n0_ n1_ n2_ n3_ n4_ n5_ n6_ n7_; (try clear hb); (try clear hb2); (try clear hk); (try clear hi); have hnb114 := NB281_290.out; have hnc114 := NB290_281.out; have hnb115 := NB281_294.out; have hnc115 := NB294_281.out; have hcz116_0 : w113.cell? ⟨gb281, 0, none⟩ = some (.slice A0_0 l0_0.length c0_0) := (blk_cell BK281.out 0).trans rfl; have hfz116_0 := blk_frozen BK281.out 0) | ((with_reducible refine gate_callee (f := 9) rfl ?_); refine goesL_ (some 87) rfl rfl Try.func9 (by kernel_rfl) rfl #[.agg #[.slice A0_0 l0_0.length c0_0]] rfl zl ?_; (with_reducible refine (laws_toPool.calls kj62 _ _ l0_0 t311 _ ?side1 ?side2 A104.out).mono ?_); (case side1 => exact zc (Kd.C_below HR0_0.out HB.out)); (case side2 => exact HC0_0.out); rintro e w117 ⟨v312, rfl, ho0, hb⟩; refine ⟨_, rfl, ?_⟩; have n0_ := Aside0.mk (Kd.R_elder' (zr HO_291000.out) (Kd.R_base ho0) hb); have n1_ := Aside0.mk (Kd.R_elder' (zr HO_295000.out) (Kd.R_base ho0) hb); have n2_ := Aside0.mk (Kd.R_elder' (zr HO_300000.out) (Kd.R_base ho0) hb); have n3_ := Aside0.mk (Kd.R_lower (Kd.R_new' (Kd.R_new' (Kd.R_new' ho0 (Kd.R_lt (zr HO_291000.out))) (Kd.R_lt (zr HO_295000.out))) (Kd.R_lt (zr HO_300000.out))) (below_size (zb HB.out))); have n4_ := Aside0.mk (blk_below (zh BK281.out) hb); have n5_ := Aside0.mk (blk_below (zh BK290.out) hb); have n6_ := Aside0.mk (blk_below (zh BK294.out) hb); have n7_ := Aside0.mk (blk_below (zh BK299.out) hb); have n8_ := Aside0.mk (below_step (zb HB.out) hb); clear HO_291000; clear HO_295000; clear HO_300000; clear BK281; clear BK290; clear BK294; clear BK299; clear HB; have HO_291000 := n0_; have HO_295000 := n1_; have HO_300000 := n2_; have HO313 := n3_; have BK281 := n4_; have BK290 := n5_; have BK294 := n6_; have BK299 := n7_; have HB := n8_; clear n0_ n1_ n2_ n3_ n4_ n5_ n6_ n7_ n8_; (try clear hb); (try clear hb2); (try clear hk); (try clear hi); (try clear ho0); obtain ⟨Ao118, co118, eo118⟩ := Kd.R_slice HO313.out; subst eo118) | ((with_reducible refine gate_callee (f := 10) rfl ?_); refine goesL_ (some 91) rfl rfl Try.func10 (by kernel_rfl) rfl #[.agg #[.slice Ao118 t311.length co118], .int .i64 a1, .int .i64 a2, .int .i64 a3] rfl zl ?_; (with_reducible refine (impl_TermSwap.calls kj62 _ _ t311 a1 a2 a3 t314 t317 _ ?side1 ?side2 A105.out).mono ?_); (case side1 => exact zc (Kd.R_reads' HO313.out).2.2); (case side2 => exact (Kd.R_reads' HO313.out).2.1); rintro e w119 ⟨v315, rfl, ho0, hb⟩; refine ⟨_, rfl, ?_⟩; have n0_ := Aside0.mk (Kd.R_elder' (zr HO_291000.out) (Kd.R_base ho0) hb); have n1_ := Aside0.mk (Kd.R_elder' (zr HO_295000.out) (Kd.R_base ho0) hb); have n2_ := Aside0.mk (Kd.R_elder' (zr HO_300000.out) (Kd.R_base ho0) hb); have n3_ := Aside0.mk (Kd.R_elder' (zr HO313.out) (Kd.R_base ho0) hb); have n4_ := Aside0.mk (Kd.R_lower (Kd.R_new' (Kd.R_new' (Kd.R_new' (Kd.R_new' ho0 (Kd.R_lt (zr HO_291000.out))) (Kd.R_lt (zr HO_295000.out))) (Kd.R_lt (zr HO_300000.out))) (Kd.R_lt (zr HO313.out))) (below_size (zb HB.out))); have n5_ := Aside0.mk (blk_below (zh BK281.out) hb); have n6_ := Aside0.mk (blk_below (zh BK290.out) hb); have n7_ := Aside0.mk (blk_below (zh BK294.out) hb); have n8_ := Aside0.mk (blk_below (zh BK299.out) hb); have n9_ := Aside0.mk (below_step (zb HB.out) hb); clear HO_291000; clear HO_295000; clear HO_300000; clear HO313; clear BK281; clear BK290; clear BK294; clear BK299; clear HB; have HO_291000 := n0_; have HO_295000 := n1_; have HO_300000 := n2_; have HO313 := n3_; have HO316 := n4_; have BK281 := n5_; have BK290 := n6_; have BK294 := n7_; have BK299 := n8_; have HB := n9_; clear n0_ n1_ n2_ n3_ n4_ n5_ n6_ n7_ n8_ n9_; (try clear hb); (try clear hb2); (try clear hk); (try clear hi); (try clear ho0)) | ((with_reducible refine gate_dst (N := 18) rfl ?_); refine box_event ?hg (N := 18) ?hd (cs := #[.slice none 0 0]) (t := 28) ?hr ?_; (case hd => rfl); (case hg => rfl); (case hr => first | (go_simp; done) | (go_simp; rfl)); intro gb318 hg w120 hbox hb; have n0_ := Aside0.mk (Kd.R_below (zr HO_291000.out) hb); have n1_ := Aside0.mk (Kd.R_below (zr HO_295000.out) hb); have n2_ := Aside0.mk (Kd.R_below (zr HO_300000.out) hb); have n3_ := Aside0.mk (Kd.R_below (zr HO313.out) hb); have n4_ := Aside0.mk (Kd.R_below (zr HO316.out) hb); have n5_ := Aside0.mk (blk_below (zh BK281.out) hb); have n6_ := Aside0.mk (blk_below (zh BK290.out) hb); have n7_ := Aside0.mk (blk_below (zh BK294.out) hb); have n8_ := Aside0.mk (blk_below (zh BK299.out) hb); have n9_ := Aside0.mk (below_step (zb HB.out) hb); have n10_ := Aside0.mk (hbox); have n11_ := Aside0.mk ((by rw [hg]; exact (below_size (zb HB.out)) : w.heap.size ≤ gb318)); have n12_ := Aside0.mk ((by rw [hg]; exact (below_size (zb HB.out)) : w.heap.size ≤ gb318)); have n13_ := Aside0.mk ((by rw [hg]; exact Nat.ne_of_lt (blk_lt (zh BK281.out)) : gb281 ≠ gb318)); have n14_ := Aside0.mk ((by rw [hg]; exact Nat.ne_of_gt (blk_lt (zh BK281.out)) : gb318 ≠ gb281)); have n15_ := Aside0.mk ((by rw [hg]; exact Nat.ne_of_lt (blk_lt (zh BK290.out)) : gb290 ≠ gb318)); have n16_ := Aside0.mk ((by rw [hg]; exact Nat.ne_of_gt (blk_lt (zh BK290.out)) : gb318 ≠ gb290)); have n17_ := Aside0.mk ((by rw [hg]; exact Nat.ne_of_lt (blk_lt (zh BK294.out)) : gb294 ≠ gb318)); have n18_ := Aside0.mk ((by rw [hg]; exact Nat.ne_of_gt (blk_lt (zh BK294.out)) : gb318 ≠ gb294)); have n19_ := Aside0.mk ((by rw [hg]; exact Nat.ne_of_lt (blk_lt (zh BK299.out)) : gb299 ≠ gb318)); have n20_ := Aside0.mk ((by rw [hg]; exact Nat.ne_of_gt (blk_lt (zh BK299.out)) : gb318 ≠ gb299)); clear HO_291000; clear HO_295000; clear HO_300000; clear HO313; clear HO316; clear BK281; clear BK290; clear BK294; clear BK299; clear HB; have HO_291000 := n0_; have HO_295000 := n1_; have HO_300000 := n2_; have HO313 := n3_; have HO316 := n4_; have BK281 := n5_; have BK290 := n6_; have BK294 := n7_; have BK299 := n8_; have HB := n9_; have BK318 := n10_; have GW318 := n11_; have GE318 := n12_; have NB281_318 := n13_; have NB318_281 := n14_; have NB290_318 := n15_; have NB318_290 := n16_; have NB294_318 := n17_; have NB318_294 := n18_; have NB299_318 := n19_; have NB318_299 := n20_; clear n0_ n1_ n2_ n3_ n4_ n5_ n6_ n7_ n8_ n9_ n10_ n11_ n12_ n13_ n14_ n15_ n16_ n17_ n18_ n19_ n20_; clear hb hbox hg; obtain ⟨Ao121, co121, eo121⟩ := Kd.R_slice HO316.out; subst eo121; have hnb122 := NB318_281.out; have hnc122 := NB281_318.out; have hnb123 := NB318_290.out; have hnc123 := NB290_318.out; have hnb124 := NB318_294.out; have hnc124 := NB294_318.out; have hnb125 := NB318_299.out; have hnc125 := NB299_318.out; have hcz126_0 : w120.cell? ⟨gb318, 0, none⟩ = some (.slice none 0 0) := (blk_cell BK318.out 0).trans rfl; have hfz126_0 := blk_frozen BK318.out 0))
           (try simp only [Act.put, List.setIfInBounds_toArray, List.set_cons_zero, List.set_cons_succ])
           go_cut [102] (fun v102 wc => ∃ (kq : Nat) (x102_105 : Bool), v102 = .bool x102_105 ∧ Aside0 (laws_FnExactTermSwap.j2 kq t308 x102_105 t309 = some r) ∧ Aside0 (kq ≤ kj62) ∧ Aside0 (Kd.R k55 55 wc w.heap.size (fun k_ => some k_ ≠ ((.slice Ao29 t306.length co29) : Value).ownBlock ∧ some k_ ≠ ((.slice Ao35 t295.length co35) : Value).ownBlock ∧ some k_ ≠ ((.slice Ao121 t314.length co121) : Value).ownBlock) (.slice Ao23 t286.length co23) t286) ∧ Aside0 (Kd.R k55 55 wc w.heap.size (fun k_ => some k_ ≠ ((.slice Ao23 t286.length co23) : Value).ownBlock ∧ some k_ ≠ ((.slice Ao35 t295.length co35) : Value).ownBlock ∧ some k_ ≠ ((.slice Ao121 t314.length co121) : Value).ownBlock) (.slice Ao29 t306.length co29) t306) ∧ Aside0 (Kd.R k55 55 wc w.heap.size (fun k_ => some k_ ≠ ((.slice Ao23 t286.length co23) : Value).ownBlock ∧ some k_ ≠ ((.slice Ao29 t306.length co29) : Value).ownBlock ∧ some k_ ≠ ((.slice Ao121 t314.length co121) : Value).ownBlock) (.slice Ao35 t295.length co35) t309) ∧ Aside0 (Kd.R k55 55 wc w.heap.size (fun k_ => some k_ ≠ ((.slice Ao23 t286.length co23) : Value).ownBlock ∧ some k_ ≠ ((.slice Ao29 t306.length co29) : Value).ownBlock ∧ some k_ ≠ ((.slice Ao35 t295.length co35) : Value).ownBlock) (.slice Ao121 t314.length co121) t314) ∧ Aside0 (wc.heap[gb281]? = some (.cells #[(.slice A0_0 l0_0.length c0_0)] 24 (0, 0))) ∧ Aside0 (wc.heap[gb290]? = some (.cells #[(.slice Ao23 t286.length co23)] 28 (0, 0))) ∧ Aside0 (wc.heap[gb294]? = some (.cells #[(.slice Ao29 t306.length co29)] 28 (0, 0))) ∧ Aside0 (wc.heap[gb299]? = some (.cells #[(.slice Ao35 t295.length co35)] 28 (0, 0))) ∧ Aside0 (wc.heap[gb318]? = some (.cells #[(.slice Ao121 t314.length co121)] 28 (0, 0))) ∧ Aside0 (Below w.heap.size w wc))
           case first =>
            have H := HC106.out
            clear HC106
            replace H := Option.bind_eq_some_iff.mp H
            obtain ⟨t319, A1270, H⟩ := H
            replace H : (if t319 = true then (laws_FnExactTermSwap.j2 kj62 t308 (t317 != t289) t309) else (laws_FnExactTermSwap.j2 kj62 t308 true t309)) = some r := H
            have A127 := Aside0.mk A1270
            clear A1270
            by_cases c128 : t319 = true
            ·subst c128
             have H1 : (laws_FnExactTermSwap.j2 kj62 t308 (t317 != t289) t309) = some r := by rw [if_pos rfl] at H; exact H
             clear H
             have H := H1
             clear H1
             have H' := Aside0.mk H
             clear H
             have hnb129 := NB318_281.out
             have hnc129 := NB281_318.out
             have hnb130 := NB318_290.out
             have hnc130 := NB290_318.out
             have hnb131 := NB318_294.out
             have hnc131 := NB294_318.out
             have hnb132 := NB318_299.out
             have hnc132 := NB299_318.out
             have hcz133_0 : w120.cell? ⟨gb318, 0, none⟩ = some (.slice none 0 0) := (blk_cell BK318.out 0).trans rfl
             have hfz133_0 := blk_frozen BK318.out 0
             have hnb134 := NB290_281.out
             have hnc134 := NB281_290.out
             have hnb135 := NB290_294.out
             have hnc135 := NB294_290.out
             have hnb136 := NB290_299.out
             have hnc136 := NB299_290.out
             have hcz137_0 : w120.cell? ⟨gb290, 0, none⟩ = some (.slice Ao23 t286.length co23) := (blk_cell BK290.out 0).trans rfl
             have hfz137_0 := blk_frozen BK290.out 0
             go_wp2_with (first | ((with_reducible refine gate_callee (f := 11) rfl ?_); refine goesL_ (some 96) rfl rfl Try.func11 (by kernel_rfl) rfl #[.agg #[.slice Ao121 t314.length co121], .agg #[.slice Ao23 t286.length co23]] rfl zl ?_; (with_reducible refine (laws_eqPool.calls kj62 _ _ t314 _ _ t286 true _ ?side1 ?side2 ?side3 ?side4 A127.out).mono ?_); (case side1 => refine (Kd.R_reads' (e := 55) (base := w.heap.size) (ok := fun k_ => ((((True ∧ some k_ ≠ (.slice Ao23 t286.length co23 : Value).ownBlock) ∧ some k_ ≠ (.slice Ao29 t306.length co29 : Value).ownBlock) ∧ some k_ ≠ (.slice Ao35 t295.length co35 : Value).ownBlock) ∧ some k_ ≠ (.slice Ao118 t311.length co118 : Value).ownBlock)) (n := t314.length) (c := co121) ?_).2.2; exact (by (with_reducible repeat (first | apply Kd.R_alloc | apply Kd.R_drewN | apply Kd.R_drew)); exact (Kd.R_mono (Kd.R_far (p := ⟨gb318, 0, none⟩) (Kd.R_types HO316.out BK318.out (by decide)) (fun _ hk => hk.2) (.slice Ao121 t314.length co121)) (fun _ h_ => h_.1)))); (case side2 => exact (Kd.R_reads' HO316.out).2.1); (case side3 => refine (Kd.R_reads' (e := 55) (base := w.heap.size) (ok := fun k_ => (((some k_ ≠ (.slice Ao29 t306.length co29 : Value).ownBlock ∧ some k_ ≠ (.slice Ao35 t295.length co35 : Value).ownBlock) ∧ some k_ ≠ (.slice Ao118 t311.length co118 : Value).ownBlock) ∧ some k_ ≠ (.slice Ao121 t314.length co121 : Value).ownBlock)) (n := t286.length) (c := co23) ?_).2.2; exact (by (with_reducible repeat (first | apply Kd.R_alloc | apply Kd.R_drewN | apply Kd.R_drew)); exact (Kd.R_mono (Kd.R_far (p := ⟨gb318, 0, none⟩) (Kd.R_types HO_291000.out BK318.out (by decide)) (fun _ hk => hk.2) (.slice Ao121 t314.length co121)) (fun _ h_ => h_.1)))); (case side4 => exact (Kd.R_reads' HO_291000.out).2.1); rintro e w138 ⟨rfl, hb⟩; refine ⟨_, rfl, ?_⟩; have n0_ := Aside0.mk (Kd.R_below (by (with_reducible repeat (first | apply Kd.R_alloc | apply Kd.R_drewN | apply Kd.R_drew)); exact (Kd.R_mono (Kd.R_far (p := ⟨gb318, 0, none⟩) (Kd.R_types HO_291000.out BK318.out (by decide)) (fun _ hk => hk.2) (.slice Ao121 t314.length co121)) (fun _ h_ => h_.1))) hb); have n1_ := Aside0.mk (Kd.R_below (by (with_reducible repeat (first | apply Kd.R_alloc | apply Kd.R_drewN | apply Kd.R_drew)); exact (Kd.R_mono (Kd.R_far (p := ⟨gb318, 0, none⟩) (Kd.R_types HO_295000.out BK318.out (by decide)) (fun _ hk => hk.2) (.slice Ao121 t314.length co121)) (fun _ h_ => h_.1))) hb); have n2_ := Aside0.mk (Kd.R_below (by (with_reducible repeat (first | apply Kd.R_alloc | apply Kd.R_drewN | apply Kd.R_drew)); exact (Kd.R_mono (Kd.R_far (p := ⟨gb318, 0, none⟩) (Kd.R_types HO_300000.out BK318.out (by decide)) (fun _ hk => hk.2) (.slice Ao121 t314.length co121)) (fun _ h_ => h_.1))) hb); have n3_ := Aside0.mk (Kd.R_below (by (with_reducible repeat (first | apply Kd.R_alloc | apply Kd.R_drewN | apply Kd.R_drew)); exact (Kd.R_mono (Kd.R_far (p := ⟨gb318, 0, none⟩) (Kd.R_types HO313.out BK318.out (by decide)) (fun _ hk => hk.2) (.slice Ao121 t314.length co121)) (fun _ h_ => h_.1))) hb); have n4_ := Aside0.mk (Kd.R_below (by (with_reducible repeat (first | apply Kd.R_alloc | apply Kd.R_drewN | apply Kd.R_drew)); exact (Kd.R_mono (Kd.R_far (p := ⟨gb318, 0, none⟩) (Kd.R_types HO316.out BK318.out (by decide)) (fun _ hk => hk.2) (.slice Ao121 t314.length co121)) (fun _ h_ => h_.1))) hb); have n5_ := Aside0.mk (blk_below (g := gb281) (o := .cells #[.slice A0_0 l0_0.length c0_0] 24 (0, 0)) (zf BK281.out) hb); have n6_ := Aside0.mk (blk_below (g := gb290) (o := .cells #[.slice Ao23 t286.length co23] 28 (0, 0)) (zf BK290.out) hb); have n7_ := Aside0.mk (blk_below (g := gb294) (o := .cells #[.slice Ao29 t306.length co29] 28 (0, 0)) (zf BK294.out) hb); have n8_ := Aside0.mk (blk_below (g := gb299) (o := .cells #[.slice Ao35 t295.length co35] 28 (0, 0)) (zf BK299.out) hb); have n9_ := Aside0.mk (blk_below (g := gb318) (o := .cells #[.slice Ao121 t314.length co121] 28 (0, 0)) (by (with_reducible repeat (first | refine blk_drewN ?_ _ | refine blk_drew ?_ | refine blk_alloc ?_ _)); refine blk_put (cs := #[.slice none 0 0]) ?_ 0 _ rfl; (with_reducible repeat (first | refine blk_drewN ?_ _ | refine blk_drew ?_ | refine blk_alloc ?_ _)); exact BK318.out) hb); have n10_ := Aside0.mk (below_step (zb HB.out) hb); clear HO_291000; clear HO_295000; clear HO_300000; clear HO313; clear HO316; clear BK281; clear BK290; clear BK294; clear BK299; clear BK318; clear HB; have HO_291000 := n0_; have HO_295000 := n1_; have HO_300000 := n2_; have HO313 := n3_; have HO316 := n4_; have BK281 := n5_; have BK290 := n6_; have BK294 := n7_; have BK299 := n8_; have BK318 := n9_; have HB := n10_; clear n0_ n1_ n2_ n3_ n4_ n5_ n6_ n7_ n8_ n9_ n10_; (try clear hb); (try clear hb2); (try clear hk); (try clear hi)))
             go_meet
             case rel => exact ⟨_, ((t317 != t289)), (by first | rfl | (simp; done) | (simp [*]; done)), H', ⟨by have := HJ13.out; have := HJ62.out; first | omega | exact Nat.le_refl _⟩, ⟨by (try simp only [hl295000_62]); (with_reducible repeat (first | apply Kd.R_alloc | apply Kd.R_drewN | apply Kd.R_drew)); exact Kd.R_mono HO_291000.out (fun _ hk => ⟨hk.1.1.1, ⟨hk.1.1.2, hk.2⟩⟩)⟩, ⟨by (try simp only [hl295000_62]); (with_reducible repeat (first | apply Kd.R_alloc | apply Kd.R_drewN | apply Kd.R_drew)); exact Kd.R_mono HO_295000.out (fun _ hk => ⟨hk.1.1.1, ⟨hk.1.1.2, hk.2⟩⟩)⟩, ⟨by (try simp only [hl295000_62]); (with_reducible repeat (first | apply Kd.R_alloc | apply Kd.R_drewN | apply Kd.R_drew)); exact Kd.R_mono HO_300000.out (fun _ hk => ⟨hk.1.1.1, ⟨hk.1.1.2, hk.2⟩⟩)⟩, ⟨by (try simp only [hl295000_62]); (with_reducible repeat (first | apply Kd.R_alloc | apply Kd.R_drewN | apply Kd.R_drew)); exact Kd.R_mono HO316.out (fun _ hk => ⟨hk.1.1.1.2, ⟨hk.1.1.2, hk.1.2⟩⟩)⟩, ⟨by (try simp only [hl295000_62]); (with_reducible repeat (first | refine blk_drewN ?_ _ | refine blk_drew ?_ | refine blk_alloc ?_ _)); exact BK281.out⟩, ⟨by (try simp only [hl295000_62]); (with_reducible repeat (first | refine blk_drewN ?_ _ | refine blk_drew ?_ | refine blk_alloc ?_ _)); exact BK290.out⟩, ⟨by (try simp only [hl295000_62]); (with_reducible repeat (first | refine blk_drewN ?_ _ | refine blk_drew ?_ | refine blk_alloc ?_ _)); exact BK294.out⟩, ⟨by (try simp only [hl295000_62]); (with_reducible repeat (first | refine blk_drewN ?_ _ | refine blk_drew ?_ | refine blk_alloc ?_ _)); exact BK299.out⟩, ⟨by (try simp only [hl295000_62]); (with_reducible repeat (first | refine blk_drewN ?_ _ | refine blk_drew ?_ | refine blk_alloc ?_ _)); exact BK318.out⟩, ⟨zb HB.out⟩⟩
            ·replace c128 := Bool.eq_false_iff.mpr c128
             subst c128
             have H1 : (laws_FnExactTermSwap.j2 kj62 t308 true t309) = some r := by rw [if_neg (show ¬ (false = true) by decide)] at H; exact H
             clear H
             have H := H1
             clear H1
             have H' := Aside0.mk H
             clear H
             have hnb139 := NB318_281.out
             have hnc139 := NB281_318.out
             have hnb140 := NB318_290.out
             have hnc140 := NB290_318.out
             have hnb141 := NB318_294.out
             have hnc141 := NB294_318.out
             have hnb142 := NB318_299.out
             have hnc142 := NB299_318.out
             have hcz143_0 : w120.cell? ⟨gb318, 0, none⟩ = some (.slice none 0 0) := (blk_cell BK318.out 0).trans rfl
             have hfz143_0 := blk_frozen BK318.out 0
             have hnb144 := NB290_281.out
             have hnc144 := NB281_290.out
             have hnb145 := NB290_294.out
             have hnc145 := NB294_290.out
             have hnb146 := NB290_299.out
             have hnc146 := NB299_290.out
             have hcz147_0 : w120.cell? ⟨gb290, 0, none⟩ = some (.slice Ao23 t286.length co23) := (blk_cell BK290.out 0).trans rfl
             have hfz147_0 := blk_frozen BK290.out 0
             go_wp2_with (first | ((with_reducible refine gate_callee (f := 11) rfl ?_); refine goesL_ (some 96) rfl rfl Try.func11 (by kernel_rfl) rfl #[.agg #[.slice Ao121 t314.length co121], .agg #[.slice Ao23 t286.length co23]] rfl zl ?_; (with_reducible refine (laws_eqPool.calls kj62 _ _ t314 _ _ t286 false _ ?side1 ?side2 ?side3 ?side4 A127.out).mono ?_); (case side1 => refine (Kd.R_reads' (e := 55) (base := w.heap.size) (ok := fun k_ => ((((True ∧ some k_ ≠ (.slice Ao23 t286.length co23 : Value).ownBlock) ∧ some k_ ≠ (.slice Ao29 t306.length co29 : Value).ownBlock) ∧ some k_ ≠ (.slice Ao35 t295.length co35 : Value).ownBlock) ∧ some k_ ≠ (.slice Ao118 t311.length co118 : Value).ownBlock)) (n := t314.length) (c := co121) ?_).2.2; exact (by (with_reducible repeat (first | apply Kd.R_alloc | apply Kd.R_drewN | apply Kd.R_drew)); exact (Kd.R_mono (Kd.R_far (p := ⟨gb318, 0, none⟩) (Kd.R_types HO316.out BK318.out (by decide)) (fun _ hk => hk.2) (.slice Ao121 t314.length co121)) (fun _ h_ => h_.1)))); (case side2 => exact (Kd.R_reads' HO316.out).2.1); (case side3 => refine (Kd.R_reads' (e := 55) (base := w.heap.size) (ok := fun k_ => (((some k_ ≠ (.slice Ao29 t306.length co29 : Value).ownBlock ∧ some k_ ≠ (.slice Ao35 t295.length co35 : Value).ownBlock) ∧ some k_ ≠ (.slice Ao118 t311.length co118 : Value).ownBlock) ∧ some k_ ≠ (.slice Ao121 t314.length co121 : Value).ownBlock)) (n := t286.length) (c := co23) ?_).2.2; exact (by (with_reducible repeat (first | apply Kd.R_alloc | apply Kd.R_drewN | apply Kd.R_drew)); exact (Kd.R_mono (Kd.R_far (p := ⟨gb318, 0, none⟩) (Kd.R_types HO_291000.out BK318.out (by decide)) (fun _ hk => hk.2) (.slice Ao121 t314.length co121)) (fun _ h_ => h_.1)))); (case side4 => exact (Kd.R_reads' HO_291000.out).2.1); rintro e w148 ⟨rfl, hb⟩; refine ⟨_, rfl, ?_⟩; have n0_ := Aside0.mk (Kd.R_below (by (with_reducible repeat (first | apply Kd.R_alloc | apply Kd.R_drewN | apply Kd.R_drew)); exact (Kd.R_mono (Kd.R_far (p := ⟨gb318, 0, none⟩) (Kd.R_types HO_291000.out BK318.out (by decide)) (fun _ hk => hk.2) (.slice Ao121 t314.length co121)) (fun _ h_ => h_.1))) hb); have n1_ := Aside0.mk (Kd.R_below (by (with_reducible repeat (first | apply Kd.R_alloc | apply Kd.R_drewN | apply Kd.R_drew)); exact (Kd.R_mono (Kd.R_far (p := ⟨gb318, 0, none⟩) (Kd.R_types HO_295000.out BK318.out (by decide)) (fun _ hk => hk.2) (.slice Ao121 t314.length co121)) (fun _ h_ => h_.1))) hb); have n2_ := Aside0.mk (Kd.R_below (by (with_reducible repeat (first | apply Kd.R_alloc | apply Kd.R_drewN | apply Kd.R_drew)); exact (Kd.R_mono (Kd.R_far (p := ⟨gb318, 0, none⟩) (Kd.R_types HO_300000.out BK318.out (by decide)) (fun _ hk => hk.2) (.slice Ao121 t314.length co121)) (fun _ h_ => h_.1))) hb); have n3_ := Aside0.mk (Kd.R_below (by (with_reducible repeat (first | apply Kd.R_alloc | apply Kd.R_drewN | apply Kd.R_drew)); exact (Kd.R_mono (Kd.R_far (p := ⟨gb318, 0, none⟩) (Kd.R_types HO313.out BK318.out (by decide)) (fun _ hk => hk.2) (.slice Ao121 t314.length co121)) (fun _ h_ => h_.1))) hb); have n4_ := Aside0.mk (Kd.R_below (by (with_reducible repeat (first | apply Kd.R_alloc | apply Kd.R_drewN | apply Kd.R_drew)); exact (Kd.R_mono (Kd.R_far (p := ⟨gb318, 0, none⟩) (Kd.R_types HO316.out BK318.out (by decide)) (fun _ hk => hk.2) (.slice Ao121 t314.length co121)) (fun _ h_ => h_.1))) hb); have n5_ := Aside0.mk (blk_below (g := gb281) (o := .cells #[.slice A0_0 l0_0.length c0_0] 24 (0, 0)) (zf BK281.out) hb); have n6_ := Aside0.mk (blk_below (g := gb290) (o := .cells #[.slice Ao23 t286.length co23] 28 (0, 0)) (zf BK290.out) hb); have n7_ := Aside0.mk (blk_below (g := gb294) (o := .cells #[.slice Ao29 t306.length co29] 28 (0, 0)) (zf BK294.out) hb); have n8_ := Aside0.mk (blk_below (g := gb299) (o := .cells #[.slice Ao35 t295.length co35] 28 (0, 0)) (zf BK299.out) hb); have n9_ := Aside0.mk (blk_below (g := gb318) (o := .cells #[.slice Ao121 t314.length co121] 28 (0, 0)) (by (with_reducible repeat (first | refine blk_drewN ?_ _ | refine blk_drew ?_ | refine blk_alloc ?_ _)); refine blk_put (cs := #[.slice none 0 0]) ?_ 0 _ rfl; (with_reducible repeat (first | refine blk_drewN ?_ _ | refine blk_drew ?_ | refine blk_alloc ?_ _)); exact BK318.out) hb); have n10_ := Aside0.mk (below_step (zb HB.out) hb); clear HO_291000; clear HO_295000; clear HO_300000; clear HO313; clear HO316; clear BK281; clear BK290; clear BK294; clear BK299; clear BK318; clear HB; have HO_291000 := n0_; have HO_295000 := n1_; have HO_300000 := n2_; have HO313 := n3_; have HO316 := n4_; have BK281 := n5_; have BK290 := n6_; have BK294 := n7_; have BK299 := n8_; have BK318 := n9_; have HB := n10_; clear n0_ n1_ n2_ n3_ n4_ n5_ n6_ n7_ n8_ n9_ n10_; (try clear hb); (try clear hb2); (try clear hk); (try clear hi)))
             go_meet
             case rel => exact ⟨_, (true), (by first | rfl | (simp; done) | (simp [*]; done)), H', ⟨by have := HJ13.out; have := HJ62.out; first | omega | exact Nat.le_refl _⟩, ⟨by (try simp only [hl295000_62]); (with_reducible repeat (first | apply Kd.R_alloc | apply Kd.R_drewN | apply Kd.R_drew)); exact Kd.R_mono HO_291000.out (fun _ hk => ⟨hk.1.1.1, ⟨hk.1.1.2, hk.2⟩⟩)⟩, ⟨by (try simp only [hl295000_62]); (with_reducible repeat (first | apply Kd.R_alloc | apply Kd.R_drewN | apply Kd.R_drew)); exact Kd.R_mono HO_295000.out (fun _ hk => ⟨hk.1.1.1, ⟨hk.1.1.2, hk.2⟩⟩)⟩, ⟨by (try simp only [hl295000_62]); (with_reducible repeat (first | apply Kd.R_alloc | apply Kd.R_drewN | apply Kd.R_drew)); exact Kd.R_mono HO_300000.out (fun _ hk => ⟨hk.1.1.1, ⟨hk.1.1.2, hk.2⟩⟩)⟩, ⟨by (try simp only [hl295000_62]); (with_reducible repeat (first | apply Kd.R_alloc | apply Kd.R_drewN | apply Kd.R_drew)); exact Kd.R_mono HO316.out (fun _ hk => ⟨hk.1.1.1.2, ⟨hk.1.1.2, hk.1.2⟩⟩)⟩, ⟨by (try simp only [hl295000_62]); (with_reducible repeat (first | refine blk_drewN ?_ _ | refine blk_drew ?_ | refine blk_alloc ?_ _)); exact BK281.out⟩, ⟨by (try simp only [hl295000_62]); (with_reducible repeat (first | refine blk_drewN ?_ _ | refine blk_drew ?_ | refine blk_alloc ?_ _)); exact BK290.out⟩, ⟨by (try simp only [hl295000_62]); (with_reducible repeat (first | refine blk_drewN ?_ _ | refine blk_drew ?_ | refine blk_alloc ?_ _)); exact BK294.out⟩, ⟨by (try simp only [hl295000_62]); (with_reducible repeat (first | refine blk_drewN ?_ _ | refine blk_drew ?_ | refine blk_alloc ?_ _)); exact BK299.out⟩, ⟨by (try simp only [hl295000_62]); (with_reducible repeat (first | refine blk_drewN ?_ _ | refine blk_drew ?_ | refine blk_alloc ?_ _)); exact BK318.out⟩, ⟨zb HB.out⟩⟩
           case rest =>
            clear HC106
            try clear c1
            try clear c2
            try clear p2
            try clear c3
            try clear c4
            try clear c5
            try clear c6
            try clear c6b0
            try clear c7
            try clear c8
            try clear c9
            try clear c10
            try clear c11
            try clear c12
            try clear c13
            try clear c14
            try clear c24
            try clear c30
            try clear c31
            try clear c36
            try clear c37
            try clear c38
            try clear c41
            try clear c42
            try clear c43
            try clear c44
            try clear c46
            try clear c47
            try clear c50
            try clear c51
            try clear c52
            try clear c54
            try clear c55
            try clear c58
            try clear c61
            try clear c68
            try clear c69
            try clear c70
            try clear c73
            try clear c73b0
            try clear c75
            try clear c76
            try clear c77
            try clear c78
            try clear c80
            try clear c81
            try clear c84
            try clear c85
            try clear c86
            try clear c88
            try clear c89
            try clear c92
            try clear c95
            try clear c95b0
            try clear c96
            try clear c97
            try clear c98
            try clear c103
            try clear c103b0
            try clear c103b1
            try clear c107
            try clear c108
            try clear c109
            try clear c114
            try clear c115
            try clear c122
            try clear c123
            try clear c124
            try clear c125
            try clear c128
            try clear c129
            try clear c130
            try clear c131
            try clear c132
            try clear c134
            try clear c135
            try clear c136
            try clear c139
            try clear c140
            try clear c141
            try clear c142
            try clear c144
            try clear c145
            try clear c146
            try clear hcz101_0
            try clear hcz110_0
            try clear hcz112_0
            try clear hcz116_0
            try clear hcz126_0
            try clear hcz133_0
            try clear hcz137_0
            try clear hcz143_0
            try clear hcz147_0
            try clear hcz16_0
            try clear hcz18_0
            try clear hcz25_0
            try clear hcz26_0
            try clear hcz32_0
            try clear hcz39_0
            try clear hcz45_0
            try clear hcz48_0
            try clear hcz53_0
            try clear hcz56_0
            try clear hcz71_0
            try clear hcz79_0
            try clear hcz82_0
            try clear hcz87_0
            try clear hcz8_0
            try clear hcz90_0
            try clear hcz99_0
            try clear hfz101_0
            try clear hfz110_0
            try clear hfz112_0
            try clear hfz116_0
            try clear hfz126_0
            try clear hfz133_0
            try clear hfz137_0
            try clear hfz143_0
            try clear hfz147_0
            try clear hfz16_0
            try clear hfz18_0
            try clear hfz25_0
            try clear hfz26_0
            try clear hfz32_0
            try clear hfz39_0
            try clear hfz45_0
            try clear hfz48_0
            try clear hfz53_0
            try clear hfz56_0
            try clear hfz71_0
            try clear hfz79_0
            try clear hfz82_0
            try clear hfz87_0
            try clear hfz8_0
            try clear hfz90_0
            try clear hfz99_0
            try clear p2
            obtain ⟨kq, x102_105, rfl, HA, HJ105, HO_291000, HO_295000, HO_300000, HO_319000, BK281, BK290, BK294, BK299, BK318, HB⟩ := hcut
            have hl300000_105 := (Kd.R_reads' HO_300000.out).1
            rw [hl300000_105] at HO_300000
            (try simp only [hl300000_105])
            (try simp only [hl300000_105] at BK281)
            (try simp only [hl300000_105] at BK290)
            (try simp only [hl300000_105] at BK294)
            (try simp only [hl300000_105] at BK299)
            (try simp only [hl300000_105] at BK318)
            (try simp only [hl300000_105] at HO_291000)
            (try simp only [hl300000_105] at HO_295000)
            (try simp only [hl300000_105] at HO_319000)
            cases kq with
            | zero => exact absurd HA.out (by simp [laws_FnExactTermSwap.j2])
            | succ kj105 =>
             have H := HA.out
             clear HA
             simp only [laws_FnExactTermSwap.j2] at H
             by_cases c149 : x102_105 = true
             ·subst c149
              have H1 : (some false) = some r := by rw [if_pos rfl] at H; exact H
              clear H
              have H := H1
              clear H1
              obtain rfl := Option.some.inj H
              go_wp2
              go_ret
              exact ⟨ze, zb HB.out⟩
             ·replace c149 := Bool.eq_false_iff.mpr c149
              subst c149
              have H1 : ((laws_heldPool.f kj105 t309 1).bind fun t320 => (if t320 < 0 then (some false) else (if t320 = t308 then (some true) else (some false)))) = some r := by rw [if_neg (show ¬ (false = true) by decide)] at H; exact H
              clear H
              have H := H1
              clear H1
              replace H := Option.bind_eq_some_iff.mp H
              obtain ⟨t320, A1500, H⟩ := H
              replace H : (if t320 < 0 then (some false) else (if t320 = t308 then (some true) else (some false))) = some r := H
              have A150 := Aside0.mk A1500
              clear A1500
              by_cases c151 : t320 < 0
              ·rw [if_pos c151] at H
               have c151b0 : decide (t320 < 0) = true := decide_eq_true c151
               clear c151
               obtain rfl := Option.some.inj H
               have hnb152 := NB299_281.out
               have hnc152 := NB281_299.out
               have hnb153 := NB299_290.out
               have hnc153 := NB290_299.out
               have hnb154 := NB299_294.out
               have hnc154 := NB294_299.out
               have hnb155 := NB299_318.out
               have hnc155 := NB318_299.out
               have hcz156_0 : wc.cell? ⟨gb299, 0, none⟩ = some (.slice Ao35 t309.length co35) := (blk_cell BK299.out 0).trans rfl
               have hfz156_0 := blk_frozen BK299.out 0
               go_wp2_with (first | ((with_reducible refine gate_callee (f := 13) rfl ?_); refine goesL_ (some 105) rfl rfl Try.func13 (by kernel_rfl) rfl #[.agg #[.slice Ao35 t309.length co35], .int .i64 1] rfl zl ?_; (with_reducible refine (laws_heldPool.calls kj105 _ _ t309 1 t320 _ ?side1 ?side2 A150.out).mono ?_); (case side1 => exact zc (Kd.R_reads' HO_300000.out).2.2); (case side2 => exact (Kd.R_reads' HO_300000.out).2.1); rintro e w157 ⟨rfl, hb⟩; refine ⟨_, rfl, ?_⟩; have n0_ := Aside0.mk (Kd.R_below (zr HO_291000.out) hb); have n1_ := Aside0.mk (Kd.R_below (zr HO_295000.out) hb); have n2_ := Aside0.mk (Kd.R_below (zr HO_300000.out) hb); have n3_ := Aside0.mk (Kd.R_below (zr HO_319000.out) hb); have n4_ := Aside0.mk (blk_below (zh BK281.out) hb); have n5_ := Aside0.mk (blk_below (zh BK290.out) hb); have n6_ := Aside0.mk (blk_below (zh BK294.out) hb); have n7_ := Aside0.mk (blk_below (zh BK299.out) hb); have n8_ := Aside0.mk (blk_below (zh BK318.out) hb); have n9_ := Aside0.mk (below_step (zb HB.out) hb); clear HO_291000; clear HO_295000; clear HO_300000; clear HO_319000; clear BK281; clear BK290; clear BK294; clear BK299; clear BK318; clear HB; have HO_291000 := n0_; have HO_295000 := n1_; have HO_300000 := n2_; have HO_319000 := n3_; have BK281 := n4_; have BK290 := n5_; have BK294 := n6_; have BK299 := n7_; have BK318 := n8_; have HB := n9_; clear n0_ n1_ n2_ n3_ n4_ n5_ n6_ n7_ n8_ n9_; (try clear hb); (try clear hb2); (try clear hk); (try clear hi)))
               go_ret
               exact ⟨ze, zb HB.out⟩
              ·rw [if_neg c151] at H
               have c151b0 : decide (t320 < 0) = false := decide_eq_false c151
               clear c151
               by_cases c158 : t320 = t308
               ·rw [if_pos c158] at H
                have c158b0 : (t320 == t308) = true := beq_iff_eq.mpr c158
                have c158b1 : (t320 != t308) = false := bne_eq_false_iff_eq.mpr c158
                clear c158
                obtain rfl := Option.some.inj H
                have hnb159 := NB299_281.out
                have hnc159 := NB281_299.out
                have hnb160 := NB299_290.out
                have hnc160 := NB290_299.out
                have hnb161 := NB299_294.out
                have hnc161 := NB294_299.out
                have hnb162 := NB299_318.out
                have hnc162 := NB318_299.out
                have hcz163_0 : wc.cell? ⟨gb299, 0, none⟩ = some (.slice Ao35 t309.length co35) := (blk_cell BK299.out 0).trans rfl
                have hfz163_0 := blk_frozen BK299.out 0
                go_wp2_with (first | ((with_reducible refine gate_callee (f := 13) rfl ?_); refine goesL_ (some 105) rfl rfl Try.func13 (by kernel_rfl) rfl #[.agg #[.slice Ao35 t309.length co35], .int .i64 1] rfl zl ?_; (with_reducible refine (laws_heldPool.calls kj105 _ _ t309 1 t320 _ ?side1 ?side2 A150.out).mono ?_); (case side1 => exact zc (Kd.R_reads' HO_300000.out).2.2); (case side2 => exact (Kd.R_reads' HO_300000.out).2.1); rintro e w164 ⟨rfl, hb⟩; refine ⟨_, rfl, ?_⟩; have n0_ := Aside0.mk (Kd.R_below (zr HO_291000.out) hb); have n1_ := Aside0.mk (Kd.R_below (zr HO_295000.out) hb); have n2_ := Aside0.mk (Kd.R_below (zr HO_300000.out) hb); have n3_ := Aside0.mk (Kd.R_below (zr HO_319000.out) hb); have n4_ := Aside0.mk (blk_below (zh BK281.out) hb); have n5_ := Aside0.mk (blk_below (zh BK290.out) hb); have n6_ := Aside0.mk (blk_below (zh BK294.out) hb); have n7_ := Aside0.mk (blk_below (zh BK299.out) hb); have n8_ := Aside0.mk (blk_below (zh BK318.out) hb); have n9_ := Aside0.mk (below_step (zb HB.out) hb); clear HO_291000; clear HO_295000; clear HO_300000; clear HO_319000; clear BK281; clear BK290; clear BK294; clear BK299; clear BK318; clear HB; have HO_291000 := n0_; have HO_295000 := n1_; have HO_300000 := n2_; have HO_319000 := n3_; have BK281 := n4_; have BK290 := n5_; have BK294 := n6_; have BK299 := n7_; have BK318 := n8_; have HB := n9_; clear n0_ n1_ n2_ n3_ n4_ n5_ n6_ n7_ n8_ n9_; (try clear hb); (try clear hb2); (try clear hk); (try clear hi)))
                go_ret
                exact ⟨ze, zb HB.out⟩
               ·rw [if_neg c158] at H
                have c158b0 : (t320 == t308) = false := beq_eq_false_iff_ne.mpr c158
                have c158b1 : (t320 != t308) = true := bne_iff_ne.mpr c158
                obtain rfl := Option.some.inj H
                have hnb165 := NB299_281.out
                have hnc165 := NB281_299.out
                have hnb166 := NB299_290.out
                have hnc166 := NB290_299.out
                have hnb167 := NB299_294.out
                have hnc167 := NB294_299.out
                have hnb168 := NB299_318.out
                have hnc168 := NB318_299.out
                have hcz169_0 : wc.cell? ⟨gb299, 0, none⟩ = some (.slice Ao35 t309.length co35) := (blk_cell BK299.out 0).trans rfl
                have hfz169_0 := blk_frozen BK299.out 0
                go_wp2_with (first | ((with_reducible refine gate_callee (f := 13) rfl ?_); refine goesL_ (some 105) rfl rfl Try.func13 (by kernel_rfl) rfl #[.agg #[.slice Ao35 t309.length co35], .int .i64 1] rfl zl ?_; (with_reducible refine (laws_heldPool.calls kj105 _ _ t309 1 t320 _ ?side1 ?side2 A150.out).mono ?_); (case side1 => exact zc (Kd.R_reads' HO_300000.out).2.2); (case side2 => exact (Kd.R_reads' HO_300000.out).2.1); rintro e w170 ⟨rfl, hb⟩; refine ⟨_, rfl, ?_⟩; have n0_ := Aside0.mk (Kd.R_below (zr HO_291000.out) hb); have n1_ := Aside0.mk (Kd.R_below (zr HO_295000.out) hb); have n2_ := Aside0.mk (Kd.R_below (zr HO_300000.out) hb); have n3_ := Aside0.mk (Kd.R_below (zr HO_319000.out) hb); have n4_ := Aside0.mk (blk_below (zh BK281.out) hb); have n5_ := Aside0.mk (blk_below (zh BK290.out) hb); have n6_ := Aside0.mk (blk_below (zh BK294.out) hb); have n7_ := Aside0.mk (blk_below (zh BK299.out) hb); have n8_ := Aside0.mk (blk_below (zh BK318.out) hb); have n9_ := Aside0.mk (below_step (zb HB.out) hb); clear HO_291000; clear HO_295000; clear HO_300000; clear HO_319000; clear BK281; clear BK290; clear BK294; clear BK299; clear BK318; clear HB; have HO_291000 := n0_; have HO_295000 := n1_; have HO_300000 := n2_; have HO_319000 := n3_; have BK281 := n4_; have BK290 := n5_; have BK294 := n6_; have BK299 := n7_; have BK318 := n8_; have HB := n9_; clear n0_ n1_ n2_ n3_ n4_ n5_ n6_ n7_ n8_ n9_; (try clear hb); (try clear hb2); (try clear hk); (try clear hi)))
                go_ret
                exact ⟨ze, zb HB.out⟩
          ·rw [if_neg c103] at H
           have c103b0 : (t310 == t308) = false := beq_eq_false_iff_ne.mpr c103
           have c103b1 : (t310 != t308) = true := bne_iff_ne.mpr c103
           obtain rfl := Option.some.inj H
           have hnb171 := NB299_281.out
           have hnc171 := NB281_299.out
           have hnb172 := NB299_290.out
           have hnc172 := NB290_299.out
           have hnb173 := NB299_294.out
           have hnc173 := NB294_299.out
           have hcz174_0 : wc.cell? ⟨gb299, 0, none⟩ = some (.slice Ao35 t295.length co35) := (blk_cell BK299.out 0).trans rfl
           have hfz174_0 := blk_frozen BK299.out 0
           go_wp2_with (first | ((with_reducible refine gate_callee (f := 12) rfl ?_); refine goesL_ (some 76) rfl rfl Try.func12 (by kernel_rfl) rfl #[.agg #[.slice Ao35 t295.length co35], .int .i64 1] rfl zl ?_; (with_reducible refine (laws_markPool.calls kj62 (fun k_ => some k_ = (.slice Ao35 t295.length co35 : Value).ownBlock) (.slice Ao35 t295.length co35) t295 1 t308 t309 w _ ?side1 ?side2 A93.out).mono ?_); (case side1 => exact zb HB.out); (case side2 => exact Kd.R_tight rfl HO_300000.out); rintro e w175 ⟨rfl, hy0, hb, hkp⟩; refine ⟨_, rfl, ?_⟩; have n0_ := Aside0.mk (Kd.R_mono (ok' := fun k_ => some k_ ≠ (.slice Ao29 t306.length co29 : Value).ownBlock ∧ some k_ ≠ (.slice Ao35 t295.length co35 : Value).ownBlock) (Kd.R_keptB (HO_291000.out) hkp (fun k_ hk_ hs_ => by first | exact (hk_.2) hs_ | (revert hk_; simp only [and_imp]; intros; exact absurd hs_ (by assumption)))) (fun k_ hk_ => by first | exact ⟨hk_.1.1, hk_.1.2⟩ | (revert hk_; simp only [and_imp]; intros; and_intros <;> assumption))); have n1_ := Aside0.mk (Kd.R_mono (ok' := fun k_ => some k_ ≠ (.slice Ao23 t286.length co23 : Value).ownBlock ∧ some k_ ≠ (.slice Ao35 t295.length co35 : Value).ownBlock) (Kd.R_keptB (HO_295000.out) hkp (fun k_ hk_ hs_ => by first | exact (hk_.2) hs_ | (revert hk_; simp only [and_imp]; intros; exact absurd hs_ (by assumption)))) (fun k_ hk_ => by first | exact ⟨hk_.1.1, hk_.1.2⟩ | (revert hk_; simp only [and_imp]; intros; and_intros <;> assumption))); have n2_ := Aside0.mk (Kd.R_reok rfl hy0 (fun k_ e_ => HO_300000.out.1 k_ e_)); have n3_ := Aside0.mk (blk_kept (zh BK281.out) hkp (fun hs_ => (fun e_ => (Kd.R_ne HO_300000.out BK281.out (by decide)) e_) hs_)); have n4_ := Aside0.mk (blk_kept (zh BK290.out) hkp (fun hs_ => (fun e_ => (Kd.R_ne HO_300000.out BK290.out (by decide)) e_) hs_)); have n5_ := Aside0.mk (blk_kept (zh BK294.out) hkp (fun hs_ => (fun e_ => (Kd.R_ne HO_300000.out BK294.out (by decide)) e_) hs_)); have n6_ := Aside0.mk (blk_kept (zh BK299.out) hkp (fun hs_ => (fun e_ => (Kd.R_ne HO_300000.out BK299.out (by decide)) e_) hs_)); have n7_ := Aside0.mk (hb); clear HO_291000; clear HO_295000; clear HO_300000; clear BK281; clear BK290; clear BK294; clear BK299; clear HB; have HO_291000 := n0_; have HO_295000 := n1_; have HO_300000 := n2_; have BK281 := n3_; have BK290 := n4_; have BK294 := n5_; have BK299 := n6_; have HB := n7_; clear n0_ n1_ n2_ n3_ n4_ n5_ n6_ n7_; (try clear hb); (try clear hkp); (try clear hy0); have hcz176_0 : w175.cell? ⟨gb299, 0, none⟩ = some (.slice Ao35 t295.length co35) := (blk_cell BK299.out 0).trans rfl; have hfz176_0 := blk_frozen BK299.out 0) | ((with_reducible refine gate_callee (f := 13) rfl ?_); refine goesL_ (some 79) rfl rfl Try.func13 (by kernel_rfl) rfl #[.agg #[.slice Ao35 t309.length co35], .int .i64 1] rfl (by (try simp only [List.map_toArray, List.map_cons, List.map_nil]); first | done | (rw [show t309.length = t295.length from (Kd.R_reads' HO_300000.out).1.symm] <;> rfl) | rfl | (simp only [List.length_drop, List.length_take]; rfl)) ?_; (with_reducible refine (laws_heldPool.calls kj62 _ _ t309 1 t310 _ ?side1 ?side2 A94.out).mono ?_); (case side1 => exact zc (Kd.R_reads' HO_300000.out).2.2); (case side2 => rw [show t309.length = t295.length from (Kd.R_reads' HO_300000.out).1.symm]; exact (Kd.R_reads' HO_300000.out).2.1); rintro e w177 ⟨rfl, hb⟩; refine ⟨_, rfl, ?_⟩; have n0_ := Aside0.mk (Kd.R_below (zr HO_291000.out) hb); have n1_ := Aside0.mk (Kd.R_below (zr HO_295000.out) hb); have n2_ := Aside0.mk (Kd.R_below (zr HO_300000.out) hb); have n3_ := Aside0.mk (blk_below (zh BK281.out) hb); have n4_ := Aside0.mk (blk_below (zh BK290.out) hb); have n5_ := Aside0.mk (blk_below (zh BK294.out) hb); have n6_ := Aside0.mk (blk_below (zh BK299.out) hb); have n7_ := Aside0.mk (below_step (zb HB.out) hb); clear HO_291000; clear HO_295000; clear HO_300000; clear BK281; clear BK290; clear BK294; clear BK299; clear HB; have HO_291000 := n0_; have HO_295000 := n1_; have HO_300000 := n2_; have BK281 := n3_; have BK290 := n4_; have BK294 := n5_; have BK299 := n6_; have HB := n7_; clear n0_ n1_ n2_ n3_ n4_ n5_ n6_ n7_; (try clear hb); (try clear hb2); (try clear hk); (try clear hi)))
           go_ret
           exact ⟨ze, zb HB.out⟩
     ·replace c61 := Bool.eq_false_iff.mpr c61
      subst c61
      have H1 : (some false) = some r := by rw [if_neg (show ¬ (false = true) by decide)] at H; exact H
      clear H
      have H := H1
      clear H1
      obtain rfl := Option.some.inj H
      try go_wp2
      have n0_ := Aside0.mk (Kd.R_drew HO_291000.out)
      have n1_ := Aside0.mk (Kd.R_drew HO_295000.out)
      have n2_ := Aside0.mk (Kd.R_drew HO_300000.out)
      have n3_ := Aside0.mk (blk_drew BK281.out)
      have n4_ := Aside0.mk (blk_drew BK290.out)
      have n5_ := Aside0.mk (blk_drew BK294.out)
      have n6_ := Aside0.mk (blk_drew BK299.out)
      have n7_ := Aside0.mk (below_drew1 HB.out)
      clear HO_291000
      clear HO_295000
      clear HO_300000
      clear BK281
      clear BK290
      clear BK294
      clear BK299
      clear HB
      have HO_291000 := n0_
      have HO_295000 := n1_
      have HO_300000 := n2_
      have BK281 := n3_
      have BK290 := n4_
      have BK294 := n5_
      have BK299 := n6_
      have HB := n7_
      clear n0_ n1_ n2_ n3_ n4_ n5_ n6_ n7_
      refine start_ (n := 5) (S := fun w' => w'.cell? ⟨gb294, 0, none⟩ = some (.slice Ao29 t291.length co29) ∧ w'.cell? ⟨gb281, 0, none⟩ = some (.slice A0_0 l0_0.length c0_0)) (ds := []) #[false, false, false, false, false] (by kernel_rfl) rfl rfl ⟨(blk_cell BK294.out 0).trans rfl, (blk_cell BK281.out 0).trans rfl⟩ (fun hHeld => ?_)
      generalize wc.drew = w178 at HO_291000 HO_295000 HO_300000 BK281 BK290 BK294 BK299 HB hHeld ⊢
      refine take_ (i := 0) (N := some 53) (v := ?_) (a' := ?_) #[true, false, false, false, false] rfl rfl (by kernel_rfl) (fun _ _ _ h => h) (Or.inl ⟨by rfl, ?_⟩) hHeld ?_ ?_
      rotate_left
      ·rintro w' ⟨s0, s1⟩
       go_simp
       with_reducible rfl
      rotate_left
      ·simp only [Act.put, List.setIfInBounds_toArray, List.set_cons_zero, List.set_cons_succ, i64_w, i32_w]
       rfl
      refine take_ (i := 1) (N := some 54) (v := ?_) (a' := ?_) #[true, true, false, false, false] rfl rfl (by kernel_rfl) (fun _ _ _ h => h) (Or.inl ⟨by rfl, ?_⟩) hHeld ?_ ?_
      rotate_left
      ·rintro w' ⟨s0, s1⟩
       go_simp
       with_reducible rfl
      rotate_left
      ·simp only [Act.put, List.setIfInBounds_toArray, List.set_cons_zero, List.set_cons_succ, i64_w, i32_w]
       rfl
      refine one_ (i := 2) (N := some 55) #[true, true, true, false, false] rfl rfl (by kernel_rfl) (by decide) (fun K hK => ?_)
      refine goes_ Try.func9 (by kernel_rfl) rfl #[.agg #[.slice A0_0 l0_0.length c0_0]] (by rfl) rfl rfl zl ?_
      with_reducible refine (laws_toPool.calls kj13 _ _ l0_0 t301 _ ?side1 ?side2 A59.out).mono ?_
      (case side1 => exact zc (Kd.C_below HR0_0.out HB.out))
      (case side2 => exact HC0_0.out)
      rintro e w179 ⟨v302, rfl, ho0, hb⟩
      refine ⟨_, rfl, ?_⟩
      have n0_ := Aside0.mk (Kd.R_elder' (zr HO_291000.out) (Kd.R_base ho0) hb)
      have n1_ := Aside0.mk (Kd.R_elder' (zr HO_295000.out) (Kd.R_base ho0) hb)
      have n2_ := Aside0.mk (Kd.R_elder' (zr HO_300000.out) (Kd.R_base ho0) hb)
      have n3_ := Aside0.mk (Kd.R_lower (Kd.R_new' (Kd.R_new' (Kd.R_new' ho0 (Kd.R_lt (zr HO_291000.out))) (Kd.R_lt (zr HO_295000.out))) (Kd.R_lt (zr HO_300000.out))) (below_size (zb HB.out)))
      have n4_ := Aside0.mk (blk_below (zh BK281.out) hb)
      have n5_ := Aside0.mk (blk_below (zh BK290.out) hb)
      have n6_ := Aside0.mk (blk_below (zh BK294.out) hb)
      have n7_ := Aside0.mk (blk_below (zh BK299.out) hb)
      have n8_ := Aside0.mk (below_step (zb HB.out) hb)
      clear HO_291000
      clear HO_295000
      clear HO_300000
      clear BK281
      clear BK290
      clear BK294
      clear BK299
      clear HB
      have HO_291000 := n0_
      have HO_295000 := n1_
      have HO_300000 := n2_
      have HO303 := n3_
      have BK281 := n4_
      have BK290 := n5_
      have BK294 := n6_
      have BK299 := n7_
      have HB := n8_
      clear n0_ n1_ n2_ n3_ n4_ n5_ n6_ n7_ n8_
      (try clear hb)
      (try clear hb2)
      (try clear hk)
      (try clear hi)
      (try clear ho0)
      obtain ⟨Ao180, co180, eo180⟩ := Kd.R_slice HO303.out
      (first | subst eo180 | (injection eo180 with f1_ f2_ f3_; have f4_ := f1_.symm; have f5_ := f3_.symm; clear f1_ f2_ f3_; subst f4_; subst f5_))
      refine hK.out _ _ ⟨(blk_cell BK294.out 0).trans rfl, (blk_cell BK281.out 0).trans rfl⟩ (fun hHeld => ?_)
      clear hK K
      refine norm_ (a' := ?_) ?_ ?_
      rotate_left
      ·show Act.put _ (some 55) _ = _
       simp only [Act.put, List.setIfInBounds_toArray, List.set_cons_zero, List.set_cons_succ, i64_w, i32_w]
       rfl
      refine one_ (i := 3) (N := some 56) #[true, true, true, true, false] rfl rfl (by kernel_rfl) (by decide) (fun K hK => ?_)
      refine goes_ Try.func11 (by kernel_rfl) rfl #[.agg #[.slice Ao29 t291.length co29], .agg #[.slice Ao180 t301.length co180]] (by rfl) rfl rfl zl ?_
      with_reducible refine (laws_eqPool.calls kj13 _ _ t291 _ _ t301 false _ ?side1 ?side2 ?side3 ?side4 A60.out).mono ?_
      (case side1 => exact zc (Kd.R_reads' HO_295000.out).2.2)
      (case side2 => exact (Kd.R_reads' HO_295000.out).2.1)
      (case side3 => exact zc (Kd.R_reads' HO303.out).2.2)
      (case side4 => exact (Kd.R_reads' HO303.out).2.1)
      rintro e w181 ⟨rfl, hb⟩
      refine ⟨_, rfl, ?_⟩
      have n0_ := Aside0.mk (Kd.R_below (zr HO_291000.out) hb)
      have n1_ := Aside0.mk (Kd.R_below (zr HO_295000.out) hb)
      have n2_ := Aside0.mk (Kd.R_below (zr HO_300000.out) hb)
      have n3_ := Aside0.mk (Kd.R_below (zr HO303.out) hb)
      have n4_ := Aside0.mk (blk_below (zh BK281.out) hb)
      have n5_ := Aside0.mk (blk_below (zh BK290.out) hb)
      have n6_ := Aside0.mk (blk_below (zh BK294.out) hb)
      have n7_ := Aside0.mk (blk_below (zh BK299.out) hb)
      have n8_ := Aside0.mk (below_step (zb HB.out) hb)
      clear HO_291000
      clear HO_295000
      clear HO_300000
      clear HO303
      clear BK281
      clear BK290
      clear BK294
      clear BK299
      clear HB
      have HO_291000 := n0_
      have HO_295000 := n1_
      have HO_300000 := n2_
      have HO303 := n3_
      have BK281 := n4_
      have BK290 := n5_
      have BK294 := n6_
      have BK299 := n7_
      have HB := n8_
      clear n0_ n1_ n2_ n3_ n4_ n5_ n6_ n7_ n8_
      (try clear hb)
      (try clear hb2)
      (try clear hk)
      (try clear hi)
      refine hK.out _ _ ⟨(blk_cell BK294.out 0).trans rfl, (blk_cell BK281.out 0).trans rfl⟩ (fun hHeld => ?_)
      clear hK K
      refine norm_ (a' := ?_) ?_ ?_
      rotate_left
      ·show Act.put _ (some 56) _ = _
       simp only [Act.put, List.setIfInBounds_toArray, List.set_cons_zero, List.set_cons_succ, i64_w, i32_w]
       rfl
      refine pure_ (i := 4) (N := some 57) (v := ?_) (a' := ?_) #[true, true, true, true, true] rfl rfl (by kernel_rfl) (fun _ _ _ h => h) (Or.inl ⟨by rfl, ?_⟩) ?_ ?_
      rotate_left
      ·intro w'
       go_simp
       with_reducible rfl
      rotate_left
      ·simp only [Act.put, List.setIfInBounds_toArray, List.set_cons_zero, List.set_cons_succ, i64_w, i32_w]
       rfl
      refine done_ (by kernel_rfl) ?_
      try go_wp2
      go_ret
      exact ⟨ze, zb HB.out⟩

end Go.Proofs.Ytobkledmbnacjaa.SW
end
