import Derived.Test.YtobkledmbnacjaaZMMV0
import Derived.Test.YtobkledmbnacjaaZMMVg0
import Derived.Test.YtobkledmbnacjaaZMMVg2
import Derived.Test.YtobkledmbnacjaaZMMVg4
section
-- Written by this session's program (wip/tools/gprint.py over the kit's print) out of the translation; Lean checks it.
namespace Go.Proofs.Ytobkledmbnacjaa.MV
open Go.RowKit Go.Proofs.YtobkledmbnacjaaW.PrintWords Go.Proofs.YtobkledmbnacjaaW.PrintLast Go.Proofs.YtobkledmbnacjaaW.PrintMore
attribute [local go_sem] max2_int min2_int max_two min_two max_three min_three max_four min_four   -- for this text's walks alone
set_option linter.unusedVariables false
set_option linter.unusedSimpArgs false
set_option maxRecDepth 100000

/-! ### laws_FnExactTermMove: function 4 -/
mutual
def laws_FnExactTermMove.j0 : Nat → Int → Int → Int → Bool → List (S79) → List (S79) → List (S55) → List (S55) → List (S55) → List (S55) → Option (Bool)
 | 0, _, _, _, _, _, _, _, _, _, _ => none
 | k + 1, x1, x9, x13, x57, x291000, x292000, x305000, x309000, x313000, x318000 => if x57 = true then (some false) else ((laws_toPool.f k x291000).bind fun t319 => ((laws_eqPool.f k x309000 t319).bind fun t322 => (if t322 = true then ((laws_toPool.f k x292000).bind fun t323 => ((laws_eqPool.f k x313000 t323).bind fun t326 => (if t326 = true then ((laws_markPool.f k x309000 1).bind fun bt327 => ((laws_markPool.f k x313000 bt327.1).bind fun bt329 => (if bt329.1 < 0 then (laws_FnExactTermMove.j1 k x1 x9 true x291000 x292000 x305000 x318000) else ((laws_eqPool.f k x318000 x305000).bind fun t331 => (if t331 = true then (laws_FnExactTermMove.j1 k x1 x9 (x13 != x9) x291000 x292000 x305000 x318000) else (laws_FnExactTermMove.j1 k x1 x9 true x291000 x292000 x305000 x318000)))))) else (some false)))) else (some false))))
def laws_FnExactTermMove.j1 : Nat → Int → Int → Bool → List (S79) → List (S79) → List (S55) → List (S55) → Option (Bool)
 | 0, _, _, _, _, _, _, _ => none
 | k + 1, x1, x9, x86, x291000, x292000, x305000, x318000 => if x86 = true then (some false) else ((laws_markPool.f k x318000 1).bind fun bt332 => ((laws_heldPool.f k bt332.2 1).bind fun t334 => (if t334 < 0 then (some false) else (if t334 = bt332.1 then ((laws_toPool.f k x291000).bind fun t335 => ((laws_toPool.f k x292000).bind fun t338 => ((impl_TermMove.f k t335 x1 t338).bind fun bt341 => ((laws_eqPool.f k bt341.1 x305000).bind fun t346 => (if t346 = true then (laws_FnExactTermMove.j2 k bt332.1 (bt341.2 != x9) bt332.2) else (laws_FnExactTermMove.j2 k bt332.1 true bt332.2)))))) else (some false)))))
def laws_FnExactTermMove.j2 : Nat → Int → Bool → List (S55) → Option (Bool)
 | 0, _, _, _ => none
 | k + 1, x15, x115, x318000 => if x115 = true then (some false) else ((laws_heldPool.f k x318000 1).bind fun t347 => (if t347 < 0 then (some false) else (if t347 = x15 then (some true) else (some false))))
end
def laws_FnExactTermMove.f (k : Nat) (l0_0 : List (S79)) (a1 : Int) (l2_0 : List (S79)) : Option (Bool) := (laws_szPool.f l0_0 1048576).bind fun t292 => (if t292 < 0 then (some true) else ((laws_szPool.f l2_0 t292).bind fun t293 => (if t293 < 0 then (some true) else ((laws_toPool.f k l0_0).bind fun t294 => ((laws_toPool.f k l2_0).bind fun t297 => ((spec_TermMove.f k t294 a1 t297).bind fun bt300 => ((laws_toPool.f k l0_0).bind fun t305 => ((laws_toPool.f k l2_0).bind fun t309 => ((impl_TermMove.f k t305 a1 t309).bind fun bt313 => ((laws_eqPool.f k bt313.1 bt300.1).bind fun t318 => (if t318 = true then (laws_FnExactTermMove.j0 k a1 bt300.2 bt313.2 (bt313.2 != bt300.2) l0_0 l2_0 bt300.1 t305 t309 bt313.1) else (laws_FnExactTermMove.j0 k a1 bt300.2 bt313.2 true l0_0 l2_0 bt300.1 t305 t309 bt313.1))))))))))))
theorem laws_FnExactTermMove.mono_l : ∀ k, (∀ y0 y1 y2 y3 y4 y5 y6 y7 y8 y9, LeO (laws_FnExactTermMove.j0 k y0 y1 y2 y3 y4 y5 y6 y7 y8 y9) (laws_FnExactTermMove.j0 (k + 1) y0 y1 y2 y3 y4 y5 y6 y7 y8 y9)) ∧ (∀ y0 y1 y2 y3 y4 y5 y6, LeO (laws_FnExactTermMove.j1 k y0 y1 y2 y3 y4 y5 y6) (laws_FnExactTermMove.j1 (k + 1) y0 y1 y2 y3 y4 y5 y6)) ∧ (∀ y0 y1 y2, LeO (laws_FnExactTermMove.j2 k y0 y1 y2) (laws_FnExactTermMove.j2 (k + 1) y0 y1 y2))
 | 0 => ⟨fun _ _ _ _ _ _ _ _ _ _ r h => by simp [laws_FnExactTermMove.j0] at h, fun _ _ _ _ _ _ _ r h => by simp [laws_FnExactTermMove.j1] at h, fun _ _ _ r h => by simp [laws_FnExactTermMove.j2] at h⟩
 | k + 1 => by
  obtain ⟨ih0, ih1, ih2⟩ := laws_FnExactTermMove.mono_l k
  refine ⟨?_, ?_, ?_⟩
  ·intro y0 y1 y2 y3 y4 y5 y6 y7 y8 y9
   unfold laws_FnExactTermMove.j0
   repeat' first
   | (with_reducible exact ih0 _ _ _ _ _ _ _ _ _ _)
   | (with_reducible exact ih1 _ _ _ _ _ _ _)
   | (with_reducible exact ih2 _ _ _)
   | (with_reducible exact impl_TermMove.mono _ _ _ _)
   | (with_reducible exact laws_eqPool.mono _ _ _)
   | (with_reducible exact laws_heldPool.mono _ _ _)
   | (with_reducible exact laws_markPool.mono _ _ _)
   | (with_reducible exact laws_toPool.mono _ _)
   | (with_reducible exact spec_TermMove.mono _ _ _ _)
   | (with_reducible exact LeO.refl _)
   | (with_reducible exact LeO.none _)
   | (with_reducible refine LeO.ite ?_ ?_)
   | (with_reducible refine LeO.bind ?_ (fun _ => ?_))
   | exact ih0 _ _ _ _ _ _ _ _ _ _
   | exact ih1 _ _ _ _ _ _ _
   | exact ih2 _ _ _
   | exact impl_TermMove.mono _ _ _ _
   | exact laws_eqPool.mono _ _ _
   | exact laws_heldPool.mono _ _ _
   | exact laws_markPool.mono _ _ _
   | exact laws_toPool.mono _ _
   | exact spec_TermMove.mono _ _ _ _
   | exact LeO.none _
   | refine LeO.ite ?_ ?_
   | refine LeO.bind ?_ (fun _ => ?_)
  ·intro y0 y1 y2 y3 y4 y5 y6
   unfold laws_FnExactTermMove.j1
   repeat' first
   | (with_reducible exact ih0 _ _ _ _ _ _ _ _ _ _)
   | (with_reducible exact ih1 _ _ _ _ _ _ _)
   | (with_reducible exact ih2 _ _ _)
   | (with_reducible exact impl_TermMove.mono _ _ _ _)
   | (with_reducible exact laws_eqPool.mono _ _ _)
   | (with_reducible exact laws_heldPool.mono _ _ _)
   | (with_reducible exact laws_markPool.mono _ _ _)
   | (with_reducible exact laws_toPool.mono _ _)
   | (with_reducible exact spec_TermMove.mono _ _ _ _)
   | (with_reducible exact LeO.refl _)
   | (with_reducible exact LeO.none _)
   | (with_reducible refine LeO.ite ?_ ?_)
   | (with_reducible refine LeO.bind ?_ (fun _ => ?_))
   | exact ih0 _ _ _ _ _ _ _ _ _ _
   | exact ih1 _ _ _ _ _ _ _
   | exact ih2 _ _ _
   | exact impl_TermMove.mono _ _ _ _
   | exact laws_eqPool.mono _ _ _
   | exact laws_heldPool.mono _ _ _
   | exact laws_markPool.mono _ _ _
   | exact laws_toPool.mono _ _
   | exact spec_TermMove.mono _ _ _ _
   | exact LeO.none _
   | refine LeO.ite ?_ ?_
   | refine LeO.bind ?_ (fun _ => ?_)
  ·intro y0 y1 y2
   unfold laws_FnExactTermMove.j2
   repeat' first
   | (with_reducible exact ih0 _ _ _ _ _ _ _ _ _ _)
   | (with_reducible exact ih1 _ _ _ _ _ _ _)
   | (with_reducible exact ih2 _ _ _)
   | (with_reducible exact impl_TermMove.mono _ _ _ _)
   | (with_reducible exact laws_eqPool.mono _ _ _)
   | (with_reducible exact laws_heldPool.mono _ _ _)
   | (with_reducible exact laws_markPool.mono _ _ _)
   | (with_reducible exact laws_toPool.mono _ _)
   | (with_reducible exact spec_TermMove.mono _ _ _ _)
   | (with_reducible exact LeO.refl _)
   | (with_reducible exact LeO.none _)
   | (with_reducible refine LeO.ite ?_ ?_)
   | (with_reducible refine LeO.bind ?_ (fun _ => ?_))
   | exact ih0 _ _ _ _ _ _ _ _ _ _
   | exact ih1 _ _ _ _ _ _ _
   | exact ih2 _ _ _
   | exact impl_TermMove.mono _ _ _ _
   | exact laws_eqPool.mono _ _ _
   | exact laws_heldPool.mono _ _ _
   | exact laws_markPool.mono _ _ _
   | exact laws_toPool.mono _ _
   | exact spec_TermMove.mono _ _ _ _
   | exact LeO.none _
   | refine LeO.ite ?_ ?_
   | refine LeO.bind ?_ (fun _ => ?_)
theorem laws_FnExactTermMove.mono : ∀ a0 a1 a2 k, LeO (laws_FnExactTermMove.f k a0 a1 a2) (laws_FnExactTermMove.f (k + 1) a0 a1 a2) := by
 intro a0 a1 a2 k
 obtain ⟨ih0, ih1, ih2⟩ := laws_FnExactTermMove.mono_l k
 unfold laws_FnExactTermMove.f
 repeat' first
   | (with_reducible exact ih0 _ _ _ _ _ _ _ _ _ _)
   | (with_reducible exact ih1 _ _ _ _ _ _ _)
   | (with_reducible exact ih2 _ _ _)
   | (with_reducible exact impl_TermMove.mono _ _ _ _)
   | (with_reducible exact laws_eqPool.mono _ _ _)
   | (with_reducible exact laws_heldPool.mono _ _ _)
   | (with_reducible exact laws_markPool.mono _ _ _)
   | (with_reducible exact laws_toPool.mono _ _)
   | (with_reducible exact spec_TermMove.mono _ _ _ _)
   | (with_reducible exact LeO.refl _)
   | (with_reducible exact LeO.none _)
   | (with_reducible refine LeO.ite ?_ ?_)
   | (with_reducible refine LeO.bind ?_ (fun _ => ?_))
   | exact ih0 _ _ _ _ _ _ _ _ _ _
   | exact ih1 _ _ _ _ _ _ _
   | exact ih2 _ _ _
   | exact impl_TermMove.mono _ _ _ _
   | exact laws_eqPool.mono _ _ _
   | exact laws_heldPool.mono _ _ _
   | exact laws_markPool.mono _ _ _
   | exact laws_toPool.mono _ _
   | exact spec_TermMove.mono _ _ _ _
   | exact LeO.none _
   | refine LeO.ite ?_ ?_
   | refine LeO.bind ?_ (fun _ => ?_)
def laws_FnExactTermMove.T8 : Bool × List (List Nat × List Nat) := (true, [([], []), ([0], [0]), ([], []), ([], []), ([3, 1], [3]), ([1, 2, 4, 4], [1, 2, 4]), ([5], [5]), ([6], [6]), ([6], [6]), ([], []), ([9, 7, 5, 0, 1, 2, 3, 4, 5, 6, 7, 9], [7, 9]), ([8, 10, 0, 1, 2, 3, 4, 5, 6, 7, 8, 9, 10], [8])])
def laws_FnExactTermMove.B8 : List Nat := [0, 1, 0, 0, 11, 31, 63, 127, 127, 0, 767, 2047]
theorem laws_FnExactTermMove.tab8 : rtab .any (opsOf Try.f4 8) = laws_FnExactTermMove.T8 := by kernel_rfl
theorem laws_FnExactTermMove.bits8 : waitsOk laws_FnExactTermMove.T8.2 laws_FnExactTermMove.B8 = true := by kernel_rfl
def laws_FnExactTermMove.T31 : Bool × List (List Nat × List Nat) := (true, [([], []), ([0], [0]), ([], []), ([], []), ([3, 1], [3]), ([1, 2, 4, 4], [1, 2, 4]), ([5], [5]), ([6], [6]), ([6], [6]), ([], []), ([9, 7, 5, 0, 1, 2, 3, 4, 5, 6, 7, 9], [7, 9]), ([8, 10, 0, 1, 2, 3, 4, 5, 6, 7, 8, 9, 10], [8])])
def laws_FnExactTermMove.B31 : List Nat := [0, 1, 0, 0, 11, 31, 63, 127, 127, 0, 767, 2047]
theorem laws_FnExactTermMove.tab31 : rtab .any (opsOf Try.f4 31) = laws_FnExactTermMove.T31 := by kernel_rfl
theorem laws_FnExactTermMove.bits31 : waitsOk laws_FnExactTermMove.T31.2 laws_FnExactTermMove.B31 = true := by kernel_rfl
set_option maxHeartbeats 8000000 in
set_option maxRecDepth 100000 in
theorem laws_FnExactTermMove.calls (k : Nat) (A0_0 : Option Addr) (c0_0 : Nat) (l0_0 : List (S79)) (a1 : Int) (A2_0 : Option Addr) (c2_0 : Nat) (l2_0 : List (S79)) (r : Bool) (w : World) (hr0_0 : Kd.C k79 w A0_0 l0_0.length l0_0) (hc0_0 : l0_0.length ≤ c0_0) (hr2_0 : Kd.C k79 w A2_0 l2_0.length l2_0) (hc2_0 : l2_0.length ≤ c2_0) (h : laws_FnExactTermMove.f k l0_0 a1 l2_0 = some r) :
  Calls Try.prog 4 #[.agg #[.slice A0_0 l0_0.length c0_0], .int .i64 a1, .agg #[.slice A2_0 l2_0.length c2_0]] w fun e w' => e = .returned (.bool r) ∧ Below w.heap.size w w' := by
 have hu24 := Try.underlying24
 have hu28 := Try.underlying28
 have HR0_0 := Aside0.mk hr0_0
 have HC0_0 := Aside0.mk hc0_0
 clear hr0_0 hc0_0
 have HR2_0 := Aside0.mk hr2_0
 have HC2_0 := Aside0.mk hc2_0
 clear hr2_0 hc2_0
 have HB := Aside0.mk (Below.refl w.heap.size w)
 have H : ((laws_szPool.f l0_0 1048576).bind fun t292 => (if t292 < 0 then (some true) else ((laws_szPool.f l2_0 t292).bind fun t293 => (if t293 < 0 then (some true) else ((laws_toPool.f k l0_0).bind fun t294 => ((laws_toPool.f k l2_0).bind fun t297 => ((spec_TermMove.f k t294 a1 t297).bind fun bt300 => ((laws_toPool.f k l0_0).bind fun t305 => ((laws_toPool.f k l2_0).bind fun t309 => ((impl_TermMove.f k t305 a1 t309).bind fun bt313 => ((laws_eqPool.f k bt313.1 bt300.1).bind fun t318 => (if t318 = true then (laws_FnExactTermMove.j0 k a1 bt300.2 bt313.2 (bt313.2 != bt300.2) l0_0 l2_0 bt300.1 t305 t309 bt313.1) else (laws_FnExactTermMove.j0 k a1 bt300.2 bt313.2 true l0_0 l2_0 bt300.1 t305 t309 bt313.1))))))))))))) = some r := h
 clear h
 replace H := Option.bind_eq_some_iff.mp H
 obtain ⟨t292, A40, H⟩ := H
 replace H : (if t292 < 0 then (some true) else ((laws_szPool.f l2_0 t292).bind fun t293 => (if t293 < 0 then (some true) else ((laws_toPool.f k l0_0).bind fun t294 => ((laws_toPool.f k l2_0).bind fun t297 => ((spec_TermMove.f k t294 a1 t297).bind fun bt300 => ((laws_toPool.f k l0_0).bind fun t305 => ((laws_toPool.f k l2_0).bind fun t309 => ((impl_TermMove.f k t305 a1 t309).bind fun bt313 => ((laws_eqPool.f k bt313.1 bt300.1).bind fun t318 => (if t318 = true then (laws_FnExactTermMove.j0 k a1 bt300.2 bt313.2 (bt313.2 != bt300.2) l0_0 l2_0 bt300.1 t305 t309 bt313.1) else (laws_FnExactTermMove.j0 k a1 bt300.2 bt313.2 true l0_0 l2_0 bt300.1 t305 t309 bt313.1)))))))))))) = some r := H
 have A4 := Aside0.mk A40
 clear A40
 by_cases c5 : t292 < 0
 ·rw [if_pos c5] at H
  have c5b0 : decide (t292 < 0) = true := decide_eq_true c5
  clear c5
  obtain rfl := Option.some.inj H
  go_enter Try.func4, Try.ntmps4
  go_wp2_with (first | ((with_reducible refine gate_dst (N := 3) rfl ?_); refine box_event ?hg (N := 3) ?hd (cs := #[.slice A0_0 l0_0.length c0_0]) (t := 24) ?hr ?_; (case hd => rfl); (case hg => rfl); (case hr => first | (go_simp; done) | (go_simp; rfl)); intro gb290 hg w6 hbox hb; have n0_ := Aside0.mk (below_step (zb HB.out) hb); have n1_ := Aside0.mk (hbox); have n2_ := Aside0.mk ((by rw [hg]; exact (below_size (zb HB.out)) : w.heap.size ≤ gb290)); have n3_ := Aside0.mk ((by rw [hg]; exact (below_size (zb HB.out)) : w.heap.size ≤ gb290)); clear HB; have HB := n0_; have BK290 := n1_; have GW290 := n2_; have GE290 := n3_; clear n0_ n1_ n2_ n3_ hb hbox hg) | ((with_reducible refine gate_dst (N := 5) rfl ?_); refine box_event ?hg (N := 5) ?hd (cs := #[.slice A2_0 l2_0.length c2_0]) (t := 24) ?hr ?_; (case hd => rfl); (case hg => rfl); (case hr => first | (go_simp; done) | (go_simp; rfl)); intro gb291 hg w7 hbox hb; have n0_ := Aside0.mk (blk_below (zh BK290.out) hb); have n1_ := Aside0.mk (below_step (zb HB.out) hb); have n2_ := Aside0.mk (hbox); have n3_ := Aside0.mk ((by rw [hg]; exact (below_size (zb HB.out)) : w.heap.size ≤ gb291)); have n4_ := Aside0.mk ((by rw [hg]; exact (below_size (zb HB.out)) : w.heap.size ≤ gb291)); have n5_ := Aside0.mk ((by rw [hg]; exact Nat.ne_of_lt (blk_lt (zh BK290.out)) : gb290 ≠ gb291)); have n6_ := Aside0.mk ((by rw [hg]; exact Nat.ne_of_gt (blk_lt (zh BK290.out)) : gb291 ≠ gb290)); clear BK290 HB; have BK290 := n0_; have HB := n1_; have BK291 := n2_; have GW291 := n3_; have GE291 := n4_; have NB290_291 := n5_; have NB291_290 := n6_; clear n0_ n1_ n2_ n3_ n4_ n5_ n6_ hb hbox hg; have hnb8 := NB290_291.out; have hnc8 := NB291_290.out; have hcz9_0 : w7.cell? ⟨gb290, 0, none⟩ = some (.slice A0_0 l0_0.length c0_0) := (blk_cell BK290.out 0).trans rfl; have hfz9_0 := blk_frozen BK290.out 0) | ((with_reducible refine gate_callee (f := 7) rfl ?_); refine goesL_ (some 21) rfl rfl Try.func7 (by kernel_rfl) rfl #[.agg #[.slice A0_0 l0_0.length c0_0], .int .i64 1048576] rfl zl ?_; (with_reducible refine (laws_szPool.calls _ _ l0_0 1048576 t292 _ ?side1 ?side2 A4.out).mono ?_); (case side1 => exact zc (Kd.C_below HR0_0.out HB.out)); (case side2 => exact HC0_0.out); rintro e w10 ⟨rfl, hb⟩; refine ⟨_, rfl, ?_⟩; have n0_ := Aside0.mk (blk_below (zh BK290.out) hb); have n1_ := Aside0.mk (blk_below (zh BK291.out) hb); have n2_ := Aside0.mk (below_step (zb HB.out) hb); clear BK290 BK291 HB; have BK290 := n0_; have BK291 := n1_; have HB := n2_; clear n0_ n1_ n2_; (try clear hb); (try clear hb2); (try clear hk); (try clear hi)))
  go_ret
  exact ⟨ze, zb HB.out⟩
 rw [if_neg c5] at H
 have c5b0 : decide (t292 < 0) = false := decide_eq_false c5
 clear c5
 replace H := Option.bind_eq_some_iff.mp H
 obtain ⟨t293, A110, H⟩ := H
 replace H : (if t293 < 0 then (some true) else ((laws_toPool.f k l0_0).bind fun t294 => ((laws_toPool.f k l2_0).bind fun t297 => ((spec_TermMove.f k t294 a1 t297).bind fun bt300 => ((laws_toPool.f k l0_0).bind fun t305 => ((laws_toPool.f k l2_0).bind fun t309 => ((impl_TermMove.f k t305 a1 t309).bind fun bt313 => ((laws_eqPool.f k bt313.1 bt300.1).bind fun t318 => (if t318 = true then (laws_FnExactTermMove.j0 k a1 bt300.2 bt313.2 (bt313.2 != bt300.2) l0_0 l2_0 bt300.1 t305 t309 bt313.1) else (laws_FnExactTermMove.j0 k a1 bt300.2 bt313.2 true l0_0 l2_0 bt300.1 t305 t309 bt313.1)))))))))) = some r := H
 have A11 := Aside0.mk A110
 clear A110
 by_cases c12 : t293 < 0
 ·rw [if_pos c12] at H
  have c12b0 : decide (t293 < 0) = true := decide_eq_true c12
  clear c12
  obtain rfl := Option.some.inj H
  go_enter Try.func4, Try.ntmps4
  go_wp2_with (first | ((with_reducible refine gate_dst (N := 3) rfl ?_); refine box_event ?hg (N := 3) ?hd (cs := #[.slice A0_0 l0_0.length c0_0]) (t := 24) ?hr ?_; (case hd => rfl); (case hg => rfl); (case hr => first | (go_simp; done) | (go_simp; rfl)); intro gb290 hg w13 hbox hb; have n0_ := Aside0.mk (below_step (zb HB.out) hb); have n1_ := Aside0.mk (hbox); have n2_ := Aside0.mk ((by rw [hg]; exact (below_size (zb HB.out)) : w.heap.size ≤ gb290)); have n3_ := Aside0.mk ((by rw [hg]; exact (below_size (zb HB.out)) : w.heap.size ≤ gb290)); clear HB; have HB := n0_; have BK290 := n1_; have GW290 := n2_; have GE290 := n3_; clear n0_ n1_ n2_ n3_ hb hbox hg) | ((with_reducible refine gate_dst (N := 5) rfl ?_); refine box_event ?hg (N := 5) ?hd (cs := #[.slice A2_0 l2_0.length c2_0]) (t := 24) ?hr ?_; (case hd => rfl); (case hg => rfl); (case hr => first | (go_simp; done) | (go_simp; rfl)); intro gb291 hg w14 hbox hb; have n0_ := Aside0.mk (blk_below (zh BK290.out) hb); have n1_ := Aside0.mk (below_step (zb HB.out) hb); have n2_ := Aside0.mk (hbox); have n3_ := Aside0.mk ((by rw [hg]; exact (below_size (zb HB.out)) : w.heap.size ≤ gb291)); have n4_ := Aside0.mk ((by rw [hg]; exact (below_size (zb HB.out)) : w.heap.size ≤ gb291)); have n5_ := Aside0.mk ((by rw [hg]; exact Nat.ne_of_lt (blk_lt (zh BK290.out)) : gb290 ≠ gb291)); have n6_ := Aside0.mk ((by rw [hg]; exact Nat.ne_of_gt (blk_lt (zh BK290.out)) : gb291 ≠ gb290)); clear BK290 HB; have BK290 := n0_; have HB := n1_; have BK291 := n2_; have GW291 := n3_; have GE291 := n4_; have NB290_291 := n5_; have NB291_290 := n6_; clear n0_ n1_ n2_ n3_ n4_ n5_ n6_ hb hbox hg; have hnb15 := NB290_291.out; have hnc15 := NB291_290.out; have hcz16_0 : w14.cell? ⟨gb290, 0, none⟩ = some (.slice A0_0 l0_0.length c0_0) := (blk_cell BK290.out 0).trans rfl; have hfz16_0 := blk_frozen BK290.out 0) | ((with_reducible refine gate_callee (f := 7) rfl ?_); refine goesL_ (some 21) rfl rfl Try.func7 (by kernel_rfl) rfl #[.agg #[.slice A0_0 l0_0.length c0_0], .int .i64 1048576] rfl zl ?_; (with_reducible refine (laws_szPool.calls _ _ l0_0 1048576 t292 _ ?side1 ?side2 A4.out).mono ?_); (case side1 => exact zc (Kd.C_below HR0_0.out HB.out)); (case side2 => exact HC0_0.out); rintro e w17 ⟨rfl, hb⟩; refine ⟨_, rfl, ?_⟩; have n0_ := Aside0.mk (blk_below (zh BK290.out) hb); have n1_ := Aside0.mk (blk_below (zh BK291.out) hb); have n2_ := Aside0.mk (below_step (zb HB.out) hb); clear BK290 BK291 HB; have BK290 := n0_; have BK291 := n1_; have HB := n2_; clear n0_ n1_ n2_; (try clear hb); (try clear hb2); (try clear hk); (try clear hi); have hcz18_0 : w17.cell? ⟨gb291, 0, none⟩ = some (.slice A2_0 l2_0.length c2_0) := (blk_cell BK291.out 0).trans rfl; have hfz18_0 := blk_frozen BK291.out 0) | ((with_reducible refine gate_callee (f := 7) rfl ?_); refine goesL_ (some 26) rfl rfl Try.func7 (by kernel_rfl) rfl #[.agg #[.slice A2_0 l2_0.length c2_0], .int .i64 t292] rfl zl ?_; (with_reducible refine (laws_szPool.calls _ _ l2_0 t292 t293 _ ?side1 ?side2 A11.out).mono ?_); (case side1 => exact zc (Kd.C_below HR2_0.out HB.out)); (case side2 => exact HC2_0.out); rintro e w19 ⟨rfl, hb⟩; refine ⟨_, rfl, ?_⟩; have n0_ := Aside0.mk (blk_below (zh BK290.out) hb); have n1_ := Aside0.mk (blk_below (zh BK291.out) hb); have n2_ := Aside0.mk (below_step (zb HB.out) hb); clear BK290 BK291 HB; have BK290 := n0_; have BK291 := n1_; have HB := n2_; clear n0_ n1_ n2_; (try clear hb); (try clear hb2); (try clear hk); (try clear hi)))
  go_ret
  exact ⟨ze, zb HB.out⟩
 rw [if_neg c12] at H
 have c12b0 : decide (t293 < 0) = false := decide_eq_false c12
 clear c12
 replace H := Option.bind_eq_some_iff.mp H
 obtain ⟨t294, A200, H⟩ := H
 replace H : ((laws_toPool.f k l2_0).bind fun t297 => ((spec_TermMove.f k t294 a1 t297).bind fun bt300 => ((laws_toPool.f k l0_0).bind fun t305 => ((laws_toPool.f k l2_0).bind fun t309 => ((impl_TermMove.f k t305 a1 t309).bind fun bt313 => ((laws_eqPool.f k bt313.1 bt300.1).bind fun t318 => (if t318 = true then (laws_FnExactTermMove.j0 k a1 bt300.2 bt313.2 (bt313.2 != bt300.2) l0_0 l2_0 bt300.1 t305 t309 bt313.1) else (laws_FnExactTermMove.j0 k a1 bt300.2 bt313.2 true l0_0 l2_0 bt300.1 t305 t309 bt313.1)))))))) = some r := H
 have A20 := Aside0.mk A200
 clear A200
 replace H := Option.bind_eq_some_iff.mp H
 obtain ⟨t297, A210, H⟩ := H
 replace H : ((spec_TermMove.f k t294 a1 t297).bind fun bt300 => ((laws_toPool.f k l0_0).bind fun t305 => ((laws_toPool.f k l2_0).bind fun t309 => ((impl_TermMove.f k t305 a1 t309).bind fun bt313 => ((laws_eqPool.f k bt313.1 bt300.1).bind fun t318 => (if t318 = true then (laws_FnExactTermMove.j0 k a1 bt300.2 bt313.2 (bt313.2 != bt300.2) l0_0 l2_0 bt300.1 t305 t309 bt313.1) else (laws_FnExactTermMove.j0 k a1 bt300.2 bt313.2 true l0_0 l2_0 bt300.1 t305 t309 bt313.1))))))) = some r := H
 have A21 := Aside0.mk A210
 clear A210
 replace H := Option.bind_eq_some_iff.mp H
 obtain ⟨⟨t300, t303⟩, A220, H⟩ := H
 replace H : ((laws_toPool.f k l0_0).bind fun t305 => ((laws_toPool.f k l2_0).bind fun t309 => ((impl_TermMove.f k t305 a1 t309).bind fun bt313 => ((laws_eqPool.f k bt313.1 t300).bind fun t318 => (if t318 = true then (laws_FnExactTermMove.j0 k a1 t303 bt313.2 (bt313.2 != t303) l0_0 l2_0 t300 t305 t309 bt313.1) else (laws_FnExactTermMove.j0 k a1 t303 bt313.2 true l0_0 l2_0 t300 t305 t309 bt313.1)))))) = some r := H
 have A22 := Aside0.mk A220
 clear A220
 replace H := Option.bind_eq_some_iff.mp H
 obtain ⟨t305, A230, H⟩ := H
 replace H : ((laws_toPool.f k l2_0).bind fun t309 => ((impl_TermMove.f k t305 a1 t309).bind fun bt313 => ((laws_eqPool.f k bt313.1 t300).bind fun t318 => (if t318 = true then (laws_FnExactTermMove.j0 k a1 t303 bt313.2 (bt313.2 != t303) l0_0 l2_0 t300 t305 t309 bt313.1) else (laws_FnExactTermMove.j0 k a1 t303 bt313.2 true l0_0 l2_0 t300 t305 t309 bt313.1))))) = some r := H
 have A23 := Aside0.mk A230
 clear A230
 replace H := Option.bind_eq_some_iff.mp H
 obtain ⟨t309, A240, H⟩ := H
 replace H : ((impl_TermMove.f k t305 a1 t309).bind fun bt313 => ((laws_eqPool.f k bt313.1 t300).bind fun t318 => (if t318 = true then (laws_FnExactTermMove.j0 k a1 t303 bt313.2 (bt313.2 != t303) l0_0 l2_0 t300 t305 t309 bt313.1) else (laws_FnExactTermMove.j0 k a1 t303 bt313.2 true l0_0 l2_0 t300 t305 t309 bt313.1)))) = some r := H
 have A24 := Aside0.mk A240
 clear A240
 replace H := Option.bind_eq_some_iff.mp H
 obtain ⟨⟨t313, t316⟩, A250, H⟩ := H
 replace H : ((laws_eqPool.f k t313 t300).bind fun t318 => (if t318 = true then (laws_FnExactTermMove.j0 k a1 t303 t316 (t316 != t303) l0_0 l2_0 t300 t305 t309 t313) else (laws_FnExactTermMove.j0 k a1 t303 t316 true l0_0 l2_0 t300 t305 t309 t313))) = some r := H
 have A25 := Aside0.mk A250
 clear A250
 have HC26 := Aside0.mk H
 clear H
 go_enter Try.func4, Try.ntmps4
 try go_wp2_with (first | ((with_reducible refine gate_dst (N := 3) rfl ?_); refine box_event ?hg (N := 3) ?hd (cs := #[.slice A0_0 l0_0.length c0_0]) (t := 24) ?hr ?_; (case hd => rfl); (case hg => rfl); (case hr => first | (go_simp; done) | (go_simp; rfl)); intro gb290 hg w27 hbox hb; have n0_ := Aside0.mk (below_step (zb HB.out) hb); have n1_ := Aside0.mk (hbox); have n2_ := Aside0.mk ((by rw [hg]; exact (below_size (zb HB.out)) : w.heap.size ≤ gb290)); have n3_ := Aside0.mk ((by rw [hg]; exact (below_size (zb HB.out)) : w.heap.size ≤ gb290)); clear HB; have HB := n0_; have BK290 := n1_; have GW290 := n2_; have GE290 := n3_; clear n0_ n1_ n2_ n3_ hb hbox hg) | ((with_reducible refine gate_dst (N := 5) rfl ?_); refine box_event ?hg (N := 5) ?hd (cs := #[.slice A2_0 l2_0.length c2_0]) (t := 24) ?hr ?_; (case hd => rfl); (case hg => rfl); (case hr => first | (go_simp; done) | (go_simp; rfl)); intro gb291 hg w28 hbox hb; have n0_ := Aside0.mk (blk_below (zh BK290.out) hb); have n1_ := Aside0.mk (below_step (zb HB.out) hb); have n2_ := Aside0.mk (hbox); have n3_ := Aside0.mk ((by rw [hg]; exact (below_size (zb HB.out)) : w.heap.size ≤ gb291)); have n4_ := Aside0.mk ((by rw [hg]; exact (below_size (zb HB.out)) : w.heap.size ≤ gb291)); have n5_ := Aside0.mk ((by rw [hg]; exact Nat.ne_of_lt (blk_lt (zh BK290.out)) : gb290 ≠ gb291)); have n6_ := Aside0.mk ((by rw [hg]; exact Nat.ne_of_gt (blk_lt (zh BK290.out)) : gb291 ≠ gb290)); clear BK290 HB; have BK290 := n0_; have HB := n1_; have BK291 := n2_; have GW291 := n3_; have GE291 := n4_; have NB290_291 := n5_; have NB291_290 := n6_; clear n0_ n1_ n2_ n3_ n4_ n5_ n6_ hb hbox hg; have hnb29 := NB290_291.out; have hnc29 := NB291_290.out; have hcz30_0 : w28.cell? ⟨gb290, 0, none⟩ = some (.slice A0_0 l0_0.length c0_0) := (blk_cell BK290.out 0).trans rfl; have hfz30_0 := blk_frozen BK290.out 0) | ((with_reducible refine gate_callee (f := 7) rfl ?_); refine goesL_ (some 21) rfl rfl Try.func7 (by kernel_rfl) rfl #[.agg #[.slice A0_0 l0_0.length c0_0], .int .i64 1048576] rfl zl ?_; (with_reducible refine (laws_szPool.calls _ _ l0_0 1048576 t292 _ ?side1 ?side2 A4.out).mono ?_); (case side1 => exact zc (Kd.C_below HR0_0.out HB.out)); (case side2 => exact HC0_0.out); rintro e w31 ⟨rfl, hb⟩; refine ⟨_, rfl, ?_⟩; have n0_ := Aside0.mk (blk_below (zh BK290.out) hb); have n1_ := Aside0.mk (blk_below (zh BK291.out) hb); have n2_ := Aside0.mk (below_step (zb HB.out) hb); clear BK290 BK291 HB; have BK290 := n0_; have BK291 := n1_; have HB := n2_; clear n0_ n1_ n2_; (try clear hb); (try clear hb2); (try clear hk); (try clear hi); have hcz32_0 : w31.cell? ⟨gb291, 0, none⟩ = some (.slice A2_0 l2_0.length c2_0) := (blk_cell BK291.out 0).trans rfl; have hfz32_0 := blk_frozen BK291.out 0) | ((with_reducible refine gate_callee (f := 7) rfl ?_); refine goesL_ (some 26) rfl rfl Try.func7 (by kernel_rfl) rfl #[.agg #[.slice A2_0 l2_0.length c2_0], .int .i64 t292] rfl zl ?_; (with_reducible refine (laws_szPool.calls _ _ l2_0 t292 t293 _ ?side1 ?side2 A11.out).mono ?_); (case side1 => exact zc (Kd.C_below HR2_0.out HB.out)); (case side2 => exact HC2_0.out); rintro e w33 ⟨rfl, hb⟩; refine ⟨_, rfl, ?_⟩; have n0_ := Aside0.mk (blk_below (zh BK290.out) hb); have n1_ := Aside0.mk (blk_below (zh BK291.out) hb); have n2_ := Aside0.mk (below_step (zb HB.out) hb); clear BK290 BK291 HB; have BK290 := n0_; have BK291 := n1_; have HB := n2_; clear n0_ n1_ n2_; (try clear hb); (try clear hb2); (try clear hk); (try clear hi)))
 have n0_ := Aside0.mk (blk_drew BK290.out)
 have n1_ := Aside0.mk (blk_drew BK291.out)
 have n2_ := Aside0.mk (below_drew1 HB.out)
 clear BK290 BK291 HB
 have BK290 := n0_
 have BK291 := n1_
 have HB := n2_
 clear n0_ n1_ n2_
 refine start_ (n := 12) (S := fun w' => w'.cell? ⟨gb290, 0, none⟩ = some (.slice A0_0 l0_0.length c0_0) ∧ w'.cell? ⟨gb291, 0, none⟩ = some (.slice A2_0 l2_0.length c2_0)) (ds := []) #[false, false, false, false, false, false, false, false, false, false, false, false] (by kernel_rfl) rfl rfl ⟨(blk_cell BK290.out 0).trans rfl, (blk_cell BK291.out 0).trans rfl⟩ (fun hHeld => ?_); refine with_tabW laws_FnExactTermMove.tab8 laws_FnExactTermMove.bits8 (fun HT_ HW_ => ?_)
 generalize w33.drew = w34 at BK290 BK291 HB hHeld ⊢
 refine pure_ (i := 2) (N := some 32) (v := ?_) (a' := ?_) #[false, false, true, false, false, false, false, false, false, false, false, false] rfl rfl (any_of HT_.out (by kernel_rfl)) (fun _ _ _ h => h) (Or.inl ⟨by rfl, ?_⟩) ?_ ?_
 rotate_left
 ·intro w'
  go_simp
  with_reducible rfl
 rotate_left
 ·exact zn
 refine take_ (i := 0) (N := some 30) (v := ?_) (a' := ?_) #[true, false, true, false, false, false, false, false, false, false, false, false] rfl rfl (take_ofW HT_.out HW_.out (by kernel_rfl)) (fun _ _ _ h => h) (Or.inl ⟨by rfl, ?_⟩) hHeld ?_ ?_
 rotate_left
 ·rintro w' ⟨s0, s1⟩
  go_simp
  with_reducible rfl
 rotate_left
 ·exact zn
 refine take_ (i := 3) (N := some 33) (v := ?_) (a' := ?_) #[true, false, true, true, false, false, false, false, false, false, false, false] rfl rfl (take_ofW HT_.out HW_.out (by kernel_rfl)) (fun _ _ _ h => h) (Or.inl ⟨by rfl, ?_⟩) hHeld ?_ ?_
 rotate_left
 ·rintro w' ⟨s0, s1⟩
  go_simp
  with_reducible rfl
 rotate_left
 ·exact zn
 refine join_ (σ := Value × Value × Value × Nat) 2 #[true, true, true, true, true, true, true, true, true, true, false, false] (fun s_ => [(31, .agg #[s_.1]), (34, .agg #[s_.2.1]), (35, .tuple #[.agg #[s_.2.2.1], .int .i64 t303]), (8, .pointer (some ⟨s_.2.2.2, 0, none⟩)), (29, .tuple #[.agg #[s_.2.2.1], .int .i64 t303]), (36, .agg #[s_.2.2.1]), (37, .int .i64 t303)]) (fun s_ w' => (w'.cell? ⟨gb290, 0, none⟩ = some (.slice A0_0 l0_0.length c0_0) ∧ w'.cell? ⟨gb291, 0, none⟩ = some (.slice A2_0 l2_0.length c2_0)) ∧ (Kd.R k55 55 w' w.heap.size (fun k_ => some k_ ≠ (s_.2.1 : Value).ownBlock ∧ some k_ ≠ (s_.2.2.1 : Value).ownBlock) s_.1 t294) ∧ (Kd.R k55 55 w' w.heap.size (fun k_ => some k_ ≠ (s_.1 : Value).ownBlock ∧ some k_ ≠ (s_.2.2.1 : Value).ownBlock) s_.2.1 t297) ∧ (Kd.R k55 55 w' w.heap.size (fun k_ => some k_ ≠ (s_.1 : Value).ownBlock ∧ some k_ ≠ (s_.2.1 : Value).ownBlock) s_.2.2.1 t300) ∧ (w'.heap[gb290]? = some (.cells #[.slice A0_0 l0_0.length c0_0] 24 (0, 0))) ∧ (w'.heap[gb291]? = some (.cells #[.slice A2_0 l2_0.length c2_0] 24 (0, 0))) ∧ (w'.heap[s_.2.2.2]? = some (.cells #[.slice none 0 0] 28 (0, 0))) ∧ (w.heap.size ≤ s_.2.2.2) ∧ (w.heap.size ≤ s_.2.2.2) ∧ (gb290 ≠ s_.2.2.2) ∧ (s_.2.2.2 ≠ gb290) ∧ (gb291 ≠ s_.2.2.2) ∧ (s_.2.2.2 ≠ gb291) ∧ (Below w.heap.size w w')) ?_ ?_
 rotate_left
 ·intro hCont
  refine two_ (i := 1) (j := 9) (Ni := some 31) (Nj := some 8) #[true, true, true, true, false, false, false, false, false, false, false, false] #[true, false, true, true, false, false, false, false, false, true, false, false] rfl rfl rfl rfl (two_of HT_.out (by kernel_rfl)) (by decide) (by decide) (fun K hK => ?_) (fun K hK => ?_)
  ·skip
   refine goes_ Try.func9 (by kernel_rfl) rfl #[.agg #[.slice A0_0 l0_0.length c0_0]] (by rfl) rfl rfl zl ?_
   with_reducible refine (laws_toPool.calls k _ _ l0_0 t294 _ ?side1 ?side2 A20.out).mono ?_
   (case side1 => exact zc (Kd.C_below HR0_0.out HB.out))
   (case side2 => exact HC0_0.out)
   rintro e w35 ⟨v295, rfl, ho0, hb⟩
   refine ⟨_, rfl, ?_⟩
   have n0_ := Aside0.mk (Kd.R_lower ho0 (below_size (zb HB.out)))
   have n1_ := Aside0.mk (blk_below (zh BK290.out) hb)
   have n2_ := Aside0.mk (blk_below (zh BK291.out) hb)
   have n3_ := Aside0.mk (below_step (zb HB.out) hb)
   clear BK290 BK291 HB
   have HO296 := n0_
   have BK290 := n1_
   have BK291 := n2_
   have HB := n3_
   clear n0_ n1_ n2_ n3_
   (try clear hb)
   (try clear hb2)
   (try clear hk)
   (try clear hi)
   (try clear ho0)
   refine hK.out _ _ ⟨(blk_cell BK290.out 0).trans rfl, (blk_cell BK291.out 0).trans rfl⟩ (fun hHeld => ?_)
   clear hK K
   refine norm_ (a' := ?_) ?_ ?_
   rotate_left
   ·exact zn (N := some 31)
   refine two_ (i := 4) (j := 9) (Ni := some 34) (Nj := some 8) #[true, true, true, true, true, false, false, false, false, false, false, false] #[true, true, true, true, false, false, false, false, false, true, false, false] rfl rfl rfl rfl (two_of HT_.out (by kernel_rfl)) (by decide) (by decide) (fun K hK => ?_) (fun K hK => ?_)
   ·skip
    refine goes_ Try.func9 (by kernel_rfl) rfl #[.agg #[.slice A2_0 l2_0.length c2_0]] (by rfl) rfl rfl zl ?_
    with_reducible refine (laws_toPool.calls k _ _ l2_0 t297 _ ?side1 ?side2 A21.out).mono ?_
    (case side1 => exact zc (Kd.C_below HR2_0.out HB.out))
    (case side2 => exact HC2_0.out)
    rintro e w36 ⟨v298, rfl, ho0, hb⟩
    refine ⟨_, rfl, ?_⟩
    have n0_ := Aside0.mk (Kd.R_elder' (zr HO296.out) (Kd.R_base ho0) hb)
    have n1_ := Aside0.mk (Kd.R_lower (Kd.R_new' ho0 (Kd.R_lt (zr HO296.out))) (below_size (zb HB.out)))
    have n2_ := Aside0.mk (blk_below (zh BK290.out) hb)
    have n3_ := Aside0.mk (blk_below (zh BK291.out) hb)
    have n4_ := Aside0.mk (below_step (zb HB.out) hb)
    clear HO296 BK290 BK291 HB
    have HO296 := n0_
    have HO299 := n1_
    have BK290 := n2_
    have BK291 := n3_
    have HB := n4_
    clear n0_ n1_ n2_ n3_ n4_
    (try clear hb)
    (try clear hb2)
    (try clear hk)
    (try clear hi)
    (try clear ho0)
    obtain ⟨Ao37, co37, eo37⟩ := Kd.R_slice HO296.out
    (first | subst eo37 | (injection eo37 with f1_ f2_ f3_; have f4_ := f1_.symm; have f5_ := f3_.symm; clear f1_ f2_ f3_; subst f4_; subst f5_))
    obtain ⟨Ao38, co38, eo38⟩ := Kd.R_slice HO299.out
    (first | subst eo38 | (injection eo38 with f1_ f2_ f3_; have f4_ := f1_.symm; have f5_ := f3_.symm; clear f1_ f2_ f3_; subst f4_; subst f5_))
    refine hK.out _ _ ⟨(blk_cell BK290.out 0).trans rfl, (blk_cell BK291.out 0).trans rfl⟩ (fun hHeld => ?_)
    clear hK K
    refine norm_ (a' := ?_) ?_ ?_
    rotate_left
    ·exact zn (N := some 34)
    refine two_ (i := 5) (j := 9) (Ni := some 35) (Nj := some 8) #[true, true, true, true, true, true, false, false, false, false, false, false] #[true, true, true, true, true, false, false, false, false, true, false, false] rfl rfl rfl rfl (two_of HT_.out (by kernel_rfl)) (by decide) (by decide) (fun K hK => ?_) (fun K hK => ?_)
    ·skip
     refine goes_ Try.func14 (by kernel_rfl) rfl #[.agg #[.slice Ao37 t294.length co37], .int .i64 a1, .agg #[.slice Ao38 t297.length co38]] (by rfl) rfl rfl zl ?_
     with_reducible refine (spec_TermMove.calls k _ _ t294 a1 _ _ t297 t300 t303 _ ?side1 ?side2 ?side3 ?side4 A22.out).mono ?_
     (case side1 => exact zc (Kd.R_reads' HO296.out).2.2)
     (case side2 => exact (Kd.R_reads' HO296.out).2.1)
     (case side3 => exact zc (Kd.R_reads' HO299.out).2.2)
     (case side4 => exact (Kd.R_reads' HO299.out).2.1)
     rintro e w39 ⟨v301, rfl, ho0, hb⟩
     refine ⟨_, rfl, ?_⟩
     have n0_ := Aside0.mk (Kd.R_elder' (zr HO296.out) (Kd.R_base ho0) hb)
     have n1_ := Aside0.mk (Kd.R_elder' (zr HO299.out) (Kd.R_base ho0) hb)
     have n2_ := Aside0.mk (Kd.R_lower (Kd.R_new' (Kd.R_new' ho0 (Kd.R_lt (zr HO296.out))) (Kd.R_lt (zr HO299.out))) (below_size (zb HB.out)))
     have n3_ := Aside0.mk (blk_below (zh BK290.out) hb)
     have n4_ := Aside0.mk (blk_below (zh BK291.out) hb)
     have n5_ := Aside0.mk (below_step (zb HB.out) hb)
     clear HO296 HO299 BK290 BK291 HB
     have HO296 := n0_
     have HO299 := n1_
     have HO302 := n2_
     have BK290 := n3_
     have BK291 := n4_
     have HB := n5_
     clear n0_ n1_ n2_ n3_ n4_ n5_
     (try clear hb)
     (try clear hb2)
     (try clear hk)
     (try clear hi)
     (try clear ho0)
     refine hK.out _ _ ⟨(blk_cell BK290.out 0).trans rfl, (blk_cell BK291.out 0).trans rfl⟩ (fun hHeld => ?_)
     clear hK K
     refine norm_ (a' := ?_) ?_ ?_
     rotate_left
     ·exact zn (N := some 35)
     refine pure_ (i := 6) (N := some 29) (v := ?_) (a' := ?_) #[true, true, true, true, true, true, true, false, false, false, false, false] rfl rfl (any_of HT_.out (by kernel_rfl)) (fun _ _ _ h => h) (Or.inl ⟨by rfl, ?_⟩) ?_ ?_
     rotate_left
     ·intro w'
      go_simp
      with_reducible rfl
     rotate_left
     ·exact zn
     refine pure_ (i := 7) (N := some 36) (v := ?_) (a' := ?_) #[true, true, true, true, true, true, true, true, false, false, false, false] rfl rfl (any_of HT_.out (by kernel_rfl)) (fun _ _ _ h => h) (Or.inl ⟨by rfl, ?_⟩) ?_ ?_
     rotate_left
     ·intro w'
      go_simp
      with_reducible rfl
     rotate_left
     ·exact zn
     refine pure_ (i := 8) (N := some 37) (v := ?_) (a' := ?_) #[true, true, true, true, true, true, true, true, true, false, false, false] rfl rfl (any_of HT_.out (by kernel_rfl)) (fun _ _ _ h => h) (Or.inl ⟨by rfl, ?_⟩) ?_ ?_
     rotate_left
     ·intro w'
      go_simp
      with_reducible rfl
     rotate_left
     ·exact zn
     refine one_ (i := 9) (N := some 8) #[true, true, true, true, true, true, true, true, true, true, false, false] rfl rfl (one_of HT_.out (by kernel_rfl)) (by decide) (fun K hK => ?_)
     refine box_step ?hg (N := 8) ?hd (cs := #[.slice none 0 0]) (t := 28) ?hr ?_; (case hd => rfl); (case hg => rfl); (case hr => first | (go_simp; done) | (go_simp; rfl))
     intro gb304 hg w40 hbox hb
     have n0_ := Aside0.mk (Kd.R_below (zr HO296.out) hb)
     have n1_ := Aside0.mk (Kd.R_below (zr HO299.out) hb)
     have n2_ := Aside0.mk (Kd.R_below (zr HO302.out) hb)
     have n3_ := Aside0.mk (blk_below (zh BK290.out) hb)
     have n4_ := Aside0.mk (blk_below (zh BK291.out) hb)
     have n5_ := Aside0.mk (below_step (zb HB.out) hb)
     have n6_ := Aside0.mk (hbox)
     have n7_ := Aside0.mk ((by rw [hg]; exact (below_size (zb HB.out)) : w.heap.size ≤ gb304))
     have n8_ := Aside0.mk ((by rw [hg]; exact (below_size (zb HB.out)) : w.heap.size ≤ gb304))
     have n9_ := Aside0.mk ((by rw [hg]; exact Nat.ne_of_lt (blk_lt (zh BK290.out)) : gb290 ≠ gb304))
     have n10_ := Aside0.mk ((by rw [hg]; exact Nat.ne_of_gt (blk_lt (zh BK290.out)) : gb304 ≠ gb290))
     have n11_ := Aside0.mk ((by rw [hg]; exact Nat.ne_of_lt (blk_lt (zh BK291.out)) : gb291 ≠ gb304))
     have n12_ := Aside0.mk ((by rw [hg]; exact Nat.ne_of_gt (blk_lt (zh BK291.out)) : gb304 ≠ gb291))
     clear HO296 HO299 HO302 BK290 BK291 HB
     have HO296 := n0_
     have HO299 := n1_
     have HO302 := n2_
     have BK290 := n3_
     have BK291 := n4_
     have HB := n5_
     have BK304 := n6_
     have GW304 := n7_
     have GE304 := n8_
     have NB290_304 := n9_
     have NB304_290 := n10_
     have NB291_304 := n11_
     have NB304_291 := n12_
     clear n0_ n1_ n2_ n3_ n4_ n5_ n6_ n7_ n8_ n9_ n10_ n11_ n12_ hb hbox hg
     refine hK.out _ _ ⟨(blk_cell BK290.out 0).trans rfl, (blk_cell BK291.out 0).trans rfl⟩ (fun hHeld => ?_)
     clear hK K
     refine norm_ (a' := ?_) ?_ ?_
     rotate_left
     ·exact zn (N := some 8)
     exact norm_ (by simp only [putAll, Act.put, List.setIfInBounds_toArray, List.set_cons_zero, List.set_cons_succ]) (hCont (.slice Ao37 t294.length co37, .slice Ao38 t297.length co38, v301, gb304) _ ⟨hHeld, (by (with_reducible repeat (first | apply Kd.R_alloc | apply Kd.R_drewN | apply Kd.R_drew)); exact Kd.R_mono HO296.out (fun _ hk => ⟨hk.1.2, hk.2⟩)), (by (with_reducible repeat (first | apply Kd.R_alloc | apply Kd.R_drewN | apply Kd.R_drew)); exact Kd.R_mono HO299.out (fun _ hk => ⟨hk.1.2, hk.2⟩)), (by (with_reducible repeat (first | apply Kd.R_alloc | apply Kd.R_drewN | apply Kd.R_drew)); exact Kd.R_mono HO302.out (fun _ hk => ⟨hk.1.2, hk.2⟩)), (zh BK290.out), (zh BK291.out), (zh BK304.out), GW304.out, GE304.out, NB290_304.out, NB304_290.out, NB291_304.out, NB304_291.out, (zb HB.out)⟩)
    ·skip
     refine box_step ?hg (N := 8) ?hd (cs := #[.slice none 0 0]) (t := 28) ?hr ?_; (case hd => rfl); (case hg => rfl); (case hr => first | (go_simp; done) | (go_simp; rfl))
     intro gb304 hg w37 hbox hb
     have n0_ := Aside0.mk (Kd.R_below (zr HO296.out) hb)
     have n1_ := Aside0.mk (Kd.R_below (zr HO299.out) hb)
     have n2_ := Aside0.mk (blk_below (zh BK290.out) hb)
     have n3_ := Aside0.mk (blk_below (zh BK291.out) hb)
     have n4_ := Aside0.mk (below_step (zb HB.out) hb)
     have n5_ := Aside0.mk (hbox)
     have n6_ := Aside0.mk ((by rw [hg]; exact (below_size (zb HB.out)) : w.heap.size ≤ gb304))
     have n7_ := Aside0.mk ((by rw [hg]; exact (below_size (zb HB.out)) : w.heap.size ≤ gb304))
     have n8_ := Aside0.mk ((by rw [hg]; exact Nat.ne_of_lt (blk_lt (zh BK290.out)) : gb290 ≠ gb304))
     have n9_ := Aside0.mk ((by rw [hg]; exact Nat.ne_of_gt (blk_lt (zh BK290.out)) : gb304 ≠ gb290))
     have n10_ := Aside0.mk ((by rw [hg]; exact Nat.ne_of_lt (blk_lt (zh BK291.out)) : gb291 ≠ gb304))
     have n11_ := Aside0.mk ((by rw [hg]; exact Nat.ne_of_gt (blk_lt (zh BK291.out)) : gb304 ≠ gb291))
     clear HO296 HO299 BK290 BK291 HB
     have HO296 := n0_
     have HO299 := n1_
     have BK290 := n2_
     have BK291 := n3_
     have HB := n4_
     have BK304 := n5_
     have GW304 := n6_
     have GE304 := n7_
     have NB290_304 := n8_
     have NB304_290 := n9_
     have NB291_304 := n10_
     have NB304_291 := n11_
     clear n0_ n1_ n2_ n3_ n4_ n5_ n6_ n7_ n8_ n9_ n10_ n11_ hb hbox hg
     obtain ⟨Ao38, co38, eo38⟩ := Kd.R_slice HO296.out
     (first | subst eo38 | (injection eo38 with f1_ f2_ f3_; have f4_ := f1_.symm; have f5_ := f3_.symm; clear f1_ f2_ f3_; subst f4_; subst f5_))
     obtain ⟨Ao39, co39, eo39⟩ := Kd.R_slice HO299.out
     (first | subst eo39 | (injection eo39 with f1_ f2_ f3_; have f4_ := f1_.symm; have f5_ := f3_.symm; clear f1_ f2_ f3_; subst f4_; subst f5_))
     refine hK.out _ _ ⟨(blk_cell BK290.out 0).trans rfl, (blk_cell BK291.out 0).trans rfl⟩ (fun hHeld => ?_)
     clear hK K
     refine norm_ (a' := ?_) ?_ ?_
     rotate_left
     ·exact zn (N := some 8)
     refine one_ (i := 5) (N := some 35) #[true, true, true, true, true, true, false, false, false, true, false, false] rfl rfl (one_of HT_.out (by kernel_rfl)) (by decide) (fun K hK => ?_)
     refine goes_ Try.func14 (by kernel_rfl) rfl #[.agg #[.slice Ao38 t294.length co38], .int .i64 a1, .agg #[.slice Ao39 t297.length co39]] (by rfl) rfl rfl zl ?_
     with_reducible refine (spec_TermMove.calls k _ _ t294 a1 _ _ t297 t300 t303 _ ?side1 ?side2 ?side3 ?side4 A22.out).mono ?_
     (case side1 => exact zc (Kd.R_reads' HO296.out).2.2)
     (case side2 => exact (Kd.R_reads' HO296.out).2.1)
     (case side3 => exact zc (Kd.R_reads' HO299.out).2.2)
     (case side4 => exact (Kd.R_reads' HO299.out).2.1)
     rintro e w40 ⟨v301, rfl, ho0, hb⟩
     refine ⟨_, rfl, ?_⟩
     have n0_ := Aside0.mk (Kd.R_elder' (zr HO296.out) (Kd.R_base ho0) hb)
     have n1_ := Aside0.mk (Kd.R_elder' (zr HO299.out) (Kd.R_base ho0) hb)
     have n2_ := Aside0.mk (Kd.R_lower (Kd.R_new' (Kd.R_new' ho0 (Kd.R_lt (zr HO296.out))) (Kd.R_lt (zr HO299.out))) (below_size (zb HB.out)))
     have n3_ := Aside0.mk (blk_below (zh BK290.out) hb)
     have n4_ := Aside0.mk (blk_below (zh BK291.out) hb)
     have n5_ := Aside0.mk (blk_below (zh BK304.out) hb)
     have n6_ := Aside0.mk (below_step (zb HB.out) hb)
     clear HO296 HO299 BK290 BK291 BK304 HB
     have HO296 := n0_
     have HO299 := n1_
     have HO302 := n2_
     have BK290 := n3_
     have BK291 := n4_
     have BK304 := n5_
     have HB := n6_
     clear n0_ n1_ n2_ n3_ n4_ n5_ n6_
     (try clear hb)
     (try clear hb2)
     (try clear hk)
     (try clear hi)
     (try clear ho0)
     refine hK.out _ _ ⟨(blk_cell BK290.out 0).trans rfl, (blk_cell BK291.out 0).trans rfl⟩ (fun hHeld => ?_)
     clear hK K
     refine norm_ (a' := ?_) ?_ ?_
     rotate_left
     ·exact zn (N := some 35)
     refine pure_ (i := 6) (N := some 29) (v := ?_) (a' := ?_) #[true, true, true, true, true, true, true, false, false, true, false, false] rfl rfl (any_of HT_.out (by kernel_rfl)) (fun _ _ _ h => h) (Or.inl ⟨by rfl, ?_⟩) ?_ ?_
     rotate_left
     ·intro w'
      go_simp
      with_reducible rfl
     rotate_left
     ·exact zn
     refine pure_ (i := 7) (N := some 36) (v := ?_) (a' := ?_) #[true, true, true, true, true, true, true, true, false, true, false, false] rfl rfl (any_of HT_.out (by kernel_rfl)) (fun _ _ _ h => h) (Or.inl ⟨by rfl, ?_⟩) ?_ ?_
     rotate_left
     ·intro w'
      go_simp
      with_reducible rfl
     rotate_left
     ·exact zn
     refine pure_ (i := 8) (N := some 37) (v := ?_) (a' := ?_) #[true, true, true, true, true, true, true, true, true, true, false, false] rfl rfl (any_of HT_.out (by kernel_rfl)) (fun _ _ _ h => h) (Or.inl ⟨by rfl, ?_⟩) ?_ ?_
     rotate_left
     ·intro w'
      go_simp
      with_reducible rfl
     rotate_left
     ·exact zn
     exact norm_ (by simp only [putAll, Act.put, List.setIfInBounds_toArray, List.set_cons_zero, List.set_cons_succ]) (hCont (.slice Ao38 t294.length co38, .slice Ao39 t297.length co39, v301, gb304) _ ⟨hHeld, (by (with_reducible repeat (first | apply Kd.R_alloc | apply Kd.R_drewN | apply Kd.R_drew)); exact Kd.R_mono HO296.out (fun _ hk => ⟨hk.1.2, hk.2⟩)), (by (with_reducible repeat (first | apply Kd.R_alloc | apply Kd.R_drewN | apply Kd.R_drew)); exact Kd.R_mono HO299.out (fun _ hk => ⟨hk.1.2, hk.2⟩)), (by (with_reducible repeat (first | apply Kd.R_alloc | apply Kd.R_drewN | apply Kd.R_drew)); exact Kd.R_mono HO302.out (fun _ hk => ⟨hk.1.2, hk.2⟩)), (zh BK290.out), (zh BK291.out), (zh BK304.out), GW304.out, GE304.out, NB290_304.out, NB304_290.out, NB291_304.out, NB304_291.out, (zb HB.out)⟩)
   ·skip
    refine box_step ?hg (N := 8) ?hd (cs := #[.slice none 0 0]) (t := 28) ?hr ?_; (case hd => rfl); (case hg => rfl); (case hr => first | (go_simp; done) | (go_simp; rfl))
    intro gb304 hg w36 hbox hb
    have n0_ := Aside0.mk (Kd.R_below (zr HO296.out) hb)
    have n1_ := Aside0.mk (blk_below (zh BK290.out) hb)
    have n2_ := Aside0.mk (blk_below (zh BK291.out) hb)
    have n3_ := Aside0.mk (below_step (zb HB.out) hb)
    have n4_ := Aside0.mk (hbox)
    have n5_ := Aside0.mk ((by rw [hg]; exact (below_size (zb HB.out)) : w.heap.size ≤ gb304))
    have n6_ := Aside0.mk ((by rw [hg]; exact (below_size (zb HB.out)) : w.heap.size ≤ gb304))
    have n7_ := Aside0.mk ((by rw [hg]; exact Nat.ne_of_lt (blk_lt (zh BK290.out)) : gb290 ≠ gb304))
    have n8_ := Aside0.mk ((by rw [hg]; exact Nat.ne_of_gt (blk_lt (zh BK290.out)) : gb304 ≠ gb290))
    have n9_ := Aside0.mk ((by rw [hg]; exact Nat.ne_of_lt (blk_lt (zh BK291.out)) : gb291 ≠ gb304))
    have n10_ := Aside0.mk ((by rw [hg]; exact Nat.ne_of_gt (blk_lt (zh BK291.out)) : gb304 ≠ gb291))
    clear HO296 BK290 BK291 HB
    have HO296 := n0_
    have BK290 := n1_
    have BK291 := n2_
    have HB := n3_
    have BK304 := n4_
    have GW304 := n5_
    have GE304 := n6_
    have NB290_304 := n7_
    have NB304_290 := n8_
    have NB291_304 := n9_
    have NB304_291 := n10_
    clear n0_ n1_ n2_ n3_ n4_ n5_ n6_ n7_ n8_ n9_ n10_ hb hbox hg
    refine hK.out _ _ ⟨(blk_cell BK290.out 0).trans rfl, (blk_cell BK291.out 0).trans rfl⟩ (fun hHeld => ?_)
    clear hK K
    refine norm_ (a' := ?_) ?_ ?_
    rotate_left
    ·exact zn (N := some 8)
    refine one_ (i := 4) (N := some 34) #[true, true, true, true, true, false, false, false, false, true, false, false] rfl rfl (one_of HT_.out (by kernel_rfl)) (by decide) (fun K hK => ?_)
    refine goes_ Try.func9 (by kernel_rfl) rfl #[.agg #[.slice A2_0 l2_0.length c2_0]] (by rfl) rfl rfl zl ?_
    with_reducible refine (laws_toPool.calls k _ _ l2_0 t297 _ ?side1 ?side2 A21.out).mono ?_
    (case side1 => exact zc (Kd.C_below HR2_0.out HB.out))
    (case side2 => exact HC2_0.out)
    rintro e w37 ⟨v298, rfl, ho0, hb⟩
    refine ⟨_, rfl, ?_⟩
    have n0_ := Aside0.mk (Kd.R_elder' (zr HO296.out) (Kd.R_base ho0) hb)
    have n1_ := Aside0.mk (Kd.R_lower (Kd.R_new' ho0 (Kd.R_lt (zr HO296.out))) (below_size (zb HB.out)))
    have n2_ := Aside0.mk (blk_below (zh BK290.out) hb)
    have n3_ := Aside0.mk (blk_below (zh BK291.out) hb)
    have n4_ := Aside0.mk (blk_below (zh BK304.out) hb)
    have n5_ := Aside0.mk (below_step (zb HB.out) hb)
    clear HO296 BK290 BK291 BK304 HB
    have HO296 := n0_
    have HO299 := n1_
    have BK290 := n2_
    have BK291 := n3_
    have BK304 := n4_
    have HB := n5_
    clear n0_ n1_ n2_ n3_ n4_ n5_
    (try clear hb)
    (try clear hb2)
    (try clear hk)
    (try clear hi)
    (try clear ho0)
    obtain ⟨Ao38, co38, eo38⟩ := Kd.R_slice HO296.out
    (first | subst eo38 | (injection eo38 with f1_ f2_ f3_; have f4_ := f1_.symm; have f5_ := f3_.symm; clear f1_ f2_ f3_; subst f4_; subst f5_))
    obtain ⟨Ao39, co39, eo39⟩ := Kd.R_slice HO299.out
    (first | subst eo39 | (injection eo39 with f1_ f2_ f3_; have f4_ := f1_.symm; have f5_ := f3_.symm; clear f1_ f2_ f3_; subst f4_; subst f5_))
    refine hK.out _ _ ⟨(blk_cell BK290.out 0).trans rfl, (blk_cell BK291.out 0).trans rfl⟩ (fun hHeld => ?_)
    clear hK K
    refine norm_ (a' := ?_) ?_ ?_
    rotate_left
    ·exact zn (N := some 34)
    refine one_ (i := 5) (N := some 35) #[true, true, true, true, true, true, false, false, false, true, false, false] rfl rfl (one_of HT_.out (by kernel_rfl)) (by decide) (fun K hK => ?_)
    refine goes_ Try.func14 (by kernel_rfl) rfl #[.agg #[.slice Ao38 t294.length co38], .int .i64 a1, .agg #[.slice Ao39 t297.length co39]] (by rfl) rfl rfl zl ?_
    with_reducible refine (spec_TermMove.calls k _ _ t294 a1 _ _ t297 t300 t303 _ ?side1 ?side2 ?side3 ?side4 A22.out).mono ?_
    (case side1 => exact zc (Kd.R_reads' HO296.out).2.2)
    (case side2 => exact (Kd.R_reads' HO296.out).2.1)
    (case side3 => exact zc (Kd.R_reads' HO299.out).2.2)
    (case side4 => exact (Kd.R_reads' HO299.out).2.1)
    rintro e w40 ⟨v301, rfl, ho0, hb⟩
    refine ⟨_, rfl, ?_⟩
    have n0_ := Aside0.mk (Kd.R_elder' (zr HO296.out) (Kd.R_base ho0) hb)
    have n1_ := Aside0.mk (Kd.R_elder' (zr HO299.out) (Kd.R_base ho0) hb)
    have n2_ := Aside0.mk (Kd.R_lower (Kd.R_new' (Kd.R_new' ho0 (Kd.R_lt (zr HO296.out))) (Kd.R_lt (zr HO299.out))) (below_size (zb HB.out)))
    have n3_ := Aside0.mk (blk_below (zh BK290.out) hb)
    have n4_ := Aside0.mk (blk_below (zh BK291.out) hb)
    have n5_ := Aside0.mk (blk_below (zh BK304.out) hb)
    have n6_ := Aside0.mk (below_step (zb HB.out) hb)
    clear HO296 HO299 BK290 BK291 BK304 HB
    have HO296 := n0_
    have HO299 := n1_
    have HO302 := n2_
    have BK290 := n3_
    have BK291 := n4_
    have BK304 := n5_
    have HB := n6_
    clear n0_ n1_ n2_ n3_ n4_ n5_ n6_
    (try clear hb)
    (try clear hb2)
    (try clear hk)
    (try clear hi)
    (try clear ho0)
    refine hK.out _ _ ⟨(blk_cell BK290.out 0).trans rfl, (blk_cell BK291.out 0).trans rfl⟩ (fun hHeld => ?_)
    clear hK K
    refine norm_ (a' := ?_) ?_ ?_
    rotate_left
    ·exact zn (N := some 35)
    refine pure_ (i := 6) (N := some 29) (v := ?_) (a' := ?_) #[true, true, true, true, true, true, true, false, false, true, false, false] rfl rfl (any_of HT_.out (by kernel_rfl)) (fun _ _ _ h => h) (Or.inl ⟨by rfl, ?_⟩) ?_ ?_
    rotate_left
    ·intro w'
     go_simp
     with_reducible rfl
    rotate_left
    ·exact zn
    refine pure_ (i := 7) (N := some 36) (v := ?_) (a' := ?_) #[true, true, true, true, true, true, true, true, false, true, false, false] rfl rfl (any_of HT_.out (by kernel_rfl)) (fun _ _ _ h => h) (Or.inl ⟨by rfl, ?_⟩) ?_ ?_
    rotate_left
    ·intro w'
     go_simp
     with_reducible rfl
    rotate_left
    ·exact zn
    refine pure_ (i := 8) (N := some 37) (v := ?_) (a' := ?_) #[true, true, true, true, true, true, true, true, true, true, false, false] rfl rfl (any_of HT_.out (by kernel_rfl)) (fun _ _ _ h => h) (Or.inl ⟨by rfl, ?_⟩) ?_ ?_
    rotate_left
    ·intro w'
     go_simp
     with_reducible rfl
    rotate_left
    ·exact zn
    exact norm_ (by simp only [putAll, Act.put, List.setIfInBounds_toArray, List.set_cons_zero, List.set_cons_succ]) (hCont (.slice Ao38 t294.length co38, .slice Ao39 t297.length co39, v301, gb304) _ ⟨hHeld, (by (with_reducible repeat (first | apply Kd.R_alloc | apply Kd.R_drewN | apply Kd.R_drew)); exact Kd.R_mono HO296.out (fun _ hk => ⟨hk.1.2, hk.2⟩)), (by (with_reducible repeat (first | apply Kd.R_alloc | apply Kd.R_drewN | apply Kd.R_drew)); exact Kd.R_mono HO299.out (fun _ hk => ⟨hk.1.2, hk.2⟩)), (by (with_reducible repeat (first | apply Kd.R_alloc | apply Kd.R_drewN | apply Kd.R_drew)); exact Kd.R_mono HO302.out (fun _ hk => ⟨hk.1.2, hk.2⟩)), (zh BK290.out), (zh BK291.out), (zh BK304.out), GW304.out, GE304.out, NB290_304.out, NB304_290.out, NB291_304.out, NB304_291.out, (zb HB.out)⟩)
  ·skip
   refine box_step ?hg (N := 8) ?hd (cs := #[.slice none 0 0]) (t := 28) ?hr ?_; (case hd => rfl); (case hg => rfl); (case hr => first | (go_simp; done) | (go_simp; rfl))
   intro gb304 hg w35 hbox hb
   have n0_ := Aside0.mk (blk_below (zh BK290.out) hb)
   have n1_ := Aside0.mk (blk_below (zh BK291.out) hb)
   have n2_ := Aside0.mk (below_step (zb HB.out) hb)
   have n3_ := Aside0.mk (hbox)
   have n4_ := Aside0.mk ((by rw [hg]; exact (below_size (zb HB.out)) : w.heap.size ≤ gb304))
   have n5_ := Aside0.mk ((by rw [hg]; exact (below_size (zb HB.out)) : w.heap.size ≤ gb304))
   have n6_ := Aside0.mk ((by rw [hg]; exact Nat.ne_of_lt (blk_lt (zh BK290.out)) : gb290 ≠ gb304))
   have n7_ := Aside0.mk ((by rw [hg]; exact Nat.ne_of_gt (blk_lt (zh BK290.out)) : gb304 ≠ gb290))
   have n8_ := Aside0.mk ((by rw [hg]; exact Nat.ne_of_lt (blk_lt (zh BK291.out)) : gb291 ≠ gb304))
   have n9_ := Aside0.mk ((by rw [hg]; exact Nat.ne_of_gt (blk_lt (zh BK291.out)) : gb304 ≠ gb291))
   clear BK290 BK291 HB
   have BK290 := n0_
   have BK291 := n1_
   have HB := n2_
   have BK304 := n3_
   have GW304 := n4_
   have GE304 := n5_
   have NB290_304 := n6_
   have NB304_290 := n7_
   have NB291_304 := n8_
   have NB304_291 := n9_
   clear n0_ n1_ n2_ n3_ n4_ n5_ n6_ n7_ n8_ n9_ hb hbox hg
   refine hK.out _ _ ⟨(blk_cell BK290.out 0).trans rfl, (blk_cell BK291.out 0).trans rfl⟩ (fun hHeld => ?_)
   clear hK K
   refine norm_ (a' := ?_) ?_ ?_
   rotate_left
   ·exact zn (N := some 8)
   refine one_ (i := 1) (N := some 31) #[true, true, true, true, false, false, false, false, false, true, false, false] rfl rfl (one_of HT_.out (by kernel_rfl)) (by decide) (fun K hK => ?_)
   refine goes_ Try.func9 (by kernel_rfl) rfl #[.agg #[.slice A0_0 l0_0.length c0_0]] (by rfl) rfl rfl zl ?_
   with_reducible refine (laws_toPool.calls k _ _ l0_0 t294 _ ?side1 ?side2 A20.out).mono ?_
   (case side1 => exact zc (Kd.C_below HR0_0.out HB.out))
   (case side2 => exact HC0_0.out)
   rintro e w36 ⟨v295, rfl, ho0, hb⟩
   refine ⟨_, rfl, ?_⟩
   have n0_ := Aside0.mk (Kd.R_lower ho0 (below_size (zb HB.out)))
   have n1_ := Aside0.mk (blk_below (zh BK290.out) hb)
   have n2_ := Aside0.mk (blk_below (zh BK291.out) hb)
   have n3_ := Aside0.mk (blk_below (zh BK304.out) hb)
   have n4_ := Aside0.mk (below_step (zb HB.out) hb)
   clear BK290 BK291 BK304 HB
   have HO296 := n0_
   have BK290 := n1_
   have BK291 := n2_
   have BK304 := n3_
   have HB := n4_
   clear n0_ n1_ n2_ n3_ n4_
   (try clear hb)
   (try clear hb2)
   (try clear hk)
   (try clear hi)
   (try clear ho0)
   refine hK.out _ _ ⟨(blk_cell BK290.out 0).trans rfl, (blk_cell BK291.out 0).trans rfl⟩ (fun hHeld => ?_)
   clear hK K
   refine norm_ (a' := ?_) ?_ ?_
   rotate_left
   ·exact zn (N := some 31)
   refine one_ (i := 4) (N := some 34) #[true, true, true, true, true, false, false, false, false, true, false, false] rfl rfl (one_of HT_.out (by kernel_rfl)) (by decide) (fun K hK => ?_)
   refine goes_ Try.func9 (by kernel_rfl) rfl #[.agg #[.slice A2_0 l2_0.length c2_0]] (by rfl) rfl rfl zl ?_
   with_reducible refine (laws_toPool.calls k _ _ l2_0 t297 _ ?side1 ?side2 A21.out).mono ?_
   (case side1 => exact zc (Kd.C_below HR2_0.out HB.out))
   (case side2 => exact HC2_0.out)
   rintro e w37 ⟨v298, rfl, ho0, hb⟩
   refine ⟨_, rfl, ?_⟩
   have n0_ := Aside0.mk (Kd.R_elder' (zr HO296.out) (Kd.R_base ho0) hb)
   have n1_ := Aside0.mk (Kd.R_lower (Kd.R_new' ho0 (Kd.R_lt (zr HO296.out))) (below_size (zb HB.out)))
   have n2_ := Aside0.mk (blk_below (zh BK290.out) hb)
   have n3_ := Aside0.mk (blk_below (zh BK291.out) hb)
   have n4_ := Aside0.mk (blk_below (zh BK304.out) hb)
   have n5_ := Aside0.mk (below_step (zb HB.out) hb)
   clear HO296 BK290 BK291 BK304 HB
   have HO296 := n0_
   have HO299 := n1_
   have BK290 := n2_
   have BK291 := n3_
   have BK304 := n4_
   have HB := n5_
   clear n0_ n1_ n2_ n3_ n4_ n5_
   (try clear hb)
   (try clear hb2)
   (try clear hk)
   (try clear hi)
   (try clear ho0)
   obtain ⟨Ao38, co38, eo38⟩ := Kd.R_slice HO296.out
   (first | subst eo38 | (injection eo38 with f1_ f2_ f3_; have f4_ := f1_.symm; have f5_ := f3_.symm; clear f1_ f2_ f3_; subst f4_; subst f5_))
   obtain ⟨Ao39, co39, eo39⟩ := Kd.R_slice HO299.out
   (first | subst eo39 | (injection eo39 with f1_ f2_ f3_; have f4_ := f1_.symm; have f5_ := f3_.symm; clear f1_ f2_ f3_; subst f4_; subst f5_))
   refine hK.out _ _ ⟨(blk_cell BK290.out 0).trans rfl, (blk_cell BK291.out 0).trans rfl⟩ (fun hHeld => ?_)
   clear hK K
   refine norm_ (a' := ?_) ?_ ?_
   rotate_left
   ·exact zn (N := some 34)
   refine one_ (i := 5) (N := some 35) #[true, true, true, true, true, true, false, false, false, true, false, false] rfl rfl (one_of HT_.out (by kernel_rfl)) (by decide) (fun K hK => ?_)
   refine goes_ Try.func14 (by kernel_rfl) rfl #[.agg #[.slice Ao38 t294.length co38], .int .i64 a1, .agg #[.slice Ao39 t297.length co39]] (by rfl) rfl rfl zl ?_
   with_reducible refine (spec_TermMove.calls k _ _ t294 a1 _ _ t297 t300 t303 _ ?side1 ?side2 ?side3 ?side4 A22.out).mono ?_
   (case side1 => exact zc (Kd.R_reads' HO296.out).2.2)
   (case side2 => exact (Kd.R_reads' HO296.out).2.1)
   (case side3 => exact zc (Kd.R_reads' HO299.out).2.2)
   (case side4 => exact (Kd.R_reads' HO299.out).2.1)
   rintro e w40 ⟨v301, rfl, ho0, hb⟩
   refine ⟨_, rfl, ?_⟩
   have n0_ := Aside0.mk (Kd.R_elder' (zr HO296.out) (Kd.R_base ho0) hb)
   have n1_ := Aside0.mk (Kd.R_elder' (zr HO299.out) (Kd.R_base ho0) hb)
   have n2_ := Aside0.mk (Kd.R_lower (Kd.R_new' (Kd.R_new' ho0 (Kd.R_lt (zr HO296.out))) (Kd.R_lt (zr HO299.out))) (below_size (zb HB.out)))
   have n3_ := Aside0.mk (blk_below (zh BK290.out) hb)
   have n4_ := Aside0.mk (blk_below (zh BK291.out) hb)
   have n5_ := Aside0.mk (blk_below (zh BK304.out) hb)
   have n6_ := Aside0.mk (below_step (zb HB.out) hb)
   clear HO296 HO299 BK290 BK291 BK304 HB
   have HO296 := n0_
   have HO299 := n1_
   have HO302 := n2_
   have BK290 := n3_
   have BK291 := n4_
   have BK304 := n5_
   have HB := n6_
   clear n0_ n1_ n2_ n3_ n4_ n5_ n6_
   (try clear hb)
   (try clear hb2)
   (try clear hk)
   (try clear hi)
   (try clear ho0)
   refine hK.out _ _ ⟨(blk_cell BK290.out 0).trans rfl, (blk_cell BK291.out 0).trans rfl⟩ (fun hHeld => ?_)
   clear hK K
   refine norm_ (a' := ?_) ?_ ?_
   rotate_left
   ·exact zn (N := some 35)
   refine pure_ (i := 6) (N := some 29) (v := ?_) (a' := ?_) #[true, true, true, true, true, true, true, false, false, true, false, false] rfl rfl (any_of HT_.out (by kernel_rfl)) (fun _ _ _ h => h) (Or.inl ⟨by rfl, ?_⟩) ?_ ?_
   rotate_left
   ·intro w'
    go_simp
    with_reducible rfl
   rotate_left
   ·exact zn
   refine pure_ (i := 7) (N := some 36) (v := ?_) (a' := ?_) #[true, true, true, true, true, true, true, true, false, true, false, false] rfl rfl (any_of HT_.out (by kernel_rfl)) (fun _ _ _ h => h) (Or.inl ⟨by rfl, ?_⟩) ?_ ?_
   rotate_left
   ·intro w'
    go_simp
    with_reducible rfl
   rotate_left
   ·exact zn
   refine pure_ (i := 8) (N := some 37) (v := ?_) (a' := ?_) #[true, true, true, true, true, true, true, true, true, true, false, false] rfl rfl (any_of HT_.out (by kernel_rfl)) (fun _ _ _ h => h) (Or.inl ⟨by rfl, ?_⟩) ?_ ?_
   rotate_left
   ·intro w'
    go_simp
    with_reducible rfl
   rotate_left
   ·exact zn
   exact norm_ (by simp only [putAll, Act.put, List.setIfInBounds_toArray, List.set_cons_zero, List.set_cons_succ]) (hCont (.slice Ao38 t294.length co38, .slice Ao39 t297.length co39, v301, gb304) _ ⟨hHeld, (by (with_reducible repeat (first | apply Kd.R_alloc | apply Kd.R_drewN | apply Kd.R_drew)); exact Kd.R_mono HO296.out (fun _ hk => ⟨hk.1.2, hk.2⟩)), (by (with_reducible repeat (first | apply Kd.R_alloc | apply Kd.R_drewN | apply Kd.R_drew)); exact Kd.R_mono HO299.out (fun _ hk => ⟨hk.1.2, hk.2⟩)), (by (with_reducible repeat (first | apply Kd.R_alloc | apply Kd.R_drewN | apply Kd.R_drew)); exact Kd.R_mono HO302.out (fun _ hk => ⟨hk.1.2, hk.2⟩)), (zh BK290.out), (zh BK291.out), (zh BK304.out), GW304.out, GE304.out, NB290_304.out, NB304_290.out, NB291_304.out, NB304_291.out, (zb HB.out)⟩)
 rintro ⟨v295, v298, v301, gb304⟩ w41 ⟨hS_, h0_, h1_, h2_, h3_, h4_, h5_, h6_, h7_, h8_, h9_, h10_, h11_, h12_⟩
 have n0_ : Aside0 (Kd.R k55 55 w41 w.heap.size (fun k_ => some k_ ≠ (v298 : Value).ownBlock ∧ some k_ ≠ (v301 : Value).ownBlock) v295 t294) := ⟨h0_⟩
 have n1_ : Aside0 (Kd.R k55 55 w41 w.heap.size (fun k_ => some k_ ≠ (v295 : Value).ownBlock ∧ some k_ ≠ (v301 : Value).ownBlock) v298 t297) := ⟨h1_⟩
 have n2_ : Aside0 (Kd.R k55 55 w41 w.heap.size (fun k_ => some k_ ≠ (v295 : Value).ownBlock ∧ some k_ ≠ (v298 : Value).ownBlock) v301 t300) := ⟨h2_⟩
 have n3_ : Aside0 (w41.heap[gb290]? = some (.cells #[.slice A0_0 l0_0.length c0_0] 24 (0, 0))) := ⟨h3_⟩
 have n4_ : Aside0 (w41.heap[gb291]? = some (.cells #[.slice A2_0 l2_0.length c2_0] 24 (0, 0))) := ⟨h4_⟩
 have n5_ : Aside0 (w41.heap[gb304]? = some (.cells #[.slice none 0 0] 28 (0, 0))) := ⟨h5_⟩
 have n6_ : Aside0 (w.heap.size ≤ gb304) := ⟨h6_⟩
 have n7_ : Aside0 (w.heap.size ≤ gb304) := ⟨h7_⟩
 have n8_ : Aside0 (gb290 ≠ gb304) := ⟨h8_⟩
 have n9_ : Aside0 (gb304 ≠ gb290) := ⟨h9_⟩
 have n10_ : Aside0 (gb291 ≠ gb304) := ⟨h10_⟩
 have n11_ : Aside0 (gb304 ≠ gb291) := ⟨h11_⟩
 have n12_ : Aside0 (Below w.heap.size w w41) := ⟨h12_⟩
 clear BK290 BK291 HB h0_ h1_ h2_ h3_ h4_ h5_ h6_ h7_ h8_ h9_ h10_ h11_ h12_
 have HO296 := n0_
 have HO299 := n1_
 have HO302 := n2_
 have BK290 := n3_
 have BK291 := n4_
 have BK304 := n5_
 have GW304 := n6_
 have GE304 := n7_
 have NB290_304 := n8_
 have NB304_290 := n9_
 have NB291_304 := n10_
 have NB304_291 := n11_
 have HB := n12_
 clear n0_ n1_ n2_ n3_ n4_ n5_ n6_ n7_ n8_ n9_ n10_ n11_ n12_
 have hHeld : w41.cell? ⟨gb290, 0, none⟩ = some (.slice A0_0 l0_0.length c0_0) ∧ w41.cell? ⟨gb291, 0, none⟩ = some (.slice A2_0 l2_0.length c2_0) := hS_
 obtain ⟨Ao42, co42, eo42⟩ := Kd.R_slice HO302.out
 (first | subst eo42 | (injection eo42 with f1_ f2_ f3_; have f4_ := f1_.symm; have f5_ := f3_.symm; clear f1_ f2_ f3_; subst f4_; subst f5_))
 refine norm_ (a' := ?_) ?_ ?_
 rotate_left
 ·simp only [putAll, Act.put, List.setIfInBounds_toArray, List.set_cons_zero, List.set_cons_succ]
  rfl
 refine one_ (i := 10) (N := none) #[true, true, true, true, true, true, true, true, true, true, true, false] rfl rfl (one_of HT_.out (by kernel_rfl)) (by decide) (fun K hK => ?_)
 have hs43 : w41.cell? ⟨gb304, 0, none⟩ = some (.slice none 0 0) := (blk_cell BK304.out 0).trans rfl
 have hfs43 := blk_frozen BK304.out 0
 have hns43_0 := NB290_304.out
 have hns43_1 := NB291_304.out
 have hms43_0 := NB304_290.out
 have hms43_1 := NB304_291.out
 refine skip_ (w1 := ?_) (by rfl) rfl ?_ ?_
 rotate_left
 ·go_simp
  rfl
 refine hK.out _ _ ⟨((cell_far (p := ⟨gb304, _, none⟩) NB290_304.out _).trans (hHeld.1)), ((cell_far (p := ⟨gb304, _, none⟩) NB291_304.out _).trans (hHeld.2))⟩ (fun hHeld => ?_)
 clear hK K
 refine pure_ (i := 11) (N := some 9) (v := ?_) (a' := ?_) #[true, true, true, true, true, true, true, true, true, true, true, true] rfl rfl (any_of HT_.out (by kernel_rfl)) (fun _ _ _ h => h) (Or.inl ⟨by rfl, ?_⟩) ?_ ?_
 rotate_left
 ·intro w'
  go_simp
  with_reducible rfl
 rotate_left
 ·exact zn
 refine done_ (done_of HT_.out (by kernel_rfl)) ?_
 have hnb44 := NB290_304.out
 have hnc44 := NB304_290.out
 have hcz45_0 : w41.cell? ⟨gb290, 0, none⟩ = some (.slice A0_0 l0_0.length c0_0) := (blk_cell BK290.out 0).trans rfl
 have hfz45_0 := blk_frozen BK290.out 0
 go_upto_region 12 with (first | ((with_reducible refine gate_callee (f := 9) rfl ?_); refine goesL_ (some 39) rfl rfl Try.func9 (by kernel_rfl) rfl #[.agg #[.slice A0_0 l0_0.length c0_0]] rfl zl ?_; (with_reducible refine (laws_toPool.calls k _ _ l0_0 t305 _ ?side1 ?side2 A23.out).mono ?_); (case side1 => exact Kd.C_below HR0_0.out (zb HB.out)); (case side2 => exact HC0_0.out); rintro e w46 ⟨v306, rfl, ho0, hb⟩; refine ⟨_, rfl, ?_⟩; have n0_ := Aside0.mk (Kd.R_elder' (by (with_reducible repeat (first | apply Kd.R_alloc | apply Kd.R_drewN | apply Kd.R_drew)); exact (Kd.R_mono (Kd.R_far (p := ⟨gb304, 0, none⟩) (Kd.R_types HO296.out BK304.out (by decide)) (fun _ hk => hk.2) (.slice Ao42 t300.length co42)) (fun _ h_ => h_.1))) (Kd.R_base ho0) hb); have n1_ := Aside0.mk (Kd.R_elder' (by (with_reducible repeat (first | apply Kd.R_alloc | apply Kd.R_drewN | apply Kd.R_drew)); exact (Kd.R_mono (Kd.R_far (p := ⟨gb304, 0, none⟩) (Kd.R_types HO299.out BK304.out (by decide)) (fun _ hk => hk.2) (.slice Ao42 t300.length co42)) (fun _ h_ => h_.1))) (Kd.R_base ho0) hb); have n2_ := Aside0.mk (Kd.R_elder' (by (with_reducible repeat (first | apply Kd.R_alloc | apply Kd.R_drewN | apply Kd.R_drew)); exact (Kd.R_mono (Kd.R_far (p := ⟨gb304, 0, none⟩) (Kd.R_types HO302.out BK304.out (by decide)) (fun _ hk => hk.2) (.slice Ao42 t300.length co42)) (fun _ h_ => h_.1))) (Kd.R_base ho0) hb); have n3_ := Aside0.mk (Kd.R_lower (Kd.R_new' (Kd.R_new' (Kd.R_new' ho0 (Kd.R_lt (by (with_reducible repeat (first | apply Kd.R_alloc | apply Kd.R_drewN | apply Kd.R_drew)); exact (Kd.R_mono (Kd.R_far (p := ⟨gb304, 0, none⟩) (Kd.R_types HO296.out BK304.out (by decide)) (fun _ hk => hk.2) (.slice Ao42 t300.length co42)) (fun _ h_ => h_.1))))) (Kd.R_lt (by (with_reducible repeat (first | apply Kd.R_alloc | apply Kd.R_drewN | apply Kd.R_drew)); exact (Kd.R_mono (Kd.R_far (p := ⟨gb304, 0, none⟩) (Kd.R_types HO299.out BK304.out (by decide)) (fun _ hk => hk.2) (.slice Ao42 t300.length co42)) (fun _ h_ => h_.1))))) (Kd.R_lt (by (with_reducible repeat (first | apply Kd.R_alloc | apply Kd.R_drewN | apply Kd.R_drew)); exact (Kd.R_mono (Kd.R_far (p := ⟨gb304, 0, none⟩) (Kd.R_types HO302.out BK304.out (by decide)) (fun _ hk => hk.2) (.slice Ao42 t300.length co42)) (fun _ h_ => h_.1))))) (below_size (zb HB.out))); have n4_ := Aside0.mk (blk_below (g := gb290) (o := .cells #[.slice A0_0 l0_0.length c0_0] 24 (0, 0)) (zf BK290.out) hb); have n5_ := Aside0.mk (blk_below (g := gb291) (o := .cells #[.slice A2_0 l2_0.length c2_0] 24 (0, 0)) (zf BK291.out) hb); have n6_ := Aside0.mk (blk_below (g := gb304) (o := .cells #[.slice Ao42 t300.length co42] 28 (0, 0)) (by (with_reducible repeat (first | refine blk_drewN ?_ _ | refine blk_drew ?_ | refine blk_alloc ?_ _)); refine blk_put (cs := #[.slice none 0 0]) ?_ 0 _ rfl; (with_reducible repeat (first | refine blk_drewN ?_ _ | refine blk_drew ?_ | refine blk_alloc ?_ _)); exact BK304.out) hb); have n7_ := Aside0.mk (below_step (zb HB.out) hb); clear HO296 HO299 HO302 BK290 BK291 BK304 HB; have HO296 := n0_; have HO299 := n1_; have HO302 := n2_; have HO307 := n3_; have BK290 := n4_; have BK291 := n5_; have BK304 := n6_; have HB := n7_; clear n0_ n1_ n2_ n3_ n4_ n5_ n6_ n7_; (try clear hb); (try clear hb2); (try clear hk); (try clear hi); (try clear ho0)) | ((with_reducible refine gate_dst (N := 10) rfl ?_); refine box_event ?hg (N := 10) ?hd (cs := #[.slice none 0 0]) (t := 28) ?hr ?_; (case hd => rfl); (case hg => rfl); (case hr => first | (go_simp; done) | (go_simp; rfl)); intro gb308 hg w47 hbox hb; have n0_ := Aside0.mk (Kd.R_below (zr HO296.out) hb); have n1_ := Aside0.mk (Kd.R_below (zr HO299.out) hb); have n2_ := Aside0.mk (Kd.R_below (zr HO302.out) hb); have n3_ := Aside0.mk (Kd.R_below (zr HO307.out) hb); have n4_ := Aside0.mk (blk_below (zh BK290.out) hb); have n5_ := Aside0.mk (blk_below (zh BK291.out) hb); have n6_ := Aside0.mk (blk_below (zh BK304.out) hb); have n7_ := Aside0.mk (below_step (zb HB.out) hb); have n8_ := Aside0.mk (hbox); have n9_ := Aside0.mk ((by rw [hg]; exact (below_size (zb HB.out)) : w.heap.size ≤ gb308)); have n10_ := Aside0.mk ((by rw [hg]; exact (below_size (zb HB.out)) : w.heap.size ≤ gb308)); have n11_ := Aside0.mk ((by rw [hg]; exact Nat.ne_of_lt (blk_lt (zh BK290.out)) : gb290 ≠ gb308)); have n12_ := Aside0.mk ((by rw [hg]; exact Nat.ne_of_gt (blk_lt (zh BK290.out)) : gb308 ≠ gb290)); have n13_ := Aside0.mk ((by rw [hg]; exact Nat.ne_of_lt (blk_lt (zh BK291.out)) : gb291 ≠ gb308)); have n14_ := Aside0.mk ((by rw [hg]; exact Nat.ne_of_gt (blk_lt (zh BK291.out)) : gb308 ≠ gb291)); have n15_ := Aside0.mk ((by rw [hg]; exact Nat.ne_of_lt (blk_lt (zh BK304.out)) : gb304 ≠ gb308)); have n16_ := Aside0.mk ((by rw [hg]; exact Nat.ne_of_gt (blk_lt (zh BK304.out)) : gb308 ≠ gb304)); clear HO296 HO299 HO302 HO307 BK290 BK291 BK304 HB; have HO296 := n0_; have HO299 := n1_; have HO302 := n2_; have HO307 := n3_; have BK290 := n4_; have BK291 := n5_; have BK304 := n6_; have HB := n7_; have BK308 := n8_; have GW308 := n9_; have GE308 := n10_; have NB290_308 := n11_; have NB308_290 := n12_; have NB291_308 := n13_; have NB308_291 := n14_; have NB304_308 := n15_; have NB308_304 := n16_; clear n0_ n1_ n2_ n3_ n4_ n5_ n6_ n7_ n8_ n9_ n10_ n11_ n12_ n13_ n14_ n15_ n16_ hb hbox hg; obtain ⟨Ao48, co48, eo48⟩ := Kd.R_slice HO307.out; subst eo48; have hnb49 := NB308_290.out; have hnc49 := NB290_308.out; have hnb50 := NB308_291.out; have hnc50 := NB291_308.out; have hnb51 := NB308_304.out; have hnc51 := NB304_308.out; have hcz52_0 : w47.cell? ⟨gb308, 0, none⟩ = some (.slice none 0 0) := (blk_cell BK308.out 0).trans rfl; have hfz52_0 := blk_frozen BK308.out 0; have hnb53 := NB291_304.out; have hnc53 := NB304_291.out; have hcz54_0 : w47.cell? ⟨gb291, 0, none⟩ = some (.slice A2_0 l2_0.length c2_0) := (blk_cell BK291.out 0).trans rfl; have hfz54_0 := blk_frozen BK291.out 0) | ((with_reducible refine gate_callee (f := 9) rfl ?_); refine goesL_ (some 41) rfl rfl Try.func9 (by kernel_rfl) rfl #[.agg #[.slice A2_0 l2_0.length c2_0]] rfl zl ?_; (with_reducible refine (laws_toPool.calls k _ _ l2_0 t309 _ ?side1 ?side2 A24.out).mono ?_); (case side1 => exact Kd.C_below HR2_0.out (zb HB.out)); (case side2 => exact HC2_0.out); rintro e w55 ⟨v310, rfl, ho0, hb⟩; refine ⟨_, rfl, ?_⟩; have n0_ := Aside0.mk (Kd.R_elder' (by (with_reducible repeat (first | apply Kd.R_alloc | apply Kd.R_drewN | apply Kd.R_drew)); exact (Kd.R_mono (Kd.R_far (p := ⟨gb308, 0, none⟩) (Kd.R_types HO296.out BK308.out (by decide)) (fun _ hk => hk.2) (.slice Ao48 t305.length co48)) (fun _ h_ => h_.1))) (Kd.R_base ho0) hb); have n1_ := Aside0.mk (Kd.R_elder' (by (with_reducible repeat (first | apply Kd.R_alloc | apply Kd.R_drewN | apply Kd.R_drew)); exact (Kd.R_mono (Kd.R_far (p := ⟨gb308, 0, none⟩) (Kd.R_types HO299.out BK308.out (by decide)) (fun _ hk => hk.2) (.slice Ao48 t305.length co48)) (fun _ h_ => h_.1))) (Kd.R_base ho0) hb); have n2_ := Aside0.mk (Kd.R_elder' (by (with_reducible repeat (first | apply Kd.R_alloc | apply Kd.R_drewN | apply Kd.R_drew)); exact (Kd.R_mono (Kd.R_far (p := ⟨gb308, 0, none⟩) (Kd.R_types HO302.out BK308.out (by decide)) (fun _ hk => hk.2) (.slice Ao48 t305.length co48)) (fun _ h_ => h_.1))) (Kd.R_base ho0) hb); have n3_ := Aside0.mk (Kd.R_elder' (by (with_reducible repeat (first | apply Kd.R_alloc | apply Kd.R_drewN | apply Kd.R_drew)); exact (Kd.R_mono (Kd.R_far (p := ⟨gb308, 0, none⟩) (Kd.R_types HO307.out BK308.out (by decide)) (fun _ hk => hk.2) (.slice Ao48 t305.length co48)) (fun _ h_ => h_.1))) (Kd.R_base ho0) hb); have n4_ := Aside0.mk (Kd.R_lower (Kd.R_new' (Kd.R_new' (Kd.R_new' (Kd.R_new' ho0 (Kd.R_lt (by (with_reducible repeat (first | apply Kd.R_alloc | apply Kd.R_drewN | apply Kd.R_drew)); exact (Kd.R_mono (Kd.R_far (p := ⟨gb308, 0, none⟩) (Kd.R_types HO296.out BK308.out (by decide)) (fun _ hk => hk.2) (.slice Ao48 t305.length co48)) (fun _ h_ => h_.1))))) (Kd.R_lt (by (with_reducible repeat (first | apply Kd.R_alloc | apply Kd.R_drewN | apply Kd.R_drew)); exact (Kd.R_mono (Kd.R_far (p := ⟨gb308, 0, none⟩) (Kd.R_types HO299.out BK308.out (by decide)) (fun _ hk => hk.2) (.slice Ao48 t305.length co48)) (fun _ h_ => h_.1))))) (Kd.R_lt (by (with_reducible repeat (first | apply Kd.R_alloc | apply Kd.R_drewN | apply Kd.R_drew)); exact (Kd.R_mono (Kd.R_far (p := ⟨gb308, 0, none⟩) (Kd.R_types HO302.out BK308.out (by decide)) (fun _ hk => hk.2) (.slice Ao48 t305.length co48)) (fun _ h_ => h_.1))))) (Kd.R_lt (by (with_reducible repeat (first | apply Kd.R_alloc | apply Kd.R_drewN | apply Kd.R_drew)); exact (Kd.R_mono (Kd.R_far (p := ⟨gb308, 0, none⟩) (Kd.R_types HO307.out BK308.out (by decide)) (fun _ hk => hk.2) (.slice Ao48 t305.length co48)) (fun _ h_ => h_.1))))) (below_size (zb HB.out))); have n5_ := Aside0.mk (blk_below (g := gb290) (o := .cells #[.slice A0_0 l0_0.length c0_0] 24 (0, 0)) (zf BK290.out) hb); have n6_ := Aside0.mk (blk_below (g := gb291) (o := .cells #[.slice A2_0 l2_0.length c2_0] 24 (0, 0)) (zf BK291.out) hb); have n7_ := Aside0.mk (blk_below (g := gb304) (o := .cells #[.slice Ao42 t300.length co42] 28 (0, 0)) (zf BK304.out) hb); have n8_ := Aside0.mk (blk_below (g := gb308) (o := .cells #[.slice Ao48 t305.length co48] 28 (0, 0)) (by (with_reducible repeat (first | refine blk_drewN ?_ _ | refine blk_drew ?_ | refine blk_alloc ?_ _)); refine blk_put (cs := #[.slice none 0 0]) ?_ 0 _ rfl; (with_reducible repeat (first | refine blk_drewN ?_ _ | refine blk_drew ?_ | refine blk_alloc ?_ _)); exact BK308.out) hb); have n9_ := Aside0.mk (below_step (zb HB.out) hb); clear HO296 HO299 HO302 HO307 BK290 BK291 BK304 BK308 HB; have HO296 := n0_; have HO299 := n1_; have HO302 := n2_; have HO307 := n3_; have HO311 := n4_; have BK290 := n5_; have BK291 := n6_; have BK304 := n7_; have BK308 := n8_; have HB := n9_; clear n0_ n1_ n2_ n3_ n4_ n5_ n6_ n7_ n8_ n9_; (try clear hb); (try clear hb2); (try clear hk); (try clear hi); (try clear ho0)) | ((with_reducible refine gate_dst (N := 11) rfl ?_); refine box_event ?hg (N := 11) ?hd (cs := #[.slice none 0 0]) (t := 28) ?hr ?_; (case hd => rfl); (case hg => rfl); (case hr => first | (go_simp; done) | (go_simp; rfl)); intro gb312 hg w56 hbox hb; have n0_ := Aside0.mk (Kd.R_below (zr HO296.out) hb); have n1_ := Aside0.mk (Kd.R_below (zr HO299.out) hb); have n2_ := Aside0.mk (Kd.R_below (zr HO302.out) hb); have n3_ := Aside0.mk (Kd.R_below (zr HO307.out) hb); have n4_ := Aside0.mk (Kd.R_below (zr HO311.out) hb); have n5_ := Aside0.mk (blk_below (zh BK290.out) hb); have n6_ := Aside0.mk (blk_below (zh BK291.out) hb); have n7_ := Aside0.mk (blk_below (zh BK304.out) hb); have n8_ := Aside0.mk (blk_below (zh BK308.out) hb); have n9_ := Aside0.mk (below_step (zb HB.out) hb); have n10_ := Aside0.mk (hbox); have n11_ := Aside0.mk ((by rw [hg]; exact (below_size (zb HB.out)) : w.heap.size ≤ gb312)); have n12_ := Aside0.mk ((by rw [hg]; exact (below_size (zb HB.out)) : w.heap.size ≤ gb312)); have n13_ := Aside0.mk ((by rw [hg]; exact Nat.ne_of_lt (blk_lt (zh BK290.out)) : gb290 ≠ gb312)); have n14_ := Aside0.mk ((by rw [hg]; exact Nat.ne_of_gt (blk_lt (zh BK290.out)) : gb312 ≠ gb290)); have n15_ := Aside0.mk ((by rw [hg]; exact Nat.ne_of_lt (blk_lt (zh BK291.out)) : gb291 ≠ gb312)); have n16_ := Aside0.mk ((by rw [hg]; exact Nat.ne_of_gt (blk_lt (zh BK291.out)) : gb312 ≠ gb291)); have n17_ := Aside0.mk ((by rw [hg]; exact Nat.ne_of_lt (blk_lt (zh BK304.out)) : gb304 ≠ gb312)); have n18_ := Aside0.mk ((by rw [hg]; exact Nat.ne_of_gt (blk_lt (zh BK304.out)) : gb312 ≠ gb304)); have n19_ := Aside0.mk ((by rw [hg]; exact Nat.ne_of_lt (blk_lt (zh BK308.out)) : gb308 ≠ gb312)); have n20_ := Aside0.mk ((by rw [hg]; exact Nat.ne_of_gt (blk_lt (zh BK308.out)) : gb312 ≠ gb308)); clear HO296 HO299 HO302 HO307 HO311 BK290 BK291 BK304 BK308 HB; have HO296 := n0_; have HO299 := n1_; have HO302 := n2_; have HO307 := n3_; have HO311 := n4_; have BK290 := n5_; have BK291 := n6_; have BK304 := n7_; have BK308 := n8_; have HB := n9_; have BK312 := n10_; have GW312 := n11_; have GE312 := n12_; have NB290_312 := n13_; have NB312_290 := n14_; have NB291_312 := n15_; have NB312_291 := n16_; have NB304_312 := n17_; have NB312_304 := n18_; have NB308_312 := n19_; have NB312_308 := n20_; clear n0_ n1_ n2_ n3_ n4_ n5_ n6_ n7_ n8_ n9_ n10_ n11_ n12_ n13_ n14_ n15_ n16_ n17_ n18_ n19_ n20_ hb hbox hg; obtain ⟨Ao57, co57, eo57⟩ := Kd.R_slice HO311.out; subst eo57; have hnb58 := NB312_290.out; have hnc58 := NB290_312.out; have hnb59 := NB312_291.out; have hnc59 := NB291_312.out; have hnb60 := NB312_304.out; have hnc60 := NB304_312.out; have hnb61 := NB312_308.out; have hnc61 := NB308_312.out; have hcz62_0 : w56.cell? ⟨gb312, 0, none⟩ = some (.slice none 0 0) := (blk_cell BK312.out 0).trans rfl; have hfz62_0 := blk_frozen BK312.out 0; have hcz63_0 : w56.cell? ⟨gb308, 0, none⟩ = some (.slice Ao48 t305.length co48) := (blk_cell BK308.out 0).trans rfl; have hfz63_0 := blk_frozen BK308.out 0) | ((with_reducible refine gate_callee (f := 15) rfl ?_); refine goesL_ (some 46) rfl rfl Try.func15 (by kernel_rfl) rfl #[.agg #[.slice Ao48 t305.length co48], .int .i64 a1, .agg #[.slice Ao57 t309.length co57]] rfl zl ?_; (with_reducible refine (impl_TermMove.calls k _ _ t305 a1 _ _ t309 t313 t316 _ ?side1 ?side2 ?side3 ?side4 A25.out).mono ?_); (case side1 => refine (Kd.R_reads' (e := 55) (base := w.heap.size) (ok := fun k_ => ((((True ∧ some k_ ≠ (v295 : Value).ownBlock) ∧ some k_ ≠ (v298 : Value).ownBlock) ∧ some k_ ≠ (.slice Ao42 t300.length co42 : Value).ownBlock) ∧ some k_ ≠ (.slice Ao57 t309.length co57 : Value).ownBlock)) (n := t305.length) (c := co48) ?_).2.2; exact (by (with_reducible repeat (first | apply Kd.R_alloc | apply Kd.R_drewN | apply Kd.R_drew)); exact (Kd.R_mono (Kd.R_far (p := ⟨gb312, 0, none⟩) (Kd.R_types HO307.out BK312.out (by decide)) (fun _ hk => hk.2) (.slice Ao57 t309.length co57)) (fun _ h_ => h_.1)))); (case side2 => exact (Kd.R_reads' HO307.out).2.1); (case side3 => refine (Kd.R_reads' (e := 55) (base := w.heap.size) (ok := fun k_ => ((((True ∧ some k_ ≠ (v295 : Value).ownBlock) ∧ some k_ ≠ (v298 : Value).ownBlock) ∧ some k_ ≠ (.slice Ao42 t300.length co42 : Value).ownBlock) ∧ some k_ ≠ (.slice Ao48 t305.length co48 : Value).ownBlock)) (n := t309.length) (c := co57) ?_).2.2; exact (by (with_reducible repeat (first | apply Kd.R_alloc | apply Kd.R_drewN | apply Kd.R_drew)); exact (Kd.R_mono (Kd.R_far (p := ⟨gb312, 0, none⟩) (Kd.R_types HO311.out BK312.out (by decide)) (fun _ hk => hk.2) (.slice Ao57 t309.length co57)) (fun _ h_ => h_.1)))); (case side4 => exact (Kd.R_reads' HO311.out).2.1); rintro e w64 ⟨v314, rfl, ho0, hb⟩; refine ⟨_, rfl, ?_⟩; have n0_ := Aside0.mk (Kd.R_elder' (by (with_reducible repeat (first | apply Kd.R_alloc | apply Kd.R_drewN | apply Kd.R_drew)); exact (Kd.R_mono (Kd.R_far (p := ⟨gb312, 0, none⟩) (Kd.R_types HO296.out BK312.out (by decide)) (fun _ hk => hk.2) (.slice Ao57 t309.length co57)) (fun _ h_ => h_.1))) (Kd.R_base ho0) hb); have n1_ := Aside0.mk (Kd.R_elder' (by (with_reducible repeat (first | apply Kd.R_alloc | apply Kd.R_drewN | apply Kd.R_drew)); exact (Kd.R_mono (Kd.R_far (p := ⟨gb312, 0, none⟩) (Kd.R_types HO299.out BK312.out (by decide)) (fun _ hk => hk.2) (.slice Ao57 t309.length co57)) (fun _ h_ => h_.1))) (Kd.R_base ho0) hb); have n2_ := Aside0.mk (Kd.R_elder' (by (with_reducible repeat (first | apply Kd.R_alloc | apply Kd.R_drewN | apply Kd.R_drew)); exact (Kd.R_mono (Kd.R_far (p := ⟨gb312, 0, none⟩) (Kd.R_types HO302.out BK312.out (by decide)) (fun _ hk => hk.2) (.slice Ao57 t309.length co57)) (fun _ h_ => h_.1))) (Kd.R_base ho0) hb); have n3_ := Aside0.mk (Kd.R_elder' (by (with_reducible repeat (first | apply Kd.R_alloc | apply Kd.R_drewN | apply Kd.R_drew)); exact (Kd.R_mono (Kd.R_far (p := ⟨gb312, 0, none⟩) (Kd.R_types HO307.out BK312.out (by decide)) (fun _ hk => hk.2) (.slice Ao57 t309.length co57)) (fun _ h_ => h_.1))) (Kd.R_base ho0) hb); have n4_ := Aside0.mk (Kd.R_elder' (by (with_reducible repeat (first | apply Kd.R_alloc | apply Kd.R_drewN | apply Kd.R_drew)); exact (Kd.R_mono (Kd.R_far (p := ⟨gb312, 0, none⟩) (Kd.R_types HO311.out BK312.out (by decide)) (fun _ hk => hk.2) (.slice Ao57 t309.length co57)) (fun _ h_ => h_.1))) (Kd.R_base ho0) hb); have n5_ := Aside0.mk (Kd.R_lower (Kd.R_new' (Kd.R_new' (Kd.R_new' (Kd.R_new' (Kd.R_new' ho0 (Kd.R_lt (by (with_reducible repeat (first | apply Kd.R_alloc | apply Kd.R_drewN | apply Kd.R_drew)); exact (Kd.R_mono (Kd.R_far (p := ⟨gb312, 0, none⟩) (Kd.R_types HO296.out BK312.out (by decide)) (fun _ hk => hk.2) (.slice Ao57 t309.length co57)) (fun _ h_ => h_.1))))) (Kd.R_lt (by (with_reducible repeat (first | apply Kd.R_alloc | apply Kd.R_drewN | apply Kd.R_drew)); exact (Kd.R_mono (Kd.R_far (p := ⟨gb312, 0, none⟩) (Kd.R_types HO299.out BK312.out (by decide)) (fun _ hk => hk.2) (.slice Ao57 t309.length co57)) (fun _ h_ => h_.1))))) (Kd.R_lt (by (with_reducible repeat (first | apply Kd.R_alloc | apply Kd.R_drewN | apply Kd.R_drew)); exact (Kd.R_mono (Kd.R_far (p := ⟨gb312, 0, none⟩) (Kd.R_types HO302.out BK312.out (by decide)) (fun _ hk => hk.2) (.slice Ao57 t309.length co57)) (fun _ h_ => h_.1))))) (Kd.R_lt (by (with_reducible repeat (first | apply Kd.R_alloc | apply Kd.R_drewN | apply Kd.R_drew)); exact (Kd.R_mono (Kd.R_far (p := ⟨gb312, 0, none⟩) (Kd.R_types HO307.out BK312.out (by decide)) (fun _ hk => hk.2) (.slice Ao57 t309.length co57)) (fun _ h_ => h_.1))))) (Kd.R_lt (by (with_reducible repeat (first | apply Kd.R_alloc | apply Kd.R_drewN | apply Kd.R_drew)); exact (Kd.R_mono (Kd.R_far (p := ⟨gb312, 0, none⟩) (Kd.R_types HO311.out BK312.out (by decide)) (fun _ hk => hk.2) (.slice Ao57 t309.length co57)) (fun _ h_ => h_.1))))) (below_size (zb HB.out))); have n6_ := Aside0.mk (blk_below (g := gb290) (o := .cells #[.slice A0_0 l0_0.length c0_0] 24 (0, 0)) (zf BK290.out) hb); have n7_ := Aside0.mk (blk_below (g := gb291) (o := .cells #[.slice A2_0 l2_0.length c2_0] 24 (0, 0)) (zf BK291.out) hb); have n8_ := Aside0.mk (blk_below (g := gb304) (o := .cells #[.slice Ao42 t300.length co42] 28 (0, 0)) (zf BK304.out) hb); have n9_ := Aside0.mk (blk_below (g := gb308) (o := .cells #[.slice Ao48 t305.length co48] 28 (0, 0)) (zf BK308.out) hb); have n10_ := Aside0.mk (blk_below (g := gb312) (o := .cells #[.slice Ao57 t309.length co57] 28 (0, 0)) (by (with_reducible repeat (first | refine blk_drewN ?_ _ | refine blk_drew ?_ | refine blk_alloc ?_ _)); refine blk_put (cs := #[.slice none 0 0]) ?_ 0 _ rfl; (with_reducible repeat (first | refine blk_drewN ?_ _ | refine blk_drew ?_ | refine blk_alloc ?_ _)); exact BK312.out) hb); have n11_ := Aside0.mk (below_step (zb HB.out) hb); clear HO296 HO299 HO302 HO307 HO311 BK290 BK291 BK304 BK308 BK312 HB; have HO296 := n0_; have HO299 := n1_; have HO302 := n2_; have HO307 := n3_; have HO311 := n4_; have HO315 := n5_; have BK290 := n6_; have BK291 := n7_; have BK304 := n8_; have BK308 := n9_; have BK312 := n10_; have HB := n11_; clear n0_ n1_ n2_ n3_ n4_ n5_ n6_ n7_ n8_ n9_ n10_ n11_; (try clear hb); (try clear hb2); (try clear hk); (try clear hi); (try clear ho0)) | ((with_reducible refine gate_dst (N := 12) rfl ?_); refine box_event ?hg (N := 12) ?hd (cs := #[.slice none 0 0]) (t := 28) ?hr ?_; (case hd => rfl); (case hg => rfl); (case hr => first | (go_simp; done) | (go_simp; rfl)); intro gb317 hg w65 hbox hb; have n0_ := Aside0.mk (Kd.R_below (zr HO296.out) hb); have n1_ := Aside0.mk (Kd.R_below (zr HO299.out) hb); have n2_ := Aside0.mk (Kd.R_below (zr HO302.out) hb); have n3_ := Aside0.mk (Kd.R_below (zr HO307.out) hb); have n4_ := Aside0.mk (Kd.R_below (zr HO311.out) hb); have n5_ := Aside0.mk (Kd.R_below (zr HO315.out) hb); have n6_ := Aside0.mk (blk_below (zh BK290.out) hb); have n7_ := Aside0.mk (blk_below (zh BK291.out) hb); have n8_ := Aside0.mk (blk_below (zh BK304.out) hb); have n9_ := Aside0.mk (blk_below (zh BK308.out) hb); have n10_ := Aside0.mk (blk_below (zh BK312.out) hb); have n11_ := Aside0.mk (below_step (zb HB.out) hb); have n12_ := Aside0.mk (hbox); have n13_ := Aside0.mk ((by rw [hg]; exact (below_size (zb HB.out)) : w.heap.size ≤ gb317)); have n14_ := Aside0.mk ((by rw [hg]; exact (below_size (zb HB.out)) : w.heap.size ≤ gb317)); have n15_ := Aside0.mk ((by rw [hg]; exact Nat.ne_of_lt (blk_lt (zh BK290.out)) : gb290 ≠ gb317)); have n16_ := Aside0.mk ((by rw [hg]; exact Nat.ne_of_gt (blk_lt (zh BK290.out)) : gb317 ≠ gb290)); have n17_ := Aside0.mk ((by rw [hg]; exact Nat.ne_of_lt (blk_lt (zh BK291.out)) : gb291 ≠ gb317)); have n18_ := Aside0.mk ((by rw [hg]; exact Nat.ne_of_gt (blk_lt (zh BK291.out)) : gb317 ≠ gb291)); have n19_ := Aside0.mk ((by rw [hg]; exact Nat.ne_of_lt (blk_lt (zh BK304.out)) : gb304 ≠ gb317)); have n20_ := Aside0.mk ((by rw [hg]; exact Nat.ne_of_gt (blk_lt (zh BK304.out)) : gb317 ≠ gb304)); have n21_ := Aside0.mk ((by rw [hg]; exact Nat.ne_of_lt (blk_lt (zh BK308.out)) : gb308 ≠ gb317)); have n22_ := Aside0.mk ((by rw [hg]; exact Nat.ne_of_gt (blk_lt (zh BK308.out)) : gb317 ≠ gb308)); have n23_ := Aside0.mk ((by rw [hg]; exact Nat.ne_of_lt (blk_lt (zh BK312.out)) : gb312 ≠ gb317)); have n24_ := Aside0.mk ((by rw [hg]; exact Nat.ne_of_gt (blk_lt (zh BK312.out)) : gb317 ≠ gb312)); clear HO296 HO299 HO302 HO307 HO311 HO315 BK290 BK291 BK304 BK308 BK312 HB; have HO296 := n0_; have HO299 := n1_; have HO302 := n2_; have HO307 := n3_; have HO311 := n4_; have HO315 := n5_; have BK290 := n6_; have BK291 := n7_; have BK304 := n8_; have BK308 := n9_; have BK312 := n10_; have HB := n11_; have BK317 := n12_; have GW317 := n13_; have GE317 := n14_; have NB290_317 := n15_; have NB317_290 := n16_; have NB291_317 := n17_; have NB317_291 := n18_; have NB304_317 := n19_; have NB317_304 := n20_; have NB308_317 := n21_; have NB317_308 := n22_; have NB312_317 := n23_; have NB317_312 := n24_; clear n0_ n1_ n2_ n3_ n4_ n5_ n6_ n7_ n8_ n9_ n10_ n11_ n12_ n13_ n14_ n15_ n16_ n17_ n18_ n19_ n20_ n21_ n22_ n23_ n24_ hb hbox hg; obtain ⟨Ao66, co66, eo66⟩ := Kd.R_slice HO315.out; subst eo66; have hnb67 := NB317_290.out; have hnc67 := NB290_317.out; have hnb68 := NB317_291.out; have hnc68 := NB291_317.out; have hnb69 := NB317_304.out; have hnc69 := NB304_317.out; have hnb70 := NB317_308.out; have hnc70 := NB308_317.out; have hnb71 := NB317_312.out; have hnc71 := NB312_317.out; have hcz72_0 : w65.cell? ⟨gb317, 0, none⟩ = some (.slice none 0 0) := (blk_cell BK317.out 0).trans rfl; have hfz72_0 := blk_frozen BK317.out 0))
 (try simp only [Act.put, List.setIfInBounds_toArray, List.set_cons_zero, List.set_cons_succ])
 go_cut [57] (fun v57 wc => ∃ (kq : Nat) (x57_25 : Bool), v57 = .bool x57_25 ∧ Aside0 (laws_FnExactTermMove.j0 kq a1 t303 t316 x57_25 l0_0 l2_0 t300 t305 t309 t313 = some r) ∧ Aside0 (kq ≤ k) ∧ Aside0 (Kd.R k55 55 wc w.heap.size (fun k_ => some k_ ≠ ((.slice Ao48 t305.length co48) : Value).ownBlock ∧ some k_ ≠ ((.slice Ao57 t309.length co57) : Value).ownBlock ∧ some k_ ≠ ((.slice Ao66 t313.length co66) : Value).ownBlock) (.slice Ao42 t300.length co42) t300) ∧ Aside0 (Kd.R k55 55 wc w.heap.size (fun k_ => some k_ ≠ ((.slice Ao42 t300.length co42) : Value).ownBlock ∧ some k_ ≠ ((.slice Ao57 t309.length co57) : Value).ownBlock ∧ some k_ ≠ ((.slice Ao66 t313.length co66) : Value).ownBlock) (.slice Ao48 t305.length co48) t305) ∧ Aside0 (Kd.R k55 55 wc w.heap.size (fun k_ => some k_ ≠ ((.slice Ao42 t300.length co42) : Value).ownBlock ∧ some k_ ≠ ((.slice Ao48 t305.length co48) : Value).ownBlock ∧ some k_ ≠ ((.slice Ao66 t313.length co66) : Value).ownBlock) (.slice Ao57 t309.length co57) t309) ∧ Aside0 (Kd.R k55 55 wc w.heap.size (fun k_ => some k_ ≠ ((.slice Ao42 t300.length co42) : Value).ownBlock ∧ some k_ ≠ ((.slice Ao48 t305.length co48) : Value).ownBlock ∧ some k_ ≠ ((.slice Ao57 t309.length co57) : Value).ownBlock) (.slice Ao66 t313.length co66) t313) ∧ Aside0 (wc.heap[gb290]? = some (.cells #[(.slice A0_0 l0_0.length c0_0)] 24 (0, 0))) ∧ Aside0 (wc.heap[gb291]? = some (.cells #[(.slice A2_0 l2_0.length c2_0)] 24 (0, 0))) ∧ Aside0 (wc.heap[gb304]? = some (.cells #[(.slice Ao42 t300.length co42)] 28 (0, 0))) ∧ Aside0 (wc.heap[gb308]? = some (.cells #[(.slice Ao48 t305.length co48)] 28 (0, 0))) ∧ Aside0 (wc.heap[gb312]? = some (.cells #[(.slice Ao57 t309.length co57)] 28 (0, 0))) ∧ Aside0 (wc.heap[gb317]? = some (.cells #[(.slice Ao66 t313.length co66)] 28 (0, 0))) ∧ Aside0 (Below w.heap.size w wc))
 case first =>
  have H := HC26.out
  clear HC26
  replace H := Option.bind_eq_some_iff.mp H
  obtain ⟨t318, A730, H⟩ := H
  replace H : (if t318 = true then (laws_FnExactTermMove.j0 k a1 t303 t316 (t316 != t303) l0_0 l2_0 t300 t305 t309 t313) else (laws_FnExactTermMove.j0 k a1 t303 t316 true l0_0 l2_0 t300 t305 t309 t313)) = some r := H
  have A73 := Aside0.mk A730
  clear A730
  by_cases c74 : t318 = true
  ·subst c74
   have H1 : (laws_FnExactTermMove.j0 k a1 t303 t316 (t316 != t303) l0_0 l2_0 t300 t305 t309 t313) = some r := by rw [if_pos rfl] at H; exact H
   clear H
   have H := H1
   clear H1
   have H' := Aside0.mk H
   clear H
   have hnb75 := NB317_290.out
   have hnc75 := NB290_317.out
   have hnb76 := NB317_291.out
   have hnc76 := NB291_317.out
   have hnb77 := NB317_304.out
   have hnc77 := NB304_317.out
   have hnb78 := NB317_308.out
   have hnc78 := NB308_317.out
   have hnb79 := NB317_312.out
   have hnc79 := NB312_317.out
   have hcz80_0 : w65.cell? ⟨gb317, 0, none⟩ = some (.slice none 0 0) := (blk_cell BK317.out 0).trans rfl
   have hfz80_0 := blk_frozen BK317.out 0
   have hnb81 := NB304_290.out
   have hnc81 := NB290_304.out
   have hnb82 := NB304_291.out
   have hnc82 := NB291_304.out
   have hnb83 := NB304_308.out
   have hnc83 := NB308_304.out
   have hnb84 := NB304_312.out
   have hnc84 := NB312_304.out
   have hcz85_0 : w65.cell? ⟨gb304, 0, none⟩ = some (.slice Ao42 t300.length co42) := (blk_cell BK304.out 0).trans rfl
   have hfz85_0 := blk_frozen BK304.out 0
   go_wp2_with (first | ((with_reducible refine gate_callee (f := 11) rfl ?_); refine goesL_ (some 51) rfl rfl Try.func11 (by kernel_rfl) rfl #[.agg #[.slice Ao66 t313.length co66], .agg #[.slice Ao42 t300.length co42]] rfl zl ?_; (with_reducible refine (laws_eqPool.calls k _ _ t313 _ _ t300 true _ ?side1 ?side2 ?side3 ?side4 A73.out).mono ?_); (case side1 => refine (Kd.R_reads' (e := 55) (base := w.heap.size) (ok := fun k_ => (((((True ∧ some k_ ≠ (v295 : Value).ownBlock) ∧ some k_ ≠ (v298 : Value).ownBlock) ∧ some k_ ≠ (.slice Ao42 t300.length co42 : Value).ownBlock) ∧ some k_ ≠ (.slice Ao48 t305.length co48 : Value).ownBlock) ∧ some k_ ≠ (.slice Ao57 t309.length co57 : Value).ownBlock)) (n := t313.length) (c := co66) ?_).2.2; exact (by (with_reducible repeat (first | apply Kd.R_alloc | apply Kd.R_drewN | apply Kd.R_drew)); exact (Kd.R_mono (Kd.R_far (p := ⟨gb317, 0, none⟩) (Kd.R_types HO315.out BK317.out (by decide)) (fun _ hk => hk.2) (.slice Ao66 t313.length co66)) (fun _ h_ => h_.1)))); (case side2 => exact (Kd.R_reads' HO315.out).2.1); (case side3 => refine (Kd.R_reads' (e := 55) (base := w.heap.size) (ok := fun k_ => ((((some k_ ≠ (v295 : Value).ownBlock ∧ some k_ ≠ (v298 : Value).ownBlock) ∧ some k_ ≠ (.slice Ao48 t305.length co48 : Value).ownBlock) ∧ some k_ ≠ (.slice Ao57 t309.length co57 : Value).ownBlock) ∧ some k_ ≠ (.slice Ao66 t313.length co66 : Value).ownBlock)) (n := t300.length) (c := co42) ?_).2.2; exact (by (with_reducible repeat (first | apply Kd.R_alloc | apply Kd.R_drewN | apply Kd.R_drew)); exact (Kd.R_mono (Kd.R_far (p := ⟨gb317, 0, none⟩) (Kd.R_types HO302.out BK317.out (by decide)) (fun _ hk => hk.2) (.slice Ao66 t313.length co66)) (fun _ h_ => h_.1)))); (case side4 => exact (Kd.R_reads' HO302.out).2.1); rintro e w86 ⟨rfl, hb⟩; refine ⟨_, rfl, ?_⟩; have n0_ := Aside0.mk (Kd.R_below (by (with_reducible repeat (first | apply Kd.R_alloc | apply Kd.R_drewN | apply Kd.R_drew)); exact (Kd.R_mono (Kd.R_far (p := ⟨gb317, 0, none⟩) (Kd.R_types HO296.out BK317.out (by decide)) (fun _ hk => hk.2) (.slice Ao66 t313.length co66)) (fun _ h_ => h_.1))) hb); have n1_ := Aside0.mk (Kd.R_below (by (with_reducible repeat (first | apply Kd.R_alloc | apply Kd.R_drewN | apply Kd.R_drew)); exact (Kd.R_mono (Kd.R_far (p := ⟨gb317, 0, none⟩) (Kd.R_types HO299.out BK317.out (by decide)) (fun _ hk => hk.2) (.slice Ao66 t313.length co66)) (fun _ h_ => h_.1))) hb); have n2_ := Aside0.mk (Kd.R_below (by (with_reducible repeat (first | apply Kd.R_alloc | apply Kd.R_drewN | apply Kd.R_drew)); exact (Kd.R_mono (Kd.R_far (p := ⟨gb317, 0, none⟩) (Kd.R_types HO302.out BK317.out (by decide)) (fun _ hk => hk.2) (.slice Ao66 t313.length co66)) (fun _ h_ => h_.1))) hb); have n3_ := Aside0.mk (Kd.R_below (by (with_reducible repeat (first | apply Kd.R_alloc | apply Kd.R_drewN | apply Kd.R_drew)); exact (Kd.R_mono (Kd.R_far (p := ⟨gb317, 0, none⟩) (Kd.R_types HO307.out BK317.out (by decide)) (fun _ hk => hk.2) (.slice Ao66 t313.length co66)) (fun _ h_ => h_.1))) hb); have n4_ := Aside0.mk (Kd.R_below (by (with_reducible repeat (first | apply Kd.R_alloc | apply Kd.R_drewN | apply Kd.R_drew)); exact (Kd.R_mono (Kd.R_far (p := ⟨gb317, 0, none⟩) (Kd.R_types HO311.out BK317.out (by decide)) (fun _ hk => hk.2) (.slice Ao66 t313.length co66)) (fun _ h_ => h_.1))) hb); have n5_ := Aside0.mk (Kd.R_below (by (with_reducible repeat (first | apply Kd.R_alloc | apply Kd.R_drewN | apply Kd.R_drew)); exact (Kd.R_mono (Kd.R_far (p := ⟨gb317, 0, none⟩) (Kd.R_types HO315.out BK317.out (by decide)) (fun _ hk => hk.2) (.slice Ao66 t313.length co66)) (fun _ h_ => h_.1))) hb); have n6_ := Aside0.mk (blk_below (g := gb290) (o := .cells #[.slice A0_0 l0_0.length c0_0] 24 (0, 0)) (zf BK290.out) hb); have n7_ := Aside0.mk (blk_below (g := gb291) (o := .cells #[.slice A2_0 l2_0.length c2_0] 24 (0, 0)) (zf BK291.out) hb); have n8_ := Aside0.mk (blk_below (g := gb304) (o := .cells #[.slice Ao42 t300.length co42] 28 (0, 0)) (zf BK304.out) hb); have n9_ := Aside0.mk (blk_below (g := gb308) (o := .cells #[.slice Ao48 t305.length co48] 28 (0, 0)) (zf BK308.out) hb); have n10_ := Aside0.mk (blk_below (g := gb312) (o := .cells #[.slice Ao57 t309.length co57] 28 (0, 0)) (zf BK312.out) hb); have n11_ := Aside0.mk (blk_below (g := gb317) (o := .cells #[.slice Ao66 t313.length co66] 28 (0, 0)) (by (with_reducible repeat (first | refine blk_drewN ?_ _ | refine blk_drew ?_ | refine blk_alloc ?_ _)); refine blk_put (cs := #[.slice none 0 0]) ?_ 0 _ rfl; (with_reducible repeat (first | refine blk_drewN ?_ _ | refine blk_drew ?_ | refine blk_alloc ?_ _)); exact BK317.out) hb); have n12_ := Aside0.mk (below_step (zb HB.out) hb); clear HO296 HO299 HO302 HO307 HO311 HO315 BK290 BK291 BK304 BK308 BK312 BK317 HB; have HO296 := n0_; have HO299 := n1_; have HO302 := n2_; have HO307 := n3_; have HO311 := n4_; have HO315 := n5_; have BK290 := n6_; have BK291 := n7_; have BK304 := n8_; have BK308 := n9_; have BK312 := n10_; have BK317 := n11_; have HB := n12_; clear n0_ n1_ n2_ n3_ n4_ n5_ n6_ n7_ n8_ n9_ n10_ n11_ n12_; (try clear hb); (try clear hb2); (try clear hk); (try clear hi)))
   go_meet
   case rel => exact ⟨_, ((t316 != t303)), (by first | rfl | (simp; done) | (simp [*]; done)), H', ⟨by first | omega | exact Nat.le_refl _⟩, ⟨zr (Kd.R_mono HO302.out (fun _ hk => ⟨hk.1.1.2, ⟨hk.1.2, hk.2⟩⟩))⟩, ⟨zr (Kd.R_mono HO307.out (fun _ hk => ⟨hk.1.1.2, ⟨hk.1.2, hk.2⟩⟩))⟩, ⟨zr (Kd.R_mono HO311.out (fun _ hk => ⟨hk.1.1.2, ⟨hk.1.2, hk.2⟩⟩))⟩, ⟨zr (Kd.R_mono HO315.out (fun _ hk => ⟨hk.1.1.2, ⟨hk.1.2, hk.2⟩⟩))⟩, ⟨zh BK290.out⟩, ⟨zh BK291.out⟩, ⟨zh BK304.out⟩, ⟨zh BK308.out⟩, ⟨zh BK312.out⟩, ⟨zh BK317.out⟩, ⟨zb HB.out⟩⟩
  replace c74 := Bool.eq_false_iff.mpr c74
  subst c74
  have H1 : (laws_FnExactTermMove.j0 k a1 t303 t316 true l0_0 l2_0 t300 t305 t309 t313) = some r := by rw [if_neg (show ¬ (false = true) by decide)] at H; exact H
  clear H
  have H := H1
  clear H1
  have H' := Aside0.mk H
  clear H
  have hnb87 := NB317_290.out
  have hnc87 := NB290_317.out
  have hnb88 := NB317_291.out
  have hnc88 := NB291_317.out
  have hnb89 := NB317_304.out
  have hnc89 := NB304_317.out
  have hnb90 := NB317_308.out
  have hnc90 := NB308_317.out
  have hnb91 := NB317_312.out
  have hnc91 := NB312_317.out
  have hcz92_0 : w65.cell? ⟨gb317, 0, none⟩ = some (.slice none 0 0) := (blk_cell BK317.out 0).trans rfl
  have hfz92_0 := blk_frozen BK317.out 0
  have hnb93 := NB304_290.out
  have hnc93 := NB290_304.out
  have hnb94 := NB304_291.out
  have hnc94 := NB291_304.out
  have hnb95 := NB304_308.out
  have hnc95 := NB308_304.out
  have hnb96 := NB304_312.out
  have hnc96 := NB312_304.out
  have hcz97_0 : w65.cell? ⟨gb304, 0, none⟩ = some (.slice Ao42 t300.length co42) := (blk_cell BK304.out 0).trans rfl
  have hfz97_0 := blk_frozen BK304.out 0
  go_wp2_with (first | ((with_reducible refine gate_callee (f := 11) rfl ?_); refine goesL_ (some 51) rfl rfl Try.func11 (by kernel_rfl) rfl #[.agg #[.slice Ao66 t313.length co66], .agg #[.slice Ao42 t300.length co42]] rfl zl ?_; (with_reducible refine (laws_eqPool.calls k _ _ t313 _ _ t300 false _ ?side1 ?side2 ?side3 ?side4 A73.out).mono ?_); (case side1 => refine (Kd.R_reads' (e := 55) (base := w.heap.size) (ok := fun k_ => (((((True ∧ some k_ ≠ (v295 : Value).ownBlock) ∧ some k_ ≠ (v298 : Value).ownBlock) ∧ some k_ ≠ (.slice Ao42 t300.length co42 : Value).ownBlock) ∧ some k_ ≠ (.slice Ao48 t305.length co48 : Value).ownBlock) ∧ some k_ ≠ (.slice Ao57 t309.length co57 : Value).ownBlock)) (n := t313.length) (c := co66) ?_).2.2; exact (by (with_reducible repeat (first | apply Kd.R_alloc | apply Kd.R_drewN | apply Kd.R_drew)); exact (Kd.R_mono (Kd.R_far (p := ⟨gb317, 0, none⟩) (Kd.R_types HO315.out BK317.out (by decide)) (fun _ hk => hk.2) (.slice Ao66 t313.length co66)) (fun _ h_ => h_.1)))); (case side2 => exact (Kd.R_reads' HO315.out).2.1); (case side3 => refine (Kd.R_reads' (e := 55) (base := w.heap.size) (ok := fun k_ => ((((some k_ ≠ (v295 : Value).ownBlock ∧ some k_ ≠ (v298 : Value).ownBlock) ∧ some k_ ≠ (.slice Ao48 t305.length co48 : Value).ownBlock) ∧ some k_ ≠ (.slice Ao57 t309.length co57 : Value).ownBlock) ∧ some k_ ≠ (.slice Ao66 t313.length co66 : Value).ownBlock)) (n := t300.length) (c := co42) ?_).2.2; exact (by (with_reducible repeat (first | apply Kd.R_alloc | apply Kd.R_drewN | apply Kd.R_drew)); exact (Kd.R_mono (Kd.R_far (p := ⟨gb317, 0, none⟩) (Kd.R_types HO302.out BK317.out (by decide)) (fun _ hk => hk.2) (.slice Ao66 t313.length co66)) (fun _ h_ => h_.1)))); (case side4 => exact (Kd.R_reads' HO302.out).2.1); rintro e w98 ⟨rfl, hb⟩; refine ⟨_, rfl, ?_⟩; have n0_ := Aside0.mk (Kd.R_below (by (with_reducible repeat (first | apply Kd.R_alloc | apply Kd.R_drewN | apply Kd.R_drew)); exact (Kd.R_mono (Kd.R_far (p := ⟨gb317, 0, none⟩) (Kd.R_types HO296.out BK317.out (by decide)) (fun _ hk => hk.2) (.slice Ao66 t313.length co66)) (fun _ h_ => h_.1))) hb); have n1_ := Aside0.mk (Kd.R_below (by (with_reducible repeat (first | apply Kd.R_alloc | apply Kd.R_drewN | apply Kd.R_drew)); exact (Kd.R_mono (Kd.R_far (p := ⟨gb317, 0, none⟩) (Kd.R_types HO299.out BK317.out (by decide)) (fun _ hk => hk.2) (.slice Ao66 t313.length co66)) (fun _ h_ => h_.1))) hb); have n2_ := Aside0.mk (Kd.R_below (by (with_reducible repeat (first | apply Kd.R_alloc | apply Kd.R_drewN | apply Kd.R_drew)); exact (Kd.R_mono (Kd.R_far (p := ⟨gb317, 0, none⟩) (Kd.R_types HO302.out BK317.out (by decide)) (fun _ hk => hk.2) (.slice Ao66 t313.length co66)) (fun _ h_ => h_.1))) hb); have n3_ := Aside0.mk (Kd.R_below (by (with_reducible repeat (first | apply Kd.R_alloc | apply Kd.R_drewN | apply Kd.R_drew)); exact (Kd.R_mono (Kd.R_far (p := ⟨gb317, 0, none⟩) (Kd.R_types HO307.out BK317.out (by decide)) (fun _ hk => hk.2) (.slice Ao66 t313.length co66)) (fun _ h_ => h_.1))) hb); have n4_ := Aside0.mk (Kd.R_below (by (with_reducible repeat (first | apply Kd.R_alloc | apply Kd.R_drewN | apply Kd.R_drew)); exact (Kd.R_mono (Kd.R_far (p := ⟨gb317, 0, none⟩) (Kd.R_types HO311.out BK317.out (by decide)) (fun _ hk => hk.2) (.slice Ao66 t313.length co66)) (fun _ h_ => h_.1))) hb); have n5_ := Aside0.mk (Kd.R_below (by (with_reducible repeat (first | apply Kd.R_alloc | apply Kd.R_drewN | apply Kd.R_drew)); exact (Kd.R_mono (Kd.R_far (p := ⟨gb317, 0, none⟩) (Kd.R_types HO315.out BK317.out (by decide)) (fun _ hk => hk.2) (.slice Ao66 t313.length co66)) (fun _ h_ => h_.1))) hb); have n6_ := Aside0.mk (blk_below (g := gb290) (o := .cells #[.slice A0_0 l0_0.length c0_0] 24 (0, 0)) (zf BK290.out) hb); have n7_ := Aside0.mk (blk_below (g := gb291) (o := .cells #[.slice A2_0 l2_0.length c2_0] 24 (0, 0)) (zf BK291.out) hb); have n8_ := Aside0.mk (blk_below (g := gb304) (o := .cells #[.slice Ao42 t300.length co42] 28 (0, 0)) (zf BK304.out) hb); have n9_ := Aside0.mk (blk_below (g := gb308) (o := .cells #[.slice Ao48 t305.length co48] 28 (0, 0)) (zf BK308.out) hb); have n10_ := Aside0.mk (blk_below (g := gb312) (o := .cells #[.slice Ao57 t309.length co57] 28 (0, 0)) (zf BK312.out) hb); have n11_ := Aside0.mk (blk_below (g := gb317) (o := .cells #[.slice Ao66 t313.length co66] 28 (0, 0)) (by (with_reducible repeat (first | refine blk_drewN ?_ _ | refine blk_drew ?_ | refine blk_alloc ?_ _)); refine blk_put (cs := #[.slice none 0 0]) ?_ 0 _ rfl; (with_reducible repeat (first | refine blk_drewN ?_ _ | refine blk_drew ?_ | refine blk_alloc ?_ _)); exact BK317.out) hb); have n12_ := Aside0.mk (below_step (zb HB.out) hb); clear HO296 HO299 HO302 HO307 HO311 HO315 BK290 BK291 BK304 BK308 BK312 BK317 HB; have HO296 := n0_; have HO299 := n1_; have HO302 := n2_; have HO307 := n3_; have HO311 := n4_; have HO315 := n5_; have BK290 := n6_; have BK291 := n7_; have BK304 := n8_; have BK308 := n9_; have BK312 := n10_; have BK317 := n11_; have HB := n12_; clear n0_ n1_ n2_ n3_ n4_ n5_ n6_ n7_ n8_ n9_ n10_ n11_ n12_; (try clear hb); (try clear hb2); (try clear hk); (try clear hi)))
  go_meet
  case rel => exact ⟨_, (true), (by first | rfl | (simp; done) | (simp [*]; done)), H', ⟨by first | omega | exact Nat.le_refl _⟩, ⟨zr (Kd.R_mono HO302.out (fun _ hk => ⟨hk.1.1.2, ⟨hk.1.2, hk.2⟩⟩))⟩, ⟨zr (Kd.R_mono HO307.out (fun _ hk => ⟨hk.1.1.2, ⟨hk.1.2, hk.2⟩⟩))⟩, ⟨zr (Kd.R_mono HO311.out (fun _ hk => ⟨hk.1.1.2, ⟨hk.1.2, hk.2⟩⟩))⟩, ⟨zr (Kd.R_mono HO315.out (fun _ hk => ⟨hk.1.1.2, ⟨hk.1.2, hk.2⟩⟩))⟩, ⟨zh BK290.out⟩, ⟨zh BK291.out⟩, ⟨zh BK304.out⟩, ⟨zh BK308.out⟩, ⟨zh BK312.out⟩, ⟨zh BK317.out⟩, ⟨zb HB.out⟩⟩
 case rest =>
  clear HC26
  try clear c1
  try clear c2
  try clear p2
  try clear c4
  try clear c5
  try clear c6
  try clear c7
  try clear c8
  try clear c9
  try clear c11
  try clear c14
  try clear c15
  try clear c44
  try clear c49
  try clear c50
  try clear c51
  try clear c53
  try clear c58
  try clear c59
  try clear c60
  try clear c61
  try clear c67
  try clear c68
  try clear c69
  try clear c70
  try clear c71
  try clear c74
  try clear c75
  try clear c76
  try clear c77
  try clear c78
  try clear c79
  try clear c81
  try clear c82
  try clear c83
  try clear c84
  try clear c87
  try clear c88
  try clear c89
  try clear c90
  try clear c91
  try clear c93
  try clear c94
  try clear c95
  try clear c96
  try clear hcz45_0
  try clear hcz52_0
  try clear hcz54_0
  try clear hcz62_0
  try clear hcz63_0
  try clear hcz72_0
  try clear hcz80_0
  try clear hcz85_0
  try clear hcz92_0
  try clear hcz97_0
  try clear hfz45_0
  try clear hfz52_0
  try clear hfz54_0
  try clear hfz62_0
  try clear hfz63_0
  try clear hfz72_0
  try clear hfz80_0
  try clear hfz85_0
  try clear hfz92_0
  try clear hfz97_0
  obtain ⟨kq, x57_25, rfl, HA, HJ25, HO_305000, HO_309000, HO_313000, HO_318000, BK290, BK291, BK304, BK308, BK312, BK317, HB⟩ := hcut
  cases kq with
  | zero => exact absurd HA.out (by simp [laws_FnExactTermMove.j0])
  | succ kj25 =>
   have H := HA.out
   clear HA
   simp only [laws_FnExactTermMove.j0] at H
   by_cases c99 : x57_25 = true
   ·subst c99
    have H1 : (some false) = some r := by rw [if_pos rfl] at H; exact H
    clear H
    have H := H1
    clear H1
    obtain rfl := Option.some.inj H
    go_wp2
    go_ret
    exact ⟨ze, zb HB.out⟩
   replace c99 := Bool.eq_false_iff.mpr c99
   subst c99
   have H1 : ((laws_toPool.f kj25 l0_0).bind fun t319 => ((laws_eqPool.f kj25 t305 t319).bind fun t322 => (if t322 = true then ((laws_toPool.f kj25 l2_0).bind fun t323 => ((laws_eqPool.f kj25 t309 t323).bind fun t326 => (if t326 = true then ((laws_markPool.f kj25 t305 1).bind fun bt327 => ((laws_markPool.f kj25 t309 bt327.1).bind fun bt329 => (if bt329.1 < 0 then (laws_FnExactTermMove.j1 kj25 a1 t303 true l0_0 l2_0 t300 t313) else ((laws_eqPool.f kj25 t313 t300).bind fun t331 => (if t331 = true then (laws_FnExactTermMove.j1 kj25 a1 t303 (t316 != t303) l0_0 l2_0 t300 t313) else (laws_FnExactTermMove.j1 kj25 a1 t303 true l0_0 l2_0 t300 t313)))))) else (some false)))) else (some false)))) = some r := by rw [if_neg (show ¬ (false = true) by decide)] at H; exact H
   clear H
   have H := H1
   clear H1
   replace H := Option.bind_eq_some_iff.mp H
   obtain ⟨t319, A1000, H⟩ := H
   replace H : ((laws_eqPool.f kj25 t305 t319).bind fun t322 => (if t322 = true then ((laws_toPool.f kj25 l2_0).bind fun t323 => ((laws_eqPool.f kj25 t309 t323).bind fun t326 => (if t326 = true then ((laws_markPool.f kj25 t305 1).bind fun bt327 => ((laws_markPool.f kj25 t309 bt327.1).bind fun bt329 => (if bt329.1 < 0 then (laws_FnExactTermMove.j1 kj25 a1 t303 true l0_0 l2_0 t300 t313) else ((laws_eqPool.f kj25 t313 t300).bind fun t331 => (if t331 = true then (laws_FnExactTermMove.j1 kj25 a1 t303 (t316 != t303) l0_0 l2_0 t300 t313) else (laws_FnExactTermMove.j1 kj25 a1 t303 true l0_0 l2_0 t300 t313)))))) else (some false)))) else (some false))) = some r := H
   have A100 := Aside0.mk A1000
   clear A1000
   replace H := Option.bind_eq_some_iff.mp H
   obtain ⟨t322, A1010, H⟩ := H
   replace H : (if t322 = true then ((laws_toPool.f kj25 l2_0).bind fun t323 => ((laws_eqPool.f kj25 t309 t323).bind fun t326 => (if t326 = true then ((laws_markPool.f kj25 t305 1).bind fun bt327 => ((laws_markPool.f kj25 t309 bt327.1).bind fun bt329 => (if bt329.1 < 0 then (laws_FnExactTermMove.j1 kj25 a1 t303 true l0_0 l2_0 t300 t313) else ((laws_eqPool.f kj25 t313 t300).bind fun t331 => (if t331 = true then (laws_FnExactTermMove.j1 kj25 a1 t303 (t316 != t303) l0_0 l2_0 t300 t313) else (laws_FnExactTermMove.j1 kj25 a1 t303 true l0_0 l2_0 t300 t313)))))) else (some false)))) else (some false)) = some r := H
   have A101 := Aside0.mk A1010
   clear A1010
   by_cases c102 : t322 = true
   rotate_left
   ·replace c102 := Bool.eq_false_iff.mpr c102
    subst c102
    have H1 : (some false) = some r := by rw [if_neg (show ¬ (false = true) by decide)] at H; exact H
    clear H
    have H := H1
    clear H1
    obtain rfl := Option.some.inj H
    try go_wp2
    have n0_ := Aside0.mk (Kd.R_drew HO_305000.out)
    have n1_ := Aside0.mk (Kd.R_drew HO_309000.out)
    have n2_ := Aside0.mk (Kd.R_drew HO_313000.out)
    have n3_ := Aside0.mk (Kd.R_drew HO_318000.out)
    have n4_ := Aside0.mk (blk_drew BK290.out)
    have n5_ := Aside0.mk (blk_drew BK291.out)
    have n6_ := Aside0.mk (blk_drew BK304.out)
    have n7_ := Aside0.mk (blk_drew BK308.out)
    have n8_ := Aside0.mk (blk_drew BK312.out)
    have n9_ := Aside0.mk (blk_drew BK317.out)
    have n10_ := Aside0.mk (below_drew1 HB.out)
    clear HO_305000 HO_309000 HO_313000 HO_318000 BK290 BK291 BK304 BK308 BK312 BK317 HB
    have HO_305000 := n0_
    have HO_309000 := n1_
    have HO_313000 := n2_
    have HO_318000 := n3_
    have BK290 := n4_
    have BK291 := n5_
    have BK304 := n6_
    have BK308 := n7_
    have BK312 := n8_
    have BK317 := n9_
    have HB := n10_
    clear n0_ n1_ n2_ n3_ n4_ n5_ n6_ n7_ n8_ n9_ n10_
    refine start_ (n := 5) (S := fun w' => w'.cell? ⟨gb308, 0, none⟩ = some (.slice Ao48 t305.length co48) ∧ w'.cell? ⟨gb290, 0, none⟩ = some (.slice A0_0 l0_0.length c0_0)) (ds := []) #[false, false, false, false, false] (by kernel_rfl) rfl rfl ⟨(blk_cell BK308.out 0).trans rfl, (blk_cell BK290.out 0).trans rfl⟩ (fun hHeld => ?_)
    generalize wc.drew = w269 at HO_305000 HO_309000 HO_313000 HO_318000 BK290 BK291 BK304 BK308 BK312 BK317 HB hHeld ⊢
    refine take_ (i := 0) (N := some 58) (v := ?_) (a' := ?_) #[true, false, false, false, false] rfl rfl (by kernel_rfl) (fun _ _ _ h => h) (Or.inl ⟨by rfl, ?_⟩) hHeld ?_ ?_
    rotate_left
    ·rintro w' ⟨s0, s1⟩
     go_simp
     with_reducible rfl
    rotate_left
    ·exact zn
    refine take_ (i := 1) (N := some 59) (v := ?_) (a' := ?_) #[true, true, false, false, false] rfl rfl (by kernel_rfl) (fun _ _ _ h => h) (Or.inl ⟨by rfl, ?_⟩) hHeld ?_ ?_
    rotate_left
    ·rintro w' ⟨s0, s1⟩
     go_simp
     with_reducible rfl
    rotate_left
    ·exact zn
    refine one_ (i := 2) (N := some 60) #[true, true, true, false, false] rfl rfl (by kernel_rfl) (by decide) (fun K hK => ?_)
    refine goes_ Try.func9 (by kernel_rfl) rfl #[.agg #[.slice A0_0 l0_0.length c0_0]] (by rfl) rfl rfl zl ?_
    with_reducible refine (laws_toPool.calls kj25 _ _ l0_0 t319 _ ?side1 ?side2 A100.out).mono ?_
    (case side1 => exact zc (Kd.C_below HR0_0.out HB.out))
    (case side2 => exact HC0_0.out)
    rintro e w270 ⟨v320, rfl, ho0, hb⟩
    refine ⟨_, rfl, ?_⟩
    have n0_ := Aside0.mk (Kd.R_elder' (zr HO_305000.out) (Kd.R_base ho0) hb)
    have n1_ := Aside0.mk (Kd.R_elder' (zr HO_309000.out) (Kd.R_base ho0) hb)
    have n2_ := Aside0.mk (Kd.R_elder' (zr HO_313000.out) (Kd.R_base ho0) hb)
    have n3_ := Aside0.mk (Kd.R_elder' (zr HO_318000.out) (Kd.R_base ho0) hb)
    have n4_ := Aside0.mk (Kd.R_lower (Kd.R_new' (Kd.R_new' (Kd.R_new' (Kd.R_new' ho0 (Kd.R_lt (zr HO_305000.out))) (Kd.R_lt (zr HO_309000.out))) (Kd.R_lt (zr HO_313000.out))) (Kd.R_lt (zr HO_318000.out))) (below_size (zb HB.out)))
    have n5_ := Aside0.mk (blk_below (zh BK290.out) hb)
    have n6_ := Aside0.mk (blk_below (zh BK291.out) hb)
    have n7_ := Aside0.mk (blk_below (zh BK304.out) hb)
    have n8_ := Aside0.mk (blk_below (zh BK308.out) hb)
    have n9_ := Aside0.mk (blk_below (zh BK312.out) hb)
    have n10_ := Aside0.mk (blk_below (zh BK317.out) hb)
    have n11_ := Aside0.mk (below_step (zb HB.out) hb)
    clear HO_305000 HO_309000 HO_313000 HO_318000 BK290 BK291 BK304 BK308 BK312 BK317 HB
    have HO_305000 := n0_
    have HO_309000 := n1_
    have HO_313000 := n2_
    have HO_318000 := n3_
    have HO321 := n4_
    have BK290 := n5_
    have BK291 := n6_
    have BK304 := n7_
    have BK308 := n8_
    have BK312 := n9_
    have BK317 := n10_
    have HB := n11_
    clear n0_ n1_ n2_ n3_ n4_ n5_ n6_ n7_ n8_ n9_ n10_ n11_
    (try clear hb)
    (try clear hb2)
    (try clear hk)
    (try clear hi)
    (try clear ho0)
    obtain ⟨Ao271, co271, eo271⟩ := Kd.R_slice HO321.out
    (first | subst eo271 | (injection eo271 with f1_ f2_ f3_; have f4_ := f1_.symm; have f5_ := f3_.symm; clear f1_ f2_ f3_; subst f4_; subst f5_))
    refine hK.out _ _ ⟨(blk_cell BK308.out 0).trans rfl, (blk_cell BK290.out 0).trans rfl⟩ (fun hHeld => ?_)
    clear hK K
    refine norm_ (a' := ?_) ?_ ?_
    rotate_left
    ·exact zn (N := some 60)
    refine one_ (i := 3) (N := some 61) #[true, true, true, true, false] rfl rfl (by kernel_rfl) (by decide) (fun K hK => ?_)
    refine goes_ Try.func11 (by kernel_rfl) rfl #[.agg #[.slice Ao48 t305.length co48], .agg #[.slice Ao271 t319.length co271]] (by rfl) rfl rfl zl ?_
    with_reducible refine (laws_eqPool.calls kj25 _ _ t305 _ _ t319 false _ ?side1 ?side2 ?side3 ?side4 A101.out).mono ?_
    (case side1 => exact zc (Kd.R_reads' HO_309000.out).2.2)
    (case side2 => exact (Kd.R_reads' HO_309000.out).2.1)
    (case side3 => exact zc (Kd.R_reads' HO321.out).2.2)
    (case side4 => exact (Kd.R_reads' HO321.out).2.1)
    rintro e w272 ⟨rfl, hb⟩
    refine ⟨_, rfl, ?_⟩
    have n0_ := Aside0.mk (Kd.R_below (zr HO_305000.out) hb)
    have n1_ := Aside0.mk (Kd.R_below (zr HO_309000.out) hb)
    have n2_ := Aside0.mk (Kd.R_below (zr HO_313000.out) hb)
    have n3_ := Aside0.mk (Kd.R_below (zr HO_318000.out) hb)
    have n4_ := Aside0.mk (Kd.R_below (zr HO321.out) hb)
    have n5_ := Aside0.mk (blk_below (zh BK290.out) hb)
    have n6_ := Aside0.mk (blk_below (zh BK291.out) hb)
    have n7_ := Aside0.mk (blk_below (zh BK304.out) hb)
    have n8_ := Aside0.mk (blk_below (zh BK308.out) hb)
    have n9_ := Aside0.mk (blk_below (zh BK312.out) hb)
    have n10_ := Aside0.mk (blk_below (zh BK317.out) hb)
    have n11_ := Aside0.mk (below_step (zb HB.out) hb)
    clear HO_305000 HO_309000 HO_313000 HO_318000 HO321 BK290 BK291 BK304 BK308 BK312 BK317 HB
    have HO_305000 := n0_
    have HO_309000 := n1_
    have HO_313000 := n2_
    have HO_318000 := n3_
    have HO321 := n4_
    have BK290 := n5_
    have BK291 := n6_
    have BK304 := n7_
    have BK308 := n8_
    have BK312 := n9_
    have BK317 := n10_
    have HB := n11_
    clear n0_ n1_ n2_ n3_ n4_ n5_ n6_ n7_ n8_ n9_ n10_ n11_
    (try clear hb)
    (try clear hb2)
    (try clear hk)
    (try clear hi)
    refine hK.out _ _ ⟨(blk_cell BK308.out 0).trans rfl, (blk_cell BK290.out 0).trans rfl⟩ (fun hHeld => ?_)
    clear hK K
    refine norm_ (a' := ?_) ?_ ?_
    rotate_left
    ·exact zn (N := some 61)
    refine pure_ (i := 4) (N := some 62) (v := ?_) (a' := ?_) #[true, true, true, true, true] rfl rfl (by kernel_rfl) (fun _ _ _ h => h) (Or.inl ⟨by rfl, ?_⟩) ?_ ?_
    rotate_left
    ·intro w'
     go_simp
     with_reducible rfl
    rotate_left
    ·exact zn
    refine done_ (by kernel_rfl) ?_
    try go_wp2
    go_ret
    exact ⟨ze, zb HB.out⟩

   subst c102
   have H1 : ((laws_toPool.f kj25 l2_0).bind fun t323 => ((laws_eqPool.f kj25 t309 t323).bind fun t326 => (if t326 = true then ((laws_markPool.f kj25 t305 1).bind fun bt327 => ((laws_markPool.f kj25 t309 bt327.1).bind fun bt329 => (if bt329.1 < 0 then (laws_FnExactTermMove.j1 kj25 a1 t303 true l0_0 l2_0 t300 t313) else ((laws_eqPool.f kj25 t313 t300).bind fun t331 => (if t331 = true then (laws_FnExactTermMove.j1 kj25 a1 t303 (t316 != t303) l0_0 l2_0 t300 t313) else (laws_FnExactTermMove.j1 kj25 a1 t303 true l0_0 l2_0 t300 t313)))))) else (some false)))) = some r := by rw [if_pos rfl] at H; exact H
   clear H
   have H := H1
   clear H1
   replace H := Option.bind_eq_some_iff.mp H
   obtain ⟨t323, A1030, H⟩ := H
   replace H : ((laws_eqPool.f kj25 t309 t323).bind fun t326 => (if t326 = true then ((laws_markPool.f kj25 t305 1).bind fun bt327 => ((laws_markPool.f kj25 t309 bt327.1).bind fun bt329 => (if bt329.1 < 0 then (laws_FnExactTermMove.j1 kj25 a1 t303 true l0_0 l2_0 t300 t313) else ((laws_eqPool.f kj25 t313 t300).bind fun t331 => (if t331 = true then (laws_FnExactTermMove.j1 kj25 a1 t303 (t316 != t303) l0_0 l2_0 t300 t313) else (laws_FnExactTermMove.j1 kj25 a1 t303 true l0_0 l2_0 t300 t313)))))) else (some false))) = some r := H
   have A103 := Aside0.mk A1030
   clear A1030
   replace H := Option.bind_eq_some_iff.mp H
   obtain ⟨t326, A1040, H⟩ := H
   replace H : (if t326 = true then ((laws_markPool.f kj25 t305 1).bind fun bt327 => ((laws_markPool.f kj25 t309 bt327.1).bind fun bt329 => (if bt329.1 < 0 then (laws_FnExactTermMove.j1 kj25 a1 t303 true l0_0 l2_0 t300 t313) else ((laws_eqPool.f kj25 t313 t300).bind fun t331 => (if t331 = true then (laws_FnExactTermMove.j1 kj25 a1 t303 (t316 != t303) l0_0 l2_0 t300 t313) else (laws_FnExactTermMove.j1 kj25 a1 t303 true l0_0 l2_0 t300 t313)))))) else (some false)) = some r := H
   have A104 := Aside0.mk A1040
   clear A1040
   by_cases c105 : t326 = true
   rotate_left
   ·replace c105 := Bool.eq_false_iff.mpr c105
    subst c105
    have H1 : (some false) = some r := by rw [if_neg (show ¬ (false = true) by decide)] at H; exact H
    clear H
    have H := H1
    clear H1
    obtain rfl := Option.some.inj H
    try go_wp2
    have n0_ := Aside0.mk (Kd.R_drew HO_305000.out)
    have n1_ := Aside0.mk (Kd.R_drew HO_309000.out)
    have n2_ := Aside0.mk (Kd.R_drew HO_313000.out)
    have n3_ := Aside0.mk (Kd.R_drew HO_318000.out)
    have n4_ := Aside0.mk (blk_drew BK290.out)
    have n5_ := Aside0.mk (blk_drew BK291.out)
    have n6_ := Aside0.mk (blk_drew BK304.out)
    have n7_ := Aside0.mk (blk_drew BK308.out)
    have n8_ := Aside0.mk (blk_drew BK312.out)
    have n9_ := Aside0.mk (blk_drew BK317.out)
    have n10_ := Aside0.mk (below_drew1 HB.out)
    clear HO_305000 HO_309000 HO_313000 HO_318000 BK290 BK291 BK304 BK308 BK312 BK317 HB
    have HO_305000 := n0_
    have HO_309000 := n1_
    have HO_313000 := n2_
    have HO_318000 := n3_
    have BK290 := n4_
    have BK291 := n5_
    have BK304 := n6_
    have BK308 := n7_
    have BK312 := n8_
    have BK317 := n9_
    have HB := n10_
    clear n0_ n1_ n2_ n3_ n4_ n5_ n6_ n7_ n8_ n9_ n10_
    refine start_ (n := 5) (S := fun w' => w'.cell? ⟨gb308, 0, none⟩ = some (.slice Ao48 t305.length co48) ∧ w'.cell? ⟨gb290, 0, none⟩ = some (.slice A0_0 l0_0.length c0_0)) (ds := []) #[false, false, false, false, false] (by kernel_rfl) rfl rfl ⟨(blk_cell BK308.out 0).trans rfl, (blk_cell BK290.out 0).trans rfl⟩ (fun hHeld => ?_)
    generalize wc.drew = w261 at HO_305000 HO_309000 HO_313000 HO_318000 BK290 BK291 BK304 BK308 BK312 BK317 HB hHeld ⊢
    refine take_ (i := 0) (N := some 58) (v := ?_) (a' := ?_) #[true, false, false, false, false] rfl rfl (by kernel_rfl) (fun _ _ _ h => h) (Or.inl ⟨by rfl, ?_⟩) hHeld ?_ ?_
    rotate_left
    ·rintro w' ⟨s0, s1⟩
     go_simp
     with_reducible rfl
    rotate_left
    ·exact zn
    refine take_ (i := 1) (N := some 59) (v := ?_) (a' := ?_) #[true, true, false, false, false] rfl rfl (by kernel_rfl) (fun _ _ _ h => h) (Or.inl ⟨by rfl, ?_⟩) hHeld ?_ ?_
    rotate_left
    ·rintro w' ⟨s0, s1⟩
     go_simp
     with_reducible rfl
    rotate_left
    ·exact zn
    refine one_ (i := 2) (N := some 60) #[true, true, true, false, false] rfl rfl (by kernel_rfl) (by decide) (fun K hK => ?_)
    refine goes_ Try.func9 (by kernel_rfl) rfl #[.agg #[.slice A0_0 l0_0.length c0_0]] (by rfl) rfl rfl zl ?_
    with_reducible refine (laws_toPool.calls kj25 _ _ l0_0 t319 _ ?side1 ?side2 A100.out).mono ?_
    (case side1 => exact zc (Kd.C_below HR0_0.out HB.out))
    (case side2 => exact HC0_0.out)
    rintro e w262 ⟨v320, rfl, ho0, hb⟩
    refine ⟨_, rfl, ?_⟩
    have n0_ := Aside0.mk (Kd.R_elder' (zr HO_305000.out) (Kd.R_base ho0) hb)
    have n1_ := Aside0.mk (Kd.R_elder' (zr HO_309000.out) (Kd.R_base ho0) hb)
    have n2_ := Aside0.mk (Kd.R_elder' (zr HO_313000.out) (Kd.R_base ho0) hb)
    have n3_ := Aside0.mk (Kd.R_elder' (zr HO_318000.out) (Kd.R_base ho0) hb)
    have n4_ := Aside0.mk (Kd.R_lower (Kd.R_new' (Kd.R_new' (Kd.R_new' (Kd.R_new' ho0 (Kd.R_lt (zr HO_305000.out))) (Kd.R_lt (zr HO_309000.out))) (Kd.R_lt (zr HO_313000.out))) (Kd.R_lt (zr HO_318000.out))) (below_size (zb HB.out)))
    have n5_ := Aside0.mk (blk_below (zh BK290.out) hb)
    have n6_ := Aside0.mk (blk_below (zh BK291.out) hb)
    have n7_ := Aside0.mk (blk_below (zh BK304.out) hb)
    have n8_ := Aside0.mk (blk_below (zh BK308.out) hb)
    have n9_ := Aside0.mk (blk_below (zh BK312.out) hb)
    have n10_ := Aside0.mk (blk_below (zh BK317.out) hb)
    have n11_ := Aside0.mk (below_step (zb HB.out) hb)
    clear HO_305000 HO_309000 HO_313000 HO_318000 BK290 BK291 BK304 BK308 BK312 BK317 HB
    have HO_305000 := n0_
    have HO_309000 := n1_
    have HO_313000 := n2_
    have HO_318000 := n3_
    have HO321 := n4_
    have BK290 := n5_
    have BK291 := n6_
    have BK304 := n7_
    have BK308 := n8_
    have BK312 := n9_
    have BK317 := n10_
    have HB := n11_
    clear n0_ n1_ n2_ n3_ n4_ n5_ n6_ n7_ n8_ n9_ n10_ n11_
    (try clear hb)
    (try clear hb2)
    (try clear hk)
    (try clear hi)
    (try clear ho0)
    obtain ⟨Ao263, co263, eo263⟩ := Kd.R_slice HO321.out
    (first | subst eo263 | (injection eo263 with f1_ f2_ f3_; have f4_ := f1_.symm; have f5_ := f3_.symm; clear f1_ f2_ f3_; subst f4_; subst f5_))
    refine hK.out _ _ ⟨(blk_cell BK308.out 0).trans rfl, (blk_cell BK290.out 0).trans rfl⟩ (fun hHeld => ?_)
    clear hK K
    refine norm_ (a' := ?_) ?_ ?_
    rotate_left
    ·exact zn (N := some 60)
    refine one_ (i := 3) (N := some 61) #[true, true, true, true, false] rfl rfl (by kernel_rfl) (by decide) (fun K hK => ?_)
    refine goes_ Try.func11 (by kernel_rfl) rfl #[.agg #[.slice Ao48 t305.length co48], .agg #[.slice Ao263 t319.length co263]] (by rfl) rfl rfl zl ?_
    with_reducible refine (laws_eqPool.calls kj25 _ _ t305 _ _ t319 true _ ?side1 ?side2 ?side3 ?side4 A101.out).mono ?_
    (case side1 => exact zc (Kd.R_reads' HO_309000.out).2.2)
    (case side2 => exact (Kd.R_reads' HO_309000.out).2.1)
    (case side3 => exact zc (Kd.R_reads' HO321.out).2.2)
    (case side4 => exact (Kd.R_reads' HO321.out).2.1)
    rintro e w264 ⟨rfl, hb⟩
    refine ⟨_, rfl, ?_⟩
    have n0_ := Aside0.mk (Kd.R_below (zr HO_305000.out) hb)
    have n1_ := Aside0.mk (Kd.R_below (zr HO_309000.out) hb)
    have n2_ := Aside0.mk (Kd.R_below (zr HO_313000.out) hb)
    have n3_ := Aside0.mk (Kd.R_below (zr HO_318000.out) hb)
    have n4_ := Aside0.mk (Kd.R_below (zr HO321.out) hb)
    have n5_ := Aside0.mk (blk_below (zh BK290.out) hb)
    have n6_ := Aside0.mk (blk_below (zh BK291.out) hb)
    have n7_ := Aside0.mk (blk_below (zh BK304.out) hb)
    have n8_ := Aside0.mk (blk_below (zh BK308.out) hb)
    have n9_ := Aside0.mk (blk_below (zh BK312.out) hb)
    have n10_ := Aside0.mk (blk_below (zh BK317.out) hb)
    have n11_ := Aside0.mk (below_step (zb HB.out) hb)
    clear HO_305000 HO_309000 HO_313000 HO_318000 HO321 BK290 BK291 BK304 BK308 BK312 BK317 HB
    have HO_305000 := n0_
    have HO_309000 := n1_
    have HO_313000 := n2_
    have HO_318000 := n3_
    have HO321 := n4_
    have BK290 := n5_
    have BK291 := n6_
    have BK304 := n7_
    have BK308 := n8_
    have BK312 := n9_
    have BK317 := n10_
    have HB := n11_
    clear n0_ n1_ n2_ n3_ n4_ n5_ n6_ n7_ n8_ n9_ n10_ n11_
    (try clear hb)
    (try clear hb2)
    (try clear hk)
    (try clear hi)
    refine hK.out _ _ ⟨(blk_cell BK308.out 0).trans rfl, (blk_cell BK290.out 0).trans rfl⟩ (fun hHeld => ?_)
    clear hK K
    refine norm_ (a' := ?_) ?_ ?_
    rotate_left
    ·exact zn (N := some 61)
    refine pure_ (i := 4) (N := some 62) (v := ?_) (a' := ?_) #[true, true, true, true, true] rfl rfl (by kernel_rfl) (fun _ _ _ h => h) (Or.inl ⟨by rfl, ?_⟩) ?_ ?_
    rotate_left
    ·intro w'
     go_simp
     with_reducible rfl
    rotate_left
    ·exact zn
    refine done_ (by kernel_rfl) ?_
    try go_wp2
    have n0_ := Aside0.mk (Kd.R_drew HO_305000.out)
    have n1_ := Aside0.mk (Kd.R_drew HO_309000.out)
    have n2_ := Aside0.mk (Kd.R_drew HO_313000.out)
    have n3_ := Aside0.mk (Kd.R_drew HO_318000.out)
    have n4_ := Aside0.mk (Kd.R_drew HO321.out)
    have n5_ := Aside0.mk (blk_drew BK290.out)
    have n6_ := Aside0.mk (blk_drew BK291.out)
    have n7_ := Aside0.mk (blk_drew BK304.out)
    have n8_ := Aside0.mk (blk_drew BK308.out)
    have n9_ := Aside0.mk (blk_drew BK312.out)
    have n10_ := Aside0.mk (blk_drew BK317.out)
    have n11_ := Aside0.mk (below_drew1 HB.out)
    clear HO_305000 HO_309000 HO_313000 HO_318000 HO321 BK290 BK291 BK304 BK308 BK312 BK317 HB
    have HO_305000 := n0_
    have HO_309000 := n1_
    have HO_313000 := n2_
    have HO_318000 := n3_
    have HO321 := n4_
    have BK290 := n5_
    have BK291 := n6_
    have BK304 := n7_
    have BK308 := n8_
    have BK312 := n9_
    have BK317 := n10_
    have HB := n11_
    clear n0_ n1_ n2_ n3_ n4_ n5_ n6_ n7_ n8_ n9_ n10_ n11_
    refine start_ (n := 5) (S := fun w' => w'.cell? ⟨gb312, 0, none⟩ = some (.slice Ao57 t309.length co57) ∧ w'.cell? ⟨gb291, 0, none⟩ = some (.slice A2_0 l2_0.length c2_0)) (ds := []) #[false, false, false, false, false] (by kernel_rfl) rfl rfl ⟨(blk_cell BK312.out 0).trans rfl, (blk_cell BK291.out 0).trans rfl⟩ (fun hHeld => ?_)
    generalize w264.drew = w265 at HO_305000 HO_309000 HO_313000 HO_318000 HO321 BK290 BK291 BK304 BK308 BK312 BK317 HB hHeld ⊢
    refine take_ (i := 0) (N := some 63) (v := ?_) (a' := ?_) #[true, false, false, false, false] rfl rfl (by kernel_rfl) (fun _ _ _ h => h) (Or.inl ⟨by rfl, ?_⟩) hHeld ?_ ?_
    rotate_left
    ·rintro w' ⟨s0, s1⟩
     go_simp
     with_reducible rfl
    rotate_left
    ·exact zn
    refine take_ (i := 1) (N := some 64) (v := ?_) (a' := ?_) #[true, true, false, false, false] rfl rfl (by kernel_rfl) (fun _ _ _ h => h) (Or.inl ⟨by rfl, ?_⟩) hHeld ?_ ?_
    rotate_left
    ·rintro w' ⟨s0, s1⟩
     go_simp
     with_reducible rfl
    rotate_left
    ·exact zn
    refine one_ (i := 2) (N := some 65) #[true, true, true, false, false] rfl rfl (by kernel_rfl) (by decide) (fun K hK => ?_)
    refine goes_ Try.func9 (by kernel_rfl) rfl #[.agg #[.slice A2_0 l2_0.length c2_0]] (by rfl) rfl rfl zl ?_
    with_reducible refine (laws_toPool.calls kj25 _ _ l2_0 t323 _ ?side1 ?side2 A103.out).mono ?_
    (case side1 => exact zc (Kd.C_below HR2_0.out HB.out))
    (case side2 => exact HC2_0.out)
    rintro e w266 ⟨v324, rfl, ho0, hb⟩
    refine ⟨_, rfl, ?_⟩
    have n0_ := Aside0.mk (Kd.R_elder' (zr HO_305000.out) (Kd.R_base ho0) hb)
    have n1_ := Aside0.mk (Kd.R_elder' (zr HO_309000.out) (Kd.R_base ho0) hb)
    have n2_ := Aside0.mk (Kd.R_elder' (zr HO_313000.out) (Kd.R_base ho0) hb)
    have n3_ := Aside0.mk (Kd.R_elder' (zr HO_318000.out) (Kd.R_base ho0) hb)
    have n4_ := Aside0.mk (Kd.R_elder' (zr HO321.out) (Kd.R_base ho0) hb)
    have n5_ := Aside0.mk (Kd.R_lower (Kd.R_new' (Kd.R_new' (Kd.R_new' (Kd.R_new' (Kd.R_new' ho0 (Kd.R_lt (zr HO_305000.out))) (Kd.R_lt (zr HO_309000.out))) (Kd.R_lt (zr HO_313000.out))) (Kd.R_lt (zr HO_318000.out))) (Kd.R_lt (zr HO321.out))) (below_size (zb HB.out)))
    have n6_ := Aside0.mk (blk_below (zh BK290.out) hb)
    have n7_ := Aside0.mk (blk_below (zh BK291.out) hb)
    have n8_ := Aside0.mk (blk_below (zh BK304.out) hb)
    have n9_ := Aside0.mk (blk_below (zh BK308.out) hb)
    have n10_ := Aside0.mk (blk_below (zh BK312.out) hb)
    have n11_ := Aside0.mk (blk_below (zh BK317.out) hb)
    have n12_ := Aside0.mk (below_step (zb HB.out) hb)
    clear HO_305000 HO_309000 HO_313000 HO_318000 HO321 BK290 BK291 BK304 BK308 BK312 BK317 HB
    have HO_305000 := n0_
    have HO_309000 := n1_
    have HO_313000 := n2_
    have HO_318000 := n3_
    have HO321 := n4_
    have HO325 := n5_
    have BK290 := n6_
    have BK291 := n7_
    have BK304 := n8_
    have BK308 := n9_
    have BK312 := n10_
    have BK317 := n11_
    have HB := n12_
    clear n0_ n1_ n2_ n3_ n4_ n5_ n6_ n7_ n8_ n9_ n10_ n11_ n12_
    (try clear hb)
    (try clear hb2)
    (try clear hk)
    (try clear hi)
    (try clear ho0)
    obtain ⟨Ao267, co267, eo267⟩ := Kd.R_slice HO325.out
    (first | subst eo267 | (injection eo267 with f1_ f2_ f3_; have f4_ := f1_.symm; have f5_ := f3_.symm; clear f1_ f2_ f3_; subst f4_; subst f5_))
    refine hK.out _ _ ⟨(blk_cell BK312.out 0).trans rfl, (blk_cell BK291.out 0).trans rfl⟩ (fun hHeld => ?_)
    clear hK K
    refine norm_ (a' := ?_) ?_ ?_
    rotate_left
    ·exact zn (N := some 65)
    refine one_ (i := 3) (N := some 66) #[true, true, true, true, false] rfl rfl (by kernel_rfl) (by decide) (fun K hK => ?_)
    refine goes_ Try.func11 (by kernel_rfl) rfl #[.agg #[.slice Ao57 t309.length co57], .agg #[.slice Ao267 t323.length co267]] (by rfl) rfl rfl zl ?_
    with_reducible refine (laws_eqPool.calls kj25 _ _ t309 _ _ t323 false _ ?side1 ?side2 ?side3 ?side4 A104.out).mono ?_
    (case side1 => exact zc (Kd.R_reads' HO_313000.out).2.2)
    (case side2 => exact (Kd.R_reads' HO_313000.out).2.1)
    (case side3 => exact zc (Kd.R_reads' HO325.out).2.2)
    (case side4 => exact (Kd.R_reads' HO325.out).2.1)
    rintro e w268 ⟨rfl, hb⟩
    refine ⟨_, rfl, ?_⟩
    have n0_ := Aside0.mk (Kd.R_below (zr HO_305000.out) hb)
    have n1_ := Aside0.mk (Kd.R_below (zr HO_309000.out) hb)
    have n2_ := Aside0.mk (Kd.R_below (zr HO_313000.out) hb)
    have n3_ := Aside0.mk (Kd.R_below (zr HO_318000.out) hb)
    have n4_ := Aside0.mk (Kd.R_below (zr HO321.out) hb)
    have n5_ := Aside0.mk (Kd.R_below (zr HO325.out) hb)
    have n6_ := Aside0.mk (blk_below (zh BK290.out) hb)
    have n7_ := Aside0.mk (blk_below (zh BK291.out) hb)
    have n8_ := Aside0.mk (blk_below (zh BK304.out) hb)
    have n9_ := Aside0.mk (blk_below (zh BK308.out) hb)
    have n10_ := Aside0.mk (blk_below (zh BK312.out) hb)
    have n11_ := Aside0.mk (blk_below (zh BK317.out) hb)
    have n12_ := Aside0.mk (below_step (zb HB.out) hb)
    clear HO_305000 HO_309000 HO_313000 HO_318000 HO321 HO325 BK290 BK291 BK304 BK308 BK312 BK317 HB
    have HO_305000 := n0_
    have HO_309000 := n1_
    have HO_313000 := n2_
    have HO_318000 := n3_
    have HO321 := n4_
    have HO325 := n5_
    have BK290 := n6_
    have BK291 := n7_
    have BK304 := n8_
    have BK308 := n9_
    have BK312 := n10_
    have BK317 := n11_
    have HB := n12_
    clear n0_ n1_ n2_ n3_ n4_ n5_ n6_ n7_ n8_ n9_ n10_ n11_ n12_
    (try clear hb)
    (try clear hb2)
    (try clear hk)
    (try clear hi)
    refine hK.out _ _ ⟨(blk_cell BK312.out 0).trans rfl, (blk_cell BK291.out 0).trans rfl⟩ (fun hHeld => ?_)
    clear hK K
    refine norm_ (a' := ?_) ?_ ?_
    rotate_left
    ·exact zn (N := some 66)
    refine pure_ (i := 4) (N := some 67) (v := ?_) (a' := ?_) #[true, true, true, true, true] rfl rfl (by kernel_rfl) (fun _ _ _ h => h) (Or.inl ⟨by rfl, ?_⟩) ?_ ?_
    rotate_left
    ·intro w'
     go_simp
     with_reducible rfl
    rotate_left
    ·exact zn
    refine done_ (by kernel_rfl) ?_
    try go_wp2
    go_ret
    exact ⟨ze, zb HB.out⟩
   subst c105
   have H1 : ((laws_markPool.f kj25 t305 1).bind fun bt327 => ((laws_markPool.f kj25 t309 bt327.1).bind fun bt329 => (if bt329.1 < 0 then (laws_FnExactTermMove.j1 kj25 a1 t303 true l0_0 l2_0 t300 t313) else ((laws_eqPool.f kj25 t313 t300).bind fun t331 => (if t331 = true then (laws_FnExactTermMove.j1 kj25 a1 t303 (t316 != t303) l0_0 l2_0 t300 t313) else (laws_FnExactTermMove.j1 kj25 a1 t303 true l0_0 l2_0 t300 t313)))))) = some r := by rw [if_pos rfl] at H; exact H
   clear H
   have H := H1
   clear H1
   replace H := Option.bind_eq_some_iff.mp H
   obtain ⟨⟨t327, t328⟩, A1060, H⟩ := H
   replace H : ((laws_markPool.f kj25 t309 t327).bind fun bt329 => (if bt329.1 < 0 then (laws_FnExactTermMove.j1 kj25 a1 t303 true l0_0 l2_0 t300 t313) else ((laws_eqPool.f kj25 t313 t300).bind fun t331 => (if t331 = true then (laws_FnExactTermMove.j1 kj25 a1 t303 (t316 != t303) l0_0 l2_0 t300 t313) else (laws_FnExactTermMove.j1 kj25 a1 t303 true l0_0 l2_0 t300 t313))))) = some r := H
   have A106 := Aside0.mk A1060
   clear A1060
   replace H := Option.bind_eq_some_iff.mp H
   obtain ⟨⟨t329, t330⟩, A1070, H⟩ := H
   replace H : (if t329 < 0 then (laws_FnExactTermMove.j1 kj25 a1 t303 true l0_0 l2_0 t300 t313) else ((laws_eqPool.f kj25 t313 t300).bind fun t331 => (if t331 = true then (laws_FnExactTermMove.j1 kj25 a1 t303 (t316 != t303) l0_0 l2_0 t300 t313) else (laws_FnExactTermMove.j1 kj25 a1 t303 true l0_0 l2_0 t300 t313)))) = some r := H
   have A107 := Aside0.mk A1070
   clear A1070
   have HC108 := Aside0.mk H
   clear H
   try go_wp2
   have n0_ := Aside0.mk (Kd.R_drew HO_305000.out)
   have n1_ := Aside0.mk (Kd.R_drew HO_309000.out)
   have n2_ := Aside0.mk (Kd.R_drew HO_313000.out)
   have n3_ := Aside0.mk (Kd.R_drew HO_318000.out)
   have n4_ := Aside0.mk (blk_drew BK290.out)
   have n5_ := Aside0.mk (blk_drew BK291.out)
   have n6_ := Aside0.mk (blk_drew BK304.out)
   have n7_ := Aside0.mk (blk_drew BK308.out)
   have n8_ := Aside0.mk (blk_drew BK312.out)
   have n9_ := Aside0.mk (blk_drew BK317.out)
   have n10_ := Aside0.mk (below_drew1 HB.out)
   clear HO_305000 HO_309000 HO_313000 HO_318000 BK290 BK291 BK304 BK308 BK312 BK317 HB
   have HO_305000 := n0_
   have HO_309000 := n1_
   have HO_313000 := n2_
   have HO_318000 := n3_
   have BK290 := n4_
   have BK291 := n5_
   have BK304 := n6_
   have BK308 := n7_
   have BK312 := n8_
   have BK317 := n9_
   have HB := n10_
   clear n0_ n1_ n2_ n3_ n4_ n5_ n6_ n7_ n8_ n9_ n10_
   refine start_ (n := 5) (S := fun w' => w'.cell? ⟨gb308, 0, none⟩ = some (.slice Ao48 t305.length co48) ∧ w'.cell? ⟨gb290, 0, none⟩ = some (.slice A0_0 l0_0.length c0_0)) (ds := []) #[false, false, false, false, false] (by kernel_rfl) rfl rfl ⟨(blk_cell BK308.out 0).trans rfl, (blk_cell BK290.out 0).trans rfl⟩ (fun hHeld => ?_)
   generalize wc.drew = w109 at HO_305000 HO_309000 HO_313000 HO_318000 BK290 BK291 BK304 BK308 BK312 BK317 HB hHeld ⊢
   refine take_ (i := 0) (N := some 58) (v := ?_) (a' := ?_) #[true, false, false, false, false] rfl rfl (by kernel_rfl) (fun _ _ _ h => h) (Or.inl ⟨by rfl, ?_⟩) hHeld ?_ ?_
   rotate_left
   ·rintro w' ⟨s0, s1⟩
    go_simp
    with_reducible rfl
   rotate_left
   ·exact zn
   refine take_ (i := 1) (N := some 59) (v := ?_) (a' := ?_) #[true, true, false, false, false] rfl rfl (by kernel_rfl) (fun _ _ _ h => h) (Or.inl ⟨by rfl, ?_⟩) hHeld ?_ ?_
   rotate_left
   ·rintro w' ⟨s0, s1⟩
    go_simp
    with_reducible rfl
   rotate_left
   ·exact zn
   refine one_ (i := 2) (N := some 60) #[true, true, true, false, false] rfl rfl (by kernel_rfl) (by decide) (fun K hK => ?_)
   refine goes_ Try.func9 (by kernel_rfl) rfl #[.agg #[.slice A0_0 l0_0.length c0_0]] (by rfl) rfl rfl zl ?_
   with_reducible refine (laws_toPool.calls kj25 _ _ l0_0 t319 _ ?side1 ?side2 A100.out).mono ?_
   (case side1 => exact zc (Kd.C_below HR0_0.out HB.out))
   (case side2 => exact HC0_0.out)
   rintro e w110 ⟨v320, rfl, ho0, hb⟩
   refine ⟨_, rfl, ?_⟩
   have n0_ := Aside0.mk (Kd.R_elder' (zr HO_305000.out) (Kd.R_base ho0) hb)
   have n1_ := Aside0.mk (Kd.R_elder' (zr HO_309000.out) (Kd.R_base ho0) hb)
   have n2_ := Aside0.mk (Kd.R_elder' (zr HO_313000.out) (Kd.R_base ho0) hb)
   have n3_ := Aside0.mk (Kd.R_elder' (zr HO_318000.out) (Kd.R_base ho0) hb)
   have n4_ := Aside0.mk (Kd.R_lower (Kd.R_new' (Kd.R_new' (Kd.R_new' (Kd.R_new' ho0 (Kd.R_lt (zr HO_305000.out))) (Kd.R_lt (zr HO_309000.out))) (Kd.R_lt (zr HO_313000.out))) (Kd.R_lt (zr HO_318000.out))) (below_size (zb HB.out)))
   have n5_ := Aside0.mk (blk_below (zh BK290.out) hb)
   have n6_ := Aside0.mk (blk_below (zh BK291.out) hb)
   have n7_ := Aside0.mk (blk_below (zh BK304.out) hb)
   have n8_ := Aside0.mk (blk_below (zh BK308.out) hb)
   have n9_ := Aside0.mk (blk_below (zh BK312.out) hb)
   have n10_ := Aside0.mk (blk_below (zh BK317.out) hb)
   have n11_ := Aside0.mk (below_step (zb HB.out) hb)
   clear HO_305000 HO_309000 HO_313000 HO_318000 BK290 BK291 BK304 BK308 BK312 BK317 HB
   have HO_305000 := n0_
   have HO_309000 := n1_
   have HO_313000 := n2_
   have HO_318000 := n3_
   have HO321 := n4_
   have BK290 := n5_
   have BK291 := n6_
   have BK304 := n7_
   have BK308 := n8_
   have BK312 := n9_
   have BK317 := n10_
   have HB := n11_
   clear n0_ n1_ n2_ n3_ n4_ n5_ n6_ n7_ n8_ n9_ n10_ n11_
   (try clear hb)
   (try clear hb2)
   (try clear hk)
   (try clear hi)
   (try clear ho0)
   obtain ⟨Ao111, co111, eo111⟩ := Kd.R_slice HO321.out
   (first | subst eo111 | (injection eo111 with f1_ f2_ f3_; have f4_ := f1_.symm; have f5_ := f3_.symm; clear f1_ f2_ f3_; subst f4_; subst f5_))
   refine hK.out _ _ ⟨(blk_cell BK308.out 0).trans rfl, (blk_cell BK290.out 0).trans rfl⟩ (fun hHeld => ?_)
   clear hK K
   refine norm_ (a' := ?_) ?_ ?_
   rotate_left
   ·exact zn (N := some 60)
   refine one_ (i := 3) (N := some 61) #[true, true, true, true, false] rfl rfl (by kernel_rfl) (by decide) (fun K hK => ?_)
   refine goes_ Try.func11 (by kernel_rfl) rfl #[.agg #[.slice Ao48 t305.length co48], .agg #[.slice Ao111 t319.length co111]] (by rfl) rfl rfl zl ?_
   with_reducible refine (laws_eqPool.calls kj25 _ _ t305 _ _ t319 true _ ?side1 ?side2 ?side3 ?side4 A101.out).mono ?_
   (case side1 => exact zc (Kd.R_reads' HO_309000.out).2.2)
   (case side2 => exact (Kd.R_reads' HO_309000.out).2.1)
   (case side3 => exact zc (Kd.R_reads' HO321.out).2.2)
   (case side4 => exact (Kd.R_reads' HO321.out).2.1)
   rintro e w112 ⟨rfl, hb⟩
   refine ⟨_, rfl, ?_⟩
   have n0_ := Aside0.mk (Kd.R_below (zr HO_305000.out) hb)
   have n1_ := Aside0.mk (Kd.R_below (zr HO_309000.out) hb)
   have n2_ := Aside0.mk (Kd.R_below (zr HO_313000.out) hb)
   have n3_ := Aside0.mk (Kd.R_below (zr HO_318000.out) hb)
   have n4_ := Aside0.mk (Kd.R_below (zr HO321.out) hb)
   have n5_ := Aside0.mk (blk_below (zh BK290.out) hb)
   have n6_ := Aside0.mk (blk_below (zh BK291.out) hb)
   have n7_ := Aside0.mk (blk_below (zh BK304.out) hb)
   have n8_ := Aside0.mk (blk_below (zh BK308.out) hb)
   have n9_ := Aside0.mk (blk_below (zh BK312.out) hb)
   have n10_ := Aside0.mk (blk_below (zh BK317.out) hb)
   have n11_ := Aside0.mk (below_step (zb HB.out) hb)
   clear HO_305000 HO_309000 HO_313000 HO_318000 HO321 BK290 BK291 BK304 BK308 BK312 BK317 HB
   have HO_305000 := n0_
   have HO_309000 := n1_
   have HO_313000 := n2_
   have HO_318000 := n3_
   have HO321 := n4_
   have BK290 := n5_
   have BK291 := n6_
   have BK304 := n7_
   have BK308 := n8_
   have BK312 := n9_
   have BK317 := n10_
   have HB := n11_
   clear n0_ n1_ n2_ n3_ n4_ n5_ n6_ n7_ n8_ n9_ n10_ n11_
   (try clear hb)
   (try clear hb2)
   (try clear hk)
   (try clear hi)
   refine hK.out _ _ ⟨(blk_cell BK308.out 0).trans rfl, (blk_cell BK290.out 0).trans rfl⟩ (fun hHeld => ?_)
   clear hK K
   refine norm_ (a' := ?_) ?_ ?_
   rotate_left
   ·exact zn (N := some 61)
   refine pure_ (i := 4) (N := some 62) (v := ?_) (a' := ?_) #[true, true, true, true, true] rfl rfl (by kernel_rfl) (fun _ _ _ h => h) (Or.inl ⟨by rfl, ?_⟩) ?_ ?_
   rotate_left
   ·intro w'
    go_simp
    with_reducible rfl
   rotate_left
   ·exact zn
   refine done_ (by kernel_rfl) ?_
   try go_wp2
   have n0_ := Aside0.mk (Kd.R_drew HO_305000.out)
   have n1_ := Aside0.mk (Kd.R_drew HO_309000.out)
   have n2_ := Aside0.mk (Kd.R_drew HO_313000.out)
   have n3_ := Aside0.mk (Kd.R_drew HO_318000.out)
   have n4_ := Aside0.mk (Kd.R_drew HO321.out)
   have n5_ := Aside0.mk (blk_drew BK290.out)
   have n6_ := Aside0.mk (blk_drew BK291.out)
   have n7_ := Aside0.mk (blk_drew BK304.out)
   have n8_ := Aside0.mk (blk_drew BK308.out)
   have n9_ := Aside0.mk (blk_drew BK312.out)
   have n10_ := Aside0.mk (blk_drew BK317.out)
   have n11_ := Aside0.mk (below_drew1 HB.out)
   clear HO_305000 HO_309000 HO_313000 HO_318000 HO321 BK290 BK291 BK304 BK308 BK312 BK317 HB
   have HO_305000 := n0_
   have HO_309000 := n1_
   have HO_313000 := n2_
   have HO_318000 := n3_
   have HO321 := n4_
   have BK290 := n5_
   have BK291 := n6_
   have BK304 := n7_
   have BK308 := n8_
   have BK312 := n9_
   have BK317 := n10_
   have HB := n11_
   clear n0_ n1_ n2_ n3_ n4_ n5_ n6_ n7_ n8_ n9_ n10_ n11_
   refine start_ (n := 5) (S := fun w' => w'.cell? ⟨gb312, 0, none⟩ = some (.slice Ao57 t309.length co57) ∧ w'.cell? ⟨gb291, 0, none⟩ = some (.slice A2_0 l2_0.length c2_0)) (ds := []) #[false, false, false, false, false] (by kernel_rfl) rfl rfl ⟨(blk_cell BK312.out 0).trans rfl, (blk_cell BK291.out 0).trans rfl⟩ (fun hHeld => ?_)
   generalize w112.drew = w113 at HO_305000 HO_309000 HO_313000 HO_318000 HO321 BK290 BK291 BK304 BK308 BK312 BK317 HB hHeld ⊢
   refine take_ (i := 0) (N := some 63) (v := ?_) (a' := ?_) #[true, false, false, false, false] rfl rfl (by kernel_rfl) (fun _ _ _ h => h) (Or.inl ⟨by rfl, ?_⟩) hHeld ?_ ?_
   rotate_left
   ·rintro w' ⟨s0, s1⟩
    go_simp
    with_reducible rfl
   rotate_left
   ·exact zn
   refine take_ (i := 1) (N := some 64) (v := ?_) (a' := ?_) #[true, true, false, false, false] rfl rfl (by kernel_rfl) (fun _ _ _ h => h) (Or.inl ⟨by rfl, ?_⟩) hHeld ?_ ?_
   rotate_left
   ·rintro w' ⟨s0, s1⟩
    go_simp
    with_reducible rfl
   rotate_left
   ·exact zn
   refine one_ (i := 2) (N := some 65) #[true, true, true, false, false] rfl rfl (by kernel_rfl) (by decide) (fun K hK => ?_)
   refine goes_ Try.func9 (by kernel_rfl) rfl #[.agg #[.slice A2_0 l2_0.length c2_0]] (by rfl) rfl rfl zl ?_
   with_reducible refine (laws_toPool.calls kj25 _ _ l2_0 t323 _ ?side1 ?side2 A103.out).mono ?_
   (case side1 => exact zc (Kd.C_below HR2_0.out HB.out))
   (case side2 => exact HC2_0.out)
   rintro e w114 ⟨v324, rfl, ho0, hb⟩
   refine ⟨_, rfl, ?_⟩
   have n0_ := Aside0.mk (Kd.R_elder' (zr HO_305000.out) (Kd.R_base ho0) hb)
   have n1_ := Aside0.mk (Kd.R_elder' (zr HO_309000.out) (Kd.R_base ho0) hb)
   have n2_ := Aside0.mk (Kd.R_elder' (zr HO_313000.out) (Kd.R_base ho0) hb)
   have n3_ := Aside0.mk (Kd.R_elder' (zr HO_318000.out) (Kd.R_base ho0) hb)
   have n4_ := Aside0.mk (Kd.R_elder' (zr HO321.out) (Kd.R_base ho0) hb)
   have n5_ := Aside0.mk (Kd.R_lower (Kd.R_new' (Kd.R_new' (Kd.R_new' (Kd.R_new' (Kd.R_new' ho0 (Kd.R_lt (zr HO_305000.out))) (Kd.R_lt (zr HO_309000.out))) (Kd.R_lt (zr HO_313000.out))) (Kd.R_lt (zr HO_318000.out))) (Kd.R_lt (zr HO321.out))) (below_size (zb HB.out)))
   have n6_ := Aside0.mk (blk_below (zh BK290.out) hb)
   have n7_ := Aside0.mk (blk_below (zh BK291.out) hb)
   have n8_ := Aside0.mk (blk_below (zh BK304.out) hb)
   have n9_ := Aside0.mk (blk_below (zh BK308.out) hb)
   have n10_ := Aside0.mk (blk_below (zh BK312.out) hb)
   have n11_ := Aside0.mk (blk_below (zh BK317.out) hb)
   have n12_ := Aside0.mk (below_step (zb HB.out) hb)
   clear HO_305000 HO_309000 HO_313000 HO_318000 HO321 BK290 BK291 BK304 BK308 BK312 BK317 HB
   have HO_305000 := n0_
   have HO_309000 := n1_
   have HO_313000 := n2_
   have HO_318000 := n3_
   have HO321 := n4_
   have HO325 := n5_
   have BK290 := n6_
   have BK291 := n7_
   have BK304 := n8_
   have BK308 := n9_
   have BK312 := n10_
   have BK317 := n11_
   have HB := n12_
   clear n0_ n1_ n2_ n3_ n4_ n5_ n6_ n7_ n8_ n9_ n10_ n11_ n12_
   (try clear hb)
   (try clear hb2)
   (try clear hk)
   (try clear hi)
   (try clear ho0)
   obtain ⟨Ao115, co115, eo115⟩ := Kd.R_slice HO325.out
   (first | subst eo115 | (injection eo115 with f1_ f2_ f3_; have f4_ := f1_.symm; have f5_ := f3_.symm; clear f1_ f2_ f3_; subst f4_; subst f5_))
   refine hK.out _ _ ⟨(blk_cell BK312.out 0).trans rfl, (blk_cell BK291.out 0).trans rfl⟩ (fun hHeld => ?_)
   clear hK K
   refine norm_ (a' := ?_) ?_ ?_
   rotate_left
   ·exact zn (N := some 65)
   refine one_ (i := 3) (N := some 66) #[true, true, true, true, false] rfl rfl (by kernel_rfl) (by decide) (fun K hK => ?_)
   refine goes_ Try.func11 (by kernel_rfl) rfl #[.agg #[.slice Ao57 t309.length co57], .agg #[.slice Ao115 t323.length co115]] (by rfl) rfl rfl zl ?_
   with_reducible refine (laws_eqPool.calls kj25 _ _ t309 _ _ t323 true _ ?side1 ?side2 ?side3 ?side4 A104.out).mono ?_
   (case side1 => exact zc (Kd.R_reads' HO_313000.out).2.2)
   (case side2 => exact (Kd.R_reads' HO_313000.out).2.1)
   (case side3 => exact zc (Kd.R_reads' HO325.out).2.2)
   (case side4 => exact (Kd.R_reads' HO325.out).2.1)
   rintro e w116 ⟨rfl, hb⟩
   refine ⟨_, rfl, ?_⟩
   have n0_ := Aside0.mk (Kd.R_below (zr HO_305000.out) hb)
   have n1_ := Aside0.mk (Kd.R_below (zr HO_309000.out) hb)
   have n2_ := Aside0.mk (Kd.R_below (zr HO_313000.out) hb)
   have n3_ := Aside0.mk (Kd.R_below (zr HO_318000.out) hb)
   have n4_ := Aside0.mk (Kd.R_below (zr HO321.out) hb)
   have n5_ := Aside0.mk (Kd.R_below (zr HO325.out) hb)
   have n6_ := Aside0.mk (blk_below (zh BK290.out) hb)
   have n7_ := Aside0.mk (blk_below (zh BK291.out) hb)
   have n8_ := Aside0.mk (blk_below (zh BK304.out) hb)
   have n9_ := Aside0.mk (blk_below (zh BK308.out) hb)
   have n10_ := Aside0.mk (blk_below (zh BK312.out) hb)
   have n11_ := Aside0.mk (blk_below (zh BK317.out) hb)
   have n12_ := Aside0.mk (below_step (zb HB.out) hb)
   clear HO_305000 HO_309000 HO_313000 HO_318000 HO321 HO325 BK290 BK291 BK304 BK308 BK312 BK317 HB
   have HO_305000 := n0_
   have HO_309000 := n1_
   have HO_313000 := n2_
   have HO_318000 := n3_
   have HO321 := n4_
   have HO325 := n5_
   have BK290 := n6_
   have BK291 := n7_
   have BK304 := n8_
   have BK308 := n9_
   have BK312 := n10_
   have BK317 := n11_
   have HB := n12_
   clear n0_ n1_ n2_ n3_ n4_ n5_ n6_ n7_ n8_ n9_ n10_ n11_ n12_
   (try clear hb)
   (try clear hb2)
   (try clear hk)
   (try clear hi)
   refine hK.out _ _ ⟨(blk_cell BK312.out 0).trans rfl, (blk_cell BK291.out 0).trans rfl⟩ (fun hHeld => ?_)
   clear hK K
   refine norm_ (a' := ?_) ?_ ?_
   rotate_left
   ·exact zn (N := some 66)
   refine pure_ (i := 4) (N := some 67) (v := ?_) (a' := ?_) #[true, true, true, true, true] rfl rfl (by kernel_rfl) (fun _ _ _ h => h) (Or.inl ⟨by rfl, ?_⟩) ?_ ?_
   rotate_left
   ·intro w'
    go_simp
    with_reducible rfl
   rotate_left
   ·exact zn
   refine done_ (by kernel_rfl) ?_
   have hnb117 := NB308_290.out
   have hnc117 := NB290_308.out
   have hnb118 := NB308_291.out
   have hnc118 := NB291_308.out
   have hnb119 := NB308_304.out
   have hnc119 := NB304_308.out
   have hnb120 := NB308_312.out
   have hnc120 := NB312_308.out
   have hnb121 := NB308_317.out
   have hnc121 := NB317_308.out
   have hcz122_0 : w116.cell? ⟨gb308, 0, none⟩ = some (.slice Ao48 t305.length co48) := (blk_cell BK308.out 0).trans rfl
   have hfz122_0 := blk_frozen BK308.out 0
   go_upto_region 21 with (first | ((with_reducible refine gate_callee (f := 12) rfl ?_); refine goesL_ (some 70) rfl rfl Try.func12 (by kernel_rfl) rfl #[.agg #[.slice Ao48 t305.length co48], .int .i64 1] rfl zl ?_; (with_reducible refine (laws_markPool.calls kj25 (fun k_ => some k_ = (.slice Ao48 t305.length co48 : Value).ownBlock) (.slice Ao48 t305.length co48) t305 1 t327 t328 w _ ?side1 ?side2 A106.out).mono ?_); (case side1 => exact zb HB.out); (case side2 => exact Kd.R_tight rfl HO_309000.out); rintro e w123 ⟨rfl, hy0, hb, hkp⟩; refine ⟨_, rfl, ?_⟩; have n0_ := Aside0.mk (Kd.R_mono (ok' := fun k_ => some k_ ≠ (.slice Ao48 t305.length co48 : Value).ownBlock ∧ some k_ ≠ (.slice Ao57 t309.length co57 : Value).ownBlock ∧ some k_ ≠ (.slice Ao66 t313.length co66 : Value).ownBlock ∧ some k_ ≠ (.slice Ao111 t319.length co111 : Value).ownBlock ∧ some k_ ≠ (.slice Ao115 t323.length co115 : Value).ownBlock) (Kd.R_keptB (HO_305000.out) hkp (fun k_ hk_ hs_ => by first | exact (hk_.1.1.1) hs_ | (revert hk_; simp only [and_imp]; intros; exact absurd hs_ (by assumption)))) (fun k_ hk_ => by first | exact ⟨hk_.1.1.1.1, hk_.1.1.1.2.1, hk_.1.1.1.2.2, hk_.1.1.2, hk_.1.2⟩ | (revert hk_; simp only [and_imp]; intros; and_intros <;> assumption))); have n1_ := Aside0.mk (Kd.R_reok rfl hy0 (fun k_ e_ => HO_309000.out.1 k_ e_)); have n2_ := Aside0.mk (Kd.R_mono (ok' := fun k_ => some k_ ≠ (.slice Ao42 t300.length co42 : Value).ownBlock ∧ some k_ ≠ (.slice Ao48 t305.length co48 : Value).ownBlock ∧ some k_ ≠ (.slice Ao66 t313.length co66 : Value).ownBlock ∧ some k_ ≠ (.slice Ao111 t319.length co111 : Value).ownBlock ∧ some k_ ≠ (.slice Ao115 t323.length co115 : Value).ownBlock) (Kd.R_keptB (HO_313000.out) hkp (fun k_ hk_ hs_ => by first | exact (hk_.1.1.2.1) hs_ | (revert hk_; simp only [and_imp]; intros; exact absurd hs_ (by assumption)))) (fun k_ hk_ => by first | exact ⟨hk_.1.1.1.1, hk_.1.1.1.2.1, hk_.1.1.1.2.2, hk_.1.1.2, hk_.1.2⟩ | (revert hk_; simp only [and_imp]; intros; and_intros <;> assumption))); have n3_ := Aside0.mk (Kd.R_mono (ok' := fun k_ => some k_ ≠ (.slice Ao42 t300.length co42 : Value).ownBlock ∧ some k_ ≠ (.slice Ao48 t305.length co48 : Value).ownBlock ∧ some k_ ≠ (.slice Ao57 t309.length co57 : Value).ownBlock ∧ some k_ ≠ (.slice Ao111 t319.length co111 : Value).ownBlock ∧ some k_ ≠ (.slice Ao115 t323.length co115 : Value).ownBlock) (Kd.R_keptB (HO_318000.out) hkp (fun k_ hk_ hs_ => by first | exact (hk_.1.1.2.1) hs_ | (revert hk_; simp only [and_imp]; intros; exact absurd hs_ (by assumption)))) (fun k_ hk_ => by first | exact ⟨hk_.1.1.1.1, hk_.1.1.1.2.1, hk_.1.1.1.2.2, hk_.1.1.2, hk_.1.2⟩ | (revert hk_; simp only [and_imp]; intros; and_intros <;> assumption))); have n4_ := Aside0.mk (blk_kept (zh BK290.out) hkp (fun hs_ => (fun e_ => (Kd.R_ne HO_309000.out BK290.out (by decide)) e_) hs_)); have n5_ := Aside0.mk (blk_kept (zh BK291.out) hkp (fun hs_ => (fun e_ => (Kd.R_ne HO_309000.out BK291.out (by decide)) e_) hs_)); have n6_ := Aside0.mk (blk_kept (zh BK304.out) hkp (fun hs_ => (fun e_ => (Kd.R_ne HO_309000.out BK304.out (by decide)) e_) hs_)); have n7_ := Aside0.mk (blk_kept (zh BK308.out) hkp (fun hs_ => (fun e_ => (Kd.R_ne HO_309000.out BK308.out (by decide)) e_) hs_)); have n8_ := Aside0.mk (blk_kept (zh BK312.out) hkp (fun hs_ => (fun e_ => (Kd.R_ne HO_309000.out BK312.out (by decide)) e_) hs_)); have n9_ := Aside0.mk (blk_kept (zh BK317.out) hkp (fun hs_ => (fun e_ => (Kd.R_ne HO_309000.out BK317.out (by decide)) e_) hs_)); have n10_ := Aside0.mk (Kd.R_mono (ok' := fun k_ => some k_ ≠ (.slice Ao42 t300.length co42 : Value).ownBlock ∧ some k_ ≠ (.slice Ao48 t305.length co48 : Value).ownBlock ∧ some k_ ≠ (.slice Ao57 t309.length co57 : Value).ownBlock ∧ some k_ ≠ (.slice Ao66 t313.length co66 : Value).ownBlock ∧ some k_ ≠ (.slice Ao115 t323.length co115 : Value).ownBlock) (Kd.R_keptB (HO321.out) hkp (fun k_ hk_ hs_ => by first | exact (hk_.1.1.1.2) hs_ | (revert hk_; simp only [and_imp]; intros; exact absurd hs_ (by assumption)))) (fun k_ hk_ => by first | exact ⟨hk_.1.1.1.1.1.2, hk_.1.1.1.1.2, hk_.1.1.1.2, hk_.1.1.2, hk_.1.2⟩ | (revert hk_; simp only [and_imp]; intros; and_intros <;> assumption))); have n11_ := Aside0.mk (Kd.R_mono (ok' := fun k_ => some k_ ≠ (.slice Ao42 t300.length co42 : Value).ownBlock ∧ some k_ ≠ (.slice Ao48 t305.length co48 : Value).ownBlock ∧ some k_ ≠ (.slice Ao57 t309.length co57 : Value).ownBlock ∧ some k_ ≠ (.slice Ao66 t313.length co66 : Value).ownBlock ∧ some k_ ≠ (.slice Ao111 t319.length co111 : Value).ownBlock) (Kd.R_keptB (HO325.out) hkp (fun k_ hk_ hs_ => by first | exact (hk_.1.1.1.2) hs_ | (revert hk_; simp only [and_imp]; intros; exact absurd hs_ (by assumption)))) (fun k_ hk_ => by first | exact ⟨hk_.1.1.1.1.1.2, hk_.1.1.1.1.2, hk_.1.1.1.2, hk_.1.1.2, hk_.1.2⟩ | (revert hk_; simp only [and_imp]; intros; and_intros <;> assumption))); have n12_ := Aside0.mk (hb); clear HO_305000 HO_309000 HO_313000 HO_318000 BK290 BK291 BK304 BK308 BK312 BK317 HO321 HO325 HB; have HO_305000 := n0_; have HO_309000 := n1_; have HO_313000 := n2_; have HO_318000 := n3_; have BK290 := n4_; have BK291 := n5_; have BK304 := n6_; have BK308 := n7_; have BK312 := n8_; have BK317 := n9_; have HO321 := n10_; have HO325 := n11_; have HB := n12_; clear n0_ n1_ n2_ n3_ n4_ n5_ n6_ n7_ n8_ n9_ n10_ n11_ n12_; (try clear hb); (try clear hkp); (try clear hy0); have hnb124 := NB312_290.out; have hnc124 := NB290_312.out; have hnb125 := NB312_291.out; have hnc125 := NB291_312.out; have hnb126 := NB312_304.out; have hnc126 := NB304_312.out; have hnb127 := NB312_317.out; have hnc127 := NB317_312.out; have hcz128_0 : w123.cell? ⟨gb312, 0, none⟩ = some (.slice Ao57 t309.length co57) := (blk_cell BK312.out 0).trans rfl; have hfz128_0 := blk_frozen BK312.out 0) | ((with_reducible refine gate_callee (f := 12) rfl ?_); refine goesL_ (some 73) rfl rfl Try.func12 (by kernel_rfl) rfl #[.agg #[.slice Ao57 t309.length co57], .int .i64 t327] rfl zl ?_; (with_reducible refine (laws_markPool.calls kj25 (fun k_ => some k_ = (.slice Ao57 t309.length co57 : Value).ownBlock) (.slice Ao57 t309.length co57) t309 t327 t329 t330 w _ ?side1 ?side2 A107.out).mono ?_); (case side1 => exact zb HB.out); (case side2 => exact Kd.R_tight rfl HO_313000.out); rintro e w129 ⟨rfl, hy0, hb, hkp⟩; refine ⟨_, rfl, ?_⟩; have n0_ := Aside0.mk (Kd.R_mono (ok' := fun k_ => some k_ ≠ (.slice Ao48 t305.length co48 : Value).ownBlock ∧ some k_ ≠ (.slice Ao57 t309.length co57 : Value).ownBlock ∧ some k_ ≠ (.slice Ao66 t313.length co66 : Value).ownBlock ∧ some k_ ≠ (.slice Ao111 t319.length co111 : Value).ownBlock ∧ some k_ ≠ (.slice Ao115 t323.length co115 : Value).ownBlock) (Kd.R_keptB (HO_305000.out) hkp (fun k_ hk_ hs_ => by first | exact (hk_.2.1) hs_ | (revert hk_; simp only [and_imp]; intros; exact absurd hs_ (by assumption)))) (fun k_ hk_ => by first | exact ⟨hk_.1.1, hk_.1.2.1, hk_.1.2.2.1, hk_.1.2.2.2.1, hk_.1.2.2.2.2⟩ | (revert hk_; simp only [and_imp]; intros; and_intros <;> assumption))); have n1_ := Aside0.mk (Kd.R_mono (ok' := fun k_ => some k_ ≠ (.slice Ao42 t300.length co42 : Value).ownBlock ∧ some k_ ≠ (.slice Ao57 t309.length co57 : Value).ownBlock ∧ some k_ ≠ (.slice Ao66 t313.length co66 : Value).ownBlock ∧ some k_ ≠ (.slice Ao111 t319.length co111 : Value).ownBlock ∧ some k_ ≠ (.slice Ao115 t323.length co115 : Value).ownBlock) (Kd.R_keptB (HO_309000.out) hkp (fun k_ hk_ hs_ => by first | exact (hk_.1.1.2.1) hs_ | (revert hk_; simp only [and_imp]; intros; exact absurd hs_ (by assumption)))) (fun k_ hk_ => by first | exact ⟨hk_.1.1.1.1, hk_.1.1.1.2.1, hk_.1.1.1.2.2, hk_.1.1.2, hk_.1.2⟩ | (revert hk_; simp only [and_imp]; intros; and_intros <;> assumption))); have n2_ := Aside0.mk (Kd.R_reok rfl hy0 (fun k_ e_ => HO_313000.out.1 k_ e_)); have n3_ := Aside0.mk (Kd.R_mono (ok' := fun k_ => some k_ ≠ (.slice Ao42 t300.length co42 : Value).ownBlock ∧ some k_ ≠ (.slice Ao48 t305.length co48 : Value).ownBlock ∧ some k_ ≠ (.slice Ao57 t309.length co57 : Value).ownBlock ∧ some k_ ≠ (.slice Ao111 t319.length co111 : Value).ownBlock ∧ some k_ ≠ (.slice Ao115 t323.length co115 : Value).ownBlock) (Kd.R_keptB (HO_318000.out) hkp (fun k_ hk_ hs_ => by first | exact (hk_.2.2.1) hs_ | (revert hk_; simp only [and_imp]; intros; exact absurd hs_ (by assumption)))) (fun k_ hk_ => by first | exact ⟨hk_.1.1, hk_.1.2.1, hk_.1.2.2.1, hk_.1.2.2.2.1, hk_.1.2.2.2.2⟩ | (revert hk_; simp only [and_imp]; intros; and_intros <;> assumption))); have n4_ := Aside0.mk (blk_kept (zh BK290.out) hkp (fun hs_ => (fun e_ => (Kd.R_ne HO_313000.out BK290.out (by decide)) e_) hs_)); have n5_ := Aside0.mk (blk_kept (zh BK291.out) hkp (fun hs_ => (fun e_ => (Kd.R_ne HO_313000.out BK291.out (by decide)) e_) hs_)); have n6_ := Aside0.mk (blk_kept (zh BK304.out) hkp (fun hs_ => (fun e_ => (Kd.R_ne HO_313000.out BK304.out (by decide)) e_) hs_)); have n7_ := Aside0.mk (blk_kept (zh BK308.out) hkp (fun hs_ => (fun e_ => (Kd.R_ne HO_313000.out BK308.out (by decide)) e_) hs_)); have n8_ := Aside0.mk (blk_kept (zh BK312.out) hkp (fun hs_ => (fun e_ => (Kd.R_ne HO_313000.out BK312.out (by decide)) e_) hs_)); have n9_ := Aside0.mk (blk_kept (zh BK317.out) hkp (fun hs_ => (fun e_ => (Kd.R_ne HO_313000.out BK317.out (by decide)) e_) hs_)); have n10_ := Aside0.mk (Kd.R_mono (ok' := fun k_ => some k_ ≠ (.slice Ao42 t300.length co42 : Value).ownBlock ∧ some k_ ≠ (.slice Ao48 t305.length co48 : Value).ownBlock ∧ some k_ ≠ (.slice Ao57 t309.length co57 : Value).ownBlock ∧ some k_ ≠ (.slice Ao66 t313.length co66 : Value).ownBlock ∧ some k_ ≠ (.slice Ao115 t323.length co115 : Value).ownBlock) (Kd.R_keptB (HO321.out) hkp (fun k_ hk_ hs_ => by first | exact (hk_.2.2.1) hs_ | (revert hk_; simp only [and_imp]; intros; exact absurd hs_ (by assumption)))) (fun k_ hk_ => by first | exact ⟨hk_.1.1, hk_.1.2.1, hk_.1.2.2.1, hk_.1.2.2.2.1, hk_.1.2.2.2.2⟩ | (revert hk_; simp only [and_imp]; intros; and_intros <;> assumption))); have n11_ := Aside0.mk (Kd.R_mono (ok' := fun k_ => some k_ ≠ (.slice Ao42 t300.length co42 : Value).ownBlock ∧ some k_ ≠ (.slice Ao48 t305.length co48 : Value).ownBlock ∧ some k_ ≠ (.slice Ao57 t309.length co57 : Value).ownBlock ∧ some k_ ≠ (.slice Ao66 t313.length co66 : Value).ownBlock ∧ some k_ ≠ (.slice Ao111 t319.length co111 : Value).ownBlock) (Kd.R_keptB (HO325.out) hkp (fun k_ hk_ hs_ => by first | exact (hk_.2.2.1) hs_ | (revert hk_; simp only [and_imp]; intros; exact absurd hs_ (by assumption)))) (fun k_ hk_ => by first | exact ⟨hk_.1.1, hk_.1.2.1, hk_.1.2.2.1, hk_.1.2.2.2.1, hk_.1.2.2.2.2⟩ | (revert hk_; simp only [and_imp]; intros; and_intros <;> assumption))); have n12_ := Aside0.mk (hb); clear HO_305000 HO_309000 HO_313000 HO_318000 BK290 BK291 BK304 BK308 BK312 BK317 HO321 HO325 HB; have HO_305000 := n0_; have HO_309000 := n1_; have HO_313000 := n2_; have HO_318000 := n3_; have BK290 := n4_; have BK291 := n5_; have BK304 := n6_; have BK308 := n7_; have BK312 := n8_; have BK317 := n9_; have HO321 := n10_; have HO325 := n11_; have HB := n12_; clear n0_ n1_ n2_ n3_ n4_ n5_ n6_ n7_ n8_ n9_ n10_ n11_ n12_; (try clear hb); (try clear hkp); (try clear hy0)))
   (try simp only [Act.put, List.setIfInBounds_toArray, List.set_cons_zero, List.set_cons_succ])
   go_cut [86] (fun v86 wc => ∃ (kq : Nat) (x86_107 : Bool), v86 = .bool x86_107 ∧ Aside0 (laws_FnExactTermMove.j1 kq a1 t303 x86_107 l0_0 l2_0 t300 t313 = some r) ∧ Aside0 (kq ≤ kj25) ∧ Aside0 (Kd.R k55 55 wc w.heap.size (fun k_ => some k_ ≠ ((.slice Ao48 t305.length co48) : Value).ownBlock ∧ some k_ ≠ ((.slice Ao57 t309.length co57) : Value).ownBlock ∧ some k_ ≠ ((.slice Ao66 t313.length co66) : Value).ownBlock) (.slice Ao42 t300.length co42) t300) ∧ Aside0 (Kd.R k55 55 wc w.heap.size (fun k_ => some k_ ≠ ((.slice Ao42 t300.length co42) : Value).ownBlock ∧ some k_ ≠ ((.slice Ao57 t309.length co57) : Value).ownBlock ∧ some k_ ≠ ((.slice Ao66 t313.length co66) : Value).ownBlock) (.slice Ao48 t305.length co48) t328) ∧ Aside0 (Kd.R k55 55 wc w.heap.size (fun k_ => some k_ ≠ ((.slice Ao42 t300.length co42) : Value).ownBlock ∧ some k_ ≠ ((.slice Ao48 t305.length co48) : Value).ownBlock ∧ some k_ ≠ ((.slice Ao66 t313.length co66) : Value).ownBlock) (.slice Ao57 t309.length co57) t330) ∧ Aside0 (Kd.R k55 55 wc w.heap.size (fun k_ => some k_ ≠ ((.slice Ao42 t300.length co42) : Value).ownBlock ∧ some k_ ≠ ((.slice Ao48 t305.length co48) : Value).ownBlock ∧ some k_ ≠ ((.slice Ao57 t309.length co57) : Value).ownBlock) (.slice Ao66 t313.length co66) t313) ∧ Aside0 (wc.heap[gb290]? = some (.cells #[(.slice A0_0 l0_0.length c0_0)] 24 (0, 0))) ∧ Aside0 (wc.heap[gb291]? = some (.cells #[(.slice A2_0 l2_0.length c2_0)] 24 (0, 0))) ∧ Aside0 (wc.heap[gb304]? = some (.cells #[(.slice Ao42 t300.length co42)] 28 (0, 0))) ∧ Aside0 (wc.heap[gb308]? = some (.cells #[(.slice Ao48 t305.length co48)] 28 (0, 0))) ∧ Aside0 (wc.heap[gb312]? = some (.cells #[(.slice Ao57 t309.length co57)] 28 (0, 0))) ∧ Aside0 (wc.heap[gb317]? = some (.cells #[(.slice Ao66 t313.length co66)] 28 (0, 0))) ∧ Aside0 (Below w.heap.size w wc))
   case first =>
    have H := HC108.out
    clear HC108
    by_cases c130 : t329 < 0
    ·rw [if_pos c130] at H
     have c130b0 : decide (t329 < 0) = true := decide_eq_true c130
     clear c130
     (first | rw [c130b0] | (simp only [i64_w, i32_w]; rw [c130b0]) | skip)
     have H' := Aside0.mk H
     clear H
     go_wp2
     go_meet
     case rel => exact ⟨_, (true), (by first | rfl | (simp; done) | (simp [*]; done)), H', ⟨by have := HJ25.out; first | omega | exact Nat.le_refl _⟩, ⟨zr (Kd.R_mono HO_305000.out (fun _ hk => ⟨hk.1, ⟨hk.2.1, hk.2.2.1⟩⟩))⟩, ⟨zr (Kd.R_mono HO_309000.out (fun _ hk => ⟨hk.1, ⟨hk.2.1, hk.2.2.1⟩⟩))⟩, ⟨zr (Kd.R_mono HO_313000.out (fun _ hk => ⟨hk.1, ⟨hk.2.1, hk.2.2.1⟩⟩))⟩, ⟨zr (Kd.R_mono HO_318000.out (fun _ hk => ⟨hk.1, ⟨hk.2.1, hk.2.2.1⟩⟩))⟩, ⟨zh BK290.out⟩, ⟨zh BK291.out⟩, ⟨zh BK304.out⟩, ⟨zh BK308.out⟩, ⟨zh BK312.out⟩, ⟨zh BK317.out⟩, ⟨zb HB.out⟩⟩
    rw [if_neg c130] at H
    have c130b0 : decide (t329 < 0) = false := decide_eq_false c130
    clear c130
    (first | rw [c130b0] | (simp only [i64_w, i32_w]; rw [c130b0]) | skip)
    replace H := Option.bind_eq_some_iff.mp H
    obtain ⟨t331, A1310, H⟩ := H
    replace H : (if t331 = true then (laws_FnExactTermMove.j1 kj25 a1 t303 (t316 != t303) l0_0 l2_0 t300 t313) else (laws_FnExactTermMove.j1 kj25 a1 t303 true l0_0 l2_0 t300 t313)) = some r := H
    have A131 := Aside0.mk A1310
    clear A1310
    by_cases c132 : t331 = true
    ·subst c132
     have H1 : (laws_FnExactTermMove.j1 kj25 a1 t303 (t316 != t303) l0_0 l2_0 t300 t313) = some r := by rw [if_pos rfl] at H; exact H
     clear H
     have H := H1
     clear H1
     have H' := Aside0.mk H
     clear H
     have hnb133 := NB317_290.out
     have hnc133 := NB290_317.out
     have hnb134 := NB317_291.out
     have hnc134 := NB291_317.out
     have hnb135 := NB317_304.out
     have hnc135 := NB304_317.out
     have hnb136 := NB317_308.out
     have hnc136 := NB308_317.out
     have hnb137 := NB317_312.out
     have hnc137 := NB312_317.out
     have hcz138_0 : w129.cell? ⟨gb317, 0, none⟩ = some (.slice Ao66 t313.length co66) := (blk_cell BK317.out 0).trans rfl
     have hfz138_0 := blk_frozen BK317.out 0
     have hnb139 := NB304_290.out
     have hnc139 := NB290_304.out
     have hnb140 := NB304_291.out
     have hnc140 := NB291_304.out
     have hnb141 := NB304_308.out
     have hnc141 := NB308_304.out
     have hnb142 := NB304_312.out
     have hnc142 := NB312_304.out
     have hcz143_0 : w129.cell? ⟨gb304, 0, none⟩ = some (.slice Ao42 t300.length co42) := (blk_cell BK304.out 0).trans rfl
     have hfz143_0 := blk_frozen BK304.out 0
     go_wp2_with (first | (go_at_call 11; (with_reducible refine (laws_eqPool.calls kj25 _ _ t313 _ _ t300 true _ ?side1 ?side2 ?side3 ?side4 A131.out).mono ?_); (case side1 => exact zc (Kd.R_reads' HO_318000.out).2.2); (case side2 => exact (Kd.R_reads' HO_318000.out).2.1); (case side3 => exact zc (Kd.R_reads' HO_305000.out).2.2); (case side4 => exact (Kd.R_reads' HO_305000.out).2.1); rintro e w144 ⟨rfl, hb⟩; have n0_ := Aside0.mk (Kd.R_below (zr HO_305000.out) hb); have n1_ := Aside0.mk (Kd.R_below (zr HO_309000.out) hb); have n2_ := Aside0.mk (Kd.R_below (zr HO_313000.out) hb); have n3_ := Aside0.mk (Kd.R_below (zr HO_318000.out) hb); have n4_ := Aside0.mk (Kd.R_below (zr HO321.out) hb); have n5_ := Aside0.mk (Kd.R_below (zr HO325.out) hb); have n6_ := Aside0.mk (blk_below (zh BK290.out) hb); have n7_ := Aside0.mk (blk_below (zh BK291.out) hb); have n8_ := Aside0.mk (blk_below (zh BK304.out) hb); have n9_ := Aside0.mk (blk_below (zh BK308.out) hb); have n10_ := Aside0.mk (blk_below (zh BK312.out) hb); have n11_ := Aside0.mk (blk_below (zh BK317.out) hb); have n12_ := Aside0.mk (below_step (zb HB.out) hb); clear HO_305000 HO_309000 HO_313000 HO_318000 HO321 HO325 BK290 BK291 BK304 BK308 BK312 BK317 HB; have HO_305000 := n0_; have HO_309000 := n1_; have HO_313000 := n2_; have HO_318000 := n3_; have HO321 := n4_; have HO325 := n5_; have BK290 := n6_; have BK291 := n7_; have BK304 := n8_; have BK308 := n9_; have BK312 := n10_; have BK317 := n11_; have HB := n12_; clear n0_ n1_ n2_ n3_ n4_ n5_ n6_ n7_ n8_ n9_ n10_ n11_ n12_; (try clear hb); (try clear hb2); (try clear hk); (try clear hi)))
     go_meet
     case rel => exact ⟨_, ((t316 != t303)), (by first | rfl | (simp; done) | (simp [*]; done)), H', ⟨by have := HJ25.out; first | omega | exact Nat.le_refl _⟩, ⟨zr (Kd.R_mono HO_305000.out (fun _ hk => ⟨hk.1, ⟨hk.2.1, hk.2.2.1⟩⟩))⟩, ⟨zr (Kd.R_mono HO_309000.out (fun _ hk => ⟨hk.1, ⟨hk.2.1, hk.2.2.1⟩⟩))⟩, ⟨zr (Kd.R_mono HO_313000.out (fun _ hk => ⟨hk.1, ⟨hk.2.1, hk.2.2.1⟩⟩))⟩, ⟨zr (Kd.R_mono HO_318000.out (fun _ hk => ⟨hk.1, ⟨hk.2.1, hk.2.2.1⟩⟩))⟩, ⟨zh BK290.out⟩, ⟨zh BK291.out⟩, ⟨zh BK304.out⟩, ⟨zh BK308.out⟩, ⟨zh BK312.out⟩, ⟨zh BK317.out⟩, ⟨zb HB.out⟩⟩
    replace c132 := Bool.eq_false_iff.mpr c132
    subst c132
    have H1 : (laws_FnExactTermMove.j1 kj25 a1 t303 true l0_0 l2_0 t300 t313) = some r := by rw [if_neg (show ¬ (false = true) by decide)] at H; exact H
    clear H
    have H := H1
    clear H1
    have H' := Aside0.mk H
    clear H
    have hnb145 := NB317_290.out
    have hnc145 := NB290_317.out
    have hnb146 := NB317_291.out
    have hnc146 := NB291_317.out
    have hnb147 := NB317_304.out
    have hnc147 := NB304_317.out
    have hnb148 := NB317_308.out
    have hnc148 := NB308_317.out
    have hnb149 := NB317_312.out
    have hnc149 := NB312_317.out
    have hcz150_0 : w129.cell? ⟨gb317, 0, none⟩ = some (.slice Ao66 t313.length co66) := (blk_cell BK317.out 0).trans rfl
    have hfz150_0 := blk_frozen BK317.out 0
    have hnb151 := NB304_290.out
    have hnc151 := NB290_304.out
    have hnb152 := NB304_291.out
    have hnc152 := NB291_304.out
    have hnb153 := NB304_308.out
    have hnc153 := NB308_304.out
    have hnb154 := NB304_312.out
    have hnc154 := NB312_304.out
    have hcz155_0 : w129.cell? ⟨gb304, 0, none⟩ = some (.slice Ao42 t300.length co42) := (blk_cell BK304.out 0).trans rfl
    have hfz155_0 := blk_frozen BK304.out 0
    go_wp2_with (first | (go_at_call 11; (with_reducible refine (laws_eqPool.calls kj25 _ _ t313 _ _ t300 false _ ?side1 ?side2 ?side3 ?side4 A131.out).mono ?_); (case side1 => exact zc (Kd.R_reads' HO_318000.out).2.2); (case side2 => exact (Kd.R_reads' HO_318000.out).2.1); (case side3 => exact zc (Kd.R_reads' HO_305000.out).2.2); (case side4 => exact (Kd.R_reads' HO_305000.out).2.1); rintro e w156 ⟨rfl, hb⟩; have n0_ := Aside0.mk (Kd.R_below (zr HO_305000.out) hb); have n1_ := Aside0.mk (Kd.R_below (zr HO_309000.out) hb); have n2_ := Aside0.mk (Kd.R_below (zr HO_313000.out) hb); have n3_ := Aside0.mk (Kd.R_below (zr HO_318000.out) hb); have n4_ := Aside0.mk (Kd.R_below (zr HO321.out) hb); have n5_ := Aside0.mk (Kd.R_below (zr HO325.out) hb); have n6_ := Aside0.mk (blk_below (zh BK290.out) hb); have n7_ := Aside0.mk (blk_below (zh BK291.out) hb); have n8_ := Aside0.mk (blk_below (zh BK304.out) hb); have n9_ := Aside0.mk (blk_below (zh BK308.out) hb); have n10_ := Aside0.mk (blk_below (zh BK312.out) hb); have n11_ := Aside0.mk (blk_below (zh BK317.out) hb); have n12_ := Aside0.mk (below_step (zb HB.out) hb); clear HO_305000 HO_309000 HO_313000 HO_318000 HO321 HO325 BK290 BK291 BK304 BK308 BK312 BK317 HB; have HO_305000 := n0_; have HO_309000 := n1_; have HO_313000 := n2_; have HO_318000 := n3_; have HO321 := n4_; have HO325 := n5_; have BK290 := n6_; have BK291 := n7_; have BK304 := n8_; have BK308 := n9_; have BK312 := n10_; have BK317 := n11_; have HB := n12_; clear n0_ n1_ n2_ n3_ n4_ n5_ n6_ n7_ n8_ n9_ n10_ n11_ n12_; (try clear hb); (try clear hb2); (try clear hk); (try clear hi)))
    go_meet
    case rel => exact ⟨_, (true), (by first | rfl | (simp; done) | (simp [*]; done)), H', ⟨by have := HJ25.out; first | omega | exact Nat.le_refl _⟩, ⟨zr (Kd.R_mono HO_305000.out (fun _ hk => ⟨hk.1, ⟨hk.2.1, hk.2.2.1⟩⟩))⟩, ⟨zr (Kd.R_mono HO_309000.out (fun _ hk => ⟨hk.1, ⟨hk.2.1, hk.2.2.1⟩⟩))⟩, ⟨zr (Kd.R_mono HO_313000.out (fun _ hk => ⟨hk.1, ⟨hk.2.1, hk.2.2.1⟩⟩))⟩, ⟨zr (Kd.R_mono HO_318000.out (fun _ hk => ⟨hk.1, ⟨hk.2.1, hk.2.2.1⟩⟩))⟩, ⟨zh BK290.out⟩, ⟨zh BK291.out⟩, ⟨zh BK304.out⟩, ⟨zh BK308.out⟩, ⟨zh BK312.out⟩, ⟨zh BK317.out⟩, ⟨zb HB.out⟩⟩
   case rest =>
    clear HC108
    try clear c1
    try clear c2
    try clear p2
    try clear c4
    try clear c5
    try clear c6
    try clear c7
    try clear c8
    try clear c9
    try clear c10
    try clear c11
    try clear c12
    try clear c13
    try clear c14
    try clear c15
    try clear c44
    try clear c49
    try clear c50
    try clear c51
    try clear c53
    try clear c58
    try clear c59
    try clear c60
    try clear c61
    try clear c67
    try clear c68
    try clear c69
    try clear c70
    try clear c71
    try clear c74
    try clear c75
    try clear c76
    try clear c77
    try clear c78
    try clear c79
    try clear c81
    try clear c82
    try clear c83
    try clear c84
    try clear c87
    try clear c88
    try clear c89
    try clear c90
    try clear c91
    try clear c93
    try clear c94
    try clear c95
    try clear c96
    try clear c99
    try clear c102
    try clear c105
    try clear c117
    try clear c118
    try clear c119
    try clear c120
    try clear c121
    try clear c124
    try clear c125
    try clear c126
    try clear c127
    try clear c130
    try clear c130b0
    try clear c132
    try clear c133
    try clear c134
    try clear c135
    try clear c136
    try clear c137
    try clear c139
    try clear c140
    try clear c141
    try clear c142
    try clear c145
    try clear c146
    try clear c147
    try clear c148
    try clear c149
    try clear c151
    try clear c152
    try clear c153
    try clear c154
    try clear hcz122_0
    try clear hcz128_0
    try clear hcz138_0
    try clear hcz143_0
    try clear hcz150_0
    try clear hcz155_0
    try clear hcz45_0
    try clear hcz52_0
    try clear hcz54_0
    try clear hcz62_0
    try clear hcz63_0
    try clear hcz72_0
    try clear hcz80_0
    try clear hcz85_0
    try clear hcz92_0
    try clear hcz97_0
    try clear hfz122_0
    try clear hfz128_0
    try clear hfz138_0
    try clear hfz143_0
    try clear hfz150_0
    try clear hfz155_0
    try clear hfz45_0
    try clear hfz52_0
    try clear hfz54_0
    try clear hfz62_0
    try clear hfz63_0
    try clear hfz72_0
    try clear hfz80_0
    try clear hfz85_0
    try clear hfz92_0
    try clear hfz97_0
    try clear p2
    obtain ⟨kq, x86_107, rfl, HA, HJ107, HO_305000, HO_309000, HO_313000, HO_318000, BK290, BK291, BK304, BK308, BK312, BK317, HB⟩ := hcut
    have hl309000_107 := (Kd.R_reads' HO_309000.out).1
    rw [hl309000_107] at HO_309000
    (try simp only [hl309000_107])
    (try simp only [hl309000_107] at BK290)
    (try simp only [hl309000_107] at BK291)
    (try simp only [hl309000_107] at BK304)
    (try simp only [hl309000_107] at BK308)
    (try simp only [hl309000_107] at BK312)
    (try simp only [hl309000_107] at BK317)
    (try simp only [hl309000_107] at HO_305000)
    (try simp only [hl309000_107] at HO_313000)
    (try simp only [hl309000_107] at HO_318000)
    have hl313000_107 := (Kd.R_reads' HO_313000.out).1
    rw [hl313000_107] at HO_313000
    (try simp only [hl313000_107])
    (try simp only [hl313000_107] at BK290)
    (try simp only [hl313000_107] at BK291)
    (try simp only [hl313000_107] at BK304)
    (try simp only [hl313000_107] at BK308)
    (try simp only [hl313000_107] at BK312)
    (try simp only [hl313000_107] at BK317)
    (try simp only [hl313000_107] at HO_305000)
    (try simp only [hl313000_107] at HO_309000)
    (try simp only [hl313000_107] at HO_318000)
    cases kq with
    | zero => exact absurd HA.out (by simp [laws_FnExactTermMove.j1])
    | succ kj107 =>
     have H := HA.out
     clear HA
     simp only [laws_FnExactTermMove.j1] at H
     by_cases c157 : x86_107 = true
     ·subst c157
      have H1 : (some false) = some r := by rw [if_pos rfl] at H; exact H
      clear H
      have H := H1
      clear H1
      obtain rfl := Option.some.inj H
      go_wp2
      go_ret
      exact ⟨ze, zb HB.out⟩
     replace c157 := Bool.eq_false_iff.mpr c157
     subst c157
     have H1 : ((laws_markPool.f kj107 t313 1).bind fun bt332 => ((laws_heldPool.f kj107 bt332.2 1).bind fun t334 => (if t334 < 0 then (some false) else (if t334 = bt332.1 then ((laws_toPool.f kj107 l0_0).bind fun t335 => ((laws_toPool.f kj107 l2_0).bind fun t338 => ((impl_TermMove.f kj107 t335 a1 t338).bind fun bt341 => ((laws_eqPool.f kj107 bt341.1 t300).bind fun t346 => (if t346 = true then (laws_FnExactTermMove.j2 kj107 bt332.1 (bt341.2 != t303) bt332.2) else (laws_FnExactTermMove.j2 kj107 bt332.1 true bt332.2)))))) else (some false))))) = some r := by rw [if_neg (show ¬ (false = true) by decide)] at H; exact H
     clear H
     have H := H1
     clear H1
     replace H := Option.bind_eq_some_iff.mp H
     obtain ⟨⟨t332, t333⟩, A1580, H⟩ := H
     replace H : ((laws_heldPool.f kj107 t333 1).bind fun t334 => (if t334 < 0 then (some false) else (if t334 = t332 then ((laws_toPool.f kj107 l0_0).bind fun t335 => ((laws_toPool.f kj107 l2_0).bind fun t338 => ((impl_TermMove.f kj107 t335 a1 t338).bind fun bt341 => ((laws_eqPool.f kj107 bt341.1 t300).bind fun t346 => (if t346 = true then (laws_FnExactTermMove.j2 kj107 t332 (bt341.2 != t303) t333) else (laws_FnExactTermMove.j2 kj107 t332 true t333)))))) else (some false)))) = some r := H
     have A158 := Aside0.mk A1580
     clear A1580
     replace H := Option.bind_eq_some_iff.mp H
     obtain ⟨t334, A1590, H⟩ := H
     replace H : (if t334 < 0 then (some false) else (if t334 = t332 then ((laws_toPool.f kj107 l0_0).bind fun t335 => ((laws_toPool.f kj107 l2_0).bind fun t338 => ((impl_TermMove.f kj107 t335 a1 t338).bind fun bt341 => ((laws_eqPool.f kj107 bt341.1 t300).bind fun t346 => (if t346 = true then (laws_FnExactTermMove.j2 kj107 t332 (bt341.2 != t303) t333) else (laws_FnExactTermMove.j2 kj107 t332 true t333)))))) else (some false))) = some r := H
     have A159 := Aside0.mk A1590
     clear A1590
     by_cases c160 : t334 < 0
     ·rw [if_pos c160] at H
      have c160b0 : decide (t334 < 0) = true := decide_eq_true c160
      clear c160
      obtain rfl := Option.some.inj H
      have hnb161 := NB317_290.out
      have hnc161 := NB290_317.out
      have hnb162 := NB317_291.out
      have hnc162 := NB291_317.out
      have hnb163 := NB317_304.out
      have hnc163 := NB304_317.out
      have hnb164 := NB317_308.out
      have hnc164 := NB308_317.out
      have hnb165 := NB317_312.out
      have hnc165 := NB312_317.out
      have hcz166_0 : wc.cell? ⟨gb317, 0, none⟩ = some (.slice Ao66 t313.length co66) := (blk_cell BK317.out 0).trans rfl
      have hfz166_0 := blk_frozen BK317.out 0
      go_wp2_with (first | ((with_reducible refine gate_callee (f := 12) rfl ?_); refine goesL_ (some 89) rfl rfl Try.func12 (by kernel_rfl) rfl #[.agg #[.slice Ao66 t313.length co66], .int .i64 1] rfl zl ?_; (with_reducible refine (laws_markPool.calls kj107 (fun k_ => some k_ = (.slice Ao66 t313.length co66 : Value).ownBlock) (.slice Ao66 t313.length co66) t313 1 t332 t333 w _ ?side1 ?side2 A158.out).mono ?_); (case side1 => exact zb HB.out); (case side2 => exact Kd.R_tight rfl HO_318000.out); rintro e w167 ⟨rfl, hy0, hb, hkp⟩; refine ⟨_, rfl, ?_⟩; have n0_ := Aside0.mk (Kd.R_mono (ok' := fun k_ => some k_ ≠ (.slice Ao48 t328.length co48 : Value).ownBlock ∧ some k_ ≠ (.slice Ao57 t330.length co57 : Value).ownBlock ∧ some k_ ≠ (.slice Ao66 t313.length co66 : Value).ownBlock) (Kd.R_keptB (HO_305000.out) hkp (fun k_ hk_ hs_ => by first | exact (hk_.2.2) hs_ | (revert hk_; simp only [and_imp]; intros; exact absurd hs_ (by assumption)))) (fun k_ hk_ => by first | exact ⟨hk_.1.1, hk_.1.2.1, hk_.1.2.2⟩ | (revert hk_; simp only [and_imp]; intros; and_intros <;> assumption))); have n1_ := Aside0.mk (Kd.R_mono (ok' := fun k_ => some k_ ≠ (.slice Ao42 t300.length co42 : Value).ownBlock ∧ some k_ ≠ (.slice Ao57 t330.length co57 : Value).ownBlock ∧ some k_ ≠ (.slice Ao66 t313.length co66 : Value).ownBlock) (Kd.R_keptB (HO_309000.out) hkp (fun k_ hk_ hs_ => by first | exact (hk_.2.2) hs_ | (revert hk_; simp only [and_imp]; intros; exact absurd hs_ (by assumption)))) (fun k_ hk_ => by first | exact ⟨hk_.1.1, hk_.1.2.1, hk_.1.2.2⟩ | (revert hk_; simp only [and_imp]; intros; and_intros <;> assumption))); have n2_ := Aside0.mk (Kd.R_mono (ok' := fun k_ => some k_ ≠ (.slice Ao42 t300.length co42 : Value).ownBlock ∧ some k_ ≠ (.slice Ao48 t328.length co48 : Value).ownBlock ∧ some k_ ≠ (.slice Ao66 t313.length co66 : Value).ownBlock) (Kd.R_keptB (HO_313000.out) hkp (fun k_ hk_ hs_ => by first | exact (hk_.2.2) hs_ | (revert hk_; simp only [and_imp]; intros; exact absurd hs_ (by assumption)))) (fun k_ hk_ => by first | exact ⟨hk_.1.1, hk_.1.2.1, hk_.1.2.2⟩ | (revert hk_; simp only [and_imp]; intros; and_intros <;> assumption))); have n3_ := Aside0.mk (Kd.R_reok rfl hy0 (fun k_ e_ => HO_318000.out.1 k_ e_)); have n4_ := Aside0.mk (blk_kept (zh BK290.out) hkp (fun hs_ => (fun e_ => (Kd.R_ne HO_318000.out BK290.out (by decide)) e_) hs_)); have n5_ := Aside0.mk (blk_kept (zh BK291.out) hkp (fun hs_ => (fun e_ => (Kd.R_ne HO_318000.out BK291.out (by decide)) e_) hs_)); have n6_ := Aside0.mk (blk_kept (zh BK304.out) hkp (fun hs_ => (fun e_ => (Kd.R_ne HO_318000.out BK304.out (by decide)) e_) hs_)); have n7_ := Aside0.mk (blk_kept (zh BK308.out) hkp (fun hs_ => (fun e_ => (Kd.R_ne HO_318000.out BK308.out (by decide)) e_) hs_)); have n8_ := Aside0.mk (blk_kept (zh BK312.out) hkp (fun hs_ => (fun e_ => (Kd.R_ne HO_318000.out BK312.out (by decide)) e_) hs_)); have n9_ := Aside0.mk (blk_kept (zh BK317.out) hkp (fun hs_ => (fun e_ => (Kd.R_ne HO_318000.out BK317.out (by decide)) e_) hs_)); have n10_ := Aside0.mk (hb); clear HO_305000 HO_309000 HO_313000 HO_318000 BK290 BK291 BK304 BK308 BK312 BK317 HB; have HO_305000 := n0_; have HO_309000 := n1_; have HO_313000 := n2_; have HO_318000 := n3_; have BK290 := n4_; have BK291 := n5_; have BK304 := n6_; have BK308 := n7_; have BK312 := n8_; have BK317 := n9_; have HB := n10_; clear n0_ n1_ n2_ n3_ n4_ n5_ n6_ n7_ n8_ n9_ n10_; (try clear hb); (try clear hkp); (try clear hy0); have hcz168_0 : w167.cell? ⟨gb317, 0, none⟩ = some (.slice Ao66 t313.length co66) := (blk_cell BK317.out 0).trans rfl; have hfz168_0 := blk_frozen BK317.out 0) | ((with_reducible refine gate_callee (f := 13) rfl ?_); refine goesL_ (some 92) rfl rfl Try.func13 (by kernel_rfl) rfl #[.agg #[.slice Ao66 t333.length co66], .int .i64 1] rfl (by (try simp only [List.map_toArray, List.map_cons, List.map_nil]); first | done | (rw [show t333.length = t313.length from (Kd.R_reads' HO_318000.out).1.symm] <;> rfl) | rfl | (simp only [List.length_drop, List.length_take]; rfl)) ?_; (with_reducible refine (laws_heldPool.calls kj107 _ _ t333 1 t334 _ ?side1 ?side2 A159.out).mono ?_); (case side1 => exact zc (Kd.R_reads' HO_318000.out).2.2); (case side2 => rw [show t333.length = t313.length from (Kd.R_reads' HO_318000.out).1.symm]; exact (Kd.R_reads' HO_318000.out).2.1); rintro e w169 ⟨rfl, hb⟩; refine ⟨_, rfl, ?_⟩; have n0_ := Aside0.mk (Kd.R_below (zr HO_305000.out) hb); have n1_ := Aside0.mk (Kd.R_below (zr HO_309000.out) hb); have n2_ := Aside0.mk (Kd.R_below (zr HO_313000.out) hb); have n3_ := Aside0.mk (Kd.R_below (zr HO_318000.out) hb); have n4_ := Aside0.mk (blk_below (zh BK290.out) hb); have n5_ := Aside0.mk (blk_below (zh BK291.out) hb); have n6_ := Aside0.mk (blk_below (zh BK304.out) hb); have n7_ := Aside0.mk (blk_below (zh BK308.out) hb); have n8_ := Aside0.mk (blk_below (zh BK312.out) hb); have n9_ := Aside0.mk (blk_below (zh BK317.out) hb); have n10_ := Aside0.mk (below_step (zb HB.out) hb); clear HO_305000 HO_309000 HO_313000 HO_318000 BK290 BK291 BK304 BK308 BK312 BK317 HB; have HO_305000 := n0_; have HO_309000 := n1_; have HO_313000 := n2_; have HO_318000 := n3_; have BK290 := n4_; have BK291 := n5_; have BK304 := n6_; have BK308 := n7_; have BK312 := n8_; have BK317 := n9_; have HB := n10_; clear n0_ n1_ n2_ n3_ n4_ n5_ n6_ n7_ n8_ n9_ n10_; (try clear hb); (try clear hb2); (try clear hk); (try clear hi)))
      go_ret
      exact ⟨ze, zb HB.out⟩
     rw [if_neg c160] at H
     have c160b0 : decide (t334 < 0) = false := decide_eq_false c160
     clear c160
     by_cases c170 : t334 = t332
     rotate_left
     ·rw [if_neg c170] at H
      have c170b0 : (t334 == t332) = false := beq_eq_false_iff_ne.mpr c170
      have c170b1 : (t334 != t332) = true := bne_iff_ne.mpr c170
      obtain rfl := Option.some.inj H
      have hnb252 := NB317_290.out
      have hnc252 := NB290_317.out
      have hnb253 := NB317_291.out
      have hnc253 := NB291_317.out
      have hnb254 := NB317_304.out
      have hnc254 := NB304_317.out
      have hnb255 := NB317_308.out
      have hnc255 := NB308_317.out
      have hnb256 := NB317_312.out
      have hnc256 := NB312_317.out
      have hcz257_0 : wc.cell? ⟨gb317, 0, none⟩ = some (.slice Ao66 t313.length co66) := (blk_cell BK317.out 0).trans rfl
      have hfz257_0 := blk_frozen BK317.out 0
      go_wp2_with (first | ((with_reducible refine gate_callee (f := 12) rfl ?_); refine goesL_ (some 89) rfl rfl Try.func12 (by kernel_rfl) rfl #[.agg #[.slice Ao66 t313.length co66], .int .i64 1] rfl zl ?_; (with_reducible refine (laws_markPool.calls kj107 (fun k_ => some k_ = (.slice Ao66 t313.length co66 : Value).ownBlock) (.slice Ao66 t313.length co66) t313 1 t332 t333 w _ ?side1 ?side2 A158.out).mono ?_); (case side1 => exact zb HB.out); (case side2 => exact Kd.R_tight rfl HO_318000.out); rintro e w258 ⟨rfl, hy0, hb, hkp⟩; refine ⟨_, rfl, ?_⟩; have n0_ := Aside0.mk (Kd.R_mono (ok' := fun k_ => some k_ ≠ (.slice Ao48 t328.length co48 : Value).ownBlock ∧ some k_ ≠ (.slice Ao57 t330.length co57 : Value).ownBlock ∧ some k_ ≠ (.slice Ao66 t313.length co66 : Value).ownBlock) (Kd.R_keptB (HO_305000.out) hkp (fun k_ hk_ hs_ => by first | exact (hk_.2.2) hs_ | (revert hk_; simp only [and_imp]; intros; exact absurd hs_ (by assumption)))) (fun k_ hk_ => by first | exact ⟨hk_.1.1, hk_.1.2.1, hk_.1.2.2⟩ | (revert hk_; simp only [and_imp]; intros; and_intros <;> assumption))); have n1_ := Aside0.mk (Kd.R_mono (ok' := fun k_ => some k_ ≠ (.slice Ao42 t300.length co42 : Value).ownBlock ∧ some k_ ≠ (.slice Ao57 t330.length co57 : Value).ownBlock ∧ some k_ ≠ (.slice Ao66 t313.length co66 : Value).ownBlock) (Kd.R_keptB (HO_309000.out) hkp (fun k_ hk_ hs_ => by first | exact (hk_.2.2) hs_ | (revert hk_; simp only [and_imp]; intros; exact absurd hs_ (by assumption)))) (fun k_ hk_ => by first | exact ⟨hk_.1.1, hk_.1.2.1, hk_.1.2.2⟩ | (revert hk_; simp only [and_imp]; intros; and_intros <;> assumption))); have n2_ := Aside0.mk (Kd.R_mono (ok' := fun k_ => some k_ ≠ (.slice Ao42 t300.length co42 : Value).ownBlock ∧ some k_ ≠ (.slice Ao48 t328.length co48 : Value).ownBlock ∧ some k_ ≠ (.slice Ao66 t313.length co66 : Value).ownBlock) (Kd.R_keptB (HO_313000.out) hkp (fun k_ hk_ hs_ => by first | exact (hk_.2.2) hs_ | (revert hk_; simp only [and_imp]; intros; exact absurd hs_ (by assumption)))) (fun k_ hk_ => by first | exact ⟨hk_.1.1, hk_.1.2.1, hk_.1.2.2⟩ | (revert hk_; simp only [and_imp]; intros; and_intros <;> assumption))); have n3_ := Aside0.mk (Kd.R_reok rfl hy0 (fun k_ e_ => HO_318000.out.1 k_ e_)); have n4_ := Aside0.mk (blk_kept (zh BK290.out) hkp (fun hs_ => (fun e_ => (Kd.R_ne HO_318000.out BK290.out (by decide)) e_) hs_)); have n5_ := Aside0.mk (blk_kept (zh BK291.out) hkp (fun hs_ => (fun e_ => (Kd.R_ne HO_318000.out BK291.out (by decide)) e_) hs_)); have n6_ := Aside0.mk (blk_kept (zh BK304.out) hkp (fun hs_ => (fun e_ => (Kd.R_ne HO_318000.out BK304.out (by decide)) e_) hs_)); have n7_ := Aside0.mk (blk_kept (zh BK308.out) hkp (fun hs_ => (fun e_ => (Kd.R_ne HO_318000.out BK308.out (by decide)) e_) hs_)); have n8_ := Aside0.mk (blk_kept (zh BK312.out) hkp (fun hs_ => (fun e_ => (Kd.R_ne HO_318000.out BK312.out (by decide)) e_) hs_)); have n9_ := Aside0.mk (blk_kept (zh BK317.out) hkp (fun hs_ => (fun e_ => (Kd.R_ne HO_318000.out BK317.out (by decide)) e_) hs_)); have n10_ := Aside0.mk (hb); clear HO_305000 HO_309000 HO_313000 HO_318000 BK290 BK291 BK304 BK308 BK312 BK317 HB; have HO_305000 := n0_; have HO_309000 := n1_; have HO_313000 := n2_; have HO_318000 := n3_; have BK290 := n4_; have BK291 := n5_; have BK304 := n6_; have BK308 := n7_; have BK312 := n8_; have BK317 := n9_; have HB := n10_; clear n0_ n1_ n2_ n3_ n4_ n5_ n6_ n7_ n8_ n9_ n10_; (try clear hb); (try clear hkp); (try clear hy0); have hcz259_0 : w258.cell? ⟨gb317, 0, none⟩ = some (.slice Ao66 t313.length co66) := (blk_cell BK317.out 0).trans rfl; have hfz259_0 := blk_frozen BK317.out 0) | ((with_reducible refine gate_callee (f := 13) rfl ?_); refine goesL_ (some 92) rfl rfl Try.func13 (by kernel_rfl) rfl #[.agg #[.slice Ao66 t333.length co66], .int .i64 1] rfl (by (try simp only [List.map_toArray, List.map_cons, List.map_nil]); first | done | (rw [show t333.length = t313.length from (Kd.R_reads' HO_318000.out).1.symm] <;> rfl) | rfl | (simp only [List.length_drop, List.length_take]; rfl)) ?_; (with_reducible refine (laws_heldPool.calls kj107 _ _ t333 1 t334 _ ?side1 ?side2 A159.out).mono ?_); (case side1 => exact zc (Kd.R_reads' HO_318000.out).2.2); (case side2 => rw [show t333.length = t313.length from (Kd.R_reads' HO_318000.out).1.symm]; exact (Kd.R_reads' HO_318000.out).2.1); rintro e w260 ⟨rfl, hb⟩; refine ⟨_, rfl, ?_⟩; have n0_ := Aside0.mk (Kd.R_below (zr HO_305000.out) hb); have n1_ := Aside0.mk (Kd.R_below (zr HO_309000.out) hb); have n2_ := Aside0.mk (Kd.R_below (zr HO_313000.out) hb); have n3_ := Aside0.mk (Kd.R_below (zr HO_318000.out) hb); have n4_ := Aside0.mk (blk_below (zh BK290.out) hb); have n5_ := Aside0.mk (blk_below (zh BK291.out) hb); have n6_ := Aside0.mk (blk_below (zh BK304.out) hb); have n7_ := Aside0.mk (blk_below (zh BK308.out) hb); have n8_ := Aside0.mk (blk_below (zh BK312.out) hb); have n9_ := Aside0.mk (blk_below (zh BK317.out) hb); have n10_ := Aside0.mk (below_step (zb HB.out) hb); clear HO_305000 HO_309000 HO_313000 HO_318000 BK290 BK291 BK304 BK308 BK312 BK317 HB; have HO_305000 := n0_; have HO_309000 := n1_; have HO_313000 := n2_; have HO_318000 := n3_; have BK290 := n4_; have BK291 := n5_; have BK304 := n6_; have BK308 := n7_; have BK312 := n8_; have BK317 := n9_; have HB := n10_; clear n0_ n1_ n2_ n3_ n4_ n5_ n6_ n7_ n8_ n9_ n10_; (try clear hb); (try clear hb2); (try clear hk); (try clear hi)))
      go_ret
      exact ⟨ze, zb HB.out⟩
     rw [if_pos c170] at H
     have c170b0 : (t334 == t332) = true := beq_iff_eq.mpr c170
     have c170b1 : (t334 != t332) = false := bne_eq_false_iff_eq.mpr c170
     clear c170
     replace H := Option.bind_eq_some_iff.mp H
     obtain ⟨t335, A1710, H⟩ := H
     replace H : ((laws_toPool.f kj107 l2_0).bind fun t338 => ((impl_TermMove.f kj107 t335 a1 t338).bind fun bt341 => ((laws_eqPool.f kj107 bt341.1 t300).bind fun t346 => (if t346 = true then (laws_FnExactTermMove.j2 kj107 t332 (bt341.2 != t303) t333) else (laws_FnExactTermMove.j2 kj107 t332 true t333))))) = some r := H
     have A171 := Aside0.mk A1710
     clear A1710
     replace H := Option.bind_eq_some_iff.mp H
     obtain ⟨t338, A1720, H⟩ := H
     replace H : ((impl_TermMove.f kj107 t335 a1 t338).bind fun bt341 => ((laws_eqPool.f kj107 bt341.1 t300).bind fun t346 => (if t346 = true then (laws_FnExactTermMove.j2 kj107 t332 (bt341.2 != t303) t333) else (laws_FnExactTermMove.j2 kj107 t332 true t333)))) = some r := H
     have A172 := Aside0.mk A1720
     clear A1720
     replace H := Option.bind_eq_some_iff.mp H
     obtain ⟨⟨t341, t344⟩, A1730, H⟩ := H
     replace H : ((laws_eqPool.f kj107 t341 t300).bind fun t346 => (if t346 = true then (laws_FnExactTermMove.j2 kj107 t332 (t344 != t303) t333) else (laws_FnExactTermMove.j2 kj107 t332 true t333))) = some r := H
     have A173 := Aside0.mk A1730
     clear A1730
     have HC174 := Aside0.mk H
     clear H
     have hnb175 := NB317_290.out
     have hnc175 := NB290_317.out
     have hnb176 := NB317_291.out
     have hnc176 := NB291_317.out
     have hnb177 := NB317_304.out
     have hnc177 := NB304_317.out
     have hnb178 := NB317_308.out
     have hnc178 := NB308_317.out
     have hnb179 := NB317_312.out
     have hnc179 := NB312_317.out
     have hcz180_0 : wc.cell? ⟨gb317, 0, none⟩ = some (.slice Ao66 t313.length co66) := (blk_cell BK317.out 0).trans rfl
     have hfz180_0 := blk_frozen BK317.out 0
     try go_wp2_with (first | ((with_reducible refine gate_callee (f := 12) rfl ?_); refine goesL_ (some 89) rfl rfl Try.func12 (by kernel_rfl) rfl #[.agg #[.slice Ao66 t313.length co66], .int .i64 1] rfl zl ?_; (with_reducible refine (laws_markPool.calls kj107 (fun k_ => some k_ = (.slice Ao66 t313.length co66 : Value).ownBlock) (.slice Ao66 t313.length co66) t313 1 t332 t333 w _ ?side1 ?side2 A158.out).mono ?_); (case side1 => exact zb HB.out); (case side2 => exact Kd.R_tight rfl HO_318000.out); rintro e w181 ⟨rfl, hy0, hb, hkp⟩; refine ⟨_, rfl, ?_⟩; have n0_ := Aside0.mk (Kd.R_mono (ok' := fun k_ => some k_ ≠ (.slice Ao48 t328.length co48 : Value).ownBlock ∧ some k_ ≠ (.slice Ao57 t330.length co57 : Value).ownBlock ∧ some k_ ≠ (.slice Ao66 t313.length co66 : Value).ownBlock) (Kd.R_keptB (HO_305000.out) hkp (fun k_ hk_ hs_ => by first | exact (hk_.2.2) hs_ | (revert hk_; simp only [and_imp]; intros; exact absurd hs_ (by assumption)))) (fun k_ hk_ => by first | exact ⟨hk_.1.1, hk_.1.2.1, hk_.1.2.2⟩ | (revert hk_; simp only [and_imp]; intros; and_intros <;> assumption))); have n1_ := Aside0.mk (Kd.R_mono (ok' := fun k_ => some k_ ≠ (.slice Ao42 t300.length co42 : Value).ownBlock ∧ some k_ ≠ (.slice Ao57 t330.length co57 : Value).ownBlock ∧ some k_ ≠ (.slice Ao66 t313.length co66 : Value).ownBlock) (Kd.R_keptB (HO_309000.out) hkp (fun k_ hk_ hs_ => by first | exact (hk_.2.2) hs_ | (revert hk_; simp only [and_imp]; intros; exact absurd hs_ (by assumption)))) (fun k_ hk_ => by first | exact ⟨hk_.1.1, hk_.1.2.1, hk_.1.2.2⟩ | (revert hk_; simp only [and_imp]; intros; and_intros <;> assumption))); have n2_ := Aside0.mk (Kd.R_mono (ok' := fun k_ => some k_ ≠ (.slice Ao42 t300.length co42 : Value).ownBlock ∧ some k_ ≠ (.slice Ao48 t328.length co48 : Value).ownBlock ∧ some k_ ≠ (.slice Ao66 t313.length co66 : Value).ownBlock) (Kd.R_keptB (HO_313000.out) hkp (fun k_ hk_ hs_ => by first | exact (hk_.2.2) hs_ | (revert hk_; simp only [and_imp]; intros; exact absurd hs_ (by assumption)))) (fun k_ hk_ => by first | exact ⟨hk_.1.1, hk_.1.2.1, hk_.1.2.2⟩ | (revert hk_; simp only [and_imp]; intros; and_intros <;> assumption))); have n3_ := Aside0.mk (Kd.R_reok rfl hy0 (fun k_ e_ => HO_318000.out.1 k_ e_)); have n4_ := Aside0.mk (blk_kept (zh BK290.out) hkp (fun hs_ => (fun e_ => (Kd.R_ne HO_318000.out BK290.out (by decide)) e_) hs_)); have n5_ := Aside0.mk (blk_kept (zh BK291.out) hkp (fun hs_ => (fun e_ => (Kd.R_ne HO_318000.out BK291.out (by decide)) e_) hs_)); have n6_ := Aside0.mk (blk_kept (zh BK304.out) hkp (fun hs_ => (fun e_ => (Kd.R_ne HO_318000.out BK304.out (by decide)) e_) hs_)); have n7_ := Aside0.mk (blk_kept (zh BK308.out) hkp (fun hs_ => (fun e_ => (Kd.R_ne HO_318000.out BK308.out (by decide)) e_) hs_)); have n8_ := Aside0.mk (blk_kept (zh BK312.out) hkp (fun hs_ => (fun e_ => (Kd.R_ne HO_318000.out BK312.out (by decide)) e_) hs_)); have n9_ := Aside0.mk (blk_kept (zh BK317.out) hkp (fun hs_ => (fun e_ => (Kd.R_ne HO_318000.out BK317.out (by decide)) e_) hs_)); have n10_ := Aside0.mk (hb); clear HO_305000 HO_309000 HO_313000 HO_318000 BK290 BK291 BK304 BK308 BK312 BK317 HB; have HO_305000 := n0_; have HO_309000 := n1_; have HO_313000 := n2_; have HO_318000 := n3_; have BK290 := n4_; have BK291 := n5_; have BK304 := n6_; have BK308 := n7_; have BK312 := n8_; have BK317 := n9_; have HB := n10_; clear n0_ n1_ n2_ n3_ n4_ n5_ n6_ n7_ n8_ n9_ n10_; (try clear hb); (try clear hkp); (try clear hy0); have hcz182_0 : w181.cell? ⟨gb317, 0, none⟩ = some (.slice Ao66 t313.length co66) := (blk_cell BK317.out 0).trans rfl; have hfz182_0 := blk_frozen BK317.out 0) | ((with_reducible refine gate_callee (f := 13) rfl ?_); refine goesL_ (some 92) rfl rfl Try.func13 (by kernel_rfl) rfl #[.agg #[.slice Ao66 t333.length co66], .int .i64 1] rfl (by (try simp only [List.map_toArray, List.map_cons, List.map_nil]); first | done | (rw [show t333.length = t313.length from (Kd.R_reads' HO_318000.out).1.symm] <;> rfl) | rfl | (simp only [List.length_drop, List.length_take]; rfl)) ?_; (with_reducible refine (laws_heldPool.calls kj107 _ _ t333 1 t334 _ ?side1 ?side2 A159.out).mono ?_); (case side1 => exact zc (Kd.R_reads' HO_318000.out).2.2); (case side2 => rw [show t333.length = t313.length from (Kd.R_reads' HO_318000.out).1.symm]; exact (Kd.R_reads' HO_318000.out).2.1); rintro e w183 ⟨rfl, hb⟩; refine ⟨_, rfl, ?_⟩; have n0_ := Aside0.mk (Kd.R_below (zr HO_305000.out) hb); have n1_ := Aside0.mk (Kd.R_below (zr HO_309000.out) hb); have n2_ := Aside0.mk (Kd.R_below (zr HO_313000.out) hb); have n3_ := Aside0.mk (Kd.R_below (zr HO_318000.out) hb); have n4_ := Aside0.mk (blk_below (zh BK290.out) hb); have n5_ := Aside0.mk (blk_below (zh BK291.out) hb); have n6_ := Aside0.mk (blk_below (zh BK304.out) hb); have n7_ := Aside0.mk (blk_below (zh BK308.out) hb); have n8_ := Aside0.mk (blk_below (zh BK312.out) hb); have n9_ := Aside0.mk (blk_below (zh BK317.out) hb); have n10_ := Aside0.mk (below_step (zb HB.out) hb); clear HO_305000 HO_309000 HO_313000 HO_318000 BK290 BK291 BK304 BK308 BK312 BK317 HB; have HO_305000 := n0_; have HO_309000 := n1_; have HO_313000 := n2_; have HO_318000 := n3_; have BK290 := n4_; have BK291 := n5_; have BK304 := n6_; have BK308 := n7_; have BK312 := n8_; have BK317 := n9_; have HB := n10_; clear n0_ n1_ n2_ n3_ n4_ n5_ n6_ n7_ n8_ n9_ n10_; (try clear hb); (try clear hb2); (try clear hk); (try clear hi)))
     have n0_ := Aside0.mk (Kd.R_drew HO_305000.out)
     have n1_ := Aside0.mk (Kd.R_drew HO_309000.out)
     have n2_ := Aside0.mk (Kd.R_drew HO_313000.out)
     have n3_ := Aside0.mk (Kd.R_drew HO_318000.out)
     have n4_ := Aside0.mk (blk_drew BK290.out)
     have n5_ := Aside0.mk (blk_drew BK291.out)
     have n6_ := Aside0.mk (blk_drew BK304.out)
     have n7_ := Aside0.mk (blk_drew BK308.out)
     have n8_ := Aside0.mk (blk_drew BK312.out)
     have n9_ := Aside0.mk (blk_drew BK317.out)
     have n10_ := Aside0.mk (below_drew1 HB.out)
     clear HO_305000 HO_309000 HO_313000 HO_318000 BK290 BK291 BK304 BK308 BK312 BK317 HB
     have HO_305000 := n0_
     have HO_309000 := n1_
     have HO_313000 := n2_
     have HO_318000 := n3_
     have BK290 := n4_
     have BK291 := n5_
     have BK304 := n6_
     have BK308 := n7_
     have BK312 := n8_
     have BK317 := n9_
     have HB := n10_
     clear n0_ n1_ n2_ n3_ n4_ n5_ n6_ n7_ n8_ n9_ n10_
     refine start_ (n := 12) (S := fun w' => w'.cell? ⟨gb290, 0, none⟩ = some (.slice A0_0 l0_0.length c0_0) ∧ w'.cell? ⟨gb291, 0, none⟩ = some (.slice A2_0 l2_0.length c2_0)) (ds := []) #[false, false, false, false, false, false, false, false, false, false, false, false] (by kernel_rfl) rfl rfl ⟨(blk_cell BK290.out 0).trans rfl, (blk_cell BK291.out 0).trans rfl⟩ (fun hHeld => ?_); refine with_tabW laws_FnExactTermMove.tab31 laws_FnExactTermMove.bits31 (fun HT_ HW_ => ?_)
     generalize w183.drew = w184 at HO_305000 HO_309000 HO_313000 HO_318000 BK290 BK291 BK304 BK308 BK312 BK317 HB hHeld ⊢
     refine pure_ (i := 2) (N := some 101) (v := ?_) (a' := ?_) #[false, false, true, false, false, false, false, false, false, false, false, false] rfl rfl (any_of HT_.out (by kernel_rfl)) (fun _ _ _ h => h) (Or.inl ⟨by rfl, ?_⟩) ?_ ?_
     rotate_left
     ·intro w'
      go_simp
      with_reducible rfl
     rotate_left
     ·exact zn
     refine take_ (i := 0) (N := some 99) (v := ?_) (a' := ?_) #[true, false, true, false, false, false, false, false, false, false, false, false] rfl rfl (take_ofW HT_.out HW_.out (by kernel_rfl)) (fun _ _ _ h => h) (Or.inl ⟨by rfl, ?_⟩) hHeld ?_ ?_
     rotate_left
     ·rintro w' ⟨s0, s1⟩
      go_simp
      with_reducible rfl
     rotate_left
     ·exact zn
     refine take_ (i := 3) (N := some 102) (v := ?_) (a' := ?_) #[true, false, true, true, false, false, false, false, false, false, false, false] rfl rfl (take_ofW HT_.out HW_.out (by kernel_rfl)) (fun _ _ _ h => h) (Or.inl ⟨by rfl, ?_⟩) hHeld ?_ ?_
     rotate_left
     ·rintro w' ⟨s0, s1⟩
      go_simp
      with_reducible rfl
     rotate_left
     ·exact zn
     refine join_ (σ := Value × Value × Value × Nat) 2 #[true, true, true, true, true, true, true, true, true, true, false, false] (fun s_ => [(100, .agg #[s_.1]), (103, .agg #[s_.2.1]), (104, .tuple #[.agg #[s_.2.2.1], .int .i64 t344]), (17, .pointer (some ⟨s_.2.2.2, 0, none⟩)), (98, .tuple #[.agg #[s_.2.2.1], .int .i64 t344]), (105, .agg #[s_.2.2.1]), (106, .int .i64 t344)]) (fun s_ w' => (w'.cell? ⟨gb290, 0, none⟩ = some (.slice A0_0 l0_0.length c0_0) ∧ w'.cell? ⟨gb291, 0, none⟩ = some (.slice A2_0 l2_0.length c2_0)) ∧ (Kd.R k55 55 w' w.heap.size (fun k_ => some k_ ≠ (s_.2.1 : Value).ownBlock ∧ some k_ ≠ (s_.2.2.1 : Value).ownBlock ∧ some k_ ≠ (.slice Ao42 t300.length co42 : Value).ownBlock ∧ some k_ ≠ (.slice Ao48 t328.length co48 : Value).ownBlock ∧ some k_ ≠ (.slice Ao57 t330.length co57 : Value).ownBlock ∧ some k_ ≠ (.slice Ao66 t313.length co66 : Value).ownBlock) s_.1 t335) ∧ (Kd.R k55 55 w' w.heap.size (fun k_ => some k_ ≠ (s_.1 : Value).ownBlock ∧ some k_ ≠ (s_.2.2.1 : Value).ownBlock ∧ some k_ ≠ (.slice Ao42 t300.length co42 : Value).ownBlock ∧ some k_ ≠ (.slice Ao48 t328.length co48 : Value).ownBlock ∧ some k_ ≠ (.slice Ao57 t330.length co57 : Value).ownBlock ∧ some k_ ≠ (.slice Ao66 t313.length co66 : Value).ownBlock) s_.2.1 t338) ∧ (Kd.R k55 55 w' w.heap.size (fun k_ => some k_ ≠ (s_.1 : Value).ownBlock ∧ some k_ ≠ (s_.2.1 : Value).ownBlock ∧ some k_ ≠ (.slice Ao42 t300.length co42 : Value).ownBlock ∧ some k_ ≠ (.slice Ao48 t328.length co48 : Value).ownBlock ∧ some k_ ≠ (.slice Ao57 t330.length co57 : Value).ownBlock ∧ some k_ ≠ (.slice Ao66 t313.length co66 : Value).ownBlock) s_.2.2.1 t341) ∧ (Kd.R k55 55 w' w.heap.size (fun k_ => some k_ ≠ (s_.1 : Value).ownBlock ∧ some k_ ≠ (s_.2.1 : Value).ownBlock ∧ some k_ ≠ (s_.2.2.1 : Value).ownBlock ∧ some k_ ≠ (.slice Ao48 t328.length co48 : Value).ownBlock ∧ some k_ ≠ (.slice Ao57 t330.length co57 : Value).ownBlock ∧ some k_ ≠ (.slice Ao66 t313.length co66 : Value).ownBlock) (.slice Ao42 t300.length co42) t300) ∧ (Kd.R k55 55 w' w.heap.size (fun k_ => some k_ ≠ (s_.1 : Value).ownBlock ∧ some k_ ≠ (s_.2.1 : Value).ownBlock ∧ some k_ ≠ (s_.2.2.1 : Value).ownBlock ∧ some k_ ≠ (.slice Ao42 t300.length co42 : Value).ownBlock ∧ some k_ ≠ (.slice Ao57 t330.length co57 : Value).ownBlock ∧ some k_ ≠ (.slice Ao66 t313.length co66 : Value).ownBlock) (.slice Ao48 t328.length co48) t328) ∧ (Kd.R k55 55 w' w.heap.size (fun k_ => some k_ ≠ (s_.1 : Value).ownBlock ∧ some k_ ≠ (s_.2.1 : Value).ownBlock ∧ some k_ ≠ (s_.2.2.1 : Value).ownBlock ∧ some k_ ≠ (.slice Ao42 t300.length co42 : Value).ownBlock ∧ some k_ ≠ (.slice Ao48 t328.length co48 : Value).ownBlock ∧ some k_ ≠ (.slice Ao66 t313.length co66 : Value).ownBlock) (.slice Ao57 t330.length co57) t330) ∧ (Kd.R k55 55 w' w.heap.size (fun k_ => some k_ ≠ (s_.1 : Value).ownBlock ∧ some k_ ≠ (s_.2.1 : Value).ownBlock ∧ some k_ ≠ (s_.2.2.1 : Value).ownBlock ∧ some k_ ≠ (.slice Ao42 t300.length co42 : Value).ownBlock ∧ some k_ ≠ (.slice Ao48 t328.length co48 : Value).ownBlock ∧ some k_ ≠ (.slice Ao57 t330.length co57 : Value).ownBlock) (.slice Ao66 t313.length co66) t333) ∧ (w'.heap[gb290]? = some (.cells #[.slice A0_0 l0_0.length c0_0] 24 (0, 0))) ∧ (w'.heap[gb291]? = some (.cells #[.slice A2_0 l2_0.length c2_0] 24 (0, 0))) ∧ (w'.heap[gb304]? = some (.cells #[.slice Ao42 t300.length co42] 28 (0, 0))) ∧ (w'.heap[gb308]? = some (.cells #[.slice Ao48 t328.length co48] 28 (0, 0))) ∧ (w'.heap[gb312]? = some (.cells #[.slice Ao57 t330.length co57] 28 (0, 0))) ∧ (w'.heap[gb317]? = some (.cells #[.slice Ao66 t313.length co66] 28 (0, 0))) ∧ (w'.heap[s_.2.2.2]? = some (.cells #[.slice none 0 0] 28 (0, 0))) ∧ (w.heap.size ≤ s_.2.2.2) ∧ (w.heap.size ≤ s_.2.2.2) ∧ (gb290 ≠ s_.2.2.2) ∧ (s_.2.2.2 ≠ gb290) ∧ (gb291 ≠ s_.2.2.2) ∧ (s_.2.2.2 ≠ gb291) ∧ (gb304 ≠ s_.2.2.2) ∧ (s_.2.2.2 ≠ gb304) ∧ (gb308 ≠ s_.2.2.2) ∧ (s_.2.2.2 ≠ gb308) ∧ (gb312 ≠ s_.2.2.2) ∧ (s_.2.2.2 ≠ gb312) ∧ (gb317 ≠ s_.2.2.2) ∧ (s_.2.2.2 ≠ gb317) ∧ (Below w.heap.size w w')) ?_ ?_
     rotate_left
     ·intro hCont
      refine two_ (i := 1) (j := 9) (Ni := some 100) (Nj := some 17) #[true, true, true, true, false, false, false, false, false, false, false, false] #[true, false, true, true, false, false, false, false, false, true, false, false] rfl rfl rfl rfl (two_of HT_.out (by kernel_rfl)) (by decide) (by decide) (fun K hK => ?_) (fun K hK => ?_)
      ·skip
       refine goes_ Try.func9 (by kernel_rfl) rfl #[.agg #[.slice A0_0 l0_0.length c0_0]] (by rfl) rfl rfl zl ?_
       with_reducible refine (laws_toPool.calls kj107 _ _ l0_0 t335 _ ?side1 ?side2 A171.out).mono ?_
       (case side1 => exact zc (Kd.C_below HR0_0.out HB.out))
       (case side2 => exact HC0_0.out)
       rintro e w185 ⟨v336, rfl, ho0, hb⟩
       refine ⟨_, rfl, ?_⟩
       have n0_ := Aside0.mk (Kd.R_elder' (zr HO_305000.out) (Kd.R_base ho0) hb)
       have n1_ := Aside0.mk (Kd.R_elder' (zr HO_309000.out) (Kd.R_base ho0) hb)
       have n2_ := Aside0.mk (Kd.R_elder' (zr HO_313000.out) (Kd.R_base ho0) hb)
       have n3_ := Aside0.mk (Kd.R_elder' (zr HO_318000.out) (Kd.R_base ho0) hb)
       have n4_ := Aside0.mk (Kd.R_lower (Kd.R_new' (Kd.R_new' (Kd.R_new' (Kd.R_new' ho0 (Kd.R_lt (zr HO_305000.out))) (Kd.R_lt (zr HO_309000.out))) (Kd.R_lt (zr HO_313000.out))) (Kd.R_lt (zr HO_318000.out))) (below_size (zb HB.out)))
       have n5_ := Aside0.mk (blk_below (zh BK290.out) hb)
       have n6_ := Aside0.mk (blk_below (zh BK291.out) hb)
       have n7_ := Aside0.mk (blk_below (zh BK304.out) hb)
       have n8_ := Aside0.mk (blk_below (zh BK308.out) hb)
       have n9_ := Aside0.mk (blk_below (zh BK312.out) hb)
       have n10_ := Aside0.mk (blk_below (zh BK317.out) hb)
       have n11_ := Aside0.mk (below_step (zb HB.out) hb)
       clear HO_305000 HO_309000 HO_313000 HO_318000 BK290 BK291 BK304 BK308 BK312 BK317 HB
       have HO_305000 := n0_
       have HO_309000 := n1_
       have HO_313000 := n2_
       have HO_318000 := n3_
       have HO337 := n4_
       have BK290 := n5_
       have BK291 := n6_
       have BK304 := n7_
       have BK308 := n8_
       have BK312 := n9_
       have BK317 := n10_
       have HB := n11_
       clear n0_ n1_ n2_ n3_ n4_ n5_ n6_ n7_ n8_ n9_ n10_ n11_
       (try clear hb)
       (try clear hb2)
       (try clear hk)
       (try clear hi)
       (try clear ho0)
       refine hK.out _ _ ⟨(blk_cell BK290.out 0).trans rfl, (blk_cell BK291.out 0).trans rfl⟩ (fun hHeld => ?_)
       clear hK K
       refine norm_ (a' := ?_) ?_ ?_
       rotate_left
       ·exact zn (N := some 100)
       refine two_ (i := 4) (j := 9) (Ni := some 103) (Nj := some 17) #[true, true, true, true, true, false, false, false, false, false, false, false] #[true, true, true, true, false, false, false, false, false, true, false, false] rfl rfl rfl rfl (two_of HT_.out (by kernel_rfl)) (by decide) (by decide) (fun K hK => ?_) (fun K hK => ?_)
       ·skip
        refine goes_ Try.func9 (by kernel_rfl) rfl #[.agg #[.slice A2_0 l2_0.length c2_0]] (by rfl) rfl rfl zl ?_
        with_reducible refine (laws_toPool.calls kj107 _ _ l2_0 t338 _ ?side1 ?side2 A172.out).mono ?_
        (case side1 => exact zc (Kd.C_below HR2_0.out HB.out))
        (case side2 => exact HC2_0.out)
        rintro e w186 ⟨v339, rfl, ho0, hb⟩
        refine ⟨_, rfl, ?_⟩
        have n0_ := Aside0.mk (Kd.R_elder' (zr HO_305000.out) (Kd.R_base ho0) hb)
        have n1_ := Aside0.mk (Kd.R_elder' (zr HO_309000.out) (Kd.R_base ho0) hb)
        have n2_ := Aside0.mk (Kd.R_elder' (zr HO_313000.out) (Kd.R_base ho0) hb)
        have n3_ := Aside0.mk (Kd.R_elder' (zr HO_318000.out) (Kd.R_base ho0) hb)
        have n4_ := Aside0.mk (Kd.R_elder' (zr HO337.out) (Kd.R_base ho0) hb)
        have n5_ := Aside0.mk (Kd.R_lower (Kd.R_new' (Kd.R_new' (Kd.R_new' (Kd.R_new' (Kd.R_new' ho0 (Kd.R_lt (zr HO_305000.out))) (Kd.R_lt (zr HO_309000.out))) (Kd.R_lt (zr HO_313000.out))) (Kd.R_lt (zr HO_318000.out))) (Kd.R_lt (zr HO337.out))) (below_size (zb HB.out)))
        have n6_ := Aside0.mk (blk_below (zh BK290.out) hb)
        have n7_ := Aside0.mk (blk_below (zh BK291.out) hb)
        have n8_ := Aside0.mk (blk_below (zh BK304.out) hb)
        have n9_ := Aside0.mk (blk_below (zh BK308.out) hb)
        have n10_ := Aside0.mk (blk_below (zh BK312.out) hb)
        have n11_ := Aside0.mk (blk_below (zh BK317.out) hb)
        have n12_ := Aside0.mk (below_step (zb HB.out) hb)
        clear HO_305000 HO_309000 HO_313000 HO_318000 HO337 BK290 BK291 BK304 BK308 BK312 BK317 HB
        have HO_305000 := n0_
        have HO_309000 := n1_
        have HO_313000 := n2_
        have HO_318000 := n3_
        have HO337 := n4_
        have HO340 := n5_
        have BK290 := n6_
        have BK291 := n7_
        have BK304 := n8_
        have BK308 := n9_
        have BK312 := n10_
        have BK317 := n11_
        have HB := n12_
        clear n0_ n1_ n2_ n3_ n4_ n5_ n6_ n7_ n8_ n9_ n10_ n11_ n12_
        (try clear hb)
        (try clear hb2)
        (try clear hk)
        (try clear hi)
        (try clear ho0)
        obtain ⟨Ao187, co187, eo187⟩ := Kd.R_slice HO337.out
        (first | subst eo187 | (injection eo187 with f1_ f2_ f3_; have f4_ := f1_.symm; have f5_ := f3_.symm; clear f1_ f2_ f3_; subst f4_; subst f5_))
        obtain ⟨Ao188, co188, eo188⟩ := Kd.R_slice HO340.out
        (first | subst eo188 | (injection eo188 with f1_ f2_ f3_; have f4_ := f1_.symm; have f5_ := f3_.symm; clear f1_ f2_ f3_; subst f4_; subst f5_))
        refine hK.out _ _ ⟨(blk_cell BK290.out 0).trans rfl, (blk_cell BK291.out 0).trans rfl⟩ (fun hHeld => ?_)
        clear hK K
        refine norm_ (a' := ?_) ?_ ?_
        rotate_left
        ·exact zn (N := some 103)
        refine two_ (i := 5) (j := 9) (Ni := some 104) (Nj := some 17) #[true, true, true, true, true, true, false, false, false, false, false, false] #[true, true, true, true, true, false, false, false, false, true, false, false] rfl rfl rfl rfl (two_of HT_.out (by kernel_rfl)) (by decide) (by decide) (fun K hK => ?_) (fun K hK => ?_)
        ·skip
         refine goes_ Try.func15 (by kernel_rfl) rfl #[.agg #[.slice Ao187 t335.length co187], .int .i64 a1, .agg #[.slice Ao188 t338.length co188]] (by rfl) rfl rfl zl ?_
         with_reducible refine (impl_TermMove.calls kj107 _ _ t335 a1 _ _ t338 t341 t344 _ ?side1 ?side2 ?side3 ?side4 A173.out).mono ?_
         (case side1 => exact zc (Kd.R_reads' HO337.out).2.2)
         (case side2 => exact (Kd.R_reads' HO337.out).2.1)
         (case side3 => exact zc (Kd.R_reads' HO340.out).2.2)
         (case side4 => exact (Kd.R_reads' HO340.out).2.1)
         rintro e w189 ⟨v342, rfl, ho0, hb⟩
         refine ⟨_, rfl, ?_⟩
         have n0_ := Aside0.mk (Kd.R_elder' (zr HO_305000.out) (Kd.R_base ho0) hb)
         have n1_ := Aside0.mk (Kd.R_elder' (zr HO_309000.out) (Kd.R_base ho0) hb)
         have n2_ := Aside0.mk (Kd.R_elder' (zr HO_313000.out) (Kd.R_base ho0) hb)
         have n3_ := Aside0.mk (Kd.R_elder' (zr HO_318000.out) (Kd.R_base ho0) hb)
         have n4_ := Aside0.mk (Kd.R_elder' (zr HO337.out) (Kd.R_base ho0) hb)
         have n5_ := Aside0.mk (Kd.R_elder' (zr HO340.out) (Kd.R_base ho0) hb)
         have n6_ := Aside0.mk (Kd.R_lower (Kd.R_new' (Kd.R_new' (Kd.R_new' (Kd.R_new' (Kd.R_new' (Kd.R_new' ho0 (Kd.R_lt (zr HO_305000.out))) (Kd.R_lt (zr HO_309000.out))) (Kd.R_lt (zr HO_313000.out))) (Kd.R_lt (zr HO_318000.out))) (Kd.R_lt (zr HO337.out))) (Kd.R_lt (zr HO340.out))) (below_size (zb HB.out)))
         have n7_ := Aside0.mk (blk_below (zh BK290.out) hb)
         have n8_ := Aside0.mk (blk_below (zh BK291.out) hb)
         have n9_ := Aside0.mk (blk_below (zh BK304.out) hb)
         have n10_ := Aside0.mk (blk_below (zh BK308.out) hb)
         have n11_ := Aside0.mk (blk_below (zh BK312.out) hb)
         have n12_ := Aside0.mk (blk_below (zh BK317.out) hb)
         have n13_ := Aside0.mk (below_step (zb HB.out) hb)
         clear HO_305000 HO_309000 HO_313000 HO_318000 HO337 HO340 BK290 BK291 BK304 BK308 BK312 BK317 HB
         have HO_305000 := n0_
         have HO_309000 := n1_
         have HO_313000 := n2_
         have HO_318000 := n3_
         have HO337 := n4_
         have HO340 := n5_
         have HO343 := n6_
         have BK290 := n7_
         have BK291 := n8_
         have BK304 := n9_
         have BK308 := n10_
         have BK312 := n11_
         have BK317 := n12_
         have HB := n13_
         clear n0_ n1_ n2_ n3_ n4_ n5_ n6_ n7_ n8_ n9_ n10_ n11_ n12_ n13_
         (try clear hb)
         (try clear hb2)
         (try clear hk)
         (try clear hi)
         (try clear ho0)
         refine hK.out _ _ ⟨(blk_cell BK290.out 0).trans rfl, (blk_cell BK291.out 0).trans rfl⟩ (fun hHeld => ?_)
         clear hK K
         refine norm_ (a' := ?_) ?_ ?_
         rotate_left
         ·exact zn (N := some 104)
         refine pure_ (i := 6) (N := some 98) (v := ?_) (a' := ?_) #[true, true, true, true, true, true, true, false, false, false, false, false] rfl rfl (any_of HT_.out (by kernel_rfl)) (fun _ _ _ h => h) (Or.inl ⟨by rfl, ?_⟩) ?_ ?_
         rotate_left
         ·intro w'
          go_simp
          with_reducible rfl
         rotate_left
         ·exact zn
         refine pure_ (i := 7) (N := some 105) (v := ?_) (a' := ?_) #[true, true, true, true, true, true, true, true, false, false, false, false] rfl rfl (any_of HT_.out (by kernel_rfl)) (fun _ _ _ h => h) (Or.inl ⟨by rfl, ?_⟩) ?_ ?_
         rotate_left
         ·intro w'
          go_simp
          with_reducible rfl
         rotate_left
         ·exact zn
         refine pure_ (i := 8) (N := some 106) (v := ?_) (a' := ?_) #[true, true, true, true, true, true, true, true, true, false, false, false] rfl rfl (any_of HT_.out (by kernel_rfl)) (fun _ _ _ h => h) (Or.inl ⟨by rfl, ?_⟩) ?_ ?_
         rotate_left
         ·intro w'
          go_simp
          with_reducible rfl
         rotate_left
         ·exact zn
         refine one_ (i := 9) (N := some 17) #[true, true, true, true, true, true, true, true, true, true, false, false] rfl rfl (one_of HT_.out (by kernel_rfl)) (by decide) (fun K hK => ?_)
         refine box_step ?hg (N := 17) ?hd (cs := #[.slice none 0 0]) (t := 28) ?hr ?_; (case hd => rfl); (case hg => rfl); (case hr => first | (go_simp; done) | (go_simp; rfl))
         intro gb345 hg w190 hbox hb
         have n0_ := Aside0.mk (Kd.R_below (zr HO_305000.out) hb)
         have n1_ := Aside0.mk (Kd.R_below (zr HO_309000.out) hb)
         have n2_ := Aside0.mk (Kd.R_below (zr HO_313000.out) hb)
         have n3_ := Aside0.mk (Kd.R_below (zr HO_318000.out) hb)
         have n4_ := Aside0.mk (Kd.R_below (zr HO337.out) hb)
         have n5_ := Aside0.mk (Kd.R_below (zr HO340.out) hb)
         have n6_ := Aside0.mk (Kd.R_below (zr HO343.out) hb)
         have n7_ := Aside0.mk (blk_below (zh BK290.out) hb)
         have n8_ := Aside0.mk (blk_below (zh BK291.out) hb)
         have n9_ := Aside0.mk (blk_below (zh BK304.out) hb)
         have n10_ := Aside0.mk (blk_below (zh BK308.out) hb)
         have n11_ := Aside0.mk (blk_below (zh BK312.out) hb)
         have n12_ := Aside0.mk (blk_below (zh BK317.out) hb)
         have n13_ := Aside0.mk (below_step (zb HB.out) hb)
         have n14_ := Aside0.mk (hbox)
         have n15_ := Aside0.mk ((by rw [hg]; exact (below_size (zb HB.out)) : w.heap.size ≤ gb345))
         have n16_ := Aside0.mk ((by rw [hg]; exact (below_size (zb HB.out)) : w.heap.size ≤ gb345))
         have n17_ := Aside0.mk ((by rw [hg]; exact Nat.ne_of_lt (blk_lt (zh BK290.out)) : gb290 ≠ gb345))
         have n18_ := Aside0.mk ((by rw [hg]; exact Nat.ne_of_gt (blk_lt (zh BK290.out)) : gb345 ≠ gb290))
         have n19_ := Aside0.mk ((by rw [hg]; exact Nat.ne_of_lt (blk_lt (zh BK291.out)) : gb291 ≠ gb345))
         have n20_ := Aside0.mk ((by rw [hg]; exact Nat.ne_of_gt (blk_lt (zh BK291.out)) : gb345 ≠ gb291))
         have n21_ := Aside0.mk ((by rw [hg]; exact Nat.ne_of_lt (blk_lt (zh BK304.out)) : gb304 ≠ gb345))
         have n22_ := Aside0.mk ((by rw [hg]; exact Nat.ne_of_gt (blk_lt (zh BK304.out)) : gb345 ≠ gb304))
         have n23_ := Aside0.mk ((by rw [hg]; exact Nat.ne_of_lt (blk_lt (zh BK308.out)) : gb308 ≠ gb345))
         have n24_ := Aside0.mk ((by rw [hg]; exact Nat.ne_of_gt (blk_lt (zh BK308.out)) : gb345 ≠ gb308))
         have n25_ := Aside0.mk ((by rw [hg]; exact Nat.ne_of_lt (blk_lt (zh BK312.out)) : gb312 ≠ gb345))
         have n26_ := Aside0.mk ((by rw [hg]; exact Nat.ne_of_gt (blk_lt (zh BK312.out)) : gb345 ≠ gb312))
         have n27_ := Aside0.mk ((by rw [hg]; exact Nat.ne_of_lt (blk_lt (zh BK317.out)) : gb317 ≠ gb345))
         have n28_ := Aside0.mk ((by rw [hg]; exact Nat.ne_of_gt (blk_lt (zh BK317.out)) : gb345 ≠ gb317))
         clear HO_305000 HO_309000 HO_313000 HO_318000 HO337 HO340 HO343 BK290 BK291 BK304 BK308 BK312 BK317 HB
         have HO_305000 := n0_
         have HO_309000 := n1_
         have HO_313000 := n2_
         have HO_318000 := n3_
         have HO337 := n4_
         have HO340 := n5_
         have HO343 := n6_
         have BK290 := n7_
         have BK291 := n8_
         have BK304 := n9_
         have BK308 := n10_
         have BK312 := n11_
         have BK317 := n12_
         have HB := n13_
         have BK345 := n14_
         have GW345 := n15_
         have GE345 := n16_
         have NB290_345 := n17_
         have NB345_290 := n18_
         have NB291_345 := n19_
         have NB345_291 := n20_
         have NB304_345 := n21_
         have NB345_304 := n22_
         have NB308_345 := n23_
         have NB345_308 := n24_
         have NB312_345 := n25_
         have NB345_312 := n26_
         have NB317_345 := n27_
         have NB345_317 := n28_
         clear n0_ n1_ n2_ n3_ n4_ n5_ n6_ n7_ n8_ n9_ n10_ n11_ n12_ n13_ n14_ n15_ n16_ n17_ n18_ n19_ n20_ n21_ n22_ n23_ n24_ n25_ n26_ n27_ n28_ hb hbox hg
         refine hK.out _ _ ⟨(blk_cell BK290.out 0).trans rfl, (blk_cell BK291.out 0).trans rfl⟩ (fun hHeld => ?_)
         clear hK K
         refine norm_ (a' := ?_) ?_ ?_
         rotate_left
         ·exact zn (N := some 17)
         exact norm_ (by simp only [putAll, Act.put, List.setIfInBounds_toArray, List.set_cons_zero, List.set_cons_succ]) (hCont (.slice Ao187 t335.length co187, .slice Ao188 t338.length co188, v342, gb345) _ ⟨hHeld, (by (with_reducible repeat (first | apply Kd.R_alloc | apply Kd.R_drewN | apply Kd.R_drew)); exact Kd.R_mono HO337.out (fun _ hk => ⟨hk.1.2, ⟨hk.2, ⟨hk.1.1.1.1.1.2, ⟨hk.1.1.1.1.2, ⟨hk.1.1.1.2, hk.1.1.2⟩⟩⟩⟩⟩)), (by (with_reducible repeat (first | apply Kd.R_alloc | apply Kd.R_drewN | apply Kd.R_drew)); exact Kd.R_mono HO340.out (fun _ hk => ⟨hk.1.2, ⟨hk.2, ⟨hk.1.1.1.1.1.2, ⟨hk.1.1.1.1.2, ⟨hk.1.1.1.2, hk.1.1.2⟩⟩⟩⟩⟩)), (by (with_reducible repeat (first | apply Kd.R_alloc | apply Kd.R_drewN | apply Kd.R_drew)); exact Kd.R_mono HO343.out (fun _ hk => ⟨hk.1.2, ⟨hk.2, ⟨hk.1.1.1.1.1.2, ⟨hk.1.1.1.1.2, ⟨hk.1.1.1.2, hk.1.1.2⟩⟩⟩⟩⟩)), (by (with_reducible repeat (first | apply Kd.R_alloc | apply Kd.R_drewN | apply Kd.R_drew)); exact Kd.R_mono HO_305000.out (fun _ hk => ⟨hk.1.1.2, ⟨hk.1.2, ⟨hk.2, ⟨hk.1.1.1.1, ⟨hk.1.1.1.2.1, hk.1.1.1.2.2⟩⟩⟩⟩⟩)), (by (with_reducible repeat (first | apply Kd.R_alloc | apply Kd.R_drewN | apply Kd.R_drew)); exact Kd.R_mono HO_309000.out (fun _ hk => ⟨hk.1.1.2, ⟨hk.1.2, ⟨hk.2, ⟨hk.1.1.1.1, ⟨hk.1.1.1.2.1, hk.1.1.1.2.2⟩⟩⟩⟩⟩)), (by (with_reducible repeat (first | apply Kd.R_alloc | apply Kd.R_drewN | apply Kd.R_drew)); exact Kd.R_mono HO_313000.out (fun _ hk => ⟨hk.1.1.2, ⟨hk.1.2, ⟨hk.2, ⟨hk.1.1.1.1, ⟨hk.1.1.1.2.1, hk.1.1.1.2.2⟩⟩⟩⟩⟩)), (by (with_reducible repeat (first | apply Kd.R_alloc | apply Kd.R_drewN | apply Kd.R_drew)); exact Kd.R_mono HO_318000.out (fun _ hk => ⟨hk.1.1.2, ⟨hk.1.2, ⟨hk.2, ⟨hk.1.1.1.1, ⟨hk.1.1.1.2.1, hk.1.1.1.2.2⟩⟩⟩⟩⟩)), (zh BK290.out), (zh BK291.out), (zh BK304.out), (zh BK308.out), (zh BK312.out), (zh BK317.out), (zh BK345.out), GW345.out, GE345.out, NB290_345.out, NB345_290.out, NB291_345.out, NB345_291.out, NB304_345.out, NB345_304.out, NB308_345.out, NB345_308.out, NB312_345.out, NB345_312.out, NB317_345.out, NB345_317.out, (zb HB.out)⟩)
        ·skip
         refine box_step ?hg (N := 17) ?hd (cs := #[.slice none 0 0]) (t := 28) ?hr ?_; (case hd => rfl); (case hg => rfl); (case hr => first | (go_simp; done) | (go_simp; rfl))
         intro gb345 hg w187 hbox hb
         have n0_ := Aside0.mk (Kd.R_below (zr HO_305000.out) hb)
         have n1_ := Aside0.mk (Kd.R_below (zr HO_309000.out) hb)
         have n2_ := Aside0.mk (Kd.R_below (zr HO_313000.out) hb)
         have n3_ := Aside0.mk (Kd.R_below (zr HO_318000.out) hb)
         have n4_ := Aside0.mk (Kd.R_below (zr HO337.out) hb)
         have n5_ := Aside0.mk (Kd.R_below (zr HO340.out) hb)
         have n6_ := Aside0.mk (blk_below (zh BK290.out) hb)
         have n7_ := Aside0.mk (blk_below (zh BK291.out) hb)
         have n8_ := Aside0.mk (blk_below (zh BK304.out) hb)
         have n9_ := Aside0.mk (blk_below (zh BK308.out) hb)
         have n10_ := Aside0.mk (blk_below (zh BK312.out) hb)
         have n11_ := Aside0.mk (blk_below (zh BK317.out) hb)
         have n12_ := Aside0.mk (below_step (zb HB.out) hb)
         have n13_ := Aside0.mk (hbox)
         have n14_ := Aside0.mk ((by rw [hg]; exact (below_size (zb HB.out)) : w.heap.size ≤ gb345))
         have n15_ := Aside0.mk ((by rw [hg]; exact (below_size (zb HB.out)) : w.heap.size ≤ gb345))
         have n16_ := Aside0.mk ((by rw [hg]; exact Nat.ne_of_lt (blk_lt (zh BK290.out)) : gb290 ≠ gb345))
         have n17_ := Aside0.mk ((by rw [hg]; exact Nat.ne_of_gt (blk_lt (zh BK290.out)) : gb345 ≠ gb290))
         have n18_ := Aside0.mk ((by rw [hg]; exact Nat.ne_of_lt (blk_lt (zh BK291.out)) : gb291 ≠ gb345))
         have n19_ := Aside0.mk ((by rw [hg]; exact Nat.ne_of_gt (blk_lt (zh BK291.out)) : gb345 ≠ gb291))
         have n20_ := Aside0.mk ((by rw [hg]; exact Nat.ne_of_lt (blk_lt (zh BK304.out)) : gb304 ≠ gb345))
         have n21_ := Aside0.mk ((by rw [hg]; exact Nat.ne_of_gt (blk_lt (zh BK304.out)) : gb345 ≠ gb304))
         have n22_ := Aside0.mk ((by rw [hg]; exact Nat.ne_of_lt (blk_lt (zh BK308.out)) : gb308 ≠ gb345))
         have n23_ := Aside0.mk ((by rw [hg]; exact Nat.ne_of_gt (blk_lt (zh BK308.out)) : gb345 ≠ gb308))
         have n24_ := Aside0.mk ((by rw [hg]; exact Nat.ne_of_lt (blk_lt (zh BK312.out)) : gb312 ≠ gb345))
         have n25_ := Aside0.mk ((by rw [hg]; exact Nat.ne_of_gt (blk_lt (zh BK312.out)) : gb345 ≠ gb312))
         have n26_ := Aside0.mk ((by rw [hg]; exact Nat.ne_of_lt (blk_lt (zh BK317.out)) : gb317 ≠ gb345))
         have n27_ := Aside0.mk ((by rw [hg]; exact Nat.ne_of_gt (blk_lt (zh BK317.out)) : gb345 ≠ gb317))
         clear HO_305000 HO_309000 HO_313000 HO_318000 HO337 HO340 BK290 BK291 BK304 BK308 BK312 BK317 HB
         have HO_305000 := n0_
         have HO_309000 := n1_
         have HO_313000 := n2_
         have HO_318000 := n3_
         have HO337 := n4_
         have HO340 := n5_
         have BK290 := n6_
         have BK291 := n7_
         have BK304 := n8_
         have BK308 := n9_
         have BK312 := n10_
         have BK317 := n11_
         have HB := n12_
         have BK345 := n13_
         have GW345 := n14_
         have GE345 := n15_
         have NB290_345 := n16_
         have NB345_290 := n17_
         have NB291_345 := n18_
         have NB345_291 := n19_
         have NB304_345 := n20_
         have NB345_304 := n21_
         have NB308_345 := n22_
         have NB345_308 := n23_
         have NB312_345 := n24_
         have NB345_312 := n25_
         have NB317_345 := n26_
         have NB345_317 := n27_
         clear n0_ n1_ n2_ n3_ n4_ n5_ n6_ n7_ n8_ n9_ n10_ n11_ n12_ n13_ n14_ n15_ n16_ n17_ n18_ n19_ n20_ n21_ n22_ n23_ n24_ n25_ n26_ n27_ hb hbox hg
         obtain ⟨Ao188, co188, eo188⟩ := Kd.R_slice HO337.out
         (first | subst eo188 | (injection eo188 with f1_ f2_ f3_; have f4_ := f1_.symm; have f5_ := f3_.symm; clear f1_ f2_ f3_; subst f4_; subst f5_))
         obtain ⟨Ao189, co189, eo189⟩ := Kd.R_slice HO340.out
         (first | subst eo189 | (injection eo189 with f1_ f2_ f3_; have f4_ := f1_.symm; have f5_ := f3_.symm; clear f1_ f2_ f3_; subst f4_; subst f5_))
         refine hK.out _ _ ⟨(blk_cell BK290.out 0).trans rfl, (blk_cell BK291.out 0).trans rfl⟩ (fun hHeld => ?_)
         clear hK K
         refine norm_ (a' := ?_) ?_ ?_
         rotate_left
         ·exact zn (N := some 17)
         refine one_ (i := 5) (N := some 104) #[true, true, true, true, true, true, false, false, false, true, false, false] rfl rfl (one_of HT_.out (by kernel_rfl)) (by decide) (fun K hK => ?_)
         refine goes_ Try.func15 (by kernel_rfl) rfl #[.agg #[.slice Ao188 t335.length co188], .int .i64 a1, .agg #[.slice Ao189 t338.length co189]] (by rfl) rfl rfl zl ?_
         with_reducible refine (impl_TermMove.calls kj107 _ _ t335 a1 _ _ t338 t341 t344 _ ?side1 ?side2 ?side3 ?side4 A173.out).mono ?_
         (case side1 => exact zc (Kd.R_reads' HO337.out).2.2)
         (case side2 => exact (Kd.R_reads' HO337.out).2.1)
         (case side3 => exact zc (Kd.R_reads' HO340.out).2.2)
         (case side4 => exact (Kd.R_reads' HO340.out).2.1)
         rintro e w190 ⟨v342, rfl, ho0, hb⟩
         refine ⟨_, rfl, ?_⟩
         have n0_ := Aside0.mk (Kd.R_elder' (zr HO_305000.out) (Kd.R_base ho0) hb)
         have n1_ := Aside0.mk (Kd.R_elder' (zr HO_309000.out) (Kd.R_base ho0) hb)
         have n2_ := Aside0.mk (Kd.R_elder' (zr HO_313000.out) (Kd.R_base ho0) hb)
         have n3_ := Aside0.mk (Kd.R_elder' (zr HO_318000.out) (Kd.R_base ho0) hb)
         have n4_ := Aside0.mk (Kd.R_elder' (zr HO337.out) (Kd.R_base ho0) hb)
         have n5_ := Aside0.mk (Kd.R_elder' (zr HO340.out) (Kd.R_base ho0) hb)
         have n6_ := Aside0.mk (Kd.R_lower (Kd.R_new' (Kd.R_new' (Kd.R_new' (Kd.R_new' (Kd.R_new' (Kd.R_new' ho0 (Kd.R_lt (zr HO_305000.out))) (Kd.R_lt (zr HO_309000.out))) (Kd.R_lt (zr HO_313000.out))) (Kd.R_lt (zr HO_318000.out))) (Kd.R_lt (zr HO337.out))) (Kd.R_lt (zr HO340.out))) (below_size (zb HB.out)))
         have n7_ := Aside0.mk (blk_below (zh BK290.out) hb)
         have n8_ := Aside0.mk (blk_below (zh BK291.out) hb)
         have n9_ := Aside0.mk (blk_below (zh BK304.out) hb)
         have n10_ := Aside0.mk (blk_below (zh BK308.out) hb)
         have n11_ := Aside0.mk (blk_below (zh BK312.out) hb)
         have n12_ := Aside0.mk (blk_below (zh BK317.out) hb)
         have n13_ := Aside0.mk (blk_below (zh BK345.out) hb)
         have n14_ := Aside0.mk (below_step (zb HB.out) hb)
         clear HO_305000 HO_309000 HO_313000 HO_318000 HO337 HO340 BK290 BK291 BK304 BK308 BK312 BK317 BK345 HB
         have HO_305000 := n0_
         have HO_309000 := n1_
         have HO_313000 := n2_
         have HO_318000 := n3_
         have HO337 := n4_
         have HO340 := n5_
         have HO343 := n6_
         have BK290 := n7_
         have BK291 := n8_
         have BK304 := n9_
         have BK308 := n10_
         have BK312 := n11_
         have BK317 := n12_
         have BK345 := n13_
         have HB := n14_
         clear n0_ n1_ n2_ n3_ n4_ n5_ n6_ n7_ n8_ n9_ n10_ n11_ n12_ n13_ n14_
         (try clear hb)
         (try clear hb2)
         (try clear hk)
         (try clear hi)
         (try clear ho0)
         refine hK.out _ _ ⟨(blk_cell BK290.out 0).trans rfl, (blk_cell BK291.out 0).trans rfl⟩ (fun hHeld => ?_)
         clear hK K
         refine norm_ (a' := ?_) ?_ ?_
         rotate_left
         ·exact zn (N := some 104)
         refine pure_ (i := 6) (N := some 98) (v := ?_) (a' := ?_) #[true, true, true, true, true, true, true, false, false, true, false, false] rfl rfl (any_of HT_.out (by kernel_rfl)) (fun _ _ _ h => h) (Or.inl ⟨by rfl, ?_⟩) ?_ ?_
         rotate_left
         ·intro w'
          go_simp
          with_reducible rfl
         rotate_left
         ·exact zn
         refine pure_ (i := 7) (N := some 105) (v := ?_) (a' := ?_) #[true, true, true, true, true, true, true, true, false, true, false, false] rfl rfl (any_of HT_.out (by kernel_rfl)) (fun _ _ _ h => h) (Or.inl ⟨by rfl, ?_⟩) ?_ ?_
         rotate_left
         ·intro w'
          go_simp
          with_reducible rfl
         rotate_left
         ·exact zn
         refine pure_ (i := 8) (N := some 106) (v := ?_) (a' := ?_) #[true, true, true, true, true, true, true, true, true, true, false, false] rfl rfl (any_of HT_.out (by kernel_rfl)) (fun _ _ _ h => h) (Or.inl ⟨by rfl, ?_⟩) ?_ ?_
         rotate_left
         ·intro w'
          go_simp
          with_reducible rfl
         rotate_left
         ·exact zn
         exact norm_ (by simp only [putAll, Act.put, List.setIfInBounds_toArray, List.set_cons_zero, List.set_cons_succ]) (hCont (.slice Ao188 t335.length co188, .slice Ao189 t338.length co189, v342, gb345) _ ⟨hHeld, (by (with_reducible repeat (first | apply Kd.R_alloc | apply Kd.R_drewN | apply Kd.R_drew)); exact Kd.R_mono HO337.out (fun _ hk => ⟨hk.1.2, ⟨hk.2, ⟨hk.1.1.1.1.1.2, ⟨hk.1.1.1.1.2, ⟨hk.1.1.1.2, hk.1.1.2⟩⟩⟩⟩⟩)), (by (with_reducible repeat (first | apply Kd.R_alloc | apply Kd.R_drewN | apply Kd.R_drew)); exact Kd.R_mono HO340.out (fun _ hk => ⟨hk.1.2, ⟨hk.2, ⟨hk.1.1.1.1.1.2, ⟨hk.1.1.1.1.2, ⟨hk.1.1.1.2, hk.1.1.2⟩⟩⟩⟩⟩)), (by (with_reducible repeat (first | apply Kd.R_alloc | apply Kd.R_drewN | apply Kd.R_drew)); exact Kd.R_mono HO343.out (fun _ hk => ⟨hk.1.2, ⟨hk.2, ⟨hk.1.1.1.1.1.2, ⟨hk.1.1.1.1.2, ⟨hk.1.1.1.2, hk.1.1.2⟩⟩⟩⟩⟩)), (by (with_reducible repeat (first | apply Kd.R_alloc | apply Kd.R_drewN | apply Kd.R_drew)); exact Kd.R_mono HO_305000.out (fun _ hk => ⟨hk.1.1.2, ⟨hk.1.2, ⟨hk.2, ⟨hk.1.1.1.1, ⟨hk.1.1.1.2.1, hk.1.1.1.2.2⟩⟩⟩⟩⟩)), (by (with_reducible repeat (first | apply Kd.R_alloc | apply Kd.R_drewN | apply Kd.R_drew)); exact Kd.R_mono HO_309000.out (fun _ hk => ⟨hk.1.1.2, ⟨hk.1.2, ⟨hk.2, ⟨hk.1.1.1.1, ⟨hk.1.1.1.2.1, hk.1.1.1.2.2⟩⟩⟩⟩⟩)), (by (with_reducible repeat (first | apply Kd.R_alloc | apply Kd.R_drewN | apply Kd.R_drew)); exact Kd.R_mono HO_313000.out (fun _ hk => ⟨hk.1.1.2, ⟨hk.1.2, ⟨hk.2, ⟨hk.1.1.1.1, ⟨hk.1.1.1.2.1, hk.1.1.1.2.2⟩⟩⟩⟩⟩)), (by (with_reducible repeat (first | apply Kd.R_alloc | apply Kd.R_drewN | apply Kd.R_drew)); exact Kd.R_mono HO_318000.out (fun _ hk => ⟨hk.1.1.2, ⟨hk.1.2, ⟨hk.2, ⟨hk.1.1.1.1, ⟨hk.1.1.1.2.1, hk.1.1.1.2.2⟩⟩⟩⟩⟩)), (zh BK290.out), (zh BK291.out), (zh BK304.out), (zh BK308.out), (zh BK312.out), (zh BK317.out), (zh BK345.out), GW345.out, GE345.out, NB290_345.out, NB345_290.out, NB291_345.out, NB345_291.out, NB304_345.out, NB345_304.out, NB308_345.out, NB345_308.out, NB312_345.out, NB345_312.out, NB317_345.out, NB345_317.out, (zb HB.out)⟩)
       ·skip
        refine box_step ?hg (N := 17) ?hd (cs := #[.slice none 0 0]) (t := 28) ?hr ?_; (case hd => rfl); (case hg => rfl); (case hr => first | (go_simp; done) | (go_simp; rfl))
        intro gb345 hg w186 hbox hb
        have n0_ := Aside0.mk (Kd.R_below (zr HO_305000.out) hb)
        have n1_ := Aside0.mk (Kd.R_below (zr HO_309000.out) hb)
        have n2_ := Aside0.mk (Kd.R_below (zr HO_313000.out) hb)
        have n3_ := Aside0.mk (Kd.R_below (zr HO_318000.out) hb)
        have n4_ := Aside0.mk (Kd.R_below (zr HO337.out) hb)
        have n5_ := Aside0.mk (blk_below (zh BK290.out) hb)
        have n6_ := Aside0.mk (blk_below (zh BK291.out) hb)
        have n7_ := Aside0.mk (blk_below (zh BK304.out) hb)
        have n8_ := Aside0.mk (blk_below (zh BK308.out) hb)
        have n9_ := Aside0.mk (blk_below (zh BK312.out) hb)
        have n10_ := Aside0.mk (blk_below (zh BK317.out) hb)
        have n11_ := Aside0.mk (below_step (zb HB.out) hb)
        have n12_ := Aside0.mk (hbox)
        have n13_ := Aside0.mk ((by rw [hg]; exact (below_size (zb HB.out)) : w.heap.size ≤ gb345))
        have n14_ := Aside0.mk ((by rw [hg]; exact (below_size (zb HB.out)) : w.heap.size ≤ gb345))
        have n15_ := Aside0.mk ((by rw [hg]; exact Nat.ne_of_lt (blk_lt (zh BK290.out)) : gb290 ≠ gb345))
        have n16_ := Aside0.mk ((by rw [hg]; exact Nat.ne_of_gt (blk_lt (zh BK290.out)) : gb345 ≠ gb290))
        have n17_ := Aside0.mk ((by rw [hg]; exact Nat.ne_of_lt (blk_lt (zh BK291.out)) : gb291 ≠ gb345))
        have n18_ := Aside0.mk ((by rw [hg]; exact Nat.ne_of_gt (blk_lt (zh BK291.out)) : gb345 ≠ gb291))
        have n19_ := Aside0.mk ((by rw [hg]; exact Nat.ne_of_lt (blk_lt (zh BK304.out)) : gb304 ≠ gb345))
        have n20_ := Aside0.mk ((by rw [hg]; exact Nat.ne_of_gt (blk_lt (zh BK304.out)) : gb345 ≠ gb304))
        have n21_ := Aside0.mk ((by rw [hg]; exact Nat.ne_of_lt (blk_lt (zh BK308.out)) : gb308 ≠ gb345))
        have n22_ := Aside0.mk ((by rw [hg]; exact Nat.ne_of_gt (blk_lt (zh BK308.out)) : gb345 ≠ gb308))
        have n23_ := Aside0.mk ((by rw [hg]; exact Nat.ne_of_lt (blk_lt (zh BK312.out)) : gb312 ≠ gb345))
        have n24_ := Aside0.mk ((by rw [hg]; exact Nat.ne_of_gt (blk_lt (zh BK312.out)) : gb345 ≠ gb312))
        have n25_ := Aside0.mk ((by rw [hg]; exact Nat.ne_of_lt (blk_lt (zh BK317.out)) : gb317 ≠ gb345))
        have n26_ := Aside0.mk ((by rw [hg]; exact Nat.ne_of_gt (blk_lt (zh BK317.out)) : gb345 ≠ gb317))
        clear HO_305000 HO_309000 HO_313000 HO_318000 HO337 BK290 BK291 BK304 BK308 BK312 BK317 HB
        have HO_305000 := n0_
        have HO_309000 := n1_
        have HO_313000 := n2_
        have HO_318000 := n3_
        have HO337 := n4_
        have BK290 := n5_
        have BK291 := n6_
        have BK304 := n7_
        have BK308 := n8_
        have BK312 := n9_
        have BK317 := n10_
        have HB := n11_
        have BK345 := n12_
        have GW345 := n13_
        have GE345 := n14_
        have NB290_345 := n15_
        have NB345_290 := n16_
        have NB291_345 := n17_
        have NB345_291 := n18_
        have NB304_345 := n19_
        have NB345_304 := n20_
        have NB308_345 := n21_
        have NB345_308 := n22_
        have NB312_345 := n23_
        have NB345_312 := n24_
        have NB317_345 := n25_
        have NB345_317 := n26_
        clear n0_ n1_ n2_ n3_ n4_ n5_ n6_ n7_ n8_ n9_ n10_ n11_ n12_ n13_ n14_ n15_ n16_ n17_ n18_ n19_ n20_ n21_ n22_ n23_ n24_ n25_ n26_ hb hbox hg
        refine hK.out _ _ ⟨(blk_cell BK290.out 0).trans rfl, (blk_cell BK291.out 0).trans rfl⟩ (fun hHeld => ?_)
        clear hK K
        refine norm_ (a' := ?_) ?_ ?_
        rotate_left
        ·exact zn (N := some 17)
        refine one_ (i := 4) (N := some 103) #[true, true, true, true, true, false, false, false, false, true, false, false] rfl rfl (one_of HT_.out (by kernel_rfl)) (by decide) (fun K hK => ?_)
        refine goes_ Try.func9 (by kernel_rfl) rfl #[.agg #[.slice A2_0 l2_0.length c2_0]] (by rfl) rfl rfl zl ?_
        with_reducible refine (laws_toPool.calls kj107 _ _ l2_0 t338 _ ?side1 ?side2 A172.out).mono ?_
        (case side1 => exact zc (Kd.C_below HR2_0.out HB.out))
        (case side2 => exact HC2_0.out)
        rintro e w187 ⟨v339, rfl, ho0, hb⟩
        refine ⟨_, rfl, ?_⟩
        have n0_ := Aside0.mk (Kd.R_elder' (zr HO_305000.out) (Kd.R_base ho0) hb)
        have n1_ := Aside0.mk (Kd.R_elder' (zr HO_309000.out) (Kd.R_base ho0) hb)
        have n2_ := Aside0.mk (Kd.R_elder' (zr HO_313000.out) (Kd.R_base ho0) hb)
        have n3_ := Aside0.mk (Kd.R_elder' (zr HO_318000.out) (Kd.R_base ho0) hb)
        have n4_ := Aside0.mk (Kd.R_elder' (zr HO337.out) (Kd.R_base ho0) hb)
        have n5_ := Aside0.mk (Kd.R_lower (Kd.R_new' (Kd.R_new' (Kd.R_new' (Kd.R_new' (Kd.R_new' ho0 (Kd.R_lt (zr HO_305000.out))) (Kd.R_lt (zr HO_309000.out))) (Kd.R_lt (zr HO_313000.out))) (Kd.R_lt (zr HO_318000.out))) (Kd.R_lt (zr HO337.out))) (below_size (zb HB.out)))
        have n6_ := Aside0.mk (blk_below (zh BK290.out) hb)
        have n7_ := Aside0.mk (blk_below (zh BK291.out) hb)
        have n8_ := Aside0.mk (blk_below (zh BK304.out) hb)
        have n9_ := Aside0.mk (blk_below (zh BK308.out) hb)
        have n10_ := Aside0.mk (blk_below (zh BK312.out) hb)
        have n11_ := Aside0.mk (blk_below (zh BK317.out) hb)
        have n12_ := Aside0.mk (blk_below (zh BK345.out) hb)
        have n13_ := Aside0.mk (below_step (zb HB.out) hb)
        clear HO_305000 HO_309000 HO_313000 HO_318000 HO337 BK290 BK291 BK304 BK308 BK312 BK317 BK345 HB
        have HO_305000 := n0_
        have HO_309000 := n1_
        have HO_313000 := n2_
        have HO_318000 := n3_
        have HO337 := n4_
        have HO340 := n5_
        have BK290 := n6_
        have BK291 := n7_
        have BK304 := n8_
        have BK308 := n9_
        have BK312 := n10_
        have BK317 := n11_
        have BK345 := n12_
        have HB := n13_
        clear n0_ n1_ n2_ n3_ n4_ n5_ n6_ n7_ n8_ n9_ n10_ n11_ n12_ n13_
        (try clear hb)
        (try clear hb2)
        (try clear hk)
        (try clear hi)
        (try clear ho0)
        obtain ⟨Ao188, co188, eo188⟩ := Kd.R_slice HO337.out
        (first | subst eo188 | (injection eo188 with f1_ f2_ f3_; have f4_ := f1_.symm; have f5_ := f3_.symm; clear f1_ f2_ f3_; subst f4_; subst f5_))
        obtain ⟨Ao189, co189, eo189⟩ := Kd.R_slice HO340.out
        (first | subst eo189 | (injection eo189 with f1_ f2_ f3_; have f4_ := f1_.symm; have f5_ := f3_.symm; clear f1_ f2_ f3_; subst f4_; subst f5_))
        refine hK.out _ _ ⟨(blk_cell BK290.out 0).trans rfl, (blk_cell BK291.out 0).trans rfl⟩ (fun hHeld => ?_)
        clear hK K
        refine norm_ (a' := ?_) ?_ ?_
        rotate_left
        ·exact zn (N := some 103)
        refine one_ (i := 5) (N := some 104) #[true, true, true, true, true, true, false, false, false, true, false, false] rfl rfl (one_of HT_.out (by kernel_rfl)) (by decide) (fun K hK => ?_)
        refine goes_ Try.func15 (by kernel_rfl) rfl #[.agg #[.slice Ao188 t335.length co188], .int .i64 a1, .agg #[.slice Ao189 t338.length co189]] (by rfl) rfl rfl zl ?_
        with_reducible refine (impl_TermMove.calls kj107 _ _ t335 a1 _ _ t338 t341 t344 _ ?side1 ?side2 ?side3 ?side4 A173.out).mono ?_
        (case side1 => exact zc (Kd.R_reads' HO337.out).2.2)
        (case side2 => exact (Kd.R_reads' HO337.out).2.1)
        (case side3 => exact zc (Kd.R_reads' HO340.out).2.2)
        (case side4 => exact (Kd.R_reads' HO340.out).2.1)
        rintro e w190 ⟨v342, rfl, ho0, hb⟩
        refine ⟨_, rfl, ?_⟩
        have n0_ := Aside0.mk (Kd.R_elder' (zr HO_305000.out) (Kd.R_base ho0) hb)
        have n1_ := Aside0.mk (Kd.R_elder' (zr HO_309000.out) (Kd.R_base ho0) hb)
        have n2_ := Aside0.mk (Kd.R_elder' (zr HO_313000.out) (Kd.R_base ho0) hb)
        have n3_ := Aside0.mk (Kd.R_elder' (zr HO_318000.out) (Kd.R_base ho0) hb)
        have n4_ := Aside0.mk (Kd.R_elder' (zr HO337.out) (Kd.R_base ho0) hb)
        have n5_ := Aside0.mk (Kd.R_elder' (zr HO340.out) (Kd.R_base ho0) hb)
        have n6_ := Aside0.mk (Kd.R_lower (Kd.R_new' (Kd.R_new' (Kd.R_new' (Kd.R_new' (Kd.R_new' (Kd.R_new' ho0 (Kd.R_lt (zr HO_305000.out))) (Kd.R_lt (zr HO_309000.out))) (Kd.R_lt (zr HO_313000.out))) (Kd.R_lt (zr HO_318000.out))) (Kd.R_lt (zr HO337.out))) (Kd.R_lt (zr HO340.out))) (below_size (zb HB.out)))
        have n7_ := Aside0.mk (blk_below (zh BK290.out) hb)
        have n8_ := Aside0.mk (blk_below (zh BK291.out) hb)
        have n9_ := Aside0.mk (blk_below (zh BK304.out) hb)
        have n10_ := Aside0.mk (blk_below (zh BK308.out) hb)
        have n11_ := Aside0.mk (blk_below (zh BK312.out) hb)
        have n12_ := Aside0.mk (blk_below (zh BK317.out) hb)
        have n13_ := Aside0.mk (blk_below (zh BK345.out) hb)
        have n14_ := Aside0.mk (below_step (zb HB.out) hb)
        clear HO_305000 HO_309000 HO_313000 HO_318000 HO337 HO340 BK290 BK291 BK304 BK308 BK312 BK317 BK345 HB
        have HO_305000 := n0_
        have HO_309000 := n1_
        have HO_313000 := n2_
        have HO_318000 := n3_
        have HO337 := n4_
        have HO340 := n5_
        have HO343 := n6_
        have BK290 := n7_
        have BK291 := n8_
        have BK304 := n9_
        have BK308 := n10_
        have BK312 := n11_
        have BK317 := n12_
        have BK345 := n13_
        have HB := n14_
        clear n0_ n1_ n2_ n3_ n4_ n5_ n6_ n7_ n8_ n9_ n10_ n11_ n12_ n13_ n14_
        (try clear hb)
        (try clear hb2)
        (try clear hk)
        (try clear hi)
        (try clear ho0)
        refine hK.out _ _ ⟨(blk_cell BK290.out 0).trans rfl, (blk_cell BK291.out 0).trans rfl⟩ (fun hHeld => ?_)
        clear hK K
        refine norm_ (a' := ?_) ?_ ?_
        rotate_left
        ·exact zn (N := some 104)
        refine pure_ (i := 6) (N := some 98) (v := ?_) (a' := ?_) #[true, true, true, true, true, true, true, false, false, true, false, false] rfl rfl (any_of HT_.out (by kernel_rfl)) (fun _ _ _ h => h) (Or.inl ⟨by rfl, ?_⟩) ?_ ?_
        rotate_left
        ·intro w'
         go_simp
         with_reducible rfl
        rotate_left
        ·exact zn
        refine pure_ (i := 7) (N := some 105) (v := ?_) (a' := ?_) #[true, true, true, true, true, true, true, true, false, true, false, false] rfl rfl (any_of HT_.out (by kernel_rfl)) (fun _ _ _ h => h) (Or.inl ⟨by rfl, ?_⟩) ?_ ?_
        rotate_left
        ·intro w'
         go_simp
         with_reducible rfl
        rotate_left
        ·exact zn
        refine pure_ (i := 8) (N := some 106) (v := ?_) (a' := ?_) #[true, true, true, true, true, true, true, true, true, true, false, false] rfl rfl (any_of HT_.out (by kernel_rfl)) (fun _ _ _ h => h) (Or.inl ⟨by rfl, ?_⟩) ?_ ?_
        rotate_left
        ·intro w'
         go_simp
         with_reducible rfl
        rotate_left
        ·exact zn
        exact norm_ (by simp only [putAll, Act.put, List.setIfInBounds_toArray, List.set_cons_zero, List.set_cons_succ]) (hCont (.slice Ao188 t335.length co188, .slice Ao189 t338.length co189, v342, gb345) _ ⟨hHeld, (by (with_reducible repeat (first | apply Kd.R_alloc | apply Kd.R_drewN | apply Kd.R_drew)); exact Kd.R_mono HO337.out (fun _ hk => ⟨hk.1.2, ⟨hk.2, ⟨hk.1.1.1.1.1.2, ⟨hk.1.1.1.1.2, ⟨hk.1.1.1.2, hk.1.1.2⟩⟩⟩⟩⟩)), (by (with_reducible repeat (first | apply Kd.R_alloc | apply Kd.R_drewN | apply Kd.R_drew)); exact Kd.R_mono HO340.out (fun _ hk => ⟨hk.1.2, ⟨hk.2, ⟨hk.1.1.1.1.1.2, ⟨hk.1.1.1.1.2, ⟨hk.1.1.1.2, hk.1.1.2⟩⟩⟩⟩⟩)), (by (with_reducible repeat (first | apply Kd.R_alloc | apply Kd.R_drewN | apply Kd.R_drew)); exact Kd.R_mono HO343.out (fun _ hk => ⟨hk.1.2, ⟨hk.2, ⟨hk.1.1.1.1.1.2, ⟨hk.1.1.1.1.2, ⟨hk.1.1.1.2, hk.1.1.2⟩⟩⟩⟩⟩)), (by (with_reducible repeat (first | apply Kd.R_alloc | apply Kd.R_drewN | apply Kd.R_drew)); exact Kd.R_mono HO_305000.out (fun _ hk => ⟨hk.1.1.2, ⟨hk.1.2, ⟨hk.2, ⟨hk.1.1.1.1, ⟨hk.1.1.1.2.1, hk.1.1.1.2.2⟩⟩⟩⟩⟩)), (by (with_reducible repeat (first | apply Kd.R_alloc | apply Kd.R_drewN | apply Kd.R_drew)); exact Kd.R_mono HO_309000.out (fun _ hk => ⟨hk.1.1.2, ⟨hk.1.2, ⟨hk.2, ⟨hk.1.1.1.1, ⟨hk.1.1.1.2.1, hk.1.1.1.2.2⟩⟩⟩⟩⟩)), (by (with_reducible repeat (first | apply Kd.R_alloc | apply Kd.R_drewN | apply Kd.R_drew)); exact Kd.R_mono HO_313000.out (fun _ hk => ⟨hk.1.1.2, ⟨hk.1.2, ⟨hk.2, ⟨hk.1.1.1.1, ⟨hk.1.1.1.2.1, hk.1.1.1.2.2⟩⟩⟩⟩⟩)), (by (with_reducible repeat (first | apply Kd.R_alloc | apply Kd.R_drewN | apply Kd.R_drew)); exact Kd.R_mono HO_318000.out (fun _ hk => ⟨hk.1.1.2, ⟨hk.1.2, ⟨hk.2, ⟨hk.1.1.1.1, ⟨hk.1.1.1.2.1, hk.1.1.1.2.2⟩⟩⟩⟩⟩)), (zh BK290.out), (zh BK291.out), (zh BK304.out), (zh BK308.out), (zh BK312.out), (zh BK317.out), (zh BK345.out), GW345.out, GE345.out, NB290_345.out, NB345_290.out, NB291_345.out, NB345_291.out, NB304_345.out, NB345_304.out, NB308_345.out, NB345_308.out, NB312_345.out, NB345_312.out, NB317_345.out, NB345_317.out, (zb HB.out)⟩)
      ·skip
       refine box_step ?hg (N := 17) ?hd (cs := #[.slice none 0 0]) (t := 28) ?hr ?_; (case hd => rfl); (case hg => rfl); (case hr => first | (go_simp; done) | (go_simp; rfl))
       intro gb345 hg w185 hbox hb
       have n0_ := Aside0.mk (Kd.R_below (zr HO_305000.out) hb)
       have n1_ := Aside0.mk (Kd.R_below (zr HO_309000.out) hb)
       have n2_ := Aside0.mk (Kd.R_below (zr HO_313000.out) hb)
       have n3_ := Aside0.mk (Kd.R_below (zr HO_318000.out) hb)
       have n4_ := Aside0.mk (blk_below (zh BK290.out) hb)
       have n5_ := Aside0.mk (blk_below (zh BK291.out) hb)
       have n6_ := Aside0.mk (blk_below (zh BK304.out) hb)
       have n7_ := Aside0.mk (blk_below (zh BK308.out) hb)
       have n8_ := Aside0.mk (blk_below (zh BK312.out) hb)
       have n9_ := Aside0.mk (blk_below (zh BK317.out) hb)
       have n10_ := Aside0.mk (below_step (zb HB.out) hb)
       have n11_ := Aside0.mk (hbox)
       have n12_ := Aside0.mk ((by rw [hg]; exact (below_size (zb HB.out)) : w.heap.size ≤ gb345))
       have n13_ := Aside0.mk ((by rw [hg]; exact (below_size (zb HB.out)) : w.heap.size ≤ gb345))
       have n14_ := Aside0.mk ((by rw [hg]; exact Nat.ne_of_lt (blk_lt (zh BK290.out)) : gb290 ≠ gb345))
       have n15_ := Aside0.mk ((by rw [hg]; exact Nat.ne_of_gt (blk_lt (zh BK290.out)) : gb345 ≠ gb290))
       have n16_ := Aside0.mk ((by rw [hg]; exact Nat.ne_of_lt (blk_lt (zh BK291.out)) : gb291 ≠ gb345))
       have n17_ := Aside0.mk ((by rw [hg]; exact Nat.ne_of_gt (blk_lt (zh BK291.out)) : gb345 ≠ gb291))
       have n18_ := Aside0.mk ((by rw [hg]; exact Nat.ne_of_lt (blk_lt (zh BK304.out)) : gb304 ≠ gb345))
       have n19_ := Aside0.mk ((by rw [hg]; exact Nat.ne_of_gt (blk_lt (zh BK304.out)) : gb345 ≠ gb304))
       have n20_ := Aside0.mk ((by rw [hg]; exact Nat.ne_of_lt (blk_lt (zh BK308.out)) : gb308 ≠ gb345))
       have n21_ := Aside0.mk ((by rw [hg]; exact Nat.ne_of_gt (blk_lt (zh BK308.out)) : gb345 ≠ gb308))
       have n22_ := Aside0.mk ((by rw [hg]; exact Nat.ne_of_lt (blk_lt (zh BK312.out)) : gb312 ≠ gb345))
       have n23_ := Aside0.mk ((by rw [hg]; exact Nat.ne_of_gt (blk_lt (zh BK312.out)) : gb345 ≠ gb312))
       have n24_ := Aside0.mk ((by rw [hg]; exact Nat.ne_of_lt (blk_lt (zh BK317.out)) : gb317 ≠ gb345))
       have n25_ := Aside0.mk ((by rw [hg]; exact Nat.ne_of_gt (blk_lt (zh BK317.out)) : gb345 ≠ gb317))
       clear HO_305000 HO_309000 HO_313000 HO_318000 BK290 BK291 BK304 BK308 BK312 BK317 HB
       have HO_305000 := n0_
       have HO_309000 := n1_
       have HO_313000 := n2_
       have HO_318000 := n3_
       have BK290 := n4_
       have BK291 := n5_
       have BK304 := n6_
       have BK308 := n7_
       have BK312 := n8_
       have BK317 := n9_
       have HB := n10_
       have BK345 := n11_
       have GW345 := n12_
       have GE345 := n13_
       have NB290_345 := n14_
       have NB345_290 := n15_
       have NB291_345 := n16_
       have NB345_291 := n17_
       have NB304_345 := n18_
       have NB345_304 := n19_
       have NB308_345 := n20_
       have NB345_308 := n21_
       have NB312_345 := n22_
       have NB345_312 := n23_
       have NB317_345 := n24_
       have NB345_317 := n25_
       clear n0_ n1_ n2_ n3_ n4_ n5_ n6_ n7_ n8_ n9_ n10_ n11_ n12_ n13_ n14_ n15_ n16_ n17_ n18_ n19_ n20_ n21_ n22_ n23_ n24_ n25_ hb hbox hg
       refine hK.out _ _ ⟨(blk_cell BK290.out 0).trans rfl, (blk_cell BK291.out 0).trans rfl⟩ (fun hHeld => ?_)
       clear hK K
       refine norm_ (a' := ?_) ?_ ?_
       rotate_left
       ·exact zn (N := some 17)
       refine one_ (i := 1) (N := some 100) #[true, true, true, true, false, false, false, false, false, true, false, false] rfl rfl (one_of HT_.out (by kernel_rfl)) (by decide) (fun K hK => ?_)
       refine goes_ Try.func9 (by kernel_rfl) rfl #[.agg #[.slice A0_0 l0_0.length c0_0]] (by rfl) rfl rfl zl ?_
       with_reducible refine (laws_toPool.calls kj107 _ _ l0_0 t335 _ ?side1 ?side2 A171.out).mono ?_
       (case side1 => exact zc (Kd.C_below HR0_0.out HB.out))
       (case side2 => exact HC0_0.out)
       rintro e w186 ⟨v336, rfl, ho0, hb⟩
       refine ⟨_, rfl, ?_⟩
       have n0_ := Aside0.mk (Kd.R_elder' (zr HO_305000.out) (Kd.R_base ho0) hb)
       have n1_ := Aside0.mk (Kd.R_elder' (zr HO_309000.out) (Kd.R_base ho0) hb)
       have n2_ := Aside0.mk (Kd.R_elder' (zr HO_313000.out) (Kd.R_base ho0) hb)
       have n3_ := Aside0.mk (Kd.R_elder' (zr HO_318000.out) (Kd.R_base ho0) hb)
       have n4_ := Aside0.mk (Kd.R_lower (Kd.R_new' (Kd.R_new' (Kd.R_new' (Kd.R_new' ho0 (Kd.R_lt (zr HO_305000.out))) (Kd.R_lt (zr HO_309000.out))) (Kd.R_lt (zr HO_313000.out))) (Kd.R_lt (zr HO_318000.out))) (below_size (zb HB.out)))
       have n5_ := Aside0.mk (blk_below (zh BK290.out) hb)
       have n6_ := Aside0.mk (blk_below (zh BK291.out) hb)
       have n7_ := Aside0.mk (blk_below (zh BK304.out) hb)
       have n8_ := Aside0.mk (blk_below (zh BK308.out) hb)
       have n9_ := Aside0.mk (blk_below (zh BK312.out) hb)
       have n10_ := Aside0.mk (blk_below (zh BK317.out) hb)
       have n11_ := Aside0.mk (blk_below (zh BK345.out) hb)
       have n12_ := Aside0.mk (below_step (zb HB.out) hb)
       clear HO_305000 HO_309000 HO_313000 HO_318000 BK290 BK291 BK304 BK308 BK312 BK317 BK345 HB
       have HO_305000 := n0_
       have HO_309000 := n1_
       have HO_313000 := n2_
       have HO_318000 := n3_
       have HO337 := n4_
       have BK290 := n5_
       have BK291 := n6_
       have BK304 := n7_
       have BK308 := n8_
       have BK312 := n9_
       have BK317 := n10_
       have BK345 := n11_
       have HB := n12_
       clear n0_ n1_ n2_ n3_ n4_ n5_ n6_ n7_ n8_ n9_ n10_ n11_ n12_
       (try clear hb)
       (try clear hb2)
       (try clear hk)
       (try clear hi)
       (try clear ho0)
       refine hK.out _ _ ⟨(blk_cell BK290.out 0).trans rfl, (blk_cell BK291.out 0).trans rfl⟩ (fun hHeld => ?_)
       clear hK K
       refine norm_ (a' := ?_) ?_ ?_
       rotate_left
       ·exact zn (N := some 100)
       refine one_ (i := 4) (N := some 103) #[true, true, true, true, true, false, false, false, false, true, false, false] rfl rfl (one_of HT_.out (by kernel_rfl)) (by decide) (fun K hK => ?_)
       refine goes_ Try.func9 (by kernel_rfl) rfl #[.agg #[.slice A2_0 l2_0.length c2_0]] (by rfl) rfl rfl zl ?_
       with_reducible refine (laws_toPool.calls kj107 _ _ l2_0 t338 _ ?side1 ?side2 A172.out).mono ?_
       (case side1 => exact zc (Kd.C_below HR2_0.out HB.out))
       (case side2 => exact HC2_0.out)
       rintro e w187 ⟨v339, rfl, ho0, hb⟩
       refine ⟨_, rfl, ?_⟩
       have n0_ := Aside0.mk (Kd.R_elder' (zr HO_305000.out) (Kd.R_base ho0) hb)
       have n1_ := Aside0.mk (Kd.R_elder' (zr HO_309000.out) (Kd.R_base ho0) hb)
       have n2_ := Aside0.mk (Kd.R_elder' (zr HO_313000.out) (Kd.R_base ho0) hb)
       have n3_ := Aside0.mk (Kd.R_elder' (zr HO_318000.out) (Kd.R_base ho0) hb)
       have n4_ := Aside0.mk (Kd.R_elder' (zr HO337.out) (Kd.R_base ho0) hb)
       have n5_ := Aside0.mk (Kd.R_lower (Kd.R_new' (Kd.R_new' (Kd.R_new' (Kd.R_new' (Kd.R_new' ho0 (Kd.R_lt (zr HO_305000.out))) (Kd.R_lt (zr HO_309000.out))) (Kd.R_lt (zr HO_313000.out))) (Kd.R_lt (zr HO_318000.out))) (Kd.R_lt (zr HO337.out))) (below_size (zb HB.out)))
       have n6_ := Aside0.mk (blk_below (zh BK290.out) hb)
       have n7_ := Aside0.mk (blk_below (zh BK291.out) hb)
       have n8_ := Aside0.mk (blk_below (zh BK304.out) hb)
       have n9_ := Aside0.mk (blk_below (zh BK308.out) hb)
       have n10_ := Aside0.mk (blk_below (zh BK312.out) hb)
       have n11_ := Aside0.mk (blk_below (zh BK317.out) hb)
       have n12_ := Aside0.mk (blk_below (zh BK345.out) hb)
       have n13_ := Aside0.mk (below_step (zb HB.out) hb)
       clear HO_305000 HO_309000 HO_313000 HO_318000 HO337 BK290 BK291 BK304 BK308 BK312 BK317 BK345 HB
       have HO_305000 := n0_
       have HO_309000 := n1_
       have HO_313000 := n2_
       have HO_318000 := n3_
       have HO337 := n4_
       have HO340 := n5_
       have BK290 := n6_
       have BK291 := n7_
       have BK304 := n8_
       have BK308 := n9_
       have BK312 := n10_
       have BK317 := n11_
       have BK345 := n12_
       have HB := n13_
       clear n0_ n1_ n2_ n3_ n4_ n5_ n6_ n7_ n8_ n9_ n10_ n11_ n12_ n13_
       (try clear hb)
       (try clear hb2)
       (try clear hk)
       (try clear hi)
       (try clear ho0)
       obtain ⟨Ao188, co188, eo188⟩ := Kd.R_slice HO337.out
       (first | subst eo188 | (injection eo188 with f1_ f2_ f3_; have f4_ := f1_.symm; have f5_ := f3_.symm; clear f1_ f2_ f3_; subst f4_; subst f5_))
       obtain ⟨Ao189, co189, eo189⟩ := Kd.R_slice HO340.out
       (first | subst eo189 | (injection eo189 with f1_ f2_ f3_; have f4_ := f1_.symm; have f5_ := f3_.symm; clear f1_ f2_ f3_; subst f4_; subst f5_))
       refine hK.out _ _ ⟨(blk_cell BK290.out 0).trans rfl, (blk_cell BK291.out 0).trans rfl⟩ (fun hHeld => ?_)
       clear hK K
       refine norm_ (a' := ?_) ?_ ?_
       rotate_left
       ·exact zn (N := some 103)
       refine one_ (i := 5) (N := some 104) #[true, true, true, true, true, true, false, false, false, true, false, false] rfl rfl (one_of HT_.out (by kernel_rfl)) (by decide) (fun K hK => ?_)
       refine goes_ Try.func15 (by kernel_rfl) rfl #[.agg #[.slice Ao188 t335.length co188], .int .i64 a1, .agg #[.slice Ao189 t338.length co189]] (by rfl) rfl rfl zl ?_
       with_reducible refine (impl_TermMove.calls kj107 _ _ t335 a1 _ _ t338 t341 t344 _ ?side1 ?side2 ?side3 ?side4 A173.out).mono ?_
       (case side1 => exact zc (Kd.R_reads' HO337.out).2.2)
       (case side2 => exact (Kd.R_reads' HO337.out).2.1)
       (case side3 => exact zc (Kd.R_reads' HO340.out).2.2)
       (case side4 => exact (Kd.R_reads' HO340.out).2.1)
       rintro e w190 ⟨v342, rfl, ho0, hb⟩
       refine ⟨_, rfl, ?_⟩
       have n0_ := Aside0.mk (Kd.R_elder' (zr HO_305000.out) (Kd.R_base ho0) hb)
       have n1_ := Aside0.mk (Kd.R_elder' (zr HO_309000.out) (Kd.R_base ho0) hb)
       have n2_ := Aside0.mk (Kd.R_elder' (zr HO_313000.out) (Kd.R_base ho0) hb)
       have n3_ := Aside0.mk (Kd.R_elder' (zr HO_318000.out) (Kd.R_base ho0) hb)
       have n4_ := Aside0.mk (Kd.R_elder' (zr HO337.out) (Kd.R_base ho0) hb)
       have n5_ := Aside0.mk (Kd.R_elder' (zr HO340.out) (Kd.R_base ho0) hb)
       have n6_ := Aside0.mk (Kd.R_lower (Kd.R_new' (Kd.R_new' (Kd.R_new' (Kd.R_new' (Kd.R_new' (Kd.R_new' ho0 (Kd.R_lt (zr HO_305000.out))) (Kd.R_lt (zr HO_309000.out))) (Kd.R_lt (zr HO_313000.out))) (Kd.R_lt (zr HO_318000.out))) (Kd.R_lt (zr HO337.out))) (Kd.R_lt (zr HO340.out))) (below_size (zb HB.out)))
       have n7_ := Aside0.mk (blk_below (zh BK290.out) hb)
       have n8_ := Aside0.mk (blk_below (zh BK291.out) hb)
       have n9_ := Aside0.mk (blk_below (zh BK304.out) hb)
       have n10_ := Aside0.mk (blk_below (zh BK308.out) hb)
       have n11_ := Aside0.mk (blk_below (zh BK312.out) hb)
       have n12_ := Aside0.mk (blk_below (zh BK317.out) hb)
       have n13_ := Aside0.mk (blk_below (zh BK345.out) hb)
       have n14_ := Aside0.mk (below_step (zb HB.out) hb)
       clear HO_305000 HO_309000 HO_313000 HO_318000 HO337 HO340 BK290 BK291 BK304 BK308 BK312 BK317 BK345 HB
       have HO_305000 := n0_
       have HO_309000 := n1_
       have HO_313000 := n2_
       have HO_318000 := n3_
       have HO337 := n4_
       have HO340 := n5_
       have HO343 := n6_
       have BK290 := n7_
       have BK291 := n8_
       have BK304 := n9_
       have BK308 := n10_
       have BK312 := n11_
       have BK317 := n12_
       have BK345 := n13_
       have HB := n14_
       clear n0_ n1_ n2_ n3_ n4_ n5_ n6_ n7_ n8_ n9_ n10_ n11_ n12_ n13_ n14_
       (try clear hb)
       (try clear hb2)
       (try clear hk)
       (try clear hi)
       (try clear ho0)
       refine hK.out _ _ ⟨(blk_cell BK290.out 0).trans rfl, (blk_cell BK291.out 0).trans rfl⟩ (fun hHeld => ?_)
       clear hK K
       refine norm_ (a' := ?_) ?_ ?_
       rotate_left
       ·exact zn (N := some 104)
       refine pure_ (i := 6) (N := some 98) (v := ?_) (a' := ?_) #[true, true, true, true, true, true, true, false, false, true, false, false] rfl rfl (any_of HT_.out (by kernel_rfl)) (fun _ _ _ h => h) (Or.inl ⟨by rfl, ?_⟩) ?_ ?_
       rotate_left
       ·intro w'
        go_simp
        with_reducible rfl
       rotate_left
       ·exact zn
       refine pure_ (i := 7) (N := some 105) (v := ?_) (a' := ?_) #[true, true, true, true, true, true, true, true, false, true, false, false] rfl rfl (any_of HT_.out (by kernel_rfl)) (fun _ _ _ h => h) (Or.inl ⟨by rfl, ?_⟩) ?_ ?_
       rotate_left
       ·intro w'
        go_simp
        with_reducible rfl
       rotate_left
       ·exact zn
       refine pure_ (i := 8) (N := some 106) (v := ?_) (a' := ?_) #[true, true, true, true, true, true, true, true, true, true, false, false] rfl rfl (any_of HT_.out (by kernel_rfl)) (fun _ _ _ h => h) (Or.inl ⟨by rfl, ?_⟩) ?_ ?_
       rotate_left
       ·intro w'
        go_simp
        with_reducible rfl
       rotate_left
       ·exact zn
       exact norm_ (by simp only [putAll, Act.put, List.setIfInBounds_toArray, List.set_cons_zero, List.set_cons_succ]) (hCont (.slice Ao188 t335.length co188, .slice Ao189 t338.length co189, v342, gb345) _ ⟨hHeld, (by (with_reducible repeat (first | apply Kd.R_alloc | apply Kd.R_drewN | apply Kd.R_drew)); exact Kd.R_mono HO337.out (fun _ hk => ⟨hk.1.2, ⟨hk.2, ⟨hk.1.1.1.1.1.2, ⟨hk.1.1.1.1.2, ⟨hk.1.1.1.2, hk.1.1.2⟩⟩⟩⟩⟩)), (by (with_reducible repeat (first | apply Kd.R_alloc | apply Kd.R_drewN | apply Kd.R_drew)); exact Kd.R_mono HO340.out (fun _ hk => ⟨hk.1.2, ⟨hk.2, ⟨hk.1.1.1.1.1.2, ⟨hk.1.1.1.1.2, ⟨hk.1.1.1.2, hk.1.1.2⟩⟩⟩⟩⟩)), (by (with_reducible repeat (first | apply Kd.R_alloc | apply Kd.R_drewN | apply Kd.R_drew)); exact Kd.R_mono HO343.out (fun _ hk => ⟨hk.1.2, ⟨hk.2, ⟨hk.1.1.1.1.1.2, ⟨hk.1.1.1.1.2, ⟨hk.1.1.1.2, hk.1.1.2⟩⟩⟩⟩⟩)), (by (with_reducible repeat (first | apply Kd.R_alloc | apply Kd.R_drewN | apply Kd.R_drew)); exact Kd.R_mono HO_305000.out (fun _ hk => ⟨hk.1.1.2, ⟨hk.1.2, ⟨hk.2, ⟨hk.1.1.1.1, ⟨hk.1.1.1.2.1, hk.1.1.1.2.2⟩⟩⟩⟩⟩)), (by (with_reducible repeat (first | apply Kd.R_alloc | apply Kd.R_drewN | apply Kd.R_drew)); exact Kd.R_mono HO_309000.out (fun _ hk => ⟨hk.1.1.2, ⟨hk.1.2, ⟨hk.2, ⟨hk.1.1.1.1, ⟨hk.1.1.1.2.1, hk.1.1.1.2.2⟩⟩⟩⟩⟩)), (by (with_reducible repeat (first | apply Kd.R_alloc | apply Kd.R_drewN | apply Kd.R_drew)); exact Kd.R_mono HO_313000.out (fun _ hk => ⟨hk.1.1.2, ⟨hk.1.2, ⟨hk.2, ⟨hk.1.1.1.1, ⟨hk.1.1.1.2.1, hk.1.1.1.2.2⟩⟩⟩⟩⟩)), (by (with_reducible repeat (first | apply Kd.R_alloc | apply Kd.R_drewN | apply Kd.R_drew)); exact Kd.R_mono HO_318000.out (fun _ hk => ⟨hk.1.1.2, ⟨hk.1.2, ⟨hk.2, ⟨hk.1.1.1.1, ⟨hk.1.1.1.2.1, hk.1.1.1.2.2⟩⟩⟩⟩⟩)), (zh BK290.out), (zh BK291.out), (zh BK304.out), (zh BK308.out), (zh BK312.out), (zh BK317.out), (zh BK345.out), GW345.out, GE345.out, NB290_345.out, NB345_290.out, NB291_345.out, NB345_291.out, NB304_345.out, NB345_304.out, NB308_345.out, NB345_308.out, NB312_345.out, NB345_312.out, NB317_345.out, NB345_317.out, (zb HB.out)⟩)
     rintro ⟨v336, v339, v342, gb345⟩ w191 ⟨hS_, h0_, h1_, h2_, h3_, h4_, h5_, h6_, h7_, h8_, h9_, h10_, h11_, h12_, h13_, h14_, h15_, h16_, h17_, h18_, h19_, h20_, h21_, h22_, h23_, h24_, h25_, h26_, h27_, h28_⟩
     have n0_ : Aside0 (Kd.R k55 55 w191 w.heap.size (fun k_ => some k_ ≠ (v339 : Value).ownBlock ∧ some k_ ≠ (v342 : Value).ownBlock ∧ some k_ ≠ (.slice Ao42 t300.length co42 : Value).ownBlock ∧ some k_ ≠ (.slice Ao48 t328.length co48 : Value).ownBlock ∧ some k_ ≠ (.slice Ao57 t330.length co57 : Value).ownBlock ∧ some k_ ≠ (.slice Ao66 t313.length co66 : Value).ownBlock) v336 t335) := ⟨h0_⟩
     have n1_ : Aside0 (Kd.R k55 55 w191 w.heap.size (fun k_ => some k_ ≠ (v336 : Value).ownBlock ∧ some k_ ≠ (v342 : Value).ownBlock ∧ some k_ ≠ (.slice Ao42 t300.length co42 : Value).ownBlock ∧ some k_ ≠ (.slice Ao48 t328.length co48 : Value).ownBlock ∧ some k_ ≠ (.slice Ao57 t330.length co57 : Value).ownBlock ∧ some k_ ≠ (.slice Ao66 t313.length co66 : Value).ownBlock) v339 t338) := ⟨h1_⟩
     have n2_ : Aside0 (Kd.R k55 55 w191 w.heap.size (fun k_ => some k_ ≠ (v336 : Value).ownBlock ∧ some k_ ≠ (v339 : Value).ownBlock ∧ some k_ ≠ (.slice Ao42 t300.length co42 : Value).ownBlock ∧ some k_ ≠ (.slice Ao48 t328.length co48 : Value).ownBlock ∧ some k_ ≠ (.slice Ao57 t330.length co57 : Value).ownBlock ∧ some k_ ≠ (.slice Ao66 t313.length co66 : Value).ownBlock) v342 t341) := ⟨h2_⟩
     have n3_ : Aside0 (Kd.R k55 55 w191 w.heap.size (fun k_ => some k_ ≠ (v336 : Value).ownBlock ∧ some k_ ≠ (v339 : Value).ownBlock ∧ some k_ ≠ (v342 : Value).ownBlock ∧ some k_ ≠ (.slice Ao48 t328.length co48 : Value).ownBlock ∧ some k_ ≠ (.slice Ao57 t330.length co57 : Value).ownBlock ∧ some k_ ≠ (.slice Ao66 t313.length co66 : Value).ownBlock) (.slice Ao42 t300.length co42) t300) := ⟨h3_⟩
     have n4_ : Aside0 (Kd.R k55 55 w191 w.heap.size (fun k_ => some k_ ≠ (v336 : Value).ownBlock ∧ some k_ ≠ (v339 : Value).ownBlock ∧ some k_ ≠ (v342 : Value).ownBlock ∧ some k_ ≠ (.slice Ao42 t300.length co42 : Value).ownBlock ∧ some k_ ≠ (.slice Ao57 t330.length co57 : Value).ownBlock ∧ some k_ ≠ (.slice Ao66 t313.length co66 : Value).ownBlock) (.slice Ao48 t328.length co48) t328) := ⟨h4_⟩
     have n5_ : Aside0 (Kd.R k55 55 w191 w.heap.size (fun k_ => some k_ ≠ (v336 : Value).ownBlock ∧ some k_ ≠ (v339 : Value).ownBlock ∧ some k_ ≠ (v342 : Value).ownBlock ∧ some k_ ≠ (.slice Ao42 t300.length co42 : Value).ownBlock ∧ some k_ ≠ (.slice Ao48 t328.length co48 : Value).ownBlock ∧ some k_ ≠ (.slice Ao66 t313.length co66 : Value).ownBlock) (.slice Ao57 t330.length co57) t330) := ⟨h5_⟩
     have n6_ : Aside0 (Kd.R k55 55 w191 w.heap.size (fun k_ => some k_ ≠ (v336 : Value).ownBlock ∧ some k_ ≠ (v339 : Value).ownBlock ∧ some k_ ≠ (v342 : Value).ownBlock ∧ some k_ ≠ (.slice Ao42 t300.length co42 : Value).ownBlock ∧ some k_ ≠ (.slice Ao48 t328.length co48 : Value).ownBlock ∧ some k_ ≠ (.slice Ao57 t330.length co57 : Value).ownBlock) (.slice Ao66 t313.length co66) t333) := ⟨h6_⟩
     have n7_ : Aside0 (w191.heap[gb290]? = some (.cells #[.slice A0_0 l0_0.length c0_0] 24 (0, 0))) := ⟨h7_⟩
     have n8_ : Aside0 (w191.heap[gb291]? = some (.cells #[.slice A2_0 l2_0.length c2_0] 24 (0, 0))) := ⟨h8_⟩
     have n9_ : Aside0 (w191.heap[gb304]? = some (.cells #[.slice Ao42 t300.length co42] 28 (0, 0))) := ⟨h9_⟩
     have n10_ : Aside0 (w191.heap[gb308]? = some (.cells #[.slice Ao48 t328.length co48] 28 (0, 0))) := ⟨h10_⟩
     have n11_ : Aside0 (w191.heap[gb312]? = some (.cells #[.slice Ao57 t330.length co57] 28 (0, 0))) := ⟨h11_⟩
     have n12_ : Aside0 (w191.heap[gb317]? = some (.cells #[.slice Ao66 t313.length co66] 28 (0, 0))) := ⟨h12_⟩
     have n13_ : Aside0 (w191.heap[gb345]? = some (.cells #[.slice none 0 0] 28 (0, 0))) := ⟨h13_⟩
     have n14_ : Aside0 (w.heap.size ≤ gb345) := ⟨h14_⟩
     have n15_ : Aside0 (w.heap.size ≤ gb345) := ⟨h15_⟩
     have n16_ : Aside0 (gb290 ≠ gb345) := ⟨h16_⟩
     have n17_ : Aside0 (gb345 ≠ gb290) := ⟨h17_⟩
     have n18_ : Aside0 (gb291 ≠ gb345) := ⟨h18_⟩
     have n19_ : Aside0 (gb345 ≠ gb291) := ⟨h19_⟩
     have n20_ : Aside0 (gb304 ≠ gb345) := ⟨h20_⟩
     have n21_ : Aside0 (gb345 ≠ gb304) := ⟨h21_⟩
     have n22_ : Aside0 (gb308 ≠ gb345) := ⟨h22_⟩
     have n23_ : Aside0 (gb345 ≠ gb308) := ⟨h23_⟩
     have n24_ : Aside0 (gb312 ≠ gb345) := ⟨h24_⟩
     have n25_ : Aside0 (gb345 ≠ gb312) := ⟨h25_⟩
     have n26_ : Aside0 (gb317 ≠ gb345) := ⟨h26_⟩
     have n27_ : Aside0 (gb345 ≠ gb317) := ⟨h27_⟩
     have n28_ : Aside0 (Below w.heap.size w w191) := ⟨h28_⟩
     clear HO_305000 HO_309000 HO_313000 HO_318000 BK290 BK291 BK304 BK308 BK312 BK317 HB h0_ h1_ h2_ h3_ h4_ h5_ h6_ h7_ h8_ h9_ h10_ h11_ h12_ h13_ h14_ h15_ h16_ h17_ h18_ h19_ h20_ h21_ h22_ h23_ h24_ h25_ h26_ h27_ h28_
     have HO337 := n0_
     have HO340 := n1_
     have HO343 := n2_
     have HO_305000 := n3_
     have HO_309000 := n4_
     have HO_313000 := n5_
     have HO_318000 := n6_
     have BK290 := n7_
     have BK291 := n8_
     have BK304 := n9_
     have BK308 := n10_
     have BK312 := n11_
     have BK317 := n12_
     have BK345 := n13_
     have GW345 := n14_
     have GE345 := n15_
     have NB290_345 := n16_
     have NB345_290 := n17_
     have NB291_345 := n18_
     have NB345_291 := n19_
     have NB304_345 := n20_
     have NB345_304 := n21_
     have NB308_345 := n22_
     have NB345_308 := n23_
     have NB312_345 := n24_
     have NB345_312 := n25_
     have NB317_345 := n26_
     have NB345_317 := n27_
     have HB := n28_
     clear n0_ n1_ n2_ n3_ n4_ n5_ n6_ n7_ n8_ n9_ n10_ n11_ n12_ n13_ n14_ n15_ n16_ n17_ n18_ n19_ n20_ n21_ n22_ n23_ n24_ n25_ n26_ n27_ n28_
     have hHeld : w191.cell? ⟨gb290, 0, none⟩ = some (.slice A0_0 l0_0.length c0_0) ∧ w191.cell? ⟨gb291, 0, none⟩ = some (.slice A2_0 l2_0.length c2_0) := hS_
     obtain ⟨Ao192, co192, eo192⟩ := Kd.R_slice HO343.out
     (first | subst eo192 | (injection eo192 with f1_ f2_ f3_; have f4_ := f1_.symm; have f5_ := f3_.symm; clear f1_ f2_ f3_; subst f4_; subst f5_))
     refine norm_ (a' := ?_) ?_ ?_
     rotate_left
     ·simp only [putAll, Act.put, List.setIfInBounds_toArray, List.set_cons_zero, List.set_cons_succ]
      rfl
     refine one_ (i := 10) (N := none) #[true, true, true, true, true, true, true, true, true, true, true, false] rfl rfl (one_of HT_.out (by kernel_rfl)) (by decide) (fun K hK => ?_)
     have hs193 : w191.cell? ⟨gb345, 0, none⟩ = some (.slice none 0 0) := (blk_cell BK345.out 0).trans rfl
     have hfs193 := blk_frozen BK345.out 0
     have hns193_0 := NB290_345.out
     have hns193_1 := NB291_345.out
     have hns193_2 := NB304_345.out
     have hns193_3 := NB308_345.out
     have hns193_4 := NB312_345.out
     have hns193_5 := NB317_345.out
     have hms193_0 := NB345_290.out
     have hms193_1 := NB345_291.out
     have hms193_2 := NB345_304.out
     have hms193_3 := NB345_308.out
     have hms193_4 := NB345_312.out
     have hms193_5 := NB345_317.out
     refine skip_ (w1 := ?_) (by rfl) rfl ?_ ?_
     rotate_left
     ·go_simp
      rfl
     refine hK.out _ _ ⟨((cell_far (p := ⟨gb345, _, none⟩) NB290_345.out _).trans (hHeld.1)), ((cell_far (p := ⟨gb345, _, none⟩) NB291_345.out _).trans (hHeld.2))⟩ (fun hHeld => ?_)
     clear hK K
     refine pure_ (i := 11) (N := some 18) (v := ?_) (a' := ?_) #[true, true, true, true, true, true, true, true, true, true, true, true] rfl rfl (any_of HT_.out (by kernel_rfl)) (fun _ _ _ h => h) (Or.inl ⟨by rfl, ?_⟩) ?_ ?_
     rotate_left
     ·intro w'
      go_simp
      with_reducible rfl
     rotate_left
     ·exact zn
     refine done_ (done_of HT_.out (by kernel_rfl)) ?_
     go_upto_region 32 with (fail)
     go_cut [115] (fun v115 wc => ∃ (kq : Nat) (x115_173 : Bool), v115 = .bool x115_173 ∧ Aside0 (laws_FnExactTermMove.j2 kq t332 x115_173 t333 = some r) ∧ Aside0 (kq ≤ kj107) ∧ Aside0 (Kd.R k55 55 wc w.heap.size (fun k_ => some k_ ≠ ((.slice Ao48 t328.length co48) : Value).ownBlock ∧ some k_ ≠ ((.slice Ao57 t330.length co57) : Value).ownBlock ∧ some k_ ≠ ((.slice Ao66 t313.length co66) : Value).ownBlock ∧ some k_ ≠ ((.slice Ao192 t341.length co192) : Value).ownBlock) (.slice Ao42 t300.length co42) t300) ∧ Aside0 (Kd.R k55 55 wc w.heap.size (fun k_ => some k_ ≠ ((.slice Ao42 t300.length co42) : Value).ownBlock ∧ some k_ ≠ ((.slice Ao57 t330.length co57) : Value).ownBlock ∧ some k_ ≠ ((.slice Ao66 t313.length co66) : Value).ownBlock ∧ some k_ ≠ ((.slice Ao192 t341.length co192) : Value).ownBlock) (.slice Ao48 t328.length co48) t328) ∧ Aside0 (Kd.R k55 55 wc w.heap.size (fun k_ => some k_ ≠ ((.slice Ao42 t300.length co42) : Value).ownBlock ∧ some k_ ≠ ((.slice Ao48 t328.length co48) : Value).ownBlock ∧ some k_ ≠ ((.slice Ao66 t313.length co66) : Value).ownBlock ∧ some k_ ≠ ((.slice Ao192 t341.length co192) : Value).ownBlock) (.slice Ao57 t330.length co57) t330) ∧ Aside0 (Kd.R k55 55 wc w.heap.size (fun k_ => some k_ ≠ ((.slice Ao42 t300.length co42) : Value).ownBlock ∧ some k_ ≠ ((.slice Ao48 t328.length co48) : Value).ownBlock ∧ some k_ ≠ ((.slice Ao57 t330.length co57) : Value).ownBlock ∧ some k_ ≠ ((.slice Ao192 t341.length co192) : Value).ownBlock) (.slice Ao66 t313.length co66) t333) ∧ Aside0 (Kd.R k55 55 wc w.heap.size (fun k_ => some k_ ≠ ((.slice Ao42 t300.length co42) : Value).ownBlock ∧ some k_ ≠ ((.slice Ao48 t328.length co48) : Value).ownBlock ∧ some k_ ≠ ((.slice Ao57 t330.length co57) : Value).ownBlock ∧ some k_ ≠ ((.slice Ao66 t313.length co66) : Value).ownBlock) (.slice Ao192 t341.length co192) t341) ∧ Aside0 (wc.heap[gb290]? = some (.cells #[(.slice A0_0 l0_0.length c0_0)] 24 (0, 0))) ∧ Aside0 (wc.heap[gb291]? = some (.cells #[(.slice A2_0 l2_0.length c2_0)] 24 (0, 0))) ∧ Aside0 (wc.heap[gb304]? = some (.cells #[(.slice Ao42 t300.length co42)] 28 (0, 0))) ∧ Aside0 (wc.heap[gb308]? = some (.cells #[(.slice Ao48 t328.length co48)] 28 (0, 0))) ∧ Aside0 (wc.heap[gb312]? = some (.cells #[(.slice Ao57 t330.length co57)] 28 (0, 0))) ∧ Aside0 (wc.heap[gb317]? = some (.cells #[(.slice Ao66 t313.length co66)] 28 (0, 0))) ∧ Aside0 (wc.heap[gb345]? = some (.cells #[(.slice Ao192 t341.length co192)] 28 (0, 0))) ∧ Aside0 (Below w.heap.size w wc))
     case first =>
      have H := HC174.out
      clear HC174
      replace H := Option.bind_eq_some_iff.mp H
      obtain ⟨t346, A1940, H⟩ := H
      replace H : (if t346 = true then (laws_FnExactTermMove.j2 kj107 t332 (t344 != t303) t333) else (laws_FnExactTermMove.j2 kj107 t332 true t333)) = some r := H
      have A194 := Aside0.mk A1940
      clear A1940
      by_cases c195 : t346 = true
      ·subst c195
       have H1 : (laws_FnExactTermMove.j2 kj107 t332 (t344 != t303) t333) = some r := by rw [if_pos rfl] at H; exact H
       clear H
       have H := H1
       clear H1
       have H' := Aside0.mk H
       clear H
       have hnb196 := NB345_290.out
       have hnc196 := NB290_345.out
       have hnb197 := NB345_291.out
       have hnc197 := NB291_345.out
       have hnb198 := NB345_304.out
       have hnc198 := NB304_345.out
       have hnb199 := NB345_308.out
       have hnc199 := NB308_345.out
       have hnb200 := NB345_312.out
       have hnc200 := NB312_345.out
       have hnb201 := NB345_317.out
       have hnc201 := NB317_345.out
       have hcz202_0 : w191.cell? ⟨gb345, 0, none⟩ = some (.slice none 0 0) := (blk_cell BK345.out 0).trans rfl
       have hfz202_0 := blk_frozen BK345.out 0
       have hnb203 := NB304_290.out
       have hnc203 := NB290_304.out
       have hnb204 := NB304_291.out
       have hnc204 := NB291_304.out
       have hnb205 := NB304_308.out
       have hnc205 := NB308_304.out
       have hnb206 := NB304_312.out
       have hnc206 := NB312_304.out
       have hnb207 := NB304_317.out
       have hnc207 := NB317_304.out
       have hcz208_0 : w191.cell? ⟨gb304, 0, none⟩ = some (.slice Ao42 t300.length co42) := (blk_cell BK304.out 0).trans rfl
       have hfz208_0 := blk_frozen BK304.out 0
       go_wp2_with (first | ((with_reducible refine gate_callee (f := 11) rfl ?_); refine goesL_ (some 109) rfl rfl Try.func11 (by kernel_rfl) rfl #[.agg #[.slice Ao192 t341.length co192], .agg #[.slice Ao42 t300.length co42]] rfl zl ?_; (with_reducible refine (laws_eqPool.calls kj107 _ _ t341 _ _ t300 true _ ?side1 ?side2 ?side3 ?side4 A194.out).mono ?_); (case side1 => refine (Kd.R_reads' (e := 55) (base := w.heap.size) (ok := fun k_ => (some k_ ≠ (v336 : Value).ownBlock ∧ (some k_ ≠ (v339 : Value).ownBlock ∧ (some k_ ≠ (.slice Ao42 t300.length co42 : Value).ownBlock ∧ (some k_ ≠ (.slice Ao48 t328.length co48 : Value).ownBlock ∧ (some k_ ≠ (.slice Ao57 t330.length co57 : Value).ownBlock ∧ some k_ ≠ (.slice Ao66 t313.length co66 : Value).ownBlock)))))) (n := t341.length) (c := co192) ?_).2.2; exact (by (with_reducible repeat (first | apply Kd.R_alloc | apply Kd.R_drewN | apply Kd.R_drew)); exact (Kd.R_mono (Kd.R_far (p := ⟨gb345, 0, none⟩) (Kd.R_types HO343.out BK345.out (by decide)) (fun _ hk => hk.2) (.slice Ao192 t341.length co192)) (fun _ h_ => h_.1)))); (case side2 => exact (Kd.R_reads' HO343.out).2.1); (case side3 => refine (Kd.R_reads' (e := 55) (base := w.heap.size) (ok := fun k_ => (some k_ ≠ (v336 : Value).ownBlock ∧ (some k_ ≠ (v339 : Value).ownBlock ∧ (some k_ ≠ (.slice Ao192 t341.length co192 : Value).ownBlock ∧ (some k_ ≠ (.slice Ao48 t328.length co48 : Value).ownBlock ∧ (some k_ ≠ (.slice Ao57 t330.length co57 : Value).ownBlock ∧ some k_ ≠ (.slice Ao66 t313.length co66 : Value).ownBlock)))))) (n := t300.length) (c := co42) ?_).2.2; exact (by (with_reducible repeat (first | apply Kd.R_alloc | apply Kd.R_drewN | apply Kd.R_drew)); exact (Kd.R_mono (Kd.R_far (p := ⟨gb345, 0, none⟩) (Kd.R_types HO_305000.out BK345.out (by decide)) (fun _ hk => hk.2) (.slice Ao192 t341.length co192)) (fun _ h_ => h_.1)))); (case side4 => exact (Kd.R_reads' HO_305000.out).2.1); rintro e w209 ⟨rfl, hb⟩; refine ⟨_, rfl, ?_⟩; have n0_ := Aside0.mk (Kd.R_below (by (with_reducible repeat (first | apply Kd.R_alloc | apply Kd.R_drewN | apply Kd.R_drew)); exact (Kd.R_mono (Kd.R_far (p := ⟨gb345, 0, none⟩) (Kd.R_types HO_305000.out BK345.out (by decide)) (fun _ hk => hk.2) (.slice Ao192 t341.length co192)) (fun _ h_ => h_.1))) hb); have n1_ := Aside0.mk (Kd.R_below (by (with_reducible repeat (first | apply Kd.R_alloc | apply Kd.R_drewN | apply Kd.R_drew)); exact (Kd.R_mono (Kd.R_far (p := ⟨gb345, 0, none⟩) (Kd.R_types HO_309000.out BK345.out (by decide)) (fun _ hk => hk.2) (.slice Ao192 t341.length co192)) (fun _ h_ => h_.1))) hb); have n2_ := Aside0.mk (Kd.R_below (by (with_reducible repeat (first | apply Kd.R_alloc | apply Kd.R_drewN | apply Kd.R_drew)); exact (Kd.R_mono (Kd.R_far (p := ⟨gb345, 0, none⟩) (Kd.R_types HO_313000.out BK345.out (by decide)) (fun _ hk => hk.2) (.slice Ao192 t341.length co192)) (fun _ h_ => h_.1))) hb); have n3_ := Aside0.mk (Kd.R_below (by (with_reducible repeat (first | apply Kd.R_alloc | apply Kd.R_drewN | apply Kd.R_drew)); exact (Kd.R_mono (Kd.R_far (p := ⟨gb345, 0, none⟩) (Kd.R_types HO_318000.out BK345.out (by decide)) (fun _ hk => hk.2) (.slice Ao192 t341.length co192)) (fun _ h_ => h_.1))) hb); have n4_ := Aside0.mk (Kd.R_below (by (with_reducible repeat (first | apply Kd.R_alloc | apply Kd.R_drewN | apply Kd.R_drew)); exact (Kd.R_mono (Kd.R_far (p := ⟨gb345, 0, none⟩) (Kd.R_types HO337.out BK345.out (by decide)) (fun _ hk => hk.2) (.slice Ao192 t341.length co192)) (fun _ h_ => h_.1))) hb); have n5_ := Aside0.mk (Kd.R_below (by (with_reducible repeat (first | apply Kd.R_alloc | apply Kd.R_drewN | apply Kd.R_drew)); exact (Kd.R_mono (Kd.R_far (p := ⟨gb345, 0, none⟩) (Kd.R_types HO340.out BK345.out (by decide)) (fun _ hk => hk.2) (.slice Ao192 t341.length co192)) (fun _ h_ => h_.1))) hb); have n6_ := Aside0.mk (Kd.R_below (by (with_reducible repeat (first | apply Kd.R_alloc | apply Kd.R_drewN | apply Kd.R_drew)); exact (Kd.R_mono (Kd.R_far (p := ⟨gb345, 0, none⟩) (Kd.R_types HO343.out BK345.out (by decide)) (fun _ hk => hk.2) (.slice Ao192 t341.length co192)) (fun _ h_ => h_.1))) hb); have n7_ := Aside0.mk (blk_below (g := gb290) (o := .cells #[.slice A0_0 l0_0.length c0_0] 24 (0, 0)) (zf BK290.out) hb); have n8_ := Aside0.mk (blk_below (g := gb291) (o := .cells #[.slice A2_0 l2_0.length c2_0] 24 (0, 0)) (zf BK291.out) hb); have n9_ := Aside0.mk (blk_below (g := gb304) (o := .cells #[.slice Ao42 t300.length co42] 28 (0, 0)) (zf BK304.out) hb); have n10_ := Aside0.mk (blk_below (g := gb308) (o := .cells #[.slice Ao48 t328.length co48] 28 (0, 0)) (zf BK308.out) hb); have n11_ := Aside0.mk (blk_below (g := gb312) (o := .cells #[.slice Ao57 t330.length co57] 28 (0, 0)) (zf BK312.out) hb); have n12_ := Aside0.mk (blk_below (g := gb317) (o := .cells #[.slice Ao66 t313.length co66] 28 (0, 0)) (zf BK317.out) hb); have n13_ := Aside0.mk (blk_below (g := gb345) (o := .cells #[.slice Ao192 t341.length co192] 28 (0, 0)) (by (with_reducible repeat (first | refine blk_drewN ?_ _ | refine blk_drew ?_ | refine blk_alloc ?_ _)); refine blk_put (cs := #[.slice none 0 0]) ?_ 0 _ rfl; (with_reducible repeat (first | refine blk_drewN ?_ _ | refine blk_drew ?_ | refine blk_alloc ?_ _)); exact BK345.out) hb); have n14_ := Aside0.mk (below_step (zb HB.out) hb); clear HO_305000 HO_309000 HO_313000 HO_318000 HO337 HO340 HO343 BK290 BK291 BK304 BK308 BK312 BK317 BK345 HB; have HO_305000 := n0_; have HO_309000 := n1_; have HO_313000 := n2_; have HO_318000 := n3_; have HO337 := n4_; have HO340 := n5_; have HO343 := n6_; have BK290 := n7_; have BK291 := n8_; have BK304 := n9_; have BK308 := n10_; have BK312 := n11_; have BK317 := n12_; have BK345 := n13_; have HB := n14_; clear n0_ n1_ n2_ n3_ n4_ n5_ n6_ n7_ n8_ n9_ n10_ n11_ n12_ n13_ n14_; (try clear hb); (try clear hb2); (try clear hk); (try clear hi)))
       go_meet
       case rel => exact ⟨_, ((t344 != t303)), (by first | rfl | (simp; done) | (simp [*]; done)), H', ⟨by have := HJ25.out; have := HJ107.out; first | omega | exact Nat.le_refl _⟩, ⟨by (try simp only [hl309000_107]); (try simp only [hl313000_107]); (with_reducible repeat (first | apply Kd.R_alloc | apply Kd.R_drewN | apply Kd.R_drew)); exact Kd.R_mono HO_305000.out (fun _ hk => ⟨hk.2.2.2.1, ⟨hk.2.2.2.2.1, ⟨hk.2.2.2.2.2, hk.2.2.1⟩⟩⟩)⟩, ⟨by (try simp only [hl309000_107]); (try simp only [hl313000_107]); (with_reducible repeat (first | apply Kd.R_alloc | apply Kd.R_drewN | apply Kd.R_drew)); exact Kd.R_mono HO_309000.out (fun _ hk => ⟨hk.2.2.2.1, ⟨hk.2.2.2.2.1, ⟨hk.2.2.2.2.2, hk.2.2.1⟩⟩⟩)⟩, ⟨by (try simp only [hl309000_107]); (try simp only [hl313000_107]); (with_reducible repeat (first | apply Kd.R_alloc | apply Kd.R_drewN | apply Kd.R_drew)); exact Kd.R_mono HO_313000.out (fun _ hk => ⟨hk.2.2.2.1, ⟨hk.2.2.2.2.1, ⟨hk.2.2.2.2.2, hk.2.2.1⟩⟩⟩)⟩, ⟨by (try simp only [hl309000_107]); (try simp only [hl313000_107]); (with_reducible repeat (first | apply Kd.R_alloc | apply Kd.R_drewN | apply Kd.R_drew)); exact Kd.R_mono HO_318000.out (fun _ hk => ⟨hk.2.2.2.1, ⟨hk.2.2.2.2.1, ⟨hk.2.2.2.2.2, hk.2.2.1⟩⟩⟩)⟩, ⟨by (try simp only [hl309000_107]); (try simp only [hl313000_107]); (with_reducible repeat (first | apply Kd.R_alloc | apply Kd.R_drewN | apply Kd.R_drew)); exact Kd.R_mono HO343.out (fun _ hk => ⟨hk.2.2.1, ⟨hk.2.2.2.1, ⟨hk.2.2.2.2.1, hk.2.2.2.2.2⟩⟩⟩)⟩, ⟨by (try simp only [hl309000_107]); (try simp only [hl313000_107]); (with_reducible repeat (first | refine blk_drewN ?_ _ | refine blk_drew ?_ | refine blk_alloc ?_ _)); exact BK290.out⟩, ⟨by (try simp only [hl309000_107]); (try simp only [hl313000_107]); (with_reducible repeat (first | refine blk_drewN ?_ _ | refine blk_drew ?_ | refine blk_alloc ?_ _)); exact BK291.out⟩, ⟨by (try simp only [hl309000_107]); (try simp only [hl313000_107]); (with_reducible repeat (first | refine blk_drewN ?_ _ | refine blk_drew ?_ | refine blk_alloc ?_ _)); exact BK304.out⟩, ⟨by (try simp only [hl309000_107]); (try simp only [hl313000_107]); (with_reducible repeat (first | refine blk_drewN ?_ _ | refine blk_drew ?_ | refine blk_alloc ?_ _)); exact BK308.out⟩, ⟨by (try simp only [hl309000_107]); (try simp only [hl313000_107]); (with_reducible repeat (first | refine blk_drewN ?_ _ | refine blk_drew ?_ | refine blk_alloc ?_ _)); exact BK312.out⟩, ⟨by (try simp only [hl309000_107]); (try simp only [hl313000_107]); (with_reducible repeat (first | refine blk_drewN ?_ _ | refine blk_drew ?_ | refine blk_alloc ?_ _)); exact BK317.out⟩, ⟨by (try simp only [hl309000_107]); (try simp only [hl313000_107]); (with_reducible repeat (first | refine blk_drewN ?_ _ | refine blk_drew ?_ | refine blk_alloc ?_ _)); exact BK345.out⟩, ⟨zb HB.out⟩⟩
      replace c195 := Bool.eq_false_iff.mpr c195
      subst c195
      have H1 : (laws_FnExactTermMove.j2 kj107 t332 true t333) = some r := by rw [if_neg (show ¬ (false = true) by decide)] at H; exact H
      clear H
      have H := H1
      clear H1
      have H' := Aside0.mk H
      clear H
      have hnb210 := NB345_290.out
      have hnc210 := NB290_345.out
      have hnb211 := NB345_291.out
      have hnc211 := NB291_345.out
      have hnb212 := NB345_304.out
      have hnc212 := NB304_345.out
      have hnb213 := NB345_308.out
      have hnc213 := NB308_345.out
      have hnb214 := NB345_312.out
      have hnc214 := NB312_345.out
      have hnb215 := NB345_317.out
      have hnc215 := NB317_345.out
      have hcz216_0 : w191.cell? ⟨gb345, 0, none⟩ = some (.slice none 0 0) := (blk_cell BK345.out 0).trans rfl
      have hfz216_0 := blk_frozen BK345.out 0
      have hnb217 := NB304_290.out
      have hnc217 := NB290_304.out
      have hnb218 := NB304_291.out
      have hnc218 := NB291_304.out
      have hnb219 := NB304_308.out
      have hnc219 := NB308_304.out
      have hnb220 := NB304_312.out
      have hnc220 := NB312_304.out
      have hnb221 := NB304_317.out
      have hnc221 := NB317_304.out
      have hcz222_0 : w191.cell? ⟨gb304, 0, none⟩ = some (.slice Ao42 t300.length co42) := (blk_cell BK304.out 0).trans rfl
      have hfz222_0 := blk_frozen BK304.out 0
      go_wp2_with (first | ((with_reducible refine gate_callee (f := 11) rfl ?_); refine goesL_ (some 109) rfl rfl Try.func11 (by kernel_rfl) rfl #[.agg #[.slice Ao192 t341.length co192], .agg #[.slice Ao42 t300.length co42]] rfl zl ?_; (with_reducible refine (laws_eqPool.calls kj107 _ _ t341 _ _ t300 false _ ?side1 ?side2 ?side3 ?side4 A194.out).mono ?_); (case side1 => refine (Kd.R_reads' (e := 55) (base := w.heap.size) (ok := fun k_ => (some k_ ≠ (v336 : Value).ownBlock ∧ (some k_ ≠ (v339 : Value).ownBlock ∧ (some k_ ≠ (.slice Ao42 t300.length co42 : Value).ownBlock ∧ (some k_ ≠ (.slice Ao48 t328.length co48 : Value).ownBlock ∧ (some k_ ≠ (.slice Ao57 t330.length co57 : Value).ownBlock ∧ some k_ ≠ (.slice Ao66 t313.length co66 : Value).ownBlock)))))) (n := t341.length) (c := co192) ?_).2.2; exact (by (with_reducible repeat (first | apply Kd.R_alloc | apply Kd.R_drewN | apply Kd.R_drew)); exact (Kd.R_mono (Kd.R_far (p := ⟨gb345, 0, none⟩) (Kd.R_types HO343.out BK345.out (by decide)) (fun _ hk => hk.2) (.slice Ao192 t341.length co192)) (fun _ h_ => h_.1)))); (case side2 => exact (Kd.R_reads' HO343.out).2.1); (case side3 => refine (Kd.R_reads' (e := 55) (base := w.heap.size) (ok := fun k_ => (some k_ ≠ (v336 : Value).ownBlock ∧ (some k_ ≠ (v339 : Value).ownBlock ∧ (some k_ ≠ (.slice Ao192 t341.length co192 : Value).ownBlock ∧ (some k_ ≠ (.slice Ao48 t328.length co48 : Value).ownBlock ∧ (some k_ ≠ (.slice Ao57 t330.length co57 : Value).ownBlock ∧ some k_ ≠ (.slice Ao66 t313.length co66 : Value).ownBlock)))))) (n := t300.length) (c := co42) ?_).2.2; exact (by (with_reducible repeat (first | apply Kd.R_alloc | apply Kd.R_drewN | apply Kd.R_drew)); exact (Kd.R_mono (Kd.R_far (p := ⟨gb345, 0, none⟩) (Kd.R_types HO_305000.out BK345.out (by decide)) (fun _ hk => hk.2) (.slice Ao192 t341.length co192)) (fun _ h_ => h_.1)))); (case side4 => exact (Kd.R_reads' HO_305000.out).2.1); rintro e w223 ⟨rfl, hb⟩; refine ⟨_, rfl, ?_⟩; have n0_ := Aside0.mk (Kd.R_below (by (with_reducible repeat (first | apply Kd.R_alloc | apply Kd.R_drewN | apply Kd.R_drew)); exact (Kd.R_mono (Kd.R_far (p := ⟨gb345, 0, none⟩) (Kd.R_types HO_305000.out BK345.out (by decide)) (fun _ hk => hk.2) (.slice Ao192 t341.length co192)) (fun _ h_ => h_.1))) hb); have n1_ := Aside0.mk (Kd.R_below (by (with_reducible repeat (first | apply Kd.R_alloc | apply Kd.R_drewN | apply Kd.R_drew)); exact (Kd.R_mono (Kd.R_far (p := ⟨gb345, 0, none⟩) (Kd.R_types HO_309000.out BK345.out (by decide)) (fun _ hk => hk.2) (.slice Ao192 t341.length co192)) (fun _ h_ => h_.1))) hb); have n2_ := Aside0.mk (Kd.R_below (by (with_reducible repeat (first | apply Kd.R_alloc | apply Kd.R_drewN | apply Kd.R_drew)); exact (Kd.R_mono (Kd.R_far (p := ⟨gb345, 0, none⟩) (Kd.R_types HO_313000.out BK345.out (by decide)) (fun _ hk => hk.2) (.slice Ao192 t341.length co192)) (fun _ h_ => h_.1))) hb); have n3_ := Aside0.mk (Kd.R_below (by (with_reducible repeat (first | apply Kd.R_alloc | apply Kd.R_drewN | apply Kd.R_drew)); exact (Kd.R_mono (Kd.R_far (p := ⟨gb345, 0, none⟩) (Kd.R_types HO_318000.out BK345.out (by decide)) (fun _ hk => hk.2) (.slice Ao192 t341.length co192)) (fun _ h_ => h_.1))) hb); have n4_ := Aside0.mk (Kd.R_below (by (with_reducible repeat (first | apply Kd.R_alloc | apply Kd.R_drewN | apply Kd.R_drew)); exact (Kd.R_mono (Kd.R_far (p := ⟨gb345, 0, none⟩) (Kd.R_types HO337.out BK345.out (by decide)) (fun _ hk => hk.2) (.slice Ao192 t341.length co192)) (fun _ h_ => h_.1))) hb); have n5_ := Aside0.mk (Kd.R_below (by (with_reducible repeat (first | apply Kd.R_alloc | apply Kd.R_drewN | apply Kd.R_drew)); exact (Kd.R_mono (Kd.R_far (p := ⟨gb345, 0, none⟩) (Kd.R_types HO340.out BK345.out (by decide)) (fun _ hk => hk.2) (.slice Ao192 t341.length co192)) (fun _ h_ => h_.1))) hb); have n6_ := Aside0.mk (Kd.R_below (by (with_reducible repeat (first | apply Kd.R_alloc | apply Kd.R_drewN | apply Kd.R_drew)); exact (Kd.R_mono (Kd.R_far (p := ⟨gb345, 0, none⟩) (Kd.R_types HO343.out BK345.out (by decide)) (fun _ hk => hk.2) (.slice Ao192 t341.length co192)) (fun _ h_ => h_.1))) hb); have n7_ := Aside0.mk (blk_below (g := gb290) (o := .cells #[.slice A0_0 l0_0.length c0_0] 24 (0, 0)) (zf BK290.out) hb); have n8_ := Aside0.mk (blk_below (g := gb291) (o := .cells #[.slice A2_0 l2_0.length c2_0] 24 (0, 0)) (zf BK291.out) hb); have n9_ := Aside0.mk (blk_below (g := gb304) (o := .cells #[.slice Ao42 t300.length co42] 28 (0, 0)) (zf BK304.out) hb); have n10_ := Aside0.mk (blk_below (g := gb308) (o := .cells #[.slice Ao48 t328.length co48] 28 (0, 0)) (zf BK308.out) hb); have n11_ := Aside0.mk (blk_below (g := gb312) (o := .cells #[.slice Ao57 t330.length co57] 28 (0, 0)) (zf BK312.out) hb); have n12_ := Aside0.mk (blk_below (g := gb317) (o := .cells #[.slice Ao66 t313.length co66] 28 (0, 0)) (zf BK317.out) hb); have n13_ := Aside0.mk (blk_below (g := gb345) (o := .cells #[.slice Ao192 t341.length co192] 28 (0, 0)) (by (with_reducible repeat (first | refine blk_drewN ?_ _ | refine blk_drew ?_ | refine blk_alloc ?_ _)); refine blk_put (cs := #[.slice none 0 0]) ?_ 0 _ rfl; (with_reducible repeat (first | refine blk_drewN ?_ _ | refine blk_drew ?_ | refine blk_alloc ?_ _)); exact BK345.out) hb); have n14_ := Aside0.mk (below_step (zb HB.out) hb); clear HO_305000 HO_309000 HO_313000 HO_318000 HO337 HO340 HO343 BK290 BK291 BK304 BK308 BK312 BK317 BK345 HB; have HO_305000 := n0_; have HO_309000 := n1_; have HO_313000 := n2_; have HO_318000 := n3_; have HO337 := n4_; have HO340 := n5_; have HO343 := n6_; have BK290 := n7_; have BK291 := n8_; have BK304 := n9_; have BK308 := n10_; have BK312 := n11_; have BK317 := n12_; have BK345 := n13_; have HB := n14_; clear n0_ n1_ n2_ n3_ n4_ n5_ n6_ n7_ n8_ n9_ n10_ n11_ n12_ n13_ n14_; (try clear hb); (try clear hb2); (try clear hk); (try clear hi)))
      go_meet
      case rel => exact ⟨_, (true), (by first | rfl | (simp; done) | (simp [*]; done)), H', ⟨by have := HJ25.out; have := HJ107.out; first | omega | exact Nat.le_refl _⟩, ⟨by (try simp only [hl309000_107]); (try simp only [hl313000_107]); (with_reducible repeat (first | apply Kd.R_alloc | apply Kd.R_drewN | apply Kd.R_drew)); exact Kd.R_mono HO_305000.out (fun _ hk => ⟨hk.2.2.2.1, ⟨hk.2.2.2.2.1, ⟨hk.2.2.2.2.2, hk.2.2.1⟩⟩⟩)⟩, ⟨by (try simp only [hl309000_107]); (try simp only [hl313000_107]); (with_reducible repeat (first | apply Kd.R_alloc | apply Kd.R_drewN | apply Kd.R_drew)); exact Kd.R_mono HO_309000.out (fun _ hk => ⟨hk.2.2.2.1, ⟨hk.2.2.2.2.1, ⟨hk.2.2.2.2.2, hk.2.2.1⟩⟩⟩)⟩, ⟨by (try simp only [hl309000_107]); (try simp only [hl313000_107]); (with_reducible repeat (first | apply Kd.R_alloc | apply Kd.R_drewN | apply Kd.R_drew)); exact Kd.R_mono HO_313000.out (fun _ hk => ⟨hk.2.2.2.1, ⟨hk.2.2.2.2.1, ⟨hk.2.2.2.2.2, hk.2.2.1⟩⟩⟩)⟩, ⟨by (try simp only [hl309000_107]); (try simp only [hl313000_107]); (with_reducible repeat (first | apply Kd.R_alloc | apply Kd.R_drewN | apply Kd.R_drew)); exact Kd.R_mono HO_318000.out (fun _ hk => ⟨hk.2.2.2.1, ⟨hk.2.2.2.2.1, ⟨hk.2.2.2.2.2, hk.2.2.1⟩⟩⟩)⟩, ⟨by (try simp only [hl309000_107]); (try simp only [hl313000_107]); (with_reducible repeat (first | apply Kd.R_alloc | apply Kd.R_drewN | apply Kd.R_drew)); exact Kd.R_mono HO343.out (fun _ hk => ⟨hk.2.2.1, ⟨hk.2.2.2.1, ⟨hk.2.2.2.2.1, hk.2.2.2.2.2⟩⟩⟩)⟩, ⟨by (try simp only [hl309000_107]); (try simp only [hl313000_107]); (with_reducible repeat (first | refine blk_drewN ?_ _ | refine blk_drew ?_ | refine blk_alloc ?_ _)); exact BK290.out⟩, ⟨by (try simp only [hl309000_107]); (try simp only [hl313000_107]); (with_reducible repeat (first | refine blk_drewN ?_ _ | refine blk_drew ?_ | refine blk_alloc ?_ _)); exact BK291.out⟩, ⟨by (try simp only [hl309000_107]); (try simp only [hl313000_107]); (with_reducible repeat (first | refine blk_drewN ?_ _ | refine blk_drew ?_ | refine blk_alloc ?_ _)); exact BK304.out⟩, ⟨by (try simp only [hl309000_107]); (try simp only [hl313000_107]); (with_reducible repeat (first | refine blk_drewN ?_ _ | refine blk_drew ?_ | refine blk_alloc ?_ _)); exact BK308.out⟩, ⟨by (try simp only [hl309000_107]); (try simp only [hl313000_107]); (with_reducible repeat (first | refine blk_drewN ?_ _ | refine blk_drew ?_ | refine blk_alloc ?_ _)); exact BK312.out⟩, ⟨by (try simp only [hl309000_107]); (try simp only [hl313000_107]); (with_reducible repeat (first | refine blk_drewN ?_ _ | refine blk_drew ?_ | refine blk_alloc ?_ _)); exact BK317.out⟩, ⟨by (try simp only [hl309000_107]); (try simp only [hl313000_107]); (with_reducible repeat (first | refine blk_drewN ?_ _ | refine blk_drew ?_ | refine blk_alloc ?_ _)); exact BK345.out⟩, ⟨zb HB.out⟩⟩
     case rest =>
      clear HC174
      try clear c1
      try clear c2
      try clear p2
      try clear c9
      try clear c11
      try clear c15
      try clear c19
      try clear c20
      try clear c21
      try clear c22
      try clear c195
      try clear c196
      try clear c197
      try clear c198
      try clear c199
      try clear c200
      try clear c201
      try clear c203
      try clear c204
      try clear c205
      try clear c206
      try clear c207
      try clear c210
      try clear c211
      try clear c212
      try clear c213
      try clear c214
      try clear c215
      try clear c217
      try clear c218
      try clear c219
      try clear c220
      try clear c221
      try clear hcz202_0
      try clear hcz208_0
      try clear hcz216_0
      try clear hcz222_0
      try clear hfz202_0
      try clear hfz208_0
      try clear hfz216_0
      try clear hfz222_0
      obtain ⟨kq, x115_173, rfl, HA, HJ173, HO_305000, HO_309000, HO_313000, HO_318000, HO_346000, BK290, BK291, BK304, BK308, BK312, BK317, BK345, HB⟩ := hcut
      have hl318000_173 := (Kd.R_reads' HO_318000.out).1
      rw [hl318000_173] at HO_318000
      (try simp only [hl318000_173])
      (try simp only [hl318000_173] at BK290)
      (try simp only [hl318000_173] at BK291)
      (try simp only [hl318000_173] at BK304)
      (try simp only [hl318000_173] at BK308)
      (try simp only [hl318000_173] at BK312)
      (try simp only [hl318000_173] at BK317)
      (try simp only [hl318000_173] at BK345)
      (try simp only [hl318000_173] at HO_305000)
      (try simp only [hl318000_173] at HO_309000)
      (try simp only [hl318000_173] at HO_313000)
      (try simp only [hl318000_173] at HO_346000)
      cases kq with
      | zero => exact absurd HA.out (by simp [laws_FnExactTermMove.j2])
      | succ kj173 =>
       have H := HA.out
       clear HA
       simp only [laws_FnExactTermMove.j2] at H
       by_cases c224 : x115_173 = true
       ·subst c224
        have H1 : (some false) = some r := by rw [if_pos rfl] at H; exact H
        clear H
        have H := H1
        clear H1
        obtain rfl := Option.some.inj H
        go_wp2
        go_ret
        exact ⟨ze, zb HB.out⟩
       replace c224 := Bool.eq_false_iff.mpr c224
       subst c224
       have H1 : ((laws_heldPool.f kj173 t333 1).bind fun t347 => (if t347 < 0 then (some false) else (if t347 = t332 then (some true) else (some false)))) = some r := by rw [if_neg (show ¬ (false = true) by decide)] at H; exact H
       clear H
       have H := H1
       clear H1
       replace H := Option.bind_eq_some_iff.mp H
       obtain ⟨t347, A2250, H⟩ := H
       replace H : (if t347 < 0 then (some false) else (if t347 = t332 then (some true) else (some false))) = some r := H
       have A225 := Aside0.mk A2250
       clear A2250
       by_cases c226 : t347 < 0
       ·rw [if_pos c226] at H
        have c226b0 : decide (t347 < 0) = true := decide_eq_true c226
        clear c226
        obtain rfl := Option.some.inj H
        have hnb227 := NB317_290.out
        have hnc227 := NB290_317.out
        have hnb228 := NB317_291.out
        have hnc228 := NB291_317.out
        have hnb229 := NB317_304.out
        have hnc229 := NB304_317.out
        have hnb230 := NB317_308.out
        have hnc230 := NB308_317.out
        have hnb231 := NB317_312.out
        have hnc231 := NB312_317.out
        have hnb232 := NB317_345.out
        have hnc232 := NB345_317.out
        have hcz233_0 : wc.cell? ⟨gb317, 0, none⟩ = some (.slice Ao66 t333.length co66) := (blk_cell BK317.out 0).trans rfl
        have hfz233_0 := blk_frozen BK317.out 0
        go_wp2_with (first | ((with_reducible refine gate_callee (f := 13) rfl ?_); refine goesL_ (some 118) rfl rfl Try.func13 (by kernel_rfl) rfl #[.agg #[.slice Ao66 t333.length co66], .int .i64 1] rfl zl ?_; (with_reducible refine (laws_heldPool.calls kj173 _ _ t333 1 t347 _ ?side1 ?side2 A225.out).mono ?_); (case side1 => exact zc (Kd.R_reads' HO_318000.out).2.2); (case side2 => exact (Kd.R_reads' HO_318000.out).2.1); rintro e w234 ⟨rfl, hb⟩; refine ⟨_, rfl, ?_⟩; have n0_ := Aside0.mk (Kd.R_below (zr HO_305000.out) hb); have n1_ := Aside0.mk (Kd.R_below (zr HO_309000.out) hb); have n2_ := Aside0.mk (Kd.R_below (zr HO_313000.out) hb); have n3_ := Aside0.mk (Kd.R_below (zr HO_318000.out) hb); have n4_ := Aside0.mk (Kd.R_below (zr HO_346000.out) hb); have n5_ := Aside0.mk (blk_below (zh BK290.out) hb); have n6_ := Aside0.mk (blk_below (zh BK291.out) hb); have n7_ := Aside0.mk (blk_below (zh BK304.out) hb); have n8_ := Aside0.mk (blk_below (zh BK308.out) hb); have n9_ := Aside0.mk (blk_below (zh BK312.out) hb); have n10_ := Aside0.mk (blk_below (zh BK317.out) hb); have n11_ := Aside0.mk (blk_below (zh BK345.out) hb); have n12_ := Aside0.mk (below_step (zb HB.out) hb); clear HO_305000 HO_309000 HO_313000 HO_318000 HO_346000 BK290 BK291 BK304 BK308 BK312 BK317 BK345 HB; have HO_305000 := n0_; have HO_309000 := n1_; have HO_313000 := n2_; have HO_318000 := n3_; have HO_346000 := n4_; have BK290 := n5_; have BK291 := n6_; have BK304 := n7_; have BK308 := n8_; have BK312 := n9_; have BK317 := n10_; have BK345 := n11_; have HB := n12_; clear n0_ n1_ n2_ n3_ n4_ n5_ n6_ n7_ n8_ n9_ n10_ n11_ n12_; (try clear hb); (try clear hb2); (try clear hk); (try clear hi)))
        go_ret
        exact ⟨ze, zb HB.out⟩
       rw [if_neg c226] at H
       have c226b0 : decide (t347 < 0) = false := decide_eq_false c226
       clear c226
       by_cases c235 : t347 = t332
       rotate_left
       ·rw [if_neg c235] at H
        have c235b0 : (t347 == t332) = false := beq_eq_false_iff_ne.mpr c235
        have c235b1 : (t347 != t332) = true := bne_iff_ne.mpr c235
        obtain rfl := Option.some.inj H
        have hnb244 := NB317_290.out
        have hnc244 := NB290_317.out
        have hnb245 := NB317_291.out
        have hnc245 := NB291_317.out
        have hnb246 := NB317_304.out
        have hnc246 := NB304_317.out
        have hnb247 := NB317_308.out
        have hnc247 := NB308_317.out
        have hnb248 := NB317_312.out
        have hnc248 := NB312_317.out
        have hnb249 := NB317_345.out
        have hnc249 := NB345_317.out
        have hcz250_0 : wc.cell? ⟨gb317, 0, none⟩ = some (.slice Ao66 t333.length co66) := (blk_cell BK317.out 0).trans rfl
        have hfz250_0 := blk_frozen BK317.out 0
        go_wp2_with (first | ((with_reducible refine gate_callee (f := 13) rfl ?_); refine goesL_ (some 118) rfl rfl Try.func13 (by kernel_rfl) rfl #[.agg #[.slice Ao66 t333.length co66], .int .i64 1] rfl zl ?_; (with_reducible refine (laws_heldPool.calls kj173 _ _ t333 1 t347 _ ?side1 ?side2 A225.out).mono ?_); (case side1 => exact zc (Kd.R_reads' HO_318000.out).2.2); (case side2 => exact (Kd.R_reads' HO_318000.out).2.1); rintro e w251 ⟨rfl, hb⟩; refine ⟨_, rfl, ?_⟩; have n0_ := Aside0.mk (Kd.R_below (zr HO_305000.out) hb); have n1_ := Aside0.mk (Kd.R_below (zr HO_309000.out) hb); have n2_ := Aside0.mk (Kd.R_below (zr HO_313000.out) hb); have n3_ := Aside0.mk (Kd.R_below (zr HO_318000.out) hb); have n4_ := Aside0.mk (Kd.R_below (zr HO_346000.out) hb); have n5_ := Aside0.mk (blk_below (zh BK290.out) hb); have n6_ := Aside0.mk (blk_below (zh BK291.out) hb); have n7_ := Aside0.mk (blk_below (zh BK304.out) hb); have n8_ := Aside0.mk (blk_below (zh BK308.out) hb); have n9_ := Aside0.mk (blk_below (zh BK312.out) hb); have n10_ := Aside0.mk (blk_below (zh BK317.out) hb); have n11_ := Aside0.mk (blk_below (zh BK345.out) hb); have n12_ := Aside0.mk (below_step (zb HB.out) hb); clear HO_305000 HO_309000 HO_313000 HO_318000 HO_346000 BK290 BK291 BK304 BK308 BK312 BK317 BK345 HB; have HO_305000 := n0_; have HO_309000 := n1_; have HO_313000 := n2_; have HO_318000 := n3_; have HO_346000 := n4_; have BK290 := n5_; have BK291 := n6_; have BK304 := n7_; have BK308 := n8_; have BK312 := n9_; have BK317 := n10_; have BK345 := n11_; have HB := n12_; clear n0_ n1_ n2_ n3_ n4_ n5_ n6_ n7_ n8_ n9_ n10_ n11_ n12_; (try clear hb); (try clear hb2); (try clear hk); (try clear hi)))
        go_ret
        exact ⟨ze, zb HB.out⟩
       rw [if_pos c235] at H
       have c235b0 : (t347 == t332) = true := beq_iff_eq.mpr c235
       have c235b1 : (t347 != t332) = false := bne_eq_false_iff_eq.mpr c235
       clear c235
       obtain rfl := Option.some.inj H
       have hnb236 := NB317_290.out
       have hnc236 := NB290_317.out
       have hnb237 := NB317_291.out
       have hnc237 := NB291_317.out
       have hnb238 := NB317_304.out
       have hnc238 := NB304_317.out
       have hnb239 := NB317_308.out
       have hnc239 := NB308_317.out
       have hnb240 := NB317_312.out
       have hnc240 := NB312_317.out
       have hnb241 := NB317_345.out
       have hnc241 := NB345_317.out
       have hcz242_0 : wc.cell? ⟨gb317, 0, none⟩ = some (.slice Ao66 t333.length co66) := (blk_cell BK317.out 0).trans rfl
       have hfz242_0 := blk_frozen BK317.out 0
       go_wp2_with (first | ((with_reducible refine gate_callee (f := 13) rfl ?_); refine goesL_ (some 118) rfl rfl Try.func13 (by kernel_rfl) rfl #[.agg #[.slice Ao66 t333.length co66], .int .i64 1] rfl zl ?_; (with_reducible refine (laws_heldPool.calls kj173 _ _ t333 1 t347 _ ?side1 ?side2 A225.out).mono ?_); (case side1 => exact zc (Kd.R_reads' HO_318000.out).2.2); (case side2 => exact (Kd.R_reads' HO_318000.out).2.1); rintro e w243 ⟨rfl, hb⟩; refine ⟨_, rfl, ?_⟩; have n0_ := Aside0.mk (Kd.R_below (zr HO_305000.out) hb); have n1_ := Aside0.mk (Kd.R_below (zr HO_309000.out) hb); have n2_ := Aside0.mk (Kd.R_below (zr HO_313000.out) hb); have n3_ := Aside0.mk (Kd.R_below (zr HO_318000.out) hb); have n4_ := Aside0.mk (Kd.R_below (zr HO_346000.out) hb); have n5_ := Aside0.mk (blk_below (zh BK290.out) hb); have n6_ := Aside0.mk (blk_below (zh BK291.out) hb); have n7_ := Aside0.mk (blk_below (zh BK304.out) hb); have n8_ := Aside0.mk (blk_below (zh BK308.out) hb); have n9_ := Aside0.mk (blk_below (zh BK312.out) hb); have n10_ := Aside0.mk (blk_below (zh BK317.out) hb); have n11_ := Aside0.mk (blk_below (zh BK345.out) hb); have n12_ := Aside0.mk (below_step (zb HB.out) hb); clear HO_305000 HO_309000 HO_313000 HO_318000 HO_346000 BK290 BK291 BK304 BK308 BK312 BK317 BK345 HB; have HO_305000 := n0_; have HO_309000 := n1_; have HO_313000 := n2_; have HO_318000 := n3_; have HO_346000 := n4_; have BK290 := n5_; have BK291 := n6_; have BK304 := n7_; have BK308 := n8_; have BK312 := n9_; have BK317 := n10_; have BK345 := n11_; have HB := n12_; clear n0_ n1_ n2_ n3_ n4_ n5_ n6_ n7_ n8_ n9_ n10_ n11_ n12_; (try clear hb); (try clear hb2); (try clear hk); (try clear hi)))
       go_ret
       exact ⟨ze, zb HB.out⟩
end Go.Proofs.Ytobkledmbnacjaa.MV
end
