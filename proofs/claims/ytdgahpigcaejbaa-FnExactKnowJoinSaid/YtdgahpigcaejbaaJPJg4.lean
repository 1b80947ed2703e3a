import Derived.Test.YtdgahpigcaejbaaJPJ0
import Derived.Test.YtdgahpigcaejbaaJPJg0
import Derived.Test.YtdgahpigcaejbaaJPJg2
import Derived.Test.YtdgahpigcaejbaaJPJg3
section
-- Written by this session's program (wip/tools/gprint.py over the kit's print) out of the translation; Lean checks it.
namespace Go.Proofs.Ytdgahpigcaejbaa.J
open Go.RowKit Go.Proofs.YtdgahpigcaejbaaW.PrintWords Go.Proofs.YtdgahpigcaejbaaW.PrintLast Go.Proofs.YtdgahpigcaejbaaW.PrintMore
attribute [local go_sem] max2_int min2_int max_two min_two max_three min_three max_four min_four   -- for this text's walks alone
set_option linter.unusedVariables false
set_option linter.unusedSimpArgs false
set_option maxRecDepth 100000

/-! ### laws_FnExactKnowJoin: function 6 -/
mutual
def laws_FnExactKnowJoin.j0 : Nat → List Int → List Int → List Int → Bool → List Int → List Int → List Int → Bool → Bool → List (S83) → List (S44) → Option (Bool)
 | 0, _, _, _, _, _, _, _, _, _, _, _ => none
 | k + 1, x1, x2, x8, x9, x11, x12, x13, x14, x62, x242000, x260000 => if x62 = true then (some false) else ((laws_toPool.f k x242000).bind fun t271 => ((laws_eqPool.f k x260000 t271).bind fun t274 => (if t274 = true then ((laws_toIntS.f k x1).bind fun t275 => ((laws_eqIntS.f k x11 t275).bind fun t278 => (if t278 = true then ((laws_toIntS.f k x2).bind fun t279 => ((laws_eqIntS.f k x12 t279).bind fun t282 => (if t282 = true then ((laws_markPool.f k x260000 1).bind fun bt283 => ((laws_markIntS.f k x11 bt283.1).bind fun bt285 => ((laws_markIntS.f k x12 bt285.1).bind fun bt287 => (if bt287.1 < 0 then (laws_FnExactKnowJoin.j1 k x1 x2 x8 x9 x13 true x242000) else ((laws_eqIntS.f k x13 x8).bind fun t289 => (if t289 = true then (laws_FnExactKnowJoin.j1 k x1 x2 x8 x9 x13 (x14 != x9) x242000) else (laws_FnExactKnowJoin.j1 k x1 x2 x8 x9 x13 true x242000))))))) else (some false)))) else (some false)))) else (some false))))
def laws_FnExactKnowJoin.j1 : Nat → List Int → List Int → List Int → Bool → List Int → Bool → List (S83) → Option (Bool)
 | 0, _, _, _, _, _, _, _ => none
 | k + 1, x1, x2, x8, x9, x13, x99, x242000 => if x99 = true then (some false) else ((laws_markIntS.f k x13 1).bind fun bt290 => ((laws_heldIntS.f k bt290.2 1).bind fun t292 => (if t292 < 0 then (some false) else (if t292 = bt290.1 then ((laws_toPool.f k x242000).bind fun t293 => ((laws_toIntS.f k x1).bind fun t296 => ((laws_toIntS.f k x2).bind fun t299 => ((impl_KnowJoin.f k t293 t296 t299).bind fun bt302 => ((laws_eqIntS.f k bt302.1 x8).bind fun t306 => (if t306 = true then (laws_FnExactKnowJoin.j2 k bt290.2 bt290.1 (bt302.2 != x9)) else (laws_FnExactKnowJoin.j2 k bt290.2 bt290.1 true))))))) else (some false)))))
def laws_FnExactKnowJoin.j2 : Nat → List Int → Int → Bool → Option (Bool)
 | 0, _, _, _ => none
 | k + 1, x13, x16, x129 => if x129 = true then (some false) else ((laws_heldIntS.f k x13 1).bind fun t307 => (if t307 < 0 then (some false) else (if t307 = x16 then (some true) else (some false))))
end
def laws_FnExactKnowJoin.f (k : Nat) (l0_0 : List (S83)) (l1 : List Int) (l2 : List Int) : Option (Bool) := if (l1.length : Int) > 1048576 then (some true) else (if (l2.length : Int) > 1048576 then (some true) else ((laws_szPool.f l0_0 1048576).bind fun t242 => (if t242 < 0 then (some true) else ((laws_toPool.f k l0_0).bind fun t243 => ((laws_toIntS.f k l1).bind fun t246 => ((laws_toIntS.f k l2).bind fun t249 => ((spec_KnowJoin.f k t243 t246 t249).bind fun bt252 => ((laws_toPool.f k l0_0).bind fun t256 => ((laws_toIntS.f k l1).bind fun t260 => ((laws_toIntS.f k l2).bind fun t263 => ((impl_KnowJoin.f k t256 t260 t263).bind fun bt266 => ((laws_eqIntS.f k bt266.1 bt252.1).bind fun t270 => (if t270 = true then (laws_FnExactKnowJoin.j0 k l1 l2 bt252.1 bt252.2 t260 t263 bt266.1 bt266.2 (bt266.2 != bt252.2) l0_0 t256) else (laws_FnExactKnowJoin.j0 k l1 l2 bt252.1 bt252.2 t260 t263 bt266.1 bt266.2 true l0_0 t256))))))))))))))
theorem laws_FnExactKnowJoin.mono_l : ∀ k, (∀ y0 y1 y2 y3 y4 y5 y6 y7 y8 y9 y10, LeO (laws_FnExactKnowJoin.j0 k y0 y1 y2 y3 y4 y5 y6 y7 y8 y9 y10) (laws_FnExactKnowJoin.j0 (k + 1) y0 y1 y2 y3 y4 y5 y6 y7 y8 y9 y10)) ∧ (∀ y0 y1 y2 y3 y4 y5 y6, LeO (laws_FnExactKnowJoin.j1 k y0 y1 y2 y3 y4 y5 y6) (laws_FnExactKnowJoin.j1 (k + 1) y0 y1 y2 y3 y4 y5 y6)) ∧ (∀ y0 y1 y2, LeO (laws_FnExactKnowJoin.j2 k y0 y1 y2) (laws_FnExactKnowJoin.j2 (k + 1) y0 y1 y2))
 | 0 => ⟨fun _ _ _ _ _ _ _ _ _ _ _ r h => by simp [laws_FnExactKnowJoin.j0] at h, fun _ _ _ _ _ _ _ r h => by simp [laws_FnExactKnowJoin.j1] at h, fun _ _ _ r h => by simp [laws_FnExactKnowJoin.j2] at h⟩
 | k + 1 => by
  obtain ⟨ih0, ih1, ih2⟩ := laws_FnExactKnowJoin.mono_l k
  refine ⟨?_, ?_, ?_⟩
  ·intro y0 y1 y2 y3 y4 y5 y6 y7 y8 y9 y10
   unfold laws_FnExactKnowJoin.j0
   repeat' first
   | (with_reducible exact ih0 _ _ _ _ _ _ _ _ _ _ _)
   | (with_reducible exact ih1 _ _ _ _ _ _ _)
   | (with_reducible exact ih2 _ _ _)
   | (with_reducible exact impl_KnowJoin.mono _ _ _ _)
   | (with_reducible exact laws_eqIntS.mono _ _ _)
   | (with_reducible exact laws_eqPool.mono _ _ _)
   | (with_reducible exact laws_heldIntS.mono _ _ _)
   | (with_reducible exact laws_markIntS.mono _ _ _)
   | (with_reducible exact laws_markPool.mono _ _ _)
   | (with_reducible exact laws_toIntS.mono _ _)
   | (with_reducible exact laws_toPool.mono _ _)
   | (with_reducible exact spec_KnowJoin.mono _ _ _ _)
   | (with_reducible exact LeO.refl _)
   | (with_reducible exact LeO.none _)
   | (with_reducible refine LeO.ite ?_ ?_)
   | (with_reducible refine LeO.bind ?_ (fun _ => ?_))
   | exact ih0 _ _ _ _ _ _ _ _ _ _ _
   | exact ih1 _ _ _ _ _ _ _
   | exact ih2 _ _ _
   | exact impl_KnowJoin.mono _ _ _ _
   | exact laws_eqIntS.mono _ _ _
   | exact laws_eqPool.mono _ _ _
   | exact laws_heldIntS.mono _ _ _
   | exact laws_markIntS.mono _ _ _
   | exact laws_markPool.mono _ _ _
   | exact laws_toIntS.mono _ _
   | exact laws_toPool.mono _ _
   | exact spec_KnowJoin.mono _ _ _ _
   | exact LeO.none _
   | refine LeO.ite ?_ ?_
   | refine LeO.bind ?_ (fun _ => ?_)
  ·intro y0 y1 y2 y3 y4 y5 y6
   unfold laws_FnExactKnowJoin.j1
   repeat' first
   | (with_reducible exact ih0 _ _ _ _ _ _ _ _ _ _ _)
   | (with_reducible exact ih1 _ _ _ _ _ _ _)
   | (with_reducible exact ih2 _ _ _)
   | (with_reducible exact impl_KnowJoin.mono _ _ _ _)
   | (with_reducible exact laws_eqIntS.mono _ _ _)
   | (with_reducible exact laws_eqPool.mono _ _ _)
   | (with_reducible exact laws_heldIntS.mono _ _ _)
   | (with_reducible exact laws_markIntS.mono _ _ _)
   | (with_reducible exact laws_markPool.mono _ _ _)
   | (with_reducible exact laws_toIntS.mono _ _)
   | (with_reducible exact laws_toPool.mono _ _)
   | (with_reducible exact spec_KnowJoin.mono _ _ _ _)
   | (with_reducible exact LeO.refl _)
   | (with_reducible exact LeO.none _)
   | (with_reducible refine LeO.ite ?_ ?_)
   | (with_reducible refine LeO.bind ?_ (fun _ => ?_))
   | exact ih0 _ _ _ _ _ _ _ _ _ _ _
   | exact ih1 _ _ _ _ _ _ _
   | exact ih2 _ _ _
   | exact impl_KnowJoin.mono _ _ _ _
   | exact laws_eqIntS.mono _ _ _
   | exact laws_eqPool.mono _ _ _
   | exact laws_heldIntS.mono _ _ _
   | exact laws_markIntS.mono _ _ _
   | exact laws_markPool.mono _ _ _
   | exact laws_toIntS.mono _ _
   | exact laws_toPool.mono _ _
   | exact spec_KnowJoin.mono _ _ _ _
   | exact LeO.none _
   | refine LeO.ite ?_ ?_
   | refine LeO.bind ?_ (fun _ => ?_)
  ·intro y0 y1 y2
   unfold laws_FnExactKnowJoin.j2
   repeat' first
   | (with_reducible exact ih0 _ _ _ _ _ _ _ _ _ _ _)
   | (with_reducible exact ih1 _ _ _ _ _ _ _)
   | (with_reducible exact ih2 _ _ _)
   | (with_reducible exact impl_KnowJoin.mono _ _ _ _)
   | (with_reducible exact laws_eqIntS.mono _ _ _)
   | (with_reducible exact laws_eqPool.mono _ _ _)
   | (with_reducible exact laws_heldIntS.mono _ _ _)
   | (with_reducible exact laws_markIntS.mono _ _ _)
   | (with_reducible exact laws_markPool.mono _ _ _)
   | (with_reducible exact laws_toIntS.mono _ _)
   | (with_reducible exact laws_toPool.mono _ _)
   | (with_reducible exact spec_KnowJoin.mono _ _ _ _)
   | (with_reducible exact LeO.refl _)
   | (with_reducible exact LeO.none _)
   | (with_reducible refine LeO.ite ?_ ?_)
   | (with_reducible refine LeO.bind ?_ (fun _ => ?_))
   | exact ih0 _ _ _ _ _ _ _ _ _ _ _
   | exact ih1 _ _ _ _ _ _ _
   | exact ih2 _ _ _
   | exact impl_KnowJoin.mono _ _ _ _
   | exact laws_eqIntS.mono _ _ _
   | exact laws_eqPool.mono _ _ _
   | exact laws_heldIntS.mono _ _ _
   | exact laws_markIntS.mono _ _ _
   | exact laws_markPool.mono _ _ _
   | exact laws_toIntS.mono _ _
   | exact laws_toPool.mono _ _
   | exact spec_KnowJoin.mono _ _ _ _
   | exact LeO.none _
   | refine LeO.ite ?_ ?_
   | refine LeO.bind ?_ (fun _ => ?_)
theorem laws_FnExactKnowJoin.mono : ∀ a0 a1 a2 k, LeO (laws_FnExactKnowJoin.f k a0 a1 a2) (laws_FnExactKnowJoin.f (k + 1) a0 a1 a2) := by
 intro a0 a1 a2 k
 obtain ⟨ih0, ih1, ih2⟩ := laws_FnExactKnowJoin.mono_l k
 unfold laws_FnExactKnowJoin.f
 repeat' first
   | (with_reducible exact ih0 _ _ _ _ _ _ _ _ _ _ _)
   | (with_reducible exact ih1 _ _ _ _ _ _ _)
   | (with_reducible exact ih2 _ _ _)
   | (with_reducible exact impl_KnowJoin.mono _ _ _ _)
   | (with_reducible exact laws_eqIntS.mono _ _ _)
   | (with_reducible exact laws_eqPool.mono _ _ _)
   | (with_reducible exact laws_heldIntS.mono _ _ _)
   | (with_reducible exact laws_markIntS.mono _ _ _)
   | (with_reducible exact laws_markPool.mono _ _ _)
   | (with_reducible exact laws_toIntS.mono _ _)
   | (with_reducible exact laws_toPool.mono _ _)
   | (with_reducible exact spec_KnowJoin.mono _ _ _ _)
   | (with_reducible exact LeO.refl _)
   | (with_reducible exact LeO.none _)
   | (with_reducible refine LeO.ite ?_ ?_)
   | (with_reducible refine LeO.bind ?_ (fun _ => ?_))
   | exact ih0 _ _ _ _ _ _ _ _ _ _ _
   | exact ih1 _ _ _ _ _ _ _
   | exact ih2 _ _ _
   | exact impl_KnowJoin.mono _ _ _ _
   | exact laws_eqIntS.mono _ _ _
   | exact laws_eqPool.mono _ _ _
   | exact laws_heldIntS.mono _ _ _
   | exact laws_markIntS.mono _ _ _
   | exact laws_markPool.mono _ _ _
   | exact laws_toIntS.mono _ _
   | exact laws_toPool.mono _ _
   | exact spec_KnowJoin.mono _ _ _ _
   | exact LeO.none _
   | refine LeO.ite ?_ ?_
   | refine LeO.bind ?_ (fun _ => ?_)
set_option maxHeartbeats 8000000 in
set_option maxRecDepth 100000 in
theorem laws_FnExactKnowJoin.calls (k : Nat) (A0_0 : Option Addr) (c0_0 : Nat) (l0_0 : List (S83)) (A1 : Option Addr) (c1 : Nat) (l1 : List Int) (A2 : Option Addr) (c2 : Nat) (l2 : List Int) (r : Bool) (w : World) (hr0_0 : Kd.C k83 w A0_0 l0_0.length l0_0) (hc0_0 : l0_0.length ≤ c0_0) (hr1 : Kd.C (Kd.int .i64) w A1 l1.length l1) (hc1 : l1.length ≤ c1) (hr2 : Kd.C (Kd.int .i64) w A2 l2.length l2) (hc2 : l2.length ≤ c2) (h : laws_FnExactKnowJoin.f k l0_0 l1 l2 = some r) :
  Calls Try.prog 6 #[.agg #[.slice A0_0 l0_0.length c0_0], .slice A1 l1.length c1, .slice A2 l2.length c2] w fun e w' => e = .returned (.bool r) ∧ Below w.heap.size w w' := by
 have hu24 := Try.underlying24
 have hu30 := Try.underlying30
 have HR0_0 := Aside0.mk hr0_0
 have HC0_0 := Aside0.mk hc0_0
 clear hr0_0 hc0_0
 have HR1 := Aside0.mk hr1
 have HC1 := Aside0.mk hc1
 clear hr1 hc1
 have HR2 := Aside0.mk hr2
 have HC2 := Aside0.mk hc2
 clear hr2 hc2
 have HB := Aside0.mk (Below.refl w.heap.size w)
 have H : (if (l1.length : Int) > 1048576 then (some true) else (if (l2.length : Int) > 1048576 then (some true) else ((laws_szPool.f l0_0 1048576).bind fun t242 => (if t242 < 0 then (some true) else ((laws_toPool.f k l0_0).bind fun t243 => ((laws_toIntS.f k l1).bind fun t246 => ((laws_toIntS.f k l2).bind fun t249 => ((spec_KnowJoin.f k t243 t246 t249).bind fun bt252 => ((laws_toPool.f k l0_0).bind fun t256 => ((laws_toIntS.f k l1).bind fun t260 => ((laws_toIntS.f k l2).bind fun t263 => ((impl_KnowJoin.f k t256 t260 t263).bind fun bt266 => ((laws_eqIntS.f k bt266.1 bt252.1).bind fun t270 => (if t270 = true then (laws_FnExactKnowJoin.j0 k l1 l2 bt252.1 bt252.2 t260 t263 bt266.1 bt266.2 (bt266.2 != bt252.2) l0_0 t256) else (laws_FnExactKnowJoin.j0 k l1 l2 bt252.1 bt252.2 t260 t263 bt266.1 bt266.2 true l0_0 t256))))))))))))))) = some r := h
 clear h
 by_cases c4 : (l1.length : Int) > 1048576
 ·rw [if_pos c4] at H
  have c4b0 : decide (1048576 < (l1.length : Int)) = true := decide_eq_true c4
  have c4b1 : decide (1048576 < l1.length) = true := decide_eq_true (by omega)
  clear c4
  obtain rfl := Option.some.inj H
  go_enter Try.func6, Try.ntmps6
  go_wp2_with (first | ((with_reducible refine gate_dst (N := 3) rfl ?_); refine box_event ?hg (N := 3) ?hd (cs := #[.slice A0_0 l0_0.length c0_0]) (t := 24) ?hr ?_; (case hd => rfl); (case hg => rfl); (case hr => first | (go_simp; done) | (go_simp; rfl)); intro gb241 hg w5 hbox hb; have n0_ := Aside0.mk (below_step (zb HB.out) hb); have n1_ := Aside0.mk (hbox); have n2_ := Aside0.mk ((by rw [hg]; exact (below_size (zb HB.out)) : w.heap.size ≤ gb241)); have n3_ := Aside0.mk ((by rw [hg]; exact (below_size (zb HB.out)) : w.heap.size ≤ gb241)); clear HB; have HB := n0_; have BK241 := n1_; have GW241 := n2_; have GE241 := n3_; clear n0_ n1_ n2_ n3_; clear hb hbox hg))
  go_ret
  exact ⟨ze, zb HB.out⟩
 ·rw [if_neg c4] at H
  have c4b0 : decide (1048576 < (l1.length : Int)) = false := decide_eq_false c4
  have c4b1 : decide (1048576 < l1.length) = false := decide_eq_false (by omega)
  clear c4
  by_cases c6 : (l2.length : Int) > 1048576
  ·rw [if_pos c6] at H
   have c6b0 : decide (1048576 < (l2.length : Int)) = true := decide_eq_true c6
   have c6b1 : decide (1048576 < l2.length) = true := decide_eq_true (by omega)
   clear c6
   obtain rfl := Option.some.inj H
   go_enter Try.func6, Try.ntmps6
   go_wp2_with (first | ((with_reducible refine gate_dst (N := 3) rfl ?_); refine box_event ?hg (N := 3) ?hd (cs := #[.slice A0_0 l0_0.length c0_0]) (t := 24) ?hr ?_; (case hd => rfl); (case hg => rfl); (case hr => first | (go_simp; done) | (go_simp; rfl)); intro gb241 hg w7 hbox hb; have n0_ := Aside0.mk (below_step (zb HB.out) hb); have n1_ := Aside0.mk (hbox); have n2_ := Aside0.mk ((by rw [hg]; exact (below_size (zb HB.out)) : w.heap.size ≤ gb241)); have n3_ := Aside0.mk ((by rw [hg]; exact (below_size (zb HB.out)) : w.heap.size ≤ gb241)); clear HB; have HB := n0_; have BK241 := n1_; have GW241 := n2_; have GE241 := n3_; clear n0_ n1_ n2_ n3_; clear hb hbox hg))
   go_ret
   exact ⟨ze, zb HB.out⟩
  ·rw [if_neg c6] at H
   have c6b0 : decide (1048576 < (l2.length : Int)) = false := decide_eq_false c6
   have c6b1 : decide (1048576 < l2.length) = false := decide_eq_false (by omega)
   clear c6
   replace H := Option.bind_eq_some_iff.mp H
   obtain ⟨t242, A80, H⟩ := H
   replace H : (if t242 < 0 then (some true) else ((laws_toPool.f k l0_0).bind fun t243 => ((laws_toIntS.f k l1).bind fun t246 => ((laws_toIntS.f k l2).bind fun t249 => ((spec_KnowJoin.f k t243 t246 t249).bind fun bt252 => ((laws_toPool.f k l0_0).bind fun t256 => ((laws_toIntS.f k l1).bind fun t260 => ((laws_toIntS.f k l2).bind fun t263 => ((impl_KnowJoin.f k t256 t260 t263).bind fun bt266 => ((laws_eqIntS.f k bt266.1 bt252.1).bind fun t270 => (if t270 = true then (laws_FnExactKnowJoin.j0 k l1 l2 bt252.1 bt252.2 t260 t263 bt266.1 bt266.2 (bt266.2 != bt252.2) l0_0 t256) else (laws_FnExactKnowJoin.j0 k l1 l2 bt252.1 bt252.2 t260 t263 bt266.1 bt266.2 true l0_0 t256)))))))))))) = some r := H
   have A8 := Aside0.mk A80
   clear A80
   by_cases c9 : t242 < 0
   ·rw [if_pos c9] at H
    have c9b0 : decide (t242 < 0) = true := decide_eq_true c9
    clear c9
    obtain rfl := Option.some.inj H
    go_enter Try.func6, Try.ntmps6
    go_wp2_with (first | ((with_reducible refine gate_dst (N := 3) rfl ?_); refine box_event ?hg (N := 3) ?hd (cs := #[.slice A0_0 l0_0.length c0_0]) (t := 24) ?hr ?_; (case hd => rfl); (case hg => rfl); (case hr => first | (go_simp; done) | (go_simp; rfl)); intro gb241 hg w10 hbox hb; have n0_ := Aside0.mk (below_step (zb HB.out) hb); have n1_ := Aside0.mk (hbox); have n2_ := Aside0.mk ((by rw [hg]; exact (below_size (zb HB.out)) : w.heap.size ≤ gb241)); have n3_ := Aside0.mk ((by rw [hg]; exact (below_size (zb HB.out)) : w.heap.size ≤ gb241)); clear HB; have HB := n0_; have BK241 := n1_; have GW241 := n2_; have GE241 := n3_; clear n0_ n1_ n2_ n3_; clear hb hbox hg; have hcz11_0 : w10.cell? ⟨gb241, 0, none⟩ = some (.slice A0_0 l0_0.length c0_0) := (blk_cell BK241.out 0).trans rfl; have hfz11_0 := blk_frozen BK241.out 0) | ((with_reducible refine gate_callee (f := 9) rfl ?_); refine goesL_ (some 28) rfl rfl Try.func9 (by kernel_rfl) rfl #[.agg #[.slice A0_0 l0_0.length c0_0], .int .i64 1048576] rfl zl ?_; (with_reducible refine (laws_szPool.calls _ _ l0_0 1048576 t242 _ ?side1 ?side2 A8.out).mono ?_); (case side1 => exact zc (Kd.C_below HR0_0.out HB.out)); (case side2 => exact HC0_0.out); rintro e w12 ⟨rfl, hb⟩; refine ⟨_, rfl, ?_⟩; have n0_ := Aside0.mk (blk_below (zh BK241.out) hb); have n1_ := Aside0.mk (below_step (zb HB.out) hb); clear BK241; clear HB; have BK241 := n0_; have HB := n1_; clear n0_ n1_; (try clear hb); (try clear hb2); (try clear hk); (try clear hi)))
    go_ret
    exact ⟨ze, zb HB.out⟩
   ·rw [if_neg c9] at H
    have c9b0 : decide (t242 < 0) = false := decide_eq_false c9
    clear c9
    replace H := Option.bind_eq_some_iff.mp H
    obtain ⟨t243, A130, H⟩ := H
    replace H : ((laws_toIntS.f k l1).bind fun t246 => ((laws_toIntS.f k l2).bind fun t249 => ((spec_KnowJoin.f k t243 t246 t249).bind fun bt252 => ((laws_toPool.f k l0_0).bind fun t256 => ((laws_toIntS.f k l1).bind fun t260 => ((laws_toIntS.f k l2).bind fun t263 => ((impl_KnowJoin.f k t256 t260 t263).bind fun bt266 => ((laws_eqIntS.f k bt266.1 bt252.1).bind fun t270 => (if t270 = true then (laws_FnExactKnowJoin.j0 k l1 l2 bt252.1 bt252.2 t260 t263 bt266.1 bt266.2 (bt266.2 != bt252.2) l0_0 t256) else (laws_FnExactKnowJoin.j0 k l1 l2 bt252.1 bt252.2 t260 t263 bt266.1 bt266.2 true l0_0 t256)))))))))) = some r := H
    have A13 := Aside0.mk A130
    clear A130
    replace H := Option.bind_eq_some_iff.mp H
    obtain ⟨t246, A140, H⟩ := H
    replace H : ((laws_toIntS.f k l2).bind fun t249 => ((spec_KnowJoin.f k t243 t246 t249).bind fun bt252 => ((laws_toPool.f k l0_0).bind fun t256 => ((laws_toIntS.f k l1).bind fun t260 => ((laws_toIntS.f k l2).bind fun t263 => ((impl_KnowJoin.f k t256 t260 t263).bind fun bt266 => ((laws_eqIntS.f k bt266.1 bt252.1).bind fun t270 => (if t270 = true then (laws_FnExactKnowJoin.j0 k l1 l2 bt252.1 bt252.2 t260 t263 bt266.1 bt266.2 (bt266.2 != bt252.2) l0_0 t256) else (laws_FnExactKnowJoin.j0 k l1 l2 bt252.1 bt252.2 t260 t263 bt266.1 bt266.2 true l0_0 t256))))))))) = some r := H
    have A14 := Aside0.mk A140
    clear A140
    replace H := Option.bind_eq_some_iff.mp H
    obtain ⟨t249, A150, H⟩ := H
    replace H : ((spec_KnowJoin.f k t243 t246 t249).bind fun bt252 => ((laws_toPool.f k l0_0).bind fun t256 => ((laws_toIntS.f k l1).bind fun t260 => ((laws_toIntS.f k l2).bind fun t263 => ((impl_KnowJoin.f k t256 t260 t263).bind fun bt266 => ((laws_eqIntS.f k bt266.1 bt252.1).bind fun t270 => (if t270 = true then (laws_FnExactKnowJoin.j0 k l1 l2 bt252.1 bt252.2 t260 t263 bt266.1 bt266.2 (bt266.2 != bt252.2) l0_0 t256) else (laws_FnExactKnowJoin.j0 k l1 l2 bt252.1 bt252.2 t260 t263 bt266.1 bt266.2 true l0_0 t256)))))))) = some r := H
    have A15 := Aside0.mk A150
    clear A150
    replace H := Option.bind_eq_some_iff.mp H
    obtain ⟨⟨t252, t255⟩, A160, H⟩ := H
    replace H : ((laws_toPool.f k l0_0).bind fun t256 => ((laws_toIntS.f k l1).bind fun t260 => ((laws_toIntS.f k l2).bind fun t263 => ((impl_KnowJoin.f k t256 t260 t263).bind fun bt266 => ((laws_eqIntS.f k bt266.1 t252).bind fun t270 => (if t270 = true then (laws_FnExactKnowJoin.j0 k l1 l2 t252 t255 t260 t263 bt266.1 bt266.2 (bt266.2 != t255) l0_0 t256) else (laws_FnExactKnowJoin.j0 k l1 l2 t252 t255 t260 t263 bt266.1 bt266.2 true l0_0 t256))))))) = some r := H
    have A16 := Aside0.mk A160
    clear A160
    replace H := Option.bind_eq_some_iff.mp H
    obtain ⟨t256, A170, H⟩ := H
    replace H : ((laws_toIntS.f k l1).bind fun t260 => ((laws_toIntS.f k l2).bind fun t263 => ((impl_KnowJoin.f k t256 t260 t263).bind fun bt266 => ((laws_eqIntS.f k bt266.1 t252).bind fun t270 => (if t270 = true then (laws_FnExactKnowJoin.j0 k l1 l2 t252 t255 t260 t263 bt266.1 bt266.2 (bt266.2 != t255) l0_0 t256) else (laws_FnExactKnowJoin.j0 k l1 l2 t252 t255 t260 t263 bt266.1 bt266.2 true l0_0 t256)))))) = some r := H
    have A17 := Aside0.mk A170
    clear A170
    replace H := Option.bind_eq_some_iff.mp H
    obtain ⟨t260, A180, H⟩ := H
    replace H : ((laws_toIntS.f k l2).bind fun t263 => ((impl_KnowJoin.f k t256 t260 t263).bind fun bt266 => ((laws_eqIntS.f k bt266.1 t252).bind fun t270 => (if t270 = true then (laws_FnExactKnowJoin.j0 k l1 l2 t252 t255 t260 t263 bt266.1 bt266.2 (bt266.2 != t255) l0_0 t256) else (laws_FnExactKnowJoin.j0 k l1 l2 t252 t255 t260 t263 bt266.1 bt266.2 true l0_0 t256))))) = some r := H
    have A18 := Aside0.mk A180
    clear A180
    replace H := Option.bind_eq_some_iff.mp H
    obtain ⟨t263, A190, H⟩ := H
    replace H : ((impl_KnowJoin.f k t256 t260 t263).bind fun bt266 => ((laws_eqIntS.f k bt266.1 t252).bind fun t270 => (if t270 = true then (laws_FnExactKnowJoin.j0 k l1 l2 t252 t255 t260 t263 bt266.1 bt266.2 (bt266.2 != t255) l0_0 t256) else (laws_FnExactKnowJoin.j0 k l1 l2 t252 t255 t260 t263 bt266.1 bt266.2 true l0_0 t256)))) = some r := H
    have A19 := Aside0.mk A190
    clear A190
    replace H := Option.bind_eq_some_iff.mp H
    obtain ⟨⟨t266, t269⟩, A200, H⟩ := H
    replace H : ((laws_eqIntS.f k t266 t252).bind fun t270 => (if t270 = true then (laws_FnExactKnowJoin.j0 k l1 l2 t252 t255 t260 t263 t266 t269 (t269 != t255) l0_0 t256) else (laws_FnExactKnowJoin.j0 k l1 l2 t252 t255 t260 t263 t266 t269 true l0_0 t256))) = some r := H
    have A20 := Aside0.mk A200
    clear A200
    have HC21 := Aside0.mk H
    clear H
    go_enter Try.func6, Try.ntmps6
    go_upto_region 14 with (first | ((with_reducible refine gate_dst (N := 3) rfl ?_); refine box_event ?hg (N := 3) ?hd (cs := #[.slice A0_0 l0_0.length c0_0]) (t := 24) ?hr ?_; (case hd => rfl); (case hg => rfl); (case hr => first | (go_simp; done) | (go_simp; rfl)); intro gb241 hg w22 hbox hb; have n0_ := Aside0.mk (below_step (zb HB.out) hb); have n1_ := Aside0.mk (hbox); have n2_ := Aside0.mk ((by rw [hg]; exact (below_size (zb HB.out)) : w.heap.size ≤ gb241)); have n3_ := Aside0.mk ((by rw [hg]; exact (below_size (zb HB.out)) : w.heap.size ≤ gb241)); clear HB; have HB := n0_; have BK241 := n1_; have GW241 := n2_; have GE241 := n3_; clear n0_ n1_ n2_ n3_; clear hb hbox hg; have hcz23_0 : w22.cell? ⟨gb241, 0, none⟩ = some (.slice A0_0 l0_0.length c0_0) := (blk_cell BK241.out 0).trans rfl; have hfz23_0 := blk_frozen BK241.out 0) | ((with_reducible refine gate_callee (f := 9) rfl ?_); refine goesL_ (some 28) rfl rfl Try.func9 (by kernel_rfl) rfl #[.agg #[.slice A0_0 l0_0.length c0_0], .int .i64 1048576] rfl zl ?_; (with_reducible refine (laws_szPool.calls _ _ l0_0 1048576 t242 _ ?side1 ?side2 A8.out).mono ?_); (case side1 => exact zc (Kd.C_below HR0_0.out HB.out)); (case side2 => exact HC0_0.out); rintro e w24 ⟨rfl, hb⟩; refine ⟨_, rfl, ?_⟩; have n0_ := Aside0.mk (blk_below (zh BK241.out) hb); have n1_ := Aside0.mk (below_step (zb HB.out) hb); clear BK241; clear HB; have BK241 := n0_; have HB := n1_; clear n0_ n1_; (try clear hb); (try clear hb2); (try clear hk); (try clear hi); have hcz25_0 : w24.cell? ⟨gb241, 0, none⟩ = some (.slice A0_0 l0_0.length c0_0) := (blk_cell BK241.out 0).trans rfl; have hfz25_0 := blk_frozen BK241.out 0) | ((with_reducible refine gate_callee (f := 11) rfl ?_); refine goesL_ (some 33) rfl rfl Try.func11 (by kernel_rfl) rfl #[.agg #[.slice A0_0 l0_0.length c0_0]] rfl zl ?_; (with_reducible refine (laws_toPool.calls k _ _ l0_0 t243 _ ?side1 ?side2 A13.out).mono ?_); (case side1 => exact zc (Kd.C_below HR0_0.out HB.out)); (case side2 => exact HC0_0.out); rintro e w26 ⟨v244, rfl, ho0, hb⟩; refine ⟨_, rfl, ?_⟩; have n0_ := Aside0.mk (Kd.R_lower ho0 (below_size (zb HB.out))); have n1_ := Aside0.mk (blk_below (zh BK241.out) hb); have n2_ := Aside0.mk (below_step (zb HB.out) hb); clear BK241; clear HB; have HO245 := n0_; have BK241 := n1_; have HB := n2_; clear n0_ n1_ n2_; (try clear hb); (try clear hb2); (try clear hk); (try clear hi); (try clear ho0)) | ((with_reducible refine gate_callee (f := 28) rfl ?_); refine goesL_ (some 35) rfl rfl Try.func28 (by kernel_rfl) rfl #[.slice A1 l1.length c1] rfl zl ?_; (with_reducible refine (laws_toIntS.calls k _ _ l1 t246 _ ?side1 ?side2 A14.out).mono ?_); (case side1 => exact zc (Kd.C_below HR1.out HB.out)); (case side2 => exact HC1.out); rintro e w27 ⟨v247, rfl, ho0, hb⟩; refine ⟨_, rfl, ?_⟩; have n0_ := Aside0.mk (Kd.R_below (zr HO245.out) hb); have n1_ := Aside0.mk (Kd.R_lower ho0 (below_size (zb HB.out))); have n2_ := Aside0.mk (blk_below (zh BK241.out) hb); have n3_ := Aside0.mk (below_step (zb HB.out) hb); clear HO245; clear BK241; clear HB; have HO245 := n0_; have HO248 := n1_; have BK241 := n2_; have HB := n3_; clear n0_ n1_ n2_ n3_; (try clear hb); (try clear hb2); (try clear hk); (try clear hi); (try clear ho0)) | ((with_reducible refine gate_callee (f := 28) rfl ?_); refine goesL_ (some 37) rfl rfl Try.func28 (by kernel_rfl) rfl #[.slice A2 l2.length c2] rfl zl ?_; (with_reducible refine (laws_toIntS.calls k _ _ l2 t249 _ ?side1 ?side2 A15.out).mono ?_); (case side1 => exact zc (Kd.C_below HR2.out HB.out)); (case side2 => exact HC2.out); rintro e w28 ⟨v250, rfl, ho0, hb⟩; refine ⟨_, rfl, ?_⟩; have n0_ := Aside0.mk (Kd.R_below (zr HO245.out) hb); have n1_ := Aside0.mk (Kd.R_elder' (zr HO248.out) (Kd.R_base ho0) hb); have n2_ := Aside0.mk (Kd.R_lower (Kd.R_new' ho0 (Kd.R_lt (zr HO248.out))) (below_size (zb HB.out))); have n3_ := Aside0.mk (blk_below (zh BK241.out) hb); have n4_ := Aside0.mk (below_step (zb HB.out) hb); clear HO245; clear HO248; clear BK241; clear HB; have HO245 := n0_; have HO248 := n1_; have HO251 := n2_; have BK241 := n3_; have HB := n4_; clear n0_ n1_ n2_ n3_ n4_; (try clear hb); (try clear hb2); (try clear hk); (try clear hi); (try clear ho0); obtain ⟨Ao29, co29, eo29⟩ := Kd.R_slice HO245.out; subst eo29; obtain ⟨Ao30, co30, eo30⟩ := Kd.R_slice HO248.out; subst eo30; obtain ⟨Ao31, co31, eo31⟩ := Kd.R_slice HO251.out; subst eo31) | ((with_reducible refine gate_callee (f := 27) rfl ?_); refine goesL_ (some 38) rfl rfl Try.func27 (by kernel_rfl) rfl #[.agg #[.slice Ao29 t243.length co29], .slice Ao30 t246.length co30, .slice Ao31 t249.length co31] rfl zl ?_; (with_reducible refine (spec_KnowJoin.calls k _ _ t243 _ _ t246 _ _ t249 t252 t255 _ ?side1 ?side2 ?side3 ?side4 ?side5 ?side6 A16.out).mono ?_); (case side1 => exact zc (Kd.R_reads' HO245.out).2.2); (case side2 => exact (Kd.R_reads' HO245.out).2.1); (case side3 => exact zc (Kd.R_reads' HO248.out).2.2); (case side4 => exact (Kd.R_reads' HO248.out).2.1); (case side5 => exact zc (Kd.R_reads' HO251.out).2.2); (case side6 => exact (Kd.R_reads' HO251.out).2.1); rintro e w32 ⟨v253, rfl, ho0, hb⟩; refine ⟨_, rfl, ?_⟩; have n0_ := Aside0.mk (Kd.R_below (zr HO245.out) hb); have n1_ := Aside0.mk (Kd.R_elder' (zr HO248.out) (Kd.R_base ho0) hb); have n2_ := Aside0.mk (Kd.R_elder' (zr HO251.out) (Kd.R_base ho0) hb); have n3_ := Aside0.mk (Kd.R_lower (Kd.R_new' (Kd.R_new' ho0 (Kd.R_lt (zr HO248.out))) (Kd.R_lt (zr HO251.out))) (below_size (zb HB.out))); have n4_ := Aside0.mk (blk_below (zh BK241.out) hb); have n5_ := Aside0.mk (below_step (zb HB.out) hb); clear HO245; clear HO248; clear HO251; clear BK241; clear HB; have HO245 := n0_; have HO248 := n1_; have HO251 := n2_; have HO254 := n3_; have BK241 := n4_; have HB := n5_; clear n0_ n1_ n2_ n3_ n4_ n5_; (try clear hb); (try clear hb2); (try clear hk); (try clear hi); (try clear ho0); have hcz33_0 : w32.cell? ⟨gb241, 0, none⟩ = some (.slice A0_0 l0_0.length c0_0) := (blk_cell BK241.out 0).trans rfl; have hfz33_0 := blk_frozen BK241.out 0) | ((with_reducible refine gate_callee (f := 11) rfl ?_); refine goesL_ (some 42) rfl rfl Try.func11 (by kernel_rfl) rfl #[.agg #[.slice A0_0 l0_0.length c0_0]] rfl zl ?_; (with_reducible refine (laws_toPool.calls k _ _ l0_0 t256 _ ?side1 ?side2 A17.out).mono ?_); (case side1 => exact zc (Kd.C_below HR0_0.out HB.out)); (case side2 => exact HC0_0.out); rintro e w34 ⟨v257, rfl, ho0, hb⟩; refine ⟨_, rfl, ?_⟩; have n0_ := Aside0.mk (Kd.R_elder' (zr HO245.out) (Kd.R_base ho0) hb); have n1_ := Aside0.mk (Kd.R_below (zr HO248.out) hb); have n2_ := Aside0.mk (Kd.R_below (zr HO251.out) hb); have n3_ := Aside0.mk (Kd.R_below (zr HO254.out) hb); have n4_ := Aside0.mk (Kd.R_lower (Kd.R_new' ho0 (Kd.R_lt (zr HO245.out))) (below_size (zb HB.out))); have n5_ := Aside0.mk (blk_below (zh BK241.out) hb); have n6_ := Aside0.mk (below_step (zb HB.out) hb); clear HO245; clear HO248; clear HO251; clear HO254; clear BK241; clear HB; have HO245 := n0_; have HO248 := n1_; have HO251 := n2_; have HO254 := n3_; have HO258 := n4_; have BK241 := n5_; have HB := n6_; clear n0_ n1_ n2_ n3_ n4_ n5_ n6_; (try clear hb); (try clear hb2); (try clear hk); (try clear hi); (try clear ho0)) | ((with_reducible refine gate_dst (N := 10) rfl ?_); refine box_event ?hg (N := 10) ?hd (cs := #[.slice none 0 0]) (t := 30) ?hr ?_; (case hd => rfl); (case hg => rfl); (case hr => first | (go_simp; done) | (go_simp; rfl)); intro gb259 hg w35 hbox hb; have n0_ := Aside0.mk (Kd.R_below (zr HO245.out) hb); have n1_ := Aside0.mk (Kd.R_below (zr HO248.out) hb); have n2_ := Aside0.mk (Kd.R_below (zr HO251.out) hb); have n3_ := Aside0.mk (Kd.R_below (zr HO254.out) hb); have n4_ := Aside0.mk (Kd.R_below (zr HO258.out) hb); have n5_ := Aside0.mk (blk_below (zh BK241.out) hb); have n6_ := Aside0.mk (below_step (zb HB.out) hb); have n7_ := Aside0.mk (hbox); have n8_ := Aside0.mk ((by rw [hg]; exact (below_size (zb HB.out)) : w.heap.size ≤ gb259)); have n9_ := Aside0.mk ((by rw [hg]; exact (below_size (zb HB.out)) : w.heap.size ≤ gb259)); have n10_ := Aside0.mk ((by rw [hg]; exact Nat.ne_of_lt (blk_lt (zh BK241.out)) : gb241 ≠ gb259)); have n11_ := Aside0.mk ((by rw [hg]; exact Nat.ne_of_gt (blk_lt (zh BK241.out)) : gb259 ≠ gb241)); clear HO245; clear HO248; clear HO251; clear HO254; clear HO258; clear BK241; clear HB; have HO245 := n0_; have HO248 := n1_; have HO251 := n2_; have HO254 := n3_; have HO258 := n4_; have BK241 := n5_; have HB := n6_; have BK259 := n7_; have GW259 := n8_; have GE259 := n9_; have NB241_259 := n10_; have NB259_241 := n11_; clear n0_ n1_ n2_ n3_ n4_ n5_ n6_ n7_ n8_ n9_ n10_ n11_; clear hb hbox hg; obtain ⟨Ao36, co36, eo36⟩ := Kd.R_slice HO258.out; subst eo36; have hnb37 := NB259_241.out; have hnc37 := NB241_259.out; have hcz38_0 : w35.cell? ⟨gb259, 0, none⟩ = some (.slice none 0 0) := (blk_cell BK259.out 0).trans rfl; have hfz38_0 := blk_frozen BK259.out 0) | ((with_reducible refine gate_callee (f := 28) rfl ?_); refine goesL_ (some 44) rfl rfl Try.func28 (by kernel_rfl) rfl #[.slice A1 l1.length c1] rfl zl ?_; (with_reducible refine (laws_toIntS.calls k _ _ l1 t260 _ ?side1 ?side2 A18.out).mono ?_); (case side1 => exact Kd.C_below HR1.out (zb HB.out)); (case side2 => exact HC1.out); rintro e w39 ⟨v261, rfl, ho0, hb⟩; refine ⟨_, rfl, ?_⟩; have n0_ := Aside0.mk (Kd.R_below (by (with_reducible repeat (first | apply Kd.R_alloc | apply Kd.R_drewN | apply Kd.R_drew)); exact (Kd.R_mono (Kd.R_far (p := ⟨gb259, 0, none⟩) (Kd.R_types HO245.out BK259.out (by decide)) (fun _ hk => hk.2) (.slice Ao36 t256.length co36)) (fun _ h_ => h_.1))) hb); have n1_ := Aside0.mk (Kd.R_elder' (by (with_reducible repeat (first | apply Kd.R_alloc | apply Kd.R_drewN | apply Kd.R_drew)); exact (Kd.R_mono (Kd.R_far (p := ⟨gb259, 0, none⟩) (Kd.R_types HO248.out BK259.out (by decide)) (fun _ hk => hk.2) (.slice Ao36 t256.length co36)) (fun _ h_ => h_.1))) (Kd.R_base ho0) hb); have n2_ := Aside0.mk (Kd.R_elder' (by (with_reducible repeat (first | apply Kd.R_alloc | apply Kd.R_drewN | apply Kd.R_drew)); exact (Kd.R_mono (Kd.R_far (p := ⟨gb259, 0, none⟩) (Kd.R_types HO251.out BK259.out (by decide)) (fun _ hk => hk.2) (.slice Ao36 t256.length co36)) (fun _ h_ => h_.1))) (Kd.R_base ho0) hb); have n3_ := Aside0.mk (Kd.R_elder' (by (with_reducible repeat (first | apply Kd.R_alloc | apply Kd.R_drewN | apply Kd.R_drew)); exact (Kd.R_mono (Kd.R_far (p := ⟨gb259, 0, none⟩) (Kd.R_types HO254.out BK259.out (by decide)) (fun _ hk => hk.2) (.slice Ao36 t256.length co36)) (fun _ h_ => h_.1))) (Kd.R_base ho0) hb); have n4_ := Aside0.mk (Kd.R_below (by (with_reducible repeat (first | apply Kd.R_alloc | apply Kd.R_drewN | apply Kd.R_drew)); exact (Kd.R_mono (Kd.R_far (p := ⟨gb259, 0, none⟩) (Kd.R_types HO258.out BK259.out (by decide)) (fun _ hk => hk.2) (.slice Ao36 t256.length co36)) (fun _ h_ => h_.1))) hb); have n5_ := Aside0.mk (Kd.R_lower (Kd.R_new' (Kd.R_new' (Kd.R_new' ho0 (Kd.R_lt (by (with_reducible repeat (first | apply Kd.R_alloc | apply Kd.R_drewN | apply Kd.R_drew)); exact (Kd.R_mono (Kd.R_far (p := ⟨gb259, 0, none⟩) (Kd.R_types HO248.out BK259.out (by decide)) (fun _ hk => hk.2) (.slice Ao36 t256.length co36)) (fun _ h_ => h_.1))))) (Kd.R_lt (by (with_reducible repeat (first | apply Kd.R_alloc | apply Kd.R_drewN | apply Kd.R_drew)); exact (Kd.R_mono (Kd.R_far (p := ⟨gb259, 0, none⟩) (Kd.R_types HO251.out BK259.out (by decide)) (fun _ hk => hk.2) (.slice Ao36 t256.length co36)) (fun _ h_ => h_.1))))) (Kd.R_lt (by (with_reducible repeat (first | apply Kd.R_alloc | apply Kd.R_drewN | apply Kd.R_drew)); exact (Kd.R_mono (Kd.R_far (p := ⟨gb259, 0, none⟩) (Kd.R_types HO254.out BK259.out (by decide)) (fun _ hk => hk.2) (.slice Ao36 t256.length co36)) (fun _ h_ => h_.1))))) (below_size (zb HB.out))); have n6_ := Aside0.mk (blk_below (g := gb241) (o := .cells #[.slice A0_0 l0_0.length c0_0] 24 (0, 0)) (zf BK241.out) hb); have n7_ := Aside0.mk (blk_below (g := gb259) (o := .cells #[.slice Ao36 t256.length co36] 30 (0, 0)) (by (with_reducible repeat (first | refine blk_drewN ?_ _ | refine blk_drew ?_ | refine blk_alloc ?_ _)); refine blk_put (cs := #[.slice none 0 0]) ?_ 0 _ rfl; (with_reducible repeat (first | refine blk_drewN ?_ _ | refine blk_drew ?_ | refine blk_alloc ?_ _)); exact BK259.out) hb); have n8_ := Aside0.mk (below_step (zb HB.out) hb); clear HO245; clear HO248; clear HO251; clear HO254; clear HO258; clear BK241; clear BK259; clear HB; have HO245 := n0_; have HO248 := n1_; have HO251 := n2_; have HO254 := n3_; have HO258 := n4_; have HO262 := n5_; have BK241 := n6_; have BK259 := n7_; have HB := n8_; clear n0_ n1_ n2_ n3_ n4_ n5_ n6_ n7_ n8_; (try clear hb); (try clear hb2); (try clear hk); (try clear hi); (try clear ho0)) | ((with_reducible refine gate_callee (f := 28) rfl ?_); refine goesL_ (some 46) rfl rfl Try.func28 (by kernel_rfl) rfl #[.slice A2 l2.length c2] rfl zl ?_; (with_reducible refine (laws_toIntS.calls k _ _ l2 t263 _ ?side1 ?side2 A19.out).mono ?_); (case side1 => exact zc (Kd.C_below HR2.out HB.out)); (case side2 => exact HC2.out); rintro e w40 ⟨v264, rfl, ho0, hb⟩; refine ⟨_, rfl, ?_⟩; have n0_ := Aside0.mk (Kd.R_below (zr HO245.out) hb); have n1_ := Aside0.mk (Kd.R_elder' (zr HO248.out) (Kd.R_base ho0) hb); have n2_ := Aside0.mk (Kd.R_elder' (zr HO251.out) (Kd.R_base ho0) hb); have n3_ := Aside0.mk (Kd.R_elder' (zr HO254.out) (Kd.R_base ho0) hb); have n4_ := Aside0.mk (Kd.R_below (zr HO258.out) hb); have n5_ := Aside0.mk (Kd.R_elder' (zr HO262.out) (Kd.R_base ho0) hb); have n6_ := Aside0.mk (Kd.R_lower (Kd.R_new' (Kd.R_new' (Kd.R_new' (Kd.R_new' ho0 (Kd.R_lt (zr HO248.out))) (Kd.R_lt (zr HO251.out))) (Kd.R_lt (zr HO254.out))) (Kd.R_lt (zr HO262.out))) (below_size (zb HB.out))); have n7_ := Aside0.mk (blk_below (zh BK241.out) hb); have n8_ := Aside0.mk (blk_below (zh BK259.out) hb); have n9_ := Aside0.mk (below_step (zb HB.out) hb); clear HO245; clear HO248; clear HO251; clear HO254; clear HO258; clear HO262; clear BK241; clear BK259; clear HB; have HO245 := n0_; have HO248 := n1_; have HO251 := n2_; have HO254 := n3_; have HO258 := n4_; have HO262 := n5_; have HO265 := n6_; have BK241 := n7_; have BK259 := n8_; have HB := n9_; clear n0_ n1_ n2_ n3_ n4_ n5_ n6_ n7_ n8_ n9_; (try clear hb); (try clear hb2); (try clear hk); (try clear hi); (try clear ho0); have hcz41_0 : w40.cell? ⟨gb259, 0, none⟩ = some (.slice Ao36 t256.length co36) := (blk_cell BK259.out 0).trans rfl; have hfz41_0 := blk_frozen BK259.out 0; obtain ⟨Ao42, co42, eo42⟩ := Kd.R_slice HO262.out; subst eo42; obtain ⟨Ao43, co43, eo43⟩ := Kd.R_slice HO265.out; subst eo43) | ((with_reducible refine gate_callee (f := 29) rfl ?_); refine goesL_ (some 51) rfl rfl Try.func29 (by kernel_rfl) rfl #[.agg #[.slice Ao36 t256.length co36], .slice Ao42 t260.length co42, .slice Ao43 t263.length co43] rfl zl ?_; (with_reducible refine (impl_KnowJoin.calls k _ _ t256 (fun k_ => some k_ = (.slice Ao42 t260.length co42 : Value).ownBlock) _ _ t260 (fun k_ => some k_ = (.slice Ao43 t263.length co43 : Value).ownBlock) _ _ t263 t266 t269 _ ?side1 ?side2 ?side3 ?side4 A20.out).mono ?_); (case side1 => exact zc (Kd.R_reads' HO258.out).2.2); (case side2 => exact (Kd.R_reads' HO258.out).2.1); (case side3 => exact Kd.R_V (Kd.R_tight rfl (Kd.R_types (Kd.R_types (Kd.R_apart' (Kd.R_apart' (HO262.out) (Kd.R_typed HO245.out) (by decide)) (Kd.R_typed HO258.out) (by decide)) BK241.out (by decide)) BK259.out (by decide)))); (case side4 => exact Kd.R_V (Kd.R_tight rfl (Kd.R_types (Kd.R_types (Kd.R_apart' (Kd.R_apart' (HO265.out) (Kd.R_typed HO245.out) (by decide)) (Kd.R_typed HO258.out) (by decide)) BK241.out (by decide)) BK259.out (by decide)))); rintro e w44 ⟨v267, rfl, ho0, hb⟩; refine ⟨_, rfl, ?_⟩; have n0_ := Aside0.mk (Kd.R_below (zr HO245.out) hb); have n1_ := Aside0.mk (Kd.R_elder' (zr HO248.out) (Kd.R_base ho0) hb); have n2_ := Aside0.mk (Kd.R_elder' (zr HO251.out) (Kd.R_base ho0) hb); have n3_ := Aside0.mk (Kd.R_elder' (zr HO254.out) (Kd.R_base ho0) hb); have n4_ := Aside0.mk (Kd.R_below (zr HO258.out) hb); have n5_ := Aside0.mk (Kd.R_elder' (zr HO262.out) (Kd.R_base ho0) hb); have n6_ := Aside0.mk (Kd.R_elder' (zr HO265.out) (Kd.R_base ho0) hb); have n7_ := Aside0.mk (Kd.R_lower (Kd.R_new' (Kd.R_new' (Kd.R_new' (Kd.R_new' (Kd.R_new' (Kd.R_mono (ok' := fun k_ => True) ho0 (fun _ hk_ => trivial)) (Kd.R_lt (zr HO248.out))) (Kd.R_lt (zr HO251.out))) (Kd.R_lt (zr HO254.out))) (Kd.R_lt (zr HO262.out))) (Kd.R_lt (zr HO265.out))) (below_size (zb HB.out))); have n8_ := Aside0.mk (blk_below (zh BK241.out) hb); have n9_ := Aside0.mk (blk_below (zh BK259.out) hb); have n10_ := Aside0.mk (below_step (zb HB.out) hb); clear HO245; clear HO248; clear HO251; clear HO254; clear HO258; clear HO262; clear HO265; clear BK241; clear BK259; clear HB; have HO245 := n0_; have HO248 := n1_; have HO251 := n2_; have HO254 := n3_; have HO258 := n4_; have HO262 := n5_; have HO265 := n6_; have HO268 := n7_; have BK241 := n8_; have BK259 := n9_; have HB := n10_; clear n0_ n1_ n2_ n3_ n4_ n5_ n6_ n7_ n8_ n9_ n10_; (try clear hb); (try clear hb2); (try clear hk); (try clear hi); (try clear ho0)))
    (try simp only [Act.put, List.setIfInBounds_toArray, List.set_cons_zero, List.set_cons_succ])
    go_cut [62] (fun v62 wc => ∃ (kq : Nat) (x62_20 : Bool), v62 = .bool x62_20 ∧ Aside0 (laws_FnExactKnowJoin.j0 kq l1 l2 t252 t255 t260 t263 t266 t269 x62_20 l0_0 t256 = some r) ∧ Aside0 (kq ≤ k) ∧ Aside0 (Kd.R (Kd.int .i64) 3 wc w.heap.size (fun k_ => some k_ ≠ ((.slice Ao42 t260.length co42) : Value).ownBlock ∧ some k_ ≠ ((.slice Ao43 t263.length co43) : Value).ownBlock ∧ some k_ ≠ (v267 : Value).ownBlock) v253 t252) ∧ Aside0 (Kd.R (Kd.int .i64) 3 wc w.heap.size (fun k_ => some k_ ≠ (v253 : Value).ownBlock ∧ some k_ ≠ ((.slice Ao43 t263.length co43) : Value).ownBlock ∧ some k_ ≠ (v267 : Value).ownBlock) (.slice Ao42 t260.length co42) t260) ∧ Aside0 (Kd.R (Kd.int .i64) 3 wc w.heap.size (fun k_ => some k_ ≠ (v253 : Value).ownBlock ∧ some k_ ≠ ((.slice Ao42 t260.length co42) : Value).ownBlock ∧ some k_ ≠ (v267 : Value).ownBlock) (.slice Ao43 t263.length co43) t263) ∧ Aside0 (Kd.R (Kd.int .i64) 3 wc w.heap.size (fun k_ => some k_ ≠ (v253 : Value).ownBlock ∧ some k_ ≠ ((.slice Ao42 t260.length co42) : Value).ownBlock ∧ some k_ ≠ ((.slice Ao43 t263.length co43) : Value).ownBlock) v267 t266) ∧ Aside0 (Kd.R k44 44 wc w.heap.size (fun _ => True) (.slice Ao36 t256.length co36) t256) ∧ Aside0 (wc.heap[gb241]? = some (.cells #[(.slice A0_0 l0_0.length c0_0)] 24 (0, 0))) ∧ Aside0 (wc.heap[gb259]? = some (.cells #[(.slice Ao36 t256.length co36)] 30 (0, 0))) ∧ Aside0 (Below w.heap.size w wc))
    case first =>
     have H := HC21.out
     clear HC21
     replace H := Option.bind_eq_some_iff.mp H
     obtain ⟨t270, A450, H⟩ := H
     replace H : (if t270 = true then (laws_FnExactKnowJoin.j0 k l1 l2 t252 t255 t260 t263 t266 t269 (t269 != t255) l0_0 t256) else (laws_FnExactKnowJoin.j0 k l1 l2 t252 t255 t260 t263 t266 t269 true l0_0 t256)) = some r := H
     have A45 := Aside0.mk A450
     clear A450
     by_cases c46 : t270 = true
     ·subst c46
      have H1 : (laws_FnExactKnowJoin.j0 k l1 l2 t252 t255 t260 t263 t266 t269 (t269 != t255) l0_0 t256) = some r := by rw [if_pos rfl] at H; exact H
      clear H
      have H := H1
      clear H1
      have H' := Aside0.mk H
      clear H
      obtain ⟨Ao47, co47, eo47⟩ := Kd.R_slice HO268.out
      subst eo47
      obtain ⟨Ao48, co48, eo48⟩ := Kd.R_slice HO254.out
      subst eo48
      go_wp2_with (first | ((with_reducible refine gate_callee (f := 13) rfl ?_); refine goesL_ (some 56) rfl rfl Try.func13 (by kernel_rfl) rfl #[.slice Ao47 t266.length t266.length, .slice Ao48 t252.length co48] rfl zl ?_; (with_reducible refine (laws_eqIntS.calls k _ _ t266 _ _ t252 true _ ?side1 ?side2 ?side3 ?side4 A45.out).mono ?_); (case side1 => exact zc (Kd.R_reads' HO268.out).2.2); (case side2 => exact Nat.le_refl _); (case side3 => exact zc (Kd.R_reads' HO254.out).2.2); (case side4 => exact (Kd.R_reads' HO254.out).2.1); rintro e w' ⟨rfl, ⟨nd, rfl⟩⟩; refine ⟨_, rfl, ?_⟩))
      go_meet
      case rel => exact ⟨_, ((t269 != t255)), (by first | rfl | (simp; done) | (simp [*]; done)), H', ⟨by first | omega | exact Nat.le_refl _⟩, ⟨zr (Kd.R_mono HO254.out (fun _ hk => ⟨hk.1.1.2, ⟨hk.1.2, hk.2⟩⟩))⟩, ⟨zr (Kd.R_mono HO262.out (fun _ hk => ⟨hk.1.1.2, ⟨hk.1.2, hk.2⟩⟩))⟩, ⟨zr (Kd.R_mono HO265.out (fun _ hk => ⟨hk.1.1.2, ⟨hk.1.2, hk.2⟩⟩))⟩, ⟨zr (Kd.R_mono HO268.out (fun _ hk => ⟨hk.1.1.2, ⟨hk.1.2, hk.2⟩⟩))⟩, ⟨zr (Kd.R_mono HO258.out (fun _ hk => trivial))⟩, ⟨zh BK241.out⟩, ⟨zh BK259.out⟩, ⟨zb HB.out⟩⟩
     ·replace c46 := Bool.eq_false_iff.mpr c46
      subst c46
      have H1 : (laws_FnExactKnowJoin.j0 k l1 l2 t252 t255 t260 t263 t266 t269 true l0_0 t256) = some r := by rw [if_neg (show ¬ (false = true) by decide)] at H; exact H
      clear H
      have H := H1
      clear H1
      have H' := Aside0.mk H
      clear H
      obtain ⟨Ao49, co49, eo49⟩ := Kd.R_slice HO268.out
      subst eo49
      obtain ⟨Ao50, co50, eo50⟩ := Kd.R_slice HO254.out
      subst eo50
      go_wp2_with (first | ((with_reducible refine gate_callee (f := 13) rfl ?_); refine goesL_ (some 56) rfl rfl Try.func13 (by kernel_rfl) rfl #[.slice Ao49 t266.length t266.length, .slice Ao50 t252.length co50] rfl zl ?_; (with_reducible refine (laws_eqIntS.calls k _ _ t266 _ _ t252 false _ ?side1 ?side2 ?side3 ?side4 A45.out).mono ?_); (case side1 => exact zc (Kd.R_reads' HO268.out).2.2); (case side2 => exact Nat.le_refl _); (case side3 => exact zc (Kd.R_reads' HO254.out).2.2); (case side4 => exact (Kd.R_reads' HO254.out).2.1); rintro e w' ⟨rfl, ⟨nd, rfl⟩⟩; refine ⟨_, rfl, ?_⟩))
      go_meet
      case rel => exact ⟨_, (true), (by first | rfl | (simp; done) | (simp [*]; done)), H', ⟨by first | omega | exact Nat.le_refl _⟩, ⟨zr (Kd.R_mono HO254.out (fun _ hk => ⟨hk.1.1.2, ⟨hk.1.2, hk.2⟩⟩))⟩, ⟨zr (Kd.R_mono HO262.out (fun _ hk => ⟨hk.1.1.2, ⟨hk.1.2, hk.2⟩⟩))⟩, ⟨zr (Kd.R_mono HO265.out (fun _ hk => ⟨hk.1.1.2, ⟨hk.1.2, hk.2⟩⟩))⟩, ⟨zr (Kd.R_mono HO268.out (fun _ hk => ⟨hk.1.1.2, ⟨hk.1.2, hk.2⟩⟩))⟩, ⟨zr (Kd.R_mono HO258.out (fun _ hk => trivial))⟩, ⟨zh BK241.out⟩, ⟨zh BK259.out⟩, ⟨zb HB.out⟩⟩
    case rest =>
     clear HC21
     try clear c1
     try clear c2
     try clear p2
     try clear c3
     try clear c4
     try clear c4b0
     try clear c4b1
     try clear c6
     try clear c6b0
     try clear c6b1
     try clear c9
     try clear c9b0
     try clear c11
     try clear c13
     try clear c27
     try clear c28
     try clear c29
     try clear c37
     try clear c46
     try clear hcz11_0
     try clear hcz23_0
     try clear hcz25_0
     try clear hcz33_0
     try clear hcz38_0
     try clear hcz41_0
     try clear hfz11_0
     try clear hfz23_0
     try clear hfz25_0
     try clear hfz33_0
     try clear hfz38_0
     try clear hfz41_0
     obtain ⟨kq, x62_20, rfl, HA, HJ20, HO_8, HO_11, HO_12, HO_13, HO_260000, BK241, BK259, HB⟩ := hcut
     cases kq with
     | zero => exact absurd HA.out (by simp [laws_FnExactKnowJoin.j0])
     | succ kj20 =>
      have H := HA.out
      clear HA
      simp only [laws_FnExactKnowJoin.j0] at H
      by_cases c51 : x62_20 = true
      ·subst c51
       have H1 : (some false) = some r := by rw [if_pos rfl] at H; exact H
       clear H
       have H := H1
       clear H1
       obtain rfl := Option.some.inj H
       go_wp2
       go_ret
       exact ⟨ze, zb HB.out⟩
      ·replace c51 := Bool.eq_false_iff.mpr c51
       subst c51
       have H1 : ((laws_toPool.f kj20 l0_0).bind fun t271 => ((laws_eqPool.f kj20 t256 t271).bind fun t274 => (if t274 = true then ((laws_toIntS.f kj20 l1).bind fun t275 => ((laws_eqIntS.f kj20 t260 t275).bind fun t278 => (if t278 = true then ((laws_toIntS.f kj20 l2).bind fun t279 => ((laws_eqIntS.f kj20 t263 t279).bind fun t282 => (if t282 = true then ((laws_markPool.f kj20 t256 1).bind fun bt283 => ((laws_markIntS.f kj20 t260 bt283.1).bind fun bt285 => ((laws_markIntS.f kj20 t263 bt285.1).bind fun bt287 => (if bt287.1 < 0 then (laws_FnExactKnowJoin.j1 kj20 l1 l2 t252 t255 t266 true l0_0) else ((laws_eqIntS.f kj20 t266 t252).bind fun t289 => (if t289 = true then (laws_FnExactKnowJoin.j1 kj20 l1 l2 t252 t255 t266 (t269 != t255) l0_0) else (laws_FnExactKnowJoin.j1 kj20 l1 l2 t252 t255 t266 true l0_0))))))) else (some false)))) else (some false)))) else (some false)))) = some r := by rw [if_neg (show ¬ (false = true) by decide)] at H; exact H
       clear H
       have H := H1
       clear H1
       replace H := Option.bind_eq_some_iff.mp H
       obtain ⟨t271, A520, H⟩ := H
       replace H : ((laws_eqPool.f kj20 t256 t271).bind fun t274 => (if t274 = true then ((laws_toIntS.f kj20 l1).bind fun t275 => ((laws_eqIntS.f kj20 t260 t275).bind fun t278 => (if t278 = true then ((laws_toIntS.f kj20 l2).bind fun t279 => ((laws_eqIntS.f kj20 t263 t279).bind fun t282 => (if t282 = true then ((laws_markPool.f kj20 t256 1).bind fun bt283 => ((laws_markIntS.f kj20 t260 bt283.1).bind fun bt285 => ((laws_markIntS.f kj20 t263 bt285.1).bind fun bt287 => (if bt287.1 < 0 then (laws_FnExactKnowJoin.j1 kj20 l1 l2 t252 t255 t266 true l0_0) else ((laws_eqIntS.f kj20 t266 t252).bind fun t289 => (if t289 = true then (laws_FnExactKnowJoin.j1 kj20 l1 l2 t252 t255 t266 (t269 != t255) l0_0) else (laws_FnExactKnowJoin.j1 kj20 l1 l2 t252 t255 t266 true l0_0))))))) else (some false)))) else (some false)))) else (some false))) = some r := H
       have A52 := Aside0.mk A520
       clear A520
       replace H := Option.bind_eq_some_iff.mp H
       obtain ⟨t274, A530, H⟩ := H
       replace H : (if t274 = true then ((laws_toIntS.f kj20 l1).bind fun t275 => ((laws_eqIntS.f kj20 t260 t275).bind fun t278 => (if t278 = true then ((laws_toIntS.f kj20 l2).bind fun t279 => ((laws_eqIntS.f kj20 t263 t279).bind fun t282 => (if t282 = true then ((laws_markPool.f kj20 t256 1).bind fun bt283 => ((laws_markIntS.f kj20 t260 bt283.1).bind fun bt285 => ((laws_markIntS.f kj20 t263 bt285.1).bind fun bt287 => (if bt287.1 < 0 then (laws_FnExactKnowJoin.j1 kj20 l1 l2 t252 t255 t266 true l0_0) else ((laws_eqIntS.f kj20 t266 t252).bind fun t289 => (if t289 = true then (laws_FnExactKnowJoin.j1 kj20 l1 l2 t252 t255 t266 (t269 != t255) l0_0) else (laws_FnExactKnowJoin.j1 kj20 l1 l2 t252 t255 t266 true l0_0))))))) else (some false)))) else (some false)))) else (some false)) = some r := H
       have A53 := Aside0.mk A530
       clear A530
       by_cases c54 : t274 = true
       ·subst c54
        have H1 : ((laws_toIntS.f kj20 l1).bind fun t275 => ((laws_eqIntS.f kj20 t260 t275).bind fun t278 => (if t278 = true then ((laws_toIntS.f kj20 l2).bind fun t279 => ((laws_eqIntS.f kj20 t263 t279).bind fun t282 => (if t282 = true then ((laws_markPool.f kj20 t256 1).bind fun bt283 => ((laws_markIntS.f kj20 t260 bt283.1).bind fun bt285 => ((laws_markIntS.f kj20 t263 bt285.1).bind fun bt287 => (if bt287.1 < 0 then (laws_FnExactKnowJoin.j1 kj20 l1 l2 t252 t255 t266 true l0_0) else ((laws_eqIntS.f kj20 t266 t252).bind fun t289 => (if t289 = true then (laws_FnExactKnowJoin.j1 kj20 l1 l2 t252 t255 t266 (t269 != t255) l0_0) else (laws_FnExactKnowJoin.j1 kj20 l1 l2 t252 t255 t266 true l0_0))))))) else (some false)))) else (some false)))) = some r := by rw [if_pos rfl] at H; exact H
        clear H
        have H := H1
        clear H1
        replace H := Option.bind_eq_some_iff.mp H
        obtain ⟨t275, A550, H⟩ := H
        replace H : ((laws_eqIntS.f kj20 t260 t275).bind fun t278 => (if t278 = true then ((laws_toIntS.f kj20 l2).bind fun t279 => ((laws_eqIntS.f kj20 t263 t279).bind fun t282 => (if t282 = true then ((laws_markPool.f kj20 t256 1).bind fun bt283 => ((laws_markIntS.f kj20 t260 bt283.1).bind fun bt285 => ((laws_markIntS.f kj20 t263 bt285.1).bind fun bt287 => (if bt287.1 < 0 then (laws_FnExactKnowJoin.j1 kj20 l1 l2 t252 t255 t266 true l0_0) else ((laws_eqIntS.f kj20 t266 t252).bind fun t289 => (if t289 = true then (laws_FnExactKnowJoin.j1 kj20 l1 l2 t252 t255 t266 (t269 != t255) l0_0) else (laws_FnExactKnowJoin.j1 kj20 l1 l2 t252 t255 t266 true l0_0))))))) else (some false)))) else (some false))) = some r := H
        have A55 := Aside0.mk A550
        clear A550
        replace H := Option.bind_eq_some_iff.mp H
        obtain ⟨t278, A560, H⟩ := H
        replace H : (if t278 = true then ((laws_toIntS.f kj20 l2).bind fun t279 => ((laws_eqIntS.f kj20 t263 t279).bind fun t282 => (if t282 = true then ((laws_markPool.f kj20 t256 1).bind fun bt283 => ((laws_markIntS.f kj20 t260 bt283.1).bind fun bt285 => ((laws_markIntS.f kj20 t263 bt285.1).bind fun bt287 => (if bt287.1 < 0 then (laws_FnExactKnowJoin.j1 kj20 l1 l2 t252 t255 t266 true l0_0) else ((laws_eqIntS.f kj20 t266 t252).bind fun t289 => (if t289 = true then (laws_FnExactKnowJoin.j1 kj20 l1 l2 t252 t255 t266 (t269 != t255) l0_0) else (laws_FnExactKnowJoin.j1 kj20 l1 l2 t252 t255 t266 true l0_0))))))) else (some false)))) else (some false)) = some r := H
        have A56 := Aside0.mk A560
        clear A560
        by_cases c57 : t278 = true
        ·subst c57
         have H1 : ((laws_toIntS.f kj20 l2).bind fun t279 => ((laws_eqIntS.f kj20 t263 t279).bind fun t282 => (if t282 = true then ((laws_markPool.f kj20 t256 1).bind fun bt283 => ((laws_markIntS.f kj20 t260 bt283.1).bind fun bt285 => ((laws_markIntS.f kj20 t263 bt285.1).bind fun bt287 => (if bt287.1 < 0 then (laws_FnExactKnowJoin.j1 kj20 l1 l2 t252 t255 t266 true l0_0) else ((laws_eqIntS.f kj20 t266 t252).bind fun t289 => (if t289 = true then (laws_FnExactKnowJoin.j1 kj20 l1 l2 t252 t255 t266 (t269 != t255) l0_0) else (laws_FnExactKnowJoin.j1 kj20 l1 l2 t252 t255 t266 true l0_0))))))) else (some false)))) = some r := by rw [if_pos rfl] at H; exact H
         clear H
         have H := H1
         clear H1
         replace H := Option.bind_eq_some_iff.mp H
         obtain ⟨t279, A580, H⟩ := H
         replace H : ((laws_eqIntS.f kj20 t263 t279).bind fun t282 => (if t282 = true then ((laws_markPool.f kj20 t256 1).bind fun bt283 => ((laws_markIntS.f kj20 t260 bt283.1).bind fun bt285 => ((laws_markIntS.f kj20 t263 bt285.1).bind fun bt287 => (if bt287.1 < 0 then (laws_FnExactKnowJoin.j1 kj20 l1 l2 t252 t255 t266 true l0_0) else ((laws_eqIntS.f kj20 t266 t252).bind fun t289 => (if t289 = true then (laws_FnExactKnowJoin.j1 kj20 l1 l2 t252 t255 t266 (t269 != t255) l0_0) else (laws_FnExactKnowJoin.j1 kj20 l1 l2 t252 t255 t266 true l0_0))))))) else (some false))) = some r := H
         have A58 := Aside0.mk A580
         clear A580
         replace H := Option.bind_eq_some_iff.mp H
         obtain ⟨t282, A590, H⟩ := H
         replace H : (if t282 = true then ((laws_markPool.f kj20 t256 1).bind fun bt283 => ((laws_markIntS.f kj20 t260 bt283.1).bind fun bt285 => ((laws_markIntS.f kj20 t263 bt285.1).bind fun bt287 => (if bt287.1 < 0 then (laws_FnExactKnowJoin.j1 kj20 l1 l2 t252 t255 t266 true l0_0) else ((laws_eqIntS.f kj20 t266 t252).bind fun t289 => (if t289 = true then (laws_FnExactKnowJoin.j1 kj20 l1 l2 t252 t255 t266 (t269 != t255) l0_0) else (laws_FnExactKnowJoin.j1 kj20 l1 l2 t252 t255 t266 true l0_0))))))) else (some false)) = some r := H
         have A59 := Aside0.mk A590
         clear A590
         by_cases c60 : t282 = true
         ·subst c60
          have H1 : ((laws_markPool.f kj20 t256 1).bind fun bt283 => ((laws_markIntS.f kj20 t260 bt283.1).bind fun bt285 => ((laws_markIntS.f kj20 t263 bt285.1).bind fun bt287 => (if bt287.1 < 0 then (laws_FnExactKnowJoin.j1 kj20 l1 l2 t252 t255 t266 true l0_0) else ((laws_eqIntS.f kj20 t266 t252).bind fun t289 => (if t289 = true then (laws_FnExactKnowJoin.j1 kj20 l1 l2 t252 t255 t266 (t269 != t255) l0_0) else (laws_FnExactKnowJoin.j1 kj20 l1 l2 t252 t255 t266 true l0_0))))))) = some r := by rw [if_pos rfl] at H; exact H
          clear H
          have H := H1
          clear H1
          replace H := Option.bind_eq_some_iff.mp H
          obtain ⟨⟨t283, t284⟩, A610, H⟩ := H
          replace H : ((laws_markIntS.f kj20 t260 t283).bind fun bt285 => ((laws_markIntS.f kj20 t263 bt285.1).bind fun bt287 => (if bt287.1 < 0 then (laws_FnExactKnowJoin.j1 kj20 l1 l2 t252 t255 t266 true l0_0) else ((laws_eqIntS.f kj20 t266 t252).bind fun t289 => (if t289 = true then (laws_FnExactKnowJoin.j1 kj20 l1 l2 t252 t255 t266 (t269 != t255) l0_0) else (laws_FnExactKnowJoin.j1 kj20 l1 l2 t252 t255 t266 true l0_0)))))) = some r := H
          have A61 := Aside0.mk A610
          clear A610
          replace H := Option.bind_eq_some_iff.mp H
          obtain ⟨⟨t285, t286⟩, A620, H⟩ := H
          replace H : ((laws_markIntS.f kj20 t263 t285).bind fun bt287 => (if bt287.1 < 0 then (laws_FnExactKnowJoin.j1 kj20 l1 l2 t252 t255 t266 true l0_0) else ((laws_eqIntS.f kj20 t266 t252).bind fun t289 => (if t289 = true then (laws_FnExactKnowJoin.j1 kj20 l1 l2 t252 t255 t266 (t269 != t255) l0_0) else (laws_FnExactKnowJoin.j1 kj20 l1 l2 t252 t255 t266 true l0_0))))) = some r := H
          have A62 := Aside0.mk A620
          clear A620
          replace H := Option.bind_eq_some_iff.mp H
          obtain ⟨⟨t287, t288⟩, A630, H⟩ := H
          replace H : (if t287 < 0 then (laws_FnExactKnowJoin.j1 kj20 l1 l2 t252 t255 t266 true l0_0) else ((laws_eqIntS.f kj20 t266 t252).bind fun t289 => (if t289 = true then (laws_FnExactKnowJoin.j1 kj20 l1 l2 t252 t255 t266 (t269 != t255) l0_0) else (laws_FnExactKnowJoin.j1 kj20 l1 l2 t252 t255 t266 true l0_0)))) = some r := H
          have A63 := Aside0.mk A630
          clear A630
          have HC64 := Aside0.mk H
          clear H
          try go_wp2
          have n0_ := Aside0.mk (Kd.R_drew HO_8.out)
          have n1_ := Aside0.mk (Kd.R_drew HO_11.out)
          have n2_ := Aside0.mk (Kd.R_drew HO_12.out)
          have n3_ := Aside0.mk (Kd.R_drew HO_13.out)
          have n4_ := Aside0.mk (Kd.R_drew HO_260000.out)
          have n5_ := Aside0.mk (blk_drew BK241.out)
          have n6_ := Aside0.mk (blk_drew BK259.out)
          have n7_ := Aside0.mk (below_drew1 HB.out)
          clear HO_8
          clear HO_11
          clear HO_12
          clear HO_13
          clear HO_260000
          clear BK241
          clear BK259
          clear HB
          have HO_8 := n0_
          have HO_11 := n1_
          have HO_12 := n2_
          have HO_13 := n3_
          have HO_260000 := n4_
          have BK241 := n5_
          have BK259 := n6_
          have HB := n7_
          clear n0_ n1_ n2_ n3_ n4_ n5_ n6_ n7_
          refine start_ (n := 5) (S := fun w' => w'.cell? ⟨gb259, 0, none⟩ = some (.slice Ao36 t256.length co36) ∧ w'.cell? ⟨gb241, 0, none⟩ = some (.slice A0_0 l0_0.length c0_0)) (ds := []) #[false, false, false, false, false] (by kernel_rfl) rfl rfl ⟨(blk_cell BK259.out 0).trans rfl, (blk_cell BK241.out 0).trans rfl⟩ (fun hHeld => ?_)
          generalize wc.drew = w65 at HO_8 HO_11 HO_12 HO_13 HO_260000 BK241 BK259 HB hHeld ⊢
          refine take_ (i := 0) (N := some 63) (v := ?_) (a' := ?_) #[true, false, false, false, false] rfl rfl (by kernel_rfl) (fun _ _ _ h => h) (Or.inl ⟨by rfl, ?_⟩) hHeld ?_ ?_
          rotate_left
          ·rintro w' ⟨s0, s1⟩
           go_simp
           with_reducible rfl
          rotate_left
          ·simp only [Act.put, List.setIfInBounds_toArray, List.set_cons_zero, List.set_cons_succ, i64_w, i32_w]
           rfl
          refine take_ (i := 1) (N := some 64) (v := ?_) (a' := ?_) #[true, true, false, false, false] rfl rfl (by kernel_rfl) (fun _ _ _ h => h) (Or.inl ⟨by rfl, ?_⟩) hHeld ?_ ?_
          rotate_left
          ·rintro w' ⟨s0, s1⟩
           go_simp
           with_reducible rfl
          rotate_left
          ·simp only [Act.put, List.setIfInBounds_toArray, List.set_cons_zero, List.set_cons_succ, i64_w, i32_w]
           rfl
          refine one_ (i := 2) (N := some 65) #[true, true, true, false, false] rfl rfl (by kernel_rfl) (by decide) (fun K hK => ?_)
          refine goes_ Try.func11 (by kernel_rfl) rfl #[.agg #[.slice A0_0 l0_0.length c0_0]] (by rfl) rfl rfl zl ?_
          with_reducible refine (laws_toPool.calls kj20 _ _ l0_0 t271 _ ?side1 ?side2 A52.out).mono ?_
          (case side1 => exact zc (Kd.C_below HR0_0.out HB.out))
          (case side2 => exact HC0_0.out)
          rintro e w66 ⟨v272, rfl, ho0, hb⟩
          refine ⟨_, rfl, ?_⟩
          have n0_ := Aside0.mk (Kd.R_below (zr HO_8.out) hb)
          have n1_ := Aside0.mk (Kd.R_below (zr HO_11.out) hb)
          have n2_ := Aside0.mk (Kd.R_below (zr HO_12.out) hb)
          have n3_ := Aside0.mk (Kd.R_below (zr HO_13.out) hb)
          have n4_ := Aside0.mk (Kd.R_elder' (zr HO_260000.out) (Kd.R_base ho0) hb)
          have n5_ := Aside0.mk (Kd.R_lower (Kd.R_new' ho0 (Kd.R_lt (zr HO_260000.out))) (below_size (zb HB.out)))
          have n6_ := Aside0.mk (blk_below (zh BK241.out) hb)
          have n7_ := Aside0.mk (blk_below (zh BK259.out) hb)
          have n8_ := Aside0.mk (below_step (zb HB.out) hb)
          clear HO_8
          clear HO_11
          clear HO_12
          clear HO_13
          clear HO_260000
          clear BK241
          clear BK259
          clear HB
          have HO_8 := n0_
          have HO_11 := n1_
          have HO_12 := n2_
          have HO_13 := n3_
          have HO_260000 := n4_
          have HO273 := n5_
          have BK241 := n6_
          have BK259 := n7_
          have HB := n8_
          clear n0_ n1_ n2_ n3_ n4_ n5_ n6_ n7_ n8_
          (try clear hb)
          (try clear hb2)
          (try clear hk)
          (try clear hi)
          (try clear ho0)
          obtain ⟨Ao67, co67, eo67⟩ := Kd.R_slice HO273.out
          (first | subst eo67 | (injection eo67 with f1_ f2_ f3_; have f4_ := f1_.symm; have f5_ := f3_.symm; clear f1_ f2_ f3_; subst f4_; subst f5_))
          refine hK.out _ _ ⟨(blk_cell BK259.out 0).trans rfl, (blk_cell BK241.out 0).trans rfl⟩ (fun hHeld => ?_)
          clear hK K
          refine norm_ (a' := ?_) ?_ ?_
          rotate_left
          ·show Act.put _ (some 65) _ = _
           simp only [Act.put, List.setIfInBounds_toArray, List.set_cons_zero, List.set_cons_succ, i64_w, i32_w]
           rfl
          refine one_ (i := 3) (N := some 66) #[true, true, true, true, false] rfl rfl (by kernel_rfl) (by decide) (fun K hK => ?_)
          refine goes_ Try.func14 (by kernel_rfl) rfl #[.agg #[.slice Ao36 t256.length co36], .agg #[.slice Ao67 t271.length co67]] (by rfl) rfl rfl zl ?_
          with_reducible refine (laws_eqPool.calls kj20 _ _ t256 _ _ t271 true _ ?side1 ?side2 ?side3 ?side4 A53.out).mono ?_
          (case side1 => exact zc (Kd.R_reads' HO_260000.out).2.2)
          (case side2 => exact (Kd.R_reads' HO_260000.out).2.1)
          (case side3 => exact zc (Kd.R_reads' HO273.out).2.2)
          (case side4 => exact (Kd.R_reads' HO273.out).2.1)
          rintro e w68 ⟨rfl, hb⟩
          refine ⟨_, rfl, ?_⟩
          have n0_ := Aside0.mk (Kd.R_below (zr HO_8.out) hb)
          have n1_ := Aside0.mk (Kd.R_below (zr HO_11.out) hb)
          have n2_ := Aside0.mk (Kd.R_below (zr HO_12.out) hb)
          have n3_ := Aside0.mk (Kd.R_below (zr HO_13.out) hb)
          have n4_ := Aside0.mk (Kd.R_below (zr HO_260000.out) hb)
          have n5_ := Aside0.mk (Kd.R_below (zr HO273.out) hb)
          have n6_ := Aside0.mk (blk_below (zh BK241.out) hb)
          have n7_ := Aside0.mk (blk_below (zh BK259.out) hb)
          have n8_ := Aside0.mk (below_step (zb HB.out) hb)
          clear HO_8
          clear HO_11
          clear HO_12
          clear HO_13
          clear HO_260000
          clear HO273
          clear BK241
          clear BK259
          clear HB
          have HO_8 := n0_
          have HO_11 := n1_
          have HO_12 := n2_
          have HO_13 := n3_
          have HO_260000 := n4_
          have HO273 := n5_
          have BK241 := n6_
          have BK259 := n7_
          have HB := n8_
          clear n0_ n1_ n2_ n3_ n4_ n5_ n6_ n7_ n8_
          (try clear hb)
          (try clear hb2)
          (try clear hk)
          (try clear hi)
          refine hK.out _ _ ⟨(blk_cell BK259.out 0).trans rfl, (blk_cell BK241.out 0).trans rfl⟩ (fun hHeld => ?_)
          clear hK K
          refine norm_ (a' := ?_) ?_ ?_
          rotate_left
          ·show Act.put _ (some 66) _ = _
           simp only [Act.put, List.setIfInBounds_toArray, List.set_cons_zero, List.set_cons_succ, i64_w, i32_w]
           rfl
          refine pure_ (i := 4) (N := some 67) (v := ?_) (a' := ?_) #[true, true, true, true, true] rfl rfl (by kernel_rfl) (fun _ _ _ h => h) (Or.inl ⟨by rfl, ?_⟩) ?_ ?_
          rotate_left
          ·intro w'
           go_simp
           with_reducible rfl
          rotate_left
          ·simp only [Act.put, List.setIfInBounds_toArray, List.set_cons_zero, List.set_cons_succ, i64_w, i32_w]
           rfl
          refine done_ (by kernel_rfl) ?_
          go_upto_region 26 with (first | ((with_reducible refine gate_callee (f := 28) rfl ?_); refine goesL_ (some 70) rfl rfl Try.func28 (by kernel_rfl) rfl #[.slice A1 l1.length c1] rfl zl ?_; (with_reducible refine (laws_toIntS.calls kj20 _ _ l1 t275 _ ?side1 ?side2 A55.out).mono ?_); (case side1 => exact zc (Kd.C_below HR1.out HB.out)); (case side2 => exact HC1.out); rintro e w69 ⟨v276, rfl, ho0, hb⟩; refine ⟨_, rfl, ?_⟩; have n0_ := Aside0.mk (Kd.R_elder' (zr HO_8.out) (Kd.R_base ho0) hb); have n1_ := Aside0.mk (Kd.R_elder' (zr HO_11.out) (Kd.R_base ho0) hb); have n2_ := Aside0.mk (Kd.R_elder' (zr HO_12.out) (Kd.R_base ho0) hb); have n3_ := Aside0.mk (Kd.R_elder' (zr HO_13.out) (Kd.R_base ho0) hb); have n4_ := Aside0.mk (Kd.R_below (zr HO_260000.out) hb); have n5_ := Aside0.mk (Kd.R_below (zr HO273.out) hb); have n6_ := Aside0.mk (Kd.R_lower (Kd.R_new' (Kd.R_new' (Kd.R_new' (Kd.R_new' ho0 (Kd.R_lt (zr HO_8.out))) (Kd.R_lt (zr HO_11.out))) (Kd.R_lt (zr HO_12.out))) (Kd.R_lt (zr HO_13.out))) (below_size (zb HB.out))); have n7_ := Aside0.mk (blk_below (zh BK241.out) hb); have n8_ := Aside0.mk (blk_below (zh BK259.out) hb); have n9_ := Aside0.mk (below_step (zb HB.out) hb); clear HO_8; clear HO_11; clear HO_12; clear HO_13; clear HO_260000; clear HO273; clear BK241; clear BK259; clear HB; have HO_8 := n0_; have HO_11 := n1_; have HO_12 := n2_; have HO_13 := n3_; have HO_260000 := n4_; have HO273 := n5_; have HO277 := n6_; have BK241 := n7_; have BK259 := n8_; have HB := n9_; clear n0_ n1_ n2_ n3_ n4_ n5_ n6_ n7_ n8_ n9_; (try clear hb); (try clear hb2); (try clear hk); (try clear hi); (try clear ho0); obtain ⟨Ao70, co70, eo70⟩ := Kd.R_slice HO277.out; subst eo70) | ((with_reducible refine gate_callee (f := 13) rfl ?_); refine goesL_ (some 71) rfl rfl Try.func13 (by kernel_rfl) rfl #[.slice Ao42 t260.length co42, .slice Ao70 t275.length co70] rfl zl ?_; (with_reducible refine (laws_eqIntS.calls kj20 _ _ t260 _ _ t275 true _ ?side1 ?side2 ?side3 ?side4 A56.out).mono ?_); (case side1 => exact zc (Kd.R_reads' HO_11.out).2.2); (case side2 => exact (Kd.R_reads' HO_11.out).2.1); (case side3 => exact zc (Kd.R_reads' HO277.out).2.2); (case side4 => exact (Kd.R_reads' HO277.out).2.1); rintro e w' ⟨rfl, ⟨nd, rfl⟩⟩; refine ⟨_, rfl, ?_⟩) | ((with_reducible refine gate_callee (f := 28) rfl ?_); refine goesL_ (some 75) rfl rfl Try.func28 (by kernel_rfl) rfl #[.slice A2 l2.length c2] rfl zl ?_; (with_reducible refine (laws_toIntS.calls kj20 _ _ l2 t279 _ ?side1 ?side2 A58.out).mono ?_); (case side1 => exact zc (Kd.C_below HR2.out (zb HB.out))); (case side2 => exact HC2.out); rintro e w71 ⟨v280, rfl, ho0, hb⟩; refine ⟨_, rfl, ?_⟩; have n0_ := Aside0.mk (Kd.R_elder' (zr HO_8.out) (Kd.R_base ho0) hb); have n1_ := Aside0.mk (Kd.R_elder' (zr HO_11.out) (Kd.R_base ho0) hb); have n2_ := Aside0.mk (Kd.R_elder' (zr HO_12.out) (Kd.R_base ho0) hb); have n3_ := Aside0.mk (Kd.R_elder' (zr HO_13.out) (Kd.R_base ho0) hb); have n4_ := Aside0.mk (Kd.R_below (zr HO_260000.out) hb); have n5_ := Aside0.mk (Kd.R_below (zr HO273.out) hb); have n6_ := Aside0.mk (Kd.R_elder' (zr HO277.out) (Kd.R_base ho0) hb); have n7_ := Aside0.mk (Kd.R_lower (Kd.R_new' (Kd.R_new' (Kd.R_new' (Kd.R_new' (Kd.R_new' ho0 (Kd.R_lt (zr HO_8.out))) (Kd.R_lt (zr HO_11.out))) (Kd.R_lt (zr HO_12.out))) (Kd.R_lt (zr HO_13.out))) (Kd.R_lt (zr HO277.out))) (below_size (zb HB.out))); have n8_ := Aside0.mk (blk_below (zh BK241.out) hb); have n9_ := Aside0.mk (blk_below (zh BK259.out) hb); have n10_ := Aside0.mk (below_step (zb HB.out) hb); clear HO_8; clear HO_11; clear HO_12; clear HO_13; clear HO_260000; clear HO273; clear HO277; clear BK241; clear BK259; clear HB; have HO_8 := n0_; have HO_11 := n1_; have HO_12 := n2_; have HO_13 := n3_; have HO_260000 := n4_; have HO273 := n5_; have HO277 := n6_; have HO281 := n7_; have BK241 := n8_; have BK259 := n9_; have HB := n10_; clear n0_ n1_ n2_ n3_ n4_ n5_ n6_ n7_ n8_ n9_ n10_; (try clear hb); (try clear hb2); (try clear hk); (try clear hi); (try clear ho0); obtain ⟨Ao72, co72, eo72⟩ := Kd.R_slice HO281.out; subst eo72) | ((with_reducible refine gate_callee (f := 13) rfl ?_); refine goesL_ (some 76) rfl rfl Try.func13 (by kernel_rfl) rfl #[.slice Ao43 t263.length co43, .slice Ao72 t279.length co72] rfl zl ?_; (with_reducible refine (laws_eqIntS.calls kj20 _ _ t263 _ _ t279 true _ ?side1 ?side2 ?side3 ?side4 A59.out).mono ?_); (case side1 => exact zc (Kd.R_reads' HO_12.out).2.2); (case side2 => exact (Kd.R_reads' HO_12.out).2.1); (case side3 => exact zc (Kd.R_reads' HO281.out).2.2); (case side4 => exact (Kd.R_reads' HO281.out).2.1); rintro e w' ⟨rfl, ⟨nd, rfl⟩⟩; refine ⟨_, rfl, ?_⟩; have hnb73 := NB259_241.out; have hnc73 := NB241_259.out; have hcz74_0 : w71.cell? ⟨gb259, 0, none⟩ = some (.slice Ao36 t256.length co36) := (blk_cell BK259.out 0).trans rfl; have hfz74_0 := blk_frozen BK259.out 0) | ((with_reducible refine gate_callee (f := 15) rfl ?_); refine goesL_ (some 80) rfl rfl Try.func15 (by kernel_rfl) rfl #[.agg #[.slice Ao36 t256.length co36], .int .i64 1] rfl zl ?_; (with_reducible refine (laws_markPool.calls kj20 (fun k_ => some k_ = (.slice Ao36 t256.length co36 : Value).ownBlock) (.slice Ao36 t256.length co36) t256 1 t283 t284 w _ ?side1 ?side2 A61.out).mono ?_); (case side1 => exact zb HB.out); (case side2 => exact Kd.R_tight rfl HO_260000.out); rintro e w75 ⟨rfl, hy0, hb, hkp⟩; refine ⟨_, rfl, ?_⟩; have n0_ := Aside0.mk (Kd.R_mono (ok' := fun k_ => some k_ ≠ (.slice Ao42 t260.length co42 : Value).ownBlock ∧ some k_ ≠ (.slice Ao43 t263.length co43 : Value).ownBlock ∧ some k_ ≠ (v267 : Value).ownBlock ∧ some k_ ≠ (.slice Ao70 t275.length co70 : Value).ownBlock ∧ some k_ ≠ (.slice Ao72 t279.length co72 : Value).ownBlock) (Kd.R_keptB ((Kd.R_apart' HO_8.out (Kd.R_typed HO_260000.out) (by decide))) hkp (fun k_ hk_ hs_ => by first | exact (hk_.2) hs_ | (revert hk_; simp only [and_imp]; intros; exact absurd hs_ (by assumption)))) (fun k_ hk_ => by first | exact ⟨hk_.1.1.1.1.1, hk_.1.1.1.1.2.1, hk_.1.1.1.1.2.2, hk_.1.1.1.2, hk_.1.1.2⟩ | (revert hk_; simp only [and_imp]; intros; and_intros <;> assumption))); have n1_ := Aside0.mk (Kd.R_mono (ok' := fun k_ => some k_ ≠ (v253 : Value).ownBlock ∧ some k_ ≠ (.slice Ao43 t263.length co43 : Value).ownBlock ∧ some k_ ≠ (v267 : Value).ownBlock ∧ some k_ ≠ (.slice Ao70 t275.length co70 : Value).ownBlock ∧ some k_ ≠ (.slice Ao72 t279.length co72 : Value).ownBlock) (Kd.R_keptB ((Kd.R_apart' HO_11.out (Kd.R_typed HO_260000.out) (by decide))) hkp (fun k_ hk_ hs_ => by first | exact (hk_.2) hs_ | (revert hk_; simp only [and_imp]; intros; exact absurd hs_ (by assumption)))) (fun k_ hk_ => by first | exact ⟨hk_.1.1.1.1.1, hk_.1.1.1.1.2.1, hk_.1.1.1.1.2.2, hk_.1.1.1.2, hk_.1.1.2⟩ | (revert hk_; simp only [and_imp]; intros; and_intros <;> assumption))); have n2_ := Aside0.mk (Kd.R_mono (ok' := fun k_ => some k_ ≠ (v253 : Value).ownBlock ∧ some k_ ≠ (.slice Ao42 t260.length co42 : Value).ownBlock ∧ some k_ ≠ (v267 : Value).ownBlock ∧ some k_ ≠ (.slice Ao70 t275.length co70 : Value).ownBlock ∧ some k_ ≠ (.slice Ao72 t279.length co72 : Value).ownBlock) (Kd.R_keptB ((Kd.R_apart' HO_12.out (Kd.R_typed HO_260000.out) (by decide))) hkp (fun k_ hk_ hs_ => by first | exact (hk_.2) hs_ | (revert hk_; simp only [and_imp]; intros; exact absurd hs_ (by assumption)))) (fun k_ hk_ => by first | exact ⟨hk_.1.1.1.1.1, hk_.1.1.1.1.2.1, hk_.1.1.1.1.2.2, hk_.1.1.1.2, hk_.1.1.2⟩ | (revert hk_; simp only [and_imp]; intros; and_intros <;> assumption))); have n3_ := Aside0.mk (Kd.R_mono (ok' := fun k_ => some k_ ≠ (v253 : Value).ownBlock ∧ some k_ ≠ (.slice Ao42 t260.length co42 : Value).ownBlock ∧ some k_ ≠ (.slice Ao43 t263.length co43 : Value).ownBlock ∧ some k_ ≠ (.slice Ao70 t275.length co70 : Value).ownBlock ∧ some k_ ≠ (.slice Ao72 t279.length co72 : Value).ownBlock) (Kd.R_keptB ((Kd.R_apart' HO_13.out (Kd.R_typed HO_260000.out) (by decide))) hkp (fun k_ hk_ hs_ => by first | exact (hk_.2) hs_ | (revert hk_; simp only [and_imp]; intros; exact absurd hs_ (by assumption)))) (fun k_ hk_ => by first | exact ⟨hk_.1.1.1.1.1, hk_.1.1.1.1.2.1, hk_.1.1.1.1.2.2, hk_.1.1.1.2, hk_.1.1.2⟩ | (revert hk_; simp only [and_imp]; intros; and_intros <;> assumption))); have n4_ := Aside0.mk (Kd.R_reok rfl hy0 (fun k_ e_ => HO_260000.out.1 k_ e_)); have n5_ := Aside0.mk (blk_kept (zh BK241.out) hkp (fun hs_ => (fun e_ => (Kd.R_ne HO_260000.out BK241.out (by decide)) e_) hs_)); have n6_ := Aside0.mk (blk_kept (zh BK259.out) hkp (fun hs_ => (fun e_ => (Kd.R_ne HO_260000.out BK259.out (by decide)) e_) hs_)); have n7_ := Aside0.mk (Kd.R_mono (ok' := fun k_ => some k_ ≠ (.slice Ao36 t256.length co36 : Value).ownBlock) (Kd.R_keptB (HO273.out) hkp (fun k_ hk_ hs_ => by first | exact (hk_.2) hs_ | (revert hk_; simp only [and_imp]; intros; exact absurd hs_ (by assumption)))) (fun k_ hk_ => by first | exact hk_.1.2 | (revert hk_; simp only [and_imp]; intros; and_intros <;> assumption))); have n8_ := Aside0.mk (Kd.R_mono (ok' := fun k_ => some k_ ≠ (v253 : Value).ownBlock ∧ some k_ ≠ (.slice Ao42 t260.length co42 : Value).ownBlock ∧ some k_ ≠ (.slice Ao43 t263.length co43 : Value).ownBlock ∧ some k_ ≠ (v267 : Value).ownBlock ∧ some k_ ≠ (.slice Ao72 t279.length co72 : Value).ownBlock) (Kd.R_keptB ((Kd.R_apart' HO277.out (Kd.R_typed HO_260000.out) (by decide))) hkp (fun k_ hk_ hs_ => by first | exact (hk_.2) hs_ | (revert hk_; simp only [and_imp]; intros; exact absurd hs_ (by assumption)))) (fun k_ hk_ => by first | exact ⟨hk_.1.1.1.1.1.1.2, hk_.1.1.1.1.1.2, hk_.1.1.1.1.2, hk_.1.1.1.2, hk_.1.1.2⟩ | (revert hk_; simp only [and_imp]; intros; and_intros <;> assumption))); have n9_ := Aside0.mk (Kd.R_mono (ok' := fun k_ => some k_ ≠ (v253 : Value).ownBlock ∧ some k_ ≠ (.slice Ao42 t260.length co42 : Value).ownBlock ∧ some k_ ≠ (.slice Ao43 t263.length co43 : Value).ownBlock ∧ some k_ ≠ (v267 : Value).ownBlock ∧ some k_ ≠ (.slice Ao70 t275.length co70 : Value).ownBlock) (Kd.R_keptB ((Kd.R_apart' HO281.out (Kd.R_typed HO_260000.out) (by decide))) hkp (fun k_ hk_ hs_ => by first | exact (hk_.2) hs_ | (revert hk_; simp only [and_imp]; intros; exact absurd hs_ (by assumption)))) (fun k_ hk_ => by first | exact ⟨hk_.1.1.1.1.1.1.2, hk_.1.1.1.1.1.2, hk_.1.1.1.1.2, hk_.1.1.1.2, hk_.1.1.2⟩ | (revert hk_; simp only [and_imp]; intros; and_intros <;> assumption))); have n10_ := Aside0.mk (hb); clear HO_8; clear HO_11; clear HO_12; clear HO_13; clear HO_260000; clear BK241; clear BK259; clear HO273; clear HO277; clear HO281; clear HB; have HO_8 := n0_; have HO_11 := n1_; have HO_12 := n2_; have HO_13 := n3_; have HO_260000 := n4_; have BK241 := n5_; have BK259 := n6_; have HO273 := n7_; have HO277 := n8_; have HO281 := n9_; have HB := n10_; clear n0_ n1_ n2_ n3_ n4_ n5_ n6_ n7_ n8_ n9_ n10_; (try clear hb); (try clear hkp); (try clear hy0)) | ((with_reducible refine gate_callee (f := 16) rfl ?_); refine goesL_ (some 83) rfl rfl Try.func16 (by kernel_rfl) rfl #[.slice Ao42 t260.length co42, .int .i64 t283] rfl zl ?_; (with_reducible refine (laws_markIntS.calls kj20 (fun k_ => some k_ = (.slice Ao42 t260.length co42 : Value).ownBlock) (.slice Ao42 t260.length co42) t260 t283 t285 t286 w _ ?side1 ?side2 A62.out).mono ?_); (case side1 => exact zb HB.out); (case side2 => exact Kd.R_tight rfl HO_11.out); rintro e w76 ⟨rfl, hy0, hb, hkp⟩; refine ⟨_, rfl, ?_⟩; have n0_ := Aside0.mk (Kd.R_mono (ok' := fun k_ => some k_ ≠ (.slice Ao42 t260.length co42 : Value).ownBlock ∧ some k_ ≠ (.slice Ao43 t263.length co43 : Value).ownBlock ∧ some k_ ≠ (v267 : Value).ownBlock ∧ some k_ ≠ (.slice Ao70 t275.length co70 : Value).ownBlock ∧ some k_ ≠ (.slice Ao72 t279.length co72 : Value).ownBlock) (Kd.R_keptB (HO_8.out) hkp (fun k_ hk_ hs_ => by first | exact (hk_.1) hs_ | (revert hk_; simp only [and_imp]; intros; exact absurd hs_ (by assumption)))) (fun k_ hk_ => by first | exact ⟨hk_.1.1, hk_.1.2.1, hk_.1.2.2.1, hk_.1.2.2.2.1, hk_.1.2.2.2.2⟩ | (revert hk_; simp only [and_imp]; intros; and_intros <;> assumption))); have n1_ := Aside0.mk (Kd.R_reok rfl hy0 (fun k_ e_ => HO_11.out.1 k_ e_)); have n2_ := Aside0.mk (Kd.R_mono (ok' := fun k_ => some k_ ≠ (v253 : Value).ownBlock ∧ some k_ ≠ (.slice Ao42 t260.length co42 : Value).ownBlock ∧ some k_ ≠ (v267 : Value).ownBlock ∧ some k_ ≠ (.slice Ao70 t275.length co70 : Value).ownBlock ∧ some k_ ≠ (.slice Ao72 t279.length co72 : Value).ownBlock) (Kd.R_keptB (HO_12.out) hkp (fun k_ hk_ hs_ => by first | exact (hk_.2.1) hs_ | (revert hk_; simp only [and_imp]; intros; exact absurd hs_ (by assumption)))) (fun k_ hk_ => by first | exact ⟨hk_.1.1, hk_.1.2.1, hk_.1.2.2.1, hk_.1.2.2.2.1, hk_.1.2.2.2.2⟩ | (revert hk_; simp only [and_imp]; intros; and_intros <;> assumption))); have n3_ := Aside0.mk (Kd.R_mono (ok' := fun k_ => some k_ ≠ (v253 : Value).ownBlock ∧ some k_ ≠ (.slice Ao42 t260.length co42 : Value).ownBlock ∧ some k_ ≠ (.slice Ao43 t263.length co43 : Value).ownBlock ∧ some k_ ≠ (.slice Ao70 t275.length co70 : Value).ownBlock ∧ some k_ ≠ (.slice Ao72 t279.length co72 : Value).ownBlock) (Kd.R_keptB (HO_13.out) hkp (fun k_ hk_ hs_ => by first | exact (hk_.2.1) hs_ | (revert hk_; simp only [and_imp]; intros; exact absurd hs_ (by assumption)))) (fun k_ hk_ => by first | exact ⟨hk_.1.1, hk_.1.2.1, hk_.1.2.2.1, hk_.1.2.2.2.1, hk_.1.2.2.2.2⟩ | (revert hk_; simp only [and_imp]; intros; and_intros <;> assumption))); have n4_ := Aside0.mk (Kd.R_mono (ok' := fun k_ => some k_ ≠ (.slice Ao67 t271.length co67 : Value).ownBlock) (Kd.R_keptB ((Kd.R_apart' HO_260000.out (Kd.R_typed HO_11.out) (by decide))) hkp (fun k_ hk_ hs_ => by first | exact (hk_.2) hs_ | (revert hk_; simp only [and_imp]; intros; exact absurd hs_ (by assumption)))) (fun k_ hk_ => by first | exact hk_.1.1.2 | (revert hk_; simp only [and_imp]; intros; and_intros <;> assumption))); have n5_ := Aside0.mk (blk_kept (zh BK241.out) hkp (fun hs_ => (fun e_ => (Kd.R_ne HO_11.out BK241.out (by decide)) e_) hs_)); have n6_ := Aside0.mk (blk_kept (zh BK259.out) hkp (fun hs_ => (fun e_ => (Kd.R_ne HO_11.out BK259.out (by decide)) e_) hs_)); have n7_ := Aside0.mk (Kd.R_mono (ok' := fun k_ => some k_ ≠ (.slice Ao36 t256.length co36 : Value).ownBlock) (Kd.R_keptB ((Kd.R_apart' HO273.out (Kd.R_typed HO_11.out) (by decide))) hkp (fun k_ hk_ hs_ => by first | exact (hk_.2) hs_ | (revert hk_; simp only [and_imp]; intros; exact absurd hs_ (by assumption)))) (fun k_ hk_ => by first | exact hk_.1.1 | (revert hk_; simp only [and_imp]; intros; and_intros <;> assumption))); have n8_ := Aside0.mk (Kd.R_mono (ok' := fun k_ => some k_ ≠ (v253 : Value).ownBlock ∧ some k_ ≠ (.slice Ao42 t260.length co42 : Value).ownBlock ∧ some k_ ≠ (.slice Ao43 t263.length co43 : Value).ownBlock ∧ some k_ ≠ (v267 : Value).ownBlock ∧ some k_ ≠ (.slice Ao72 t279.length co72 : Value).ownBlock) (Kd.R_keptB (HO277.out) hkp (fun k_ hk_ hs_ => by first | exact (hk_.2.1) hs_ | (revert hk_; simp only [and_imp]; intros; exact absurd hs_ (by assumption)))) (fun k_ hk_ => by first | exact ⟨hk_.1.1, hk_.1.2.1, hk_.1.2.2.1, hk_.1.2.2.2.1, hk_.1.2.2.2.2⟩ | (revert hk_; simp only [and_imp]; intros; and_intros <;> assumption))); have n9_ := Aside0.mk (Kd.R_mono (ok' := fun k_ => some k_ ≠ (v253 : Value).ownBlock ∧ some k_ ≠ (.slice Ao42 t260.length co42 : Value).ownBlock ∧ some k_ ≠ (.slice Ao43 t263.length co43 : Value).ownBlock ∧ some k_ ≠ (v267 : Value).ownBlock ∧ some k_ ≠ (.slice Ao70 t275.length co70 : Value).ownBlock) (Kd.R_keptB (HO281.out) hkp (fun k_ hk_ hs_ => by first | exact (hk_.2.1) hs_ | (revert hk_; simp only [and_imp]; intros; exact absurd hs_ (by assumption)))) (fun k_ hk_ => by first | exact ⟨hk_.1.1, hk_.1.2.1, hk_.1.2.2.1, hk_.1.2.2.2.1, hk_.1.2.2.2.2⟩ | (revert hk_; simp only [and_imp]; intros; and_intros <;> assumption))); have n10_ := Aside0.mk (hb); clear HO_8; clear HO_11; clear HO_12; clear HO_13; clear HO_260000; clear BK241; clear BK259; clear HO273; clear HO277; clear HO281; clear HB; have HO_8 := n0_; have HO_11 := n1_; have HO_12 := n2_; have HO_13 := n3_; have HO_260000 := n4_; have BK241 := n5_; have BK259 := n6_; have HO273 := n7_; have HO277 := n8_; have HO281 := n9_; have HB := n10_; clear n0_ n1_ n2_ n3_ n4_ n5_ n6_ n7_ n8_ n9_ n10_; (try clear hb); (try clear hkp); (try clear hy0)) | ((with_reducible refine gate_callee (f := 16) rfl ?_); refine goesL_ (some 86) rfl rfl Try.func16 (by kernel_rfl) rfl #[.slice Ao43 t263.length co43, .int .i64 t285] rfl zl ?_; (with_reducible refine (laws_markIntS.calls kj20 (fun k_ => some k_ = (.slice Ao43 t263.length co43 : Value).ownBlock) (.slice Ao43 t263.length co43) t263 t285 t287 t288 w _ ?side1 ?side2 A63.out).mono ?_); (case side1 => exact zb HB.out); (case side2 => exact Kd.R_tight rfl HO_12.out); rintro e w77 ⟨rfl, hy0, hb, hkp⟩; refine ⟨_, rfl, ?_⟩; have n0_ := Aside0.mk (Kd.R_mono (ok' := fun k_ => some k_ ≠ (.slice Ao42 t260.length co42 : Value).ownBlock ∧ some k_ ≠ (.slice Ao43 t263.length co43 : Value).ownBlock ∧ some k_ ≠ (v267 : Value).ownBlock ∧ some k_ ≠ (.slice Ao70 t275.length co70 : Value).ownBlock ∧ some k_ ≠ (.slice Ao72 t279.length co72 : Value).ownBlock) (Kd.R_keptB (HO_8.out) hkp (fun k_ hk_ hs_ => by first | exact (hk_.2.1) hs_ | (revert hk_; simp only [and_imp]; intros; exact absurd hs_ (by assumption)))) (fun k_ hk_ => by first | exact ⟨hk_.1.1, hk_.1.2.1, hk_.1.2.2.1, hk_.1.2.2.2.1, hk_.1.2.2.2.2⟩ | (revert hk_; simp only [and_imp]; intros; and_intros <;> assumption))); have n1_ := Aside0.mk (Kd.R_mono (ok' := fun k_ => some k_ ≠ (v253 : Value).ownBlock ∧ some k_ ≠ (.slice Ao43 t263.length co43 : Value).ownBlock ∧ some k_ ≠ (v267 : Value).ownBlock ∧ some k_ ≠ (.slice Ao70 t275.length co70 : Value).ownBlock ∧ some k_ ≠ (.slice Ao72 t279.length co72 : Value).ownBlock) (Kd.R_keptB (HO_11.out) hkp (fun k_ hk_ hs_ => by first | exact (hk_.2.1) hs_ | (revert hk_; simp only [and_imp]; intros; exact absurd hs_ (by assumption)))) (fun k_ hk_ => by first | exact ⟨hk_.1.1, hk_.1.2.1, hk_.1.2.2.1, hk_.1.2.2.2.1, hk_.1.2.2.2.2⟩ | (revert hk_; simp only [and_imp]; intros; and_intros <;> assumption))); have n2_ := Aside0.mk (Kd.R_reok rfl hy0 (fun k_ e_ => HO_12.out.1 k_ e_)); have n3_ := Aside0.mk (Kd.R_mono (ok' := fun k_ => some k_ ≠ (v253 : Value).ownBlock ∧ some k_ ≠ (.slice Ao42 t260.length co42 : Value).ownBlock ∧ some k_ ≠ (.slice Ao43 t263.length co43 : Value).ownBlock ∧ some k_ ≠ (.slice Ao70 t275.length co70 : Value).ownBlock ∧ some k_ ≠ (.slice Ao72 t279.length co72 : Value).ownBlock) (Kd.R_keptB (HO_13.out) hkp (fun k_ hk_ hs_ => by first | exact (hk_.2.2.1) hs_ | (revert hk_; simp only [and_imp]; intros; exact absurd hs_ (by assumption)))) (fun k_ hk_ => by first | exact ⟨hk_.1.1, hk_.1.2.1, hk_.1.2.2.1, hk_.1.2.2.2.1, hk_.1.2.2.2.2⟩ | (revert hk_; simp only [and_imp]; intros; and_intros <;> assumption))); have n4_ := Aside0.mk (Kd.R_mono (ok' := fun k_ => some k_ ≠ (.slice Ao67 t271.length co67 : Value).ownBlock) (Kd.R_keptB ((Kd.R_apart' HO_260000.out (Kd.R_typed HO_12.out) (by decide))) hkp (fun k_ hk_ hs_ => by first | exact (hk_.2) hs_ | (revert hk_; simp only [and_imp]; intros; exact absurd hs_ (by assumption)))) (fun k_ hk_ => by first | exact hk_.1.1 | (revert hk_; simp only [and_imp]; intros; and_intros <;> assumption))); have n5_ := Aside0.mk (blk_kept (zh BK241.out) hkp (fun hs_ => (fun e_ => (Kd.R_ne HO_12.out BK241.out (by decide)) e_) hs_)); have n6_ := Aside0.mk (blk_kept (zh BK259.out) hkp (fun hs_ => (fun e_ => (Kd.R_ne HO_12.out BK259.out (by decide)) e_) hs_)); have n7_ := Aside0.mk (Kd.R_mono (ok' := fun k_ => some k_ ≠ (.slice Ao36 t256.length co36 : Value).ownBlock) (Kd.R_keptB ((Kd.R_apart' HO273.out (Kd.R_typed HO_12.out) (by decide))) hkp (fun k_ hk_ hs_ => by first | exact (hk_.2) hs_ | (revert hk_; simp only [and_imp]; intros; exact absurd hs_ (by assumption)))) (fun k_ hk_ => by first | exact hk_.1.1 | (revert hk_; simp only [and_imp]; intros; and_intros <;> assumption))); have n8_ := Aside0.mk (Kd.R_mono (ok' := fun k_ => some k_ ≠ (v253 : Value).ownBlock ∧ some k_ ≠ (.slice Ao42 t260.length co42 : Value).ownBlock ∧ some k_ ≠ (.slice Ao43 t263.length co43 : Value).ownBlock ∧ some k_ ≠ (v267 : Value).ownBlock ∧ some k_ ≠ (.slice Ao72 t279.length co72 : Value).ownBlock) (Kd.R_keptB (HO277.out) hkp (fun k_ hk_ hs_ => by first | exact (hk_.2.2.1) hs_ | (revert hk_; simp only [and_imp]; intros; exact absurd hs_ (by assumption)))) (fun k_ hk_ => by first | exact ⟨hk_.1.1, hk_.1.2.1, hk_.1.2.2.1, hk_.1.2.2.2.1, hk_.1.2.2.2.2⟩ | (revert hk_; simp only [and_imp]; intros; and_intros <;> assumption))); have n9_ := Aside0.mk (Kd.R_mono (ok' := fun k_ => some k_ ≠ (v253 : Value).ownBlock ∧ some k_ ≠ (.slice Ao42 t260.length co42 : Value).ownBlock ∧ some k_ ≠ (.slice Ao43 t263.length co43 : Value).ownBlock ∧ some k_ ≠ (v267 : Value).ownBlock ∧ some k_ ≠ (.slice Ao70 t275.length co70 : Value).ownBlock) (Kd.R_keptB (HO281.out) hkp (fun k_ hk_ hs_ => by first | exact (hk_.2.2.1) hs_ | (revert hk_; simp only [and_imp]; intros; exact absurd hs_ (by assumption)))) (fun k_ hk_ => by first | exact ⟨hk_.1.1, hk_.1.2.1, hk_.1.2.2.1, hk_.1.2.2.2.1, hk_.1.2.2.2.2⟩ | (revert hk_; simp only [and_imp]; intros; and_intros <;> assumption))); have n10_ := Aside0.mk (hb); clear HO_8; clear HO_11; clear HO_12; clear HO_13; clear HO_260000; clear BK241; clear BK259; clear HO273; clear HO277; clear HO281; clear HB; have HO_8 := n0_; have HO_11 := n1_; have HO_12 := n2_; have HO_13 := n3_; have HO_260000 := n4_; have BK241 := n5_; have BK259 := n6_; have HO273 := n7_; have HO277 := n8_; have HO281 := n9_; have HB := n10_; clear n0_ n1_ n2_ n3_ n4_ n5_ n6_ n7_ n8_ n9_ n10_; (try clear hb); (try clear hkp); (try clear hy0)))
          (try simp only [Act.put, List.setIfInBounds_toArray, List.set_cons_zero, List.set_cons_succ])
          go_cut [99] (fun v99 wc => ∃ (kq : Nat) (x99_63 : Bool), v99 = .bool x99_63 ∧ Aside0 (laws_FnExactKnowJoin.j1 kq l1 l2 t252 t255 t266 x99_63 l0_0 = some r) ∧ Aside0 (kq ≤ kj20) ∧ Aside0 (Kd.R (Kd.int .i64) 3 wc w.heap.size (fun k_ => some k_ ≠ (v267 : Value).ownBlock) v253 t252) ∧ Aside0 (Kd.R (Kd.int .i64) 3 wc w.heap.size (fun k_ => some k_ ≠ (v253 : Value).ownBlock) v267 t266) ∧ Aside0 (Kd.R k44 44 wc w.heap.size (fun _ => True) (.slice Ao36 t256.length co36) t284) ∧ Aside0 (wc.heap[gb241]? = some (.cells #[(.slice A0_0 l0_0.length c0_0)] 24 (0, 0))) ∧ Aside0 (wc.heap[gb259]? = some (.cells #[(.slice Ao36 t256.length co36)] 30 (0, 0))) ∧ Aside0 (Below w.heap.size w wc))
          case first =>
           have H := HC64.out
           clear HC64
           by_cases c78 : t287 < 0
           ·rw [if_pos c78] at H
            have c78b0 : decide (t287 < 0) = true := decide_eq_true c78
            clear c78
            (first | rw [c78b0] | (simp only [i64_w, i32_w]; rw [c78b0]) | skip)
            have H' := Aside0.mk H
            clear H
            go_wp2
            go_meet
            case rel => exact ⟨_, (true), (by first | rfl | (simp; done) | (simp [*]; done)), H', ⟨by have := HJ20.out; first | omega | exact Nat.le_refl _⟩, ⟨zr (Kd.R_mono HO_8.out (fun _ hk => hk.2.2.1))⟩, ⟨zr (Kd.R_mono HO_13.out (fun _ hk => hk.1))⟩, ⟨zr (Kd.R_mono HO_260000.out (fun _ hk => trivial))⟩, ⟨zh BK241.out⟩, ⟨zh BK259.out⟩, ⟨zb HB.out⟩⟩
           ·rw [if_neg c78] at H
            have c78b0 : decide (t287 < 0) = false := decide_eq_false c78
            clear c78
            (first | rw [c78b0] | (simp only [i64_w, i32_w]; rw [c78b0]) | skip)
            replace H := Option.bind_eq_some_iff.mp H
            obtain ⟨t289, A790, H⟩ := H
            replace H : (if t289 = true then (laws_FnExactKnowJoin.j1 kj20 l1 l2 t252 t255 t266 (t269 != t255) l0_0) else (laws_FnExactKnowJoin.j1 kj20 l1 l2 t252 t255 t266 true l0_0)) = some r := H
            have A79 := Aside0.mk A790
            clear A790
            by_cases c80 : t289 = true
            ·subst c80
             have H1 : (laws_FnExactKnowJoin.j1 kj20 l1 l2 t252 t255 t266 (t269 != t255) l0_0) = some r := by rw [if_pos rfl] at H; exact H
             clear H
             have H := H1
             clear H1
             have H' := Aside0.mk H
             clear H
             obtain ⟨Ao81, co81, eo81⟩ := Kd.R_slice HO_13.out
             subst eo81
             obtain ⟨Ao82, co82, eo82⟩ := Kd.R_slice HO_8.out
             subst eo82
             go_wp2_with (first | (go_at_call 13; (try simp only [RowClip.clipv_slice]); (with_reducible refine (laws_eqIntS.calls kj20 _ _ t266 _ _ t252 true _ ?side1 ?side2 ?side3 ?side4 A79.out).mono ?_); (case side1 => exact zc (Kd.R_reads' HO_13.out).2.2); (case side2 => exact Nat.le_refl _); (case side3 => exact zc (Kd.R_reads' HO_8.out).2.2); (case side4 => exact (Kd.R_reads' HO_8.out).2.1); rintro e w' ⟨rfl, ⟨nd, rfl⟩⟩))
             go_meet
             case rel => exact ⟨_, ((t269 != t255)), (by first | rfl | (simp; done) | (simp [*]; done)), H', ⟨by have := HJ20.out; first | omega | exact Nat.le_refl _⟩, ⟨zr (Kd.R_mono HO_8.out (fun _ hk => hk.2.2.1))⟩, ⟨zr (Kd.R_mono HO_13.out (fun _ hk => hk.1))⟩, ⟨zr (Kd.R_mono HO_260000.out (fun _ hk => trivial))⟩, ⟨zh BK241.out⟩, ⟨zh BK259.out⟩, ⟨zb HB.out⟩⟩
            ·replace c80 := Bool.eq_false_iff.mpr c80
             subst c80
             have H1 : (laws_FnExactKnowJoin.j1 kj20 l1 l2 t252 t255 t266 true l0_0) = some r := by rw [if_neg (show ¬ (false = true) by decide)] at H; exact H
             clear H
             have H := H1
             clear H1
             have H' := Aside0.mk H
             clear H
             obtain ⟨Ao83, co83, eo83⟩ := Kd.R_slice HO_13.out
             subst eo83
             obtain ⟨Ao84, co84, eo84⟩ := Kd.R_slice HO_8.out
             subst eo84
             go_wp2_with (first | (go_at_call 13; (try simp only [RowClip.clipv_slice]); (with_reducible refine (laws_eqIntS.calls kj20 _ _ t266 _ _ t252 false _ ?side1 ?side2 ?side3 ?side4 A79.out).mono ?_); (case side1 => exact zc (Kd.R_reads' HO_13.out).2.2); (case side2 => exact Nat.le_refl _); (case side3 => exact zc (Kd.R_reads' HO_8.out).2.2); (case side4 => exact (Kd.R_reads' HO_8.out).2.1); rintro e w' ⟨rfl, ⟨nd, rfl⟩⟩))
             go_meet
             case rel => exact ⟨_, (true), (by first | rfl | (simp; done) | (simp [*]; done)), H', ⟨by have := HJ20.out; first | omega | exact Nat.le_refl _⟩, ⟨zr (Kd.R_mono HO_8.out (fun _ hk => hk.2.2.1))⟩, ⟨zr (Kd.R_mono HO_13.out (fun _ hk => hk.1))⟩, ⟨zr (Kd.R_mono HO_260000.out (fun _ hk => trivial))⟩, ⟨zh BK241.out⟩, ⟨zh BK259.out⟩, ⟨zb HB.out⟩⟩
          case rest =>
           clear HC64
           try clear c1
           try clear c2
           try clear p2
           try clear c3
           try clear c4
           try clear c4b0
           try clear c4b1
           try clear c5
           try clear c6
           try clear c6b0
           try clear c6b1
           try clear c7
           try clear c8
           try clear c9
           try clear c9b0
           try clear c11
           try clear c13
           try clear c14
           try clear c15
           try clear c16
           try clear c27
           try clear c28
           try clear c29
           try clear c37
           try clear c46
           try clear c51
           try clear c54
           try clear c57
           try clear c60
           try clear c73
           try clear c78
           try clear c78b0
           try clear c80
           try clear hcz11_0
           try clear hcz23_0
           try clear hcz25_0
           try clear hcz33_0
           try clear hcz38_0
           try clear hcz41_0
           try clear hcz74_0
           try clear hfz11_0
           try clear hfz23_0
           try clear hfz25_0
           try clear hfz33_0
           try clear hfz38_0
           try clear hfz41_0
           try clear hfz74_0
           try clear p2
           obtain ⟨kq, x99_63, rfl, HA, HJ63, HO_8, HO_13, HO_260000, BK241, BK259, HB⟩ := hcut
           have hl260000_63 := (Kd.R_reads' HO_260000.out).1
           rw [hl260000_63] at HO_260000
           (try simp only [hl260000_63])
           (try simp only [hl260000_63] at BK241)
           (try simp only [hl260000_63] at BK259)
           (try simp only [hl260000_63] at HO_8)
           (try simp only [hl260000_63] at HO_13)
           cases kq with
           | zero => exact absurd HA.out (by simp [laws_FnExactKnowJoin.j1])
           | succ kj63 =>
            have H := HA.out
            clear HA
            simp only [laws_FnExactKnowJoin.j1] at H
            by_cases c85 : x99_63 = true
            ·subst c85
             have H1 : (some false) = some r := by rw [if_pos rfl] at H; exact H
             clear H
             have H := H1
             clear H1
             obtain rfl := Option.some.inj H
             go_wp2
             go_ret
             exact ⟨ze, zb HB.out⟩
            ·replace c85 := Bool.eq_false_iff.mpr c85
             subst c85
             have H1 : ((laws_markIntS.f kj63 t266 1).bind fun bt290 => ((laws_heldIntS.f kj63 bt290.2 1).bind fun t292 => (if t292 < 0 then (some false) else (if t292 = bt290.1 then ((laws_toPool.f kj63 l0_0).bind fun t293 => ((laws_toIntS.f kj63 l1).bind fun t296 => ((laws_toIntS.f kj63 l2).bind fun t299 => ((impl_KnowJoin.f kj63 t293 t296 t299).bind fun bt302 => ((laws_eqIntS.f kj63 bt302.1 t252).bind fun t306 => (if t306 = true then (laws_FnExactKnowJoin.j2 kj63 bt290.2 bt290.1 (bt302.2 != t255)) else (laws_FnExactKnowJoin.j2 kj63 bt290.2 bt290.1 true))))))) else (some false))))) = some r := by rw [if_neg (show ¬ (false = true) by decide)] at H; exact H
             clear H
             have H := H1
             clear H1
             replace H := Option.bind_eq_some_iff.mp H
             obtain ⟨⟨t290, t291⟩, A860, H⟩ := H
             replace H : ((laws_heldIntS.f kj63 t291 1).bind fun t292 => (if t292 < 0 then (some false) else (if t292 = t290 then ((laws_toPool.f kj63 l0_0).bind fun t293 => ((laws_toIntS.f kj63 l1).bind fun t296 => ((laws_toIntS.f kj63 l2).bind fun t299 => ((impl_KnowJoin.f kj63 t293 t296 t299).bind fun bt302 => ((laws_eqIntS.f kj63 bt302.1 t252).bind fun t306 => (if t306 = true then (laws_FnExactKnowJoin.j2 kj63 t291 t290 (bt302.2 != t255)) else (laws_FnExactKnowJoin.j2 kj63 t291 t290 true))))))) else (some false)))) = some r := H
             have A86 := Aside0.mk A860
             clear A860
             replace H := Option.bind_eq_some_iff.mp H
             obtain ⟨t292, A870, H⟩ := H
             replace H : (if t292 < 0 then (some false) else (if t292 = t290 then ((laws_toPool.f kj63 l0_0).bind fun t293 => ((laws_toIntS.f kj63 l1).bind fun t296 => ((laws_toIntS.f kj63 l2).bind fun t299 => ((impl_KnowJoin.f kj63 t293 t296 t299).bind fun bt302 => ((laws_eqIntS.f kj63 bt302.1 t252).bind fun t306 => (if t306 = true then (laws_FnExactKnowJoin.j2 kj63 t291 t290 (bt302.2 != t255)) else (laws_FnExactKnowJoin.j2 kj63 t291 t290 true))))))) else (some false))) = some r := H
             have A87 := Aside0.mk A870
             clear A870
             by_cases c88 : t292 < 0
             ·rw [if_pos c88] at H
              have c88b0 : decide (t292 < 0) = true := decide_eq_true c88
              clear c88
              obtain rfl := Option.some.inj H
              obtain ⟨Ao89, co89, eo89⟩ := Kd.R_slice HO_13.out
              subst eo89
              go_wp2_with (first | ((with_reducible refine gate_callee (f := 16) rfl ?_); refine goesL_ (some 102) rfl rfl Try.func16 (by kernel_rfl) rfl #[.slice Ao89 t266.length t266.length, .int .i64 1] rfl zl ?_; (with_reducible refine (laws_markIntS.callsC kj63 (fun k_ => some k_ = (.slice Ao89 t266.length co89 : Value).ownBlock) Ao89 co89 t266 1 t290 t291 w _ ?side1 ?side2 A86.out).mono ?_); (case side1 => exact zb HB.out); (case side2 => exact Kd.R_tight rfl HO_13.out); rintro e w90 ⟨rfl, hy0, hb, hkp⟩; refine ⟨_, rfl, ?_⟩; have n0_ := Aside0.mk (Kd.R_mono (ok' := fun k_ => some k_ ≠ (.slice Ao89 t266.length co89 : Value).ownBlock) (Kd.R_keptB (HO_8.out) hkp (fun k_ hk_ hs_ => by first | exact (hk_) hs_ | (revert hk_; simp only [and_imp]; intros; exact absurd hs_ (by assumption)))) (fun k_ hk_ => by first | exact hk_.1 | (revert hk_; simp only [and_imp]; intros; and_intros <;> assumption))); have n1_ := Aside0.mk (Kd.R_reok rfl hy0 (fun k_ e_ => HO_13.out.1 k_ e_)); have n2_ := Aside0.mk (Kd.R_mono (ok' := fun k_ => True) (Kd.R_keptB ((Kd.R_apart' HO_260000.out (Kd.R_typed HO_13.out) (by decide))) hkp (fun k_ hk_ hs_ => by first | exact (hk_.2) hs_ | (revert hk_; simp only [and_imp]; intros; exact absurd hs_ (by assumption)))) (fun k_ hk_ => trivial)); have n3_ := Aside0.mk (blk_kept (zh BK241.out) hkp (fun hs_ => (fun e_ => (Kd.R_ne HO_13.out BK241.out (by decide)) e_) hs_)); have n4_ := Aside0.mk (blk_kept (zh BK259.out) hkp (fun hs_ => (fun e_ => (Kd.R_ne HO_13.out BK259.out (by decide)) e_) hs_)); have n5_ := Aside0.mk (hb); clear HO_8; clear HO_13; clear HO_260000; clear BK241; clear BK259; clear HB; have HO_8 := n0_; have HO_13 := n1_; have HO_260000 := n2_; have BK241 := n3_; have BK259 := n4_; have HB := n5_; clear n0_ n1_ n2_ n3_ n4_ n5_; (try clear hb); (try clear hkp); (try clear hy0)) | ((with_reducible refine gate_callee (f := 17) rfl ?_); refine goesL_ (some 105) rfl rfl Try.func17 (by kernel_rfl) rfl #[.slice Ao89 t291.length t291.length, .int .i64 1] rfl (by (try simp only [List.map_toArray, List.map_cons, List.map_nil]); first | done | (rw [show t291.length = t266.length from (Kd.R_reads' HO_13.out).1.symm] <;> rfl) | rfl | (simp only [List.length_drop, List.length_take]; rfl)) ?_; (with_reducible refine (laws_heldIntS.calls kj63 _ _ t291 1 t292 _ ?side1 ?side2 A87.out).mono ?_); (case side1 => exact zc (Kd.R_reads' HO_13.out).2.2); (case side2 => exact Nat.le_refl _); rintro e w' ⟨rfl, ⟨nd, rfl⟩⟩; refine ⟨_, rfl, ?_⟩))
              go_ret
              exact ⟨ze, zb HB.out⟩
             ·rw [if_neg c88] at H
              have c88b0 : decide (t292 < 0) = false := decide_eq_false c88
              clear c88
              by_cases c91 : t292 = t290
              ·rw [if_pos c91] at H
               have c91b0 : (t292 == t290) = true := beq_iff_eq.mpr c91
               have c91b1 : (t292 != t290) = false := bne_eq_false_iff_eq.mpr c91
               clear c91
               replace H := Option.bind_eq_some_iff.mp H
               obtain ⟨t293, A920, H⟩ := H
               replace H : ((laws_toIntS.f kj63 l1).bind fun t296 => ((laws_toIntS.f kj63 l2).bind fun t299 => ((impl_KnowJoin.f kj63 t293 t296 t299).bind fun bt302 => ((laws_eqIntS.f kj63 bt302.1 t252).bind fun t306 => (if t306 = true then (laws_FnExactKnowJoin.j2 kj63 t291 t290 (bt302.2 != t255)) else (laws_FnExactKnowJoin.j2 kj63 t291 t290 true)))))) = some r := H
               have A92 := Aside0.mk A920
               clear A920
               replace H := Option.bind_eq_some_iff.mp H
               obtain ⟨t296, A930, H⟩ := H
               replace H : ((laws_toIntS.f kj63 l2).bind fun t299 => ((impl_KnowJoin.f kj63 t293 t296 t299).bind fun bt302 => ((laws_eqIntS.f kj63 bt302.1 t252).bind fun t306 => (if t306 = true then (laws_FnExactKnowJoin.j2 kj63 t291 t290 (bt302.2 != t255)) else (laws_FnExactKnowJoin.j2 kj63 t291 t290 true))))) = some r := H
               have A93 := Aside0.mk A930
               clear A930
               replace H := Option.bind_eq_some_iff.mp H
               obtain ⟨t299, A940, H⟩ := H
               replace H : ((impl_KnowJoin.f kj63 t293 t296 t299).bind fun bt302 => ((laws_eqIntS.f kj63 bt302.1 t252).bind fun t306 => (if t306 = true then (laws_FnExactKnowJoin.j2 kj63 t291 t290 (bt302.2 != t255)) else (laws_FnExactKnowJoin.j2 kj63 t291 t290 true)))) = some r := H
               have A94 := Aside0.mk A940
               clear A940
               replace H := Option.bind_eq_some_iff.mp H
               obtain ⟨⟨t302, t305⟩, A950, H⟩ := H
               replace H : ((laws_eqIntS.f kj63 t302 t252).bind fun t306 => (if t306 = true then (laws_FnExactKnowJoin.j2 kj63 t291 t290 (t305 != t255)) else (laws_FnExactKnowJoin.j2 kj63 t291 t290 true))) = some r := H
               have A95 := Aside0.mk A950
               clear A950
               have HC96 := Aside0.mk H
               clear H
               obtain ⟨Ao97, co97, eo97⟩ := Kd.R_slice HO_13.out
               subst eo97
               go_upto_region 37 with (first | ((with_reducible refine gate_callee (f := 16) rfl ?_); refine goesL_ (some 102) rfl rfl Try.func16 (by kernel_rfl) rfl #[.slice Ao97 t266.length t266.length, .int .i64 1] rfl zl ?_; (with_reducible refine (laws_markIntS.callsC kj63 (fun k_ => some k_ = (.slice Ao97 t266.length co97 : Value).ownBlock) Ao97 co97 t266 1 t290 t291 w _ ?side1 ?side2 A86.out).mono ?_); (case side1 => exact zb HB.out); (case side2 => exact Kd.R_tight rfl HO_13.out); rintro e w98 ⟨rfl, hy0, hb, hkp⟩; refine ⟨_, rfl, ?_⟩; have n0_ := Aside0.mk (Kd.R_mono (ok' := fun k_ => some k_ ≠ (.slice Ao97 t266.length co97 : Value).ownBlock) (Kd.R_keptB (HO_8.out) hkp (fun k_ hk_ hs_ => by first | exact (hk_) hs_ | (revert hk_; simp only [and_imp]; intros; exact absurd hs_ (by assumption)))) (fun k_ hk_ => by first | exact hk_.1 | (revert hk_; simp only [and_imp]; intros; and_intros <;> assumption))); have n1_ := Aside0.mk (Kd.R_reok rfl hy0 (fun k_ e_ => HO_13.out.1 k_ e_)); have n2_ := Aside0.mk (Kd.R_mono (ok' := fun k_ => True) (Kd.R_keptB ((Kd.R_apart' HO_260000.out (Kd.R_typed HO_13.out) (by decide))) hkp (fun k_ hk_ hs_ => by first | exact (hk_.2) hs_ | (revert hk_; simp only [and_imp]; intros; exact absurd hs_ (by assumption)))) (fun k_ hk_ => trivial)); have n3_ := Aside0.mk (blk_kept (zh BK241.out) hkp (fun hs_ => (fun e_ => (Kd.R_ne HO_13.out BK241.out (by decide)) e_) hs_)); have n4_ := Aside0.mk (blk_kept (zh BK259.out) hkp (fun hs_ => (fun e_ => (Kd.R_ne HO_13.out BK259.out (by decide)) e_) hs_)); have n5_ := Aside0.mk (hb); clear HO_8; clear HO_13; clear HO_260000; clear BK241; clear BK259; clear HB; have HO_8 := n0_; have HO_13 := n1_; have HO_260000 := n2_; have BK241 := n3_; have BK259 := n4_; have HB := n5_; clear n0_ n1_ n2_ n3_ n4_ n5_; (try clear hb); (try clear hkp); (try clear hy0)) | ((with_reducible refine gate_callee (f := 17) rfl ?_); refine goesL_ (some 105) rfl rfl Try.func17 (by kernel_rfl) rfl #[.slice Ao97 t291.length t291.length, .int .i64 1] rfl (by (try simp only [List.map_toArray, List.map_cons, List.map_nil]); first | done | (rw [show t291.length = t266.length from (Kd.R_reads' HO_13.out).1.symm] <;> rfl) | rfl | (simp only [List.length_drop, List.length_take]; rfl)) ?_; (with_reducible refine (laws_heldIntS.calls kj63 _ _ t291 1 t292 _ ?side1 ?side2 A87.out).mono ?_); (case side1 => exact zc (Kd.R_reads' HO_13.out).2.2); (case side2 => exact Nat.le_refl _); rintro e w' ⟨rfl, ⟨nd, rfl⟩⟩; refine ⟨_, rfl, ?_⟩; have hnb99 := NB241_259.out; have hnc99 := NB259_241.out; have hcz100_0 : w98.cell? ⟨gb241, 0, none⟩ = some (.slice A0_0 l0_0.length c0_0) := (blk_cell BK241.out 0).trans rfl; have hfz100_0 := blk_frozen BK241.out 0) | ((with_reducible refine gate_callee (f := 11) rfl ?_); refine goesL_ (some 113) rfl rfl Try.func11 (by kernel_rfl) rfl #[.agg #[.slice A0_0 l0_0.length c0_0]] rfl zl ?_; (with_reducible refine (laws_toPool.calls kj63 _ _ l0_0 t293 _ ?side1 ?side2 A92.out).mono ?_); (case side1 => exact zc (Kd.C_below HR0_0.out (zb HB.out))); (case side2 => exact HC0_0.out); rintro e w101 ⟨v294, rfl, ho0, hb⟩; refine ⟨_, rfl, ?_⟩; have n0_ := Aside0.mk (Kd.R_below (zr HO_8.out) hb); have n1_ := Aside0.mk (Kd.R_below (zr HO_13.out) hb); have n2_ := Aside0.mk (Kd.R_elder' (zr HO_260000.out) (Kd.R_base ho0) hb); have n3_ := Aside0.mk (Kd.R_lower (Kd.R_new' ho0 (Kd.R_lt (zr HO_260000.out))) (below_size (zb HB.out))); have n4_ := Aside0.mk (blk_below (zh BK241.out) hb); have n5_ := Aside0.mk (blk_below (zh BK259.out) hb); have n6_ := Aside0.mk (below_step (zb HB.out) hb); clear HO_8; clear HO_13; clear HO_260000; clear BK241; clear BK259; clear HB; have HO_8 := n0_; have HO_13 := n1_; have HO_260000 := n2_; have HO295 := n3_; have BK241 := n4_; have BK259 := n5_; have HB := n6_; clear n0_ n1_ n2_ n3_ n4_ n5_ n6_; (try clear hb); (try clear hb2); (try clear hk); (try clear hi); (try clear ho0)) | ((with_reducible refine gate_callee (f := 28) rfl ?_); refine goesL_ (some 115) rfl rfl Try.func28 (by kernel_rfl) rfl #[.slice A1 l1.length c1] rfl zl ?_; (with_reducible refine (laws_toIntS.calls kj63 _ _ l1 t296 _ ?side1 ?side2 A93.out).mono ?_); (case side1 => exact zc (Kd.C_below HR1.out HB.out)); (case side2 => exact HC1.out); rintro e w102 ⟨v297, rfl, ho0, hb⟩; refine ⟨_, rfl, ?_⟩; have n0_ := Aside0.mk (Kd.R_elder' (zr HO_8.out) (Kd.R_base ho0) hb); have n1_ := Aside0.mk (Kd.R_elder' (zr HO_13.out) (Kd.R_base ho0) hb); have n2_ := Aside0.mk (Kd.R_below (zr HO_260000.out) hb); have n3_ := Aside0.mk (Kd.R_below (zr HO295.out) hb); have n4_ := Aside0.mk (Kd.R_lower (Kd.R_new' (Kd.R_new' ho0 (Kd.R_lt (zr HO_8.out))) (Kd.R_lt (zr HO_13.out))) (below_size (zb HB.out))); have n5_ := Aside0.mk (blk_below (zh BK241.out) hb); have n6_ := Aside0.mk (blk_below (zh BK259.out) hb); have n7_ := Aside0.mk (below_step (zb HB.out) hb); clear HO_8; clear HO_13; clear HO_260000; clear HO295; clear BK241; clear BK259; clear HB; have HO_8 := n0_; have HO_13 := n1_; have HO_260000 := n2_; have HO295 := n3_; have HO298 := n4_; have BK241 := n5_; have BK259 := n6_; have HB := n7_; clear n0_ n1_ n2_ n3_ n4_ n5_ n6_ n7_; (try clear hb); (try clear hb2); (try clear hk); (try clear hi); (try clear ho0)) | ((with_reducible refine gate_callee (f := 28) rfl ?_); refine goesL_ (some 117) rfl rfl Try.func28 (by kernel_rfl) rfl #[.slice A2 l2.length c2] rfl zl ?_; (with_reducible refine (laws_toIntS.calls kj63 _ _ l2 t299 _ ?side1 ?side2 A94.out).mono ?_); (case side1 => exact zc (Kd.C_below HR2.out HB.out)); (case side2 => exact HC2.out); rintro e w103 ⟨v300, rfl, ho0, hb⟩; refine ⟨_, rfl, ?_⟩; have n0_ := Aside0.mk (Kd.R_elder' (zr HO_8.out) (Kd.R_base ho0) hb); have n1_ := Aside0.mk (Kd.R_elder' (zr HO_13.out) (Kd.R_base ho0) hb); have n2_ := Aside0.mk (Kd.R_below (zr HO_260000.out) hb); have n3_ := Aside0.mk (Kd.R_below (zr HO295.out) hb); have n4_ := Aside0.mk (Kd.R_elder' (zr HO298.out) (Kd.R_base ho0) hb); have n5_ := Aside0.mk (Kd.R_lower (Kd.R_new' (Kd.R_new' (Kd.R_new' ho0 (Kd.R_lt (zr HO_8.out))) (Kd.R_lt (zr HO_13.out))) (Kd.R_lt (zr HO298.out))) (below_size (zb HB.out))); have n6_ := Aside0.mk (blk_below (zh BK241.out) hb); have n7_ := Aside0.mk (blk_below (zh BK259.out) hb); have n8_ := Aside0.mk (below_step (zb HB.out) hb); clear HO_8; clear HO_13; clear HO_260000; clear HO295; clear HO298; clear BK241; clear BK259; clear HB; have HO_8 := n0_; have HO_13 := n1_; have HO_260000 := n2_; have HO295 := n3_; have HO298 := n4_; have HO301 := n5_; have BK241 := n6_; have BK259 := n7_; have HB := n8_; clear n0_ n1_ n2_ n3_ n4_ n5_ n6_ n7_ n8_; (try clear hb); (try clear hb2); (try clear hk); (try clear hi); (try clear ho0); obtain ⟨Ao104, co104, eo104⟩ := Kd.R_slice HO295.out; subst eo104; obtain ⟨Ao105, co105, eo105⟩ := Kd.R_slice HO298.out; subst eo105; obtain ⟨Ao106, co106, eo106⟩ := Kd.R_slice HO301.out; subst eo106) | ((with_reducible refine gate_callee (f := 29) rfl ?_); refine goesL_ (some 118) rfl rfl Try.func29 (by kernel_rfl) rfl #[.agg #[.slice Ao104 t293.length co104], .slice Ao105 t296.length co105, .slice Ao106 t299.length co106] rfl zl ?_; (with_reducible refine (impl_KnowJoin.calls kj63 _ _ t293 (fun k_ => some k_ = (.slice Ao105 t296.length co105 : Value).ownBlock) _ _ t296 (fun k_ => some k_ = (.slice Ao106 t299.length co106 : Value).ownBlock) _ _ t299 t302 t305 _ ?side1 ?side2 ?side3 ?side4 A95.out).mono ?_); (case side1 => exact zc (Kd.R_reads' HO295.out).2.2); (case side2 => exact (Kd.R_reads' HO295.out).2.1); (case side3 => exact Kd.R_V (Kd.R_tight rfl (Kd.R_types (Kd.R_types (Kd.R_apart' (Kd.R_apart' (HO298.out) (Kd.R_typed HO_260000.out) (by decide)) (Kd.R_typed HO295.out) (by decide)) BK241.out (by decide)) BK259.out (by decide)))); (case side4 => exact Kd.R_V (Kd.R_tight rfl (Kd.R_types (Kd.R_types (Kd.R_apart' (Kd.R_apart' (HO301.out) (Kd.R_typed HO_260000.out) (by decide)) (Kd.R_typed HO295.out) (by decide)) BK241.out (by decide)) BK259.out (by decide)))); rintro e w107 ⟨v303, rfl, ho0, hb⟩; refine ⟨_, rfl, ?_⟩; have n0_ := Aside0.mk (Kd.R_elder' (zr HO_8.out) (Kd.R_base ho0) hb); have n1_ := Aside0.mk (Kd.R_elder' (zr HO_13.out) (Kd.R_base ho0) hb); have n2_ := Aside0.mk (Kd.R_below (zr HO_260000.out) hb); have n3_ := Aside0.mk (Kd.R_below (zr HO295.out) hb); have n4_ := Aside0.mk (Kd.R_elder' (zr HO298.out) (Kd.R_base ho0) hb); have n5_ := Aside0.mk (Kd.R_elder' (zr HO301.out) (Kd.R_base ho0) hb); have n6_ := Aside0.mk (Kd.R_lower (Kd.R_new' (Kd.R_new' (Kd.R_new' (Kd.R_new' (Kd.R_mono (ok' := fun k_ => True) ho0 (fun _ hk_ => trivial)) (Kd.R_lt (zr HO_8.out))) (Kd.R_lt (zr HO_13.out))) (Kd.R_lt (zr HO298.out))) (Kd.R_lt (zr HO301.out))) (below_size (zb HB.out))); have n7_ := Aside0.mk (blk_below (zh BK241.out) hb); have n8_ := Aside0.mk (blk_below (zh BK259.out) hb); have n9_ := Aside0.mk (below_step (zb HB.out) hb); clear HO_8; clear HO_13; clear HO_260000; clear HO295; clear HO298; clear HO301; clear BK241; clear BK259; clear HB; have HO_8 := n0_; have HO_13 := n1_; have HO_260000 := n2_; have HO295 := n3_; have HO298 := n4_; have HO301 := n5_; have HO304 := n6_; have BK241 := n7_; have BK259 := n8_; have HB := n9_; clear n0_ n1_ n2_ n3_ n4_ n5_ n6_ n7_ n8_ n9_; (try clear hb); (try clear hb2); (try clear hk); (try clear hi); (try clear ho0)))
               (try simp only [Act.put, List.setIfInBounds_toArray, List.set_cons_zero, List.set_cons_succ])
               go_cut [129] (fun v129 wc => ∃ (kq : Nat) (x129_95 : Bool), v129 = .bool x129_95 ∧ Aside0 (laws_FnExactKnowJoin.j2 kq t291 t290 x129_95 = some r) ∧ Aside0 (kq ≤ kj63) ∧ Aside0 (Kd.R (Kd.int .i64) 3 wc w.heap.size (fun _ => True) (.slice Ao97 t266.length co97) t291) ∧ Aside0 (Kd.R k44 44 wc w.heap.size (fun _ => True) (.slice Ao36 t284.length co36) t284) ∧ Aside0 (wc.heap[gb241]? = some (.cells #[(.slice A0_0 l0_0.length c0_0)] 24 (0, 0))) ∧ Aside0 (wc.heap[gb259]? = some (.cells #[(.slice Ao36 t284.length co36)] 30 (0, 0))) ∧ Aside0 (Below w.heap.size w wc))
               case first =>
                have H := HC96.out
                clear HC96
                replace H := Option.bind_eq_some_iff.mp H
                obtain ⟨t306, A1080, H⟩ := H
                replace H : (if t306 = true then (laws_FnExactKnowJoin.j2 kj63 t291 t290 (t305 != t255)) else (laws_FnExactKnowJoin.j2 kj63 t291 t290 true)) = some r := H
                have A108 := Aside0.mk A1080
                clear A1080
                by_cases c109 : t306 = true
                ·subst c109
                 have H1 : (laws_FnExactKnowJoin.j2 kj63 t291 t290 (t305 != t255)) = some r := by rw [if_pos rfl] at H; exact H
                 clear H
                 have H := H1
                 clear H1
                 have H' := Aside0.mk H
                 clear H
                 obtain ⟨Ao110, co110, eo110⟩ := Kd.R_slice HO304.out
                 subst eo110
                 obtain ⟨Ao111, co111, eo111⟩ := Kd.R_slice HO_8.out
                 subst eo111
                 go_wp2_with (first | ((with_reducible refine gate_callee (f := 13) rfl ?_); refine goesL_ (some 123) rfl rfl Try.func13 (by kernel_rfl) rfl #[.slice Ao110 t302.length t302.length, .slice Ao111 t252.length co111] rfl zl ?_; (with_reducible refine (laws_eqIntS.calls kj63 _ _ t302 _ _ t252 true _ ?side1 ?side2 ?side3 ?side4 A108.out).mono ?_); (case side1 => exact zc (Kd.R_reads' HO304.out).2.2); (case side2 => exact Nat.le_refl _); (case side3 => exact zc (Kd.R_reads' HO_8.out).2.2); (case side4 => exact (Kd.R_reads' HO_8.out).2.1); rintro e w' ⟨rfl, ⟨nd, rfl⟩⟩; refine ⟨_, rfl, ?_⟩))
                 go_meet
                 case rel => exact ⟨_, ((t305 != t255)), (by first | rfl | (simp; done) | (simp [*]; done)), H', ⟨by have := HJ20.out; have := HJ63.out; first | omega | exact Nat.le_refl _⟩, ⟨by (try simp only [hl260000_63]); (with_reducible repeat (first | apply Kd.R_alloc | apply Kd.R_drewN | apply Kd.R_drew)); exact Kd.R_mono HO_13.out (fun _ hk => trivial)⟩, ⟨by (try simp only [hl260000_63]); (with_reducible repeat (first | apply Kd.R_alloc | apply Kd.R_drewN | apply Kd.R_drew)); exact Kd.R_mono HO_260000.out (fun _ hk => trivial)⟩, ⟨by (try simp only [hl260000_63]); (with_reducible repeat (first | refine blk_drewN ?_ _ | refine blk_drew ?_ | refine blk_alloc ?_ _)); exact BK241.out⟩, ⟨by (try simp only [hl260000_63]); (with_reducible repeat (first | refine blk_drewN ?_ _ | refine blk_drew ?_ | refine blk_alloc ?_ _)); exact BK259.out⟩, ⟨zb HB.out⟩⟩
                ·replace c109 := Bool.eq_false_iff.mpr c109
                 subst c109
                 have H1 : (laws_FnExactKnowJoin.j2 kj63 t291 t290 true) = some r := by rw [if_neg (show ¬ (false = true) by decide)] at H; exact H
                 clear H
                 have H := H1
                 clear H1
                 have H' := Aside0.mk H
                 clear H
                 obtain ⟨Ao112, co112, eo112⟩ := Kd.R_slice HO304.out
                 subst eo112
                 obtain ⟨Ao113, co113, eo113⟩ := Kd.R_slice HO_8.out
                 subst eo113
                 go_wp2_with (first | ((with_reducible refine gate_callee (f := 13) rfl ?_); refine goesL_ (some 123) rfl rfl Try.func13 (by kernel_rfl) rfl #[.slice Ao112 t302.length t302.length, .slice Ao113 t252.length co113] rfl zl ?_; (with_reducible refine (laws_eqIntS.calls kj63 _ _ t302 _ _ t252 false _ ?side1 ?side2 ?side3 ?side4 A108.out).mono ?_); (case side1 => exact zc (Kd.R_reads' HO304.out).2.2); (case side2 => exact Nat.le_refl _); (case side3 => exact zc (Kd.R_reads' HO_8.out).2.2); (case side4 => exact (Kd.R_reads' HO_8.out).2.1); rintro e w' ⟨rfl, ⟨nd, rfl⟩⟩; refine ⟨_, rfl, ?_⟩))
                 go_meet
                 case rel => exact ⟨_, (true), (by first | rfl | (simp; done) | (simp [*]; done)), H', ⟨by have := HJ20.out; have := HJ63.out; first | omega | exact Nat.le_refl _⟩, ⟨by (try simp only [hl260000_63]); (with_reducible repeat (first | apply Kd.R_alloc | apply Kd.R_drewN | apply Kd.R_drew)); exact Kd.R_mono HO_13.out (fun _ hk => trivial)⟩, ⟨by (try simp only [hl260000_63]); (with_reducible repeat (first | apply Kd.R_alloc | apply Kd.R_drewN | apply Kd.R_drew)); exact Kd.R_mono HO_260000.out (fun _ hk => trivial)⟩, ⟨by (try simp only [hl260000_63]); (with_reducible repeat (first | refine blk_drewN ?_ _ | refine blk_drew ?_ | refine blk_alloc ?_ _)); exact BK241.out⟩, ⟨by (try simp only [hl260000_63]); (with_reducible repeat (first | refine blk_drewN ?_ _ | refine blk_drew ?_ | refine blk_alloc ?_ _)); exact BK259.out⟩, ⟨zb HB.out⟩⟩
               case rest =>
                clear HC96
                try clear c1
                try clear c2
                try clear p2
                try clear c3
                try clear c4
                try clear c4b0
                try clear c4b1
                try clear c5
                try clear c6
                try clear c6b0
                try clear c6b1
                try clear c7
                try clear c8
                try clear c9
                try clear c9b0
                try clear c10
                try clear c11
                try clear c13
                try clear c14
                try clear c15
                try clear c16
                try clear c17
                try clear c27
                try clear c28
                try clear c29
                try clear c37
                try clear c46
                try clear c51
                try clear c54
                try clear c57
                try clear c60
                try clear c73
                try clear c78
                try clear c78b0
                try clear c80
                try clear c85
                try clear c88
                try clear c88b0
                try clear c91
                try clear c91b0
                try clear c91b1
                try clear c99
                try clear c109
                try clear hcz100_0
                try clear hcz11_0
                try clear hcz23_0
                try clear hcz25_0
                try clear hcz33_0
                try clear hcz38_0
                try clear hcz41_0
                try clear hcz74_0
                try clear hfz100_0
                try clear hfz11_0
                try clear hfz23_0
                try clear hfz25_0
                try clear hfz33_0
                try clear hfz38_0
                try clear hfz41_0
                try clear hfz74_0
                try clear p2
                obtain ⟨kq, x129_95, rfl, HA, HJ95, HO_13, HO_260000, BK241, BK259, HB⟩ := hcut
                have hl13_95 := (Kd.R_reads' HO_13.out).1
                rw [hl13_95] at HO_13
                (try simp only [hl13_95])
                (try simp only [hl13_95] at BK241)
                (try simp only [hl13_95] at BK259)
                (try simp only [hl13_95] at HO_260000)
                cases kq with
                | zero => exact absurd HA.out (by simp [laws_FnExactKnowJoin.j2])
                | succ kj95 =>
                 have H := HA.out
                 clear HA
                 simp only [laws_FnExactKnowJoin.j2] at H
                 by_cases c114 : x129_95 = true
                 ·subst c114
                  have H1 : (some false) = some r := by rw [if_pos rfl] at H; exact H
                  clear H
                  have H := H1
                  clear H1
                  obtain rfl := Option.some.inj H
                  go_wp2
                  go_ret
                  exact ⟨ze, zb HB.out⟩
                 ·replace c114 := Bool.eq_false_iff.mpr c114
                  subst c114
                  have H1 : ((laws_heldIntS.f kj95 t291 1).bind fun t307 => (if t307 < 0 then (some false) else (if t307 = t290 then (some true) else (some false)))) = some r := by rw [if_neg (show ¬ (false = true) by decide)] at H; exact H
                  clear H
                  have H := H1
                  clear H1
                  replace H := Option.bind_eq_some_iff.mp H
                  obtain ⟨t307, A1150, H⟩ := H
                  replace H : (if t307 < 0 then (some false) else (if t307 = t290 then (some true) else (some false))) = some r := H
                  have A115 := Aside0.mk A1150
                  clear A1150
                  by_cases c116 : t307 < 0
                  ·rw [if_pos c116] at H
                   have c116b0 : decide (t307 < 0) = true := decide_eq_true c116
                   clear c116
                   obtain rfl := Option.some.inj H
                   go_wp2_with (first | ((with_reducible refine gate_callee (f := 17) rfl ?_); refine goesL_ (some 132) rfl rfl Try.func17 (by kernel_rfl) rfl #[.slice Ao97 t291.length t291.length, .int .i64 1] rfl zl ?_; (with_reducible refine (laws_heldIntS.calls kj95 _ _ t291 1 t307 _ ?side1 ?side2 A115.out).mono ?_); (case side1 => exact zc (Kd.R_reads' HO_13.out).2.2); (case side2 => exact Nat.le_refl _); rintro e w' ⟨rfl, ⟨nd, rfl⟩⟩; refine ⟨_, rfl, ?_⟩))
                   go_ret
                   exact ⟨ze, zb HB.out⟩
                  ·rw [if_neg c116] at H
                   have c116b0 : decide (t307 < 0) = false := decide_eq_false c116
                   clear c116
                   by_cases c117 : t307 = t290
                   ·rw [if_pos c117] at H
                    have c117b0 : (t307 == t290) = true := beq_iff_eq.mpr c117
                    have c117b1 : (t307 != t290) = false := bne_eq_false_iff_eq.mpr c117
                    clear c117
                    obtain rfl := Option.some.inj H
                    go_wp2_with (first | ((with_reducible refine gate_callee (f := 17) rfl ?_); refine goesL_ (some 132) rfl rfl Try.func17 (by kernel_rfl) rfl #[.slice Ao97 t291.length t291.length, .int .i64 1] rfl zl ?_; (with_reducible refine (laws_heldIntS.calls kj95 _ _ t291 1 t307 _ ?side1 ?side2 A115.out).mono ?_); (case side1 => exact zc (Kd.R_reads' HO_13.out).2.2); (case side2 => exact Nat.le_refl _); rintro e w' ⟨rfl, ⟨nd, rfl⟩⟩; refine ⟨_, rfl, ?_⟩))
                    go_ret
                    exact ⟨ze, zb HB.out⟩
                   ·rw [if_neg c117] at H
                    have c117b0 : (t307 == t290) = false := beq_eq_false_iff_ne.mpr c117
                    have c117b1 : (t307 != t290) = true := bne_iff_ne.mpr c117
                    obtain rfl := Option.some.inj H
                    go_wp2_with (first | ((with_reducible refine gate_callee (f := 17) rfl ?_); refine goesL_ (some 132) rfl rfl Try.func17 (by kernel_rfl) rfl #[.slice Ao97 t291.length t291.length, .int .i64 1] rfl zl ?_; (with_reducible refine (laws_heldIntS.calls kj95 _ _ t291 1 t307 _ ?side1 ?side2 A115.out).mono ?_); (case side1 => exact zc (Kd.R_reads' HO_13.out).2.2); (case side2 => exact Nat.le_refl _); rintro e w' ⟨rfl, ⟨nd, rfl⟩⟩; refine ⟨_, rfl, ?_⟩))
                    go_ret
                    exact ⟨ze, zb HB.out⟩
              ·rw [if_neg c91] at H
               have c91b0 : (t292 == t290) = false := beq_eq_false_iff_ne.mpr c91
               have c91b1 : (t292 != t290) = true := bne_iff_ne.mpr c91
               obtain rfl := Option.some.inj H
               obtain ⟨Ao118, co118, eo118⟩ := Kd.R_slice HO_13.out
               subst eo118
               go_wp2_with (first | ((with_reducible refine gate_callee (f := 16) rfl ?_); refine goesL_ (some 102) rfl rfl Try.func16 (by kernel_rfl) rfl #[.slice Ao118 t266.length t266.length, .int .i64 1] rfl zl ?_; (with_reducible refine (laws_markIntS.callsC kj63 (fun k_ => some k_ = (.slice Ao118 t266.length co118 : Value).ownBlock) Ao118 co118 t266 1 t290 t291 w _ ?side1 ?side2 A86.out).mono ?_); (case side1 => exact zb HB.out); (case side2 => exact Kd.R_tight rfl HO_13.out); rintro e w119 ⟨rfl, hy0, hb, hkp⟩; refine ⟨_, rfl, ?_⟩; have n0_ := Aside0.mk (Kd.R_mono (ok' := fun k_ => some k_ ≠ (.slice Ao118 t266.length co118 : Value).ownBlock) (Kd.R_keptB (HO_8.out) hkp (fun k_ hk_ hs_ => by first | exact (hk_) hs_ | (revert hk_; simp only [and_imp]; intros; exact absurd hs_ (by assumption)))) (fun k_ hk_ => by first | exact hk_.1 | (revert hk_; simp only [and_imp]; intros; and_intros <;> assumption))); have n1_ := Aside0.mk (Kd.R_reok rfl hy0 (fun k_ e_ => HO_13.out.1 k_ e_)); have n2_ := Aside0.mk (Kd.R_mono (ok' := fun k_ => True) (Kd.R_keptB ((Kd.R_apart' HO_260000.out (Kd.R_typed HO_13.out) (by decide))) hkp (fun k_ hk_ hs_ => by first | exact (hk_.2) hs_ | (revert hk_; simp only [and_imp]; intros; exact absurd hs_ (by assumption)))) (fun k_ hk_ => trivial)); have n3_ := Aside0.mk (blk_kept (zh BK241.out) hkp (fun hs_ => (fun e_ => (Kd.R_ne HO_13.out BK241.out (by decide)) e_) hs_)); have n4_ := Aside0.mk (blk_kept (zh BK259.out) hkp (fun hs_ => (fun e_ => (Kd.R_ne HO_13.out BK259.out (by decide)) e_) hs_)); have n5_ := Aside0.mk (hb); clear HO_8; clear HO_13; clear HO_260000; clear BK241; clear BK259; clear HB; have HO_8 := n0_; have HO_13 := n1_; have HO_260000 := n2_; have BK241 := n3_; have BK259 := n4_; have HB := n5_; clear n0_ n1_ n2_ n3_ n4_ n5_; (try clear hb); (try clear hkp); (try clear hy0)) | ((with_reducible refine gate_callee (f := 17) rfl ?_); refine goesL_ (some 105) rfl rfl Try.func17 (by kernel_rfl) rfl #[.slice Ao118 t291.length t291.length, .int .i64 1] rfl (by (try simp only [List.map_toArray, List.map_cons, List.map_nil]); first | done | (rw [show t291.length = t266.length from (Kd.R_reads' HO_13.out).1.symm] <;> rfl) | rfl | (simp only [List.length_drop, List.length_take]; rfl)) ?_; (with_reducible refine (laws_heldIntS.calls kj63 _ _ t291 1 t292 _ ?side1 ?side2 A87.out).mono ?_); (case side1 => exact zc (Kd.R_reads' HO_13.out).2.2); (case side2 => exact Nat.le_refl _); rintro e w' ⟨rfl, ⟨nd, rfl⟩⟩; refine ⟨_, rfl, ?_⟩))
               go_ret
               exact ⟨ze, zb HB.out⟩
         ·replace c60 := Bool.eq_false_iff.mpr c60
          subst c60
          have H1 : (some false) = some r := by rw [if_neg (show ¬ (false = true) by decide)] at H; exact H
          clear H
          have H := H1
          clear H1
          obtain rfl := Option.some.inj H
          try go_wp2
          have n0_ := Aside0.mk (Kd.R_drew HO_8.out)
          have n1_ := Aside0.mk (Kd.R_drew HO_11.out)
          have n2_ := Aside0.mk (Kd.R_drew HO_12.out)
          have n3_ := Aside0.mk (Kd.R_drew HO_13.out)
          have n4_ := Aside0.mk (Kd.R_drew HO_260000.out)
          have n5_ := Aside0.mk (blk_drew BK241.out)
          have n6_ := Aside0.mk (blk_drew BK259.out)
          have n7_ := Aside0.mk (below_drew1 HB.out)
          clear HO_8
          clear HO_11
          clear HO_12
          clear HO_13
          clear HO_260000
          clear BK241
          clear BK259
          clear HB
          have HO_8 := n0_
          have HO_11 := n1_
          have HO_12 := n2_
          have HO_13 := n3_
          have HO_260000 := n4_
          have BK241 := n5_
          have BK259 := n6_
          have HB := n7_
          clear n0_ n1_ n2_ n3_ n4_ n5_ n6_ n7_
          refine start_ (n := 5) (S := fun w' => w'.cell? ⟨gb259, 0, none⟩ = some (.slice Ao36 t256.length co36) ∧ w'.cell? ⟨gb241, 0, none⟩ = some (.slice A0_0 l0_0.length c0_0)) (ds := []) #[false, false, false, false, false] (by kernel_rfl) rfl rfl ⟨(blk_cell BK259.out 0).trans rfl, (blk_cell BK241.out 0).trans rfl⟩ (fun hHeld => ?_)
          generalize wc.drew = w120 at HO_8 HO_11 HO_12 HO_13 HO_260000 BK241 BK259 HB hHeld ⊢
          refine take_ (i := 0) (N := some 63) (v := ?_) (a' := ?_) #[true, false, false, false, false] rfl rfl (by kernel_rfl) (fun _ _ _ h => h) (Or.inl ⟨by rfl, ?_⟩) hHeld ?_ ?_
          rotate_left
          ·rintro w' ⟨s0, s1⟩
           go_simp
           with_reducible rfl
          rotate_left
          ·simp only [Act.put, List.setIfInBounds_toArray, List.set_cons_zero, List.set_cons_succ, i64_w, i32_w]
           rfl
          refine take_ (i := 1) (N := some 64) (v := ?_) (a' := ?_) #[true, true, false, false, false] rfl rfl (by kernel_rfl) (fun _ _ _ h => h) (Or.inl ⟨by rfl, ?_⟩) hHeld ?_ ?_
          rotate_left
          ·rintro w' ⟨s0, s1⟩
           go_simp
           with_reducible rfl
          rotate_left
          ·simp only [Act.put, List.setIfInBounds_toArray, List.set_cons_zero, List.set_cons_succ, i64_w, i32_w]
           rfl
          refine one_ (i := 2) (N := some 65) #[true, true, true, false, false] rfl rfl (by kernel_rfl) (by decide) (fun K hK => ?_)
          refine goes_ Try.func11 (by kernel_rfl) rfl #[.agg #[.slice A0_0 l0_0.length c0_0]] (by rfl) rfl rfl zl ?_
          with_reducible refine (laws_toPool.calls kj20 _ _ l0_0 t271 _ ?side1 ?side2 A52.out).mono ?_
          (case side1 => exact zc (Kd.C_below HR0_0.out HB.out))
          (case side2 => exact HC0_0.out)
          rintro e w121 ⟨v272, rfl, ho0, hb⟩
          refine ⟨_, rfl, ?_⟩
          have n0_ := Aside0.mk (Kd.R_below (zr HO_8.out) hb)
          have n1_ := Aside0.mk (Kd.R_below (zr HO_11.out) hb)
          have n2_ := Aside0.mk (Kd.R_below (zr HO_12.out) hb)
          have n3_ := Aside0.mk (Kd.R_below (zr HO_13.out) hb)
          have n4_ := Aside0.mk (Kd.R_elder' (zr HO_260000.out) (Kd.R_base ho0) hb)
          have n5_ := Aside0.mk (Kd.R_lower (Kd.R_new' ho0 (Kd.R_lt (zr HO_260000.out))) (below_size (zb HB.out)))
          have n6_ := Aside0.mk (blk_below (zh BK241.out) hb)
          have n7_ := Aside0.mk (blk_below (zh BK259.out) hb)
          have n8_ := Aside0.mk (below_step (zb HB.out) hb)
          clear HO_8
          clear HO_11
          clear HO_12
          clear HO_13
          clear HO_260000
          clear BK241
          clear BK259
          clear HB
          have HO_8 := n0_
          have HO_11 := n1_
          have HO_12 := n2_
          have HO_13 := n3_
          have HO_260000 := n4_
          have HO273 := n5_
          have BK241 := n6_
          have BK259 := n7_
          have HB := n8_
          clear n0_ n1_ n2_ n3_ n4_ n5_ n6_ n7_ n8_
          (try clear hb)
          (try clear hb2)
          (try clear hk)
          (try clear hi)
          (try clear ho0)
          obtain ⟨Ao122, co122, eo122⟩ := Kd.R_slice HO273.out
          (first | subst eo122 | (injection eo122 with f1_ f2_ f3_; have f4_ := f1_.symm; have f5_ := f3_.symm; clear f1_ f2_ f3_; subst f4_; subst f5_))
          refine hK.out _ _ ⟨(blk_cell BK259.out 0).trans rfl, (blk_cell BK241.out 0).trans rfl⟩ (fun hHeld => ?_)
          clear hK K
          refine norm_ (a' := ?_) ?_ ?_
          rotate_left
          ·show Act.put _ (some 65) _ = _
           simp only [Act.put, List.setIfInBounds_toArray, List.set_cons_zero, List.set_cons_succ, i64_w, i32_w]
           rfl
          refine one_ (i := 3) (N := some 66) #[true, true, true, true, false] rfl rfl (by kernel_rfl) (by decide) (fun K hK => ?_)
          refine goes_ Try.func14 (by kernel_rfl) rfl #[.agg #[.slice Ao36 t256.length co36], .agg #[.slice Ao122 t271.length co122]] (by rfl) rfl rfl zl ?_
          with_reducible refine (laws_eqPool.calls kj20 _ _ t256 _ _ t271 true _ ?side1 ?side2 ?side3 ?side4 A53.out).mono ?_
          (case side1 => exact zc (Kd.R_reads' HO_260000.out).2.2)
          (case side2 => exact (Kd.R_reads' HO_260000.out).2.1)
          (case side3 => exact zc (Kd.R_reads' HO273.out).2.2)
          (case side4 => exact (Kd.R_reads' HO273.out).2.1)
          rintro e w123 ⟨rfl, hb⟩
          refine ⟨_, rfl, ?_⟩
          have n0_ := Aside0.mk (Kd.R_below (zr HO_8.out) hb)
          have n1_ := Aside0.mk (Kd.R_below (zr HO_11.out) hb)
          have n2_ := Aside0.mk (Kd.R_below (zr HO_12.out) hb)
          have n3_ := Aside0.mk (Kd.R_below (zr HO_13.out) hb)
          have n4_ := Aside0.mk (Kd.R_below (zr HO_260000.out) hb)
          have n5_ := Aside0.mk (Kd.R_below (zr HO273.out) hb)
          have n6_ := Aside0.mk (blk_below (zh BK241.out) hb)
          have n7_ := Aside0.mk (blk_below (zh BK259.out) hb)
          have n8_ := Aside0.mk (below_step (zb HB.out) hb)
          clear HO_8
          clear HO_11
          clear HO_12
          clear HO_13
          clear HO_260000
          clear HO273
          clear BK241
          clear BK259
          clear HB
          have HO_8 := n0_
          have HO_11 := n1_
          have HO_12 := n2_
          have HO_13 := n3_
          have HO_260000 := n4_
          have HO273 := n5_
          have BK241 := n6_
          have BK259 := n7_
          have HB := n8_
          clear n0_ n1_ n2_ n3_ n4_ n5_ n6_ n7_ n8_
          (try clear hb)
          (try clear hb2)
          (try clear hk)
          (try clear hi)
          refine hK.out _ _ ⟨(blk_cell BK259.out 0).trans rfl, (blk_cell BK241.out 0).trans rfl⟩ (fun hHeld => ?_)
          clear hK K
          refine norm_ (a' := ?_) ?_ ?_
          rotate_left
          ·show Act.put _ (some 66) _ = _
           simp only [Act.put, List.setIfInBounds_toArray, List.set_cons_zero, List.set_cons_succ, i64_w, i32_w]
           rfl
          refine pure_ (i := 4) (N := some 67) (v := ?_) (a' := ?_) #[true, true, true, true, true] rfl rfl (by kernel_rfl) (fun _ _ _ h => h) (Or.inl ⟨by rfl, ?_⟩) ?_ ?_
          rotate_left
          ·intro w'
           go_simp
           with_reducible rfl
          rotate_left
          ·simp only [Act.put, List.setIfInBounds_toArray, List.set_cons_zero, List.set_cons_succ, i64_w, i32_w]
           rfl
          refine done_ (by kernel_rfl) ?_
          try go_wp2_with (first | ((with_reducible refine gate_callee (f := 28) rfl ?_); refine goesL_ (some 70) rfl rfl Try.func28 (by kernel_rfl) rfl #[.slice A1 l1.length c1] rfl zl ?_; (with_reducible refine (laws_toIntS.calls kj20 _ _ l1 t275 _ ?side1 ?side2 A55.out).mono ?_); (case side1 => exact zc (Kd.C_below HR1.out HB.out)); (case side2 => exact HC1.out); rintro e w124 ⟨v276, rfl, ho0, hb⟩; refine ⟨_, rfl, ?_⟩; have n0_ := Aside0.mk (Kd.R_elder' (zr HO_8.out) (Kd.R_base ho0) hb); have n1_ := Aside0.mk (Kd.R_elder' (zr HO_11.out) (Kd.R_base ho0) hb); have n2_ := Aside0.mk (Kd.R_elder' (zr HO_12.out) (Kd.R_base ho0) hb); have n3_ := Aside0.mk (Kd.R_elder' (zr HO_13.out) (Kd.R_base ho0) hb); have n4_ := Aside0.mk (Kd.R_below (zr HO_260000.out) hb); have n5_ := Aside0.mk (Kd.R_below (zr HO273.out) hb); have n6_ := Aside0.mk (Kd.R_lower (Kd.R_new' (Kd.R_new' (Kd.R_new' (Kd.R_new' ho0 (Kd.R_lt (zr HO_8.out))) (Kd.R_lt (zr HO_11.out))) (Kd.R_lt (zr HO_12.out))) (Kd.R_lt (zr HO_13.out))) (below_size (zb HB.out))); have n7_ := Aside0.mk (blk_below (zh BK241.out) hb); have n8_ := Aside0.mk (blk_below (zh BK259.out) hb); have n9_ := Aside0.mk (below_step (zb HB.out) hb); clear HO_8; clear HO_11; clear HO_12; clear HO_13; clear HO_260000; clear HO273; clear BK241; clear BK259; clear HB; have HO_8 := n0_; have HO_11 := n1_; have HO_12 := n2_; have HO_13 := n3_; have HO_260000 := n4_; have HO273 := n5_; have HO277 := n6_; have BK241 := n7_; have BK259 := n8_; have HB := n9_; clear n0_ n1_ n2_ n3_ n4_ n5_ n6_ n7_ n8_ n9_; (try clear hb); (try clear hb2); (try clear hk); (try clear hi); (try clear ho0); obtain ⟨Ao125, co125, eo125⟩ := Kd.R_slice HO277.out; subst eo125) | ((with_reducible refine gate_callee (f := 13) rfl ?_); refine goesL_ (some 71) rfl rfl Try.func13 (by kernel_rfl) rfl #[.slice Ao42 t260.length co42, .slice Ao125 t275.length co125] rfl zl ?_; (with_reducible refine (laws_eqIntS.calls kj20 _ _ t260 _ _ t275 true _ ?side1 ?side2 ?side3 ?side4 A56.out).mono ?_); (case side1 => exact zc (Kd.R_reads' HO_11.out).2.2); (case side2 => exact (Kd.R_reads' HO_11.out).2.1); (case side3 => exact zc (Kd.R_reads' HO277.out).2.2); (case side4 => exact (Kd.R_reads' HO277.out).2.1); rintro e w' ⟨rfl, ⟨nd, rfl⟩⟩; refine ⟨_, rfl, ?_⟩) | ((with_reducible refine gate_callee (f := 28) rfl ?_); refine goesL_ (some 75) rfl rfl Try.func28 (by kernel_rfl) rfl #[.slice A2 l2.length c2] rfl zl ?_; (with_reducible refine (laws_toIntS.calls kj20 _ _ l2 t279 _ ?side1 ?side2 A58.out).mono ?_); (case side1 => exact zc (Kd.C_below HR2.out (zb HB.out))); (case side2 => exact HC2.out); rintro e w126 ⟨v280, rfl, ho0, hb⟩; refine ⟨_, rfl, ?_⟩; have n0_ := Aside0.mk (Kd.R_elder' (zr HO_8.out) (Kd.R_base ho0) hb); have n1_ := Aside0.mk (Kd.R_elder' (zr HO_11.out) (Kd.R_base ho0) hb); have n2_ := Aside0.mk (Kd.R_elder' (zr HO_12.out) (Kd.R_base ho0) hb); have n3_ := Aside0.mk (Kd.R_elder' (zr HO_13.out) (Kd.R_base ho0) hb); have n4_ := Aside0.mk (Kd.R_below (zr HO_260000.out) hb); have n5_ := Aside0.mk (Kd.R_below (zr HO273.out) hb); have n6_ := Aside0.mk (Kd.R_elder' (zr HO277.out) (Kd.R_base ho0) hb); have n7_ := Aside0.mk (Kd.R_lower (Kd.R_new' (Kd.R_new' (Kd.R_new' (Kd.R_new' (Kd.R_new' ho0 (Kd.R_lt (zr HO_8.out))) (Kd.R_lt (zr HO_11.out))) (Kd.R_lt (zr HO_12.out))) (Kd.R_lt (zr HO_13.out))) (Kd.R_lt (zr HO277.out))) (below_size (zb HB.out))); have n8_ := Aside0.mk (blk_below (zh BK241.out) hb); have n9_ := Aside0.mk (blk_below (zh BK259.out) hb); have n10_ := Aside0.mk (below_step (zb HB.out) hb); clear HO_8; clear HO_11; clear HO_12; clear HO_13; clear HO_260000; clear HO273; clear HO277; clear BK241; clear BK259; clear HB; have HO_8 := n0_; have HO_11 := n1_; have HO_12 := n2_; have HO_13 := n3_; have HO_260000 := n4_; have HO273 := n5_; have HO277 := n6_; have HO281 := n7_; have BK241 := n8_; have BK259 := n9_; have HB := n10_; clear n0_ n1_ n2_ n3_ n4_ n5_ n6_ n7_ n8_ n9_ n10_; (try clear hb); (try clear hb2); (try clear hk); (try clear hi); (try clear ho0); obtain ⟨Ao127, co127, eo127⟩ := Kd.R_slice HO281.out; subst eo127) | ((with_reducible refine gate_callee (f := 13) rfl ?_); refine goesL_ (some 76) rfl rfl Try.func13 (by kernel_rfl) rfl #[.slice Ao43 t263.length co43, .slice Ao127 t279.length co127] rfl zl ?_; (with_reducible refine (laws_eqIntS.calls kj20 _ _ t263 _ _ t279 false _ ?side1 ?side2 ?side3 ?side4 A59.out).mono ?_); (case side1 => exact zc (Kd.R_reads' HO_12.out).2.2); (case side2 => exact (Kd.R_reads' HO_12.out).2.1); (case side3 => exact zc (Kd.R_reads' HO281.out).2.2); (case side4 => exact (Kd.R_reads' HO281.out).2.1); rintro e w' ⟨rfl, ⟨nd, rfl⟩⟩; refine ⟨_, rfl, ?_⟩))
          go_ret
          exact ⟨ze, zb HB.out⟩
        ·replace c57 := Bool.eq_false_iff.mpr c57
         subst c57
         have H1 : (some false) = some r := by rw [if_neg (show ¬ (false = true) by decide)] at H; exact H
         clear H
         have H := H1
         clear H1
         obtain rfl := Option.some.inj H
         try go_wp2
         have n0_ := Aside0.mk (Kd.R_drew HO_8.out)
         have n1_ := Aside0.mk (Kd.R_drew HO_11.out)
         have n2_ := Aside0.mk (Kd.R_drew HO_12.out)
         have n3_ := Aside0.mk (Kd.R_drew HO_13.out)
         have n4_ := Aside0.mk (Kd.R_drew HO_260000.out)
         have n5_ := Aside0.mk (blk_drew BK241.out)
         have n6_ := Aside0.mk (blk_drew BK259.out)
         have n7_ := Aside0.mk (below_drew1 HB.out)
         clear HO_8
         clear HO_11
         clear HO_12
         clear HO_13
         clear HO_260000
         clear BK241
         clear BK259
         clear HB
         have HO_8 := n0_
         have HO_11 := n1_
         have HO_12 := n2_
         have HO_13 := n3_
         have HO_260000 := n4_
         have BK241 := n5_
         have BK259 := n6_
         have HB := n7_
         clear n0_ n1_ n2_ n3_ n4_ n5_ n6_ n7_
         refine start_ (n := 5) (S := fun w' => w'.cell? ⟨gb259, 0, none⟩ = some (.slice Ao36 t256.length co36) ∧ w'.cell? ⟨gb241, 0, none⟩ = some (.slice A0_0 l0_0.length c0_0)) (ds := []) #[false, false, false, false, false] (by kernel_rfl) rfl rfl ⟨(blk_cell BK259.out 0).trans rfl, (blk_cell BK241.out 0).trans rfl⟩ (fun hHeld => ?_)
         generalize wc.drew = w128 at HO_8 HO_11 HO_12 HO_13 HO_260000 BK241 BK259 HB hHeld ⊢
         refine take_ (i := 0) (N := some 63) (v := ?_) (a' := ?_) #[true, false, false, false, false] rfl rfl (by kernel_rfl) (fun _ _ _ h => h) (Or.inl ⟨by rfl, ?_⟩) hHeld ?_ ?_
         rotate_left
         ·rintro w' ⟨s0, s1⟩
          go_simp
          with_reducible rfl
         rotate_left
         ·simp only [Act.put, List.setIfInBounds_toArray, List.set_cons_zero, List.set_cons_succ, i64_w, i32_w]
          rfl
         refine take_ (i := 1) (N := some 64) (v := ?_) (a' := ?_) #[true, true, false, false, false] rfl rfl (by kernel_rfl) (fun _ _ _ h => h) (Or.inl ⟨by rfl, ?_⟩) hHeld ?_ ?_
         rotate_left
         ·rintro w' ⟨s0, s1⟩
          go_simp
          with_reducible rfl
         rotate_left
         ·simp only [Act.put, List.setIfInBounds_toArray, List.set_cons_zero, List.set_cons_succ, i64_w, i32_w]
          rfl
         refine one_ (i := 2) (N := some 65) #[true, true, true, false, false] rfl rfl (by kernel_rfl) (by decide) (fun K hK => ?_)
         refine goes_ Try.func11 (by kernel_rfl) rfl #[.agg #[.slice A0_0 l0_0.length c0_0]] (by rfl) rfl rfl zl ?_
         with_reducible refine (laws_toPool.calls kj20 _ _ l0_0 t271 _ ?side1 ?side2 A52.out).mono ?_
         (case side1 => exact zc (Kd.C_below HR0_0.out HB.out))
         (case side2 => exact HC0_0.out)
         rintro e w129 ⟨v272, rfl, ho0, hb⟩
         refine ⟨_, rfl, ?_⟩
         have n0_ := Aside0.mk (Kd.R_below (zr HO_8.out) hb)
         have n1_ := Aside0.mk (Kd.R_below (zr HO_11.out) hb)
         have n2_ := Aside0.mk (Kd.R_below (zr HO_12.out) hb)
         have n3_ := Aside0.mk (Kd.R_below (zr HO_13.out) hb)
         have n4_ := Aside0.mk (Kd.R_elder' (zr HO_260000.out) (Kd.R_base ho0) hb)
         have n5_ := Aside0.mk (Kd.R_lower (Kd.R_new' ho0 (Kd.R_lt (zr HO_260000.out))) (below_size (zb HB.out)))
         have n6_ := Aside0.mk (blk_below (zh BK241.out) hb)
         have n7_ := Aside0.mk (blk_below (zh BK259.out) hb)
         have n8_ := Aside0.mk (below_step (zb HB.out) hb)
         clear HO_8
         clear HO_11
         clear HO_12
         clear HO_13
         clear HO_260000
         clear BK241
         clear BK259
         clear HB
         have HO_8 := n0_
         have HO_11 := n1_
         have HO_12 := n2_
         have HO_13 := n3_
         have HO_260000 := n4_
         have HO273 := n5_
         have BK241 := n6_
         have BK259 := n7_
         have HB := n8_
         clear n0_ n1_ n2_ n3_ n4_ n5_ n6_ n7_ n8_
         (try clear hb)
         (try clear hb2)
         (try clear hk)
         (try clear hi)
         (try clear ho0)
         obtain ⟨Ao130, co130, eo130⟩ := Kd.R_slice HO273.out
         (first | subst eo130 | (injection eo130 with f1_ f2_ f3_; have f4_ := f1_.symm; have f5_ := f3_.symm; clear f1_ f2_ f3_; subst f4_; subst f5_))
         refine hK.out _ _ ⟨(blk_cell BK259.out 0).trans rfl, (blk_cell BK241.out 0).trans rfl⟩ (fun hHeld => ?_)
         clear hK K
         refine norm_ (a' := ?_) ?_ ?_
         rotate_left
         ·show Act.put _ (some 65) _ = _
          simp only [Act.put, List.setIfInBounds_toArray, List.set_cons_zero, List.set_cons_succ, i64_w, i32_w]
          rfl
         refine one_ (i := 3) (N := some 66) #[true, true, true, true, false] rfl rfl (by kernel_rfl) (by decide) (fun K hK => ?_)
         refine goes_ Try.func14 (by kernel_rfl) rfl #[.agg #[.slice Ao36 t256.length co36], .agg #[.slice Ao130 t271.length co130]] (by rfl) rfl rfl zl ?_
         with_reducible refine (laws_eqPool.calls kj20 _ _ t256 _ _ t271 true _ ?side1 ?side2 ?side3 ?side4 A53.out).mono ?_
         (case side1 => exact zc (Kd.R_reads' HO_260000.out).2.2)
         (case side2 => exact (Kd.R_reads' HO_260000.out).2.1)
         (case side3 => exact zc (Kd.R_reads' HO273.out).2.2)
         (case side4 => exact (Kd.R_reads' HO273.out).2.1)
         rintro e w131 ⟨rfl, hb⟩
         refine ⟨_, rfl, ?_⟩
         have n0_ := Aside0.mk (Kd.R_below (zr HO_8.out) hb)
         have n1_ := Aside0.mk (Kd.R_below (zr HO_11.out) hb)
         have n2_ := Aside0.mk (Kd.R_below (zr HO_12.out) hb)
         have n3_ := Aside0.mk (Kd.R_below (zr HO_13.out) hb)
         have n4_ := Aside0.mk (Kd.R_below (zr HO_260000.out) hb)
         have n5_ := Aside0.mk (Kd.R_below (zr HO273.out) hb)
         have n6_ := Aside0.mk (blk_below (zh BK241.out) hb)
         have n7_ := Aside0.mk (blk_below (zh BK259.out) hb)
         have n8_ := Aside0.mk (below_step (zb HB.out) hb)
         clear HO_8
         clear HO_11
         clear HO_12
         clear HO_13
         clear HO_260000
         clear HO273
         clear BK241
         clear BK259
         clear HB
         have HO_8 := n0_
         have HO_11 := n1_
         have HO_12 := n2_
         have HO_13 := n3_
         have HO_260000 := n4_
         have HO273 := n5_
         have BK241 := n6_
         have BK259 := n7_
         have HB := n8_
         clear n0_ n1_ n2_ n3_ n4_ n5_ n6_ n7_ n8_
         (try clear hb)
         (try clear hb2)
         (try clear hk)
         (try clear hi)
         refine hK.out _ _ ⟨(blk_cell BK259.out 0).trans rfl, (blk_cell BK241.out 0).trans rfl⟩ (fun hHeld => ?_)
         clear hK K
         refine norm_ (a' := ?_) ?_ ?_
         rotate_left
         ·show Act.put _ (some 66) _ = _
          simp only [Act.put, List.setIfInBounds_toArray, List.set_cons_zero, List.set_cons_succ, i64_w, i32_w]
          rfl
         refine pure_ (i := 4) (N := some 67) (v := ?_) (a' := ?_) #[true, true, true, true, true] rfl rfl (by kernel_rfl) (fun _ _ _ h => h) (Or.inl ⟨by rfl, ?_⟩) ?_ ?_
         rotate_left
         ·intro w'
          go_simp
          with_reducible rfl
         rotate_left
         ·simp only [Act.put, List.setIfInBounds_toArray, List.set_cons_zero, List.set_cons_succ, i64_w, i32_w]
          rfl
         refine done_ (by kernel_rfl) ?_
         try go_wp2_with (first | ((with_reducible refine gate_callee (f := 28) rfl ?_); refine goesL_ (some 70) rfl rfl Try.func28 (by kernel_rfl) rfl #[.slice A1 l1.length c1] rfl zl ?_; (with_reducible refine (laws_toIntS.calls kj20 _ _ l1 t275 _ ?side1 ?side2 A55.out).mono ?_); (case side1 => exact zc (Kd.C_below HR1.out HB.out)); (case side2 => exact HC1.out); rintro e w132 ⟨v276, rfl, ho0, hb⟩; refine ⟨_, rfl, ?_⟩; have n0_ := Aside0.mk (Kd.R_elder' (zr HO_8.out) (Kd.R_base ho0) hb); have n1_ := Aside0.mk (Kd.R_elder' (zr HO_11.out) (Kd.R_base ho0) hb); have n2_ := Aside0.mk (Kd.R_elder' (zr HO_12.out) (Kd.R_base ho0) hb); have n3_ := Aside0.mk (Kd.R_elder' (zr HO_13.out) (Kd.R_base ho0) hb); have n4_ := Aside0.mk (Kd.R_below (zr HO_260000.out) hb); have n5_ := Aside0.mk (Kd.R_below (zr HO273.out) hb); have n6_ := Aside0.mk (Kd.R_lower (Kd.R_new' (Kd.R_new' (Kd.R_new' (Kd.R_new' ho0 (Kd.R_lt (zr HO_8.out))) (Kd.R_lt (zr HO_11.out))) (Kd.R_lt (zr HO_12.out))) (Kd.R_lt (zr HO_13.out))) (below_size (zb HB.out))); have n7_ := Aside0.mk (blk_below (zh BK241.out) hb); have n8_ := Aside0.mk (blk_below (zh BK259.out) hb); have n9_ := Aside0.mk (below_step (zb HB.out) hb); clear HO_8; clear HO_11; clear HO_12; clear HO_13; clear HO_260000; clear HO273; clear BK241; clear BK259; clear HB; have HO_8 := n0_; have HO_11 := n1_; have HO_12 := n2_; have HO_13 := n3_; have HO_260000 := n4_; have HO273 := n5_; have HO277 := n6_; have BK241 := n7_; have BK259 := n8_; have HB := n9_; clear n0_ n1_ n2_ n3_ n4_ n5_ n6_ n7_ n8_ n9_; (try clear hb); (try clear hb2); (try clear hk); (try clear hi); (try clear ho0); obtain ⟨Ao133, co133, eo133⟩ := Kd.R_slice HO277.out; subst eo133) | ((with_reducible refine gate_callee (f := 13) rfl ?_); refine goesL_ (some 71) rfl rfl Try.func13 (by kernel_rfl) rfl #[.slice Ao42 t260.length co42, .slice Ao133 t275.length co133] rfl zl ?_; (with_reducible refine (laws_eqIntS.calls kj20 _ _ t260 _ _ t275 false _ ?side1 ?side2 ?side3 ?side4 A56.out).mono ?_); (case side1 => exact zc (Kd.R_reads' HO_11.out).2.2); (case side2 => exact (Kd.R_reads' HO_11.out).2.1); (case side3 => exact zc (Kd.R_reads' HO277.out).2.2); (case side4 => exact (Kd.R_reads' HO277.out).2.1); rintro e w' ⟨rfl, ⟨nd, rfl⟩⟩; refine ⟨_, rfl, ?_⟩))
         go_ret
         exact ⟨ze, zb HB.out⟩
       ·replace c54 := Bool.eq_false_iff.mpr c54
        subst c54
        have H1 : (some false) = some r := by rw [if_neg (show ¬ (false = true) by decide)] at H; exact H
        clear H
        have H := H1
        clear H1
        obtain rfl := Option.some.inj H
        try go_wp2
        have n0_ := Aside0.mk (Kd.R_drew HO_8.out)
        have n1_ := Aside0.mk (Kd.R_drew HO_11.out)
        have n2_ := Aside0.mk (Kd.R_drew HO_12.out)
        have n3_ := Aside0.mk (Kd.R_drew HO_13.out)
        have n4_ := Aside0.mk (Kd.R_drew HO_260000.out)
        have n5_ := Aside0.mk (blk_drew BK241.out)
        have n6_ := Aside0.mk (blk_drew BK259.out)
        have n7_ := Aside0.mk (below_drew1 HB.out)
        clear HO_8
        clear HO_11
        clear HO_12
        clear HO_13
        clear HO_260000
        clear BK241
        clear BK259
        clear HB
        have HO_8 := n0_
        have HO_11 := n1_
        have HO_12 := n2_
        have HO_13 := n3_
        have HO_260000 := n4_
        have BK241 := n5_
        have BK259 := n6_
        have HB := n7_
        clear n0_ n1_ n2_ n3_ n4_ n5_ n6_ n7_
        refine start_ (n := 5) (S := fun w' => w'.cell? ⟨gb259, 0, none⟩ = some (.slice Ao36 t256.length co36) ∧ w'.cell? ⟨gb241, 0, none⟩ = some (.slice A0_0 l0_0.length c0_0)) (ds := []) #[false, false, false, false, false] (by kernel_rfl) rfl rfl ⟨(blk_cell BK259.out 0).trans rfl, (blk_cell BK241.out 0).trans rfl⟩ (fun hHeld => ?_)
        generalize wc.drew = w134 at HO_8 HO_11 HO_12 HO_13 HO_260000 BK241 BK259 HB hHeld ⊢
        refine take_ (i := 0) (N := some 63) (v := ?_) (a' := ?_) #[true, false, false, false, false] rfl rfl (by kernel_rfl) (fun _ _ _ h => h) (Or.inl ⟨by rfl, ?_⟩) hHeld ?_ ?_
        rotate_left
        ·rintro w' ⟨s0, s1⟩
         go_simp
         with_reducible rfl
        rotate_left
        ·simp only [Act.put, List.setIfInBounds_toArray, List.set_cons_zero, List.set_cons_succ, i64_w, i32_w]
         rfl
        refine take_ (i := 1) (N := some 64) (v := ?_) (a' := ?_) #[true, true, false, false, false] rfl rfl (by kernel_rfl) (fun _ _ _ h => h) (Or.inl ⟨by rfl, ?_⟩) hHeld ?_ ?_
        rotate_left
        ·rintro w' ⟨s0, s1⟩
         go_simp
         with_reducible rfl
        rotate_left
        ·simp only [Act.put, List.setIfInBounds_toArray, List.set_cons_zero, List.set_cons_succ, i64_w, i32_w]
         rfl
        refine one_ (i := 2) (N := some 65) #[true, true, true, false, false] rfl rfl (by kernel_rfl) (by decide) (fun K hK => ?_)
        refine goes_ Try.func11 (by kernel_rfl) rfl #[.agg #[.slice A0_0 l0_0.length c0_0]] (by rfl) rfl rfl zl ?_
        with_reducible refine (laws_toPool.calls kj20 _ _ l0_0 t271 _ ?side1 ?side2 A52.out).mono ?_
        (case side1 => exact zc (Kd.C_below HR0_0.out HB.out))
        (case side2 => exact HC0_0.out)
        rintro e w135 ⟨v272, rfl, ho0, hb⟩
        refine ⟨_, rfl, ?_⟩
        have n0_ := Aside0.mk (Kd.R_below (zr HO_8.out) hb)
        have n1_ := Aside0.mk (Kd.R_below (zr HO_11.out) hb)
        have n2_ := Aside0.mk (Kd.R_below (zr HO_12.out) hb)
        have n3_ := Aside0.mk (Kd.R_below (zr HO_13.out) hb)
        have n4_ := Aside0.mk (Kd.R_elder' (zr HO_260000.out) (Kd.R_base ho0) hb)
        have n5_ := Aside0.mk (Kd.R_lower (Kd.R_new' ho0 (Kd.R_lt (zr HO_260000.out))) (below_size (zb HB.out)))
        have n6_ := Aside0.mk (blk_below (zh BK241.out) hb)
        have n7_ := Aside0.mk (blk_below (zh BK259.out) hb)
        have n8_ := Aside0.mk (below_step (zb HB.out) hb)
        clear HO_8
        clear HO_11
        clear HO_12
        clear HO_13
        clear HO_260000
        clear BK241
        clear BK259
        clear HB
        have HO_8 := n0_
        have HO_11 := n1_
        have HO_12 := n2_
        have HO_13 := n3_
        have HO_260000 := n4_
        have HO273 := n5_
        have BK241 := n6_
        have BK259 := n7_
        have HB := n8_
        clear n0_ n1_ n2_ n3_ n4_ n5_ n6_ n7_ n8_
        (try clear hb)
        (try clear hb2)
        (try clear hk)
        (try clear hi)
        (try clear ho0)
        obtain ⟨Ao136, co136, eo136⟩ := Kd.R_slice HO273.out
        (first | subst eo136 | (injection eo136 with f1_ f2_ f3_; have f4_ := f1_.symm; have f5_ := f3_.symm; clear f1_ f2_ f3_; subst f4_; subst f5_))
        refine hK.out _ _ ⟨(blk_cell BK259.out 0).trans rfl, (blk_cell BK241.out 0).trans rfl⟩ (fun hHeld => ?_)
        clear hK K
        refine norm_ (a' := ?_) ?_ ?_
        rotate_left
        ·show Act.put _ (some 65) _ = _
         simp only [Act.put, List.setIfInBounds_toArray, List.set_cons_zero, List.set_cons_succ, i64_w, i32_w]
         rfl
        refine one_ (i := 3) (N := some 66) #[true, true, true, true, false] rfl rfl (by kernel_rfl) (by decide) (fun K hK => ?_)
        refine goes_ Try.func14 (by kernel_rfl) rfl #[.agg #[.slice Ao36 t256.length co36], .agg #[.slice Ao136 t271.length co136]] (by rfl) rfl rfl zl ?_
        with_reducible refine (laws_eqPool.calls kj20 _ _ t256 _ _ t271 false _ ?side1 ?side2 ?side3 ?side4 A53.out).mono ?_
        (case side1 => exact zc (Kd.R_reads' HO_260000.out).2.2)
        (case side2 => exact (Kd.R_reads' HO_260000.out).2.1)
        (case side3 => exact zc (Kd.R_reads' HO273.out).2.2)
        (case side4 => exact (Kd.R_reads' HO273.out).2.1)
        rintro e w137 ⟨rfl, hb⟩
        refine ⟨_, rfl, ?_⟩
        have n0_ := Aside0.mk (Kd.R_below (zr HO_8.out) hb)
        have n1_ := Aside0.mk (Kd.R_below (zr HO_11.out) hb)
        have n2_ := Aside0.mk (Kd.R_below (zr HO_12.out) hb)
        have n3_ := Aside0.mk (Kd.R_below (zr HO_13.out) hb)
        have n4_ := Aside0.mk (Kd.R_below (zr HO_260000.out) hb)
        have n5_ := Aside0.mk (Kd.R_below (zr HO273.out) hb)
        have n6_ := Aside0.mk (blk_below (zh BK241.out) hb)
        have n7_ := Aside0.mk (blk_below (zh BK259.out) hb)
        have n8_ := Aside0.mk (below_step (zb HB.out) hb)
        clear HO_8
        clear HO_11
        clear HO_12
        clear HO_13
        clear HO_260000
        clear HO273
        clear BK241
        clear BK259
        clear HB
        have HO_8 := n0_
        have HO_11 := n1_
        have HO_12 := n2_
        have HO_13 := n3_
        have HO_260000 := n4_
        have HO273 := n5_
        have BK241 := n6_
        have BK259 := n7_
        have HB := n8_
        clear n0_ n1_ n2_ n3_ n4_ n5_ n6_ n7_ n8_
        (try clear hb)
        (try clear hb2)
        (try clear hk)
        (try clear hi)
        refine hK.out _ _ ⟨(blk_cell BK259.out 0).trans rfl, (blk_cell BK241.out 0).trans rfl⟩ (fun hHeld => ?_)
        clear hK K
        refine norm_ (a' := ?_) ?_ ?_
        rotate_left
        ·show Act.put _ (some 66) _ = _
         simp only [Act.put, List.setIfInBounds_toArray, List.set_cons_zero, List.set_cons_succ, i64_w, i32_w]
         rfl
        refine pure_ (i := 4) (N := some 67) (v := ?_) (a' := ?_) #[true, true, true, true, true] rfl rfl (by kernel_rfl) (fun _ _ _ h => h) (Or.inl ⟨by rfl, ?_⟩) ?_ ?_
        rotate_left
        ·intro w'
         go_simp
         with_reducible rfl
        rotate_left
        ·simp only [Act.put, List.setIfInBounds_toArray, List.set_cons_zero, List.set_cons_succ, i64_w, i32_w]
         rfl
        refine done_ (by kernel_rfl) ?_
        try go_wp2
        go_ret
        exact ⟨ze, zb HB.out⟩

end Go.Proofs.Ytdgahpigcaejbaa.J
end
