-- Written by this session's program (wip/tools/gprint.py over the kit's print) out of the translation; Lean checks it.
import Derived.Test.YtpgaifjneedjoaaB0
import Derived.Test.YtpgaifjneedjoaaB2
import Derived.Test.YtpgaifjneedjoaaB5
import Derived.Test.YtpgaifjneedjoaaB10
import Derived.Test.YtpgaifjneedjoaaB11
import Derived.Test.YtpgaifjneedjoaaB19
namespace Go.Proofs.Ytpgaifjneedjoaa.B
open Go.RowKit Go.Proofs.YtpgaifjneedjoaaW.PrintWords Go.Proofs.YtpgaifjneedjoaaW.PrintLast Go.Proofs.YtpgaifjneedjoaaW.PrintMore
attribute [local go_sem] max2_int min2_int max_two min_two max_three min_three max_four min_four   -- for this text's walks alone
set_option linter.unusedVariables false
set_option linter.unusedSimpArgs false
set_option maxRecDepth 100000

/-! ### laws_FnExactMakeSeal: function 7 -/
mutual
def laws_FnExactMakeSeal.j0 : Nat → Int → Int → Int → Int → Bool → List (S74) → List (S49) → List (S49) → List (S49) → Option (Bool)
 | 0, _, _, _, _, _, _, _, _, _ => none
 | k + 1, x1, x2, x9, x12, x48, x421000, x430000, x434000, x439000 => if x48 = true then (some false) else ((laws_toPool.f k x421000).bind fun t440 => ((laws_eqPool.f k x434000 t440).bind fun t443 => (if t443 = true then ((laws_markPool.f k x434000 1).bind fun bt444 => (if bt444.1 < 0 then (laws_FnExactMakeSeal.j1 k x1 x2 x9 true x421000 x430000 x439000) else ((laws_eqPool.f k x439000 x430000).bind fun t446 => (if t446 = true then (laws_FnExactMakeSeal.j1 k x1 x2 x9 (x12 != x9) x421000 x430000 x439000) else (laws_FnExactMakeSeal.j1 k x1 x2 x9 true x421000 x430000 x439000))))) else (some false))))
def laws_FnExactMakeSeal.j1 : Nat → Int → Int → Int → Bool → List (S74) → List (S49) → List (S49) → Option (Bool)
 | 0, _, _, _, _, _, _, _ => none
 | k + 1, x1, x2, x9, x69, x421000, x430000, x439000 => if x69 = true then (some false) else ((laws_markPool.f k x439000 1).bind fun bt447 => ((laws_heldPool.f k bt447.2 1).bind fun t449 => (if t449 < 0 then (some false) else (if t449 = bt447.1 then ((laws_toPool.f k x421000).bind fun t450 => ((impl_MakeSeal.f k t450 x1 x2).bind fun bt453 => ((laws_eqPool.f k bt453.1 x430000).bind fun t458 => (if t458 = true then (laws_FnExactMakeSeal.j2 k bt447.1 (bt453.2 != x9) bt447.2) else (laws_FnExactMakeSeal.j2 k bt447.1 true bt447.2))))) else (some false)))))
def laws_FnExactMakeSeal.j2 : Nat → Int → Bool → List (S49) → Option (Bool)
 | 0, _, _, _ => none
 | k + 1, x14, x97, x439000 => if x97 = true then (some false) else ((laws_heldPool.f k x439000 1).bind fun t459 => (if t459 < 0 then (some false) else (if t459 = x14 then (some true) else (some false))))
end
def laws_FnExactMakeSeal.f (k : Nat) (l0_0 : List (S74)) (a1 : Int) (a2 : Int) : Option (Bool) := (laws_szPool.f l0_0 1048576).bind fun t421 => (if t421 < 0 then (some true) else ((laws_toPool.f k l0_0).bind fun t422 => ((spec_MakeSeal.f k t422 a1 a2).bind fun bt425 => ((laws_toPool.f k l0_0).bind fun t430 => ((impl_MakeSeal.f k t430 a1 a2).bind fun bt434 => ((laws_eqPool.f k bt434.1 bt425.1).bind fun t439 => (if t439 = true then (laws_FnExactMakeSeal.j0 k a1 a2 bt425.2 bt434.2 (bt434.2 != bt425.2) l0_0 bt425.1 t430 bt434.1) else (laws_FnExactMakeSeal.j0 k a1 a2 bt425.2 bt434.2 true l0_0 bt425.1 t430 bt434.1))))))))
theorem laws_FnExactMakeSeal.mono_l : ∀ k, (∀ y0 y1 y2 y3 y4 y5 y6 y7 y8, LeO (laws_FnExactMakeSeal.j0 k y0 y1 y2 y3 y4 y5 y6 y7 y8) (laws_FnExactMakeSeal.j0 (k + 1) y0 y1 y2 y3 y4 y5 y6 y7 y8)) ∧ (∀ y0 y1 y2 y3 y4 y5 y6, LeO (laws_FnExactMakeSeal.j1 k y0 y1 y2 y3 y4 y5 y6) (laws_FnExactMakeSeal.j1 (k + 1) y0 y1 y2 y3 y4 y5 y6)) ∧ (∀ y0 y1 y2, LeO (laws_FnExactMakeSeal.j2 k y0 y1 y2) (laws_FnExactMakeSeal.j2 (k + 1) y0 y1 y2))
 | 0 => ⟨fun _ _ _ _ _ _ _ _ _ r h => by simp [laws_FnExactMakeSeal.j0] at h, fun _ _ _ _ _ _ _ r h => by simp [laws_FnExactMakeSeal.j1] at h, fun _ _ _ r h => by simp [laws_FnExactMakeSeal.j2] at h⟩
 | k + 1 => by
  obtain ⟨ih0, ih1, ih2⟩ := laws_FnExactMakeSeal.mono_l k
  refine ⟨?_, ?_, ?_⟩
  ·intro y0 y1 y2 y3 y4 y5 y6 y7 y8
   unfold laws_FnExactMakeSeal.j0
   repeat' first
   | (with_reducible exact ih0 _ _ _ _ _ _ _ _ _)
   | (with_reducible exact ih1 _ _ _ _ _ _ _)
   | (with_reducible exact ih2 _ _ _)
   | (with_reducible exact impl_MakeSeal.mono _ _ _ _)
   | (with_reducible exact laws_eqPool.mono _ _ _)
   | (with_reducible exact laws_heldPool.mono _ _ _)
   | (with_reducible exact laws_markPool.mono _ _ _)
   | (with_reducible exact laws_toPool.mono _ _)
   | (with_reducible exact spec_MakeSeal.mono _ _ _ _)
   | (with_reducible exact LeO.refl _)
   | (with_reducible exact LeO.none _)
   | (with_reducible refine LeO.ite ?_ ?_)
   | (with_reducible refine LeO.bind ?_ (fun _ => ?_))
   | exact ih0 _ _ _ _ _ _ _ _ _
   | exact ih1 _ _ _ _ _ _ _
   | exact ih2 _ _ _
   | exact impl_MakeSeal.mono _ _ _ _
   | exact laws_eqPool.mono _ _ _
   | exact laws_heldPool.mono _ _ _
   | exact laws_markPool.mono _ _ _
   | exact laws_toPool.mono _ _
   | exact spec_MakeSeal.mono _ _ _ _
   | exact LeO.none _
   | refine LeO.ite ?_ ?_
   | refine LeO.bind ?_ (fun _ => ?_)
  ·intro y0 y1 y2 y3 y4 y5 y6
   unfold laws_FnExactMakeSeal.j1
   repeat' first
   | (with_reducible exact ih0 _ _ _ _ _ _ _ _ _)
   | (with_reducible exact ih1 _ _ _ _ _ _ _)
   | (with_reducible exact ih2 _ _ _)
   | (with_reducible exact impl_MakeSeal.mono _ _ _ _)
   | (with_reducible exact laws_eqPool.mono _ _ _)
   | (with_reducible exact laws_heldPool.mono _ _ _)
   | (with_reducible exact laws_markPool.mono _ _ _)
   | (with_reducible exact laws_toPool.mono _ _)
   | (with_reducible exact spec_MakeSeal.mono _ _ _ _)
   | (with_reducible exact LeO.refl _)
   | (with_reducible exact LeO.none _)
   | (with_reducible refine LeO.ite ?_ ?_)
   | (with_reducible refine LeO.bind ?_ (fun _ => ?_))
   | exact ih0 _ _ _ _ _ _ _ _ _
   | exact ih1 _ _ _ _ _ _ _
   | exact ih2 _ _ _
   | exact impl_MakeSeal.mono _ _ _ _
   | exact laws_eqPool.mono _ _ _
   | exact laws_heldPool.mono _ _ _
   | exact laws_markPool.mono _ _ _
   | exact laws_toPool.mono _ _
   | exact spec_MakeSeal.mono _ _ _ _
   | exact LeO.none _
   | refine LeO.ite ?_ ?_
   | refine LeO.bind ?_ (fun _ => ?_)
  ·intro y0 y1 y2
   unfold laws_FnExactMakeSeal.j2
   repeat' first
   | (with_reducible exact ih0 _ _ _ _ _ _ _ _ _)
   | (with_reducible exact ih1 _ _ _ _ _ _ _)
   | (with_reducible exact ih2 _ _ _)
   | (with_reducible exact impl_MakeSeal.mono _ _ _ _)
   | (with_reducible exact laws_eqPool.mono _ _ _)
   | (with_reducible exact laws_heldPool.mono _ _ _)
   | (with_reducible exact laws_markPool.mono _ _ _)
   | (with_reducible exact laws_toPool.mono _ _)
   | (with_reducible exact spec_MakeSeal.mono _ _ _ _)
   | (with_reducible exact LeO.refl _)
   | (with_reducible exact LeO.none _)
   | (with_reducible refine LeO.ite ?_ ?_)
   | (with_reducible refine LeO.bind ?_ (fun _ => ?_))
   | exact ih0 _ _ _ _ _ _ _ _ _
   | exact ih1 _ _ _ _ _ _ _
   | exact ih2 _ _ _
   | exact impl_MakeSeal.mono _ _ _ _
   | exact laws_eqPool.mono _ _ _
   | exact laws_heldPool.mono _ _ _
   | exact laws_markPool.mono _ _ _
   | exact laws_toPool.mono _ _
   | exact spec_MakeSeal.mono _ _ _ _
   | exact LeO.none _
   | refine LeO.ite ?_ ?_
   | refine LeO.bind ?_ (fun _ => ?_)
theorem laws_FnExactMakeSeal.mono : ∀ a0 a1 a2 k, LeO (laws_FnExactMakeSeal.f k a0 a1 a2) (laws_FnExactMakeSeal.f (k + 1) a0 a1 a2) := by
 intro a0 a1 a2 k
 obtain ⟨ih0, ih1, ih2⟩ := laws_FnExactMakeSeal.mono_l k
 unfold laws_FnExactMakeSeal.f
 repeat' first
   | (with_reducible exact ih0 _ _ _ _ _ _ _ _ _)
   | (with_reducible exact ih1 _ _ _ _ _ _ _)
   | (with_reducible exact ih2 _ _ _)
   | (with_reducible exact impl_MakeSeal.mono _ _ _ _)
   | (with_reducible exact laws_eqPool.mono _ _ _)
   | (with_reducible exact laws_heldPool.mono _ _ _)
   | (with_reducible exact laws_markPool.mono _ _ _)
   | (with_reducible exact laws_toPool.mono _ _)
   | (with_reducible exact spec_MakeSeal.mono _ _ _ _)
   | (with_reducible exact LeO.refl _)
   | (with_reducible exact LeO.none _)
   | (with_reducible refine LeO.ite ?_ ?_)
   | (with_reducible refine LeO.bind ?_ (fun _ => ?_))
   | exact ih0 _ _ _ _ _ _ _ _ _
   | exact ih1 _ _ _ _ _ _ _
   | exact ih2 _ _ _
   | exact impl_MakeSeal.mono _ _ _ _
   | exact laws_eqPool.mono _ _ _
   | exact laws_heldPool.mono _ _ _
   | exact laws_markPool.mono _ _ _
   | exact laws_toPool.mono _ _
   | exact spec_MakeSeal.mono _ _ _ _
   | exact LeO.none _
   | refine LeO.ite ?_ ?_
   | refine LeO.bind ?_ (fun _ => ?_)
set_option maxHeartbeats 8000000 in
set_option maxRecDepth 100000 in
theorem laws_FnExactMakeSeal.calls (k : Nat) (A0_0 : Option Addr) (c0_0 : Nat) (l0_0 : List (S74)) (a1 : Int) (a2 : Int) (r : Bool) (w : World) (hr0_0 : Kd.C k74 w A0_0 l0_0.length l0_0) (hc0_0 : l0_0.length ≤ c0_0) (h : laws_FnExactMakeSeal.f k l0_0 a1 a2 = some r) :
  Calls Try.prog 7 #[.agg #[.slice A0_0 l0_0.length c0_0], .int .i64 a1, .int .i64 a2] w fun e w' => e = .returned (.bool r) ∧ Below w.heap.size w w' := by
 have hu24 := Try.underlying24
 have hu28 := Try.underlying28
 have HR0_0 := Aside0.mk hr0_0
 have HC0_0 := Aside0.mk hc0_0
 clear hr0_0 hc0_0
 have HB := Aside0.mk (Below.refl w.heap.size w)
 have H : ((laws_szPool.f l0_0 1048576).bind fun t421 => (if t421 < 0 then (some true) else ((laws_toPool.f k l0_0).bind fun t422 => ((spec_MakeSeal.f k t422 a1 a2).bind fun bt425 => ((laws_toPool.f k l0_0).bind fun t430 => ((impl_MakeSeal.f k t430 a1 a2).bind fun bt434 => ((laws_eqPool.f k bt434.1 bt425.1).bind fun t439 => (if t439 = true then (laws_FnExactMakeSeal.j0 k a1 a2 bt425.2 bt434.2 (bt434.2 != bt425.2) l0_0 bt425.1 t430 bt434.1) else (laws_FnExactMakeSeal.j0 k a1 a2 bt425.2 bt434.2 true l0_0 bt425.1 t430 bt434.1))))))))) = some r := h
 clear h
 replace H := Option.bind_eq_some_iff.mp H
 obtain ⟨t421, A40, H⟩ := H
 replace H : (if t421 < 0 then (some true) else ((laws_toPool.f k l0_0).bind fun t422 => ((spec_MakeSeal.f k t422 a1 a2).bind fun bt425 => ((laws_toPool.f k l0_0).bind fun t430 => ((impl_MakeSeal.f k t430 a1 a2).bind fun bt434 => ((laws_eqPool.f k bt434.1 bt425.1).bind fun t439 => (if t439 = true then (laws_FnExactMakeSeal.j0 k a1 a2 bt425.2 bt434.2 (bt434.2 != bt425.2) l0_0 bt425.1 t430 bt434.1) else (laws_FnExactMakeSeal.j0 k a1 a2 bt425.2 bt434.2 true l0_0 bt425.1 t430 bt434.1)))))))) = some r := H
 have A4 := Aside0.mk A40
 clear A40
 by_cases c5 : t421 < 0
 ·rw [if_pos c5] at H
  have c5b0 : decide (t421 < 0) = true := decide_eq_true c5
  clear c5
  obtain rfl := Option.some.inj H
  go_enter Try.func7, Try.ntmps7
  go_wp2_with (first | ((with_reducible refine gate_dst (N := 3) rfl ?_); refine box_event ?hg (N := 3) ?hd (cs := #[.slice A0_0 l0_0.length c0_0]) (t := 24) ?hr ?_; (case hd => rfl); (case hg => rfl); (case hr => first | (go_simp; done) | (go_simp; rfl)); intro gb420 hg w6 hbox hb; have n0_ := Aside0.mk (below_step (zb HB.out) hb); have n1_ := Aside0.mk (hbox); have n2_ := Aside0.mk ((by rw [hg]; exact (below_size (zb HB.out)) : w.heap.size ≤ gb420)); have n3_ := Aside0.mk ((by rw [hg]; exact (below_size (zb HB.out)) : w.heap.size ≤ gb420)); clear HB; have HB := n0_; have BK420 := n1_; have GW420 := n2_; have GE420 := n3_; clear n0_ n1_ n2_ n3_; clear hb hbox hg; have hcz7_0 : w6.cell? ⟨gb420, 0, none⟩ = some (.slice A0_0 l0_0.length c0_0) := (blk_cell BK420.out 0).trans rfl; have hfz7_0 := blk_frozen BK420.out 0) | ((with_reducible refine gate_callee (f := 13) rfl ?_); refine goesL_ (some 20) rfl rfl Try.func13 (by kernel_rfl) rfl #[.agg #[.slice A0_0 l0_0.length c0_0], .int .i64 1048576] rfl zl ?_; (with_reducible refine (laws_szPool.calls _ _ l0_0 1048576 t421 _ ?side1 ?side2 A4.out).mono ?_); (case side1 => exact zc (Kd.C_below HR0_0.out HB.out)); (case side2 => exact HC0_0.out); rintro e w8 ⟨rfl, hb⟩; refine ⟨_, rfl, ?_⟩; have n0_ := Aside0.mk (blk_below (zh BK420.out) hb); have n1_ := Aside0.mk (below_step (zb HB.out) hb); clear BK420; clear HB; have BK420 := n0_; have HB := n1_; clear n0_ n1_; (try clear hb); (try clear hb2); (try clear hk); (try clear hi)))
  go_ret
  exact ⟨ze, zb HB.out⟩
 ·rw [if_neg c5] at H
  have c5b0 : decide (t421 < 0) = false := decide_eq_false c5
  clear c5
  replace H := Option.bind_eq_some_iff.mp H
  obtain ⟨t422, A90, H⟩ := H
  replace H : ((spec_MakeSeal.f k t422 a1 a2).bind fun bt425 => ((laws_toPool.f k l0_0).bind fun t430 => ((impl_MakeSeal.f k t430 a1 a2).bind fun bt434 => ((laws_eqPool.f k bt434.1 bt425.1).bind fun t439 => (if t439 = true then (laws_FnExactMakeSeal.j0 k a1 a2 bt425.2 bt434.2 (bt434.2 != bt425.2) l0_0 bt425.1 t430 bt434.1) else (laws_FnExactMakeSeal.j0 k a1 a2 bt425.2 bt434.2 true l0_0 bt425.1 t430 bt434.1)))))) = some r := H
  have A9 := Aside0.mk A90
  clear A90
  replace H := Option.bind_eq_some_iff.mp H
  obtain ⟨⟨t425, t428⟩, A100, H⟩ := H
  replace H : ((laws_toPool.f k l0_0).bind fun t430 => ((impl_MakeSeal.f k t430 a1 a2).bind fun bt434 => ((laws_eqPool.f k bt434.1 t425).bind fun t439 => (if t439 = true then (laws_FnExactMakeSeal.j0 k a1 a2 t428 bt434.2 (bt434.2 != t428) l0_0 t425 t430 bt434.1) else (laws_FnExactMakeSeal.j0 k a1 a2 t428 bt434.2 true l0_0 t425 t430 bt434.1))))) = some r := H
  have A10 := Aside0.mk A100
  clear A100
  replace H := Option.bind_eq_some_iff.mp H
  obtain ⟨t430, A110, H⟩ := H
  replace H : ((impl_MakeSeal.f k t430 a1 a2).bind fun bt434 => ((laws_eqPool.f k bt434.1 t425).bind fun t439 => (if t439 = true then (laws_FnExactMakeSeal.j0 k a1 a2 t428 bt434.2 (bt434.2 != t428) l0_0 t425 t430 bt434.1) else (laws_FnExactMakeSeal.j0 k a1 a2 t428 bt434.2 true l0_0 t425 t430 bt434.1)))) = some r := H
  have A11 := Aside0.mk A110
  clear A110
  replace H := Option.bind_eq_some_iff.mp H
  obtain ⟨⟨t434, t437⟩, A120, H⟩ := H
  replace H : ((laws_eqPool.f k t434 t425).bind fun t439 => (if t439 = true then (laws_FnExactMakeSeal.j0 k a1 a2 t428 t437 (t437 != t428) l0_0 t425 t430 t434) else (laws_FnExactMakeSeal.j0 k a1 a2 t428 t437 true l0_0 t425 t430 t434))) = some r := H
  have A12 := Aside0.mk A120
  clear A120
  have HC13 := Aside0.mk H
  clear H
  go_enter Try.func7, Try.ntmps7
  go_upto_region 8 with (first | ((with_reducible refine gate_dst (N := 3) rfl ?_); refine box_event ?hg (N := 3) ?hd (cs := #[.slice A0_0 l0_0.length c0_0]) (t := 24) ?hr ?_; (case hd => rfl); (case hg => rfl); (case hr => first | (go_simp; done) | (go_simp; rfl)); intro gb420 hg w14 hbox hb; have n0_ := Aside0.mk (below_step (zb HB.out) hb); have n1_ := Aside0.mk (hbox); have n2_ := Aside0.mk ((by rw [hg]; exact (below_size (zb HB.out)) : w.heap.size ≤ gb420)); have n3_ := Aside0.mk ((by rw [hg]; exact (below_size (zb HB.out)) : w.heap.size ≤ gb420)); clear HB; have HB := n0_; have BK420 := n1_; have GW420 := n2_; have GE420 := n3_; clear n0_ n1_ n2_ n3_; clear hb hbox hg; have hcz15_0 : w14.cell? ⟨gb420, 0, none⟩ = some (.slice A0_0 l0_0.length c0_0) := (blk_cell BK420.out 0).trans rfl; have hfz15_0 := blk_frozen BK420.out 0) | ((with_reducible refine gate_callee (f := 13) rfl ?_); refine goesL_ (some 20) rfl rfl Try.func13 (by kernel_rfl) rfl #[.agg #[.slice A0_0 l0_0.length c0_0], .int .i64 1048576] rfl zl ?_; (with_reducible refine (laws_szPool.calls _ _ l0_0 1048576 t421 _ ?side1 ?side2 A4.out).mono ?_); (case side1 => exact zc (Kd.C_below HR0_0.out HB.out)); (case side2 => exact HC0_0.out); rintro e w16 ⟨rfl, hb⟩; refine ⟨_, rfl, ?_⟩; have n0_ := Aside0.mk (blk_below (zh BK420.out) hb); have n1_ := Aside0.mk (below_step (zb HB.out) hb); clear BK420; clear HB; have BK420 := n0_; have HB := n1_; clear n0_ n1_; (try clear hb); (try clear hb2); (try clear hk); (try clear hi); have hcz17_0 : w16.cell? ⟨gb420, 0, none⟩ = some (.slice A0_0 l0_0.length c0_0) := (blk_cell BK420.out 0).trans rfl; have hfz17_0 := blk_frozen BK420.out 0) | ((with_reducible refine gate_callee (f := 15) rfl ?_); refine goesL_ (some 25) rfl rfl Try.func15 (by kernel_rfl) rfl #[.agg #[.slice A0_0 l0_0.length c0_0]] rfl zl ?_; (with_reducible refine (laws_toPool.calls k _ _ l0_0 t422 _ ?side1 ?side2 A9.out).mono ?_); (case side1 => exact zc (Kd.C_below HR0_0.out HB.out)); (case side2 => exact HC0_0.out); rintro e w18 ⟨v423, rfl, ho0, hb⟩; refine ⟨_, rfl, ?_⟩; have n0_ := Aside0.mk (Kd.R_lower ho0 (below_size (zb HB.out))); have n1_ := Aside0.mk (blk_below (zh BK420.out) hb); have n2_ := Aside0.mk (below_step (zb HB.out) hb); clear BK420; clear HB; have HO424 := n0_; have BK420 := n1_; have HB := n2_; clear n0_ n1_ n2_; (try clear hb); (try clear hb2); (try clear hk); (try clear hi); (try clear ho0); obtain ⟨Ao19, co19, eo19⟩ := Kd.R_slice HO424.out; subst eo19) | ((with_reducible refine gate_callee (f := 26) rfl ?_); refine goesL_ (some 28) rfl rfl Try.func26 (by kernel_rfl) rfl #[.agg #[.slice Ao19 t422.length co19], .int .i64 a1, .int .i64 a2] rfl zl ?_; (with_reducible refine (spec_MakeSeal.calls k (fun k_ => some k_ = (.slice Ao19 t422.length co19 : Value).ownBlock) (.slice Ao19 t422.length co19) t422 a1 a2 t425 t428 w _ ?side1 ?side2 A10.out).mono ?_); (case side1 => repeat (first | (with_reducible first | exact HB.out | apply below_alloc | apply pw_below_drewN | apply below_drew1 | refine below_set ?_ GE420.out) | exact HB.out)); (case side2 => exact Kd.R_tight rfl HO424.out); rintro e w20 ⟨v426, rfl, ho0, hb, hkp⟩; refine ⟨_, rfl, ?_⟩; have n0_ := Aside0.mk (blk_kept (zh BK420.out) hkp (fun hs_ => (fun e_ => (Kd.R_ne HO424.out BK420.out (by decide)) e_) hs_)); have n1_ := Aside0.mk (Kd.R_mono (ok' := fun k_ => True) ho0 (fun k_ hk_ => trivial)); have n2_ := Aside0.mk (hb); clear BK420; clear HB; clear HO424; have BK420 := n0_; have HO427 := n1_; have HB := n2_; clear n0_ n1_ n2_; (try clear hb); (try clear hkp); (try clear ho0)) | ((with_reducible refine gate_dst (N := 8) rfl ?_); refine box_event ?hg (N := 8) ?hd (cs := #[.slice none 0 0]) (t := 28) ?hr ?_; (case hd => rfl); (case hg => rfl); (case hr => first | (go_simp; done) | (go_simp; rfl)); intro gb429 hg w21 hbox hb; have n0_ := Aside0.mk (Kd.R_below (zr HO427.out) hb); have n1_ := Aside0.mk (blk_below (zh BK420.out) hb); have n2_ := Aside0.mk (below_step (zb HB.out) hb); have n3_ := Aside0.mk (hbox); have n4_ := Aside0.mk ((by rw [hg]; exact (below_size (zb HB.out)) : w.heap.size ≤ gb429)); have n5_ := Aside0.mk ((by rw [hg]; exact (below_size (zb HB.out)) : w.heap.size ≤ gb429)); have n6_ := Aside0.mk ((by rw [hg]; exact Nat.ne_of_lt (blk_lt (zh BK420.out)) : gb420 ≠ gb429)); have n7_ := Aside0.mk ((by rw [hg]; exact Nat.ne_of_gt (blk_lt (zh BK420.out)) : gb429 ≠ gb420)); clear HO427; clear BK420; clear HB; have HO427 := n0_; have BK420 := n1_; have HB := n2_; have BK429 := n3_; have GW429 := n4_; have GE429 := n5_; have NB420_429 := n6_; have NB429_420 := n7_; clear n0_ n1_ n2_ n3_ n4_ n5_ n6_ n7_; clear hb hbox hg; obtain ⟨Ao22, co22, eo22⟩ := Kd.R_slice HO427.out; subst eo22; have hnb23 := NB429_420.out; have hnc23 := NB420_429.out; have hcz24_0 : w21.cell? ⟨gb429, 0, none⟩ = some (.slice none 0 0) := (blk_cell BK429.out 0).trans rfl; have hfz24_0 := blk_frozen BK429.out 0; have hcz25_0 : w21.cell? ⟨gb420, 0, none⟩ = some (.slice A0_0 l0_0.length c0_0) := (blk_cell BK420.out 0).trans rfl; have hfz25_0 := blk_frozen BK420.out 0) | ((with_reducible refine gate_callee (f := 15) rfl ?_); refine goesL_ (some 32) rfl rfl Try.func15 (by kernel_rfl) rfl #[.agg #[.slice A0_0 l0_0.length c0_0]] rfl zl ?_; (with_reducible refine (laws_toPool.calls k _ _ l0_0 t430 _ ?side1 ?side2 A11.out).mono ?_); (case side1 => exact Kd.C_below HR0_0.out (zb HB.out)); (case side2 => exact HC0_0.out); rintro e w26 ⟨v431, rfl, ho0, hb⟩; refine ⟨_, rfl, ?_⟩; have n0_ := Aside0.mk (Kd.R_elder' (by (with_reducible repeat (first | apply Kd.R_alloc | apply Kd.R_drewN | apply Kd.R_drew)); exact (Kd.R_mono (Kd.R_far (p := ⟨gb429, 0, none⟩) (Kd.R_types HO427.out BK429.out (by decide)) (fun _ hk => hk.2) (.slice Ao22 t425.length co22)) (fun _ h_ => h_.1))) (Kd.R_base ho0) hb); have n1_ := Aside0.mk (Kd.R_lower (Kd.R_new' ho0 (Kd.R_lt (by (with_reducible repeat (first | apply Kd.R_alloc | apply Kd.R_drewN | apply Kd.R_drew)); exact (Kd.R_mono (Kd.R_far (p := ⟨gb429, 0, none⟩) (Kd.R_types HO427.out BK429.out (by decide)) (fun _ hk => hk.2) (.slice Ao22 t425.length co22)) (fun _ h_ => h_.1))))) (below_size (zb HB.out))); have n2_ := Aside0.mk (blk_below (g := gb420) (o := .cells #[.slice A0_0 l0_0.length c0_0] 24 (0, 0)) (zf BK420.out) hb); have n3_ := Aside0.mk (blk_below (g := gb429) (o := .cells #[.slice Ao22 t425.length co22] 28 (0, 0)) (by (with_reducible repeat (first | refine blk_drewN ?_ _ | refine blk_drew ?_ | refine blk_alloc ?_ _)); refine blk_put (cs := #[.slice none 0 0]) ?_ 0 _ rfl; (with_reducible repeat (first | refine blk_drewN ?_ _ | refine blk_drew ?_ | refine blk_alloc ?_ _)); exact BK429.out) hb); have n4_ := Aside0.mk (below_step (zb HB.out) hb); clear HO427; clear BK420; clear BK429; clear HB; have HO427 := n0_; have HO432 := n1_; have BK420 := n2_; have BK429 := n3_; have HB := n4_; clear n0_ n1_ n2_ n3_ n4_; (try clear hb); (try clear hb2); (try clear hk); (try clear hi); (try clear ho0)) | ((with_reducible refine gate_dst (N := 10) rfl ?_); refine box_event ?hg (N := 10) ?hd (cs := #[.slice none 0 0]) (t := 28) ?hr ?_; (case hd => rfl); (case hg => rfl); (case hr => first | (go_simp; done) | (go_simp; rfl)); intro gb433 hg w27 hbox hb; have n0_ := Aside0.mk (Kd.R_below (zr HO427.out) hb); have n1_ := Aside0.mk (Kd.R_below (zr HO432.out) hb); have n2_ := Aside0.mk (blk_below (zh BK420.out) hb); have n3_ := Aside0.mk (blk_below (zh BK429.out) hb); have n4_ := Aside0.mk (below_step (zb HB.out) hb); have n5_ := Aside0.mk (hbox); have n6_ := Aside0.mk ((by rw [hg]; exact (below_size (zb HB.out)) : w.heap.size ≤ gb433)); have n7_ := Aside0.mk ((by rw [hg]; exact (below_size (zb HB.out)) : w.heap.size ≤ gb433)); have n8_ := Aside0.mk ((by rw [hg]; exact Nat.ne_of_lt (blk_lt (zh BK420.out)) : gb420 ≠ gb433)); have n9_ := Aside0.mk ((by rw [hg]; exact Nat.ne_of_gt (blk_lt (zh BK420.out)) : gb433 ≠ gb420)); have n10_ := Aside0.mk ((by rw [hg]; exact Nat.ne_of_lt (blk_lt (zh BK429.out)) : gb429 ≠ gb433)); have n11_ := Aside0.mk ((by rw [hg]; exact Nat.ne_of_gt (blk_lt (zh BK429.out)) : gb433 ≠ gb429)); clear HO427; clear HO432; clear BK420; clear BK429; clear HB; have HO427 := n0_; have HO432 := n1_; have BK420 := n2_; have BK429 := n3_; have HB := n4_; have BK433 := n5_; have GW433 := n6_; have GE433 := n7_; have NB420_433 := n8_; have NB433_420 := n9_; have NB429_433 := n10_; have NB433_429 := n11_; clear n0_ n1_ n2_ n3_ n4_ n5_ n6_ n7_ n8_ n9_ n10_ n11_; clear hb hbox hg; obtain ⟨Ao28, co28, eo28⟩ := Kd.R_slice HO432.out; subst eo28; have hnb29 := NB433_420.out; have hnc29 := NB420_433.out; have hnb30 := NB433_429.out; have hnc30 := NB429_433.out; have hcz31_0 : w27.cell? ⟨gb433, 0, none⟩ = some (.slice none 0 0) := (blk_cell BK433.out 0).trans rfl; have hfz31_0 := blk_frozen BK433.out 0) | ((with_reducible refine gate_callee (f := 27) rfl ?_); refine goesL_ (some 37) rfl rfl Try.func27 (by kernel_rfl) rfl #[.agg #[.slice Ao28 t430.length co28], .int .i64 a1, .int .i64 a2] rfl zl ?_; (with_reducible refine (impl_MakeSeal.calls k _ _ t430 a1 a2 t434 t437 _ ?side1 ?side2 A12.out).mono ?_); (case side1 => refine (Kd.R_reads' (e := 49) (base := w.heap.size) (ok := fun k_ => (True ∧ some k_ ≠ (.slice Ao22 t425.length co22 : Value).ownBlock)) (n := t430.length) (c := co28) ?_).2.2; exact (by (with_reducible repeat (first | apply Kd.R_alloc | apply Kd.R_drewN | apply Kd.R_drew)); exact (Kd.R_mono (Kd.R_far (p := ⟨gb433, 0, none⟩) (Kd.R_types HO432.out BK433.out (by decide)) (fun _ hk => hk.2) (.slice Ao28 t430.length co28)) (fun _ h_ => h_.1)))); (case side2 => exact (Kd.R_reads' HO432.out).2.1); rintro e w32 ⟨v435, rfl, ho0, hb⟩; refine ⟨_, rfl, ?_⟩; have n0_ := Aside0.mk (Kd.R_elder' (by (with_reducible repeat (first | apply Kd.R_alloc | apply Kd.R_drewN | apply Kd.R_drew)); exact (Kd.R_mono (Kd.R_far (p := ⟨gb433, 0, none⟩) (Kd.R_types HO427.out BK433.out (by decide)) (fun _ hk => hk.2) (.slice Ao28 t430.length co28)) (fun _ h_ => h_.1))) (Kd.R_base ho0) hb); have n1_ := Aside0.mk (Kd.R_elder' (by (with_reducible repeat (first | apply Kd.R_alloc | apply Kd.R_drewN | apply Kd.R_drew)); exact (Kd.R_mono (Kd.R_far (p := ⟨gb433, 0, none⟩) (Kd.R_types HO432.out BK433.out (by decide)) (fun _ hk => hk.2) (.slice Ao28 t430.length co28)) (fun _ h_ => h_.1))) (Kd.R_base ho0) hb); have n2_ := Aside0.mk (Kd.R_lower (Kd.R_new' (Kd.R_new' ho0 (Kd.R_lt (by (with_reducible repeat (first | apply Kd.R_alloc | apply Kd.R_drewN | apply Kd.R_drew)); exact (Kd.R_mono (Kd.R_far (p := ⟨gb433, 0, none⟩) (Kd.R_types HO427.out BK433.out (by decide)) (fun _ hk => hk.2) (.slice Ao28 t430.length co28)) (fun _ h_ => h_.1))))) (Kd.R_lt (by (with_reducible repeat (first | apply Kd.R_alloc | apply Kd.R_drewN | apply Kd.R_drew)); exact (Kd.R_mono (Kd.R_far (p := ⟨gb433, 0, none⟩) (Kd.R_types HO432.out BK433.out (by decide)) (fun _ hk => hk.2) (.slice Ao28 t430.length co28)) (fun _ h_ => h_.1))))) (below_size (zb HB.out))); have n3_ := Aside0.mk (blk_below (g := gb420) (o := .cells #[.slice A0_0 l0_0.length c0_0] 24 (0, 0)) (zf BK420.out) hb); have n4_ := Aside0.mk (blk_below (g := gb429) (o := .cells #[.slice Ao22 t425.length co22] 28 (0, 0)) (zf BK429.out) hb); have n5_ := Aside0.mk (blk_below (g := gb433) (o := .cells #[.slice Ao28 t430.length co28] 28 (0, 0)) (by (with_reducible repeat (first | refine blk_drewN ?_ _ | refine blk_drew ?_ | refine blk_alloc ?_ _)); refine blk_put (cs := #[.slice none 0 0]) ?_ 0 _ rfl; (with_reducible repeat (first | refine blk_drewN ?_ _ | refine blk_drew ?_ | refine blk_alloc ?_ _)); exact BK433.out) hb); have n6_ := Aside0.mk (below_step (zb HB.out) hb); clear HO427; clear HO432; clear BK420; clear BK429; clear BK433; clear HB; have HO427 := n0_; have HO432 := n1_; have HO436 := n2_; have BK420 := n3_; have BK429 := n4_; have BK433 := n5_; have HB := n6_; clear n0_ n1_ n2_ n3_ n4_ n5_ n6_; (try clear hb); (try clear hb2); (try clear hk); (try clear hi); (try clear ho0)) | ((with_reducible refine gate_dst (N := 11) rfl ?_); refine box_event ?hg (N := 11) ?hd (cs := #[.slice none 0 0]) (t := 28) ?hr ?_; (case hd => rfl); (case hg => rfl); (case hr => first | (go_simp; done) | (go_simp; rfl)); intro gb438 hg w33 hbox hb; have n0_ := Aside0.mk (Kd.R_below (zr HO427.out) hb); have n1_ := Aside0.mk (Kd.R_below (zr HO432.out) hb); have n2_ := Aside0.mk (Kd.R_below (zr HO436.out) hb); have n3_ := Aside0.mk (blk_below (zh BK420.out) hb); have n4_ := Aside0.mk (blk_below (zh BK429.out) hb); have n5_ := Aside0.mk (blk_below (zh BK433.out) hb); have n6_ := Aside0.mk (below_step (zb HB.out) hb); have n7_ := Aside0.mk (hbox); have n8_ := Aside0.mk ((by rw [hg]; exact (below_size (zb HB.out)) : w.heap.size ≤ gb438)); have n9_ := Aside0.mk ((by rw [hg]; exact (below_size (zb HB.out)) : w.heap.size ≤ gb438)); have n10_ := Aside0.mk ((by rw [hg]; exact Nat.ne_of_lt (blk_lt (zh BK420.out)) : gb420 ≠ gb438)); have n11_ := Aside0.mk ((by rw [hg]; exact Nat.ne_of_gt (blk_lt (zh BK420.out)) : gb438 ≠ gb420)); have n12_ := Aside0.mk ((by rw [hg]; exact Nat.ne_of_lt (blk_lt (zh BK429.out)) : gb429 ≠ gb438)); have n13_ := Aside0.mk ((by rw [hg]; exact Nat.ne_of_gt (blk_lt (zh BK429.out)) : gb438 ≠ gb429)); have n14_ := Aside0.mk ((by rw [hg]; exact Nat.ne_of_lt (blk_lt (zh BK433.out)) : gb433 ≠ gb438)); have n15_ := Aside0.mk ((by rw [hg]; exact Nat.ne_of_gt (blk_lt (zh BK433.out)) : gb438 ≠ gb433)); clear HO427; clear HO432; clear HO436; clear BK420; clear BK429; clear BK433; clear HB; have HO427 := n0_; have HO432 := n1_; have HO436 := n2_; have BK420 := n3_; have BK429 := n4_; have BK433 := n5_; have HB := n6_; have BK438 := n7_; have GW438 := n8_; have GE438 := n9_; have NB420_438 := n10_; have NB438_420 := n11_; have NB429_438 := n12_; have NB438_429 := n13_; have NB433_438 := n14_; have NB438_433 := n15_; clear n0_ n1_ n2_ n3_ n4_ n5_ n6_ n7_ n8_ n9_ n10_ n11_ n12_ n13_ n14_ n15_; clear hb hbox hg; obtain ⟨Ao34, co34, eo34⟩ := Kd.R_slice HO436.out; subst eo34; have hnb35 := NB438_420.out; have hnc35 := NB420_438.out; have hnb36 := NB438_429.out; have hnc36 := NB429_438.out; have hnb37 := NB438_433.out; have hnc37 := NB433_438.out; have hcz38_0 : w33.cell? ⟨gb438, 0, none⟩ = some (.slice none 0 0) := (blk_cell BK438.out 0).trans rfl; have hfz38_0 := blk_frozen BK438.out 0))
  (try simp only [Act.put, List.setIfInBounds_toArray, List.set_cons_zero, List.set_cons_succ])
  go_cut [48] (fun v48 wc => ∃ (kq : Nat) (x48_12 : Bool), v48 = .bool x48_12 ∧ Aside0 (laws_FnExactMakeSeal.j0 kq a1 a2 t428 t437 x48_12 l0_0 t425 t430 t434 = some r) ∧ Aside0 (kq ≤ k) ∧ Aside0 (Kd.R k49 49 wc w.heap.size (fun k_ => some k_ ≠ ((.slice Ao28 t430.length co28) : Value).ownBlock ∧ some k_ ≠ ((.slice Ao34 t434.length co34) : Value).ownBlock) (.slice Ao22 t425.length co22) t425) ∧ Aside0 (Kd.R k49 49 wc w.heap.size (fun k_ => some k_ ≠ ((.slice Ao22 t425.length co22) : Value).ownBlock ∧ some k_ ≠ ((.slice Ao34 t434.length co34) : Value).ownBlock) (.slice Ao28 t430.length co28) t430) ∧ Aside0 (Kd.R k49 49 wc w.heap.size (fun k_ => some k_ ≠ ((.slice Ao22 t425.length co22) : Value).ownBlock ∧ some k_ ≠ ((.slice Ao28 t430.length co28) : Value).ownBlock) (.slice Ao34 t434.length co34) t434) ∧ Aside0 (wc.heap[gb420]? = some (.cells #[(.slice A0_0 l0_0.length c0_0)] 24 (0, 0))) ∧ Aside0 (wc.heap[gb429]? = some (.cells #[(.slice Ao22 t425.length co22)] 28 (0, 0))) ∧ Aside0 (wc.heap[gb433]? = some (.cells #[(.slice Ao28 t430.length co28)] 28 (0, 0))) ∧ Aside0 (wc.heap[gb438]? = some (.cells #[(.slice Ao34 t434.length co34)] 28 (0, 0))) ∧ Aside0 (Below w.heap.size w wc))
  case first =>
   have H := HC13.out
   clear HC13
   replace H := Option.bind_eq_some_iff.mp H
   obtain ⟨t439, A390, H⟩ := H
   replace H : (if t439 = true then (laws_FnExactMakeSeal.j0 k a1 a2 t428 t437 (t437 != t428) l0_0 t425 t430 t434) else (laws_FnExactMakeSeal.j0 k a1 a2 t428 t437 true l0_0 t425 t430 t434)) = some r := H
   have A39 := Aside0.mk A390
   clear A390
   by_cases c40 : t439 = true
   ·subst c40
    have H1 : (laws_FnExactMakeSeal.j0 k a1 a2 t428 t437 (t437 != t428) l0_0 t425 t430 t434) = some r := by rw [if_pos rfl] at H; exact H
    clear H
    have H := H1
    clear H1
    have H' := Aside0.mk H
    clear H
    have hnb41 := NB438_420.out
    have hnc41 := NB420_438.out
    have hnb42 := NB438_429.out
    have hnc42 := NB429_438.out
    have hnb43 := NB438_433.out
    have hnc43 := NB433_438.out
    have hcz44_0 : w33.cell? ⟨gb438, 0, none⟩ = some (.slice none 0 0) := (blk_cell BK438.out 0).trans rfl
    have hfz44_0 := blk_frozen BK438.out 0
    have hnb45 := NB429_420.out
    have hnc45 := NB420_429.out
    have hnb46 := NB429_433.out
    have hnc46 := NB433_429.out
    have hcz47_0 : w33.cell? ⟨gb429, 0, none⟩ = some (.slice Ao22 t425.length co22) := (blk_cell BK429.out 0).trans rfl
    have hfz47_0 := blk_frozen BK429.out 0
    go_wp2_with (first | ((with_reducible refine gate_callee (f := 17) rfl ?_); refine goesL_ (some 42) rfl rfl Try.func17 (by kernel_rfl) rfl #[.agg #[.slice Ao34 t434.length co34], .agg #[.slice Ao22 t425.length co22]] rfl zl ?_; (with_reducible refine (laws_eqPool.calls k _ _ t434 _ _ t425 true _ ?side1 ?side2 ?side3 ?side4 A39.out).mono ?_); (case side1 => refine (Kd.R_reads' (e := 49) (base := w.heap.size) (ok := fun k_ => ((True ∧ some k_ ≠ (.slice Ao22 t425.length co22 : Value).ownBlock) ∧ some k_ ≠ (.slice Ao28 t430.length co28 : Value).ownBlock)) (n := t434.length) (c := co34) ?_).2.2; exact (by (with_reducible repeat (first | apply Kd.R_alloc | apply Kd.R_drewN | apply Kd.R_drew)); exact (Kd.R_mono (Kd.R_far (p := ⟨gb438, 0, none⟩) (Kd.R_types HO436.out BK438.out (by decide)) (fun _ hk => hk.2) (.slice Ao34 t434.length co34)) (fun _ h_ => h_.1)))); (case side2 => exact (Kd.R_reads' HO436.out).2.1); (case side3 => refine (Kd.R_reads' (e := 49) (base := w.heap.size) (ok := fun k_ => ((True ∧ some k_ ≠ (.slice Ao28 t430.length co28 : Value).ownBlock) ∧ some k_ ≠ (.slice Ao34 t434.length co34 : Value).ownBlock)) (n := t425.length) (c := co22) ?_).2.2; exact (by (with_reducible repeat (first | apply Kd.R_alloc | apply Kd.R_drewN | apply Kd.R_drew)); exact (Kd.R_mono (Kd.R_far (p := ⟨gb438, 0, none⟩) (Kd.R_types HO427.out BK438.out (by decide)) (fun _ hk => hk.2) (.slice Ao34 t434.length co34)) (fun _ h_ => h_.1)))); (case side4 => exact (Kd.R_reads' HO427.out).2.1); rintro e w48 ⟨rfl, hb⟩; refine ⟨_, rfl, ?_⟩; have n0_ := Aside0.mk (Kd.R_below (by (with_reducible repeat (first | apply Kd.R_alloc | apply Kd.R_drewN | apply Kd.R_drew)); exact (Kd.R_mono (Kd.R_far (p := ⟨gb438, 0, none⟩) (Kd.R_types HO427.out BK438.out (by decide)) (fun _ hk => hk.2) (.slice Ao34 t434.length co34)) (fun _ h_ => h_.1))) hb); have n1_ := Aside0.mk (Kd.R_below (by (with_reducible repeat (first | apply Kd.R_alloc | apply Kd.R_drewN | apply Kd.R_drew)); exact (Kd.R_mono (Kd.R_far (p := ⟨gb438, 0, none⟩) (Kd.R_types HO432.out BK438.out (by decide)) (fun _ hk => hk.2) (.slice Ao34 t434.length co34)) (fun _ h_ => h_.1))) hb); have n2_ := Aside0.mk (Kd.R_below (by (with_reducible repeat (first | apply Kd.R_alloc | apply Kd.R_drewN | apply Kd.R_drew)); exact (Kd.R_mono (Kd.R_far (p := ⟨gb438, 0, none⟩) (Kd.R_types HO436.out BK438.out (by decide)) (fun _ hk => hk.2) (.slice Ao34 t434.length co34)) (fun _ h_ => h_.1))) hb); have n3_ := Aside0.mk (blk_below (g := gb420) (o := .cells #[.slice A0_0 l0_0.length c0_0] 24 (0, 0)) (zf BK420.out) hb); have n4_ := Aside0.mk (blk_below (g := gb429) (o := .cells #[.slice Ao22 t425.length co22] 28 (0, 0)) (zf BK429.out) hb); have n5_ := Aside0.mk (blk_below (g := gb433) (o := .cells #[.slice Ao28 t430.length co28] 28 (0, 0)) (zf BK433.out) hb); have n6_ := Aside0.mk (blk_below (g := gb438) (o := .cells #[.slice Ao34 t434.length co34] 28 (0, 0)) (by (with_reducible repeat (first | refine blk_drewN ?_ _ | refine blk_drew ?_ | refine blk_alloc ?_ _)); refine blk_put (cs := #[.slice none 0 0]) ?_ 0 _ rfl; (with_reducible repeat (first | refine blk_drewN ?_ _ | refine blk_drew ?_ | refine blk_alloc ?_ _)); exact BK438.out) hb); have n7_ := Aside0.mk (below_step (zb HB.out) hb); clear HO427; clear HO432; clear HO436; clear BK420; clear BK429; clear BK433; clear BK438; clear HB; have HO427 := n0_; have HO432 := n1_; have HO436 := n2_; have BK420 := n3_; have BK429 := n4_; have BK433 := n5_; have BK438 := n6_; have HB := n7_; clear n0_ n1_ n2_ n3_ n4_ n5_ n6_ n7_; (try clear hb); (try clear hb2); (try clear hk); (try clear hi)))
    go_meet
    case rel => exact ⟨_, ((t437 != t428)), (by first | rfl | (simp; done) | (simp [*]; done)), H', ⟨by first | omega | exact Nat.le_refl _⟩, ⟨zr (Kd.R_mono HO427.out (fun _ hk => ⟨hk.1.2, hk.2⟩))⟩, ⟨zr (Kd.R_mono HO432.out (fun _ hk => ⟨hk.1.2, hk.2⟩))⟩, ⟨zr (Kd.R_mono HO436.out (fun _ hk => ⟨hk.1.2, hk.2⟩))⟩, ⟨zh BK420.out⟩, ⟨zh BK429.out⟩, ⟨zh BK433.out⟩, ⟨zh BK438.out⟩, ⟨zb HB.out⟩⟩
   ·replace c40 := Bool.eq_false_iff.mpr c40
    subst c40
    have H1 : (laws_FnExactMakeSeal.j0 k a1 a2 t428 t437 true l0_0 t425 t430 t434) = some r := by rw [if_neg (show ¬ (false = true) by decide)] at H; exact H
    clear H
    have H := H1
    clear H1
    have H' := Aside0.mk H
    clear H
    have hnb49 := NB438_420.out
    have hnc49 := NB420_438.out
    have hnb50 := NB438_429.out
    have hnc50 := NB429_438.out
    have hnb51 := NB438_433.out
    have hnc51 := NB433_438.out
    have hcz52_0 : w33.cell? ⟨gb438, 0, none⟩ = some (.slice none 0 0) := (blk_cell BK438.out 0).trans rfl
    have hfz52_0 := blk_frozen BK438.out 0
    have hnb53 := NB429_420.out
    have hnc53 := NB420_429.out
    have hnb54 := NB429_433.out
    have hnc54 := NB433_429.out
    have hcz55_0 : w33.cell? ⟨gb429, 0, none⟩ = some (.slice Ao22 t425.length co22) := (blk_cell BK429.out 0).trans rfl
    have hfz55_0 := blk_frozen BK429.out 0
    go_wp2_with (first | ((with_reducible refine gate_callee (f := 17) rfl ?_); refine goesL_ (some 42) rfl rfl Try.func17 (by kernel_rfl) rfl #[.agg #[.slice Ao34 t434.length co34], .agg #[.slice Ao22 t425.length co22]] rfl zl ?_; (with_reducible refine (laws_eqPool.calls k _ _ t434 _ _ t425 false _ ?side1 ?side2 ?side3 ?side4 A39.out).mono ?_); (case side1 => refine (Kd.R_reads' (e := 49) (base := w.heap.size) (ok := fun k_ => ((True ∧ some k_ ≠ (.slice Ao22 t425.length co22 : Value).ownBlock) ∧ some k_ ≠ (.slice Ao28 t430.length co28 : Value).ownBlock)) (n := t434.length) (c := co34) ?_).2.2; exact (by (with_reducible repeat (first | apply Kd.R_alloc | apply Kd.R_drewN | apply Kd.R_drew)); exact (Kd.R_mono (Kd.R_far (p := ⟨gb438, 0, none⟩) (Kd.R_types HO436.out BK438.out (by decide)) (fun _ hk => hk.2) (.slice Ao34 t434.length co34)) (fun _ h_ => h_.1)))); (case side2 => exact (Kd.R_reads' HO436.out).2.1); (case side3 => refine (Kd.R_reads' (e := 49) (base := w.heap.size) (ok := fun k_ => ((True ∧ some k_ ≠ (.slice Ao28 t430.length co28 : Value).ownBlock) ∧ some k_ ≠ (.slice Ao34 t434.length co34 : Value).ownBlock)) (n := t425.length) (c := co22) ?_).2.2; exact (by (with_reducible repeat (first | apply Kd.R_alloc | apply Kd.R_drewN | apply Kd.R_drew)); exact (Kd.R_mono (Kd.R_far (p := ⟨gb438, 0, none⟩) (Kd.R_types HO427.out BK438.out (by decide)) (fun _ hk => hk.2) (.slice Ao34 t434.length co34)) (fun _ h_ => h_.1)))); (case side4 => exact (Kd.R_reads' HO427.out).2.1); rintro e w56 ⟨rfl, hb⟩; refine ⟨_, rfl, ?_⟩; have n0_ := Aside0.mk (Kd.R_below (by (with_reducible repeat (first | apply Kd.R_alloc | apply Kd.R_drewN | apply Kd.R_drew)); exact (Kd.R_mono (Kd.R_far (p := ⟨gb438, 0, none⟩) (Kd.R_types HO427.out BK438.out (by decide)) (fun _ hk => hk.2) (.slice Ao34 t434.length co34)) (fun _ h_ => h_.1))) hb); have n1_ := Aside0.mk (Kd.R_below (by (with_reducible repeat (first | apply Kd.R_alloc | apply Kd.R_drewN | apply Kd.R_drew)); exact (Kd.R_mono (Kd.R_far (p := ⟨gb438, 0, none⟩) (Kd.R_types HO432.out BK438.out (by decide)) (fun _ hk => hk.2) (.slice Ao34 t434.length co34)) (fun _ h_ => h_.1))) hb); have n2_ := Aside0.mk (Kd.R_below (by (with_reducible repeat (first | apply Kd.R_alloc | apply Kd.R_drewN | apply Kd.R_drew)); exact (Kd.R_mono (Kd.R_far (p := ⟨gb438, 0, none⟩) (Kd.R_types HO436.out BK438.out (by decide)) (fun _ hk => hk.2) (.slice Ao34 t434.length co34)) (fun _ h_ => h_.1))) hb); have n3_ := Aside0.mk (blk_below (g := gb420) (o := .cells #[.slice A0_0 l0_0.length c0_0] 24 (0, 0)) (zf BK420.out) hb); have n4_ := Aside0.mk (blk_below (g := gb429) (o := .cells #[.slice Ao22 t425.length co22] 28 (0, 0)) (zf BK429.out) hb); have n5_ := Aside0.mk (blk_below (g := gb433) (o := .cells #[.slice Ao28 t430.length co28] 28 (0, 0)) (zf BK433.out) hb); have n6_ := Aside0.mk (blk_below (g := gb438) (o := .cells #[.slice Ao34 t434.length co34] 28 (0, 0)) (by (with_reducible repeat (first | refine blk_drewN ?_ _ | refine blk_drew ?_ | refine blk_alloc ?_ _)); refine blk_put (cs := #[.slice none 0 0]) ?_ 0 _ rfl; (with_reducible repeat (first | refine blk_drewN ?_ _ | refine blk_drew ?_ | refine blk_alloc ?_ _)); exact BK438.out) hb); have n7_ := Aside0.mk (below_step (zb HB.out) hb); clear HO427; clear HO432; clear HO436; clear BK420; clear BK429; clear BK433; clear BK438; clear HB; have HO427 := n0_; have HO432 := n1_; have HO436 := n2_; have BK420 := n3_; have BK429 := n4_; have BK433 := n5_; have BK438 := n6_; have HB := n7_; clear n0_ n1_ n2_ n3_ n4_ n5_ n6_ n7_; (try clear hb); (try clear hb2); (try clear hk); (try clear hi)))
    go_meet
    case rel => exact ⟨_, (true), (by first | rfl | (simp; done) | (simp [*]; done)), H', ⟨by first | omega | exact Nat.le_refl _⟩, ⟨zr (Kd.R_mono HO427.out (fun _ hk => ⟨hk.1.2, hk.2⟩))⟩, ⟨zr (Kd.R_mono HO432.out (fun _ hk => ⟨hk.1.2, hk.2⟩))⟩, ⟨zr (Kd.R_mono HO436.out (fun _ hk => ⟨hk.1.2, hk.2⟩))⟩, ⟨zh BK420.out⟩, ⟨zh BK429.out⟩, ⟨zh BK433.out⟩, ⟨zh BK438.out⟩, ⟨zb HB.out⟩⟩
  case rest =>
   clear HC13
   try clear c1
   try clear c2
   try clear p2
   try clear c3
   try clear c4
   try clear c5
   try clear c5b0
   try clear c7
   try clear c13
   try clear c15
   try clear c17
   try clear c23
   try clear c26
   try clear c27
   try clear c29
   try clear c30
   try clear c35
   try clear c36
   try clear c37
   try clear c40
   try clear c41
   try clear c42
   try clear c43
   try clear c45
   try clear c46
   try clear c49
   try clear c50
   try clear c51
   try clear c53
   try clear c54
   try clear hcz15_0
   try clear hcz17_0
   try clear hcz24_0
   try clear hcz25_0
   try clear hcz31_0
   try clear hcz38_0
   try clear hcz44_0
   try clear hcz47_0
   try clear hcz52_0
   try clear hcz55_0
   try clear hcz7_0
   try clear hfz15_0
   try clear hfz17_0
   try clear hfz24_0
   try clear hfz25_0
   try clear hfz31_0
   try clear hfz38_0
   try clear hfz44_0
   try clear hfz47_0
   try clear hfz52_0
   try clear hfz55_0
   try clear hfz7_0
   obtain ⟨kq, x48_12, rfl, HA, HJ12, HO_430000, HO_434000, HO_439000, BK420, BK429, BK433, BK438, HB⟩ := hcut
   cases kq with
   | zero => exact absurd HA.out (by simp [laws_FnExactMakeSeal.j0])
   | succ kj12 =>
    have H := HA.out
    clear HA
    simp only [laws_FnExactMakeSeal.j0] at H
    by_cases c57 : x48_12 = true
    ·subst c57
     have H1 : (some false) = some r := by rw [if_pos rfl] at H; exact H
     clear H
     have H := H1
     clear H1
     obtain rfl := Option.some.inj H
     go_wp2
     go_ret
     exact ⟨ze, zb HB.out⟩
    ·replace c57 := Bool.eq_false_iff.mpr c57
     subst c57
     have H1 : ((laws_toPool.f kj12 l0_0).bind fun t440 => ((laws_eqPool.f kj12 t430 t440).bind fun t443 => (if t443 = true then ((laws_markPool.f kj12 t430 1).bind fun bt444 => (if bt444.1 < 0 then (laws_FnExactMakeSeal.j1 kj12 a1 a2 t428 true l0_0 t425 t434) else ((laws_eqPool.f kj12 t434 t425).bind fun t446 => (if t446 = true then (laws_FnExactMakeSeal.j1 kj12 a1 a2 t428 (t437 != t428) l0_0 t425 t434) else (laws_FnExactMakeSeal.j1 kj12 a1 a2 t428 true l0_0 t425 t434))))) else (some false)))) = some r := by rw [if_neg (show ¬ (false = true) by decide)] at H; exact H
     clear H
     have H := H1
     clear H1
     replace H := Option.bind_eq_some_iff.mp H
     obtain ⟨t440, A580, H⟩ := H
     replace H : ((laws_eqPool.f kj12 t430 t440).bind fun t443 => (if t443 = true then ((laws_markPool.f kj12 t430 1).bind fun bt444 => (if bt444.1 < 0 then (laws_FnExactMakeSeal.j1 kj12 a1 a2 t428 true l0_0 t425 t434) else ((laws_eqPool.f kj12 t434 t425).bind fun t446 => (if t446 = true then (laws_FnExactMakeSeal.j1 kj12 a1 a2 t428 (t437 != t428) l0_0 t425 t434) else (laws_FnExactMakeSeal.j1 kj12 a1 a2 t428 true l0_0 t425 t434))))) else (some false))) = some r := H
     have A58 := Aside0.mk A580
     clear A580
     replace H := Option.bind_eq_some_iff.mp H
     obtain ⟨t443, A590, H⟩ := H
     replace H : (if t443 = true then ((laws_markPool.f kj12 t430 1).bind fun bt444 => (if bt444.1 < 0 then (laws_FnExactMakeSeal.j1 kj12 a1 a2 t428 true l0_0 t425 t434) else ((laws_eqPool.f kj12 t434 t425).bind fun t446 => (if t446 = true then (laws_FnExactMakeSeal.j1 kj12 a1 a2 t428 (t437 != t428) l0_0 t425 t434) else (laws_FnExactMakeSeal.j1 kj12 a1 a2 t428 true l0_0 t425 t434))))) else (some false)) = some r := H
     have A59 := Aside0.mk A590
     clear A590
     by_cases c60 : t443 = true
     ·subst c60
      have H1 : ((laws_markPool.f kj12 t430 1).bind fun bt444 => (if bt444.1 < 0 then (laws_FnExactMakeSeal.j1 kj12 a1 a2 t428 true l0_0 t425 t434) else ((laws_eqPool.f kj12 t434 t425).bind fun t446 => (if t446 = true then (laws_FnExactMakeSeal.j1 kj12 a1 a2 t428 (t437 != t428) l0_0 t425 t434) else (laws_FnExactMakeSeal.j1 kj12 a1 a2 t428 true l0_0 t425 t434))))) = some r := by rw [if_pos rfl] at H; exact H
      clear H
      have H := H1
      clear H1
      replace H := Option.bind_eq_some_iff.mp H
      obtain ⟨⟨t444, t445⟩, A610, H⟩ := H
      replace H : (if t444 < 0 then (laws_FnExactMakeSeal.j1 kj12 a1 a2 t428 true l0_0 t425 t434) else ((laws_eqPool.f kj12 t434 t425).bind fun t446 => (if t446 = true then (laws_FnExactMakeSeal.j1 kj12 a1 a2 t428 (t437 != t428) l0_0 t425 t434) else (laws_FnExactMakeSeal.j1 kj12 a1 a2 t428 true l0_0 t425 t434)))) = some r := H
      have A61 := Aside0.mk A610
      clear A610
      have HC62 := Aside0.mk H
      clear H
      try go_wp2
      have n0_ := Aside0.mk (Kd.R_drew HO_430000.out)
      have n1_ := Aside0.mk (Kd.R_drew HO_434000.out)
      have n2_ := Aside0.mk (Kd.R_drew HO_439000.out)
      have n3_ := Aside0.mk (blk_drew BK420.out)
      have n4_ := Aside0.mk (blk_drew BK429.out)
      have n5_ := Aside0.mk (blk_drew BK433.out)
      have n6_ := Aside0.mk (blk_drew BK438.out)
      have n7_ := Aside0.mk (below_drew1 HB.out)
      clear HO_430000
      clear HO_434000
      clear HO_439000
      clear BK420
      clear BK429
      clear BK433
      clear BK438
      clear HB
      have HO_430000 := n0_
      have HO_434000 := n1_
      have HO_439000 := n2_
      have BK420 := n3_
      have BK429 := n4_
      have BK433 := n5_
      have BK438 := n6_
      have HB := n7_
      clear n0_ n1_ n2_ n3_ n4_ n5_ n6_ n7_
      refine start_ (n := 5) (S := fun w' => w'.cell? ⟨gb433, 0, none⟩ = some (.slice Ao28 t430.length co28) ∧ w'.cell? ⟨gb420, 0, none⟩ = some (.slice A0_0 l0_0.length c0_0)) (ds := []) #[false, false, false, false, false] (by kernel_rfl) rfl rfl ⟨(blk_cell BK433.out 0).trans rfl, (blk_cell BK420.out 0).trans rfl⟩ (fun hHeld => ?_)
      generalize wc.drew = w63 at HO_430000 HO_434000 HO_439000 BK420 BK429 BK433 BK438 HB hHeld ⊢
      refine take_ (i := 0) (N := some 49) (v := ?_) (a' := ?_) #[true, false, false, false, false] rfl rfl (by kernel_rfl) (fun _ _ _ h => h) (Or.inl ⟨by rfl, ?_⟩) hHeld ?_ ?_
      rotate_left
      ·rintro w' ⟨s0, s1⟩
       go_simp
       with_reducible rfl
      rotate_left
      ·simp only [Act.put, List.setIfInBounds_toArray, List.set_cons_zero, List.set_cons_succ, i64_w, i32_w]
       rfl
      refine take_ (i := 1) (N := some 50) (v := ?_) (a' := ?_) #[true, true, false, false, false] rfl rfl (by kernel_rfl) (fun _ _ _ h => h) (Or.inl ⟨by rfl, ?_⟩) hHeld ?_ ?_
      rotate_left
      ·rintro w' ⟨s0, s1⟩
       go_simp
       with_reducible rfl
      rotate_left
      ·simp only [Act.put, List.setIfInBounds_toArray, List.set_cons_zero, List.set_cons_succ, i64_w, i32_w]
       rfl
      refine one_ (i := 2) (N := some 51) #[true, true, true, false, false] rfl rfl (by kernel_rfl) (by decide) (fun K hK => ?_)
      refine goes_ Try.func15 (by kernel_rfl) rfl #[.agg #[.slice A0_0 l0_0.length c0_0]] (by rfl) rfl rfl zl ?_
      with_reducible refine (laws_toPool.calls kj12 _ _ l0_0 t440 _ ?side1 ?side2 A58.out).mono ?_
      (case side1 => exact zc (Kd.C_below HR0_0.out HB.out))
      (case side2 => exact HC0_0.out)
      rintro e w64 ⟨v441, rfl, ho0, hb⟩
      refine ⟨_, rfl, ?_⟩
      have n0_ := Aside0.mk (Kd.R_elder' (zr HO_430000.out) (Kd.R_base ho0) hb)
      have n1_ := Aside0.mk (Kd.R_elder' (zr HO_434000.out) (Kd.R_base ho0) hb)
      have n2_ := Aside0.mk (Kd.R_elder' (zr HO_439000.out) (Kd.R_base ho0) hb)
      have n3_ := Aside0.mk (Kd.R_lower (Kd.R_new' (Kd.R_new' (Kd.R_new' ho0 (Kd.R_lt (zr HO_430000.out))) (Kd.R_lt (zr HO_434000.out))) (Kd.R_lt (zr HO_439000.out))) (below_size (zb HB.out)))
      have n4_ := Aside0.mk (blk_below (zh BK420.out) hb)
      have n5_ := Aside0.mk (blk_below (zh BK429.out) hb)
      have n6_ := Aside0.mk (blk_below (zh BK433.out) hb)
      have n7_ := Aside0.mk (blk_below (zh BK438.out) hb)
      have n8_ := Aside0.mk (below_step (zb HB.out) hb)
      clear HO_430000
      clear HO_434000
      clear HO_439000
      clear BK420
      clear BK429
      clear BK433
      clear BK438
      clear HB
      have HO_430000 := n0_
      have HO_434000 := n1_
      have HO_439000 := n2_
      have HO442 := n3_
      have BK420 := n4_
      have BK429 := n5_
      have BK433 := n6_
      have BK438 := n7_
      have HB := n8_
      clear n0_ n1_ n2_ n3_ n4_ n5_ n6_ n7_ n8_
      (try clear hb)
      (try clear hb2)
      (try clear hk)
      (try clear hi)
      (try clear ho0)
      obtain ⟨Ao65, co65, eo65⟩ := Kd.R_slice HO442.out
      (first | subst eo65 | (injection eo65 with f1_ f2_ f3_; have f4_ := f1_.symm; have f5_ := f3_.symm; clear f1_ f2_ f3_; subst f4_; subst f5_))
      refine hK.out _ _ ⟨(blk_cell BK433.out 0).trans rfl, (blk_cell BK420.out 0).trans rfl⟩ (fun hHeld => ?_)
      clear hK K
      refine norm_ (a' := ?_) ?_ ?_
      rotate_left
      ·show Act.put _ (some 51) _ = _
       simp only [Act.put, List.setIfInBounds_toArray, List.set_cons_zero, List.set_cons_succ, i64_w, i32_w]
       rfl
      refine one_ (i := 3) (N := some 52) #[true, true, true, true, false] rfl rfl (by kernel_rfl) (by decide) (fun K hK => ?_)
      refine goes_ Try.func17 (by kernel_rfl) rfl #[.agg #[.slice Ao28 t430.length co28], .agg #[.slice Ao65 t440.length co65]] (by rfl) rfl rfl zl ?_
      with_reducible refine (laws_eqPool.calls kj12 _ _ t430 _ _ t440 true _ ?side1 ?side2 ?side3 ?side4 A59.out).mono ?_
      (case side1 => exact zc (Kd.R_reads' HO_434000.out).2.2)
      (case side2 => exact (Kd.R_reads' HO_434000.out).2.1)
      (case side3 => exact zc (Kd.R_reads' HO442.out).2.2)
      (case side4 => exact (Kd.R_reads' HO442.out).2.1)
      rintro e w66 ⟨rfl, hb⟩
      refine ⟨_, rfl, ?_⟩
      have n0_ := Aside0.mk (Kd.R_below (zr HO_430000.out) hb)
      have n1_ := Aside0.mk (Kd.R_below (zr HO_434000.out) hb)
      have n2_ := Aside0.mk (Kd.R_below (zr HO_439000.out) hb)
      have n3_ := Aside0.mk (Kd.R_below (zr HO442.out) hb)
      have n4_ := Aside0.mk (blk_below (zh BK420.out) hb)
      have n5_ := Aside0.mk (blk_below (zh BK429.out) hb)
      have n6_ := Aside0.mk (blk_below (zh BK433.out) hb)
      have n7_ := Aside0.mk (blk_below (zh BK438.out) hb)
      have n8_ := Aside0.mk (below_step (zb HB.out) hb)
      clear HO_430000
      clear HO_434000
      clear HO_439000
      clear HO442
      clear BK420
      clear BK429
      clear BK433
      clear BK438
      clear HB
      have HO_430000 := n0_
      have HO_434000 := n1_
      have HO_439000 := n2_
      have HO442 := n3_
      have BK420 := n4_
      have BK429 := n5_
      have BK433 := n6_
      have BK438 := n7_
      have HB := n8_
      clear n0_ n1_ n2_ n3_ n4_ n5_ n6_ n7_ n8_
      (try clear hb)
      (try clear hb2)
      (try clear hk)
      (try clear hi)
      refine hK.out _ _ ⟨(blk_cell BK433.out 0).trans rfl, (blk_cell BK420.out 0).trans rfl⟩ (fun hHeld => ?_)
      clear hK K
      refine norm_ (a' := ?_) ?_ ?_
      rotate_left
      ·show Act.put _ (some 52) _ = _
       simp only [Act.put, List.setIfInBounds_toArray, List.set_cons_zero, List.set_cons_succ, i64_w, i32_w]
       rfl
      refine pure_ (i := 4) (N := some 53) (v := ?_) (a' := ?_) #[true, true, true, true, true] rfl rfl (by kernel_rfl) (fun _ _ _ h => h) (Or.inl ⟨by rfl, ?_⟩) ?_ ?_
      rotate_left
      ·intro w'
       go_simp
       with_reducible rfl
      rotate_left
      ·simp only [Act.put, List.setIfInBounds_toArray, List.set_cons_zero, List.set_cons_succ, i64_w, i32_w]
       rfl
      refine done_ (by kernel_rfl) ?_
      have hnb67 := NB433_420.out
      have hnc67 := NB420_433.out
      have hnb68 := NB433_429.out
      have hnc68 := NB429_433.out
      have hnb69 := NB433_438.out
      have hnc69 := NB438_433.out
      have hcz70_0 : w66.cell? ⟨gb433, 0, none⟩ = some (.slice Ao28 t430.length co28) := (blk_cell BK433.out 0).trans rfl
      have hfz70_0 := blk_frozen BK433.out 0
      go_upto_region 14 with (first | ((with_reducible refine gate_callee (f := 18) rfl ?_); refine goesL_ (some 56) rfl rfl Try.func18 (by kernel_rfl) rfl #[.agg #[.slice Ao28 t430.length co28], .int .i64 1] rfl zl ?_; (with_reducible refine (laws_markPool.calls kj12 (fun k_ => some k_ = (.slice Ao28 t430.length co28 : Value).ownBlock) (.slice Ao28 t430.length co28) t430 1 t444 t445 w _ ?side1 ?side2 A61.out).mono ?_); (case side1 => repeat (first | (with_reducible first | exact HB.out | apply below_alloc | apply pw_below_drewN | apply below_drew1 | refine below_set ?_ GE420.out | refine below_set ?_ GE429.out | refine below_set ?_ GE433.out | refine below_set ?_ GE438.out) | exact HB.out)); (case side2 => exact Kd.R_tight rfl HO_434000.out); rintro e w71 ⟨rfl, hy0, hb, hkp⟩; refine ⟨_, rfl, ?_⟩; have n0_ := Aside0.mk (Kd.R_mono (ok' := fun k_ => some k_ ≠ (.slice Ao28 t430.length co28 : Value).ownBlock ∧ some k_ ≠ (.slice Ao34 t434.length co34 : Value).ownBlock ∧ some k_ ≠ (.slice Ao65 t440.length co65 : Value).ownBlock) (Kd.R_keptB (HO_430000.out) hkp (fun k_ hk_ hs_ => by first | exact (hk_.1.1) hs_ | (revert hk_; simp only [and_imp]; intros; exact absurd hs_ (by assumption)))) (fun k_ hk_ => by first | exact ⟨hk_.1.1.1, hk_.1.1.2, hk_.1.2⟩ | (revert hk_; simp only [and_imp]; intros; and_intros <;> assumption))); have n1_ := Aside0.mk (Kd.R_reok rfl hy0 (fun k_ e_ => HO_434000.out.1 k_ e_)); have n2_ := Aside0.mk (Kd.R_mono (ok' := fun k_ => some k_ ≠ (.slice Ao22 t425.length co22 : Value).ownBlock ∧ some k_ ≠ (.slice Ao28 t430.length co28 : Value).ownBlock ∧ some k_ ≠ (.slice Ao65 t440.length co65 : Value).ownBlock) (Kd.R_keptB (HO_439000.out) hkp (fun k_ hk_ hs_ => by first | exact (hk_.1.2) hs_ | (revert hk_; simp only [and_imp]; intros; exact absurd hs_ (by assumption)))) (fun k_ hk_ => by first | exact ⟨hk_.1.1.1, hk_.1.1.2, hk_.1.2⟩ | (revert hk_; simp only [and_imp]; intros; and_intros <;> assumption))); have n3_ := Aside0.mk (blk_kept (zh BK420.out) hkp (fun hs_ => (fun e_ => (Kd.R_ne HO_434000.out BK420.out (by decide)) e_) hs_)); have n4_ := Aside0.mk (blk_kept (zh BK429.out) hkp (fun hs_ => (fun e_ => (Kd.R_ne HO_434000.out BK429.out (by decide)) e_) hs_)); have n5_ := Aside0.mk (blk_kept (zh BK433.out) hkp (fun hs_ => (fun e_ => (Kd.R_ne HO_434000.out BK433.out (by decide)) e_) hs_)); have n6_ := Aside0.mk (blk_kept (zh BK438.out) hkp (fun hs_ => (fun e_ => (Kd.R_ne HO_434000.out BK438.out (by decide)) e_) hs_)); have n7_ := Aside0.mk (Kd.R_mono (ok' := fun k_ => some k_ ≠ (.slice Ao22 t425.length co22 : Value).ownBlock ∧ some k_ ≠ (.slice Ao28 t430.length co28 : Value).ownBlock ∧ some k_ ≠ (.slice Ao34 t434.length co34 : Value).ownBlock) (Kd.R_keptB (HO442.out) hkp (fun k_ hk_ hs_ => by first | exact (hk_.1.2) hs_ | (revert hk_; simp only [and_imp]; intros; exact absurd hs_ (by assumption)))) (fun k_ hk_ => by first | exact ⟨hk_.1.1.1.2, hk_.1.1.2, hk_.1.2⟩ | (revert hk_; simp only [and_imp]; intros; and_intros <;> assumption))); have n8_ := Aside0.mk (hb); clear HO_430000; clear HO_434000; clear HO_439000; clear BK420; clear BK429; clear BK433; clear BK438; clear HO442; clear HB; have HO_430000 := n0_; have HO_434000 := n1_; have HO_439000 := n2_; have BK420 := n3_; have BK429 := n4_; have BK433 := n5_; have BK438 := n6_; have HO442 := n7_; have HB := n8_; clear n0_ n1_ n2_ n3_ n4_ n5_ n6_ n7_ n8_; (try clear hb); (try clear hkp); (try clear hy0)))
      (try simp only [Act.put, List.setIfInBounds_toArray, List.set_cons_zero, List.set_cons_succ])
      go_cut [69] (fun v69 wc => ∃ (kq : Nat) (x69_61 : Bool), v69 = .bool x69_61 ∧ Aside0 (laws_FnExactMakeSeal.j1 kq a1 a2 t428 x69_61 l0_0 t425 t434 = some r) ∧ Aside0 (kq ≤ kj12) ∧ Aside0 (Kd.R k49 49 wc w.heap.size (fun k_ => some k_ ≠ ((.slice Ao28 t430.length co28) : Value).ownBlock ∧ some k_ ≠ ((.slice Ao34 t434.length co34) : Value).ownBlock) (.slice Ao22 t425.length co22) t425) ∧ Aside0 (Kd.R k49 49 wc w.heap.size (fun k_ => some k_ ≠ ((.slice Ao22 t425.length co22) : Value).ownBlock ∧ some k_ ≠ ((.slice Ao34 t434.length co34) : Value).ownBlock) (.slice Ao28 t430.length co28) t445) ∧ Aside0 (Kd.R k49 49 wc w.heap.size (fun k_ => some k_ ≠ ((.slice Ao22 t425.length co22) : Value).ownBlock ∧ some k_ ≠ ((.slice Ao28 t430.length co28) : Value).ownBlock) (.slice Ao34 t434.length co34) t434) ∧ Aside0 (wc.heap[gb420]? = some (.cells #[(.slice A0_0 l0_0.length c0_0)] 24 (0, 0))) ∧ Aside0 (wc.heap[gb429]? = some (.cells #[(.slice Ao22 t425.length co22)] 28 (0, 0))) ∧ Aside0 (wc.heap[gb433]? = some (.cells #[(.slice Ao28 t430.length co28)] 28 (0, 0))) ∧ Aside0 (wc.heap[gb438]? = some (.cells #[(.slice Ao34 t434.length co34)] 28 (0, 0))) ∧ Aside0 (Below w.heap.size w wc))
      case first =>
       have H := HC62.out
       clear HC62
       by_cases c72 : t444 < 0
       ·rw [if_pos c72] at H
        have c72b0 : decide (t444 < 0) = true := decide_eq_true c72
        clear c72
        (first | rw [c72b0] | (simp only [i64_w, i32_w]; rw [c72b0]) | skip)
        have H' := Aside0.mk H
        clear H
        go_wp2
        go_meet
        case rel => exact ⟨_, (true), (by first | rfl | (simp; done) | (simp [*]; done)), H', ⟨by have := HJ12.out; first | omega | exact Nat.le_refl _⟩, ⟨zr (Kd.R_mono HO_430000.out (fun _ hk => ⟨hk.1, hk.2.1⟩))⟩, ⟨zr (Kd.R_mono HO_434000.out (fun _ hk => ⟨hk.1.1, hk.1.2⟩))⟩, ⟨zr (Kd.R_mono HO_439000.out (fun _ hk => ⟨hk.1, hk.2.1⟩))⟩, ⟨zh BK420.out⟩, ⟨zh BK429.out⟩, ⟨zh BK433.out⟩, ⟨zh BK438.out⟩, ⟨zb HB.out⟩⟩
       ·rw [if_neg c72] at H
        have c72b0 : decide (t444 < 0) = false := decide_eq_false c72
        clear c72
        (first | rw [c72b0] | (simp only [i64_w, i32_w]; rw [c72b0]) | skip)
        replace H := Option.bind_eq_some_iff.mp H
        obtain ⟨t446, A730, H⟩ := H
        replace H : (if t446 = true then (laws_FnExactMakeSeal.j1 kj12 a1 a2 t428 (t437 != t428) l0_0 t425 t434) else (laws_FnExactMakeSeal.j1 kj12 a1 a2 t428 true l0_0 t425 t434)) = some r := H
        have A73 := Aside0.mk A730
        clear A730
        by_cases c74 : t446 = true
        ·subst c74
         have H1 : (laws_FnExactMakeSeal.j1 kj12 a1 a2 t428 (t437 != t428) l0_0 t425 t434) = some r := by rw [if_pos rfl] at H; exact H
         clear H
         have H := H1
         clear H1
         have H' := Aside0.mk H
         clear H
         have hnb75 := NB438_420.out
         have hnc75 := NB420_438.out
         have hnb76 := NB438_429.out
         have hnc76 := NB429_438.out
         have hnb77 := NB438_433.out
         have hnc77 := NB433_438.out
         have hcz78_0 : w71.cell? ⟨gb438, 0, none⟩ = some (.slice Ao34 t434.length co34) := (blk_cell BK438.out 0).trans rfl
         have hfz78_0 := blk_frozen BK438.out 0
         have hnb79 := NB429_420.out
         have hnc79 := NB420_429.out
         have hnb80 := NB429_433.out
         have hnc80 := NB433_429.out
         have hcz81_0 : w71.cell? ⟨gb429, 0, none⟩ = some (.slice Ao22 t425.length co22) := (blk_cell BK429.out 0).trans rfl
         have hfz81_0 := blk_frozen BK429.out 0
         go_wp2_with (first | (go_at_call 17; (with_reducible refine (laws_eqPool.calls kj12 _ _ t434 _ _ t425 true _ ?side1 ?side2 ?side3 ?side4 A73.out).mono ?_); (case side1 => exact zc (Kd.R_reads' HO_439000.out).2.2); (case side2 => exact (Kd.R_reads' HO_439000.out).2.1); (case side3 => exact zc (Kd.R_reads' HO_430000.out).2.2); (case side4 => exact (Kd.R_reads' HO_430000.out).2.1); rintro e w82 ⟨rfl, hb⟩; have n0_ := Aside0.mk (Kd.R_below (zr HO_430000.out) hb); have n1_ := Aside0.mk (Kd.R_below (zr HO_434000.out) hb); have n2_ := Aside0.mk (Kd.R_below (zr HO_439000.out) hb); have n3_ := Aside0.mk (Kd.R_below (zr HO442.out) hb); have n4_ := Aside0.mk (blk_below (zh BK420.out) hb); have n5_ := Aside0.mk (blk_below (zh BK429.out) hb); have n6_ := Aside0.mk (blk_below (zh BK433.out) hb); have n7_ := Aside0.mk (blk_below (zh BK438.out) hb); have n8_ := Aside0.mk (below_step (zb HB.out) hb); clear HO_430000; clear HO_434000; clear HO_439000; clear HO442; clear BK420; clear BK429; clear BK433; clear BK438; clear HB; have HO_430000 := n0_; have HO_434000 := n1_; have HO_439000 := n2_; have HO442 := n3_; have BK420 := n4_; have BK429 := n5_; have BK433 := n6_; have BK438 := n7_; have HB := n8_; clear n0_ n1_ n2_ n3_ n4_ n5_ n6_ n7_ n8_; (try clear hb); (try clear hb2); (try clear hk); (try clear hi)))
         go_meet
         case rel => exact ⟨_, ((t437 != t428)), (by first | rfl | (simp; done) | (simp [*]; done)), H', ⟨by have := HJ12.out; first | omega | exact Nat.le_refl _⟩, ⟨zr (Kd.R_mono HO_430000.out (fun _ hk => ⟨hk.1, hk.2.1⟩))⟩, ⟨zr (Kd.R_mono HO_434000.out (fun _ hk => ⟨hk.1.1, hk.1.2⟩))⟩, ⟨zr (Kd.R_mono HO_439000.out (fun _ hk => ⟨hk.1, hk.2.1⟩))⟩, ⟨zh BK420.out⟩, ⟨zh BK429.out⟩, ⟨zh BK433.out⟩, ⟨zh BK438.out⟩, ⟨zb HB.out⟩⟩
        ·replace c74 := Bool.eq_false_iff.mpr c74
         subst c74
         have H1 : (laws_FnExactMakeSeal.j1 kj12 a1 a2 t428 true l0_0 t425 t434) = some r := by rw [if_neg (show ¬ (false = true) by decide)] at H; exact H
         clear H
         have H := H1
         clear H1
         have H' := Aside0.mk H
         clear H
         have hnb83 := NB438_420.out
         have hnc83 := NB420_438.out
         have hnb84 := NB438_429.out
         have hnc84 := NB429_438.out
         have hnb85 := NB438_433.out
         have hnc85 := NB433_438.out
         have hcz86_0 : w71.cell? ⟨gb438, 0, none⟩ = some (.slice Ao34 t434.length co34) := (blk_cell BK438.out 0).trans rfl
         have hfz86_0 := blk_frozen BK438.out 0
         have hnb87 := NB429_420.out
         have hnc87 := NB420_429.out
         have hnb88 := NB429_433.out
         have hnc88 := NB433_429.out
         have hcz89_0 : w71.cell? ⟨gb429, 0, none⟩ = some (.slice Ao22 t425.length co22) := (blk_cell BK429.out 0).trans rfl
         have hfz89_0 := blk_frozen BK429.out 0
         go_wp2_with (first | (go_at_call 17; (with_reducible refine (laws_eqPool.calls kj12 _ _ t434 _ _ t425 false _ ?side1 ?side2 ?side3 ?side4 A73.out).mono ?_); (case side1 => exact zc (Kd.R_reads' HO_439000.out).2.2); (case side2 => exact (Kd.R_reads' HO_439000.out).2.1); (case side3 => exact zc (Kd.R_reads' HO_430000.out).2.2); (case side4 => exact (Kd.R_reads' HO_430000.out).2.1); rintro e w90 ⟨rfl, hb⟩; have n0_ := Aside0.mk (Kd.R_below (zr HO_430000.out) hb); have n1_ := Aside0.mk (Kd.R_below (zr HO_434000.out) hb); have n2_ := Aside0.mk (Kd.R_below (zr HO_439000.out) hb); have n3_ := Aside0.mk (Kd.R_below (zr HO442.out) hb); have n4_ := Aside0.mk (blk_below (zh BK420.out) hb); have n5_ := Aside0.mk (blk_below (zh BK429.out) hb); have n6_ := Aside0.mk (blk_below (zh BK433.out) hb); have n7_ := Aside0.mk (blk_below (zh BK438.out) hb); have n8_ := Aside0.mk (below_step (zb HB.out) hb); clear HO_430000; clear HO_434000; clear HO_439000; clear HO442; clear BK420; clear BK429; clear BK433; clear BK438; clear HB; have HO_430000 := n0_; have HO_434000 := n1_; have HO_439000 := n2_; have HO442 := n3_; have BK420 := n4_; have BK429 := n5_; have BK433 := n6_; have BK438 := n7_; have HB := n8_; clear n0_ n1_ n2_ n3_ n4_ n5_ n6_ n7_ n8_; (try clear hb); (try clear hb2); (try clear hk); (try clear hi)))
         go_meet
         case rel => exact ⟨_, (true), (by first | rfl | (simp; done) | (simp [*]; done)), H', ⟨by have := HJ12.out; first | omega | exact Nat.le_refl _⟩, ⟨zr (Kd.R_mono HO_430000.out (fun _ hk => ⟨hk.1, hk.2.1⟩))⟩, ⟨zr (Kd.R_mono HO_434000.out (fun _ hk => ⟨hk.1.1, hk.1.2⟩))⟩, ⟨zr (Kd.R_mono HO_439000.out (fun _ hk => ⟨hk.1, hk.2.1⟩))⟩, ⟨zh BK420.out⟩, ⟨zh BK429.out⟩, ⟨zh BK433.out⟩, ⟨zh BK438.out⟩, ⟨zb HB.out⟩⟩
      case rest =>
       clear HC62
       try clear c1
       try clear c2
       try clear p2
       try clear c3
       try clear c4
       try clear c5
       try clear c5b0
       try clear c6
       try clear c7
       try clear c8
       try clear c13
       try clear c15
       try clear c17
       try clear c18
       try clear c23
       try clear c26
       try clear c27
       try clear c29
       try clear c30
       try clear c35
       try clear c36
       try clear c37
       try clear c40
       try clear c41
       try clear c42
       try clear c43
       try clear c45
       try clear c46
       try clear c49
       try clear c50
       try clear c51
       try clear c53
       try clear c54
       try clear c57
       try clear c60
       try clear c67
       try clear c68
       try clear c69
       try clear c72
       try clear c72b0
       try clear c74
       try clear c75
       try clear c76
       try clear c77
       try clear c79
       try clear c80
       try clear c83
       try clear c84
       try clear c85
       try clear c87
       try clear c88
       try clear hcz15_0
       try clear hcz17_0
       try clear hcz24_0
       try clear hcz25_0
       try clear hcz31_0
       try clear hcz38_0
       try clear hcz44_0
       try clear hcz47_0
       try clear hcz52_0
       try clear hcz55_0
       try clear hcz70_0
       try clear hcz78_0
       try clear hcz7_0
       try clear hcz81_0
       try clear hcz86_0
       try clear hcz89_0
       try clear hfz15_0
       try clear hfz17_0
       try clear hfz24_0
       try clear hfz25_0
       try clear hfz31_0
       try clear hfz38_0
       try clear hfz44_0
       try clear hfz47_0
       try clear hfz52_0
       try clear hfz55_0
       try clear hfz70_0
       try clear hfz78_0
       try clear hfz7_0
       try clear hfz81_0
       try clear hfz86_0
       try clear hfz89_0
       try clear p2
       obtain ⟨kq, x69_61, rfl, HA, HJ61, HO_430000, HO_434000, HO_439000, BK420, BK429, BK433, BK438, HB⟩ := hcut
       have hl434000_61 := (Kd.R_reads' HO_434000.out).1
       rw [hl434000_61] at HO_434000
       (try simp only [hl434000_61])
       (try simp only [hl434000_61] at BK420)
       (try simp only [hl434000_61] at BK429)
       (try simp only [hl434000_61] at BK433)
       (try simp only [hl434000_61] at BK438)
       (try simp only [hl434000_61] at HO_430000)
       (try simp only [hl434000_61] at HO_439000)
       cases kq with
       | zero => exact absurd HA.out (by simp [laws_FnExactMakeSeal.j1])
       | succ kj61 =>
        have H := HA.out
        clear HA
        simp only [laws_FnExactMakeSeal.j1] at H
        by_cases c91 : x69_61 = true
        ·subst c91
         have H1 : (some false) = some r := by rw [if_pos rfl] at H; exact H
         clear H
         have H := H1
         clear H1
         obtain rfl := Option.some.inj H
         go_wp2
         go_ret
         exact ⟨ze, zb HB.out⟩
        ·replace c91 := Bool.eq_false_iff.mpr c91
         subst c91
         have H1 : ((laws_markPool.f kj61 t434 1).bind fun bt447 => ((laws_heldPool.f kj61 bt447.2 1).bind fun t449 => (if t449 < 0 then (some false) else (if t449 = bt447.1 then ((laws_toPool.f kj61 l0_0).bind fun t450 => ((impl_MakeSeal.f kj61 t450 a1 a2).bind fun bt453 => ((laws_eqPool.f kj61 bt453.1 t425).bind fun t458 => (if t458 = true then (laws_FnExactMakeSeal.j2 kj61 bt447.1 (bt453.2 != t428) bt447.2) else (laws_FnExactMakeSeal.j2 kj61 bt447.1 true bt447.2))))) else (some false))))) = some r := by rw [if_neg (show ¬ (false = true) by decide)] at H; exact H
         clear H
         have H := H1
         clear H1
         replace H := Option.bind_eq_some_iff.mp H
         obtain ⟨⟨t447, t448⟩, A920, H⟩ := H
         replace H : ((laws_heldPool.f kj61 t448 1).bind fun t449 => (if t449 < 0 then (some false) else (if t449 = t447 then ((laws_toPool.f kj61 l0_0).bind fun t450 => ((impl_MakeSeal.f kj61 t450 a1 a2).bind fun bt453 => ((laws_eqPool.f kj61 bt453.1 t425).bind fun t458 => (if t458 = true then (laws_FnExactMakeSeal.j2 kj61 t447 (bt453.2 != t428) t448) else (laws_FnExactMakeSeal.j2 kj61 t447 true t448))))) else (some false)))) = some r := H
         have A92 := Aside0.mk A920
         clear A920
         replace H := Option.bind_eq_some_iff.mp H
         obtain ⟨t449, A930, H⟩ := H
         replace H : (if t449 < 0 then (some false) else (if t449 = t447 then ((laws_toPool.f kj61 l0_0).bind fun t450 => ((impl_MakeSeal.f kj61 t450 a1 a2).bind fun bt453 => ((laws_eqPool.f kj61 bt453.1 t425).bind fun t458 => (if t458 = true then (laws_FnExactMakeSeal.j2 kj61 t447 (bt453.2 != t428) t448) else (laws_FnExactMakeSeal.j2 kj61 t447 true t448))))) else (some false))) = some r := H
         have A93 := Aside0.mk A930
         clear A930
         by_cases c94 : t449 < 0
         ·rw [if_pos c94] at H
          have c94b0 : decide (t449 < 0) = true := decide_eq_true c94
          clear c94
          obtain rfl := Option.some.inj H
          have hnb95 := NB438_420.out
          have hnc95 := NB420_438.out
          have hnb96 := NB438_429.out
          have hnc96 := NB429_438.out
          have hnb97 := NB438_433.out
          have hnc97 := NB433_438.out
          have hcz98_0 : wc.cell? ⟨gb438, 0, none⟩ = some (.slice Ao34 t434.length co34) := (blk_cell BK438.out 0).trans rfl
          have hfz98_0 := blk_frozen BK438.out 0
          go_wp2_with (first | ((with_reducible refine gate_callee (f := 18) rfl ?_); refine goesL_ (some 72) rfl rfl Try.func18 (by kernel_rfl) rfl #[.agg #[.slice Ao34 t434.length co34], .int .i64 1] rfl zl ?_; (with_reducible refine (laws_markPool.calls kj61 (fun k_ => some k_ = (.slice Ao34 t434.length co34 : Value).ownBlock) (.slice Ao34 t434.length co34) t434 1 t447 t448 w _ ?side1 ?side2 A92.out).mono ?_); (case side1 => repeat (first | (with_reducible first | exact HB.out | apply below_alloc | apply pw_below_drewN | apply below_drew1 | refine below_set ?_ GE420.out | refine below_set ?_ GE429.out | refine below_set ?_ GE433.out | refine below_set ?_ GE438.out) | exact HB.out)); (case side2 => exact Kd.R_tight rfl HO_439000.out); rintro e w99 ⟨rfl, hy0, hb, hkp⟩; refine ⟨_, rfl, ?_⟩; have n0_ := Aside0.mk (Kd.R_mono (ok' := fun k_ => some k_ ≠ (.slice Ao28 t445.length co28 : Value).ownBlock ∧ some k_ ≠ (.slice Ao34 t434.length co34 : Value).ownBlock) (Kd.R_keptB (HO_430000.out) hkp (fun k_ hk_ hs_ => by first | exact (hk_.2) hs_ | (revert hk_; simp only [and_imp]; intros; exact absurd hs_ (by assumption)))) (fun k_ hk_ => by first | exact ⟨hk_.1.1, hk_.1.2⟩ | (revert hk_; simp only [and_imp]; intros; and_intros <;> assumption))); have n1_ := Aside0.mk (Kd.R_mono (ok' := fun k_ => some k_ ≠ (.slice Ao22 t425.length co22 : Value).ownBlock ∧ some k_ ≠ (.slice Ao34 t434.length co34 : Value).ownBlock) (Kd.R_keptB (HO_434000.out) hkp (fun k_ hk_ hs_ => by first | exact (hk_.2) hs_ | (revert hk_; simp only [and_imp]; intros; exact absurd hs_ (by assumption)))) (fun k_ hk_ => by first | exact ⟨hk_.1.1, hk_.1.2⟩ | (revert hk_; simp only [and_imp]; intros; and_intros <;> assumption))); have n2_ := Aside0.mk (Kd.R_reok rfl hy0 (fun k_ e_ => HO_439000.out.1 k_ e_)); have n3_ := Aside0.mk (blk_kept (zh BK420.out) hkp (fun hs_ => (fun e_ => (Kd.R_ne HO_439000.out BK420.out (by decide)) e_) hs_)); have n4_ := Aside0.mk (blk_kept (zh BK429.out) hkp (fun hs_ => (fun e_ => (Kd.R_ne HO_439000.out BK429.out (by decide)) e_) hs_)); have n5_ := Aside0.mk (blk_kept (zh BK433.out) hkp (fun hs_ => (fun e_ => (Kd.R_ne HO_439000.out BK433.out (by decide)) e_) hs_)); have n6_ := Aside0.mk (blk_kept (zh BK438.out) hkp (fun hs_ => (fun e_ => (Kd.R_ne HO_439000.out BK438.out (by decide)) e_) hs_)); have n7_ := Aside0.mk (hb); clear HO_430000; clear HO_434000; clear HO_439000; clear BK420; clear BK429; clear BK433; clear BK438; clear HB; have HO_430000 := n0_; have HO_434000 := n1_; have HO_439000 := n2_; have BK420 := n3_; have BK429 := n4_; have BK433 := n5_; have BK438 := n6_; have HB := n7_; clear n0_ n1_ n2_ n3_ n4_ n5_ n6_ n7_; (try clear hb); (try clear hkp); (try clear hy0); have hcz100_0 : w99.cell? ⟨gb438, 0, none⟩ = some (.slice Ao34 t434.length co34) := (blk_cell BK438.out 0).trans rfl; have hfz100_0 := blk_frozen BK438.out 0) | ((with_reducible refine gate_callee (f := 19) rfl ?_); refine goesL_ (some 75) rfl rfl Try.func19 (by kernel_rfl) rfl #[.agg #[.slice Ao34 t448.length co34], .int .i64 1] rfl (by (try simp only [List.map_toArray, List.map_cons, List.map_nil]); first | done | (rw [show t448.length = t434.length from (Kd.R_reads' HO_439000.out).1.symm] <;> rfl) | rfl | (simp only [List.length_drop, List.length_take]; rfl)) ?_; (with_reducible refine (laws_heldPool.calls kj61 _ _ t448 1 t449 _ ?side1 ?side2 A93.out).mono ?_); (case side1 => exact zc (Kd.R_reads' HO_439000.out).2.2); (case side2 => rw [show t448.length = t434.length from (Kd.R_reads' HO_439000.out).1.symm]; exact (Kd.R_reads' HO_439000.out).2.1); rintro e w101 ⟨rfl, hb⟩; refine ⟨_, rfl, ?_⟩; have n0_ := Aside0.mk (Kd.R_below (zr HO_430000.out) hb); have n1_ := Aside0.mk (Kd.R_below (zr HO_434000.out) hb); have n2_ := Aside0.mk (Kd.R_below (zr HO_439000.out) hb); have n3_ := Aside0.mk (blk_below (zh BK420.out) hb); have n4_ := Aside0.mk (blk_below (zh BK429.out) hb); have n5_ := Aside0.mk (blk_below (zh BK433.out) hb); have n6_ := Aside0.mk (blk_below (zh BK438.out) hb); have n7_ := Aside0.mk (below_step (zb HB.out) hb); clear HO_430000; clear HO_434000; clear HO_439000; clear BK420; clear BK429; clear BK433; clear BK438; clear HB; have HO_430000 := n0_; have HO_434000 := n1_; have HO_439000 := n2_; have BK420 := n3_; have BK429 := n4_; have BK433 := n5_; have BK438 := n6_; have HB := n7_; clear n0_ n1_ n2_ n3_ n4_ n5_ n6_ n7_; (try clear hb); (try clear hb2); (try clear hk); (try clear hi)))
          go_ret
          exact ⟨ze, zb HB.out⟩
         ·rw [if_neg c94] at H
          have c94b0 : decide (t449 < 0) = false := decide_eq_false c94
          clear c94
          by_cases c102 : t449 = t447
          ·rw [if_pos c102] at H
           have c102b0 : (t449 == t447) = true := beq_iff_eq.mpr c102
           have c102b1 : (t449 != t447) = false := bne_eq_false_iff_eq.mpr c102
           clear c102
           replace H := Option.bind_eq_some_iff.mp H
           obtain ⟨t450, A1030, H⟩ := H
           replace H : ((impl_MakeSeal.f kj61 t450 a1 a2).bind fun bt453 => ((laws_eqPool.f kj61 bt453.1 t425).bind fun t458 => (if t458 = true then (laws_FnExactMakeSeal.j2 kj61 t447 (bt453.2 != t428) t448) else (laws_FnExactMakeSeal.j2 kj61 t447 true t448)))) = some r := H
           have A103 := Aside0.mk A1030
           clear A1030
           replace H := Option.bind_eq_some_iff.mp H
           obtain ⟨⟨t453, t456⟩, A1040, H⟩ := H
           replace H : ((laws_eqPool.f kj61 t453 t425).bind fun t458 => (if t458 = true then (laws_FnExactMakeSeal.j2 kj61 t447 (t456 != t428) t448) else (laws_FnExactMakeSeal.j2 kj61 t447 true t448))) = some r := H
           have A104 := Aside0.mk A1040
           clear A1040
           have HC105 := Aside0.mk H
           clear H
           have hnb106 := NB438_420.out
           have hnc106 := NB420_438.out
           have hnb107 := NB438_429.out
           have hnc107 := NB429_438.out
           have hnb108 := NB438_433.out
           have hnc108 := NB433_438.out
           have hcz109_0 : wc.cell? ⟨gb438, 0, none⟩ = some (.slice Ao34 t434.length co34) := (blk_cell BK438.out 0).trans rfl
           have hfz109_0 := blk_frozen BK438.out 0
           go_upto_region 25 with (first | ((with_reducible refine gate_callee (f := 18) rfl ?_); refine goesL_ (some 72) rfl rfl Try.func18 (by kernel_rfl) rfl #[.agg #[.slice Ao34 t434.length co34], .int .i64 1] rfl zl ?_; (with_reducible refine (laws_markPool.calls kj61 (fun k_ => some k_ = (.slice Ao34 t434.length co34 : Value).ownBlock) (.slice Ao34 t434.length co34) t434 1 t447 t448 w _ ?side1 ?side2 A92.out).mono ?_); (case side1 => repeat (first | (with_reducible first | exact HB.out | apply below_alloc | apply pw_below_drewN | apply below_drew1 | refine below_set ?_ GE420.out | refine below_set ?_ GE429.out | refine below_set ?_ GE433.out | refine below_set ?_ GE438.out) | exact HB.out)); (case side2 => exact Kd.R_tight rfl HO_439000.out); rintro e w110 ⟨rfl, hy0, hb, hkp⟩; refine ⟨_, rfl, ?_⟩; have n0_ := Aside0.mk (Kd.R_mono (ok' := fun k_ => some k_ ≠ (.slice Ao28 t445.length co28 : Value).ownBlock ∧ some k_ ≠ (.slice Ao34 t434.length co34 : Value).ownBlock) (Kd.R_keptB (HO_430000.out) hkp (fun k_ hk_ hs_ => by first | exact (hk_.2) hs_ | (revert hk_; simp only [and_imp]; intros; exact absurd hs_ (by assumption)))) (fun k_ hk_ => by first | exact ⟨hk_.1.1, hk_.1.2⟩ | (revert hk_; simp only [and_imp]; intros; and_intros <;> assumption))); have n1_ := Aside0.mk (Kd.R_mono (ok' := fun k_ => some k_ ≠ (.slice Ao22 t425.length co22 : Value).ownBlock ∧ some k_ ≠ (.slice Ao34 t434.length co34 : Value).ownBlock) (Kd.R_keptB (HO_434000.out) hkp (fun k_ hk_ hs_ => by first | exact (hk_.2) hs_ | (revert hk_; simp only [and_imp]; intros; exact absurd hs_ (by assumption)))) (fun k_ hk_ => by first | exact ⟨hk_.1.1, hk_.1.2⟩ | (revert hk_; simp only [and_imp]; intros; and_intros <;> assumption))); have n2_ := Aside0.mk (Kd.R_reok rfl hy0 (fun k_ e_ => HO_439000.out.1 k_ e_)); have n3_ := Aside0.mk (blk_kept (zh BK420.out) hkp (fun hs_ => (fun e_ => (Kd.R_ne HO_439000.out BK420.out (by decide)) e_) hs_)); have n4_ := Aside0.mk (blk_kept (zh BK429.out) hkp (fun hs_ => (fun e_ => (Kd.R_ne HO_439000.out BK429.out (by decide)) e_) hs_)); have n5_ := Aside0.mk (blk_kept (zh BK433.out) hkp (fun hs_ => (fun e_ => (Kd.R_ne HO_439000.out BK433.out (by decide)) e_) hs_)); have n6_ := Aside0.mk (blk_kept (zh BK438.out) hkp (fun hs_ => (fun e_ => (Kd.R_ne HO_439000.out BK438.out (by decide)) e_) hs_)); have n7_ := Aside0.mk (hb); clear HO_430000; clear HO_434000; clear HO_439000; clear BK420; clear BK429; clear BK433; clear BK438; clear HB; have HO_430000 := n0_; have HO_434000 := n1_; have HO_439000 := n2_; have BK420 := n3_; have BK429 := n4_; have BK433 := n5_; have BK438 := n6_; have HB := n7_; clear n0_ n1_ n2_ n3_ n4_ n5_ n6_ n7_; (try clear hb); (try clear hkp); (try clear hy0); have hcz111_0 : w110.cell? ⟨gb438, 0, none⟩ = some (.slice Ao34 t434.length co34) := (blk_cell BK438.out 0).trans rfl; have hfz111_0 := blk_frozen BK438.out 0) | ((with_reducible refine gate_callee (f := 19) rfl ?_); refine goesL_ (some 75) rfl rfl Try.func19 (by kernel_rfl) rfl #[.agg #[.slice Ao34 t448.length co34], .int .i64 1] rfl (by (try simp only [List.map_toArray, List.map_cons, List.map_nil]); first | done | (rw [show t448.length = t434.length from (Kd.R_reads' HO_439000.out).1.symm] <;> rfl) | rfl | (simp only [List.length_drop, List.length_take]; rfl)) ?_; (with_reducible refine (laws_heldPool.calls kj61 _ _ t448 1 t449 _ ?side1 ?side2 A93.out).mono ?_); (case side1 => exact zc (Kd.R_reads' HO_439000.out).2.2); (case side2 => rw [show t448.length = t434.length from (Kd.R_reads' HO_439000.out).1.symm]; exact (Kd.R_reads' HO_439000.out).2.1); rintro e w112 ⟨rfl, hb⟩; refine ⟨_, rfl, ?_⟩; have n0_ := Aside0.mk (Kd.R_below (zr HO_430000.out) hb); have n1_ := Aside0.mk (Kd.R_below (zr HO_434000.out) hb); have n2_ := Aside0.mk (Kd.R_below (zr HO_439000.out) hb); have n3_ := Aside0.mk (blk_below (zh BK420.out) hb); have n4_ := Aside0.mk (blk_below (zh BK429.out) hb); have n5_ := Aside0.mk (blk_below (zh BK433.out) hb); have n6_ := Aside0.mk (blk_below (zh BK438.out) hb); have n7_ := Aside0.mk (below_step (zb HB.out) hb); clear HO_430000; clear HO_434000; clear HO_439000; clear BK420; clear BK429; clear BK433; clear BK438; clear HB; have HO_430000 := n0_; have HO_434000 := n1_; have HO_439000 := n2_; have BK420 := n3_; have BK429 := n4_; have BK433 := n5_; have BK438 := n6_; have HB := n7_; clear n0_ n1_ n2_ n3_ n4_ n5_ n6_ n7_; (try clear hb); (try clear hb2); (try clear hk); (try clear hi); have hnb113 := NB420_429.out; have hnc113 := NB429_420.out; have hnb114 := NB420_433.out; have hnc114 := NB433_420.out; have hcz115_0 : w112.cell? ⟨gb420, 0, none⟩ = some (.slice A0_0 l0_0.length c0_0) := (blk_cell BK420.out 0).trans rfl; have hfz115_0 := blk_frozen BK420.out 0) | ((with_reducible refine gate_callee (f := 15) rfl ?_); refine goesL_ (some 83) rfl rfl Try.func15 (by kernel_rfl) rfl #[.agg #[.slice A0_0 l0_0.length c0_0]] rfl zl ?_; (with_reducible refine (laws_toPool.calls kj61 _ _ l0_0 t450 _ ?side1 ?side2 A103.out).mono ?_); (case side1 => exact zc (Kd.C_below HR0_0.out HB.out)); (case side2 => exact HC0_0.out); rintro e w116 ⟨v451, rfl, ho0, hb⟩; refine ⟨_, rfl, ?_⟩; have n0_ := Aside0.mk (Kd.R_elder' (zr HO_430000.out) (Kd.R_base ho0) hb); have n1_ := Aside0.mk (Kd.R_elder' (zr HO_434000.out) (Kd.R_base ho0) hb); have n2_ := Aside0.mk (Kd.R_elder' (zr HO_439000.out) (Kd.R_base ho0) hb); have n3_ := Aside0.mk (Kd.R_lower (Kd.R_new' (Kd.R_new' (Kd.R_new' ho0 (Kd.R_lt (zr HO_430000.out))) (Kd.R_lt (zr HO_434000.out))) (Kd.R_lt (zr HO_439000.out))) (below_size (zb HB.out))); have n4_ := Aside0.mk (blk_below (zh BK420.out) hb); have n5_ := Aside0.mk (blk_below (zh BK429.out) hb); have n6_ := Aside0.mk (blk_below (zh BK433.out) hb); have n7_ := Aside0.mk (blk_below (zh BK438.out) hb); have n8_ := Aside0.mk (below_step (zb HB.out) hb); clear HO_430000; clear HO_434000; clear HO_439000; clear BK420; clear BK429; clear BK433; clear BK438; clear HB; have HO_430000 := n0_; have HO_434000 := n1_; have HO_439000 := n2_; have HO452 := n3_; have BK420 := n4_; have BK429 := n5_; have BK433 := n6_; have BK438 := n7_; have HB := n8_; clear n0_ n1_ n2_ n3_ n4_ n5_ n6_ n7_ n8_; (try clear hb); (try clear hb2); (try clear hk); (try clear hi); (try clear ho0); obtain ⟨Ao117, co117, eo117⟩ := Kd.R_slice HO452.out; subst eo117) | ((with_reducible refine gate_callee (f := 27) rfl ?_); refine goesL_ (some 86) rfl rfl Try.func27 (by kernel_rfl) rfl #[.agg #[.slice Ao117 t450.length co117], .int .i64 a1, .int .i64 a2] rfl zl ?_; (with_reducible refine (impl_MakeSeal.calls kj61 _ _ t450 a1 a2 t453 t456 _ ?side1 ?side2 A104.out).mono ?_); (case side1 => exact zc (Kd.R_reads' HO452.out).2.2); (case side2 => exact (Kd.R_reads' HO452.out).2.1); rintro e w118 ⟨v454, rfl, ho0, hb⟩; refine ⟨_, rfl, ?_⟩; have n0_ := Aside0.mk (Kd.R_elder' (zr HO_430000.out) (Kd.R_base ho0) hb); have n1_ := Aside0.mk (Kd.R_elder' (zr HO_434000.out) (Kd.R_base ho0) hb); have n2_ := Aside0.mk (Kd.R_elder' (zr HO_439000.out) (Kd.R_base ho0) hb); have n3_ := Aside0.mk (Kd.R_elder' (zr HO452.out) (Kd.R_base ho0) hb); have n4_ := Aside0.mk (Kd.R_lower (Kd.R_new' (Kd.R_new' (Kd.R_new' (Kd.R_new' ho0 (Kd.R_lt (zr HO_430000.out))) (Kd.R_lt (zr HO_434000.out))) (Kd.R_lt (zr HO_439000.out))) (Kd.R_lt (zr HO452.out))) (below_size (zb HB.out))); have n5_ := Aside0.mk (blk_below (zh BK420.out) hb); have n6_ := Aside0.mk (blk_below (zh BK429.out) hb); have n7_ := Aside0.mk (blk_below (zh BK433.out) hb); have n8_ := Aside0.mk (blk_below (zh BK438.out) hb); have n9_ := Aside0.mk (below_step (zb HB.out) hb); clear HO_430000; clear HO_434000; clear HO_439000; clear HO452; clear BK420; clear BK429; clear BK433; clear BK438; clear HB; have HO_430000 := n0_; have HO_434000 := n1_; have HO_439000 := n2_; have HO452 := n3_; have HO455 := n4_; have BK420 := n5_; have BK429 := n6_; have BK433 := n7_; have BK438 := n8_; have HB := n9_; clear n0_ n1_ n2_ n3_ n4_ n5_ n6_ n7_ n8_ n9_; (try clear hb); (try clear hb2); (try clear hk); (try clear hi); (try clear ho0)) | ((with_reducible refine gate_dst (N := 16) rfl ?_); refine box_event ?hg (N := 16) ?hd (cs := #[.slice none 0 0]) (t := 28) ?hr ?_; (case hd => rfl); (case hg => rfl); (case hr => first | (go_simp; done) | (go_simp; rfl)); intro gb457 hg w119 hbox hb; have n0_ := Aside0.mk (Kd.R_below (zr HO_430000.out) hb); have n1_ := Aside0.mk (Kd.R_below (zr HO_434000.out) hb); have n2_ := Aside0.mk (Kd.R_below (zr HO_439000.out) hb); have n3_ := Aside0.mk (Kd.R_below (zr HO452.out) hb); have n4_ := Aside0.mk (Kd.R_below (zr HO455.out) hb); have n5_ := Aside0.mk (blk_below (zh BK420.out) hb); have n6_ := Aside0.mk (blk_below (zh BK429.out) hb); have n7_ := Aside0.mk (blk_below (zh BK433.out) hb); have n8_ := Aside0.mk (blk_below (zh BK438.out) hb); have n9_ := Aside0.mk (below_step (zb HB.out) hb); have n10_ := Aside0.mk (hbox); have n11_ := Aside0.mk ((by rw [hg]; exact (below_size (zb HB.out)) : w.heap.size ≤ gb457)); have n12_ := Aside0.mk ((by rw [hg]; exact (below_size (zb HB.out)) : w.heap.size ≤ gb457)); have n13_ := Aside0.mk ((by rw [hg]; exact Nat.ne_of_lt (blk_lt (zh BK420.out)) : gb420 ≠ gb457)); have n14_ := Aside0.mk ((by rw [hg]; exact Nat.ne_of_gt (blk_lt (zh BK420.out)) : gb457 ≠ gb420)); have n15_ := Aside0.mk ((by rw [hg]; exact Nat.ne_of_lt (blk_lt (zh BK429.out)) : gb429 ≠ gb457)); have n16_ := Aside0.mk ((by rw [hg]; exact Nat.ne_of_gt (blk_lt (zh BK429.out)) : gb457 ≠ gb429)); have n17_ := Aside0.mk ((by rw [hg]; exact Nat.ne_of_lt (blk_lt (zh BK433.out)) : gb433 ≠ gb457)); have n18_ := Aside0.mk ((by rw [hg]; exact Nat.ne_of_gt (blk_lt (zh BK433.out)) : gb457 ≠ gb433)); have n19_ := Aside0.mk ((by rw [hg]; exact Nat.ne_of_lt (blk_lt (zh BK438.out)) : gb438 ≠ gb457)); have n20_ := Aside0.mk ((by rw [hg]; exact Nat.ne_of_gt (blk_lt (zh BK438.out)) : gb457 ≠ gb438)); clear HO_430000; clear HO_434000; clear HO_439000; clear HO452; clear HO455; clear BK420; clear BK429; clear BK433; clear BK438; clear HB; have HO_430000 := n0_; have HO_434000 := n1_; have HO_439000 := n2_; have HO452 := n3_; have HO455 := n4_; have BK420 := n5_; have BK429 := n6_; have BK433 := n7_; have BK438 := n8_; have HB := n9_; have BK457 := n10_; have GW457 := n11_; have GE457 := n12_; have NB420_457 := n13_; have NB457_420 := n14_; have NB429_457 := n15_; have NB457_429 := n16_; have NB433_457 := n17_; have NB457_433 := n18_; have NB438_457 := n19_; have NB457_438 := n20_; clear n0_ n1_ n2_ n3_ n4_ n5_ n6_ n7_ n8_ n9_ n10_ n11_ n12_ n13_ n14_ n15_ n16_ n17_ n18_ n19_ n20_; clear hb hbox hg; obtain ⟨Ao120, co120, eo120⟩ := Kd.R_slice HO455.out; subst eo120; have hnb121 := NB457_420.out; have hnc121 := NB420_457.out; have hnb122 := NB457_429.out; have hnc122 := NB429_457.out; have hnb123 := NB457_433.out; have hnc123 := NB433_457.out; have hnb124 := NB457_438.out; have hnc124 := NB438_457.out; have hcz125_0 : w119.cell? ⟨gb457, 0, none⟩ = some (.slice none 0 0) := (blk_cell BK457.out 0).trans rfl; have hfz125_0 := blk_frozen BK457.out 0))
           (try simp only [Act.put, List.setIfInBounds_toArray, List.set_cons_zero, List.set_cons_succ])
           go_cut [97] (fun v97 wc => ∃ (kq : Nat) (x97_104 : Bool), v97 = .bool x97_104 ∧ Aside0 (laws_FnExactMakeSeal.j2 kq t447 x97_104 t448 = some r) ∧ Aside0 (kq ≤ kj61) ∧ Aside0 (Kd.R k49 49 wc w.heap.size (fun k_ => some k_ ≠ ((.slice Ao28 t445.length co28) : Value).ownBlock ∧ some k_ ≠ ((.slice Ao34 t434.length co34) : Value).ownBlock ∧ some k_ ≠ ((.slice Ao120 t453.length co120) : Value).ownBlock) (.slice Ao22 t425.length co22) t425) ∧ Aside0 (Kd.R k49 49 wc w.heap.size (fun k_ => some k_ ≠ ((.slice Ao22 t425.length co22) : Value).ownBlock ∧ some k_ ≠ ((.slice Ao34 t434.length co34) : Value).ownBlock ∧ some k_ ≠ ((.slice Ao120 t453.length co120) : Value).ownBlock) (.slice Ao28 t445.length co28) t445) ∧ Aside0 (Kd.R k49 49 wc w.heap.size (fun k_ => some k_ ≠ ((.slice Ao22 t425.length co22) : Value).ownBlock ∧ some k_ ≠ ((.slice Ao28 t445.length co28) : Value).ownBlock ∧ some k_ ≠ ((.slice Ao120 t453.length co120) : Value).ownBlock) (.slice Ao34 t434.length co34) t448) ∧ Aside0 (Kd.R k49 49 wc w.heap.size (fun k_ => some k_ ≠ ((.slice Ao22 t425.length co22) : Value).ownBlock ∧ some k_ ≠ ((.slice Ao28 t445.length co28) : Value).ownBlock ∧ some k_ ≠ ((.slice Ao34 t434.length co34) : Value).ownBlock) (.slice Ao120 t453.length co120) t453) ∧ Aside0 (wc.heap[gb420]? = some (.cells #[(.slice A0_0 l0_0.length c0_0)] 24 (0, 0))) ∧ Aside0 (wc.heap[gb429]? = some (.cells #[(.slice Ao22 t425.length co22)] 28 (0, 0))) ∧ Aside0 (wc.heap[gb433]? = some (.cells #[(.slice Ao28 t445.length co28)] 28 (0, 0))) ∧ Aside0 (wc.heap[gb438]? = some (.cells #[(.slice Ao34 t434.length co34)] 28 (0, 0))) ∧ Aside0 (wc.heap[gb457]? = some (.cells #[(.slice Ao120 t453.length co120)] 28 (0, 0))) ∧ Aside0 (Below w.heap.size w wc))
           case first =>
            have H := HC105.out
            clear HC105
            replace H := Option.bind_eq_some_iff.mp H
            obtain ⟨t458, A1260, H⟩ := H
            replace H : (if t458 = true then (laws_FnExactMakeSeal.j2 kj61 t447 (t456 != t428) t448) else (laws_FnExactMakeSeal.j2 kj61 t447 true t448)) = some r := H
            have A126 := Aside0.mk A1260
            clear A1260
            by_cases c127 : t458 = true
            ·subst c127
             have H1 : (laws_FnExactMakeSeal.j2 kj61 t447 (t456 != t428) t448) = some r := by rw [if_pos rfl] at H; exact H
             clear H
             have H := H1
             clear H1
             have H' := Aside0.mk H
             clear H
             have hnb128 := NB457_420.out
             have hnc128 := NB420_457.out
             have hnb129 := NB457_429.out
             have hnc129 := NB429_457.out
             have hnb130 := NB457_433.out
             have hnc130 := NB433_457.out
             have hnb131 := NB457_438.out
             have hnc131 := NB438_457.out
             have hcz132_0 : w119.cell? ⟨gb457, 0, none⟩ = some (.slice none 0 0) := (blk_cell BK457.out 0).trans rfl
             have hfz132_0 := blk_frozen BK457.out 0
             have hnb133 := NB429_420.out
             have hnc133 := NB420_429.out
             have hnb134 := NB429_433.out
             have hnc134 := NB433_429.out
             have hnb135 := NB429_438.out
             have hnc135 := NB438_429.out
             have hcz136_0 : w119.cell? ⟨gb429, 0, none⟩ = some (.slice Ao22 t425.length co22) := (blk_cell BK429.out 0).trans rfl
             have hfz136_0 := blk_frozen BK429.out 0
             go_wp2_with (first | ((with_reducible refine gate_callee (f := 17) rfl ?_); refine goesL_ (some 91) rfl rfl Try.func17 (by kernel_rfl) rfl #[.agg #[.slice Ao120 t453.length co120], .agg #[.slice Ao22 t425.length co22]] rfl zl ?_; (with_reducible refine (laws_eqPool.calls kj61 _ _ t453 _ _ t425 true _ ?side1 ?side2 ?side3 ?side4 A126.out).mono ?_); (case side1 => refine (Kd.R_reads' (e := 49) (base := w.heap.size) (ok := fun k_ => ((((True ∧ some k_ ≠ (.slice Ao22 t425.length co22 : Value).ownBlock) ∧ some k_ ≠ (.slice Ao28 t445.length co28 : Value).ownBlock) ∧ some k_ ≠ (.slice Ao34 t434.length co34 : Value).ownBlock) ∧ some k_ ≠ (.slice Ao117 t450.length co117 : Value).ownBlock)) (n := t453.length) (c := co120) ?_).2.2; exact (by (with_reducible repeat (first | apply Kd.R_alloc | apply Kd.R_drewN | apply Kd.R_drew)); exact (Kd.R_mono (Kd.R_far (p := ⟨gb457, 0, none⟩) (Kd.R_types HO455.out BK457.out (by decide)) (fun _ hk => hk.2) (.slice Ao120 t453.length co120)) (fun _ h_ => h_.1)))); (case side2 => exact (Kd.R_reads' HO455.out).2.1); (case side3 => refine (Kd.R_reads' (e := 49) (base := w.heap.size) (ok := fun k_ => (((some k_ ≠ (.slice Ao28 t445.length co28 : Value).ownBlock ∧ some k_ ≠ (.slice Ao34 t434.length co34 : Value).ownBlock) ∧ some k_ ≠ (.slice Ao117 t450.length co117 : Value).ownBlock) ∧ some k_ ≠ (.slice Ao120 t453.length co120 : Value).ownBlock)) (n := t425.length) (c := co22) ?_).2.2; exact (by (with_reducible repeat (first | apply Kd.R_alloc | apply Kd.R_drewN | apply Kd.R_drew)); exact (Kd.R_mono (Kd.R_far (p := ⟨gb457, 0, none⟩) (Kd.R_types HO_430000.out BK457.out (by decide)) (fun _ hk => hk.2) (.slice Ao120 t453.length co120)) (fun _ h_ => h_.1)))); (case side4 => exact (Kd.R_reads' HO_430000.out).2.1); rintro e w137 ⟨rfl, hb⟩; refine ⟨_, rfl, ?_⟩; have n0_ := Aside0.mk (Kd.R_below (by (with_reducible repeat (first | apply Kd.R_alloc | apply Kd.R_drewN | apply Kd.R_drew)); exact (Kd.R_mono (Kd.R_far (p := ⟨gb457, 0, none⟩) (Kd.R_types HO_430000.out BK457.out (by decide)) (fun _ hk => hk.2) (.slice Ao120 t453.length co120)) (fun _ h_ => h_.1))) hb); have n1_ := Aside0.mk (Kd.R_below (by (with_reducible repeat (first | apply Kd.R_alloc | apply Kd.R_drewN | apply Kd.R_drew)); exact (Kd.R_mono (Kd.R_far (p := ⟨gb457, 0, none⟩) (Kd.R_types HO_434000.out BK457.out (by decide)) (fun _ hk => hk.2) (.slice Ao120 t453.length co120)) (fun _ h_ => h_.1))) hb); have n2_ := Aside0.mk (Kd.R_below (by (with_reducible repeat (first | apply Kd.R_alloc | apply Kd.R_drewN | apply Kd.R_drew)); exact (Kd.R_mono (Kd.R_far (p := ⟨gb457, 0, none⟩) (Kd.R_types HO_439000.out BK457.out (by decide)) (fun _ hk => hk.2) (.slice Ao120 t453.length co120)) (fun _ h_ => h_.1))) hb); have n3_ := Aside0.mk (Kd.R_below (by (with_reducible repeat (first | apply Kd.R_alloc | apply Kd.R_drewN | apply Kd.R_drew)); exact (Kd.R_mono (Kd.R_far (p := ⟨gb457, 0, none⟩) (Kd.R_types HO452.out BK457.out (by decide)) (fun _ hk => hk.2) (.slice Ao120 t453.length co120)) (fun _ h_ => h_.1))) hb); have n4_ := Aside0.mk (Kd.R_below (by (with_reducible repeat (first | apply Kd.R_alloc | apply Kd.R_drewN | apply Kd.R_drew)); exact (Kd.R_mono (Kd.R_far (p := ⟨gb457, 0, none⟩) (Kd.R_types HO455.out BK457.out (by decide)) (fun _ hk => hk.2) (.slice Ao120 t453.length co120)) (fun _ h_ => h_.1))) hb); have n5_ := Aside0.mk (blk_below (g := gb420) (o := .cells #[.slice A0_0 l0_0.length c0_0] 24 (0, 0)) (zf BK420.out) hb); have n6_ := Aside0.mk (blk_below (g := gb429) (o := .cells #[.slice Ao22 t425.length co22] 28 (0, 0)) (zf BK429.out) hb); have n7_ := Aside0.mk (blk_below (g := gb433) (o := .cells #[.slice Ao28 t445.length co28] 28 (0, 0)) (zf BK433.out) hb); have n8_ := Aside0.mk (blk_below (g := gb438) (o := .cells #[.slice Ao34 t434.length co34] 28 (0, 0)) (zf BK438.out) hb); have n9_ := Aside0.mk (blk_below (g := gb457) (o := .cells #[.slice Ao120 t453.length co120] 28 (0, 0)) (by (with_reducible repeat (first | refine blk_drewN ?_ _ | refine blk_drew ?_ | refine blk_alloc ?_ _)); refine blk_put (cs := #[.slice none 0 0]) ?_ 0 _ rfl; (with_reducible repeat (first | refine blk_drewN ?_ _ | refine blk_drew ?_ | refine blk_alloc ?_ _)); exact BK457.out) hb); have n10_ := Aside0.mk (below_step (zb HB.out) hb); clear HO_430000; clear HO_434000; clear HO_439000; clear HO452; clear HO455; clear BK420; clear BK429; clear BK433; clear BK438; clear BK457; clear HB; have HO_430000 := n0_; have HO_434000 := n1_; have HO_439000 := n2_; have HO452 := n3_; have HO455 := n4_; have BK420 := n5_; have BK429 := n6_; have BK433 := n7_; have BK438 := n8_; have BK457 := n9_; have HB := n10_; clear n0_ n1_ n2_ n3_ n4_ n5_ n6_ n7_ n8_ n9_ n10_; (try clear hb); (try clear hb2); (try clear hk); (try clear hi)))
             go_meet
             case rel => exact ⟨_, ((t456 != t428)), (by first | rfl | (simp; done) | (simp [*]; done)), H', ⟨by have := HJ12.out; have := HJ61.out; first | omega | exact Nat.le_refl _⟩, ⟨by (try simp only [hl434000_61]); (with_reducible repeat (first | apply Kd.R_alloc | apply Kd.R_drewN | apply Kd.R_drew)); exact Kd.R_mono HO_430000.out (fun _ hk => ⟨hk.1.1.1, ⟨hk.1.1.2, hk.2⟩⟩)⟩, ⟨by (try simp only [hl434000_61]); (with_reducible repeat (first | apply Kd.R_alloc | apply Kd.R_drewN | apply Kd.R_drew)); exact Kd.R_mono HO_434000.out (fun _ hk => ⟨hk.1.1.1, ⟨hk.1.1.2, hk.2⟩⟩)⟩, ⟨by (try simp only [hl434000_61]); (with_reducible repeat (first | apply Kd.R_alloc | apply Kd.R_drewN | apply Kd.R_drew)); exact Kd.R_mono HO_439000.out (fun _ hk => ⟨hk.1.1.1, ⟨hk.1.1.2, hk.2⟩⟩)⟩, ⟨by (try simp only [hl434000_61]); (with_reducible repeat (first | apply Kd.R_alloc | apply Kd.R_drewN | apply Kd.R_drew)); exact Kd.R_mono HO455.out (fun _ hk => ⟨hk.1.1.1.2, ⟨hk.1.1.2, hk.1.2⟩⟩)⟩, ⟨by (try simp only [hl434000_61]); (with_reducible repeat (first | refine blk_drewN ?_ _ | refine blk_drew ?_ | refine blk_alloc ?_ _)); exact BK420.out⟩, ⟨by (try simp only [hl434000_61]); (with_reducible repeat (first | refine blk_drewN ?_ _ | refine blk_drew ?_ | refine blk_alloc ?_ _)); exact BK429.out⟩, ⟨by (try simp only [hl434000_61]); (with_reducible repeat (first | refine blk_drewN ?_ _ | refine blk_drew ?_ | refine blk_alloc ?_ _)); exact BK433.out⟩, ⟨by (try simp only [hl434000_61]); (with_reducible repeat (first | refine blk_drewN ?_ _ | refine blk_drew ?_ | refine blk_alloc ?_ _)); exact BK438.out⟩, ⟨by (try simp only [hl434000_61]); (with_reducible repeat (first | refine blk_drewN ?_ _ | refine blk_drew ?_ | refine blk_alloc ?_ _)); exact BK457.out⟩, ⟨zb HB.out⟩⟩
            ·replace c127 := Bool.eq_false_iff.mpr c127
             subst c127
             have H1 : (laws_FnExactMakeSeal.j2 kj61 t447 true t448) = some r := by rw [if_neg (show ¬ (false = true) by decide)] at H; exact H
             clear H
             have H := H1
             clear H1
             have H' := Aside0.mk H
             clear H
             have hnb138 := NB457_420.out
             have hnc138 := NB420_457.out
             have hnb139 := NB457_429.out
             have hnc139 := NB429_457.out
             have hnb140 := NB457_433.out
             have hnc140 := NB433_457.out
             have hnb141 := NB457_438.out
             have hnc141 := NB438_457.out
             have hcz142_0 : w119.cell? ⟨gb457, 0, none⟩ = some (.slice none 0 0) := (blk_cell BK457.out 0).trans rfl
             have hfz142_0 := blk_frozen BK457.out 0
             have hnb143 := NB429_420.out
             have hnc143 := NB420_429.out
             have hnb144 := NB429_433.out
             have hnc144 := NB433_429.out
             have hnb145 := NB429_438.out
             have hnc145 := NB438_429.out
             have hcz146_0 : w119.cell? ⟨gb429, 0, none⟩ = some (.slice Ao22 t425.length co22) := (blk_cell BK429.out 0).trans rfl
             have hfz146_0 := blk_frozen BK429.out 0
             go_wp2_with (first | ((with_reducible refine gate_callee (f := 17) rfl ?_); refine goesL_ (some 91) rfl rfl Try.func17 (by kernel_rfl) rfl #[.agg #[.slice Ao120 t453.length co120], .agg #[.slice Ao22 t425.length co22]] rfl zl ?_; (with_reducible refine (laws_eqPool.calls kj61 _ _ t453 _ _ t425 false _ ?side1 ?side2 ?side3 ?side4 A126.out).mono ?_); (case side1 => refine (Kd.R_reads' (e := 49) (base := w.heap.size) (ok := fun k_ => ((((True ∧ some k_ ≠ (.slice Ao22 t425.length co22 : Value).ownBlock) ∧ some k_ ≠ (.slice Ao28 t445.length co28 : Value).ownBlock) ∧ some k_ ≠ (.slice Ao34 t434.length co34 : Value).ownBlock) ∧ some k_ ≠ (.slice Ao117 t450.length co117 : Value).ownBlock)) (n := t453.length) (c := co120) ?_).2.2; exact (by (with_reducible repeat (first | apply Kd.R_alloc | apply Kd.R_drewN | apply Kd.R_drew)); exact (Kd.R_mono (Kd.R_far (p := ⟨gb457, 0, none⟩) (Kd.R_types HO455.out BK457.out (by decide)) (fun _ hk => hk.2) (.slice Ao120 t453.length co120)) (fun _ h_ => h_.1)))); (case side2 => exact (Kd.R_reads' HO455.out).2.1); (case side3 => refine (Kd.R_reads' (e := 49) (base := w.heap.size) (ok := fun k_ => (((some k_ ≠ (.slice Ao28 t445.length co28 : Value).ownBlock ∧ some k_ ≠ (.slice Ao34 t434.length co34 : Value).ownBlock) ∧ some k_ ≠ (.slice Ao117 t450.length co117 : Value).ownBlock) ∧ some k_ ≠ (.slice Ao120 t453.length co120 : Value).ownBlock)) (n := t425.length) (c := co22) ?_).2.2; exact (by (with_reducible repeat (first | apply Kd.R_alloc | apply Kd.R_drewN | apply Kd.R_drew)); exact (Kd.R_mono (Kd.R_far (p := ⟨gb457, 0, none⟩) (Kd.R_types HO_430000.out BK457.out (by decide)) (fun _ hk => hk.2) (.slice Ao120 t453.length co120)) (fun _ h_ => h_.1)))); (case side4 => exact (Kd.R_reads' HO_430000.out).2.1); rintro e w147 ⟨rfl, hb⟩; refine ⟨_, rfl, ?_⟩; have n0_ := Aside0.mk (Kd.R_below (by (with_reducible repeat (first | apply Kd.R_alloc | apply Kd.R_drewN | apply Kd.R_drew)); exact (Kd.R_mono (Kd.R_far (p := ⟨gb457, 0, none⟩) (Kd.R_types HO_430000.out BK457.out (by decide)) (fun _ hk => hk.2) (.slice Ao120 t453.length co120)) (fun _ h_ => h_.1))) hb); have n1_ := Aside0.mk (Kd.R_below (by (with_reducible repeat (first | apply Kd.R_alloc | apply Kd.R_drewN | apply Kd.R_drew)); exact (Kd.R_mono (Kd.R_far (p := ⟨gb457, 0, none⟩) (Kd.R_types HO_434000.out BK457.out (by decide)) (fun _ hk => hk.2) (.slice Ao120 t453.length co120)) (fun _ h_ => h_.1))) hb); have n2_ := Aside0.mk (Kd.R_below (by (with_reducible repeat (first | apply Kd.R_alloc | apply Kd.R_drewN | apply Kd.R_drew)); exact (Kd.R_mono (Kd.R_far (p := ⟨gb457, 0, none⟩) (Kd.R_types HO_439000.out BK457.out (by decide)) (fun _ hk => hk.2) (.slice Ao120 t453.length co120)) (fun _ h_ => h_.1))) hb); have n3_ := Aside0.mk (Kd.R_below (by (with_reducible repeat (first | apply Kd.R_alloc | apply Kd.R_drewN | apply Kd.R_drew)); exact (Kd.R_mono (Kd.R_far (p := ⟨gb457, 0, none⟩) (Kd.R_types HO452.out BK457.out (by decide)) (fun _ hk => hk.2) (.slice Ao120 t453.length co120)) (fun _ h_ => h_.1))) hb); have n4_ := Aside0.mk (Kd.R_below (by (with_reducible repeat (first | apply Kd.R_alloc | apply Kd.R_drewN | apply Kd.R_drew)); exact (Kd.R_mono (Kd.R_far (p := ⟨gb457, 0, none⟩) (Kd.R_types HO455.out BK457.out (by decide)) (fun _ hk => hk.2) (.slice Ao120 t453.length co120)) (fun _ h_ => h_.1))) hb); have n5_ := Aside0.mk (blk_below (g := gb420) (o := .cells #[.slice A0_0 l0_0.length c0_0] 24 (0, 0)) (zf BK420.out) hb); have n6_ := Aside0.mk (blk_below (g := gb429) (o := .cells #[.slice Ao22 t425.length co22] 28 (0, 0)) (zf BK429.out) hb); have n7_ := Aside0.mk (blk_below (g := gb433) (o := .cells #[.slice Ao28 t445.length co28] 28 (0, 0)) (zf BK433.out) hb); have n8_ := Aside0.mk (blk_below (g := gb438) (o := .cells #[.slice Ao34 t434.length co34] 28 (0, 0)) (zf BK438.out) hb); have n9_ := Aside0.mk (blk_below (g := gb457) (o := .cells #[.slice Ao120 t453.length co120] 28 (0, 0)) (by (with_reducible repeat (first | refine blk_drewN ?_ _ | refine blk_drew ?_ | refine blk_alloc ?_ _)); refine blk_put (cs := #[.slice none 0 0]) ?_ 0 _ rfl; (with_reducible repeat (first | refine blk_drewN ?_ _ | refine blk_drew ?_ | refine blk_alloc ?_ _)); exact BK457.out) hb); have n10_ := Aside0.mk (below_step (zb HB.out) hb); clear HO_430000; clear HO_434000; clear HO_439000; clear HO452; clear HO455; clear BK420; clear BK429; clear BK433; clear BK438; clear BK457; clear HB; have HO_430000 := n0_; have HO_434000 := n1_; have HO_439000 := n2_; have HO452 := n3_; have HO455 := n4_; have BK420 := n5_; have BK429 := n6_; have BK433 := n7_; have BK438 := n8_; have BK457 := n9_; have HB := n10_; clear n0_ n1_ n2_ n3_ n4_ n5_ n6_ n7_ n8_ n9_ n10_; (try clear hb); (try clear hb2); (try clear hk); (try clear hi)))
             go_meet
             case rel => exact ⟨_, (true), (by first | rfl | (simp; done) | (simp [*]; done)), H', ⟨by have := HJ12.out; have := HJ61.out; first | omega | exact Nat.le_refl _⟩, ⟨by (try simp only [hl434000_61]); (with_reducible repeat (first | apply Kd.R_alloc | apply Kd.R_drewN | apply Kd.R_drew)); exact Kd.R_mono HO_430000.out (fun _ hk => ⟨hk.1.1.1, ⟨hk.1.1.2, hk.2⟩⟩)⟩, ⟨by (try simp only [hl434000_61]); (with_reducible repeat (first | apply Kd.R_alloc | apply Kd.R_drewN | apply Kd.R_drew)); exact Kd.R_mono HO_434000.out (fun _ hk => ⟨hk.1.1.1, ⟨hk.1.1.2, hk.2⟩⟩)⟩, ⟨by (try simp only [hl434000_61]); (with_reducible repeat (first | apply Kd.R_alloc | apply Kd.R_drewN | apply Kd.R_drew)); exact Kd.R_mono HO_439000.out (fun _ hk => ⟨hk.1.1.1, ⟨hk.1.1.2, hk.2⟩⟩)⟩, ⟨by (try simp only [hl434000_61]); (with_reducible repeat (first | apply Kd.R_alloc | apply Kd.R_drewN | apply Kd.R_drew)); exact Kd.R_mono HO455.out (fun _ hk => ⟨hk.1.1.1.2, ⟨hk.1.1.2, hk.1.2⟩⟩)⟩, ⟨by (try simp only [hl434000_61]); (with_reducible repeat (first | refine blk_drewN ?_ _ | refine blk_drew ?_ | refine blk_alloc ?_ _)); exact BK420.out⟩, ⟨by (try simp only [hl434000_61]); (with_reducible repeat (first | refine blk_drewN ?_ _ | refine blk_drew ?_ | refine blk_alloc ?_ _)); exact BK429.out⟩, ⟨by (try simp only [hl434000_61]); (with_reducible repeat (first | refine blk_drewN ?_ _ | refine blk_drew ?_ | refine blk_alloc ?_ _)); exact BK433.out⟩, ⟨by (try simp only [hl434000_61]); (with_reducible repeat (first | refine blk_drewN ?_ _ | refine blk_drew ?_ | refine blk_alloc ?_ _)); exact BK438.out⟩, ⟨by (try simp only [hl434000_61]); (with_reducible repeat (first | refine blk_drewN ?_ _ | refine blk_drew ?_ | refine blk_alloc ?_ _)); exact BK457.out⟩, ⟨zb HB.out⟩⟩
           case rest =>
            clear HC105
            try clear c1
            try clear c2
            try clear p2
            try clear c3
            try clear c4
            try clear c5
            try clear c5b0
            try clear c6
            try clear c7
            try clear c8
            try clear c9
            try clear c10
            try clear c11
            try clear c12
            try clear c13
            try clear c14
            try clear c15
            try clear c17
            try clear c18
            try clear c19
            try clear c23
            try clear c26
            try clear c27
            try clear c29
            try clear c30
            try clear c35
            try clear c36
            try clear c37
            try clear c40
            try clear c41
            try clear c42
            try clear c43
            try clear c45
            try clear c46
            try clear c49
            try clear c50
            try clear c51
            try clear c53
            try clear c54
            try clear c57
            try clear c60
            try clear c67
            try clear c68
            try clear c69
            try clear c72
            try clear c72b0
            try clear c74
            try clear c75
            try clear c76
            try clear c77
            try clear c79
            try clear c80
            try clear c83
            try clear c84
            try clear c85
            try clear c87
            try clear c88
            try clear c91
            try clear c94
            try clear c94b0
            try clear c95
            try clear c96
            try clear c97
            try clear c102
            try clear c102b0
            try clear c102b1
            try clear c106
            try clear c107
            try clear c108
            try clear c113
            try clear c114
            try clear c121
            try clear c122
            try clear c123
            try clear c124
            try clear c127
            try clear c128
            try clear c129
            try clear c130
            try clear c131
            try clear c133
            try clear c134
            try clear c135
            try clear c138
            try clear c139
            try clear c140
            try clear c141
            try clear c143
            try clear c144
            try clear c145
            try clear hcz100_0
            try clear hcz109_0
            try clear hcz111_0
            try clear hcz115_0
            try clear hcz125_0
            try clear hcz132_0
            try clear hcz136_0
            try clear hcz142_0
            try clear hcz146_0
            try clear hcz15_0
            try clear hcz17_0
            try clear hcz24_0
            try clear hcz25_0
            try clear hcz31_0
            try clear hcz38_0
            try clear hcz44_0
            try clear hcz47_0
            try clear hcz52_0
            try clear hcz55_0
            try clear hcz70_0
            try clear hcz78_0
            try clear hcz7_0
            try clear hcz81_0
            try clear hcz86_0
            try clear hcz89_0
            try clear hcz98_0
            try clear hfz100_0
            try clear hfz109_0
            try clear hfz111_0
            try clear hfz115_0
            try clear hfz125_0
            try clear hfz132_0
            try clear hfz136_0
            try clear hfz142_0
            try clear hfz146_0
            try clear hfz15_0
            try clear hfz17_0
            try clear hfz24_0
            try clear hfz25_0
            try clear hfz31_0
            try clear hfz38_0
            try clear hfz44_0
            try clear hfz47_0
            try clear hfz52_0
            try clear hfz55_0
            try clear hfz70_0
            try clear hfz78_0
            try clear hfz7_0
            try clear hfz81_0
            try clear hfz86_0
            try clear hfz89_0
            try clear hfz98_0
            try clear p2
            obtain ⟨kq, x97_104, rfl, HA, HJ104, HO_430000, HO_434000, HO_439000, HO_458000, BK420, BK429, BK433, BK438, BK457, HB⟩ := hcut
            have hl439000_104 := (Kd.R_reads' HO_439000.out).1
            rw [hl439000_104] at HO_439000
            (try simp only [hl439000_104])
            (try simp only [hl439000_104] at BK420)
            (try simp only [hl439000_104] at BK429)
            (try simp only [hl439000_104] at BK433)
            (try simp only [hl439000_104] at BK438)
            (try simp only [hl439000_104] at BK457)
            (try simp only [hl439000_104] at HO_430000)
            (try simp only [hl439000_104] at HO_434000)
            (try simp only [hl439000_104] at HO_458000)
            cases kq with
            | zero => exact absurd HA.out (by simp [laws_FnExactMakeSeal.j2])
            | succ kj104 =>
             have H := HA.out
             clear HA
             simp only [laws_FnExactMakeSeal.j2] at H
             by_cases c148 : x97_104 = true
             ·subst c148
              have H1 : (some false) = some r := by rw [if_pos rfl] at H; exact H
              clear H
              have H := H1
              clear H1
              obtain rfl := Option.some.inj H
              go_wp2
              go_ret
              exact ⟨ze, zb HB.out⟩
             ·replace c148 := Bool.eq_false_iff.mpr c148
              subst c148
              have H1 : ((laws_heldPool.f kj104 t448 1).bind fun t459 => (if t459 < 0 then (some false) else (if t459 = t447 then (some true) else (some false)))) = some r := by rw [if_neg (show ¬ (false = true) by decide)] at H; exact H
              clear H
              have H := H1
              clear H1
              replace H := Option.bind_eq_some_iff.mp H
              obtain ⟨t459, A1490, H⟩ := H
              replace H : (if t459 < 0 then (some false) else (if t459 = t447 then (some true) else (some false))) = some r := H
              have A149 := Aside0.mk A1490
              clear A1490
              by_cases c150 : t459 < 0
              ·rw [if_pos c150] at H
               have c150b0 : decide (t459 < 0) = true := decide_eq_true c150
               clear c150
               obtain rfl := Option.some.inj H
               have hnb151 := NB438_420.out
               have hnc151 := NB420_438.out
               have hnb152 := NB438_429.out
               have hnc152 := NB429_438.out
               have hnb153 := NB438_433.out
               have hnc153 := NB433_438.out
               have hnb154 := NB438_457.out
               have hnc154 := NB457_438.out
               have hcz155_0 : wc.cell? ⟨gb438, 0, none⟩ = some (.slice Ao34 t448.length co34) := (blk_cell BK438.out 0).trans rfl
               have hfz155_0 := blk_frozen BK438.out 0
               go_wp2_with (first | ((with_reducible refine gate_callee (f := 19) rfl ?_); refine goesL_ (some 100) rfl rfl Try.func19 (by kernel_rfl) rfl #[.agg #[.slice Ao34 t448.length co34], .int .i64 1] rfl zl ?_; (with_reducible refine (laws_heldPool.calls kj104 _ _ t448 1 t459 _ ?side1 ?side2 A149.out).mono ?_); (case side1 => exact zc (Kd.R_reads' HO_439000.out).2.2); (case side2 => exact (Kd.R_reads' HO_439000.out).2.1); rintro e w156 ⟨rfl, hb⟩; refine ⟨_, rfl, ?_⟩; have n0_ := Aside0.mk (Kd.R_below (zr HO_430000.out) hb); have n1_ := Aside0.mk (Kd.R_below (zr HO_434000.out) hb); have n2_ := Aside0.mk (Kd.R_below (zr HO_439000.out) hb); have n3_ := Aside0.mk (Kd.R_below (zr HO_458000.out) hb); have n4_ := Aside0.mk (blk_below (zh BK420.out) hb); have n5_ := Aside0.mk (blk_below (zh BK429.out) hb); have n6_ := Aside0.mk (blk_below (zh BK433.out) hb); have n7_ := Aside0.mk (blk_below (zh BK438.out) hb); have n8_ := Aside0.mk (blk_below (zh BK457.out) hb); have n9_ := Aside0.mk (below_step (zb HB.out) hb); clear HO_430000; clear HO_434000; clear HO_439000; clear HO_458000; clear BK420; clear BK429; clear BK433; clear BK438; clear BK457; clear HB; have HO_430000 := n0_; have HO_434000 := n1_; have HO_439000 := n2_; have HO_458000 := n3_; have BK420 := n4_; have BK429 := n5_; have BK433 := n6_; have BK438 := n7_; have BK457 := n8_; have HB := n9_; clear n0_ n1_ n2_ n3_ n4_ n5_ n6_ n7_ n8_ n9_; (try clear hb); (try clear hb2); (try clear hk); (try clear hi)))
               go_ret
               exact ⟨ze, zb HB.out⟩
              ·rw [if_neg c150] at H
               have c150b0 : decide (t459 < 0) = false := decide_eq_false c150
               clear c150
               by_cases c157 : t459 = t447
               ·rw [if_pos c157] at H
                have c157b0 : (t459 == t447) = true := beq_iff_eq.mpr c157
                have c157b1 : (t459 != t447) = false := bne_eq_false_iff_eq.mpr c157
                clear c157
                obtain rfl := Option.some.inj H
                have hnb158 := NB438_420.out
                have hnc158 := NB420_438.out
                have hnb159 := NB438_429.out
                have hnc159 := NB429_438.out
                have hnb160 := NB438_433.out
                have hnc160 := NB433_438.out
                have hnb161 := NB438_457.out
                have hnc161 := NB457_438.out
                have hcz162_0 : wc.cell? ⟨gb438, 0, none⟩ = some (.slice Ao34 t448.length co34) := (blk_cell BK438.out 0).trans rfl
                have hfz162_0 := blk_frozen BK438.out 0
                go_wp2_with (first | ((with_reducible refine gate_callee (f := 19) rfl ?_); refine goesL_ (some 100) rfl rfl Try.func19 (by kernel_rfl) rfl #[.agg #[.slice Ao34 t448.length co34], .int .i64 1] rfl zl ?_; (with_reducible refine (laws_heldPool.calls kj104 _ _ t448 1 t459 _ ?side1 ?side2 A149.out).mono ?_); (case side1 => exact zc (Kd.R_reads' HO_439000.out).2.2); (case side2 => exact (Kd.R_reads' HO_439000.out).2.1); rintro e w163 ⟨rfl, hb⟩; refine ⟨_, rfl, ?_⟩; have n0_ := Aside0.mk (Kd.R_below (zr HO_430000.out) hb); have n1_ := Aside0.mk (Kd.R_below (zr HO_434000.out) hb); have n2_ := Aside0.mk (Kd.R_below (zr HO_439000.out) hb); have n3_ := Aside0.mk (Kd.R_below (zr HO_458000.out) hb); have n4_ := Aside0.mk (blk_below (zh BK420.out) hb); have n5_ := Aside0.mk (blk_below (zh BK429.out) hb); have n6_ := Aside0.mk (blk_below (zh BK433.out) hb); have n7_ := Aside0.mk (blk_below (zh BK438.out) hb); have n8_ := Aside0.mk (blk_below (zh BK457.out) hb); have n9_ := Aside0.mk (below_step (zb HB.out) hb); clear HO_430000; clear HO_434000; clear HO_439000; clear HO_458000; clear BK420; clear BK429; clear BK433; clear BK438; clear BK457; clear HB; have HO_430000 := n0_; have HO_434000 := n1_; have HO_439000 := n2_; have HO_458000 := n3_; have BK420 := n4_; have BK429 := n5_; have BK433 := n6_; have BK438 := n7_; have BK457 := n8_; have HB := n9_; clear n0_ n1_ n2_ n3_ n4_ n5_ n6_ n7_ n8_ n9_; (try clear hb); (try clear hb2); (try clear hk); (try clear hi)))
                go_ret
                exact ⟨ze, zb HB.out⟩
               ·rw [if_neg c157] at H
                have c157b0 : (t459 == t447) = false := beq_eq_false_iff_ne.mpr c157
                have c157b1 : (t459 != t447) = true := bne_iff_ne.mpr c157
                obtain rfl := Option.some.inj H
                have hnb164 := NB438_420.out
                have hnc164 := NB420_438.out
                have hnb165 := NB438_429.out
                have hnc165 := NB429_438.out
                have hnb166 := NB438_433.out
                have hnc166 := NB433_438.out
                have hnb167 := NB438_457.out
                have hnc167 := NB457_438.out
                have hcz168_0 : wc.cell? ⟨gb438, 0, none⟩ = some (.slice Ao34 t448.length co34) := (blk_cell BK438.out 0).trans rfl
                have hfz168_0 := blk_frozen BK438.out 0
                go_wp2_with (first | ((with_reducible refine gate_callee (f := 19) rfl ?_); refine goesL_ (some 100) rfl rfl Try.func19 (by kernel_rfl) rfl #[.agg #[.slice Ao34 t448.length co34], .int .i64 1] rfl zl ?_; (with_reducible refine (laws_heldPool.calls kj104 _ _ t448 1 t459 _ ?side1 ?side2 A149.out).mono ?_); (case side1 => exact zc (Kd.R_reads' HO_439000.out).2.2); (case side2 => exact (Kd.R_reads' HO_439000.out).2.1); rintro e w169 ⟨rfl, hb⟩; refine ⟨_, rfl, ?_⟩; have n0_ := Aside0.mk (Kd.R_below (zr HO_430000.out) hb); have n1_ := Aside0.mk (Kd.R_below (zr HO_434000.out) hb); have n2_ := Aside0.mk (Kd.R_below (zr HO_439000.out) hb); have n3_ := Aside0.mk (Kd.R_below (zr HO_458000.out) hb); have n4_ := Aside0.mk (blk_below (zh BK420.out) hb); have n5_ := Aside0.mk (blk_below (zh BK429.out) hb); have n6_ := Aside0.mk (blk_below (zh BK433.out) hb); have n7_ := Aside0.mk (blk_below (zh BK438.out) hb); have n8_ := Aside0.mk (blk_below (zh BK457.out) hb); have n9_ := Aside0.mk (below_step (zb HB.out) hb); clear HO_430000; clear HO_434000; clear HO_439000; clear HO_458000; clear BK420; clear BK429; clear BK433; clear BK438; clear BK457; clear HB; have HO_430000 := n0_; have HO_434000 := n1_; have HO_439000 := n2_; have HO_458000 := n3_; have BK420 := n4_; have BK429 := n5_; have BK433 := n6_; have BK438 := n7_; have BK457 := n8_; have HB := n9_; clear n0_ n1_ n2_ n3_ n4_ n5_ n6_ n7_ n8_ n9_; (try clear hb); (try clear hb2); (try clear hk); (try clear hi)))
                go_ret
                exact ⟨ze, zb HB.out⟩
          ·rw [if_neg c102] at H
           have c102b0 : (t449 == t447) = false := beq_eq_false_iff_ne.mpr c102
           have c102b1 : (t449 != t447) = true := bne_iff_ne.mpr c102
           obtain rfl := Option.some.inj H
           have hnb170 := NB438_420.out
           have hnc170 := NB420_438.out
           have hnb171 := NB438_429.out
           have hnc171 := NB429_438.out
           have hnb172 := NB438_433.out
           have hnc172 := NB433_438.out
           have hcz173_0 : wc.cell? ⟨gb438, 0, none⟩ = some (.slice Ao34 t434.length co34) := (blk_cell BK438.out 0).trans rfl
           have hfz173_0 := blk_frozen BK438.out 0
           go_wp2_with (first | ((with_reducible refine gate_callee (f := 18) rfl ?_); refine goesL_ (some 72) rfl rfl Try.func18 (by kernel_rfl) rfl #[.agg #[.slice Ao34 t434.length co34], .int .i64 1] rfl zl ?_; (with_reducible refine (laws_markPool.calls kj61 (fun k_ => some k_ = (.slice Ao34 t434.length co34 : Value).ownBlock) (.slice Ao34 t434.length co34) t434 1 t447 t448 w _ ?side1 ?side2 A92.out).mono ?_); (case side1 => repeat (first | (with_reducible first | exact HB.out | apply below_alloc | apply pw_below_drewN | apply below_drew1 | refine below_set ?_ GE420.out | refine below_set ?_ GE429.out | refine below_set ?_ GE433.out | refine below_set ?_ GE438.out) | exact HB.out)); (case side2 => exact Kd.R_tight rfl HO_439000.out); rintro e w174 ⟨rfl, hy0, hb, hkp⟩; refine ⟨_, rfl, ?_⟩; have n0_ := Aside0.mk (Kd.R_mono (ok' := fun k_ => some k_ ≠ (.slice Ao28 t445.length co28 : Value).ownBlock ∧ some k_ ≠ (.slice Ao34 t434.length co34 : Value).ownBlock) (Kd.R_keptB (HO_430000.out) hkp (fun k_ hk_ hs_ => by first | exact (hk_.2) hs_ | (revert hk_; simp only [and_imp]; intros; exact absurd hs_ (by assumption)))) (fun k_ hk_ => by first | exact ⟨hk_.1.1, hk_.1.2⟩ | (revert hk_; simp only [and_imp]; intros; and_intros <;> assumption))); have n1_ := Aside0.mk (Kd.R_mono (ok' := fun k_ => some k_ ≠ (.slice Ao22 t425.length co22 : Value).ownBlock ∧ some k_ ≠ (.slice Ao34 t434.length co34 : Value).ownBlock) (Kd.R_keptB (HO_434000.out) hkp (fun k_ hk_ hs_ => by first | exact (hk_.2) hs_ | (revert hk_; simp only [and_imp]; intros; exact absurd hs_ (by assumption)))) (fun k_ hk_ => by first | exact ⟨hk_.1.1, hk_.1.2⟩ | (revert hk_; simp only [and_imp]; intros; and_intros <;> assumption))); have n2_ := Aside0.mk (Kd.R_reok rfl hy0 (fun k_ e_ => HO_439000.out.1 k_ e_)); have n3_ := Aside0.mk (blk_kept (zh BK420.out) hkp (fun hs_ => (fun e_ => (Kd.R_ne HO_439000.out BK420.out (by decide)) e_) hs_)); have n4_ := Aside0.mk (blk_kept (zh BK429.out) hkp (fun hs_ => (fun e_ => (Kd.R_ne HO_439000.out BK429.out (by decide)) e_) hs_)); have n5_ := Aside0.mk (blk_kept (zh BK433.out) hkp (fun hs_ => (fun e_ => (Kd.R_ne HO_439000.out BK433.out (by decide)) e_) hs_)); have n6_ := Aside0.mk (blk_kept (zh BK438.out) hkp (fun hs_ => (fun e_ => (Kd.R_ne HO_439000.out BK438.out (by decide)) e_) hs_)); have n7_ := Aside0.mk (hb); clear HO_430000; clear HO_434000; clear HO_439000; clear BK420; clear BK429; clear BK433; clear BK438; clear HB; have HO_430000 := n0_; have HO_434000 := n1_; have HO_439000 := n2_; have BK420 := n3_; have BK429 := n4_; have BK433 := n5_; have BK438 := n6_; have HB := n7_; clear n0_ n1_ n2_ n3_ n4_ n5_ n6_ n7_; (try clear hb); (try clear hkp); (try clear hy0); have hcz175_0 : w174.cell? ⟨gb438, 0, none⟩ = some (.slice Ao34 t434.length co34) := (blk_cell BK438.out 0).trans rfl; have hfz175_0 := blk_frozen BK438.out 0) | ((with_reducible refine gate_callee (f := 19) rfl ?_); refine goesL_ (some 75) rfl rfl Try.func19 (by kernel_rfl) rfl #[.agg #[.slice Ao34 t448.length co34], .int .i64 1] rfl (by (try simp only [List.map_toArray, List.map_cons, List.map_nil]); first | done | (rw [show t448.length = t434.length from (Kd.R_reads' HO_439000.out).1.symm] <;> rfl) | rfl | (simp only [List.length_drop, List.length_take]; rfl)) ?_; (with_reducible refine (laws_heldPool.calls kj61 _ _ t448 1 t449 _ ?side1 ?side2 A93.out).mono ?_); (case side1 => exact zc (Kd.R_reads' HO_439000.out).2.2); (case side2 => rw [show t448.length = t434.length from (Kd.R_reads' HO_439000.out).1.symm]; exact (Kd.R_reads' HO_439000.out).2.1); rintro e w176 ⟨rfl, hb⟩; refine ⟨_, rfl, ?_⟩; have n0_ := Aside0.mk (Kd.R_below (zr HO_430000.out) hb); have n1_ := Aside0.mk (Kd.R_below (zr HO_434000.out) hb); have n2_ := Aside0.mk (Kd.R_below (zr HO_439000.out) hb); have n3_ := Aside0.mk (blk_below (zh BK420.out) hb); have n4_ := Aside0.mk (blk_below (zh BK429.out) hb); have n5_ := Aside0.mk (blk_below (zh BK433.out) hb); have n6_ := Aside0.mk (blk_below (zh BK438.out) hb); have n7_ := Aside0.mk (below_step (zb HB.out) hb); clear HO_430000; clear HO_434000; clear HO_439000; clear BK420; clear BK429; clear BK433; clear BK438; clear HB; have HO_430000 := n0_; have HO_434000 := n1_; have HO_439000 := n2_; have BK420 := n3_; have BK429 := n4_; have BK433 := n5_; have BK438 := n6_; have HB := n7_; clear n0_ n1_ n2_ n3_ n4_ n5_ n6_ n7_; (try clear hb); (try clear hb2); (try clear hk); (try clear hi)))
           go_ret
           exact ⟨ze, zb HB.out⟩
     ·replace c60 := Bool.eq_false_iff.mpr c60
      subst c60
      have H1 : (some false) = some r := by rw [if_neg (show ¬ (false = true) by decide)] at H; exact H
      clear H
      have H := H1
      clear H1
      obtain rfl := Option.some.inj H
      try go_wp2
      have n0_ := Aside0.mk (Kd.R_drew HO_430000.out)
      have n1_ := Aside0.mk (Kd.R_drew HO_434000.out)
      have n2_ := Aside0.mk (Kd.R_drew HO_439000.out)
      have n3_ := Aside0.mk (blk_drew BK420.out)
      have n4_ := Aside0.mk (blk_drew BK429.out)
      have n5_ := Aside0.mk (blk_drew BK433.out)
      have n6_ := Aside0.mk (blk_drew BK438.out)
      have n7_ := Aside0.mk (below_drew1 HB.out)
      clear HO_430000
      clear HO_434000
      clear HO_439000
      clear BK420
      clear BK429
      clear BK433
      clear BK438
      clear HB
      have HO_430000 := n0_
      have HO_434000 := n1_
      have HO_439000 := n2_
      have BK420 := n3_
      have BK429 := n4_
      have BK433 := n5_
      have BK438 := n6_
      have HB := n7_
      clear n0_ n1_ n2_ n3_ n4_ n5_ n6_ n7_
      refine start_ (n := 5) (S := fun w' => w'.cell? ⟨gb433, 0, none⟩ = some (.slice Ao28 t430.length co28) ∧ w'.cell? ⟨gb420, 0, none⟩ = some (.slice A0_0 l0_0.length c0_0)) (ds := []) #[false, false, false, false, false] (by kernel_rfl) rfl rfl ⟨(blk_cell BK433.out 0).trans rfl, (blk_cell BK420.out 0).trans rfl⟩ (fun hHeld => ?_)
      generalize wc.drew = w177 at HO_430000 HO_434000 HO_439000 BK420 BK429 BK433 BK438 HB hHeld ⊢
      refine take_ (i := 0) (N := some 49) (v := ?_) (a' := ?_) #[true, false, false, false, false] rfl rfl (by kernel_rfl) (fun _ _ _ h => h) (Or.inl ⟨by rfl, ?_⟩) hHeld ?_ ?_
      rotate_left
      ·rintro w' ⟨s0, s1⟩
       go_simp
       with_reducible rfl
      rotate_left
      ·simp only [Act.put, List.setIfInBounds_toArray, List.set_cons_zero, List.set_cons_succ, i64_w, i32_w]
       rfl
      refine take_ (i := 1) (N := some 50) (v := ?_) (a' := ?_) #[true, true, false, false, false] rfl rfl (by kernel_rfl) (fun _ _ _ h => h) (Or.inl ⟨by rfl, ?_⟩) hHeld ?_ ?_
      rotate_left
      ·rintro w' ⟨s0, s1⟩
       go_simp
       with_reducible rfl
      rotate_left
      ·simp only [Act.put, List.setIfInBounds_toArray, List.set_cons_zero, List.set_cons_succ, i64_w, i32_w]
       rfl
      refine one_ (i := 2) (N := some 51) #[true, true, true, false, false] rfl rfl (by kernel_rfl) (by decide) (fun K hK => ?_)
      refine goes_ Try.func15 (by kernel_rfl) rfl #[.agg #[.slice A0_0 l0_0.length c0_0]] (by rfl) rfl rfl zl ?_
      with_reducible refine (laws_toPool.calls kj12 _ _ l0_0 t440 _ ?side1 ?side2 A58.out).mono ?_
      (case side1 => exact zc (Kd.C_below HR0_0.out HB.out))
      (case side2 => exact HC0_0.out)
      rintro e w178 ⟨v441, rfl, ho0, hb⟩
      refine ⟨_, rfl, ?_⟩
      have n0_ := Aside0.mk (Kd.R_elder' (zr HO_430000.out) (Kd.R_base ho0) hb)
      have n1_ := Aside0.mk (Kd.R_elder' (zr HO_434000.out) (Kd.R_base ho0) hb)
      have n2_ := Aside0.mk (Kd.R_elder' (zr HO_439000.out) (Kd.R_base ho0) hb)
      have n3_ := Aside0.mk (Kd.R_lower (Kd.R_new' (Kd.R_new' (Kd.R_new' ho0 (Kd.R_lt (zr HO_430000.out))) (Kd.R_lt (zr HO_434000.out))) (Kd.R_lt (zr HO_439000.out))) (below_size (zb HB.out)))
      have n4_ := Aside0.mk (blk_below (zh BK420.out) hb)
      have n5_ := Aside0.mk (blk_below (zh BK429.out) hb)
      have n6_ := Aside0.mk (blk_below (zh BK433.out) hb)
      have n7_ := Aside0.mk (blk_below (zh BK438.out) hb)
      have n8_ := Aside0.mk (below_step (zb HB.out) hb)
      clear HO_430000
      clear HO_434000
      clear HO_439000
      clear BK420
      clear BK429
      clear BK433
      clear BK438
      clear HB
      have HO_430000 := n0_
      have HO_434000 := n1_
      have HO_439000 := n2_
      have HO442 := n3_
      have BK420 := n4_
      have BK429 := n5_
      have BK433 := n6_
      have BK438 := n7_
      have HB := n8_
      clear n0_ n1_ n2_ n3_ n4_ n5_ n6_ n7_ n8_
      (try clear hb)
      (try clear hb2)
      (try clear hk)
      (try clear hi)
      (try clear ho0)
      obtain ⟨Ao179, co179, eo179⟩ := Kd.R_slice HO442.out
      (first | subst eo179 | (injection eo179 with f1_ f2_ f3_; have f4_ := f1_.symm; have f5_ := f3_.symm; clear f1_ f2_ f3_; subst f4_; subst f5_))
      refine hK.out _ _ ⟨(blk_cell BK433.out 0).trans rfl, (blk_cell BK420.out 0).trans rfl⟩ (fun hHeld => ?_)
      clear hK K
      refine norm_ (a' := ?_) ?_ ?_
      rotate_left
      ·show Act.put _ (some 51) _ = _
       simp only [Act.put, List.setIfInBounds_toArray, List.set_cons_zero, List.set_cons_succ, i64_w, i32_w]
       rfl
      refine one_ (i := 3) (N := some 52) #[true, true, true, true, false] rfl rfl (by kernel_rfl) (by decide) (fun K hK => ?_)
      refine goes_ Try.func17 (by kernel_rfl) rfl #[.agg #[.slice Ao28 t430.length co28], .agg #[.slice Ao179 t440.length co179]] (by rfl) rfl rfl zl ?_
      with_reducible refine (laws_eqPool.calls kj12 _ _ t430 _ _ t440 false _ ?side1 ?side2 ?side3 ?side4 A59.out).mono ?_
      (case side1 => exact zc (Kd.R_reads' HO_434000.out).2.2)
      (case side2 => exact (Kd.R_reads' HO_434000.out).2.1)
      (case side3 => exact zc (Kd.R_reads' HO442.out).2.2)
      (case side4 => exact (Kd.R_reads' HO442.out).2.1)
      rintro e w180 ⟨rfl, hb⟩
      refine ⟨_, rfl, ?_⟩
      have n0_ := Aside0.mk (Kd.R_below (zr HO_430000.out) hb)
      have n1_ := Aside0.mk (Kd.R_below (zr HO_434000.out) hb)
      have n2_ := Aside0.mk (Kd.R_below (zr HO_439000.out) hb)
      have n3_ := Aside0.mk (Kd.R_below (zr HO442.out) hb)
      have n4_ := Aside0.mk (blk_below (zh BK420.out) hb)
      have n5_ := Aside0.mk (blk_below (zh BK429.out) hb)
      have n6_ := Aside0.mk (blk_below (zh BK433.out) hb)
      have n7_ := Aside0.mk (blk_below (zh BK438.out) hb)
      have n8_ := Aside0.mk (below_step (zb HB.out) hb)
      clear HO_430000
      clear HO_434000
      clear HO_439000
      clear HO442
      clear BK420
      clear BK429
      clear BK433
      clear BK438
      clear HB
      have HO_430000 := n0_
      have HO_434000 := n1_
      have HO_439000 := n2_
      have HO442 := n3_
      have BK420 := n4_
      have BK429 := n5_
      have BK433 := n6_
      have BK438 := n7_
      have HB := n8_
      clear n0_ n1_ n2_ n3_ n4_ n5_ n6_ n7_ n8_
      (try clear hb)
      (try clear hb2)
      (try clear hk)
      (try clear hi)
      refine hK.out _ _ ⟨(blk_cell BK433.out 0).trans rfl, (blk_cell BK420.out 0).trans rfl⟩ (fun hHeld => ?_)
      clear hK K
      refine norm_ (a' := ?_) ?_ ?_
      rotate_left
      ·show Act.put _ (some 52) _ = _
       simp only [Act.put, List.setIfInBounds_toArray, List.set_cons_zero, List.set_cons_succ, i64_w, i32_w]
       rfl
      refine pure_ (i := 4) (N := some 53) (v := ?_) (a' := ?_) #[true, true, true, true, true] rfl rfl (by kernel_rfl) (fun _ _ _ h => h) (Or.inl ⟨by rfl, ?_⟩) ?_ ?_
      rotate_left
      ·intro w'
       go_simp
       with_reducible rfl
      rotate_left
      ·simp only [Act.put, List.setIfInBounds_toArray, List.set_cons_zero, List.set_cons_succ, i64_w, i32_w]
       rfl
      refine done_ (by kernel_rfl) ?_
      try go_wp2
      go_ret
      exact ⟨ze, zb HB.out⟩

end Go.Proofs.Ytpgaifjneedjoaa.B
