import Derived.Test.YtgohebghlgamiaaZM0
import Derived.Test.YtgohebghlgamiaaZMg0
import Derived.Test.YtgohebghlgamiaaZMg4
import Derived.Test.YtgohebghlgamiaaZMg7
import Derived.Test.YtgohebghlgamiaaZMg9
import Derived.Test.YtgohebghlgamiaaZMg11
section
-- Written by this session's program (wip/tools/gprint.py over the kit's print) out of the translation; Lean checks it.
namespace Go.Proofs.Ytgohebghlgamiaa.M
open Go.RowKit Go.Proofs.YtgohebghlgamiaaW.PrintWords Go.Proofs.YtgohebghlgamiaaW.PrintLast Go.Proofs.YtgohebghlgamiaaW.PrintMore
attribute [local go_sem] max2_int min2_int max_two min_two max_three min_three max_four min_four   -- for this text's walks alone
set_option linter.unusedVariables false
set_option linter.unusedSimpArgs false
set_option maxRecDepth 100000

/-! ### laws_FnExactMakesList: function 5 -/
def laws_FnExactMakesList.j0 : Nat → List Int → List Int → List Int → Bool → List (S77) → Option (Bool)
 | 0, _, _, _, _, _ => none
 | k + 1, x1, x6, x9, x61, x378000 => if x61 = true then (some false) else ((laws_markIntS.f k x9 1).bind fun bt412 => ((laws_heldIntS.f k bt412.2 1).bind fun t414 => (if t414 < 0 then (some false) else (if t414 = bt412.1 then ((laws_toPool.f k x378000).bind fun t415 => ((laws_toIntS.f k x1).bind fun t418 => ((impl_MakesList.f k t415 t418).bind fun t421 => ((laws_eqIntS.f k t421 x6).bind fun t424 => (if t424 = true then ((laws_heldIntS.f k bt412.2 1).bind fun t425 => (if t425 < 0 then (some false) else (if t425 = bt412.1 then (some true) else (some false)))) else (some false)))))) else (some false)))))
def laws_FnExactMakesList.f (k : Nat) (l0_0 : List (S77)) (l1 : List Int) : Option (Bool) := if (l1.length : Int) > 1048576 then (some true) else ((laws_szPool.f l0_0 1048576).bind fun t378 => (if t378 < 0 then (some true) else ((laws_toPool.f k l0_0).bind fun t379 => ((laws_toIntS.f k l1).bind fun t382 => ((spec_MakesList.f k t379 t382).bind fun t385 => ((laws_toPool.f k l0_0).bind fun t388 => ((laws_toIntS.f k l1).bind fun t392 => ((impl_MakesList.f k t388 t392).bind fun t395 => ((laws_eqIntS.f k t395 t385).bind fun t398 => (if t398 = true then ((laws_toPool.f k l0_0).bind fun t399 => ((laws_eqPool.f k t388 t399).bind fun t402 => (if t402 = true then ((laws_toIntS.f k l1).bind fun t403 => ((laws_eqIntS.f k t392 t403).bind fun t406 => (if t406 = true then ((laws_markPool.f k t388 1).bind fun bt407 => ((laws_markIntS.f k t392 bt407.1).bind fun bt409 => (if bt409.1 < 0 then (laws_FnExactMakesList.j0 k l1 t385 t395 true l0_0) else ((laws_eqIntS.f k t395 t385).bind fun t411 => (laws_FnExactMakesList.j0 k l1 t385 t395 (!t411) l0_0))))) else (some false)))) else (some false)))) else (some false)))))))))))
theorem laws_FnExactMakesList.mono_l : ∀ k, (∀ y0 y1 y2 y3 y4, LeO (laws_FnExactMakesList.j0 k y0 y1 y2 y3 y4) (laws_FnExactMakesList.j0 (k + 1) y0 y1 y2 y3 y4))
 | 0 => fun _ _ _ _ _ r h => by simp [laws_FnExactMakesList.j0] at h
 | k + 1 => by
  have ih0 := laws_FnExactMakesList.mono_l k
  ·intro y0 y1 y2 y3 y4
   unfold laws_FnExactMakesList.j0
   repeat' first
   | (with_reducible exact ih0 _ _ _ _ _)
   | (with_reducible exact impl_MakesList.mono _ _ _)
   | (with_reducible exact laws_eqIntS.mono _ _ _)
   | (with_reducible exact laws_eqPool.mono _ _ _)
   | (with_reducible exact laws_heldIntS.mono _ _ _)
   | (with_reducible exact laws_markIntS.mono _ _ _)
   | (with_reducible exact laws_markPool.mono _ _ _)
   | (with_reducible exact laws_toIntS.mono _ _)
   | (with_reducible exact laws_toPool.mono _ _)
   | (with_reducible exact spec_MakesList.mono _ _ _)
   | (with_reducible exact LeO.refl _)
   | (with_reducible exact LeO.none _)
   | (with_reducible refine LeO.ite ?_ ?_)
   | (with_reducible refine LeO.bind ?_ (fun _ => ?_))
   | exact ih0 _ _ _ _ _
   | exact impl_MakesList.mono _ _ _
   | exact laws_eqIntS.mono _ _ _
   | exact laws_eqPool.mono _ _ _
   | exact laws_heldIntS.mono _ _ _
   | exact laws_markIntS.mono _ _ _
   | exact laws_markPool.mono _ _ _
   | exact laws_toIntS.mono _ _
   | exact laws_toPool.mono _ _
   | exact spec_MakesList.mono _ _ _
   | exact LeO.none _
   | refine LeO.ite ?_ ?_
   | refine LeO.bind ?_ (fun _ => ?_)
theorem laws_FnExactMakesList.mono : ∀ a0 a1 k, LeO (laws_FnExactMakesList.f k a0 a1) (laws_FnExactMakesList.f (k + 1) a0 a1) := by
 intro a0 a1 k
 have ih0 := laws_FnExactMakesList.mono_l k
 unfold laws_FnExactMakesList.f
 repeat' first
   | (with_reducible exact ih0 _ _ _ _ _)
   | (with_reducible exact impl_MakesList.mono _ _ _)
   | (with_reducible exact laws_eqIntS.mono _ _ _)
   | (with_reducible exact laws_eqPool.mono _ _ _)
   | (with_reducible exact laws_heldIntS.mono _ _ _)
   | (with_reducible exact laws_markIntS.mono _ _ _)
   | (with_reducible exact laws_markPool.mono _ _ _)
   | (with_reducible exact laws_toIntS.mono _ _)
   | (with_reducible exact laws_toPool.mono _ _)
   | (with_reducible exact spec_MakesList.mono _ _ _)
   | (with_reducible exact LeO.refl _)
   | (with_reducible exact LeO.none _)
   | (with_reducible refine LeO.ite ?_ ?_)
   | (with_reducible refine LeO.bind ?_ (fun _ => ?_))
   | exact ih0 _ _ _ _ _
   | exact impl_MakesList.mono _ _ _
   | exact laws_eqIntS.mono _ _ _
   | exact laws_eqPool.mono _ _ _
   | exact laws_heldIntS.mono _ _ _
   | exact laws_markIntS.mono _ _ _
   | exact laws_markPool.mono _ _ _
   | exact laws_toIntS.mono _ _
   | exact laws_toPool.mono _ _
   | exact spec_MakesList.mono _ _ _
   | exact LeO.none _
   | refine LeO.ite ?_ ?_
   | refine LeO.bind ?_ (fun _ => ?_)
set_option maxHeartbeats 8000000 in
set_option maxRecDepth 100000 in
theorem laws_FnExactMakesList.calls (k : Nat) (A0_0 : Option Addr) (c0_0 : Nat) (l0_0 : List (S77)) (A1 : Option Addr) (c1 : Nat) (l1 : List Int) (r : Bool) (w : World) (hr0_0 : Kd.C k77 w A0_0 l0_0.length l0_0) (hc0_0 : l0_0.length ≤ c0_0) (hr1 : Kd.C (Kd.int .i64) w A1 l1.length l1) (hc1 : l1.length ≤ c1) (h : laws_FnExactMakesList.f k l0_0 l1 = some r) :
  Calls Try.prog 5 #[.agg #[.slice A0_0 l0_0.length c0_0], .slice A1 l1.length c1] w fun e w' => e = .returned (.bool r) ∧ Below w.heap.size w w' := by
 have hu24 := Try.underlying24
 have hu30 := Try.underlying30
 have HR0_0 := Aside0.mk hr0_0
 have HC0_0 := Aside0.mk hc0_0
 clear hr0_0 hc0_0
 have HR1 := Aside0.mk hr1
 have HC1 := Aside0.mk hc1
 clear hr1 hc1
 have HB := Aside0.mk (Below.refl w.heap.size w)
 have H : (if (l1.length : Int) > 1048576 then (some true) else ((laws_szPool.f l0_0 1048576).bind fun t378 => (if t378 < 0 then (some true) else ((laws_toPool.f k l0_0).bind fun t379 => ((laws_toIntS.f k l1).bind fun t382 => ((spec_MakesList.f k t379 t382).bind fun t385 => ((laws_toPool.f k l0_0).bind fun t388 => ((laws_toIntS.f k l1).bind fun t392 => ((impl_MakesList.f k t388 t392).bind fun t395 => ((laws_eqIntS.f k t395 t385).bind fun t398 => (if t398 = true then ((laws_toPool.f k l0_0).bind fun t399 => ((laws_eqPool.f k t388 t399).bind fun t402 => (if t402 = true then ((laws_toIntS.f k l1).bind fun t403 => ((laws_eqIntS.f k t392 t403).bind fun t406 => (if t406 = true then ((laws_markPool.f k t388 1).bind fun bt407 => ((laws_markIntS.f k t392 bt407.1).bind fun bt409 => (if bt409.1 < 0 then (laws_FnExactMakesList.j0 k l1 t385 t395 true l0_0) else ((laws_eqIntS.f k t395 t385).bind fun t411 => (laws_FnExactMakesList.j0 k l1 t385 t395 (!t411) l0_0))))) else (some false)))) else (some false)))) else (some false)))))))))))) = some r := h
 clear h
 by_cases c3 : (l1.length : Int) > 1048576
 ·rw [if_pos c3] at H
  have c3b0 : decide (1048576 < (l1.length : Int)) = true := decide_eq_true c3
  have c3b1 : decide (1048576 < l1.length) = true := decide_eq_true (by omega)
  clear c3
  obtain rfl := Option.some.inj H
  go_enter Try.func5, Try.ntmps5
  go_wp2_with (first | ((with_reducible refine gate_dst (N := 2) rfl ?_); refine box_event ?hg (N := 2) ?hd (cs := #[.slice A0_0 l0_0.length c0_0]) (t := 24) ?hr ?_; (case hd => rfl); (case hg => rfl); (case hr => first | (go_simp; done) | (go_simp; rfl)); intro gb377 hg w4 hbox hb; have n0_ := Aside0.mk (below_step (zb HB.out) hb); have n1_ := Aside0.mk (hbox); have n2_ := Aside0.mk ((by rw [hg]; exact (below_size (zb HB.out)) : w.heap.size ≤ gb377)); have n3_ := Aside0.mk ((by rw [hg]; exact (below_size (zb HB.out)) : w.heap.size ≤ gb377)); clear HB; have HB := n0_; have BK377 := n1_; have GW377 := n2_; have GE377 := n3_; clear n0_ n1_ n2_ n3_; clear hb hbox hg))
  go_ret
  exact ⟨ze, zb HB.out⟩
 ·rw [if_neg c3] at H
  have c3b0 : decide (1048576 < (l1.length : Int)) = false := decide_eq_false c3
  have c3b1 : decide (1048576 < l1.length) = false := decide_eq_false (by omega)
  clear c3
  replace H := Option.bind_eq_some_iff.mp H
  obtain ⟨t378, A50, H⟩ := H
  replace H : (if t378 < 0 then (some true) else ((laws_toPool.f k l0_0).bind fun t379 => ((laws_toIntS.f k l1).bind fun t382 => ((spec_MakesList.f k t379 t382).bind fun t385 => ((laws_toPool.f k l0_0).bind fun t388 => ((laws_toIntS.f k l1).bind fun t392 => ((impl_MakesList.f k t388 t392).bind fun t395 => ((laws_eqIntS.f k t395 t385).bind fun t398 => (if t398 = true then ((laws_toPool.f k l0_0).bind fun t399 => ((laws_eqPool.f k t388 t399).bind fun t402 => (if t402 = true then ((laws_toIntS.f k l1).bind fun t403 => ((laws_eqIntS.f k t392 t403).bind fun t406 => (if t406 = true then ((laws_markPool.f k t388 1).bind fun bt407 => ((laws_markIntS.f k t392 bt407.1).bind fun bt409 => (if bt409.1 < 0 then (laws_FnExactMakesList.j0 k l1 t385 t395 true l0_0) else ((laws_eqIntS.f k t395 t385).bind fun t411 => (laws_FnExactMakesList.j0 k l1 t385 t395 (!t411) l0_0))))) else (some false)))) else (some false)))) else (some false)))))))))) = some r := H
  have A5 := Aside0.mk A50
  clear A50
  by_cases c6 : t378 < 0
  ·rw [if_pos c6] at H
   have c6b0 : decide (t378 < 0) = true := decide_eq_true c6
   clear c6
   obtain rfl := Option.some.inj H
   go_enter Try.func5, Try.ntmps5
   go_wp2_with (first | ((with_reducible refine gate_dst (N := 2) rfl ?_); refine box_event ?hg (N := 2) ?hd (cs := #[.slice A0_0 l0_0.length c0_0]) (t := 24) ?hr ?_; (case hd => rfl); (case hg => rfl); (case hr => first | (go_simp; done) | (go_simp; rfl)); intro gb377 hg w7 hbox hb; have n0_ := Aside0.mk (below_step (zb HB.out) hb); have n1_ := Aside0.mk (hbox); have n2_ := Aside0.mk ((by rw [hg]; exact (below_size (zb HB.out)) : w.heap.size ≤ gb377)); have n3_ := Aside0.mk ((by rw [hg]; exact (below_size (zb HB.out)) : w.heap.size ≤ gb377)); clear HB; have HB := n0_; have BK377 := n1_; have GW377 := n2_; have GE377 := n3_; clear n0_ n1_ n2_ n3_; clear hb hbox hg; have hcz8_0 : w7.cell? ⟨gb377, 0, none⟩ = some (.slice A0_0 l0_0.length c0_0) := (blk_cell BK377.out 0).trans rfl; have hfz8_0 := blk_frozen BK377.out 0) | ((with_reducible refine gate_callee (f := 11) rfl ?_); refine goesL_ (some 19) rfl rfl Try.func11 (by kernel_rfl) rfl #[.agg #[.slice A0_0 l0_0.length c0_0], .int .i64 1048576] rfl zl ?_; (with_reducible refine (laws_szPool.calls _ _ l0_0 1048576 t378 _ ?side1 ?side2 A5.out).mono ?_); (case side1 => exact zc (Kd.C_below HR0_0.out HB.out)); (case side2 => exact HC0_0.out); rintro e w9 ⟨rfl, hb⟩; refine ⟨_, rfl, ?_⟩; have n0_ := Aside0.mk (blk_below (zh BK377.out) hb); have n1_ := Aside0.mk (below_step (zb HB.out) hb); clear BK377; clear HB; have BK377 := n0_; have HB := n1_; clear n0_ n1_; (try clear hb); (try clear hb2); (try clear hk); (try clear hi)))
   go_ret
   exact ⟨ze, zb HB.out⟩
  ·rw [if_neg c6] at H
   have c6b0 : decide (t378 < 0) = false := decide_eq_false c6
   clear c6
   replace H := Option.bind_eq_some_iff.mp H
   obtain ⟨t379, A100, H⟩ := H
   replace H : ((laws_toIntS.f k l1).bind fun t382 => ((spec_MakesList.f k t379 t382).bind fun t385 => ((laws_toPool.f k l0_0).bind fun t388 => ((laws_toIntS.f k l1).bind fun t392 => ((impl_MakesList.f k t388 t392).bind fun t395 => ((laws_eqIntS.f k t395 t385).bind fun t398 => (if t398 = true then ((laws_toPool.f k l0_0).bind fun t399 => ((laws_eqPool.f k t388 t399).bind fun t402 => (if t402 = true then ((laws_toIntS.f k l1).bind fun t403 => ((laws_eqIntS.f k t392 t403).bind fun t406 => (if t406 = true then ((laws_markPool.f k t388 1).bind fun bt407 => ((laws_markIntS.f k t392 bt407.1).bind fun bt409 => (if bt409.1 < 0 then (laws_FnExactMakesList.j0 k l1 t385 t395 true l0_0) else ((laws_eqIntS.f k t395 t385).bind fun t411 => (laws_FnExactMakesList.j0 k l1 t385 t395 (!t411) l0_0))))) else (some false)))) else (some false)))) else (some false)))))))) = some r := H
   have A10 := Aside0.mk A100
   clear A100
   replace H := Option.bind_eq_some_iff.mp H
   obtain ⟨t382, A110, H⟩ := H
   replace H : ((spec_MakesList.f k t379 t382).bind fun t385 => ((laws_toPool.f k l0_0).bind fun t388 => ((laws_toIntS.f k l1).bind fun t392 => ((impl_MakesList.f k t388 t392).bind fun t395 => ((laws_eqIntS.f k t395 t385).bind fun t398 => (if t398 = true then ((laws_toPool.f k l0_0).bind fun t399 => ((laws_eqPool.f k t388 t399).bind fun t402 => (if t402 = true then ((laws_toIntS.f k l1).bind fun t403 => ((laws_eqIntS.f k t392 t403).bind fun t406 => (if t406 = true then ((laws_markPool.f k t388 1).bind fun bt407 => ((laws_markIntS.f k t392 bt407.1).bind fun bt409 => (if bt409.1 < 0 then (laws_FnExactMakesList.j0 k l1 t385 t395 true l0_0) else ((laws_eqIntS.f k t395 t385).bind fun t411 => (laws_FnExactMakesList.j0 k l1 t385 t395 (!t411) l0_0))))) else (some false)))) else (some false)))) else (some false))))))) = some r := H
   have A11 := Aside0.mk A110
   clear A110
   replace H := Option.bind_eq_some_iff.mp H
   obtain ⟨t385, A120, H⟩ := H
   replace H : ((laws_toPool.f k l0_0).bind fun t388 => ((laws_toIntS.f k l1).bind fun t392 => ((impl_MakesList.f k t388 t392).bind fun t395 => ((laws_eqIntS.f k t395 t385).bind fun t398 => (if t398 = true then ((laws_toPool.f k l0_0).bind fun t399 => ((laws_eqPool.f k t388 t399).bind fun t402 => (if t402 = true then ((laws_toIntS.f k l1).bind fun t403 => ((laws_eqIntS.f k t392 t403).bind fun t406 => (if t406 = true then ((laws_markPool.f k t388 1).bind fun bt407 => ((laws_markIntS.f k t392 bt407.1).bind fun bt409 => (if bt409.1 < 0 then (laws_FnExactMakesList.j0 k l1 t385 t395 true l0_0) else ((laws_eqIntS.f k t395 t385).bind fun t411 => (laws_FnExactMakesList.j0 k l1 t385 t395 (!t411) l0_0))))) else (some false)))) else (some false)))) else (some false)))))) = some r := H
   have A12 := Aside0.mk A120
   clear A120
   replace H := Option.bind_eq_some_iff.mp H
   obtain ⟨t388, A130, H⟩ := H
   replace H : ((laws_toIntS.f k l1).bind fun t392 => ((impl_MakesList.f k t388 t392).bind fun t395 => ((laws_eqIntS.f k t395 t385).bind fun t398 => (if t398 = true then ((laws_toPool.f k l0_0).bind fun t399 => ((laws_eqPool.f k t388 t399).bind fun t402 => (if t402 = true then ((laws_toIntS.f k l1).bind fun t403 => ((laws_eqIntS.f k t392 t403).bind fun t406 => (if t406 = true then ((laws_markPool.f k t388 1).bind fun bt407 => ((laws_markIntS.f k t392 bt407.1).bind fun bt409 => (if bt409.1 < 0 then (laws_FnExactMakesList.j0 k l1 t385 t395 true l0_0) else ((laws_eqIntS.f k t395 t385).bind fun t411 => (laws_FnExactMakesList.j0 k l1 t385 t395 (!t411) l0_0))))) else (some false)))) else (some false)))) else (some false))))) = some r := H
   have A13 := Aside0.mk A130
   clear A130
   replace H := Option.bind_eq_some_iff.mp H
   obtain ⟨t392, A140, H⟩ := H
   replace H : ((impl_MakesList.f k t388 t392).bind fun t395 => ((laws_eqIntS.f k t395 t385).bind fun t398 => (if t398 = true then ((laws_toPool.f k l0_0).bind fun t399 => ((laws_eqPool.f k t388 t399).bind fun t402 => (if t402 = true then ((laws_toIntS.f k l1).bind fun t403 => ((laws_eqIntS.f k t392 t403).bind fun t406 => (if t406 = true then ((laws_markPool.f k t388 1).bind fun bt407 => ((laws_markIntS.f k t392 bt407.1).bind fun bt409 => (if bt409.1 < 0 then (laws_FnExactMakesList.j0 k l1 t385 t395 true l0_0) else ((laws_eqIntS.f k t395 t385).bind fun t411 => (laws_FnExactMakesList.j0 k l1 t385 t395 (!t411) l0_0))))) else (some false)))) else (some false)))) else (some false)))) = some r := H
   have A14 := Aside0.mk A140
   clear A140
   replace H := Option.bind_eq_some_iff.mp H
   obtain ⟨t395, A150, H⟩ := H
   replace H : ((laws_eqIntS.f k t395 t385).bind fun t398 => (if t398 = true then ((laws_toPool.f k l0_0).bind fun t399 => ((laws_eqPool.f k t388 t399).bind fun t402 => (if t402 = true then ((laws_toIntS.f k l1).bind fun t403 => ((laws_eqIntS.f k t392 t403).bind fun t406 => (if t406 = true then ((laws_markPool.f k t388 1).bind fun bt407 => ((laws_markIntS.f k t392 bt407.1).bind fun bt409 => (if bt409.1 < 0 then (laws_FnExactMakesList.j0 k l1 t385 t395 true l0_0) else ((laws_eqIntS.f k t395 t385).bind fun t411 => (laws_FnExactMakesList.j0 k l1 t385 t395 (!t411) l0_0))))) else (some false)))) else (some false)))) else (some false))) = some r := H
   have A15 := Aside0.mk A150
   clear A150
   replace H := Option.bind_eq_some_iff.mp H
   obtain ⟨t398, A160, H⟩ := H
   replace H : (if t398 = true then ((laws_toPool.f k l0_0).bind fun t399 => ((laws_eqPool.f k t388 t399).bind fun t402 => (if t402 = true then ((laws_toIntS.f k l1).bind fun t403 => ((laws_eqIntS.f k t392 t403).bind fun t406 => (if t406 = true then ((laws_markPool.f k t388 1).bind fun bt407 => ((laws_markIntS.f k t392 bt407.1).bind fun bt409 => (if bt409.1 < 0 then (laws_FnExactMakesList.j0 k l1 t385 t395 true l0_0) else ((laws_eqIntS.f k t395 t385).bind fun t411 => (laws_FnExactMakesList.j0 k l1 t385 t395 (!t411) l0_0))))) else (some false)))) else (some false)))) else (some false)) = some r := H
   have A16 := Aside0.mk A160
   clear A160
   by_cases c17 : t398 = true
   ·subst c17
    have H1 : ((laws_toPool.f k l0_0).bind fun t399 => ((laws_eqPool.f k t388 t399).bind fun t402 => (if t402 = true then ((laws_toIntS.f k l1).bind fun t403 => ((laws_eqIntS.f k t392 t403).bind fun t406 => (if t406 = true then ((laws_markPool.f k t388 1).bind fun bt407 => ((laws_markIntS.f k t392 bt407.1).bind fun bt409 => (if bt409.1 < 0 then (laws_FnExactMakesList.j0 k l1 t385 t395 true l0_0) else ((laws_eqIntS.f k t395 t385).bind fun t411 => (laws_FnExactMakesList.j0 k l1 t385 t395 (!t411) l0_0))))) else (some false)))) else (some false)))) = some r := by rw [if_pos rfl] at H; exact H
    clear H
    have H := H1
    clear H1
    replace H := Option.bind_eq_some_iff.mp H
    obtain ⟨t399, A180, H⟩ := H
    replace H : ((laws_eqPool.f k t388 t399).bind fun t402 => (if t402 = true then ((laws_toIntS.f k l1).bind fun t403 => ((laws_eqIntS.f k t392 t403).bind fun t406 => (if t406 = true then ((laws_markPool.f k t388 1).bind fun bt407 => ((laws_markIntS.f k t392 bt407.1).bind fun bt409 => (if bt409.1 < 0 then (laws_FnExactMakesList.j0 k l1 t385 t395 true l0_0) else ((laws_eqIntS.f k t395 t385).bind fun t411 => (laws_FnExactMakesList.j0 k l1 t385 t395 (!t411) l0_0))))) else (some false)))) else (some false))) = some r := H
    have A18 := Aside0.mk A180
    clear A180
    replace H := Option.bind_eq_some_iff.mp H
    obtain ⟨t402, A190, H⟩ := H
    replace H : (if t402 = true then ((laws_toIntS.f k l1).bind fun t403 => ((laws_eqIntS.f k t392 t403).bind fun t406 => (if t406 = true then ((laws_markPool.f k t388 1).bind fun bt407 => ((laws_markIntS.f k t392 bt407.1).bind fun bt409 => (if bt409.1 < 0 then (laws_FnExactMakesList.j0 k l1 t385 t395 true l0_0) else ((laws_eqIntS.f k t395 t385).bind fun t411 => (laws_FnExactMakesList.j0 k l1 t385 t395 (!t411) l0_0))))) else (some false)))) else (some false)) = some r := H
    have A19 := Aside0.mk A190
    clear A190
    by_cases c20 : t402 = true
    ·subst c20
     have H1 : ((laws_toIntS.f k l1).bind fun t403 => ((laws_eqIntS.f k t392 t403).bind fun t406 => (if t406 = true then ((laws_markPool.f k t388 1).bind fun bt407 => ((laws_markIntS.f k t392 bt407.1).bind fun bt409 => (if bt409.1 < 0 then (laws_FnExactMakesList.j0 k l1 t385 t395 true l0_0) else ((laws_eqIntS.f k t395 t385).bind fun t411 => (laws_FnExactMakesList.j0 k l1 t385 t395 (!t411) l0_0))))) else (some false)))) = some r := by rw [if_pos rfl] at H; exact H
     clear H
     have H := H1
     clear H1
     replace H := Option.bind_eq_some_iff.mp H
     obtain ⟨t403, A210, H⟩ := H
     replace H : ((laws_eqIntS.f k t392 t403).bind fun t406 => (if t406 = true then ((laws_markPool.f k t388 1).bind fun bt407 => ((laws_markIntS.f k t392 bt407.1).bind fun bt409 => (if bt409.1 < 0 then (laws_FnExactMakesList.j0 k l1 t385 t395 true l0_0) else ((laws_eqIntS.f k t395 t385).bind fun t411 => (laws_FnExactMakesList.j0 k l1 t385 t395 (!t411) l0_0))))) else (some false))) = some r := H
     have A21 := Aside0.mk A210
     clear A210
     replace H := Option.bind_eq_some_iff.mp H
     obtain ⟨t406, A220, H⟩ := H
     replace H : (if t406 = true then ((laws_markPool.f k t388 1).bind fun bt407 => ((laws_markIntS.f k t392 bt407.1).bind fun bt409 => (if bt409.1 < 0 then (laws_FnExactMakesList.j0 k l1 t385 t395 true l0_0) else ((laws_eqIntS.f k t395 t385).bind fun t411 => (laws_FnExactMakesList.j0 k l1 t385 t395 (!t411) l0_0))))) else (some false)) = some r := H
     have A22 := Aside0.mk A220
     clear A220
     by_cases c23 : t406 = true
     ·subst c23
      have H1 : ((laws_markPool.f k t388 1).bind fun bt407 => ((laws_markIntS.f k t392 bt407.1).bind fun bt409 => (if bt409.1 < 0 then (laws_FnExactMakesList.j0 k l1 t385 t395 true l0_0) else ((laws_eqIntS.f k t395 t385).bind fun t411 => (laws_FnExactMakesList.j0 k l1 t385 t395 (!t411) l0_0))))) = some r := by rw [if_pos rfl] at H; exact H
      clear H
      have H := H1
      clear H1
      replace H := Option.bind_eq_some_iff.mp H
      obtain ⟨⟨t407, t408⟩, A240, H⟩ := H
      replace H : ((laws_markIntS.f k t392 t407).bind fun bt409 => (if bt409.1 < 0 then (laws_FnExactMakesList.j0 k l1 t385 t395 true l0_0) else ((laws_eqIntS.f k t395 t385).bind fun t411 => (laws_FnExactMakesList.j0 k l1 t385 t395 (!t411) l0_0)))) = some r := H
      have A24 := Aside0.mk A240
      clear A240
      replace H := Option.bind_eq_some_iff.mp H
      obtain ⟨⟨t409, t410⟩, A250, H⟩ := H
      replace H : (if t409 < 0 then (laws_FnExactMakesList.j0 k l1 t385 t395 true l0_0) else ((laws_eqIntS.f k t395 t385).bind fun t411 => (laws_FnExactMakesList.j0 k l1 t385 t395 (!t411) l0_0))) = some r := H
      have A25 := Aside0.mk A250
      clear A250
      have HC26 := Aside0.mk H
      clear H
      go_enter Try.func5, Try.ntmps5
      try go_wp2_with (first | ((with_reducible refine gate_dst (N := 2) rfl ?_); refine box_event ?hg (N := 2) ?hd (cs := #[.slice A0_0 l0_0.length c0_0]) (t := 24) ?hr ?_; (case hd => rfl); (case hg => rfl); (case hr => first | (go_simp; done) | (go_simp; rfl)); intro gb377 hg w27 hbox hb; have n0_ := Aside0.mk (below_step (zb HB.out) hb); have n1_ := Aside0.mk (hbox); have n2_ := Aside0.mk ((by rw [hg]; exact (below_size (zb HB.out)) : w.heap.size ≤ gb377)); have n3_ := Aside0.mk ((by rw [hg]; exact (below_size (zb HB.out)) : w.heap.size ≤ gb377)); clear HB; have HB := n0_; have BK377 := n1_; have GW377 := n2_; have GE377 := n3_; clear n0_ n1_ n2_ n3_; clear hb hbox hg; have hcz28_0 : w27.cell? ⟨gb377, 0, none⟩ = some (.slice A0_0 l0_0.length c0_0) := (blk_cell BK377.out 0).trans rfl; have hfz28_0 := blk_frozen BK377.out 0) | ((with_reducible refine gate_callee (f := 11) rfl ?_); refine goesL_ (some 19) rfl rfl Try.func11 (by kernel_rfl) rfl #[.agg #[.slice A0_0 l0_0.length c0_0], .int .i64 1048576] rfl zl ?_; (with_reducible refine (laws_szPool.calls _ _ l0_0 1048576 t378 _ ?side1 ?side2 A5.out).mono ?_); (case side1 => exact zc (Kd.C_below HR0_0.out HB.out)); (case side2 => exact HC0_0.out); rintro e w29 ⟨rfl, hb⟩; refine ⟨_, rfl, ?_⟩; have n0_ := Aside0.mk (blk_below (zh BK377.out) hb); have n1_ := Aside0.mk (below_step (zb HB.out) hb); clear BK377; clear HB; have BK377 := n0_; have HB := n1_; clear n0_ n1_; (try clear hb); (try clear hb2); (try clear hk); (try clear hi); have hcz30_0 : w29.cell? ⟨gb377, 0, none⟩ = some (.slice A0_0 l0_0.length c0_0) := (blk_cell BK377.out 0).trans rfl; have hfz30_0 := blk_frozen BK377.out 0) | ((with_reducible refine gate_callee (f := 13) rfl ?_); refine goesL_ (some 23) rfl rfl Try.func13 (by kernel_rfl) rfl #[.agg #[.slice A0_0 l0_0.length c0_0]] rfl zl ?_; (with_reducible refine (laws_toPool.calls k _ _ l0_0 t379 _ ?side1 ?side2 A10.out).mono ?_); (case side1 => exact zc (Kd.C_below HR0_0.out HB.out)); (case side2 => exact HC0_0.out); rintro e w31 ⟨v380, rfl, ho0, hb⟩; refine ⟨_, rfl, ?_⟩; have n0_ := Aside0.mk (Kd.R_lower ho0 (below_size (zb HB.out))); have n1_ := Aside0.mk (blk_below (zh BK377.out) hb); have n2_ := Aside0.mk (below_step (zb HB.out) hb); clear BK377; clear HB; have HO381 := n0_; have BK377 := n1_; have HB := n2_; clear n0_ n1_ n2_; (try clear hb); (try clear hb2); (try clear hk); (try clear hi); (try clear ho0)) | ((with_reducible refine gate_callee (f := 14) rfl ?_); refine goesL_ (some 25) rfl rfl Try.func14 (by kernel_rfl) rfl #[.slice A1 l1.length c1] rfl zl ?_; (with_reducible refine (laws_toIntS.calls k _ _ l1 t382 _ ?side1 ?side2 A11.out).mono ?_); (case side1 => exact zc (Kd.C_below HR1.out HB.out)); (case side2 => exact HC1.out); rintro e w32 ⟨v383, rfl, ho0, hb⟩; refine ⟨_, rfl, ?_⟩; have n0_ := Aside0.mk (Kd.R_below (zr HO381.out) hb); have n1_ := Aside0.mk (Kd.R_lower ho0 (below_size (zb HB.out))); have n2_ := Aside0.mk (blk_below (zh BK377.out) hb); have n3_ := Aside0.mk (below_step (zb HB.out) hb); clear HO381; clear BK377; clear HB; have HO381 := n0_; have HO384 := n1_; have BK377 := n2_; have HB := n3_; clear n0_ n1_ n2_ n3_; (try clear hb); (try clear hb2); (try clear hk); (try clear hi); (try clear ho0); obtain ⟨Ao33, co33, eo33⟩ := Kd.R_slice HO381.out; subst eo33; obtain ⟨Ao34, co34, eo34⟩ := Kd.R_slice HO384.out; subst eo34) | ((with_reducible refine gate_callee (f := 25) rfl ?_); refine goesL_ (some 26) rfl rfl Try.func25 (by kernel_rfl) rfl #[.agg #[.slice Ao33 t379.length co33], .slice Ao34 t382.length co34] rfl zl ?_; (with_reducible refine (spec_MakesList.calls k _ _ t379 _ _ t382 t385 _ ?side1 ?side2 ?side3 ?side4 A12.out).mono ?_); (case side1 => exact zc (Kd.R_reads' HO381.out).2.2); (case side2 => exact (Kd.R_reads' HO381.out).2.1); (case side3 => exact zc (Kd.R_reads' HO384.out).2.2); (case side4 => exact (Kd.R_reads' HO384.out).2.1); rintro e w35 ⟨v386, rfl, ho0, hb⟩; refine ⟨_, rfl, ?_⟩; have n0_ := Aside0.mk (Kd.R_below (zr HO381.out) hb); have n1_ := Aside0.mk (Kd.R_elder' (zr HO384.out) (Kd.R_base ho0) hb); have n2_ := Aside0.mk (Kd.R_lower (Kd.R_new' ho0 (Kd.R_lt (zr HO384.out))) (below_size (zb HB.out))); have n3_ := Aside0.mk (blk_below (zh BK377.out) hb); have n4_ := Aside0.mk (below_step (zb HB.out) hb); clear HO381; clear HO384; clear BK377; clear HB; have HO381 := n0_; have HO384 := n1_; have HO387 := n2_; have BK377 := n3_; have HB := n4_; clear n0_ n1_ n2_ n3_ n4_; (try clear hb); (try clear hb2); (try clear hk); (try clear hi); (try clear ho0); have hcz36_0 : w35.cell? ⟨gb377, 0, none⟩ = some (.slice A0_0 l0_0.length c0_0) := (blk_cell BK377.out 0).trans rfl; have hfz36_0 := blk_frozen BK377.out 0) | ((with_reducible refine gate_callee (f := 13) rfl ?_); refine goesL_ (some 28) rfl rfl Try.func13 (by kernel_rfl) rfl #[.agg #[.slice A0_0 l0_0.length c0_0]] rfl zl ?_; (with_reducible refine (laws_toPool.calls k _ _ l0_0 t388 _ ?side1 ?side2 A13.out).mono ?_); (case side1 => exact zc (Kd.C_below HR0_0.out HB.out)); (case side2 => exact HC0_0.out); rintro e w37 ⟨v389, rfl, ho0, hb⟩; refine ⟨_, rfl, ?_⟩; have n0_ := Aside0.mk (Kd.R_elder' (zr HO381.out) (Kd.R_base ho0) hb); have n1_ := Aside0.mk (Kd.R_below (zr HO384.out) hb); have n2_ := Aside0.mk (Kd.R_below (zr HO387.out) hb); have n3_ := Aside0.mk (Kd.R_lower (Kd.R_new' ho0 (Kd.R_lt (zr HO381.out))) (below_size (zb HB.out))); have n4_ := Aside0.mk (blk_below (zh BK377.out) hb); have n5_ := Aside0.mk (below_step (zb HB.out) hb); clear HO381; clear HO384; clear HO387; clear BK377; clear HB; have HO381 := n0_; have HO384 := n1_; have HO387 := n2_; have HO390 := n3_; have BK377 := n4_; have HB := n5_; clear n0_ n1_ n2_ n3_ n4_ n5_; (try clear hb); (try clear hb2); (try clear hk); (try clear hi); (try clear ho0)) | ((with_reducible refine gate_dst (N := 7) rfl ?_); refine box_event ?hg (N := 7) ?hd (cs := #[.slice none 0 0]) (t := 30) ?hr ?_; (case hd => rfl); (case hg => rfl); (case hr => first | (go_simp; done) | (go_simp; rfl)); intro gb391 hg w38 hbox hb; have n0_ := Aside0.mk (Kd.R_below (zr HO381.out) hb); have n1_ := Aside0.mk (Kd.R_below (zr HO384.out) hb); have n2_ := Aside0.mk (Kd.R_below (zr HO387.out) hb); have n3_ := Aside0.mk (Kd.R_below (zr HO390.out) hb); have n4_ := Aside0.mk (blk_below (zh BK377.out) hb); have n5_ := Aside0.mk (below_step (zb HB.out) hb); have n6_ := Aside0.mk (hbox); have n7_ := Aside0.mk ((by rw [hg]; exact (below_size (zb HB.out)) : w.heap.size ≤ gb391)); have n8_ := Aside0.mk ((by rw [hg]; exact (below_size (zb HB.out)) : w.heap.size ≤ gb391)); have n9_ := Aside0.mk ((by rw [hg]; exact Nat.ne_of_lt (blk_lt (zh BK377.out)) : gb377 ≠ gb391)); have n10_ := Aside0.mk ((by rw [hg]; exact Nat.ne_of_gt (blk_lt (zh BK377.out)) : gb391 ≠ gb377)); clear HO381; clear HO384; clear HO387; clear HO390; clear BK377; clear HB; have HO381 := n0_; have HO384 := n1_; have HO387 := n2_; have HO390 := n3_; have BK377 := n4_; have HB := n5_; have BK391 := n6_; have GW391 := n7_; have GE391 := n8_; have NB377_391 := n9_; have NB391_377 := n10_; clear n0_ n1_ n2_ n3_ n4_ n5_ n6_ n7_ n8_ n9_ n10_; clear hb hbox hg; obtain ⟨Ao39, co39, eo39⟩ := Kd.R_slice HO390.out; subst eo39; have hnb40 := NB391_377.out; have hnc40 := NB377_391.out; have hcz41_0 : w38.cell? ⟨gb391, 0, none⟩ = some (.slice none 0 0) := (blk_cell BK391.out 0).trans rfl; have hfz41_0 := blk_frozen BK391.out 0) | ((with_reducible refine gate_callee (f := 14) rfl ?_); refine goesL_ (some 30) rfl rfl Try.func14 (by kernel_rfl) rfl #[.slice A1 l1.length c1] rfl zl ?_; (with_reducible refine (laws_toIntS.calls k _ _ l1 t392 _ ?side1 ?side2 A14.out).mono ?_); (case side1 => exact Kd.C_below HR1.out (zb HB.out)); (case side2 => exact HC1.out); rintro e w42 ⟨v393, rfl, ho0, hb⟩; refine ⟨_, rfl, ?_⟩; have n0_ := Aside0.mk (Kd.R_below (by (with_reducible repeat (first | apply Kd.R_alloc | apply Kd.R_drewN | apply Kd.R_drew)); exact (Kd.R_mono (Kd.R_far (p := ⟨gb391, 0, none⟩) (Kd.R_types HO381.out BK391.out (by decide)) (fun _ hk => hk.2) (.slice Ao39 t388.length co39)) (fun _ h_ => h_.1))) hb); have n1_ := Aside0.mk (Kd.R_elder' (by (with_reducible repeat (first | apply Kd.R_alloc | apply Kd.R_drewN | apply Kd.R_drew)); exact (Kd.R_mono (Kd.R_far (p := ⟨gb391, 0, none⟩) (Kd.R_types HO384.out BK391.out (by decide)) (fun _ hk => hk.2) (.slice Ao39 t388.length co39)) (fun _ h_ => h_.1))) (Kd.R_base ho0) hb); have n2_ := Aside0.mk (Kd.R_elder' (by (with_reducible repeat (first | apply Kd.R_alloc | apply Kd.R_drewN | apply Kd.R_drew)); exact (Kd.R_mono (Kd.R_far (p := ⟨gb391, 0, none⟩) (Kd.R_types HO387.out BK391.out (by decide)) (fun _ hk => hk.2) (.slice Ao39 t388.length co39)) (fun _ h_ => h_.1))) (Kd.R_base ho0) hb); have n3_ := Aside0.mk (Kd.R_below (by (with_reducible repeat (first | apply Kd.R_alloc | apply Kd.R_drewN | apply Kd.R_drew)); exact (Kd.R_mono (Kd.R_far (p := ⟨gb391, 0, none⟩) (Kd.R_types HO390.out BK391.out (by decide)) (fun _ hk => hk.2) (.slice Ao39 t388.length co39)) (fun _ h_ => h_.1))) hb); have n4_ := Aside0.mk (Kd.R_lower (Kd.R_new' (Kd.R_new' ho0 (Kd.R_lt (by (with_reducible repeat (first | apply Kd.R_alloc | apply Kd.R_drewN | apply Kd.R_drew)); exact (Kd.R_mono (Kd.R_far (p := ⟨gb391, 0, none⟩) (Kd.R_types HO384.out BK391.out (by decide)) (fun _ hk => hk.2) (.slice Ao39 t388.length co39)) (fun _ h_ => h_.1))))) (Kd.R_lt (by (with_reducible repeat (first | apply Kd.R_alloc | apply Kd.R_drewN | apply Kd.R_drew)); exact (Kd.R_mono (Kd.R_far (p := ⟨gb391, 0, none⟩) (Kd.R_types HO387.out BK391.out (by decide)) (fun _ hk => hk.2) (.slice Ao39 t388.length co39)) (fun _ h_ => h_.1))))) (below_size (zb HB.out))); have n5_ := Aside0.mk (blk_below (g := gb377) (o := .cells #[.slice A0_0 l0_0.length c0_0] 24 (0, 0)) (zf BK377.out) hb); have n6_ := Aside0.mk (blk_below (g := gb391) (o := .cells #[.slice Ao39 t388.length co39] 30 (0, 0)) (by (with_reducible repeat (first | refine blk_drewN ?_ _ | refine blk_drew ?_ | refine blk_alloc ?_ _)); refine blk_put (cs := #[.slice none 0 0]) ?_ 0 _ rfl; (with_reducible repeat (first | refine blk_drewN ?_ _ | refine blk_drew ?_ | refine blk_alloc ?_ _)); exact BK391.out) hb); have n7_ := Aside0.mk (below_step (zb HB.out) hb); clear HO381; clear HO384; clear HO387; clear HO390; clear BK377; clear BK391; clear HB; have HO381 := n0_; have HO384 := n1_; have HO387 := n2_; have HO390 := n3_; have HO394 := n4_; have BK377 := n5_; have BK391 := n6_; have HB := n7_; clear n0_ n1_ n2_ n3_ n4_ n5_ n6_ n7_; (try clear hb); (try clear hb2); (try clear hk); (try clear hi); (try clear ho0); have hcz43_0 : w42.cell? ⟨gb391, 0, none⟩ = some (.slice Ao39 t388.length co39) := (blk_cell BK391.out 0).trans rfl; have hfz43_0 := blk_frozen BK391.out 0; obtain ⟨Ao44, co44, eo44⟩ := Kd.R_slice HO394.out; subst eo44) | ((with_reducible refine gate_callee (f := 26) rfl ?_); refine goesL_ (some 33) rfl rfl Try.func26 (by kernel_rfl) rfl #[.agg #[.slice Ao39 t388.length co39], .slice Ao44 t392.length co44] rfl zl ?_; (with_reducible refine (impl_MakesList.calls k _ _ t388 _ _ t392 t395 _ ?side1 ?side2 ?side3 ?side4 A15.out).mono ?_); (case side1 => exact zc (Kd.R_reads' HO390.out).2.2); (case side2 => exact (Kd.R_reads' HO390.out).2.1); (case side3 => exact zc (Kd.R_reads' HO394.out).2.2); (case side4 => exact (Kd.R_reads' HO394.out).2.1); rintro e w45 ⟨v396, rfl, ho0, hb⟩; refine ⟨_, rfl, ?_⟩; have n0_ := Aside0.mk (Kd.R_below (zr HO381.out) hb); have n1_ := Aside0.mk (Kd.R_elder' (zr HO384.out) (Kd.R_base ho0) hb); have n2_ := Aside0.mk (Kd.R_elder' (zr HO387.out) (Kd.R_base ho0) hb); have n3_ := Aside0.mk (Kd.R_below (zr HO390.out) hb); have n4_ := Aside0.mk (Kd.R_elder' (zr HO394.out) (Kd.R_base ho0) hb); have n5_ := Aside0.mk (Kd.R_lower (Kd.R_new' (Kd.R_new' (Kd.R_new' ho0 (Kd.R_lt (zr HO384.out))) (Kd.R_lt (zr HO387.out))) (Kd.R_lt (zr HO394.out))) (below_size (zb HB.out))); have n6_ := Aside0.mk (blk_below (zh BK377.out) hb); have n7_ := Aside0.mk (blk_below (zh BK391.out) hb); have n8_ := Aside0.mk (below_step (zb HB.out) hb); clear HO381; clear HO384; clear HO387; clear HO390; clear HO394; clear BK377; clear BK391; clear HB; have HO381 := n0_; have HO384 := n1_; have HO387 := n2_; have HO390 := n3_; have HO394 := n4_; have HO397 := n5_; have BK377 := n6_; have BK391 := n7_; have HB := n8_; clear n0_ n1_ n2_ n3_ n4_ n5_ n6_ n7_ n8_; (try clear hb); (try clear hb2); (try clear hk); (try clear hi); (try clear ho0); obtain ⟨Ao46, co46, eo46⟩ := Kd.R_slice HO397.out; subst eo46; obtain ⟨Ao47, co47, eo47⟩ := Kd.R_slice HO387.out; subst eo47) | ((with_reducible refine gate_callee (f := 17) rfl ?_); refine goesL_ (some 36) rfl rfl Try.func17 (by kernel_rfl) rfl #[.slice Ao46 t395.length co46, .slice Ao47 t385.length co47] rfl zl ?_; (with_reducible refine (laws_eqIntS.calls k _ _ t395 _ _ t385 true _ ?side1 ?side2 ?side3 ?side4 A16.out).mono ?_); (case side1 => exact zc (Kd.R_reads' HO397.out).2.2); (case side2 => exact (Kd.R_reads' HO397.out).2.1); (case side3 => exact zc (Kd.R_reads' HO387.out).2.2); (case side4 => exact (Kd.R_reads' HO387.out).2.1); rintro e w' ⟨rfl, ⟨nd, rfl⟩⟩; refine ⟨_, rfl, ?_⟩))
      (try (rw [drewN_self w45]; generalize hq_ : World.drewN w45 _ = w45; have n0_ : Aside0 (Kd.R k51 51 w45 w.heap.size (fun k_ => some k_ ≠ (.slice Ao39 t388.length co39 : Value).ownBlock) (.slice Ao33 t379.length co33) t379) := ⟨by rw [← hq_]; exact (by (with_reducible repeat (first | apply Kd.R_alloc | apply Kd.R_drewN | apply Kd.R_drew)); exact Kd.R_mono HO381.out (fun _ hk => hk.2))⟩; have n1_ : Aside0 (Kd.R (Kd.int .i64) 3 w45 w.heap.size (fun k_ => some k_ ≠ (.slice Ao47 t385.length co47 : Value).ownBlock ∧ some k_ ≠ (.slice Ao44 t392.length co44 : Value).ownBlock ∧ some k_ ≠ (.slice Ao46 t395.length co46 : Value).ownBlock) (.slice Ao34 t382.length co34) t382) := ⟨by rw [← hq_]; exact (by (with_reducible repeat (first | apply Kd.R_alloc | apply Kd.R_drewN | apply Kd.R_drew)); exact Kd.R_mono HO384.out (fun _ hk => ⟨hk.1.1.2, ⟨hk.1.2, hk.2⟩⟩))⟩; have n2_ : Aside0 (Kd.R (Kd.int .i64) 3 w45 w.heap.size (fun k_ => some k_ ≠ (.slice Ao34 t382.length co34 : Value).ownBlock ∧ some k_ ≠ (.slice Ao44 t392.length co44 : Value).ownBlock ∧ some k_ ≠ (.slice Ao46 t395.length co46 : Value).ownBlock) (.slice Ao47 t385.length co47) t385) := ⟨by rw [← hq_]; exact (by (with_reducible repeat (first | apply Kd.R_alloc | apply Kd.R_drewN | apply Kd.R_drew)); exact Kd.R_mono HO387.out (fun _ hk => ⟨hk.1.1.2, ⟨hk.1.2, hk.2⟩⟩))⟩; have n3_ : Aside0 (Kd.R k51 51 w45 w.heap.size (fun k_ => some k_ ≠ (.slice Ao33 t379.length co33 : Value).ownBlock) (.slice Ao39 t388.length co39) t388) := ⟨by rw [← hq_]; exact (by (with_reducible repeat (first | apply Kd.R_alloc | apply Kd.R_drewN | apply Kd.R_drew)); exact Kd.R_mono HO390.out (fun _ hk => hk.2))⟩; have n4_ : Aside0 (Kd.R (Kd.int .i64) 3 w45 w.heap.size (fun k_ => some k_ ≠ (.slice Ao34 t382.length co34 : Value).ownBlock ∧ some k_ ≠ (.slice Ao47 t385.length co47 : Value).ownBlock ∧ some k_ ≠ (.slice Ao46 t395.length co46 : Value).ownBlock) (.slice Ao44 t392.length co44) t392) := ⟨by rw [← hq_]; exact (by (with_reducible repeat (first | apply Kd.R_alloc | apply Kd.R_drewN | apply Kd.R_drew)); exact Kd.R_mono HO394.out (fun _ hk => ⟨hk.1.1.2, ⟨hk.1.2, hk.2⟩⟩))⟩; have n5_ : Aside0 (Kd.R (Kd.int .i64) 3 w45 w.heap.size (fun k_ => some k_ ≠ (.slice Ao34 t382.length co34 : Value).ownBlock ∧ some k_ ≠ (.slice Ao47 t385.length co47 : Value).ownBlock ∧ some k_ ≠ (.slice Ao44 t392.length co44 : Value).ownBlock) (.slice Ao46 t395.length co46) t395) := ⟨by rw [← hq_]; exact (by (with_reducible repeat (first | apply Kd.R_alloc | apply Kd.R_drewN | apply Kd.R_drew)); exact Kd.R_mono HO397.out (fun _ hk => ⟨hk.1.1.2, ⟨hk.1.2, hk.2⟩⟩))⟩; have n6_ : Aside0 (w45.heap[gb377]? = some (.cells #[.slice A0_0 l0_0.length c0_0] 24 (0, 0))) := ⟨by rw [← hq_]; exact (zh BK377.out)⟩; have n7_ : Aside0 (w45.heap[gb391]? = some (.cells #[.slice Ao39 t388.length co39] 30 (0, 0))) := ⟨by rw [← hq_]; exact (zh BK391.out)⟩; have n8_ : Aside0 (Below w.heap.size w w45) := ⟨by rw [← hq_]; exact (zb HB.out)⟩; clear HO381 HO384 HO387 HO390 HO394 HO397 BK377 BK391 HB hq_; have HO381 := n0_; have HO384 := n1_; have HO387 := n2_; have HO390 := n3_; have HO394 := n4_; have HO397 := n5_; have BK377 := n6_; have BK391 := n7_; have HB := n8_; clear n0_ n1_ n2_ n3_ n4_ n5_ n6_ n7_ n8_))
      have n0_ := Aside0.mk (Kd.R_drew HO381.out)
      have n1_ := Aside0.mk (Kd.R_drew HO384.out)
      have n2_ := Aside0.mk (Kd.R_drew HO387.out)
      have n3_ := Aside0.mk (Kd.R_drew HO390.out)
      have n4_ := Aside0.mk (Kd.R_drew HO394.out)
      have n5_ := Aside0.mk (Kd.R_drew HO397.out)
      have n6_ := Aside0.mk (blk_drew BK377.out)
      have n7_ := Aside0.mk (blk_drew BK391.out)
      have n8_ := Aside0.mk (below_drew1 HB.out)
      clear HO381
      clear HO384
      clear HO387
      clear HO390
      clear HO394
      clear HO397
      clear BK377
      clear BK391
      clear HB
      have HO381 := n0_
      have HO384 := n1_
      have HO387 := n2_
      have HO390 := n3_
      have HO394 := n4_
      have HO397 := n5_
      have BK377 := n6_
      have BK391 := n7_
      have HB := n8_
      clear n0_ n1_ n2_ n3_ n4_ n5_ n6_ n7_ n8_
      refine start_ (n := 5) (S := fun w' => w'.cell? ⟨gb391, 0, none⟩ = some (.slice Ao39 t388.length co39) ∧ w'.cell? ⟨gb377, 0, none⟩ = some (.slice A0_0 l0_0.length c0_0)) (ds := []) #[false, false, false, false, false] (by kernel_rfl) rfl rfl ⟨(blk_cell BK391.out 0).trans rfl, (blk_cell BK377.out 0).trans rfl⟩ (fun hHeld => ?_)
      generalize w45.drew = w48 at HO381 HO384 HO387 HO390 HO394 HO397 BK377 BK391 HB hHeld ⊢
      refine take_ (i := 0) (N := some 38) (v := ?_) (a' := ?_) #[true, false, false, false, false] rfl rfl (by kernel_rfl) (fun _ _ _ h => h) (Or.inl ⟨by rfl, ?_⟩) hHeld ?_ ?_
      rotate_left
      ·rintro w' ⟨s0, s1⟩
       go_simp
       with_reducible rfl
      rotate_left
      ·simp only [Act.put, List.setIfInBounds_toArray, List.set_cons_zero, List.set_cons_succ, i64_w, i32_w]
       rfl
      refine take_ (i := 1) (N := some 39) (v := ?_) (a' := ?_) #[true, true, false, false, false] rfl rfl (by kernel_rfl) (fun _ _ _ h => h) (Or.inl ⟨by rfl, ?_⟩) hHeld ?_ ?_
      rotate_left
      ·rintro w' ⟨s0, s1⟩
       go_simp
       with_reducible rfl
      rotate_left
      ·simp only [Act.put, List.setIfInBounds_toArray, List.set_cons_zero, List.set_cons_succ, i64_w, i32_w]
       rfl
      refine one_ (i := 2) (N := some 40) #[true, true, true, false, false] rfl rfl (by kernel_rfl) (by decide) (fun K hK => ?_)
      refine goes_ Try.func13 (by kernel_rfl) rfl #[.agg #[.slice A0_0 l0_0.length c0_0]] (by rfl) rfl rfl zl ?_
      with_reducible refine (laws_toPool.calls k _ _ l0_0 t399 _ ?side1 ?side2 A18.out).mono ?_
      (case side1 => exact zc (Kd.C_below HR0_0.out HB.out))
      (case side2 => exact HC0_0.out)
      rintro e w49 ⟨v400, rfl, ho0, hb⟩
      refine ⟨_, rfl, ?_⟩
      have n0_ := Aside0.mk (Kd.R_elder' (zr HO381.out) (Kd.R_base ho0) hb)
      have n1_ := Aside0.mk (Kd.R_below (zr HO384.out) hb)
      have n2_ := Aside0.mk (Kd.R_below (zr HO387.out) hb)
      have n3_ := Aside0.mk (Kd.R_elder' (zr HO390.out) (Kd.R_base ho0) hb)
      have n4_ := Aside0.mk (Kd.R_below (zr HO394.out) hb)
      have n5_ := Aside0.mk (Kd.R_below (zr HO397.out) hb)
      have n6_ := Aside0.mk (Kd.R_lower (Kd.R_new' (Kd.R_new' ho0 (Kd.R_lt (zr HO381.out))) (Kd.R_lt (zr HO390.out))) (below_size (zb HB.out)))
      have n7_ := Aside0.mk (blk_below (zh BK377.out) hb)
      have n8_ := Aside0.mk (blk_below (zh BK391.out) hb)
      have n9_ := Aside0.mk (below_step (zb HB.out) hb)
      clear HO381
      clear HO384
      clear HO387
      clear HO390
      clear HO394
      clear HO397
      clear BK377
      clear BK391
      clear HB
      have HO381 := n0_
      have HO384 := n1_
      have HO387 := n2_
      have HO390 := n3_
      have HO394 := n4_
      have HO397 := n5_
      have HO401 := n6_
      have BK377 := n7_
      have BK391 := n8_
      have HB := n9_
      clear n0_ n1_ n2_ n3_ n4_ n5_ n6_ n7_ n8_ n9_
      (try clear hb)
      (try clear hb2)
      (try clear hk)
      (try clear hi)
      (try clear ho0)
      obtain ⟨Ao50, co50, eo50⟩ := Kd.R_slice HO401.out
      (first | subst eo50 | (injection eo50 with f1_ f2_ f3_; have f4_ := f1_.symm; have f5_ := f3_.symm; clear f1_ f2_ f3_; subst f4_; subst f5_))
      refine hK.out _ _ ⟨(blk_cell BK391.out 0).trans rfl, (blk_cell BK377.out 0).trans rfl⟩ (fun hHeld => ?_)
      clear hK K
      refine norm_ (a' := ?_) ?_ ?_
      rotate_left
      ·show Act.put _ (some 40) _ = _
       simp only [Act.put, List.setIfInBounds_toArray, List.set_cons_zero, List.set_cons_succ, i64_w, i32_w]
       rfl
      refine one_ (i := 3) (N := some 41) #[true, true, true, true, false] rfl rfl (by kernel_rfl) (by decide) (fun K hK => ?_)
      refine goes_ Try.func16 (by kernel_rfl) rfl #[.agg #[.slice Ao39 t388.length co39], .agg #[.slice Ao50 t399.length co50]] (by rfl) rfl rfl zl ?_
      with_reducible refine (laws_eqPool.calls k _ _ t388 _ _ t399 true _ ?side1 ?side2 ?side3 ?side4 A19.out).mono ?_
      (case side1 => exact zc (Kd.R_reads' HO390.out).2.2)
      (case side2 => exact (Kd.R_reads' HO390.out).2.1)
      (case side3 => exact zc (Kd.R_reads' HO401.out).2.2)
      (case side4 => exact (Kd.R_reads' HO401.out).2.1)
      rintro e w51 ⟨rfl, hb⟩
      refine ⟨_, rfl, ?_⟩
      have n0_ := Aside0.mk (Kd.R_below (zr HO381.out) hb)
      have n1_ := Aside0.mk (Kd.R_below (zr HO384.out) hb)
      have n2_ := Aside0.mk (Kd.R_below (zr HO387.out) hb)
      have n3_ := Aside0.mk (Kd.R_below (zr HO390.out) hb)
      have n4_ := Aside0.mk (Kd.R_below (zr HO394.out) hb)
      have n5_ := Aside0.mk (Kd.R_below (zr HO397.out) hb)
      have n6_ := Aside0.mk (Kd.R_below (zr HO401.out) hb)
      have n7_ := Aside0.mk (blk_below (zh BK377.out) hb)
      have n8_ := Aside0.mk (blk_below (zh BK391.out) hb)
      have n9_ := Aside0.mk (below_step (zb HB.out) hb)
      clear HO381
      clear HO384
      clear HO387
      clear HO390
      clear HO394
      clear HO397
      clear HO401
      clear BK377
      clear BK391
      clear HB
      have HO381 := n0_
      have HO384 := n1_
      have HO387 := n2_
      have HO390 := n3_
      have HO394 := n4_
      have HO397 := n5_
      have HO401 := n6_
      have BK377 := n7_
      have BK391 := n8_
      have HB := n9_
      clear n0_ n1_ n2_ n3_ n4_ n5_ n6_ n7_ n8_ n9_
      (try clear hb)
      (try clear hb2)
      (try clear hk)
      (try clear hi)
      refine hK.out _ _ ⟨(blk_cell BK391.out 0).trans rfl, (blk_cell BK377.out 0).trans rfl⟩ (fun hHeld => ?_)
      clear hK K
      refine norm_ (a' := ?_) ?_ ?_
      rotate_left
      ·show Act.put _ (some 41) _ = _
       simp only [Act.put, List.setIfInBounds_toArray, List.set_cons_zero, List.set_cons_succ, i64_w, i32_w]
       rfl
      refine pure_ (i := 4) (N := some 42) (v := ?_) (a' := ?_) #[true, true, true, true, true] rfl rfl (by kernel_rfl) (fun _ _ _ h => h) (Or.inl ⟨by rfl, ?_⟩) ?_ ?_
      rotate_left
      ·intro w'
       go_simp
       with_reducible rfl
      rotate_left
      ·simp only [Act.put, List.setIfInBounds_toArray, List.set_cons_zero, List.set_cons_succ, i64_w, i32_w]
       rfl
      refine done_ (by kernel_rfl) ?_
      go_upto_region 20 with (first | ((with_reducible refine gate_callee (f := 14) rfl ?_); refine goesL_ (some 45) rfl rfl Try.func14 (by kernel_rfl) rfl #[.slice A1 l1.length c1] rfl zl ?_; (with_reducible refine (laws_toIntS.calls k _ _ l1 t403 _ ?side1 ?side2 A21.out).mono ?_); (case side1 => exact zc (Kd.C_below HR1.out HB.out)); (case side2 => exact HC1.out); rintro e w52 ⟨v404, rfl, ho0, hb⟩; refine ⟨_, rfl, ?_⟩; have n0_ := Aside0.mk (Kd.R_below (zr HO381.out) hb); have n1_ := Aside0.mk (Kd.R_elder' (zr HO384.out) (Kd.R_base ho0) hb); have n2_ := Aside0.mk (Kd.R_elder' (zr HO387.out) (Kd.R_base ho0) hb); have n3_ := Aside0.mk (Kd.R_below (zr HO390.out) hb); have n4_ := Aside0.mk (Kd.R_elder' (zr HO394.out) (Kd.R_base ho0) hb); have n5_ := Aside0.mk (Kd.R_elder' (zr HO397.out) (Kd.R_base ho0) hb); have n6_ := Aside0.mk (Kd.R_below (zr HO401.out) hb); have n7_ := Aside0.mk (Kd.R_lower (Kd.R_new' (Kd.R_new' (Kd.R_new' (Kd.R_new' ho0 (Kd.R_lt (zr HO384.out))) (Kd.R_lt (zr HO387.out))) (Kd.R_lt (zr HO394.out))) (Kd.R_lt (zr HO397.out))) (below_size (zb HB.out))); have n8_ := Aside0.mk (blk_below (zh BK377.out) hb); have n9_ := Aside0.mk (blk_below (zh BK391.out) hb); have n10_ := Aside0.mk (below_step (zb HB.out) hb); clear HO381; clear HO384; clear HO387; clear HO390; clear HO394; clear HO397; clear HO401; clear BK377; clear BK391; clear HB; have HO381 := n0_; have HO384 := n1_; have HO387 := n2_; have HO390 := n3_; have HO394 := n4_; have HO397 := n5_; have HO401 := n6_; have HO405 := n7_; have BK377 := n8_; have BK391 := n9_; have HB := n10_; clear n0_ n1_ n2_ n3_ n4_ n5_ n6_ n7_ n8_ n9_ n10_; (try clear hb); (try clear hb2); (try clear hk); (try clear hi); (try clear ho0); obtain ⟨Ao53, co53, eo53⟩ := Kd.R_slice HO405.out; subst eo53) | ((with_reducible refine gate_callee (f := 17) rfl ?_); refine goesL_ (some 46) rfl rfl Try.func17 (by kernel_rfl) rfl #[.slice Ao44 t392.length co44, .slice Ao53 t403.length co53] rfl zl ?_; (with_reducible refine (laws_eqIntS.calls k _ _ t392 _ _ t403 true _ ?side1 ?side2 ?side3 ?side4 A22.out).mono ?_); (case side1 => exact zc (Kd.R_reads' HO394.out).2.2); (case side2 => exact (Kd.R_reads' HO394.out).2.1); (case side3 => exact zc (Kd.R_reads' HO405.out).2.2); (case side4 => exact (Kd.R_reads' HO405.out).2.1); rintro e w' ⟨rfl, ⟨nd, rfl⟩⟩; refine ⟨_, rfl, ?_⟩; have hcz54_0 : w52.cell? ⟨gb391, 0, none⟩ = some (.slice Ao39 t388.length co39) := (blk_cell BK391.out 0).trans rfl; have hfz54_0 := blk_frozen BK391.out 0) | ((with_reducible refine gate_callee (f := 21) rfl ?_); refine goesL_ (some 50) rfl rfl Try.func21 (by kernel_rfl) rfl #[.agg #[.slice Ao39 t388.length co39], .int .i64 1] rfl zl ?_; (with_reducible refine (laws_markPool.calls k (fun k_ => some k_ = (.slice Ao39 t388.length co39 : Value).ownBlock) (.slice Ao39 t388.length co39) t388 1 t407 t408 w _ ?side1 ?side2 A24.out).mono ?_); (case side1 => repeat (first | (with_reducible first | exact HB.out | apply below_alloc | apply pw_below_drewN | apply below_drew1 | refine below_set ?_ GE377.out | refine below_set ?_ GE391.out) | exact HB.out)); (case side2 => exact Kd.R_tight rfl HO390.out); rintro e w55 ⟨rfl, hy0, hb, hkp⟩; refine ⟨_, rfl, ?_⟩; have n0_ := Aside0.mk (blk_kept (zh BK377.out) hkp (fun hs_ => (fun e_ => (Kd.R_ne HO390.out BK377.out (by decide)) e_) hs_)); have n1_ := Aside0.mk (Kd.R_mono (ok' := fun k_ => some k_ ≠ (.slice Ao39 t388.length co39 : Value).ownBlock ∧ some k_ ≠ (.slice Ao50 t399.length co50 : Value).ownBlock) (Kd.R_keptB (HO381.out) hkp (fun k_ hk_ hs_ => by first | exact (hk_.1.2) hs_ | (revert hk_; simp only [and_imp]; intros; exact absurd hs_ (by assumption)))) (fun k_ hk_ => by first | exact ⟨hk_.1.1.2, hk_.1.2⟩ | (revert hk_; simp only [and_imp]; intros; and_intros <;> assumption))); have n2_ := Aside0.mk (Kd.R_mono (ok' := fun k_ => some k_ ≠ (.slice Ao47 t385.length co47 : Value).ownBlock ∧ some k_ ≠ (.slice Ao44 t392.length co44 : Value).ownBlock ∧ some k_ ≠ (.slice Ao46 t395.length co46 : Value).ownBlock ∧ some k_ ≠ (.slice Ao53 t403.length co53 : Value).ownBlock) (Kd.R_keptB ((Kd.R_apart' HO384.out (Kd.R_typed HO390.out) (by decide))) hkp (fun k_ hk_ hs_ => by first | exact (hk_.2) hs_ | (revert hk_; simp only [and_imp]; intros; exact absurd hs_ (by assumption)))) (fun k_ hk_ => by first | exact ⟨hk_.1.1.1.1.1.2, hk_.1.1.1.1.2, hk_.1.1.1.2, hk_.1.1.2⟩ | (revert hk_; simp only [and_imp]; intros; and_intros <;> assumption))); have n3_ := Aside0.mk (Kd.R_mono (ok' := fun k_ => some k_ ≠ (.slice Ao34 t382.length co34 : Value).ownBlock ∧ some k_ ≠ (.slice Ao44 t392.length co44 : Value).ownBlock ∧ some k_ ≠ (.slice Ao46 t395.length co46 : Value).ownBlock ∧ some k_ ≠ (.slice Ao53 t403.length co53 : Value).ownBlock) (Kd.R_keptB ((Kd.R_apart' HO387.out (Kd.R_typed HO390.out) (by decide))) hkp (fun k_ hk_ hs_ => by first | exact (hk_.2) hs_ | (revert hk_; simp only [and_imp]; intros; exact absurd hs_ (by assumption)))) (fun k_ hk_ => by first | exact ⟨hk_.1.1.1.1.1.2, hk_.1.1.1.1.2, hk_.1.1.1.2, hk_.1.1.2⟩ | (revert hk_; simp only [and_imp]; intros; and_intros <;> assumption))); have n4_ := Aside0.mk (Kd.R_reok rfl hy0 (fun k_ e_ => HO390.out.1 k_ e_)); have n5_ := Aside0.mk (blk_kept (zh BK391.out) hkp (fun hs_ => (fun e_ => (Kd.R_ne HO390.out BK391.out (by decide)) e_) hs_)); have n6_ := Aside0.mk (Kd.R_mono (ok' := fun k_ => some k_ ≠ (.slice Ao34 t382.length co34 : Value).ownBlock ∧ some k_ ≠ (.slice Ao47 t385.length co47 : Value).ownBlock ∧ some k_ ≠ (.slice Ao46 t395.length co46 : Value).ownBlock ∧ some k_ ≠ (.slice Ao53 t403.length co53 : Value).ownBlock) (Kd.R_keptB ((Kd.R_apart' HO394.out (Kd.R_typed HO390.out) (by decide))) hkp (fun k_ hk_ hs_ => by first | exact (hk_.2) hs_ | (revert hk_; simp only [and_imp]; intros; exact absurd hs_ (by assumption)))) (fun k_ hk_ => by first | exact ⟨hk_.1.1.1.1.1.2, hk_.1.1.1.1.2, hk_.1.1.1.2, hk_.1.1.2⟩ | (revert hk_; simp only [and_imp]; intros; and_intros <;> assumption))); have n7_ := Aside0.mk (Kd.R_mono (ok' := fun k_ => some k_ ≠ (.slice Ao34 t382.length co34 : Value).ownBlock ∧ some k_ ≠ (.slice Ao47 t385.length co47 : Value).ownBlock ∧ some k_ ≠ (.slice Ao44 t392.length co44 : Value).ownBlock ∧ some k_ ≠ (.slice Ao53 t403.length co53 : Value).ownBlock) (Kd.R_keptB ((Kd.R_apart' HO397.out (Kd.R_typed HO390.out) (by decide))) hkp (fun k_ hk_ hs_ => by first | exact (hk_.2) hs_ | (revert hk_; simp only [and_imp]; intros; exact absurd hs_ (by assumption)))) (fun k_ hk_ => by first | exact ⟨hk_.1.1.1.1.1.2, hk_.1.1.1.1.2, hk_.1.1.1.2, hk_.1.1.2⟩ | (revert hk_; simp only [and_imp]; intros; and_intros <;> assumption))); have n8_ := Aside0.mk (Kd.R_mono (ok' := fun k_ => some k_ ≠ (.slice Ao33 t379.length co33 : Value).ownBlock ∧ some k_ ≠ (.slice Ao39 t388.length co39 : Value).ownBlock) (Kd.R_keptB (HO401.out) hkp (fun k_ hk_ hs_ => by first | exact (hk_.2) hs_ | (revert hk_; simp only [and_imp]; intros; exact absurd hs_ (by assumption)))) (fun k_ hk_ => by first | exact ⟨hk_.1.1.2, hk_.1.2⟩ | (revert hk_; simp only [and_imp]; intros; and_intros <;> assumption))); have n9_ := Aside0.mk (Kd.R_mono (ok' := fun k_ => some k_ ≠ (.slice Ao34 t382.length co34 : Value).ownBlock ∧ some k_ ≠ (.slice Ao47 t385.length co47 : Value).ownBlock ∧ some k_ ≠ (.slice Ao44 t392.length co44 : Value).ownBlock ∧ some k_ ≠ (.slice Ao46 t395.length co46 : Value).ownBlock) (Kd.R_keptB ((Kd.R_apart' HO405.out (Kd.R_typed HO390.out) (by decide))) hkp (fun k_ hk_ hs_ => by first | exact (hk_.2) hs_ | (revert hk_; simp only [and_imp]; intros; exact absurd hs_ (by assumption)))) (fun k_ hk_ => by first | exact ⟨hk_.1.1.1.1.1.2, hk_.1.1.1.1.2, hk_.1.1.1.2, hk_.1.1.2⟩ | (revert hk_; simp only [and_imp]; intros; and_intros <;> assumption))); have n10_ := Aside0.mk (hb); clear BK377; clear HO381; clear HO384; clear HO387; clear HO390; clear BK391; clear HO394; clear HO397; clear HO401; clear HO405; clear HB; have BK377 := n0_; have HO381 := n1_; have HO384 := n2_; have HO387 := n3_; have HO390 := n4_; have BK391 := n5_; have HO394 := n6_; have HO397 := n7_; have HO401 := n8_; have HO405 := n9_; have HB := n10_; clear n0_ n1_ n2_ n3_ n4_ n5_ n6_ n7_ n8_ n9_ n10_; (try clear hb); (try clear hkp); (try clear hy0)) | ((with_reducible refine gate_callee (f := 22) rfl ?_); refine goesL_ (some 53) rfl rfl Try.func22 (by kernel_rfl) rfl #[.slice Ao44 t392.length co44, .int .i64 t407] rfl zl ?_; (with_reducible refine (laws_markIntS.calls k (fun k_ => some k_ = (.slice Ao44 t392.length co44 : Value).ownBlock) (.slice Ao44 t392.length co44) t392 t407 t409 t410 w _ ?side1 ?side2 A25.out).mono ?_); (case side1 => repeat (first | (with_reducible first | exact HB.out | apply below_alloc | apply pw_below_drewN | apply below_drew1 | refine below_set ?_ GE377.out | refine below_set ?_ GE391.out) | exact HB.out)); (case side2 => exact Kd.R_tight rfl HO394.out); rintro e w56 ⟨rfl, hy0, hb, hkp⟩; refine ⟨_, rfl, ?_⟩; have n0_ := Aside0.mk (blk_kept (zh BK377.out) hkp (fun hs_ => (fun e_ => (Kd.R_ne HO394.out BK377.out (by decide)) e_) hs_)); have n1_ := Aside0.mk (Kd.R_mono (ok' := fun k_ => some k_ ≠ (.slice Ao39 t388.length co39 : Value).ownBlock ∧ some k_ ≠ (.slice Ao50 t399.length co50 : Value).ownBlock) (Kd.R_keptB ((Kd.R_apart' HO381.out (Kd.R_typed HO394.out) (by decide))) hkp (fun k_ hk_ hs_ => by first | exact (hk_.2) hs_ | (revert hk_; simp only [and_imp]; intros; exact absurd hs_ (by assumption)))) (fun k_ hk_ => by first | exact ⟨hk_.1.1.1, hk_.1.1.2⟩ | (revert hk_; simp only [and_imp]; intros; and_intros <;> assumption))); have n2_ := Aside0.mk (Kd.R_mono (ok' := fun k_ => some k_ ≠ (.slice Ao47 t385.length co47 : Value).ownBlock ∧ some k_ ≠ (.slice Ao44 t392.length co44 : Value).ownBlock ∧ some k_ ≠ (.slice Ao46 t395.length co46 : Value).ownBlock ∧ some k_ ≠ (.slice Ao53 t403.length co53 : Value).ownBlock) (Kd.R_keptB (HO384.out) hkp (fun k_ hk_ hs_ => by first | exact (hk_.2.1) hs_ | (revert hk_; simp only [and_imp]; intros; exact absurd hs_ (by assumption)))) (fun k_ hk_ => by first | exact ⟨hk_.1.1, hk_.1.2.1, hk_.1.2.2.1, hk_.1.2.2.2⟩ | (revert hk_; simp only [and_imp]; intros; and_intros <;> assumption))); have n3_ := Aside0.mk (Kd.R_mono (ok' := fun k_ => some k_ ≠ (.slice Ao34 t382.length co34 : Value).ownBlock ∧ some k_ ≠ (.slice Ao44 t392.length co44 : Value).ownBlock ∧ some k_ ≠ (.slice Ao46 t395.length co46 : Value).ownBlock ∧ some k_ ≠ (.slice Ao53 t403.length co53 : Value).ownBlock) (Kd.R_keptB (HO387.out) hkp (fun k_ hk_ hs_ => by first | exact (hk_.2.1) hs_ | (revert hk_; simp only [and_imp]; intros; exact absurd hs_ (by assumption)))) (fun k_ hk_ => by first | exact ⟨hk_.1.1, hk_.1.2.1, hk_.1.2.2.1, hk_.1.2.2.2⟩ | (revert hk_; simp only [and_imp]; intros; and_intros <;> assumption))); have n4_ := Aside0.mk (Kd.R_mono (ok' := fun k_ => some k_ ≠ (.slice Ao33 t379.length co33 : Value).ownBlock ∧ some k_ ≠ (.slice Ao50 t399.length co50 : Value).ownBlock) (Kd.R_keptB ((Kd.R_apart' HO390.out (Kd.R_typed HO394.out) (by decide))) hkp (fun k_ hk_ hs_ => by first | exact (hk_.2) hs_ | (revert hk_; simp only [and_imp]; intros; exact absurd hs_ (by assumption)))) (fun k_ hk_ => by first | exact ⟨hk_.1.1.1.2, hk_.1.1.2⟩ | (revert hk_; simp only [and_imp]; intros; and_intros <;> assumption))); have n5_ := Aside0.mk (blk_kept (zh BK391.out) hkp (fun hs_ => (fun e_ => (Kd.R_ne HO394.out BK391.out (by decide)) e_) hs_)); have n6_ := Aside0.mk (Kd.R_reok rfl hy0 (fun k_ e_ => HO394.out.1 k_ e_)); have n7_ := Aside0.mk (Kd.R_mono (ok' := fun k_ => some k_ ≠ (.slice Ao34 t382.length co34 : Value).ownBlock ∧ some k_ ≠ (.slice Ao47 t385.length co47 : Value).ownBlock ∧ some k_ ≠ (.slice Ao44 t392.length co44 : Value).ownBlock ∧ some k_ ≠ (.slice Ao53 t403.length co53 : Value).ownBlock) (Kd.R_keptB (HO397.out) hkp (fun k_ hk_ hs_ => by first | exact (hk_.2.2.1) hs_ | (revert hk_; simp only [and_imp]; intros; exact absurd hs_ (by assumption)))) (fun k_ hk_ => by first | exact ⟨hk_.1.1, hk_.1.2.1, hk_.1.2.2.1, hk_.1.2.2.2⟩ | (revert hk_; simp only [and_imp]; intros; and_intros <;> assumption))); have n8_ := Aside0.mk (Kd.R_mono (ok' := fun k_ => some k_ ≠ (.slice Ao33 t379.length co33 : Value).ownBlock ∧ some k_ ≠ (.slice Ao39 t388.length co39 : Value).ownBlock) (Kd.R_keptB ((Kd.R_apart' HO401.out (Kd.R_typed HO394.out) (by decide))) hkp (fun k_ hk_ hs_ => by first | exact (hk_.2) hs_ | (revert hk_; simp only [and_imp]; intros; exact absurd hs_ (by assumption)))) (fun k_ hk_ => by first | exact ⟨hk_.1.1.1, hk_.1.1.2⟩ | (revert hk_; simp only [and_imp]; intros; and_intros <;> assumption))); have n9_ := Aside0.mk (Kd.R_mono (ok' := fun k_ => some k_ ≠ (.slice Ao34 t382.length co34 : Value).ownBlock ∧ some k_ ≠ (.slice Ao47 t385.length co47 : Value).ownBlock ∧ some k_ ≠ (.slice Ao44 t392.length co44 : Value).ownBlock ∧ some k_ ≠ (.slice Ao46 t395.length co46 : Value).ownBlock) (Kd.R_keptB (HO405.out) hkp (fun k_ hk_ hs_ => by first | exact (hk_.2.2.1) hs_ | (revert hk_; simp only [and_imp]; intros; exact absurd hs_ (by assumption)))) (fun k_ hk_ => by first | exact ⟨hk_.1.1, hk_.1.2.1, hk_.1.2.2.1, hk_.1.2.2.2⟩ | (revert hk_; simp only [and_imp]; intros; and_intros <;> assumption))); have n10_ := Aside0.mk (hb); clear BK377; clear HO381; clear HO384; clear HO387; clear HO390; clear BK391; clear HO394; clear HO397; clear HO401; clear HO405; clear HB; have BK377 := n0_; have HO381 := n1_; have HO384 := n2_; have HO387 := n3_; have HO390 := n4_; have BK391 := n5_; have HO394 := n6_; have HO397 := n7_; have HO401 := n8_; have HO405 := n9_; have HB := n10_; clear n0_ n1_ n2_ n3_ n4_ n5_ n6_ n7_ n8_ n9_ n10_; (try clear hb); (try clear hkp); (try clear hy0)))
      (try simp only [Act.put, List.setIfInBounds_toArray, List.set_cons_zero, List.set_cons_succ])
      go_cut [61] (fun v61 wc => ∃ (kq : Nat) (x61_25 : Bool), v61 = .bool x61_25 ∧ Aside0 (laws_FnExactMakesList.j0 kq l1 t385 t395 x61_25 l0_0 = some r) ∧ Aside0 (kq ≤ k) ∧ Aside0 (Kd.R (Kd.int .i64) 3 wc w.heap.size (fun k_ => some k_ ≠ ((.slice Ao46 t395.length co46) : Value).ownBlock) (.slice Ao47 t385.length co47) t385) ∧ Aside0 (Kd.R (Kd.int .i64) 3 wc w.heap.size (fun k_ => some k_ ≠ ((.slice Ao47 t385.length co47) : Value).ownBlock) (.slice Ao46 t395.length co46) t395) ∧ Aside0 (Kd.R k51 51 wc w.heap.size (fun _ => True) (.slice Ao39 t388.length co39) t408) ∧ Aside0 (wc.heap[gb377]? = some (.cells #[(.slice A0_0 l0_0.length c0_0)] 24 (0, 0))) ∧ Aside0 (wc.heap[gb391]? = some (.cells #[(.slice Ao39 t388.length co39)] 30 (0, 0))) ∧ Aside0 (Below w.heap.size w wc))
      case first =>
       have H := HC26.out
       clear HC26
       by_cases c57 : t409 < 0
       ·rw [if_pos c57] at H
        have c57b0 : decide (t409 < 0) = true := decide_eq_true c57
        clear c57
        (first | rw [c57b0] | (simp only [i64_w, i32_w]; rw [c57b0]) | skip)
        have H' := Aside0.mk H
        clear H
        go_wp2
        go_meet
        case rel => exact ⟨_, (true), (by first | rfl | (simp; done) | (simp [*]; done)), H', ⟨by first | omega | exact Nat.le_refl _⟩, ⟨zr (Kd.R_mono HO387.out (fun _ hk => hk.2.2.1))⟩, ⟨zr (Kd.R_mono HO397.out (fun _ hk => hk.2.1))⟩, ⟨zr (Kd.R_mono HO390.out (fun _ hk => trivial))⟩, ⟨zh BK377.out⟩, ⟨zh BK391.out⟩, ⟨zb HB.out⟩⟩
       ·rw [if_neg c57] at H
        have c57b0 : decide (t409 < 0) = false := decide_eq_false c57
        clear c57
        (first | rw [c57b0] | (simp only [i64_w, i32_w]; rw [c57b0]) | skip)
        replace H := Option.bind_eq_some_iff.mp H
        obtain ⟨t411, A580, H⟩ := H
        replace H : (laws_FnExactMakesList.j0 k l1 t385 t395 (!t411) l0_0) = some r := H
        have A58 := Aside0.mk A580
        clear A580
        have H' := Aside0.mk H
        clear H
        go_wp2_with (first | (go_at_call 17; (with_reducible refine (laws_eqIntS.calls k _ _ t395 _ _ t385 t411 _ ?side1 ?side2 ?side3 ?side4 A58.out).mono ?_); (case side1 => exact zc (Kd.R_reads' HO397.out).2.2); (case side2 => exact (Kd.R_reads' HO397.out).2.1); (case side3 => exact zc (Kd.R_reads' HO387.out).2.2); (case side4 => exact (Kd.R_reads' HO387.out).2.1); rintro e w' ⟨rfl, ⟨nd, rfl⟩⟩))
        go_meet
        case rel => exact ⟨_, (!t411), (by first | rfl | (simp; done) | (simp [*]; done)), H', ⟨by first | omega | exact Nat.le_refl _⟩, ⟨zr (Kd.R_mono HO387.out (fun _ hk => hk.2.2.1))⟩, ⟨zr (Kd.R_mono HO397.out (fun _ hk => hk.2.1))⟩, ⟨zr (Kd.R_mono HO390.out (fun _ hk => trivial))⟩, ⟨zh BK377.out⟩, ⟨zh BK391.out⟩, ⟨zb HB.out⟩⟩
      case rest =>
       clear HC26
       try clear c1
       try clear c2
       try clear p2
       try clear c3
       try clear c3b0
       try clear c3b1
       try clear c4
       try clear c5
       try clear c6
       try clear c6b0
       try clear c11
       try clear c13
       try clear c14
       try clear c16
       try clear c17
       try clear c20
       try clear c21
       try clear c22
       try clear c23
       try clear c25
       try clear c26
       try clear c40
       try clear c57
       try clear c57b0
       try clear hcz28_0
       try clear hcz30_0
       try clear hcz36_0
       try clear hcz41_0
       try clear hcz43_0
       try clear hcz54_0
       try clear hcz8_0
       try clear hfz28_0
       try clear hfz30_0
       try clear hfz36_0
       try clear hfz41_0
       try clear hfz43_0
       try clear hfz54_0
       try clear hfz8_0
       obtain ⟨kq, x61_25, rfl, HA, HJ25, HO_6, HO_9, HO_392000, BK377, BK391, HB⟩ := hcut
       have hl392000_25 := (Kd.R_reads' HO_392000.out).1
       rw [hl392000_25] at HO_392000
       (try simp only [hl392000_25])
       (try simp only [hl392000_25] at BK377)
       (try simp only [hl392000_25] at BK391)
       (try simp only [hl392000_25] at HO_6)
       (try simp only [hl392000_25] at HO_9)
       cases kq with
       | zero => exact absurd HA.out (by simp [laws_FnExactMakesList.j0])
       | succ kj25 =>
        have H := HA.out
        clear HA
        simp only [laws_FnExactMakesList.j0] at H
        by_cases c59 : x61_25 = true
        ·subst c59
         have H1 : (some false) = some r := by rw [if_pos rfl] at H; exact H
         clear H
         have H := H1
         clear H1
         obtain rfl := Option.some.inj H
         go_wp2
         go_ret
         exact ⟨ze, zb HB.out⟩
        ·replace c59 := Bool.eq_false_iff.mpr c59
         subst c59
         have H1 : ((laws_markIntS.f kj25 t395 1).bind fun bt412 => ((laws_heldIntS.f kj25 bt412.2 1).bind fun t414 => (if t414 < 0 then (some false) else (if t414 = bt412.1 then ((laws_toPool.f kj25 l0_0).bind fun t415 => ((laws_toIntS.f kj25 l1).bind fun t418 => ((impl_MakesList.f kj25 t415 t418).bind fun t421 => ((laws_eqIntS.f kj25 t421 t385).bind fun t424 => (if t424 = true then ((laws_heldIntS.f kj25 bt412.2 1).bind fun t425 => (if t425 < 0 then (some false) else (if t425 = bt412.1 then (some true) else (some false)))) else (some false)))))) else (some false))))) = some r := by rw [if_neg (show ¬ (false = true) by decide)] at H; exact H
         clear H
         have H := H1
         clear H1
         replace H := Option.bind_eq_some_iff.mp H
         obtain ⟨⟨t412, t413⟩, A600, H⟩ := H
         replace H : ((laws_heldIntS.f kj25 t413 1).bind fun t414 => (if t414 < 0 then (some false) else (if t414 = t412 then ((laws_toPool.f kj25 l0_0).bind fun t415 => ((laws_toIntS.f kj25 l1).bind fun t418 => ((impl_MakesList.f kj25 t415 t418).bind fun t421 => ((laws_eqIntS.f kj25 t421 t385).bind fun t424 => (if t424 = true then ((laws_heldIntS.f kj25 t413 1).bind fun t425 => (if t425 < 0 then (some false) else (if t425 = t412 then (some true) else (some false)))) else (some false)))))) else (some false)))) = some r := H
         have A60 := Aside0.mk A600
         clear A600
         replace H := Option.bind_eq_some_iff.mp H
         obtain ⟨t414, A610, H⟩ := H
         replace H : (if t414 < 0 then (some false) else (if t414 = t412 then ((laws_toPool.f kj25 l0_0).bind fun t415 => ((laws_toIntS.f kj25 l1).bind fun t418 => ((impl_MakesList.f kj25 t415 t418).bind fun t421 => ((laws_eqIntS.f kj25 t421 t385).bind fun t424 => (if t424 = true then ((laws_heldIntS.f kj25 t413 1).bind fun t425 => (if t425 < 0 then (some false) else (if t425 = t412 then (some true) else (some false)))) else (some false)))))) else (some false))) = some r := H
         have A61 := Aside0.mk A610
         clear A610
         by_cases c62 : t414 < 0
         ·rw [if_pos c62] at H
          have c62b0 : decide (t414 < 0) = true := decide_eq_true c62
          clear c62
          obtain rfl := Option.some.inj H
          go_wp2_with (first | ((with_reducible refine gate_callee (f := 22) rfl ?_); refine goesL_ (some 64) rfl rfl Try.func22 (by kernel_rfl) rfl #[.slice Ao46 t395.length co46, .int .i64 1] rfl zl ?_; (with_reducible refine (laws_markIntS.calls kj25 (fun k_ => some k_ = (.slice Ao46 t395.length co46 : Value).ownBlock) (.slice Ao46 t395.length co46) t395 1 t412 t413 w _ ?side1 ?side2 A60.out).mono ?_); (case side1 => repeat (first | (with_reducible first | exact HB.out | apply below_alloc | apply pw_below_drewN | apply below_drew1 | refine below_set ?_ GE377.out | refine below_set ?_ GE391.out) | exact HB.out)); (case side2 => exact Kd.R_tight rfl HO_9.out); rintro e w63 ⟨rfl, hy0, hb, hkp⟩; refine ⟨_, rfl, ?_⟩; have n0_ := Aside0.mk (Kd.R_mono (ok' := fun k_ => some k_ ≠ (.slice Ao46 t395.length co46 : Value).ownBlock) (Kd.R_keptB (HO_6.out) hkp (fun k_ hk_ hs_ => by first | exact (hk_) hs_ | (revert hk_; simp only [and_imp]; intros; exact absurd hs_ (by assumption)))) (fun k_ hk_ => by first | exact hk_.1 | (revert hk_; simp only [and_imp]; intros; and_intros <;> assumption))); have n1_ := Aside0.mk (Kd.R_reok rfl hy0 (fun k_ e_ => HO_9.out.1 k_ e_)); have n2_ := Aside0.mk (Kd.R_mono (ok' := fun k_ => True) (Kd.R_keptB ((Kd.R_apart' HO_392000.out (Kd.R_typed HO_9.out) (by decide))) hkp (fun k_ hk_ hs_ => by first | exact (hk_.2) hs_ | (revert hk_; simp only [and_imp]; intros; exact absurd hs_ (by assumption)))) (fun k_ hk_ => trivial)); have n3_ := Aside0.mk (blk_kept (zh BK377.out) hkp (fun hs_ => (fun e_ => (Kd.R_ne HO_9.out BK377.out (by decide)) e_) hs_)); have n4_ := Aside0.mk (blk_kept (zh BK391.out) hkp (fun hs_ => (fun e_ => (Kd.R_ne HO_9.out BK391.out (by decide)) e_) hs_)); have n5_ := Aside0.mk (hb); clear HO_6; clear HO_9; clear HO_392000; clear BK377; clear BK391; clear HB; have HO_6 := n0_; have HO_9 := n1_; have HO_392000 := n2_; have BK377 := n3_; have BK391 := n4_; have HB := n5_; clear n0_ n1_ n2_ n3_ n4_ n5_; (try clear hb); (try clear hkp); (try clear hy0)) | ((with_reducible refine gate_callee (f := 27) rfl ?_); refine goesL_ (some 67) rfl rfl Try.func27 (by kernel_rfl) rfl #[.slice Ao46 t413.length co46, .int .i64 1] rfl (by (try simp only [List.map_toArray, List.map_cons, List.map_nil]); first | done | (rw [show t413.length = t395.length from (Kd.R_reads' HO_9.out).1.symm] <;> rfl) | rfl | (simp only [List.length_drop, List.length_take]; rfl)) ?_; (with_reducible refine (laws_heldIntS.calls kj25 _ _ t413 1 t414 _ ?side1 ?side2 A61.out).mono ?_); (case side1 => exact zc (Kd.R_reads' HO_9.out).2.2); (case side2 => rw [show t413.length = t395.length from (Kd.R_reads' HO_9.out).1.symm]; exact (Kd.R_reads' HO_9.out).2.1); rintro e w' ⟨rfl, ⟨nd, rfl⟩⟩; refine ⟨_, rfl, ?_⟩))
          go_ret
          exact ⟨ze, zb HB.out⟩
         ·rw [if_neg c62] at H
          have c62b0 : decide (t414 < 0) = false := decide_eq_false c62
          clear c62
          by_cases c64 : t414 = t412
          ·rw [if_pos c64] at H
           have c64b0 : (t414 == t412) = true := beq_iff_eq.mpr c64
           have c64b1 : (t414 != t412) = false := bne_eq_false_iff_eq.mpr c64
           clear c64
           replace H := Option.bind_eq_some_iff.mp H
           obtain ⟨t415, A650, H⟩ := H
           replace H : ((laws_toIntS.f kj25 l1).bind fun t418 => ((impl_MakesList.f kj25 t415 t418).bind fun t421 => ((laws_eqIntS.f kj25 t421 t385).bind fun t424 => (if t424 = true then ((laws_heldIntS.f kj25 t413 1).bind fun t425 => (if t425 < 0 then (some false) else (if t425 = t412 then (some true) else (some false)))) else (some false))))) = some r := H
           have A65 := Aside0.mk A650
           clear A650
           replace H := Option.bind_eq_some_iff.mp H
           obtain ⟨t418, A660, H⟩ := H
           replace H : ((impl_MakesList.f kj25 t415 t418).bind fun t421 => ((laws_eqIntS.f kj25 t421 t385).bind fun t424 => (if t424 = true then ((laws_heldIntS.f kj25 t413 1).bind fun t425 => (if t425 < 0 then (some false) else (if t425 = t412 then (some true) else (some false)))) else (some false)))) = some r := H
           have A66 := Aside0.mk A660
           clear A660
           replace H := Option.bind_eq_some_iff.mp H
           obtain ⟨t421, A670, H⟩ := H
           replace H : ((laws_eqIntS.f kj25 t421 t385).bind fun t424 => (if t424 = true then ((laws_heldIntS.f kj25 t413 1).bind fun t425 => (if t425 < 0 then (some false) else (if t425 = t412 then (some true) else (some false)))) else (some false))) = some r := H
           have A67 := Aside0.mk A670
           clear A670
           replace H := Option.bind_eq_some_iff.mp H
           obtain ⟨t424, A680, H⟩ := H
           replace H : (if t424 = true then ((laws_heldIntS.f kj25 t413 1).bind fun t425 => (if t425 < 0 then (some false) else (if t425 = t412 then (some true) else (some false)))) else (some false)) = some r := H
           have A68 := Aside0.mk A680
           clear A680
           by_cases c69 : t424 = true
           ·subst c69
            have H1 : ((laws_heldIntS.f kj25 t413 1).bind fun t425 => (if t425 < 0 then (some false) else (if t425 = t412 then (some true) else (some false)))) = some r := by rw [if_pos rfl] at H; exact H
            clear H
            have H := H1
            clear H1
            replace H := Option.bind_eq_some_iff.mp H
            obtain ⟨t425, A700, H⟩ := H
            replace H : (if t425 < 0 then (some false) else (if t425 = t412 then (some true) else (some false))) = some r := H
            have A70 := Aside0.mk A700
            clear A700
            by_cases c71 : t425 < 0
            ·rw [if_pos c71] at H
             have c71b0 : decide (t425 < 0) = true := decide_eq_true c71
             clear c71
             obtain rfl := Option.some.inj H
             go_wp2_with (first | ((with_reducible refine gate_callee (f := 22) rfl ?_); refine goesL_ (some 64) rfl rfl Try.func22 (by kernel_rfl) rfl #[.slice Ao46 t395.length co46, .int .i64 1] rfl zl ?_; (with_reducible refine (laws_markIntS.calls kj25 (fun k_ => some k_ = (.slice Ao46 t395.length co46 : Value).ownBlock) (.slice Ao46 t395.length co46) t395 1 t412 t413 w _ ?side1 ?side2 A60.out).mono ?_); (case side1 => repeat (first | (with_reducible first | exact HB.out | apply below_alloc | apply pw_below_drewN | apply below_drew1 | refine below_set ?_ GE377.out | refine below_set ?_ GE391.out) | exact HB.out)); (case side2 => exact Kd.R_tight rfl HO_9.out); rintro e w72 ⟨rfl, hy0, hb, hkp⟩; refine ⟨_, rfl, ?_⟩; have n0_ := Aside0.mk (Kd.R_mono (ok' := fun k_ => some k_ ≠ (.slice Ao46 t395.length co46 : Value).ownBlock) (Kd.R_keptB (HO_6.out) hkp (fun k_ hk_ hs_ => by first | exact (hk_) hs_ | (revert hk_; simp only [and_imp]; intros; exact absurd hs_ (by assumption)))) (fun k_ hk_ => by first | exact hk_.1 | (revert hk_; simp only [and_imp]; intros; and_intros <;> assumption))); have n1_ := Aside0.mk (Kd.R_reok rfl hy0 (fun k_ e_ => HO_9.out.1 k_ e_)); have n2_ := Aside0.mk (Kd.R_mono (ok' := fun k_ => True) (Kd.R_keptB ((Kd.R_apart' HO_392000.out (Kd.R_typed HO_9.out) (by decide))) hkp (fun k_ hk_ hs_ => by first | exact (hk_.2) hs_ | (revert hk_; simp only [and_imp]; intros; exact absurd hs_ (by assumption)))) (fun k_ hk_ => trivial)); have n3_ := Aside0.mk (blk_kept (zh BK377.out) hkp (fun hs_ => (fun e_ => (Kd.R_ne HO_9.out BK377.out (by decide)) e_) hs_)); have n4_ := Aside0.mk (blk_kept (zh BK391.out) hkp (fun hs_ => (fun e_ => (Kd.R_ne HO_9.out BK391.out (by decide)) e_) hs_)); have n5_ := Aside0.mk (hb); clear HO_6; clear HO_9; clear HO_392000; clear BK377; clear BK391; clear HB; have HO_6 := n0_; have HO_9 := n1_; have HO_392000 := n2_; have BK377 := n3_; have BK391 := n4_; have HB := n5_; clear n0_ n1_ n2_ n3_ n4_ n5_; (try clear hb); (try clear hkp); (try clear hy0)) | ((with_reducible refine gate_callee (f := 27) rfl ?_); refine goesL_ (some 67) rfl rfl Try.func27 (by kernel_rfl) rfl #[.slice Ao46 t413.length co46, .int .i64 1] rfl (by (try simp only [List.map_toArray, List.map_cons, List.map_nil]); first | done | (rw [show t413.length = t395.length from (Kd.R_reads' HO_9.out).1.symm] <;> rfl) | rfl | (simp only [List.length_drop, List.length_take]; rfl)) ?_; (with_reducible refine (laws_heldIntS.calls kj25 _ _ t413 1 t414 _ ?side1 ?side2 A61.out).mono ?_); (case side1 => exact zc (Kd.R_reads' HO_9.out).2.2); (case side2 => rw [show t413.length = t395.length from (Kd.R_reads' HO_9.out).1.symm]; exact (Kd.R_reads' HO_9.out).2.1); rintro e w' ⟨rfl, ⟨nd, rfl⟩⟩; refine ⟨_, rfl, ?_⟩; have hnb73 := NB377_391.out; have hnc73 := NB391_377.out; have hcz74_0 : w72.cell? ⟨gb377, 0, none⟩ = some (.slice A0_0 l0_0.length c0_0) := (blk_cell BK377.out 0).trans rfl; have hfz74_0 := blk_frozen BK377.out 0) | ((with_reducible refine gate_callee (f := 13) rfl ?_); refine goesL_ (some 74) rfl rfl Try.func13 (by kernel_rfl) rfl #[.agg #[.slice A0_0 l0_0.length c0_0]] rfl zl ?_; (with_reducible refine (laws_toPool.calls kj25 _ _ l0_0 t415 _ ?side1 ?side2 A65.out).mono ?_); (case side1 => exact zc (Kd.C_below HR0_0.out (zb HB.out))); (case side2 => exact HC0_0.out); rintro e w75 ⟨v416, rfl, ho0, hb⟩; refine ⟨_, rfl, ?_⟩; have n0_ := Aside0.mk (Kd.R_below (zr HO_6.out) hb); have n1_ := Aside0.mk (Kd.R_below (zr HO_9.out) hb); have n2_ := Aside0.mk (Kd.R_elder' (zr HO_392000.out) (Kd.R_base ho0) hb); have n3_ := Aside0.mk (Kd.R_lower (Kd.R_new' ho0 (Kd.R_lt (zr HO_392000.out))) (below_size (zb HB.out))); have n4_ := Aside0.mk (blk_below (zh BK377.out) hb); have n5_ := Aside0.mk (blk_below (zh BK391.out) hb); have n6_ := Aside0.mk (below_step (zb HB.out) hb); clear HO_6; clear HO_9; clear HO_392000; clear BK377; clear BK391; clear HB; have HO_6 := n0_; have HO_9 := n1_; have HO_392000 := n2_; have HO417 := n3_; have BK377 := n4_; have BK391 := n5_; have HB := n6_; clear n0_ n1_ n2_ n3_ n4_ n5_ n6_; (try clear hb); (try clear hb2); (try clear hk); (try clear hi); (try clear ho0)) | ((with_reducible refine gate_callee (f := 14) rfl ?_); refine goesL_ (some 76) rfl rfl Try.func14 (by kernel_rfl) rfl #[.slice A1 l1.length c1] rfl zl ?_; (with_reducible refine (laws_toIntS.calls kj25 _ _ l1 t418 _ ?side1 ?side2 A66.out).mono ?_); (case side1 => exact zc (Kd.C_below HR1.out HB.out)); (case side2 => exact HC1.out); rintro e w76 ⟨v419, rfl, ho0, hb⟩; refine ⟨_, rfl, ?_⟩; have n0_ := Aside0.mk (Kd.R_elder' (zr HO_6.out) (Kd.R_base ho0) hb); have n1_ := Aside0.mk (Kd.R_elder' (zr HO_9.out) (Kd.R_base ho0) hb); have n2_ := Aside0.mk (Kd.R_below (zr HO_392000.out) hb); have n3_ := Aside0.mk (Kd.R_below (zr HO417.out) hb); have n4_ := Aside0.mk (Kd.R_lower (Kd.R_new' (Kd.R_new' ho0 (Kd.R_lt (zr HO_6.out))) (Kd.R_lt (zr HO_9.out))) (below_size (zb HB.out))); have n5_ := Aside0.mk (blk_below (zh BK377.out) hb); have n6_ := Aside0.mk (blk_below (zh BK391.out) hb); have n7_ := Aside0.mk (below_step (zb HB.out) hb); clear HO_6; clear HO_9; clear HO_392000; clear HO417; clear BK377; clear BK391; clear HB; have HO_6 := n0_; have HO_9 := n1_; have HO_392000 := n2_; have HO417 := n3_; have HO420 := n4_; have BK377 := n5_; have BK391 := n6_; have HB := n7_; clear n0_ n1_ n2_ n3_ n4_ n5_ n6_ n7_; (try clear hb); (try clear hb2); (try clear hk); (try clear hi); (try clear ho0); obtain ⟨Ao77, co77, eo77⟩ := Kd.R_slice HO417.out; subst eo77; obtain ⟨Ao78, co78, eo78⟩ := Kd.R_slice HO420.out; subst eo78) | ((with_reducible refine gate_callee (f := 26) rfl ?_); refine goesL_ (some 77) rfl rfl Try.func26 (by kernel_rfl) rfl #[.agg #[.slice Ao77 t415.length co77], .slice Ao78 t418.length co78] rfl zl ?_; (with_reducible refine (impl_MakesList.calls kj25 _ _ t415 _ _ t418 t421 _ ?side1 ?side2 ?side3 ?side4 A67.out).mono ?_); (case side1 => exact zc (Kd.R_reads' HO417.out).2.2); (case side2 => exact (Kd.R_reads' HO417.out).2.1); (case side3 => exact zc (Kd.R_reads' HO420.out).2.2); (case side4 => exact (Kd.R_reads' HO420.out).2.1); rintro e w79 ⟨v422, rfl, ho0, hb⟩; refine ⟨_, rfl, ?_⟩; have n0_ := Aside0.mk (Kd.R_elder' (zr HO_6.out) (Kd.R_base ho0) hb); have n1_ := Aside0.mk (Kd.R_elder' (zr HO_9.out) (Kd.R_base ho0) hb); have n2_ := Aside0.mk (Kd.R_below (zr HO_392000.out) hb); have n3_ := Aside0.mk (Kd.R_below (zr HO417.out) hb); have n4_ := Aside0.mk (Kd.R_elder' (zr HO420.out) (Kd.R_base ho0) hb); have n5_ := Aside0.mk (Kd.R_lower (Kd.R_new' (Kd.R_new' (Kd.R_new' ho0 (Kd.R_lt (zr HO_6.out))) (Kd.R_lt (zr HO_9.out))) (Kd.R_lt (zr HO420.out))) (below_size (zb HB.out))); have n6_ := Aside0.mk (blk_below (zh BK377.out) hb); have n7_ := Aside0.mk (blk_below (zh BK391.out) hb); have n8_ := Aside0.mk (below_step (zb HB.out) hb); clear HO_6; clear HO_9; clear HO_392000; clear HO417; clear HO420; clear BK377; clear BK391; clear HB; have HO_6 := n0_; have HO_9 := n1_; have HO_392000 := n2_; have HO417 := n3_; have HO420 := n4_; have HO423 := n5_; have BK377 := n6_; have BK391 := n7_; have HB := n8_; clear n0_ n1_ n2_ n3_ n4_ n5_ n6_ n7_ n8_; (try clear hb); (try clear hb2); (try clear hk); (try clear hi); (try clear ho0); obtain ⟨Ao80, co80, eo80⟩ := Kd.R_slice HO423.out; subst eo80) | ((with_reducible refine gate_callee (f := 17) rfl ?_); refine goesL_ (some 80) rfl rfl Try.func17 (by kernel_rfl) rfl #[.slice Ao80 t421.length co80, .slice Ao47 t385.length co47] rfl zl ?_; (with_reducible refine (laws_eqIntS.calls kj25 _ _ t421 _ _ t385 true _ ?side1 ?side2 ?side3 ?side4 A68.out).mono ?_); (case side1 => exact zc (Kd.R_reads' HO423.out).2.2); (case side2 => exact (Kd.R_reads' HO423.out).2.1); (case side3 => exact zc (Kd.R_reads' HO_6.out).2.2); (case side4 => exact (Kd.R_reads' HO_6.out).2.1); rintro e w' ⟨rfl, ⟨nd, rfl⟩⟩; refine ⟨_, rfl, ?_⟩) | ((with_reducible refine gate_callee (f := 27) rfl ?_); refine goesL_ (some 84) rfl rfl Try.func27 (by kernel_rfl) rfl #[.slice Ao46 t413.length co46, .int .i64 1] rfl (by (try simp only [List.map_toArray, List.map_cons, List.map_nil]); first | done | (rw [show t413.length = t395.length from (Kd.R_reads' HO_9.out).1.symm] <;> rfl) | rfl | (simp only [List.length_drop, List.length_take]; rfl)) ?_; (with_reducible refine (laws_heldIntS.calls kj25 _ _ t413 1 t425 _ ?side1 ?side2 A70.out).mono ?_); (case side1 => exact zc (Kd.R_reads' HO_9.out).2.2); (case side2 => rw [show t413.length = t395.length from (Kd.R_reads' HO_9.out).1.symm]; exact (Kd.R_reads' HO_9.out).2.1); rintro e w' ⟨rfl, ⟨nd, rfl⟩⟩; refine ⟨_, rfl, ?_⟩))
             go_ret
             exact ⟨ze, zb HB.out⟩
            ·rw [if_neg c71] at H
             have c71b0 : decide (t425 < 0) = false := decide_eq_false c71
             clear c71
             by_cases c81 : t425 = t412
             ·rw [if_pos c81] at H
              have c81b0 : (t425 == t412) = true := beq_iff_eq.mpr c81
              have c81b1 : (t425 != t412) = false := bne_eq_false_iff_eq.mpr c81
              clear c81
              obtain rfl := Option.some.inj H
              go_wp2_with (first | ((with_reducible refine gate_callee (f := 22) rfl ?_); refine goesL_ (some 64) rfl rfl Try.func22 (by kernel_rfl) rfl #[.slice Ao46 t395.length co46, .int .i64 1] rfl zl ?_; (with_reducible refine (laws_markIntS.calls kj25 (fun k_ => some k_ = (.slice Ao46 t395.length co46 : Value).ownBlock) (.slice Ao46 t395.length co46) t395 1 t412 t413 w _ ?side1 ?side2 A60.out).mono ?_); (case side1 => repeat (first | (with_reducible first | exact HB.out | apply below_alloc | apply pw_below_drewN | apply below_drew1 | refine below_set ?_ GE377.out | refine below_set ?_ GE391.out) | exact HB.out)); (case side2 => exact Kd.R_tight rfl HO_9.out); rintro e w82 ⟨rfl, hy0, hb, hkp⟩; refine ⟨_, rfl, ?_⟩; have n0_ := Aside0.mk (Kd.R_mono (ok' := fun k_ => some k_ ≠ (.slice Ao46 t395.length co46 : Value).ownBlock) (Kd.R_keptB (HO_6.out) hkp (fun k_ hk_ hs_ => by first | exact (hk_) hs_ | (revert hk_; simp only [and_imp]; intros; exact absurd hs_ (by assumption)))) (fun k_ hk_ => by first | exact hk_.1 | (revert hk_; simp only [and_imp]; intros; and_intros <;> assumption))); have n1_ := Aside0.mk (Kd.R_reok rfl hy0 (fun k_ e_ => HO_9.out.1 k_ e_)); have n2_ := Aside0.mk (Kd.R_mono (ok' := fun k_ => True) (Kd.R_keptB ((Kd.R_apart' HO_392000.out (Kd.R_typed HO_9.out) (by decide))) hkp (fun k_ hk_ hs_ => by first | exact (hk_.2) hs_ | (revert hk_; simp only [and_imp]; intros; exact absurd hs_ (by assumption)))) (fun k_ hk_ => trivial)); have n3_ := Aside0.mk (blk_kept (zh BK377.out) hkp (fun hs_ => (fun e_ => (Kd.R_ne HO_9.out BK377.out (by decide)) e_) hs_)); have n4_ := Aside0.mk (blk_kept (zh BK391.out) hkp (fun hs_ => (fun e_ => (Kd.R_ne HO_9.out BK391.out (by decide)) e_) hs_)); have n5_ := Aside0.mk (hb); clear HO_6; clear HO_9; clear HO_392000; clear BK377; clear BK391; clear HB; have HO_6 := n0_; have HO_9 := n1_; have HO_392000 := n2_; have BK377 := n3_; have BK391 := n4_; have HB := n5_; clear n0_ n1_ n2_ n3_ n4_ n5_; (try clear hb); (try clear hkp); (try clear hy0)) | ((with_reducible refine gate_callee (f := 27) rfl ?_); refine goesL_ (some 67) rfl rfl Try.func27 (by kernel_rfl) rfl #[.slice Ao46 t413.length co46, .int .i64 1] rfl (by (try simp only [List.map_toArray, List.map_cons, List.map_nil]); first | done | (rw [show t413.length = t395.length from (Kd.R_reads' HO_9.out).1.symm] <;> rfl) | rfl | (simp only [List.length_drop, List.length_take]; rfl)) ?_; (with_reducible refine (laws_heldIntS.calls kj25 _ _ t413 1 t414 _ ?side1 ?side2 A61.out).mono ?_); (case side1 => exact zc (Kd.R_reads' HO_9.out).2.2); (case side2 => rw [show t413.length = t395.length from (Kd.R_reads' HO_9.out).1.symm]; exact (Kd.R_reads' HO_9.out).2.1); rintro e w' ⟨rfl, ⟨nd, rfl⟩⟩; refine ⟨_, rfl, ?_⟩; have hnb83 := NB377_391.out; have hnc83 := NB391_377.out; have hcz84_0 : w82.cell? ⟨gb377, 0, none⟩ = some (.slice A0_0 l0_0.length c0_0) := (blk_cell BK377.out 0).trans rfl; have hfz84_0 := blk_frozen BK377.out 0) | ((with_reducible refine gate_callee (f := 13) rfl ?_); refine goesL_ (some 74) rfl rfl Try.func13 (by kernel_rfl) rfl #[.agg #[.slice A0_0 l0_0.length c0_0]] rfl zl ?_; (with_reducible refine (laws_toPool.calls kj25 _ _ l0_0 t415 _ ?side1 ?side2 A65.out).mono ?_); (case side1 => exact zc (Kd.C_below HR0_0.out (zb HB.out))); (case side2 => exact HC0_0.out); rintro e w85 ⟨v416, rfl, ho0, hb⟩; refine ⟨_, rfl, ?_⟩; have n0_ := Aside0.mk (Kd.R_below (zr HO_6.out) hb); have n1_ := Aside0.mk (Kd.R_below (zr HO_9.out) hb); have n2_ := Aside0.mk (Kd.R_elder' (zr HO_392000.out) (Kd.R_base ho0) hb); have n3_ := Aside0.mk (Kd.R_lower (Kd.R_new' ho0 (Kd.R_lt (zr HO_392000.out))) (below_size (zb HB.out))); have n4_ := Aside0.mk (blk_below (zh BK377.out) hb); have n5_ := Aside0.mk (blk_below (zh BK391.out) hb); have n6_ := Aside0.mk (below_step (zb HB.out) hb); clear HO_6; clear HO_9; clear HO_392000; clear BK377; clear BK391; clear HB; have HO_6 := n0_; have HO_9 := n1_; have HO_392000 := n2_; have HO417 := n3_; have BK377 := n4_; have BK391 := n5_; have HB := n6_; clear n0_ n1_ n2_ n3_ n4_ n5_ n6_; (try clear hb); (try clear hb2); (try clear hk); (try clear hi); (try clear ho0)) | ((with_reducible refine gate_callee (f := 14) rfl ?_); refine goesL_ (some 76) rfl rfl Try.func14 (by kernel_rfl) rfl #[.slice A1 l1.length c1] rfl zl ?_; (with_reducible refine (laws_toIntS.calls kj25 _ _ l1 t418 _ ?side1 ?side2 A66.out).mono ?_); (case side1 => exact zc (Kd.C_below HR1.out HB.out)); (case side2 => exact HC1.out); rintro e w86 ⟨v419, rfl, ho0, hb⟩; refine ⟨_, rfl, ?_⟩; have n0_ := Aside0.mk (Kd.R_elder' (zr HO_6.out) (Kd.R_base ho0) hb); have n1_ := Aside0.mk (Kd.R_elder' (zr HO_9.out) (Kd.R_base ho0) hb); have n2_ := Aside0.mk (Kd.R_below (zr HO_392000.out) hb); have n3_ := Aside0.mk (Kd.R_below (zr HO417.out) hb); have n4_ := Aside0.mk (Kd.R_lower (Kd.R_new' (Kd.R_new' ho0 (Kd.R_lt (zr HO_6.out))) (Kd.R_lt (zr HO_9.out))) (below_size (zb HB.out))); have n5_ := Aside0.mk (blk_below (zh BK377.out) hb); have n6_ := Aside0.mk (blk_below (zh BK391.out) hb); have n7_ := Aside0.mk (below_step (zb HB.out) hb); clear HO_6; clear HO_9; clear HO_392000; clear HO417; clear BK377; clear BK391; clear HB; have HO_6 := n0_; have HO_9 := n1_; have HO_392000 := n2_; have HO417 := n3_; have HO420 := n4_; have BK377 := n5_; have BK391 := n6_; have HB := n7_; clear n0_ n1_ n2_ n3_ n4_ n5_ n6_ n7_; (try clear hb); (try clear hb2); (try clear hk); (try clear hi); (try clear ho0); obtain ⟨Ao87, co87, eo87⟩ := Kd.R_slice HO417.out; subst eo87; obtain ⟨Ao88, co88, eo88⟩ := Kd.R_slice HO420.out; subst eo88) | ((with_reducible refine gate_callee (f := 26) rfl ?_); refine goesL_ (some 77) rfl rfl Try.func26 (by kernel_rfl) rfl #[.agg #[.slice Ao87 t415.length co87], .slice Ao88 t418.length co88] rfl zl ?_; (with_reducible refine (impl_MakesList.calls kj25 _ _ t415 _ _ t418 t421 _ ?side1 ?side2 ?side3 ?side4 A67.out).mono ?_); (case side1 => exact zc (Kd.R_reads' HO417.out).2.2); (case side2 => exact (Kd.R_reads' HO417.out).2.1); (case side3 => exact zc (Kd.R_reads' HO420.out).2.2); (case side4 => exact (Kd.R_reads' HO420.out).2.1); rintro e w89 ⟨v422, rfl, ho0, hb⟩; refine ⟨_, rfl, ?_⟩; have n0_ := Aside0.mk (Kd.R_elder' (zr HO_6.out) (Kd.R_base ho0) hb); have n1_ := Aside0.mk (Kd.R_elder' (zr HO_9.out) (Kd.R_base ho0) hb); have n2_ := Aside0.mk (Kd.R_below (zr HO_392000.out) hb); have n3_ := Aside0.mk (Kd.R_below (zr HO417.out) hb); have n4_ := Aside0.mk (Kd.R_elder' (zr HO420.out) (Kd.R_base ho0) hb); have n5_ := Aside0.mk (Kd.R_lower (Kd.R_new' (Kd.R_new' (Kd.R_new' ho0 (Kd.R_lt (zr HO_6.out))) (Kd.R_lt (zr HO_9.out))) (Kd.R_lt (zr HO420.out))) (below_size (zb HB.out))); have n6_ := Aside0.mk (blk_below (zh BK377.out) hb); have n7_ := Aside0.mk (blk_below (zh BK391.out) hb); have n8_ := Aside0.mk (below_step (zb HB.out) hb); clear HO_6; clear HO_9; clear HO_392000; clear HO417; clear HO420; clear BK377; clear BK391; clear HB; have HO_6 := n0_; have HO_9 := n1_; have HO_392000 := n2_; have HO417 := n3_; have HO420 := n4_; have HO423 := n5_; have BK377 := n6_; have BK391 := n7_; have HB := n8_; clear n0_ n1_ n2_ n3_ n4_ n5_ n6_ n7_ n8_; (try clear hb); (try clear hb2); (try clear hk); (try clear hi); (try clear ho0); obtain ⟨Ao90, co90, eo90⟩ := Kd.R_slice HO423.out; subst eo90) | ((with_reducible refine gate_callee (f := 17) rfl ?_); refine goesL_ (some 80) rfl rfl Try.func17 (by kernel_rfl) rfl #[.slice Ao90 t421.length co90, .slice Ao47 t385.length co47] rfl zl ?_; (with_reducible refine (laws_eqIntS.calls kj25 _ _ t421 _ _ t385 true _ ?side1 ?side2 ?side3 ?side4 A68.out).mono ?_); (case side1 => exact zc (Kd.R_reads' HO423.out).2.2); (case side2 => exact (Kd.R_reads' HO423.out).2.1); (case side3 => exact zc (Kd.R_reads' HO_6.out).2.2); (case side4 => exact (Kd.R_reads' HO_6.out).2.1); rintro e w' ⟨rfl, ⟨nd, rfl⟩⟩; refine ⟨_, rfl, ?_⟩) | ((with_reducible refine gate_callee (f := 27) rfl ?_); refine goesL_ (some 84) rfl rfl Try.func27 (by kernel_rfl) rfl #[.slice Ao46 t413.length co46, .int .i64 1] rfl (by (try simp only [List.map_toArray, List.map_cons, List.map_nil]); first | done | (rw [show t413.length = t395.length from (Kd.R_reads' HO_9.out).1.symm] <;> rfl) | rfl | (simp only [List.length_drop, List.length_take]; rfl)) ?_; (with_reducible refine (laws_heldIntS.calls kj25 _ _ t413 1 t425 _ ?side1 ?side2 A70.out).mono ?_); (case side1 => exact zc (Kd.R_reads' HO_9.out).2.2); (case side2 => rw [show t413.length = t395.length from (Kd.R_reads' HO_9.out).1.symm]; exact (Kd.R_reads' HO_9.out).2.1); rintro e w' ⟨rfl, ⟨nd, rfl⟩⟩; refine ⟨_, rfl, ?_⟩))
              go_ret
              exact ⟨ze, zb HB.out⟩
             ·rw [if_neg c81] at H
              have c81b0 : (t425 == t412) = false := beq_eq_false_iff_ne.mpr c81
              have c81b1 : (t425 != t412) = true := bne_iff_ne.mpr c81
              obtain rfl := Option.some.inj H
              go_wp2_with (first | ((with_reducible refine gate_callee (f := 22) rfl ?_); refine goesL_ (some 64) rfl rfl Try.func22 (by kernel_rfl) rfl #[.slice Ao46 t395.length co46, .int .i64 1] rfl zl ?_; (with_reducible refine (laws_markIntS.calls kj25 (fun k_ => some k_ = (.slice Ao46 t395.length co46 : Value).ownBlock) (.slice Ao46 t395.length co46) t395 1 t412 t413 w _ ?side1 ?side2 A60.out).mono ?_); (case side1 => repeat (first | (with_reducible first | exact HB.out | apply below_alloc | apply pw_below_drewN | apply below_drew1 | refine below_set ?_ GE377.out | refine below_set ?_ GE391.out) | exact HB.out)); (case side2 => exact Kd.R_tight rfl HO_9.out); rintro e w91 ⟨rfl, hy0, hb, hkp⟩; refine ⟨_, rfl, ?_⟩; have n0_ := Aside0.mk (Kd.R_mono (ok' := fun k_ => some k_ ≠ (.slice Ao46 t395.length co46 : Value).ownBlock) (Kd.R_keptB (HO_6.out) hkp (fun k_ hk_ hs_ => by first | exact (hk_) hs_ | (revert hk_; simp only [and_imp]; intros; exact absurd hs_ (by assumption)))) (fun k_ hk_ => by first | exact hk_.1 | (revert hk_; simp only [and_imp]; intros; and_intros <;> assumption))); have n1_ := Aside0.mk (Kd.R_reok rfl hy0 (fun k_ e_ => HO_9.out.1 k_ e_)); have n2_ := Aside0.mk (Kd.R_mono (ok' := fun k_ => True) (Kd.R_keptB ((Kd.R_apart' HO_392000.out (Kd.R_typed HO_9.out) (by decide))) hkp (fun k_ hk_ hs_ => by first | exact (hk_.2) hs_ | (revert hk_; simp only [and_imp]; intros; exact absurd hs_ (by assumption)))) (fun k_ hk_ => trivial)); have n3_ := Aside0.mk (blk_kept (zh BK377.out) hkp (fun hs_ => (fun e_ => (Kd.R_ne HO_9.out BK377.out (by decide)) e_) hs_)); have n4_ := Aside0.mk (blk_kept (zh BK391.out) hkp (fun hs_ => (fun e_ => (Kd.R_ne HO_9.out BK391.out (by decide)) e_) hs_)); have n5_ := Aside0.mk (hb); clear HO_6; clear HO_9; clear HO_392000; clear BK377; clear BK391; clear HB; have HO_6 := n0_; have HO_9 := n1_; have HO_392000 := n2_; have BK377 := n3_; have BK391 := n4_; have HB := n5_; clear n0_ n1_ n2_ n3_ n4_ n5_; (try clear hb); (try clear hkp); (try clear hy0)) | ((with_reducible refine gate_callee (f := 27) rfl ?_); refine goesL_ (some 67) rfl rfl Try.func27 (by kernel_rfl) rfl #[.slice Ao46 t413.length co46, .int .i64 1] rfl (by (try simp only [List.map_toArray, List.map_cons, List.map_nil]); first | done | (rw [show t413.length = t395.length from (Kd.R_reads' HO_9.out).1.symm] <;> rfl) | rfl | (simp only [List.length_drop, List.length_take]; rfl)) ?_; (with_reducible refine (laws_heldIntS.calls kj25 _ _ t413 1 t414 _ ?side1 ?side2 A61.out).mono ?_); (case side1 => exact zc (Kd.R_reads' HO_9.out).2.2); (case side2 => rw [show t413.length = t395.length from (Kd.R_reads' HO_9.out).1.symm]; exact (Kd.R_reads' HO_9.out).2.1); rintro e w' ⟨rfl, ⟨nd, rfl⟩⟩; refine ⟨_, rfl, ?_⟩; have hnb92 := NB377_391.out; have hnc92 := NB391_377.out; have hcz93_0 : w91.cell? ⟨gb377, 0, none⟩ = some (.slice A0_0 l0_0.length c0_0) := (blk_cell BK377.out 0).trans rfl; have hfz93_0 := blk_frozen BK377.out 0) | ((with_reducible refine gate_callee (f := 13) rfl ?_); refine goesL_ (some 74) rfl rfl Try.func13 (by kernel_rfl) rfl #[.agg #[.slice A0_0 l0_0.length c0_0]] rfl zl ?_; (with_reducible refine (laws_toPool.calls kj25 _ _ l0_0 t415 _ ?side1 ?side2 A65.out).mono ?_); (case side1 => exact zc (Kd.C_below HR0_0.out (zb HB.out))); (case side2 => exact HC0_0.out); rintro e w94 ⟨v416, rfl, ho0, hb⟩; refine ⟨_, rfl, ?_⟩; have n0_ := Aside0.mk (Kd.R_below (zr HO_6.out) hb); have n1_ := Aside0.mk (Kd.R_below (zr HO_9.out) hb); have n2_ := Aside0.mk (Kd.R_elder' (zr HO_392000.out) (Kd.R_base ho0) hb); have n3_ := Aside0.mk (Kd.R_lower (Kd.R_new' ho0 (Kd.R_lt (zr HO_392000.out))) (below_size (zb HB.out))); have n4_ := Aside0.mk (blk_below (zh BK377.out) hb); have n5_ := Aside0.mk (blk_below (zh BK391.out) hb); have n6_ := Aside0.mk (below_step (zb HB.out) hb); clear HO_6; clear HO_9; clear HO_392000; clear BK377; clear BK391; clear HB; have HO_6 := n0_; have HO_9 := n1_; have HO_392000 := n2_; have HO417 := n3_; have BK377 := n4_; have BK391 := n5_; have HB := n6_; clear n0_ n1_ n2_ n3_ n4_ n5_ n6_; (try clear hb); (try clear hb2); (try clear hk); (try clear hi); (try clear ho0)) | ((with_reducible refine gate_callee (f := 14) rfl ?_); refine goesL_ (some 76) rfl rfl Try.func14 (by kernel_rfl) rfl #[.slice A1 l1.length c1] rfl zl ?_; (with_reducible refine (laws_toIntS.calls kj25 _ _ l1 t418 _ ?side1 ?side2 A66.out).mono ?_); (case side1 => exact zc (Kd.C_below HR1.out HB.out)); (case side2 => exact HC1.out); rintro e w95 ⟨v419, rfl, ho0, hb⟩; refine ⟨_, rfl, ?_⟩; have n0_ := Aside0.mk (Kd.R_elder' (zr HO_6.out) (Kd.R_base ho0) hb); have n1_ := Aside0.mk (Kd.R_elder' (zr HO_9.out) (Kd.R_base ho0) hb); have n2_ := Aside0.mk (Kd.R_below (zr HO_392000.out) hb); have n3_ := Aside0.mk (Kd.R_below (zr HO417.out) hb); have n4_ := Aside0.mk (Kd.R_lower (Kd.R_new' (Kd.R_new' ho0 (Kd.R_lt (zr HO_6.out))) (Kd.R_lt (zr HO_9.out))) (below_size (zb HB.out))); have n5_ := Aside0.mk (blk_below (zh BK377.out) hb); have n6_ := Aside0.mk (blk_below (zh BK391.out) hb); have n7_ := Aside0.mk (below_step (zb HB.out) hb); clear HO_6; clear HO_9; clear HO_392000; clear HO417; clear BK377; clear BK391; clear HB; have HO_6 := n0_; have HO_9 := n1_; have HO_392000 := n2_; have HO417 := n3_; have HO420 := n4_; have BK377 := n5_; have BK391 := n6_; have HB := n7_; clear n0_ n1_ n2_ n3_ n4_ n5_ n6_ n7_; (try clear hb); (try clear hb2); (try clear hk); (try clear hi); (try clear ho0); obtain ⟨Ao96, co96, eo96⟩ := Kd.R_slice HO417.out; subst eo96; obtain ⟨Ao97, co97, eo97⟩ := Kd.R_slice HO420.out; subst eo97) | ((with_reducible refine gate_callee (f := 26) rfl ?_); refine goesL_ (some 77) rfl rfl Try.func26 (by kernel_rfl) rfl #[.agg #[.slice Ao96 t415.length co96], .slice Ao97 t418.length co97] rfl zl ?_; (with_reducible refine (impl_MakesList.calls kj25 _ _ t415 _ _ t418 t421 _ ?side1 ?side2 ?side3 ?side4 A67.out).mono ?_); (case side1 => exact zc (Kd.R_reads' HO417.out).2.2); (case side2 => exact (Kd.R_reads' HO417.out).2.1); (case side3 => exact zc (Kd.R_reads' HO420.out).2.2); (case side4 => exact (Kd.R_reads' HO420.out).2.1); rintro e w98 ⟨v422, rfl, ho0, hb⟩; refine ⟨_, rfl, ?_⟩; have n0_ := Aside0.mk (Kd.R_elder' (zr HO_6.out) (Kd.R_base ho0) hb); have n1_ := Aside0.mk (Kd.R_elder' (zr HO_9.out) (Kd.R_base ho0) hb); have n2_ := Aside0.mk (Kd.R_below (zr HO_392000.out) hb); have n3_ := Aside0.mk (Kd.R_below (zr HO417.out) hb); have n4_ := Aside0.mk (Kd.R_elder' (zr HO420.out) (Kd.R_base ho0) hb); have n5_ := Aside0.mk (Kd.R_lower (Kd.R_new' (Kd.R_new' (Kd.R_new' ho0 (Kd.R_lt (zr HO_6.out))) (Kd.R_lt (zr HO_9.out))) (Kd.R_lt (zr HO420.out))) (below_size (zb HB.out))); have n6_ := Aside0.mk (blk_below (zh BK377.out) hb); have n7_ := Aside0.mk (blk_below (zh BK391.out) hb); have n8_ := Aside0.mk (below_step (zb HB.out) hb); clear HO_6; clear HO_9; clear HO_392000; clear HO417; clear HO420; clear BK377; clear BK391; clear HB; have HO_6 := n0_; have HO_9 := n1_; have HO_392000 := n2_; have HO417 := n3_; have HO420 := n4_; have HO423 := n5_; have BK377 := n6_; have BK391 := n7_; have HB := n8_; clear n0_ n1_ n2_ n3_ n4_ n5_ n6_ n7_ n8_; (try clear hb); (try clear hb2); (try clear hk); (try clear hi); (try clear ho0); obtain ⟨Ao99, co99, eo99⟩ := Kd.R_slice HO423.out; subst eo99) | ((with_reducible refine gate_callee (f := 17) rfl ?_); refine goesL_ (some 80) rfl rfl Try.func17 (by kernel_rfl) rfl #[.slice Ao99 t421.length co99, .slice Ao47 t385.length co47] rfl zl ?_; (with_reducible refine (laws_eqIntS.calls kj25 _ _ t421 _ _ t385 true _ ?side1 ?side2 ?side3 ?side4 A68.out).mono ?_); (case side1 => exact zc (Kd.R_reads' HO423.out).2.2); (case side2 => exact (Kd.R_reads' HO423.out).2.1); (case side3 => exact zc (Kd.R_reads' HO_6.out).2.2); (case side4 => exact (Kd.R_reads' HO_6.out).2.1); rintro e w' ⟨rfl, ⟨nd, rfl⟩⟩; refine ⟨_, rfl, ?_⟩) | ((with_reducible refine gate_callee (f := 27) rfl ?_); refine goesL_ (some 84) rfl rfl Try.func27 (by kernel_rfl) rfl #[.slice Ao46 t413.length co46, .int .i64 1] rfl (by (try simp only [List.map_toArray, List.map_cons, List.map_nil]); first | done | (rw [show t413.length = t395.length from (Kd.R_reads' HO_9.out).1.symm] <;> rfl) | rfl | (simp only [List.length_drop, List.length_take]; rfl)) ?_; (with_reducible refine (laws_heldIntS.calls kj25 _ _ t413 1 t425 _ ?side1 ?side2 A70.out).mono ?_); (case side1 => exact zc (Kd.R_reads' HO_9.out).2.2); (case side2 => rw [show t413.length = t395.length from (Kd.R_reads' HO_9.out).1.symm]; exact (Kd.R_reads' HO_9.out).2.1); rintro e w' ⟨rfl, ⟨nd, rfl⟩⟩; refine ⟨_, rfl, ?_⟩))
              go_ret
              exact ⟨ze, zb HB.out⟩
           ·replace c69 := Bool.eq_false_iff.mpr c69
            subst c69
            have H1 : (some false) = some r := by rw [if_neg (show ¬ (false = true) by decide)] at H; exact H
            clear H
            have H := H1
            clear H1
            obtain rfl := Option.some.inj H
            go_wp2_with (first | ((with_reducible refine gate_callee (f := 22) rfl ?_); refine goesL_ (some 64) rfl rfl Try.func22 (by kernel_rfl) rfl #[.slice Ao46 t395.length co46, .int .i64 1] rfl zl ?_; (with_reducible refine (laws_markIntS.calls kj25 (fun k_ => some k_ = (.slice Ao46 t395.length co46 : Value).ownBlock) (.slice Ao46 t395.length co46) t395 1 t412 t413 w _ ?side1 ?side2 A60.out).mono ?_); (case side1 => repeat (first | (with_reducible first | exact HB.out | apply below_alloc | apply pw_below_drewN | apply below_drew1 | refine below_set ?_ GE377.out | refine below_set ?_ GE391.out) | exact HB.out)); (case side2 => exact Kd.R_tight rfl HO_9.out); rintro e w100 ⟨rfl, hy0, hb, hkp⟩; refine ⟨_, rfl, ?_⟩; have n0_ := Aside0.mk (Kd.R_mono (ok' := fun k_ => some k_ ≠ (.slice Ao46 t395.length co46 : Value).ownBlock) (Kd.R_keptB (HO_6.out) hkp (fun k_ hk_ hs_ => by first | exact (hk_) hs_ | (revert hk_; simp only [and_imp]; intros; exact absurd hs_ (by assumption)))) (fun k_ hk_ => by first | exact hk_.1 | (revert hk_; simp only [and_imp]; intros; and_intros <;> assumption))); have n1_ := Aside0.mk (Kd.R_reok rfl hy0 (fun k_ e_ => HO_9.out.1 k_ e_)); have n2_ := Aside0.mk (Kd.R_mono (ok' := fun k_ => True) (Kd.R_keptB ((Kd.R_apart' HO_392000.out (Kd.R_typed HO_9.out) (by decide))) hkp (fun k_ hk_ hs_ => by first | exact (hk_.2) hs_ | (revert hk_; simp only [and_imp]; intros; exact absurd hs_ (by assumption)))) (fun k_ hk_ => trivial)); have n3_ := Aside0.mk (blk_kept (zh BK377.out) hkp (fun hs_ => (fun e_ => (Kd.R_ne HO_9.out BK377.out (by decide)) e_) hs_)); have n4_ := Aside0.mk (blk_kept (zh BK391.out) hkp (fun hs_ => (fun e_ => (Kd.R_ne HO_9.out BK391.out (by decide)) e_) hs_)); have n5_ := Aside0.mk (hb); clear HO_6; clear HO_9; clear HO_392000; clear BK377; clear BK391; clear HB; have HO_6 := n0_; have HO_9 := n1_; have HO_392000 := n2_; have BK377 := n3_; have BK391 := n4_; have HB := n5_; clear n0_ n1_ n2_ n3_ n4_ n5_; (try clear hb); (try clear hkp); (try clear hy0)) | ((with_reducible refine gate_callee (f := 27) rfl ?_); refine goesL_ (some 67) rfl rfl Try.func27 (by kernel_rfl) rfl #[.slice Ao46 t413.length co46, .int .i64 1] rfl (by (try simp only [List.map_toArray, List.map_cons, List.map_nil]); first | done | (rw [show t413.length = t395.length from (Kd.R_reads' HO_9.out).1.symm] <;> rfl) | rfl | (simp only [List.length_drop, List.length_take]; rfl)) ?_; (with_reducible refine (laws_heldIntS.calls kj25 _ _ t413 1 t414 _ ?side1 ?side2 A61.out).mono ?_); (case side1 => exact zc (Kd.R_reads' HO_9.out).2.2); (case side2 => rw [show t413.length = t395.length from (Kd.R_reads' HO_9.out).1.symm]; exact (Kd.R_reads' HO_9.out).2.1); rintro e w' ⟨rfl, ⟨nd, rfl⟩⟩; refine ⟨_, rfl, ?_⟩; have hnb101 := NB377_391.out; have hnc101 := NB391_377.out; have hcz102_0 : w100.cell? ⟨gb377, 0, none⟩ = some (.slice A0_0 l0_0.length c0_0) := (blk_cell BK377.out 0).trans rfl; have hfz102_0 := blk_frozen BK377.out 0) | ((with_reducible refine gate_callee (f := 13) rfl ?_); refine goesL_ (some 74) rfl rfl Try.func13 (by kernel_rfl) rfl #[.agg #[.slice A0_0 l0_0.length c0_0]] rfl zl ?_; (with_reducible refine (laws_toPool.calls kj25 _ _ l0_0 t415 _ ?side1 ?side2 A65.out).mono ?_); (case side1 => exact zc (Kd.C_below HR0_0.out (zb HB.out))); (case side2 => exact HC0_0.out); rintro e w103 ⟨v416, rfl, ho0, hb⟩; refine ⟨_, rfl, ?_⟩; have n0_ := Aside0.mk (Kd.R_below (zr HO_6.out) hb); have n1_ := Aside0.mk (Kd.R_below (zr HO_9.out) hb); have n2_ := Aside0.mk (Kd.R_elder' (zr HO_392000.out) (Kd.R_base ho0) hb); have n3_ := Aside0.mk (Kd.R_lower (Kd.R_new' ho0 (Kd.R_lt (zr HO_392000.out))) (below_size (zb HB.out))); have n4_ := Aside0.mk (blk_below (zh BK377.out) hb); have n5_ := Aside0.mk (blk_below (zh BK391.out) hb); have n6_ := Aside0.mk (below_step (zb HB.out) hb); clear HO_6; clear HO_9; clear HO_392000; clear BK377; clear BK391; clear HB; have HO_6 := n0_; have HO_9 := n1_; have HO_392000 := n2_; have HO417 := n3_; have BK377 := n4_; have BK391 := n5_; have HB := n6_; clear n0_ n1_ n2_ n3_ n4_ n5_ n6_; (try clear hb); (try clear hb2); (try clear hk); (try clear hi); (try clear ho0)) | ((with_reducible refine gate_callee (f := 14) rfl ?_); refine goesL_ (some 76) rfl rfl Try.func14 (by kernel_rfl) rfl #[.slice A1 l1.length c1] rfl zl ?_; (with_reducible refine (laws_toIntS.calls kj25 _ _ l1 t418 _ ?side1 ?side2 A66.out).mono ?_); (case side1 => exact zc (Kd.C_below HR1.out HB.out)); (case side2 => exact HC1.out); rintro e w104 ⟨v419, rfl, ho0, hb⟩; refine ⟨_, rfl, ?_⟩; have n0_ := Aside0.mk (Kd.R_elder' (zr HO_6.out) (Kd.R_base ho0) hb); have n1_ := Aside0.mk (Kd.R_elder' (zr HO_9.out) (Kd.R_base ho0) hb); have n2_ := Aside0.mk (Kd.R_below (zr HO_392000.out) hb); have n3_ := Aside0.mk (Kd.R_below (zr HO417.out) hb); have n4_ := Aside0.mk (Kd.R_lower (Kd.R_new' (Kd.R_new' ho0 (Kd.R_lt (zr HO_6.out))) (Kd.R_lt (zr HO_9.out))) (below_size (zb HB.out))); have n5_ := Aside0.mk (blk_below (zh BK377.out) hb); have n6_ := Aside0.mk (blk_below (zh BK391.out) hb); have n7_ := Aside0.mk (below_step (zb HB.out) hb); clear HO_6; clear HO_9; clear HO_392000; clear HO417; clear BK377; clear BK391; clear HB; have HO_6 := n0_; have HO_9 := n1_; have HO_392000 := n2_; have HO417 := n3_; have HO420 := n4_; have BK377 := n5_; have BK391 := n6_; have HB := n7_; clear n0_ n1_ n2_ n3_ n4_ n5_ n6_ n7_; (try clear hb); (try clear hb2); (try clear hk); (try clear hi); (try clear ho0); obtain ⟨Ao105, co105, eo105⟩ := Kd.R_slice HO417.out; subst eo105; obtain ⟨Ao106, co106, eo106⟩ := Kd.R_slice HO420.out; subst eo106) | ((with_reducible refine gate_callee (f := 26) rfl ?_); refine goesL_ (some 77) rfl rfl Try.func26 (by kernel_rfl) rfl #[.agg #[.slice Ao105 t415.length co105], .slice Ao106 t418.length co106] rfl zl ?_; (with_reducible refine (impl_MakesList.calls kj25 _ _ t415 _ _ t418 t421 _ ?side1 ?side2 ?side3 ?side4 A67.out).mono ?_); (case side1 => exact zc (Kd.R_reads' HO417.out).2.2); (case side2 => exact (Kd.R_reads' HO417.out).2.1); (case side3 => exact zc (Kd.R_reads' HO420.out).2.2); (case side4 => exact (Kd.R_reads' HO420.out).2.1); rintro e w107 ⟨v422, rfl, ho0, hb⟩; refine ⟨_, rfl, ?_⟩; have n0_ := Aside0.mk (Kd.R_elder' (zr HO_6.out) (Kd.R_base ho0) hb); have n1_ := Aside0.mk (Kd.R_elder' (zr HO_9.out) (Kd.R_base ho0) hb); have n2_ := Aside0.mk (Kd.R_below (zr HO_392000.out) hb); have n3_ := Aside0.mk (Kd.R_below (zr HO417.out) hb); have n4_ := Aside0.mk (Kd.R_elder' (zr HO420.out) (Kd.R_base ho0) hb); have n5_ := Aside0.mk (Kd.R_lower (Kd.R_new' (Kd.R_new' (Kd.R_new' ho0 (Kd.R_lt (zr HO_6.out))) (Kd.R_lt (zr HO_9.out))) (Kd.R_lt (zr HO420.out))) (below_size (zb HB.out))); have n6_ := Aside0.mk (blk_below (zh BK377.out) hb); have n7_ := Aside0.mk (blk_below (zh BK391.out) hb); have n8_ := Aside0.mk (below_step (zb HB.out) hb); clear HO_6; clear HO_9; clear HO_392000; clear HO417; clear HO420; clear BK377; clear BK391; clear HB; have HO_6 := n0_; have HO_9 := n1_; have HO_392000 := n2_; have HO417 := n3_; have HO420 := n4_; have HO423 := n5_; have BK377 := n6_; have BK391 := n7_; have HB := n8_; clear n0_ n1_ n2_ n3_ n4_ n5_ n6_ n7_ n8_; (try clear hb); (try clear hb2); (try clear hk); (try clear hi); (try clear ho0); obtain ⟨Ao108, co108, eo108⟩ := Kd.R_slice HO423.out; subst eo108) | ((with_reducible refine gate_callee (f := 17) rfl ?_); refine goesL_ (some 80) rfl rfl Try.func17 (by kernel_rfl) rfl #[.slice Ao108 t421.length co108, .slice Ao47 t385.length co47] rfl zl ?_; (with_reducible refine (laws_eqIntS.calls kj25 _ _ t421 _ _ t385 false _ ?side1 ?side2 ?side3 ?side4 A68.out).mono ?_); (case side1 => exact zc (Kd.R_reads' HO423.out).2.2); (case side2 => exact (Kd.R_reads' HO423.out).2.1); (case side3 => exact zc (Kd.R_reads' HO_6.out).2.2); (case side4 => exact (Kd.R_reads' HO_6.out).2.1); rintro e w' ⟨rfl, ⟨nd, rfl⟩⟩; refine ⟨_, rfl, ?_⟩))
            go_ret
            exact ⟨ze, zb HB.out⟩
          ·rw [if_neg c64] at H
           have c64b0 : (t414 == t412) = false := beq_eq_false_iff_ne.mpr c64
           have c64b1 : (t414 != t412) = true := bne_iff_ne.mpr c64
           obtain rfl := Option.some.inj H
           go_wp2_with (first | ((with_reducible refine gate_callee (f := 22) rfl ?_); refine goesL_ (some 64) rfl rfl Try.func22 (by kernel_rfl) rfl #[.slice Ao46 t395.length co46, .int .i64 1] rfl zl ?_; (with_reducible refine (laws_markIntS.calls kj25 (fun k_ => some k_ = (.slice Ao46 t395.length co46 : Value).ownBlock) (.slice Ao46 t395.length co46) t395 1 t412 t413 w _ ?side1 ?side2 A60.out).mono ?_); (case side1 => repeat (first | (with_reducible first | exact HB.out | apply below_alloc | apply pw_below_drewN | apply below_drew1 | refine below_set ?_ GE377.out | refine below_set ?_ GE391.out) | exact HB.out)); (case side2 => exact Kd.R_tight rfl HO_9.out); rintro e w109 ⟨rfl, hy0, hb, hkp⟩; refine ⟨_, rfl, ?_⟩; have n0_ := Aside0.mk (Kd.R_mono (ok' := fun k_ => some k_ ≠ (.slice Ao46 t395.length co46 : Value).ownBlock) (Kd.R_keptB (HO_6.out) hkp (fun k_ hk_ hs_ => by first | exact (hk_) hs_ | (revert hk_; simp only [and_imp]; intros; exact absurd hs_ (by assumption)))) (fun k_ hk_ => by first | exact hk_.1 | (revert hk_; simp only [and_imp]; intros; and_intros <;> assumption))); have n1_ := Aside0.mk (Kd.R_reok rfl hy0 (fun k_ e_ => HO_9.out.1 k_ e_)); have n2_ := Aside0.mk (Kd.R_mono (ok' := fun k_ => True) (Kd.R_keptB ((Kd.R_apart' HO_392000.out (Kd.R_typed HO_9.out) (by decide))) hkp (fun k_ hk_ hs_ => by first | exact (hk_.2) hs_ | (revert hk_; simp only [and_imp]; intros; exact absurd hs_ (by assumption)))) (fun k_ hk_ => trivial)); have n3_ := Aside0.mk (blk_kept (zh BK377.out) hkp (fun hs_ => (fun e_ => (Kd.R_ne HO_9.out BK377.out (by decide)) e_) hs_)); have n4_ := Aside0.mk (blk_kept (zh BK391.out) hkp (fun hs_ => (fun e_ => (Kd.R_ne HO_9.out BK391.out (by decide)) e_) hs_)); have n5_ := Aside0.mk (hb); clear HO_6; clear HO_9; clear HO_392000; clear BK377; clear BK391; clear HB; have HO_6 := n0_; have HO_9 := n1_; have HO_392000 := n2_; have BK377 := n3_; have BK391 := n4_; have HB := n5_; clear n0_ n1_ n2_ n3_ n4_ n5_; (try clear hb); (try clear hkp); (try clear hy0)) | ((with_reducible refine gate_callee (f := 27) rfl ?_); refine goesL_ (some 67) rfl rfl Try.func27 (by kernel_rfl) rfl #[.slice Ao46 t413.length co46, .int .i64 1] rfl (by (try simp only [List.map_toArray, List.map_cons, List.map_nil]); first | done | (rw [show t413.length = t395.length from (Kd.R_reads' HO_9.out).1.symm] <;> rfl) | rfl | (simp only [List.length_drop, List.length_take]; rfl)) ?_; (with_reducible refine (laws_heldIntS.calls kj25 _ _ t413 1 t414 _ ?side1 ?side2 A61.out).mono ?_); (case side1 => exact zc (Kd.R_reads' HO_9.out).2.2); (case side2 => rw [show t413.length = t395.length from (Kd.R_reads' HO_9.out).1.symm]; exact (Kd.R_reads' HO_9.out).2.1); rintro e w' ⟨rfl, ⟨nd, rfl⟩⟩; refine ⟨_, rfl, ?_⟩))
           go_ret
           exact ⟨ze, zb HB.out⟩
     ·replace c23 := Bool.eq_false_iff.mpr c23
      subst c23
      have H1 : (some false) = some r := by rw [if_neg (show ¬ (false = true) by decide)] at H; exact H
      clear H
      have H := H1
      clear H1
      obtain rfl := Option.some.inj H
      go_enter Try.func5, Try.ntmps5
      try go_wp2_with (first | ((with_reducible refine gate_dst (N := 2) rfl ?_); refine box_event ?hg (N := 2) ?hd (cs := #[.slice A0_0 l0_0.length c0_0]) (t := 24) ?hr ?_; (case hd => rfl); (case hg => rfl); (case hr => first | (go_simp; done) | (go_simp; rfl)); intro gb377 hg w110 hbox hb; have n0_ := Aside0.mk (below_step (zb HB.out) hb); have n1_ := Aside0.mk (hbox); have n2_ := Aside0.mk ((by rw [hg]; exact (below_size (zb HB.out)) : w.heap.size ≤ gb377)); have n3_ := Aside0.mk ((by rw [hg]; exact (below_size (zb HB.out)) : w.heap.size ≤ gb377)); clear HB; have HB := n0_; have BK377 := n1_; have GW377 := n2_; have GE377 := n3_; clear n0_ n1_ n2_ n3_; clear hb hbox hg; have hcz111_0 : w110.cell? ⟨gb377, 0, none⟩ = some (.slice A0_0 l0_0.length c0_0) := (blk_cell BK377.out 0).trans rfl; have hfz111_0 := blk_frozen BK377.out 0) | ((with_reducible refine gate_callee (f := 11) rfl ?_); refine goesL_ (some 19) rfl rfl Try.func11 (by kernel_rfl) rfl #[.agg #[.slice A0_0 l0_0.length c0_0], .int .i64 1048576] rfl zl ?_; (with_reducible refine (laws_szPool.calls _ _ l0_0 1048576 t378 _ ?side1 ?side2 A5.out).mono ?_); (case side1 => exact zc (Kd.C_below HR0_0.out HB.out)); (case side2 => exact HC0_0.out); rintro e w112 ⟨rfl, hb⟩; refine ⟨_, rfl, ?_⟩; have n0_ := Aside0.mk (blk_below (zh BK377.out) hb); have n1_ := Aside0.mk (below_step (zb HB.out) hb); clear BK377; clear HB; have BK377 := n0_; have HB := n1_; clear n0_ n1_; (try clear hb); (try clear hb2); (try clear hk); (try clear hi); have hcz113_0 : w112.cell? ⟨gb377, 0, none⟩ = some (.slice A0_0 l0_0.length c0_0) := (blk_cell BK377.out 0).trans rfl; have hfz113_0 := blk_frozen BK377.out 0) | ((with_reducible refine gate_callee (f := 13) rfl ?_); refine goesL_ (some 23) rfl rfl Try.func13 (by kernel_rfl) rfl #[.agg #[.slice A0_0 l0_0.length c0_0]] rfl zl ?_; (with_reducible refine (laws_toPool.calls k _ _ l0_0 t379 _ ?side1 ?side2 A10.out).mono ?_); (case side1 => exact zc (Kd.C_below HR0_0.out HB.out)); (case side2 => exact HC0_0.out); rintro e w114 ⟨v380, rfl, ho0, hb⟩; refine ⟨_, rfl, ?_⟩; have n0_ := Aside0.mk (Kd.R_lower ho0 (below_size (zb HB.out))); have n1_ := Aside0.mk (blk_below (zh BK377.out) hb); have n2_ := Aside0.mk (below_step (zb HB.out) hb); clear BK377; clear HB; have HO381 := n0_; have BK377 := n1_; have HB := n2_; clear n0_ n1_ n2_; (try clear hb); (try clear hb2); (try clear hk); (try clear hi); (try clear ho0)) | ((with_reducible refine gate_callee (f := 14) rfl ?_); refine goesL_ (some 25) rfl rfl Try.func14 (by kernel_rfl) rfl #[.slice A1 l1.length c1] rfl zl ?_; (with_reducible refine (laws_toIntS.calls k _ _ l1 t382 _ ?side1 ?side2 A11.out).mono ?_); (case side1 => exact zc (Kd.C_below HR1.out HB.out)); (case side2 => exact HC1.out); rintro e w115 ⟨v383, rfl, ho0, hb⟩; refine ⟨_, rfl, ?_⟩; have n0_ := Aside0.mk (Kd.R_below (zr HO381.out) hb); have n1_ := Aside0.mk (Kd.R_lower ho0 (below_size (zb HB.out))); have n2_ := Aside0.mk (blk_below (zh BK377.out) hb); have n3_ := Aside0.mk (below_step (zb HB.out) hb); clear HO381; clear BK377; clear HB; have HO381 := n0_; have HO384 := n1_; have BK377 := n2_; have HB := n3_; clear n0_ n1_ n2_ n3_; (try clear hb); (try clear hb2); (try clear hk); (try clear hi); (try clear ho0); obtain ⟨Ao116, co116, eo116⟩ := Kd.R_slice HO381.out; subst eo116; obtain ⟨Ao117, co117, eo117⟩ := Kd.R_slice HO384.out; subst eo117) | ((with_reducible refine gate_callee (f := 25) rfl ?_); refine goesL_ (some 26) rfl rfl Try.func25 (by kernel_rfl) rfl #[.agg #[.slice Ao116 t379.length co116], .slice Ao117 t382.length co117] rfl zl ?_; (with_reducible refine (spec_MakesList.calls k _ _ t379 _ _ t382 t385 _ ?side1 ?side2 ?side3 ?side4 A12.out).mono ?_); (case side1 => exact zc (Kd.R_reads' HO381.out).2.2); (case side2 => exact (Kd.R_reads' HO381.out).2.1); (case side3 => exact zc (Kd.R_reads' HO384.out).2.2); (case side4 => exact (Kd.R_reads' HO384.out).2.1); rintro e w118 ⟨v386, rfl, ho0, hb⟩; refine ⟨_, rfl, ?_⟩; have n0_ := Aside0.mk (Kd.R_below (zr HO381.out) hb); have n1_ := Aside0.mk (Kd.R_elder' (zr HO384.out) (Kd.R_base ho0) hb); have n2_ := Aside0.mk (Kd.R_lower (Kd.R_new' ho0 (Kd.R_lt (zr HO384.out))) (below_size (zb HB.out))); have n3_ := Aside0.mk (blk_below (zh BK377.out) hb); have n4_ := Aside0.mk (below_step (zb HB.out) hb); clear HO381; clear HO384; clear BK377; clear HB; have HO381 := n0_; have HO384 := n1_; have HO387 := n2_; have BK377 := n3_; have HB := n4_; clear n0_ n1_ n2_ n3_ n4_; (try clear hb); (try clear hb2); (try clear hk); (try clear hi); (try clear ho0); have hcz119_0 : w118.cell? ⟨gb377, 0, none⟩ = some (.slice A0_0 l0_0.length c0_0) := (blk_cell BK377.out 0).trans rfl; have hfz119_0 := blk_frozen BK377.out 0) | ((with_reducible refine gate_callee (f := 13) rfl ?_); refine goesL_ (some 28) rfl rfl Try.func13 (by kernel_rfl) rfl #[.agg #[.slice A0_0 l0_0.length c0_0]] rfl zl ?_; (with_reducible refine (laws_toPool.calls k _ _ l0_0 t388 _ ?side1 ?side2 A13.out).mono ?_); (case side1 => exact zc (Kd.C_below HR0_0.out HB.out)); (case side2 => exact HC0_0.out); rintro e w120 ⟨v389, rfl, ho0, hb⟩; refine ⟨_, rfl, ?_⟩; have n0_ := Aside0.mk (Kd.R_elder' (zr HO381.out) (Kd.R_base ho0) hb); have n1_ := Aside0.mk (Kd.R_below (zr HO384.out) hb); have n2_ := Aside0.mk (Kd.R_below (zr HO387.out) hb); have n3_ := Aside0.mk (Kd.R_lower (Kd.R_new' ho0 (Kd.R_lt (zr HO381.out))) (below_size (zb HB.out))); have n4_ := Aside0.mk (blk_below (zh BK377.out) hb); have n5_ := Aside0.mk (below_step (zb HB.out) hb); clear HO381; clear HO384; clear HO387; clear BK377; clear HB; have HO381 := n0_; have HO384 := n1_; have HO387 := n2_; have HO390 := n3_; have BK377 := n4_; have HB := n5_; clear n0_ n1_ n2_ n3_ n4_ n5_; (try clear hb); (try clear hb2); (try clear hk); (try clear hi); (try clear ho0)) | ((with_reducible refine gate_dst (N := 7) rfl ?_); refine box_event ?hg (N := 7) ?hd (cs := #[.slice none 0 0]) (t := 30) ?hr ?_; (case hd => rfl); (case hg => rfl); (case hr => first | (go_simp; done) | (go_simp; rfl)); intro gb391 hg w121 hbox hb; have n0_ := Aside0.mk (Kd.R_below (zr HO381.out) hb); have n1_ := Aside0.mk (Kd.R_below (zr HO384.out) hb); have n2_ := Aside0.mk (Kd.R_below (zr HO387.out) hb); have n3_ := Aside0.mk (Kd.R_below (zr HO390.out) hb); have n4_ := Aside0.mk (blk_below (zh BK377.out) hb); have n5_ := Aside0.mk (below_step (zb HB.out) hb); have n6_ := Aside0.mk (hbox); have n7_ := Aside0.mk ((by rw [hg]; exact (below_size (zb HB.out)) : w.heap.size ≤ gb391)); have n8_ := Aside0.mk ((by rw [hg]; exact (below_size (zb HB.out)) : w.heap.size ≤ gb391)); have n9_ := Aside0.mk ((by rw [hg]; exact Nat.ne_of_lt (blk_lt (zh BK377.out)) : gb377 ≠ gb391)); have n10_ := Aside0.mk ((by rw [hg]; exact Nat.ne_of_gt (blk_lt (zh BK377.out)) : gb391 ≠ gb377)); clear HO381; clear HO384; clear HO387; clear HO390; clear BK377; clear HB; have HO381 := n0_; have HO384 := n1_; have HO387 := n2_; have HO390 := n3_; have BK377 := n4_; have HB := n5_; have BK391 := n6_; have GW391 := n7_; have GE391 := n8_; have NB377_391 := n9_; have NB391_377 := n10_; clear n0_ n1_ n2_ n3_ n4_ n5_ n6_ n7_ n8_ n9_ n10_; clear hb hbox hg; obtain ⟨Ao122, co122, eo122⟩ := Kd.R_slice HO390.out; subst eo122; have hnb123 := NB391_377.out; have hnc123 := NB377_391.out; have hcz124_0 : w121.cell? ⟨gb391, 0, none⟩ = some (.slice none 0 0) := (blk_cell BK391.out 0).trans rfl; have hfz124_0 := blk_frozen BK391.out 0) | ((with_reducible refine gate_callee (f := 14) rfl ?_); refine goesL_ (some 30) rfl rfl Try.func14 (by kernel_rfl) rfl #[.slice A1 l1.length c1] rfl zl ?_; (with_reducible refine (laws_toIntS.calls k _ _ l1 t392 _ ?side1 ?side2 A14.out).mono ?_); (case side1 => exact Kd.C_below HR1.out (zb HB.out)); (case side2 => exact HC1.out); rintro e w125 ⟨v393, rfl, ho0, hb⟩; refine ⟨_, rfl, ?_⟩; have n0_ := Aside0.mk (Kd.R_below (by (with_reducible repeat (first | apply Kd.R_alloc | apply Kd.R_drewN | apply Kd.R_drew)); exact (Kd.R_mono (Kd.R_far (p := ⟨gb391, 0, none⟩) (Kd.R_types HO381.out BK391.out (by decide)) (fun _ hk => hk.2) (.slice Ao122 t388.length co122)) (fun _ h_ => h_.1))) hb); have n1_ := Aside0.mk (Kd.R_elder' (by (with_reducible repeat (first | apply Kd.R_alloc | apply Kd.R_drewN | apply Kd.R_drew)); exact (Kd.R_mono (Kd.R_far (p := ⟨gb391, 0, none⟩) (Kd.R_types HO384.out BK391.out (by decide)) (fun _ hk => hk.2) (.slice Ao122 t388.length co122)) (fun _ h_ => h_.1))) (Kd.R_base ho0) hb); have n2_ := Aside0.mk (Kd.R_elder' (by (with_reducible repeat (first | apply Kd.R_alloc | apply Kd.R_drewN | apply Kd.R_drew)); exact (Kd.R_mono (Kd.R_far (p := ⟨gb391, 0, none⟩) (Kd.R_types HO387.out BK391.out (by decide)) (fun _ hk => hk.2) (.slice Ao122 t388.length co122)) (fun _ h_ => h_.1))) (Kd.R_base ho0) hb); have n3_ := Aside0.mk (Kd.R_below (by (with_reducible repeat (first | apply Kd.R_alloc | apply Kd.R_drewN | apply Kd.R_drew)); exact (Kd.R_mono (Kd.R_far (p := ⟨gb391, 0, none⟩) (Kd.R_types HO390.out BK391.out (by decide)) (fun _ hk => hk.2) (.slice Ao122 t388.length co122)) (fun _ h_ => h_.1))) hb); have n4_ := Aside0.mk (Kd.R_lower (Kd.R_new' (Kd.R_new' ho0 (Kd.R_lt (by (with_reducible repeat (first | apply Kd.R_alloc | apply Kd.R_drewN | apply Kd.R_drew)); exact (Kd.R_mono (Kd.R_far (p := ⟨gb391, 0, none⟩) (Kd.R_types HO384.out BK391.out (by decide)) (fun _ hk => hk.2) (.slice Ao122 t388.length co122)) (fun _ h_ => h_.1))))) (Kd.R_lt (by (with_reducible repeat (first | apply Kd.R_alloc | apply Kd.R_drewN | apply Kd.R_drew)); exact (Kd.R_mono (Kd.R_far (p := ⟨gb391, 0, none⟩) (Kd.R_types HO387.out BK391.out (by decide)) (fun _ hk => hk.2) (.slice Ao122 t388.length co122)) (fun _ h_ => h_.1))))) (below_size (zb HB.out))); have n5_ := Aside0.mk (blk_below (g := gb377) (o := .cells #[.slice A0_0 l0_0.length c0_0] 24 (0, 0)) (zf BK377.out) hb); have n6_ := Aside0.mk (blk_below (g := gb391) (o := .cells #[.slice Ao122 t388.length co122] 30 (0, 0)) (by (with_reducible repeat (first | refine blk_drewN ?_ _ | refine blk_drew ?_ | refine blk_alloc ?_ _)); refine blk_put (cs := #[.slice none 0 0]) ?_ 0 _ rfl; (with_reducible repeat (first | refine blk_drewN ?_ _ | refine blk_drew ?_ | refine blk_alloc ?_ _)); exact BK391.out) hb); have n7_ := Aside0.mk (below_step (zb HB.out) hb); clear HO381; clear HO384; clear HO387; clear HO390; clear BK377; clear BK391; clear HB; have HO381 := n0_; have HO384 := n1_; have HO387 := n2_; have HO390 := n3_; have HO394 := n4_; have BK377 := n5_; have BK391 := n6_; have HB := n7_; clear n0_ n1_ n2_ n3_ n4_ n5_ n6_ n7_; (try clear hb); (try clear hb2); (try clear hk); (try clear hi); (try clear ho0); have hcz126_0 : w125.cell? ⟨gb391, 0, none⟩ = some (.slice Ao122 t388.length co122) := (blk_cell BK391.out 0).trans rfl; have hfz126_0 := blk_frozen BK391.out 0; obtain ⟨Ao127, co127, eo127⟩ := Kd.R_slice HO394.out; subst eo127) | ((with_reducible refine gate_callee (f := 26) rfl ?_); refine goesL_ (some 33) rfl rfl Try.func26 (by kernel_rfl) rfl #[.agg #[.slice Ao122 t388.length co122], .slice Ao127 t392.length co127] rfl zl ?_; (with_reducible refine (impl_MakesList.calls k _ _ t388 _ _ t392 t395 _ ?side1 ?side2 ?side3 ?side4 A15.out).mono ?_); (case side1 => exact zc (Kd.R_reads' HO390.out).2.2); (case side2 => exact (Kd.R_reads' HO390.out).2.1); (case side3 => exact zc (Kd.R_reads' HO394.out).2.2); (case side4 => exact (Kd.R_reads' HO394.out).2.1); rintro e w128 ⟨v396, rfl, ho0, hb⟩; refine ⟨_, rfl, ?_⟩; have n0_ := Aside0.mk (Kd.R_below (zr HO381.out) hb); have n1_ := Aside0.mk (Kd.R_elder' (zr HO384.out) (Kd.R_base ho0) hb); have n2_ := Aside0.mk (Kd.R_elder' (zr HO387.out) (Kd.R_base ho0) hb); have n3_ := Aside0.mk (Kd.R_below (zr HO390.out) hb); have n4_ := Aside0.mk (Kd.R_elder' (zr HO394.out) (Kd.R_base ho0) hb); have n5_ := Aside0.mk (Kd.R_lower (Kd.R_new' (Kd.R_new' (Kd.R_new' ho0 (Kd.R_lt (zr HO384.out))) (Kd.R_lt (zr HO387.out))) (Kd.R_lt (zr HO394.out))) (below_size (zb HB.out))); have n6_ := Aside0.mk (blk_below (zh BK377.out) hb); have n7_ := Aside0.mk (blk_below (zh BK391.out) hb); have n8_ := Aside0.mk (below_step (zb HB.out) hb); clear HO381; clear HO384; clear HO387; clear HO390; clear HO394; clear BK377; clear BK391; clear HB; have HO381 := n0_; have HO384 := n1_; have HO387 := n2_; have HO390 := n3_; have HO394 := n4_; have HO397 := n5_; have BK377 := n6_; have BK391 := n7_; have HB := n8_; clear n0_ n1_ n2_ n3_ n4_ n5_ n6_ n7_ n8_; (try clear hb); (try clear hb2); (try clear hk); (try clear hi); (try clear ho0); obtain ⟨Ao129, co129, eo129⟩ := Kd.R_slice HO397.out; subst eo129; obtain ⟨Ao130, co130, eo130⟩ := Kd.R_slice HO387.out; subst eo130) | ((with_reducible refine gate_callee (f := 17) rfl ?_); refine goesL_ (some 36) rfl rfl Try.func17 (by kernel_rfl) rfl #[.slice Ao129 t395.length co129, .slice Ao130 t385.length co130] rfl zl ?_; (with_reducible refine (laws_eqIntS.calls k _ _ t395 _ _ t385 true _ ?side1 ?side2 ?side3 ?side4 A16.out).mono ?_); (case side1 => exact zc (Kd.R_reads' HO397.out).2.2); (case side2 => exact (Kd.R_reads' HO397.out).2.1); (case side3 => exact zc (Kd.R_reads' HO387.out).2.2); (case side4 => exact (Kd.R_reads' HO387.out).2.1); rintro e w' ⟨rfl, ⟨nd, rfl⟩⟩; refine ⟨_, rfl, ?_⟩))
      (try (rw [drewN_self w128]; generalize hq_ : World.drewN w128 _ = w128; have n0_ : Aside0 (Kd.R k51 51 w128 w.heap.size (fun k_ => some k_ ≠ (.slice Ao122 t388.length co122 : Value).ownBlock) (.slice Ao116 t379.length co116) t379) := ⟨by rw [← hq_]; exact (by (with_reducible repeat (first | apply Kd.R_alloc | apply Kd.R_drewN | apply Kd.R_drew)); exact Kd.R_mono HO381.out (fun _ hk => hk.2))⟩; have n1_ : Aside0 (Kd.R (Kd.int .i64) 3 w128 w.heap.size (fun k_ => some k_ ≠ (.slice Ao130 t385.length co130 : Value).ownBlock ∧ some k_ ≠ (.slice Ao127 t392.length co127 : Value).ownBlock ∧ some k_ ≠ (.slice Ao129 t395.length co129 : Value).ownBlock) (.slice Ao117 t382.length co117) t382) := ⟨by rw [← hq_]; exact (by (with_reducible repeat (first | apply Kd.R_alloc | apply Kd.R_drewN | apply Kd.R_drew)); exact Kd.R_mono HO384.out (fun _ hk => ⟨hk.1.1.2, ⟨hk.1.2, hk.2⟩⟩))⟩; have n2_ : Aside0 (Kd.R (Kd.int .i64) 3 w128 w.heap.size (fun k_ => some k_ ≠ (.slice Ao117 t382.length co117 : Value).ownBlock ∧ some k_ ≠ (.slice Ao127 t392.length co127 : Value).ownBlock ∧ some k_ ≠ (.slice Ao129 t395.length co129 : Value).ownBlock) (.slice Ao130 t385.length co130) t385) := ⟨by rw [← hq_]; exact (by (with_reducible repeat (first | apply Kd.R_alloc | apply Kd.R_drewN | apply Kd.R_drew)); exact Kd.R_mono HO387.out (fun _ hk => ⟨hk.1.1.2, ⟨hk.1.2, hk.2⟩⟩))⟩; have n3_ : Aside0 (Kd.R k51 51 w128 w.heap.size (fun k_ => some k_ ≠ (.slice Ao116 t379.length co116 : Value).ownBlock) (.slice Ao122 t388.length co122) t388) := ⟨by rw [← hq_]; exact (by (with_reducible repeat (first | apply Kd.R_alloc | apply Kd.R_drewN | apply Kd.R_drew)); exact Kd.R_mono HO390.out (fun _ hk => hk.2))⟩; have n4_ : Aside0 (Kd.R (Kd.int .i64) 3 w128 w.heap.size (fun k_ => some k_ ≠ (.slice Ao117 t382.length co117 : Value).ownBlock ∧ some k_ ≠ (.slice Ao130 t385.length co130 : Value).ownBlock ∧ some k_ ≠ (.slice Ao129 t395.length co129 : Value).ownBlock) (.slice Ao127 t392.length co127) t392) := ⟨by rw [← hq_]; exact (by (with_reducible repeat (first | apply Kd.R_alloc | apply Kd.R_drewN | apply Kd.R_drew)); exact Kd.R_mono HO394.out (fun _ hk => ⟨hk.1.1.2, ⟨hk.1.2, hk.2⟩⟩))⟩; have n5_ : Aside0 (Kd.R (Kd.int .i64) 3 w128 w.heap.size (fun k_ => some k_ ≠ (.slice Ao117 t382.length co117 : Value).ownBlock ∧ some k_ ≠ (.slice Ao130 t385.length co130 : Value).ownBlock ∧ some k_ ≠ (.slice Ao127 t392.length co127 : Value).ownBlock) (.slice Ao129 t395.length co129) t395) := ⟨by rw [← hq_]; exact (by (with_reducible repeat (first | apply Kd.R_alloc | apply Kd.R_drewN | apply Kd.R_drew)); exact Kd.R_mono HO397.out (fun _ hk => ⟨hk.1.1.2, ⟨hk.1.2, hk.2⟩⟩))⟩; have n6_ : Aside0 (w128.heap[gb377]? = some (.cells #[.slice A0_0 l0_0.length c0_0] 24 (0, 0))) := ⟨by rw [← hq_]; exact (zh BK377.out)⟩; have n7_ : Aside0 (w128.heap[gb391]? = some (.cells #[.slice Ao122 t388.length co122] 30 (0, 0))) := ⟨by rw [← hq_]; exact (zh BK391.out)⟩; have n8_ : Aside0 (Below w.heap.size w w128) := ⟨by rw [← hq_]; exact (zb HB.out)⟩; clear HO381 HO384 HO387 HO390 HO394 HO397 BK377 BK391 HB hq_; have HO381 := n0_; have HO384 := n1_; have HO387 := n2_; have HO390 := n3_; have HO394 := n4_; have HO397 := n5_; have BK377 := n6_; have BK391 := n7_; have HB := n8_; clear n0_ n1_ n2_ n3_ n4_ n5_ n6_ n7_ n8_))
      have n0_ := Aside0.mk (Kd.R_drew HO381.out)
      have n1_ := Aside0.mk (Kd.R_drew HO384.out)
      have n2_ := Aside0.mk (Kd.R_drew HO387.out)
      have n3_ := Aside0.mk (Kd.R_drew HO390.out)
      have n4_ := Aside0.mk (Kd.R_drew HO394.out)
      have n5_ := Aside0.mk (Kd.R_drew HO397.out)
      have n6_ := Aside0.mk (blk_drew BK377.out)
      have n7_ := Aside0.mk (blk_drew BK391.out)
      have n8_ := Aside0.mk (below_drew1 HB.out)
      clear HO381
      clear HO384
      clear HO387
      clear HO390
      clear HO394
      clear HO397
      clear BK377
      clear BK391
      clear HB
      have HO381 := n0_
      have HO384 := n1_
      have HO387 := n2_
      have HO390 := n3_
      have HO394 := n4_
      have HO397 := n5_
      have BK377 := n6_
      have BK391 := n7_
      have HB := n8_
      clear n0_ n1_ n2_ n3_ n4_ n5_ n6_ n7_ n8_
      refine start_ (n := 5) (S := fun w' => w'.cell? ⟨gb391, 0, none⟩ = some (.slice Ao122 t388.length co122) ∧ w'.cell? ⟨gb377, 0, none⟩ = some (.slice A0_0 l0_0.length c0_0)) (ds := []) #[false, false, false, false, false] (by kernel_rfl) rfl rfl ⟨(blk_cell BK391.out 0).trans rfl, (blk_cell BK377.out 0).trans rfl⟩ (fun hHeld => ?_)
      generalize w128.drew = w131 at HO381 HO384 HO387 HO390 HO394 HO397 BK377 BK391 HB hHeld ⊢
      refine take_ (i := 0) (N := some 38) (v := ?_) (a' := ?_) #[true, false, false, false, false] rfl rfl (by kernel_rfl) (fun _ _ _ h => h) (Or.inl ⟨by rfl, ?_⟩) hHeld ?_ ?_
      rotate_left
      ·rintro w' ⟨s0, s1⟩
       go_simp
       with_reducible rfl
      rotate_left
      ·simp only [Act.put, List.setIfInBounds_toArray, List.set_cons_zero, List.set_cons_succ, i64_w, i32_w]
       rfl
      refine take_ (i := 1) (N := some 39) (v := ?_) (a' := ?_) #[true, true, false, false, false] rfl rfl (by kernel_rfl) (fun _ _ _ h => h) (Or.inl ⟨by rfl, ?_⟩) hHeld ?_ ?_
      rotate_left
      ·rintro w' ⟨s0, s1⟩
       go_simp
       with_reducible rfl
      rotate_left
      ·simp only [Act.put, List.setIfInBounds_toArray, List.set_cons_zero, List.set_cons_succ, i64_w, i32_w]
       rfl
      refine one_ (i := 2) (N := some 40) #[true, true, true, false, false] rfl rfl (by kernel_rfl) (by decide) (fun K hK => ?_)
      refine goes_ Try.func13 (by kernel_rfl) rfl #[.agg #[.slice A0_0 l0_0.length c0_0]] (by rfl) rfl rfl zl ?_
      with_reducible refine (laws_toPool.calls k _ _ l0_0 t399 _ ?side1 ?side2 A18.out).mono ?_
      (case side1 => exact zc (Kd.C_below HR0_0.out HB.out))
      (case side2 => exact HC0_0.out)
      rintro e w132 ⟨v400, rfl, ho0, hb⟩
      refine ⟨_, rfl, ?_⟩
      have n0_ := Aside0.mk (Kd.R_elder' (zr HO381.out) (Kd.R_base ho0) hb)
      have n1_ := Aside0.mk (Kd.R_below (zr HO384.out) hb)
      have n2_ := Aside0.mk (Kd.R_below (zr HO387.out) hb)
      have n3_ := Aside0.mk (Kd.R_elder' (zr HO390.out) (Kd.R_base ho0) hb)
      have n4_ := Aside0.mk (Kd.R_below (zr HO394.out) hb)
      have n5_ := Aside0.mk (Kd.R_below (zr HO397.out) hb)
      have n6_ := Aside0.mk (Kd.R_lower (Kd.R_new' (Kd.R_new' ho0 (Kd.R_lt (zr HO381.out))) (Kd.R_lt (zr HO390.out))) (below_size (zb HB.out)))
      have n7_ := Aside0.mk (blk_below (zh BK377.out) hb)
      have n8_ := Aside0.mk (blk_below (zh BK391.out) hb)
      have n9_ := Aside0.mk (below_step (zb HB.out) hb)
      clear HO381
      clear HO384
      clear HO387
      clear HO390
      clear HO394
      clear HO397
      clear BK377
      clear BK391
      clear HB
      have HO381 := n0_
      have HO384 := n1_
      have HO387 := n2_
      have HO390 := n3_
      have HO394 := n4_
      have HO397 := n5_
      have HO401 := n6_
      have BK377 := n7_
      have BK391 := n8_
      have HB := n9_
      clear n0_ n1_ n2_ n3_ n4_ n5_ n6_ n7_ n8_ n9_
      (try clear hb)
      (try clear hb2)
      (try clear hk)
      (try clear hi)
      (try clear ho0)
      obtain ⟨Ao133, co133, eo133⟩ := Kd.R_slice HO401.out
      (first | subst eo133 | (injection eo133 with f1_ f2_ f3_; have f4_ := f1_.symm; have f5_ := f3_.symm; clear f1_ f2_ f3_; subst f4_; subst f5_))
      refine hK.out _ _ ⟨(blk_cell BK391.out 0).trans rfl, (blk_cell BK377.out 0).trans rfl⟩ (fun hHeld => ?_)
      clear hK K
      refine norm_ (a' := ?_) ?_ ?_
      rotate_left
      ·show Act.put _ (some 40) _ = _
       simp only [Act.put, List.setIfInBounds_toArray, List.set_cons_zero, List.set_cons_succ, i64_w, i32_w]
       rfl
      refine one_ (i := 3) (N := some 41) #[true, true, true, true, false] rfl rfl (by kernel_rfl) (by decide) (fun K hK => ?_)
      refine goes_ Try.func16 (by kernel_rfl) rfl #[.agg #[.slice Ao122 t388.length co122], .agg #[.slice Ao133 t399.length co133]] (by rfl) rfl rfl zl ?_
      with_reducible refine (laws_eqPool.calls k _ _ t388 _ _ t399 true _ ?side1 ?side2 ?side3 ?side4 A19.out).mono ?_
      (case side1 => exact zc (Kd.R_reads' HO390.out).2.2)
      (case side2 => exact (Kd.R_reads' HO390.out).2.1)
      (case side3 => exact zc (Kd.R_reads' HO401.out).2.2)
      (case side4 => exact (Kd.R_reads' HO401.out).2.1)
      rintro e w134 ⟨rfl, hb⟩
      refine ⟨_, rfl, ?_⟩
      have n0_ := Aside0.mk (Kd.R_below (zr HO381.out) hb)
      have n1_ := Aside0.mk (Kd.R_below (zr HO384.out) hb)
      have n2_ := Aside0.mk (Kd.R_below (zr HO387.out) hb)
      have n3_ := Aside0.mk (Kd.R_below (zr HO390.out) hb)
      have n4_ := Aside0.mk (Kd.R_below (zr HO394.out) hb)
      have n5_ := Aside0.mk (Kd.R_below (zr HO397.out) hb)
      have n6_ := Aside0.mk (Kd.R_below (zr HO401.out) hb)
      have n7_ := Aside0.mk (blk_below (zh BK377.out) hb)
      have n8_ := Aside0.mk (blk_below (zh BK391.out) hb)
      have n9_ := Aside0.mk (below_step (zb HB.out) hb)
      clear HO381
      clear HO384
      clear HO387
      clear HO390
      clear HO394
      clear HO397
      clear HO401
      clear BK377
      clear BK391
      clear HB
      have HO381 := n0_
      have HO384 := n1_
      have HO387 := n2_
      have HO390 := n3_
      have HO394 := n4_
      have HO397 := n5_
      have HO401 := n6_
      have BK377 := n7_
      have BK391 := n8_
      have HB := n9_
      clear n0_ n1_ n2_ n3_ n4_ n5_ n6_ n7_ n8_ n9_
      (try clear hb)
      (try clear hb2)
      (try clear hk)
      (try clear hi)
      refine hK.out _ _ ⟨(blk_cell BK391.out 0).trans rfl, (blk_cell BK377.out 0).trans rfl⟩ (fun hHeld => ?_)
      clear hK K
      refine norm_ (a' := ?_) ?_ ?_
      rotate_left
      ·show Act.put _ (some 41) _ = _
       simp only [Act.put, List.setIfInBounds_toArray, List.set_cons_zero, List.set_cons_succ, i64_w, i32_w]
       rfl
      refine pure_ (i := 4) (N := some 42) (v := ?_) (a' := ?_) #[true, true, true, true, true] rfl rfl (by kernel_rfl) (fun _ _ _ h => h) (Or.inl ⟨by rfl, ?_⟩) ?_ ?_
      rotate_left
      ·intro w'
       go_simp
       with_reducible rfl
      rotate_left
      ·simp only [Act.put, List.setIfInBounds_toArray, List.set_cons_zero, List.set_cons_succ, i64_w, i32_w]
       rfl
      refine done_ (by kernel_rfl) ?_
      try go_wp2_with (first | ((with_reducible refine gate_callee (f := 14) rfl ?_); refine goesL_ (some 45) rfl rfl Try.func14 (by kernel_rfl) rfl #[.slice A1 l1.length c1] rfl zl ?_; (with_reducible refine (laws_toIntS.calls k _ _ l1 t403 _ ?side1 ?side2 A21.out).mono ?_); (case side1 => exact zc (Kd.C_below HR1.out HB.out)); (case side2 => exact HC1.out); rintro e w135 ⟨v404, rfl, ho0, hb⟩; refine ⟨_, rfl, ?_⟩; have n0_ := Aside0.mk (Kd.R_below (zr HO381.out) hb); have n1_ := Aside0.mk (Kd.R_elder' (zr HO384.out) (Kd.R_base ho0) hb); have n2_ := Aside0.mk (Kd.R_elder' (zr HO387.out) (Kd.R_base ho0) hb); have n3_ := Aside0.mk (Kd.R_below (zr HO390.out) hb); have n4_ := Aside0.mk (Kd.R_elder' (zr HO394.out) (Kd.R_base ho0) hb); have n5_ := Aside0.mk (Kd.R_elder' (zr HO397.out) (Kd.R_base ho0) hb); have n6_ := Aside0.mk (Kd.R_below (zr HO401.out) hb); have n7_ := Aside0.mk (Kd.R_lower (Kd.R_new' (Kd.R_new' (Kd.R_new' (Kd.R_new' ho0 (Kd.R_lt (zr HO384.out))) (Kd.R_lt (zr HO387.out))) (Kd.R_lt (zr HO394.out))) (Kd.R_lt (zr HO397.out))) (below_size (zb HB.out))); have n8_ := Aside0.mk (blk_below (zh BK377.out) hb); have n9_ := Aside0.mk (blk_below (zh BK391.out) hb); have n10_ := Aside0.mk (below_step (zb HB.out) hb); clear HO381; clear HO384; clear HO387; clear HO390; clear HO394; clear HO397; clear HO401; clear BK377; clear BK391; clear HB; have HO381 := n0_; have HO384 := n1_; have HO387 := n2_; have HO390 := n3_; have HO394 := n4_; have HO397 := n5_; have HO401 := n6_; have HO405 := n7_; have BK377 := n8_; have BK391 := n9_; have HB := n10_; clear n0_ n1_ n2_ n3_ n4_ n5_ n6_ n7_ n8_ n9_ n10_; (try clear hb); (try clear hb2); (try clear hk); (try clear hi); (try clear ho0); obtain ⟨Ao136, co136, eo136⟩ := Kd.R_slice HO405.out; subst eo136) | ((with_reducible refine gate_callee (f := 17) rfl ?_); refine goesL_ (some 46) rfl rfl Try.func17 (by kernel_rfl) rfl #[.slice Ao127 t392.length co127, .slice Ao136 t403.length co136] rfl zl ?_; (with_reducible refine (laws_eqIntS.calls k _ _ t392 _ _ t403 false _ ?side1 ?side2 ?side3 ?side4 A22.out).mono ?_); (case side1 => exact zc (Kd.R_reads' HO394.out).2.2); (case side2 => exact (Kd.R_reads' HO394.out).2.1); (case side3 => exact zc (Kd.R_reads' HO405.out).2.2); (case side4 => exact (Kd.R_reads' HO405.out).2.1); rintro e w' ⟨rfl, ⟨nd, rfl⟩⟩; refine ⟨_, rfl, ?_⟩))
      go_ret
      exact ⟨ze, zb HB.out⟩
    ·replace c20 := Bool.eq_false_iff.mpr c20
     subst c20
     have H1 : (some false) = some r := by rw [if_neg (show ¬ (false = true) by decide)] at H; exact H
     clear H
     have H := H1
     clear H1
     obtain rfl := Option.some.inj H
     go_enter Try.func5, Try.ntmps5
     try go_wp2_with (first | ((with_reducible refine gate_dst (N := 2) rfl ?_); refine box_event ?hg (N := 2) ?hd (cs := #[.slice A0_0 l0_0.length c0_0]) (t := 24) ?hr ?_; (case hd => rfl); (case hg => rfl); (case hr => first | (go_simp; done) | (go_simp; rfl)); intro gb377 hg w137 hbox hb; have n0_ := Aside0.mk (below_step (zb HB.out) hb); have n1_ := Aside0.mk (hbox); have n2_ := Aside0.mk ((by rw [hg]; exact (below_size (zb HB.out)) : w.heap.size ≤ gb377)); have n3_ := Aside0.mk ((by rw [hg]; exact (below_size (zb HB.out)) : w.heap.size ≤ gb377)); clear HB; have HB := n0_; have BK377 := n1_; have GW377 := n2_; have GE377 := n3_; clear n0_ n1_ n2_ n3_; clear hb hbox hg; have hcz138_0 : w137.cell? ⟨gb377, 0, none⟩ = some (.slice A0_0 l0_0.length c0_0) := (blk_cell BK377.out 0).trans rfl; have hfz138_0 := blk_frozen BK377.out 0) | ((with_reducible refine gate_callee (f := 11) rfl ?_); refine goesL_ (some 19) rfl rfl Try.func11 (by kernel_rfl) rfl #[.agg #[.slice A0_0 l0_0.length c0_0], .int .i64 1048576] rfl zl ?_; (with_reducible refine (laws_szPool.calls _ _ l0_0 1048576 t378 _ ?side1 ?side2 A5.out).mono ?_); (case side1 => exact zc (Kd.C_below HR0_0.out HB.out)); (case side2 => exact HC0_0.out); rintro e w139 ⟨rfl, hb⟩; refine ⟨_, rfl, ?_⟩; have n0_ := Aside0.mk (blk_below (zh BK377.out) hb); have n1_ := Aside0.mk (below_step (zb HB.out) hb); clear BK377; clear HB; have BK377 := n0_; have HB := n1_; clear n0_ n1_; (try clear hb); (try clear hb2); (try clear hk); (try clear hi); have hcz140_0 : w139.cell? ⟨gb377, 0, none⟩ = some (.slice A0_0 l0_0.length c0_0) := (blk_cell BK377.out 0).trans rfl; have hfz140_0 := blk_frozen BK377.out 0) | ((with_reducible refine gate_callee (f := 13) rfl ?_); refine goesL_ (some 23) rfl rfl Try.func13 (by kernel_rfl) rfl #[.agg #[.slice A0_0 l0_0.length c0_0]] rfl zl ?_; (with_reducible refine (laws_toPool.calls k _ _ l0_0 t379 _ ?side1 ?side2 A10.out).mono ?_); (case side1 => exact zc (Kd.C_below HR0_0.out HB.out)); (case side2 => exact HC0_0.out); rintro e w141 ⟨v380, rfl, ho0, hb⟩; refine ⟨_, rfl, ?_⟩; have n0_ := Aside0.mk (Kd.R_lower ho0 (below_size (zb HB.out))); have n1_ := Aside0.mk (blk_below (zh BK377.out) hb); have n2_ := Aside0.mk (below_step (zb HB.out) hb); clear BK377; clear HB; have HO381 := n0_; have BK377 := n1_; have HB := n2_; clear n0_ n1_ n2_; (try clear hb); (try clear hb2); (try clear hk); (try clear hi); (try clear ho0)) | ((with_reducible refine gate_callee (f := 14) rfl ?_); refine goesL_ (some 25) rfl rfl Try.func14 (by kernel_rfl) rfl #[.slice A1 l1.length c1] rfl zl ?_; (with_reducible refine (laws_toIntS.calls k _ _ l1 t382 _ ?side1 ?side2 A11.out).mono ?_); (case side1 => exact zc (Kd.C_below HR1.out HB.out)); (case side2 => exact HC1.out); rintro e w142 ⟨v383, rfl, ho0, hb⟩; refine ⟨_, rfl, ?_⟩; have n0_ := Aside0.mk (Kd.R_below (zr HO381.out) hb); have n1_ := Aside0.mk (Kd.R_lower ho0 (below_size (zb HB.out))); have n2_ := Aside0.mk (blk_below (zh BK377.out) hb); have n3_ := Aside0.mk (below_step (zb HB.out) hb); clear HO381; clear BK377; clear HB; have HO381 := n0_; have HO384 := n1_; have BK377 := n2_; have HB := n3_; clear n0_ n1_ n2_ n3_; (try clear hb); (try clear hb2); (try clear hk); (try clear hi); (try clear ho0); obtain ⟨Ao143, co143, eo143⟩ := Kd.R_slice HO381.out; subst eo143; obtain ⟨Ao144, co144, eo144⟩ := Kd.R_slice HO384.out; subst eo144) | ((with_reducible refine gate_callee (f := 25) rfl ?_); refine goesL_ (some 26) rfl rfl Try.func25 (by kernel_rfl) rfl #[.agg #[.slice Ao143 t379.length co143], .slice Ao144 t382.length co144] rfl zl ?_; (with_reducible refine (spec_MakesList.calls k _ _ t379 _ _ t382 t385 _ ?side1 ?side2 ?side3 ?side4 A12.out).mono ?_); (case side1 => exact zc (Kd.R_reads' HO381.out).2.2); (case side2 => exact (Kd.R_reads' HO381.out).2.1); (case side3 => exact zc (Kd.R_reads' HO384.out).2.2); (case side4 => exact (Kd.R_reads' HO384.out).2.1); rintro e w145 ⟨v386, rfl, ho0, hb⟩; refine ⟨_, rfl, ?_⟩; have n0_ := Aside0.mk (Kd.R_below (zr HO381.out) hb); have n1_ := Aside0.mk (Kd.R_elder' (zr HO384.out) (Kd.R_base ho0) hb); have n2_ := Aside0.mk (Kd.R_lower (Kd.R_new' ho0 (Kd.R_lt (zr HO384.out))) (below_size (zb HB.out))); have n3_ := Aside0.mk (blk_below (zh BK377.out) hb); have n4_ := Aside0.mk (below_step (zb HB.out) hb); clear HO381; clear HO384; clear BK377; clear HB; have HO381 := n0_; have HO384 := n1_; have HO387 := n2_; have BK377 := n3_; have HB := n4_; clear n0_ n1_ n2_ n3_ n4_; (try clear hb); (try clear hb2); (try clear hk); (try clear hi); (try clear ho0); have hcz146_0 : w145.cell? ⟨gb377, 0, none⟩ = some (.slice A0_0 l0_0.length c0_0) := (blk_cell BK377.out 0).trans rfl; have hfz146_0 := blk_frozen BK377.out 0) | ((with_reducible refine gate_callee (f := 13) rfl ?_); refine goesL_ (some 28) rfl rfl Try.func13 (by kernel_rfl) rfl #[.agg #[.slice A0_0 l0_0.length c0_0]] rfl zl ?_; (with_reducible refine (laws_toPool.calls k _ _ l0_0 t388 _ ?side1 ?side2 A13.out).mono ?_); (case side1 => exact zc (Kd.C_below HR0_0.out HB.out)); (case side2 => exact HC0_0.out); rintro e w147 ⟨v389, rfl, ho0, hb⟩; refine ⟨_, rfl, ?_⟩; have n0_ := Aside0.mk (Kd.R_elder' (zr HO381.out) (Kd.R_base ho0) hb); have n1_ := Aside0.mk (Kd.R_below (zr HO384.out) hb); have n2_ := Aside0.mk (Kd.R_below (zr HO387.out) hb); have n3_ := Aside0.mk (Kd.R_lower (Kd.R_new' ho0 (Kd.R_lt (zr HO381.out))) (below_size (zb HB.out))); have n4_ := Aside0.mk (blk_below (zh BK377.out) hb); have n5_ := Aside0.mk (below_step (zb HB.out) hb); clear HO381; clear HO384; clear HO387; clear BK377; clear HB; have HO381 := n0_; have HO384 := n1_; have HO387 := n2_; have HO390 := n3_; have BK377 := n4_; have HB := n5_; clear n0_ n1_ n2_ n3_ n4_ n5_; (try clear hb); (try clear hb2); (try clear hk); (try clear hi); (try clear ho0)) | ((with_reducible refine gate_dst (N := 7) rfl ?_); refine box_event ?hg (N := 7) ?hd (cs := #[.slice none 0 0]) (t := 30) ?hr ?_; (case hd => rfl); (case hg => rfl); (case hr => first | (go_simp; done) | (go_simp; rfl)); intro gb391 hg w148 hbox hb; have n0_ := Aside0.mk (Kd.R_below (zr HO381.out) hb); have n1_ := Aside0.mk (Kd.R_below (zr HO384.out) hb); have n2_ := Aside0.mk (Kd.R_below (zr HO387.out) hb); have n3_ := Aside0.mk (Kd.R_below (zr HO390.out) hb); have n4_ := Aside0.mk (blk_below (zh BK377.out) hb); have n5_ := Aside0.mk (below_step (zb HB.out) hb); have n6_ := Aside0.mk (hbox); have n7_ := Aside0.mk ((by rw [hg]; exact (below_size (zb HB.out)) : w.heap.size ≤ gb391)); have n8_ := Aside0.mk ((by rw [hg]; exact (below_size (zb HB.out)) : w.heap.size ≤ gb391)); have n9_ := Aside0.mk ((by rw [hg]; exact Nat.ne_of_lt (blk_lt (zh BK377.out)) : gb377 ≠ gb391)); have n10_ := Aside0.mk ((by rw [hg]; exact Nat.ne_of_gt (blk_lt (zh BK377.out)) : gb391 ≠ gb377)); clear HO381; clear HO384; clear HO387; clear HO390; clear BK377; clear HB; have HO381 := n0_; have HO384 := n1_; have HO387 := n2_; have HO390 := n3_; have BK377 := n4_; have HB := n5_; have BK391 := n6_; have GW391 := n7_; have GE391 := n8_; have NB377_391 := n9_; have NB391_377 := n10_; clear n0_ n1_ n2_ n3_ n4_ n5_ n6_ n7_ n8_ n9_ n10_; clear hb hbox hg; obtain ⟨Ao149, co149, eo149⟩ := Kd.R_slice HO390.out; subst eo149; have hnb150 := NB391_377.out; have hnc150 := NB377_391.out; have hcz151_0 : w148.cell? ⟨gb391, 0, none⟩ = some (.slice none 0 0) := (blk_cell BK391.out 0).trans rfl; have hfz151_0 := blk_frozen BK391.out 0) | ((with_reducible refine gate_callee (f := 14) rfl ?_); refine goesL_ (some 30) rfl rfl Try.func14 (by kernel_rfl) rfl #[.slice A1 l1.length c1] rfl zl ?_; (with_reducible refine (laws_toIntS.calls k _ _ l1 t392 _ ?side1 ?side2 A14.out).mono ?_); (case side1 => exact Kd.C_below HR1.out (zb HB.out)); (case side2 => exact HC1.out); rintro e w152 ⟨v393, rfl, ho0, hb⟩; refine ⟨_, rfl, ?_⟩; have n0_ := Aside0.mk (Kd.R_below (by (with_reducible repeat (first | apply Kd.R_alloc | apply Kd.R_drewN | apply Kd.R_drew)); exact (Kd.R_mono (Kd.R_far (p := ⟨gb391, 0, none⟩) (Kd.R_types HO381.out BK391.out (by decide)) (fun _ hk => hk.2) (.slice Ao149 t388.length co149)) (fun _ h_ => h_.1))) hb); have n1_ := Aside0.mk (Kd.R_elder' (by (with_reducible repeat (first | apply Kd.R_alloc | apply Kd.R_drewN | apply Kd.R_drew)); exact (Kd.R_mono (Kd.R_far (p := ⟨gb391, 0, none⟩) (Kd.R_types HO384.out BK391.out (by decide)) (fun _ hk => hk.2) (.slice Ao149 t388.length co149)) (fun _ h_ => h_.1))) (Kd.R_base ho0) hb); have n2_ := Aside0.mk (Kd.R_elder' (by (with_reducible repeat (first | apply Kd.R_alloc | apply Kd.R_drewN | apply Kd.R_drew)); exact (Kd.R_mono (Kd.R_far (p := ⟨gb391, 0, none⟩) (Kd.R_types HO387.out BK391.out (by decide)) (fun _ hk => hk.2) (.slice Ao149 t388.length co149)) (fun _ h_ => h_.1))) (Kd.R_base ho0) hb); have n3_ := Aside0.mk (Kd.R_below (by (with_reducible repeat (first | apply Kd.R_alloc | apply Kd.R_drewN | apply Kd.R_drew)); exact (Kd.R_mono (Kd.R_far (p := ⟨gb391, 0, none⟩) (Kd.R_types HO390.out BK391.out (by decide)) (fun _ hk => hk.2) (.slice Ao149 t388.length co149)) (fun _ h_ => h_.1))) hb); have n4_ := Aside0.mk (Kd.R_lower (Kd.R_new' (Kd.R_new' ho0 (Kd.R_lt (by (with_reducible repeat (first | apply Kd.R_alloc | apply Kd.R_drewN | apply Kd.R_drew)); exact (Kd.R_mono (Kd.R_far (p := ⟨gb391, 0, none⟩) (Kd.R_types HO384.out BK391.out (by decide)) (fun _ hk => hk.2) (.slice Ao149 t388.length co149)) (fun _ h_ => h_.1))))) (Kd.R_lt (by (with_reducible repeat (first | apply Kd.R_alloc | apply Kd.R_drewN | apply Kd.R_drew)); exact (Kd.R_mono (Kd.R_far (p := ⟨gb391, 0, none⟩) (Kd.R_types HO387.out BK391.out (by decide)) (fun _ hk => hk.2) (.slice Ao149 t388.length co149)) (fun _ h_ => h_.1))))) (below_size (zb HB.out))); have n5_ := Aside0.mk (blk_below (g := gb377) (o := .cells #[.slice A0_0 l0_0.length c0_0] 24 (0, 0)) (zf BK377.out) hb); have n6_ := Aside0.mk (blk_below (g := gb391) (o := .cells #[.slice Ao149 t388.length co149] 30 (0, 0)) (by (with_reducible repeat (first | refine blk_drewN ?_ _ | refine blk_drew ?_ | refine blk_alloc ?_ _)); refine blk_put (cs := #[.slice none 0 0]) ?_ 0 _ rfl; (with_reducible repeat (first | refine blk_drewN ?_ _ | refine blk_drew ?_ | refine blk_alloc ?_ _)); exact BK391.out) hb); have n7_ := Aside0.mk (below_step (zb HB.out) hb); clear HO381; clear HO384; clear HO387; clear HO390; clear BK377; clear BK391; clear HB; have HO381 := n0_; have HO384 := n1_; have HO387 := n2_; have HO390 := n3_; have HO394 := n4_; have BK377 := n5_; have BK391 := n6_; have HB := n7_; clear n0_ n1_ n2_ n3_ n4_ n5_ n6_ n7_; (try clear hb); (try clear hb2); (try clear hk); (try clear hi); (try clear ho0); have hcz153_0 : w152.cell? ⟨gb391, 0, none⟩ = some (.slice Ao149 t388.length co149) := (blk_cell BK391.out 0).trans rfl; have hfz153_0 := blk_frozen BK391.out 0; obtain ⟨Ao154, co154, eo154⟩ := Kd.R_slice HO394.out; subst eo154) | ((with_reducible refine gate_callee (f := 26) rfl ?_); refine goesL_ (some 33) rfl rfl Try.func26 (by kernel_rfl) rfl #[.agg #[.slice Ao149 t388.length co149], .slice Ao154 t392.length co154] rfl zl ?_; (with_reducible refine (impl_MakesList.calls k _ _ t388 _ _ t392 t395 _ ?side1 ?side2 ?side3 ?side4 A15.out).mono ?_); (case side1 => exact zc (Kd.R_reads' HO390.out).2.2); (case side2 => exact (Kd.R_reads' HO390.out).2.1); (case side3 => exact zc (Kd.R_reads' HO394.out).2.2); (case side4 => exact (Kd.R_reads' HO394.out).2.1); rintro e w155 ⟨v396, rfl, ho0, hb⟩; refine ⟨_, rfl, ?_⟩; have n0_ := Aside0.mk (Kd.R_below (zr HO381.out) hb); have n1_ := Aside0.mk (Kd.R_elder' (zr HO384.out) (Kd.R_base ho0) hb); have n2_ := Aside0.mk (Kd.R_elder' (zr HO387.out) (Kd.R_base ho0) hb); have n3_ := Aside0.mk (Kd.R_below (zr HO390.out) hb); have n4_ := Aside0.mk (Kd.R_elder' (zr HO394.out) (Kd.R_base ho0) hb); have n5_ := Aside0.mk (Kd.R_lower (Kd.R_new' (Kd.R_new' (Kd.R_new' ho0 (Kd.R_lt (zr HO384.out))) (Kd.R_lt (zr HO387.out))) (Kd.R_lt (zr HO394.out))) (below_size (zb HB.out))); have n6_ := Aside0.mk (blk_below (zh BK377.out) hb); have n7_ := Aside0.mk (blk_below (zh BK391.out) hb); have n8_ := Aside0.mk (below_step (zb HB.out) hb); clear HO381; clear HO384; clear HO387; clear HO390; clear HO394; clear BK377; clear BK391; clear HB; have HO381 := n0_; have HO384 := n1_; have HO387 := n2_; have HO390 := n3_; have HO394 := n4_; have HO397 := n5_; have BK377 := n6_; have BK391 := n7_; have HB := n8_; clear n0_ n1_ n2_ n3_ n4_ n5_ n6_ n7_ n8_; (try clear hb); (try clear hb2); (try clear hk); (try clear hi); (try clear ho0); obtain ⟨Ao156, co156, eo156⟩ := Kd.R_slice HO397.out; subst eo156; obtain ⟨Ao157, co157, eo157⟩ := Kd.R_slice HO387.out; subst eo157) | ((with_reducible refine gate_callee (f := 17) rfl ?_); refine goesL_ (some 36) rfl rfl Try.func17 (by kernel_rfl) rfl #[.slice Ao156 t395.length co156, .slice Ao157 t385.length co157] rfl zl ?_; (with_reducible refine (laws_eqIntS.calls k _ _ t395 _ _ t385 true _ ?side1 ?side2 ?side3 ?side4 A16.out).mono ?_); (case side1 => exact zc (Kd.R_reads' HO397.out).2.2); (case side2 => exact (Kd.R_reads' HO397.out).2.1); (case side3 => exact zc (Kd.R_reads' HO387.out).2.2); (case side4 => exact (Kd.R_reads' HO387.out).2.1); rintro e w' ⟨rfl, ⟨nd, rfl⟩⟩; refine ⟨_, rfl, ?_⟩))
     (try (rw [drewN_self w155]; generalize hq_ : World.drewN w155 _ = w155; have n0_ : Aside0 (Kd.R k51 51 w155 w.heap.size (fun k_ => some k_ ≠ (.slice Ao149 t388.length co149 : Value).ownBlock) (.slice Ao143 t379.length co143) t379) := ⟨by rw [← hq_]; exact (by (with_reducible repeat (first | apply Kd.R_alloc | apply Kd.R_drewN | apply Kd.R_drew)); exact Kd.R_mono HO381.out (fun _ hk => hk.2))⟩; have n1_ : Aside0 (Kd.R (Kd.int .i64) 3 w155 w.heap.size (fun k_ => some k_ ≠ (.slice Ao157 t385.length co157 : Value).ownBlock ∧ some k_ ≠ (.slice Ao154 t392.length co154 : Value).ownBlock ∧ some k_ ≠ (.slice Ao156 t395.length co156 : Value).ownBlock) (.slice Ao144 t382.length co144) t382) := ⟨by rw [← hq_]; exact (by (with_reducible repeat (first | apply Kd.R_alloc | apply Kd.R_drewN | apply Kd.R_drew)); exact Kd.R_mono HO384.out (fun _ hk => ⟨hk.1.1.2, ⟨hk.1.2, hk.2⟩⟩))⟩; have n2_ : Aside0 (Kd.R (Kd.int .i64) 3 w155 w.heap.size (fun k_ => some k_ ≠ (.slice Ao144 t382.length co144 : Value).ownBlock ∧ some k_ ≠ (.slice Ao154 t392.length co154 : Value).ownBlock ∧ some k_ ≠ (.slice Ao156 t395.length co156 : Value).ownBlock) (.slice Ao157 t385.length co157) t385) := ⟨by rw [← hq_]; exact (by (with_reducible repeat (first | apply Kd.R_alloc | apply Kd.R_drewN | apply Kd.R_drew)); exact Kd.R_mono HO387.out (fun _ hk => ⟨hk.1.1.2, ⟨hk.1.2, hk.2⟩⟩))⟩; have n3_ : Aside0 (Kd.R k51 51 w155 w.heap.size (fun k_ => some k_ ≠ (.slice Ao143 t379.length co143 : Value).ownBlock) (.slice Ao149 t388.length co149) t388) := ⟨by rw [← hq_]; exact (by (with_reducible repeat (first | apply Kd.R_alloc | apply Kd.R_drewN | apply Kd.R_drew)); exact Kd.R_mono HO390.out (fun _ hk => hk.2))⟩; have n4_ : Aside0 (Kd.R (Kd.int .i64) 3 w155 w.heap.size (fun k_ => some k_ ≠ (.slice Ao144 t382.length co144 : Value).ownBlock ∧ some k_ ≠ (.slice Ao157 t385.length co157 : Value).ownBlock ∧ some k_ ≠ (.slice Ao156 t395.length co156 : Value).ownBlock) (.slice Ao154 t392.length co154) t392) := ⟨by rw [← hq_]; exact (by (with_reducible repeat (first | apply Kd.R_alloc | apply Kd.R_drewN | apply Kd.R_drew)); exact Kd.R_mono HO394.out (fun _ hk => ⟨hk.1.1.2, ⟨hk.1.2, hk.2⟩⟩))⟩; have n5_ : Aside0 (Kd.R (Kd.int .i64) 3 w155 w.heap.size (fun k_ => some k_ ≠ (.slice Ao144 t382.length co144 : Value).ownBlock ∧ some k_ ≠ (.slice Ao157 t385.length co157 : Value).ownBlock ∧ some k_ ≠ (.slice Ao154 t392.length co154 : Value).ownBlock) (.slice Ao156 t395.length co156) t395) := ⟨by rw [← hq_]; exact (by (with_reducible repeat (first | apply Kd.R_alloc | apply Kd.R_drewN | apply Kd.R_drew)); exact Kd.R_mono HO397.out (fun _ hk => ⟨hk.1.1.2, ⟨hk.1.2, hk.2⟩⟩))⟩; have n6_ : Aside0 (w155.heap[gb377]? = some (.cells #[.slice A0_0 l0_0.length c0_0] 24 (0, 0))) := ⟨by rw [← hq_]; exact (zh BK377.out)⟩; have n7_ : Aside0 (w155.heap[gb391]? = some (.cells #[.slice Ao149 t388.length co149] 30 (0, 0))) := ⟨by rw [← hq_]; exact (zh BK391.out)⟩; have n8_ : Aside0 (Below w.heap.size w w155) := ⟨by rw [← hq_]; exact (zb HB.out)⟩; clear HO381 HO384 HO387 HO390 HO394 HO397 BK377 BK391 HB hq_; have HO381 := n0_; have HO384 := n1_; have HO387 := n2_; have HO390 := n3_; have HO394 := n4_; have HO397 := n5_; have BK377 := n6_; have BK391 := n7_; have HB := n8_; clear n0_ n1_ n2_ n3_ n4_ n5_ n6_ n7_ n8_))
     have n0_ := Aside0.mk (Kd.R_drew HO381.out)
     have n1_ := Aside0.mk (Kd.R_drew HO384.out)
     have n2_ := Aside0.mk (Kd.R_drew HO387.out)
     have n3_ := Aside0.mk (Kd.R_drew HO390.out)
     have n4_ := Aside0.mk (Kd.R_drew HO394.out)
     have n5_ := Aside0.mk (Kd.R_drew HO397.out)
     have n6_ := Aside0.mk (blk_drew BK377.out)
     have n7_ := Aside0.mk (blk_drew BK391.out)
     have n8_ := Aside0.mk (below_drew1 HB.out)
     clear HO381
     clear HO384
     clear HO387
     clear HO390
     clear HO394
     clear HO397
     clear BK377
     clear BK391
     clear HB
     have HO381 := n0_
     have HO384 := n1_
     have HO387 := n2_
     have HO390 := n3_
     have HO394 := n4_
     have HO397 := n5_
     have BK377 := n6_
     have BK391 := n7_
     have HB := n8_
     clear n0_ n1_ n2_ n3_ n4_ n5_ n6_ n7_ n8_
     refine start_ (n := 5) (S := fun w' => w'.cell? ⟨gb391, 0, none⟩ = some (.slice Ao149 t388.length co149) ∧ w'.cell? ⟨gb377, 0, none⟩ = some (.slice A0_0 l0_0.length c0_0)) (ds := []) #[false, false, false, false, false] (by kernel_rfl) rfl rfl ⟨(blk_cell BK391.out 0).trans rfl, (blk_cell BK377.out 0).trans rfl⟩ (fun hHeld => ?_)
     generalize w155.drew = w158 at HO381 HO384 HO387 HO390 HO394 HO397 BK377 BK391 HB hHeld ⊢
     refine take_ (i := 0) (N := some 38) (v := ?_) (a' := ?_) #[true, false, false, false, false] rfl rfl (by kernel_rfl) (fun _ _ _ h => h) (Or.inl ⟨by rfl, ?_⟩) hHeld ?_ ?_
     rotate_left
     ·rintro w' ⟨s0, s1⟩
      go_simp
      with_reducible rfl
     rotate_left
     ·simp only [Act.put, List.setIfInBounds_toArray, List.set_cons_zero, List.set_cons_succ, i64_w, i32_w]
      rfl
     refine take_ (i := 1) (N := some 39) (v := ?_) (a' := ?_) #[true, true, false, false, false] rfl rfl (by kernel_rfl) (fun _ _ _ h => h) (Or.inl ⟨by rfl, ?_⟩) hHeld ?_ ?_
     rotate_left
     ·rintro w' ⟨s0, s1⟩
      go_simp
      with_reducible rfl
     rotate_left
     ·simp only [Act.put, List.setIfInBounds_toArray, List.set_cons_zero, List.set_cons_succ, i64_w, i32_w]
      rfl
     refine one_ (i := 2) (N := some 40) #[true, true, true, false, false] rfl rfl (by kernel_rfl) (by decide) (fun K hK => ?_)
     refine goes_ Try.func13 (by kernel_rfl) rfl #[.agg #[.slice A0_0 l0_0.length c0_0]] (by rfl) rfl rfl zl ?_
     with_reducible refine (laws_toPool.calls k _ _ l0_0 t399 _ ?side1 ?side2 A18.out).mono ?_
     (case side1 => exact zc (Kd.C_below HR0_0.out HB.out))
     (case side2 => exact HC0_0.out)
     rintro e w159 ⟨v400, rfl, ho0, hb⟩
     refine ⟨_, rfl, ?_⟩
     have n0_ := Aside0.mk (Kd.R_elder' (zr HO381.out) (Kd.R_base ho0) hb)
     have n1_ := Aside0.mk (Kd.R_below (zr HO384.out) hb)
     have n2_ := Aside0.mk (Kd.R_below (zr HO387.out) hb)
     have n3_ := Aside0.mk (Kd.R_elder' (zr HO390.out) (Kd.R_base ho0) hb)
     have n4_ := Aside0.mk (Kd.R_below (zr HO394.out) hb)
     have n5_ := Aside0.mk (Kd.R_below (zr HO397.out) hb)
     have n6_ := Aside0.mk (Kd.R_lower (Kd.R_new' (Kd.R_new' ho0 (Kd.R_lt (zr HO381.out))) (Kd.R_lt (zr HO390.out))) (below_size (zb HB.out)))
     have n7_ := Aside0.mk (blk_below (zh BK377.out) hb)
     have n8_ := Aside0.mk (blk_below (zh BK391.out) hb)
     have n9_ := Aside0.mk (below_step (zb HB.out) hb)
     clear HO381
     clear HO384
     clear HO387
     clear HO390
     clear HO394
     clear HO397
     clear BK377
     clear BK391
     clear HB
     have HO381 := n0_
     have HO384 := n1_
     have HO387 := n2_
     have HO390 := n3_
     have HO394 := n4_
     have HO397 := n5_
     have HO401 := n6_
     have BK377 := n7_
     have BK391 := n8_
     have HB := n9_
     clear n0_ n1_ n2_ n3_ n4_ n5_ n6_ n7_ n8_ n9_
     (try clear hb)
     (try clear hb2)
     (try clear hk)
     (try clear hi)
     (try clear ho0)
     obtain ⟨Ao160, co160, eo160⟩ := Kd.R_slice HO401.out
     (first | subst eo160 | (injection eo160 with f1_ f2_ f3_; have f4_ := f1_.symm; have f5_ := f3_.symm; clear f1_ f2_ f3_; subst f4_; subst f5_))
     refine hK.out _ _ ⟨(blk_cell BK391.out 0).trans rfl, (blk_cell BK377.out 0).trans rfl⟩ (fun hHeld => ?_)
     clear hK K
     refine norm_ (a' := ?_) ?_ ?_
     rotate_left
     ·show Act.put _ (some 40) _ = _
      simp only [Act.put, List.setIfInBounds_toArray, List.set_cons_zero, List.set_cons_succ, i64_w, i32_w]
      rfl
     refine one_ (i := 3) (N := some 41) #[true, true, true, true, false] rfl rfl (by kernel_rfl) (by decide) (fun K hK => ?_)
     refine goes_ Try.func16 (by kernel_rfl) rfl #[.agg #[.slice Ao149 t388.length co149], .agg #[.slice Ao160 t399.length co160]] (by rfl) rfl rfl zl ?_
     with_reducible refine (laws_eqPool.calls k _ _ t388 _ _ t399 false _ ?side1 ?side2 ?side3 ?side4 A19.out).mono ?_
     (case side1 => exact zc (Kd.R_reads' HO390.out).2.2)
     (case side2 => exact (Kd.R_reads' HO390.out).2.1)
     (case side3 => exact zc (Kd.R_reads' HO401.out).2.2)
     (case side4 => exact (Kd.R_reads' HO401.out).2.1)
     rintro e w161 ⟨rfl, hb⟩
     refine ⟨_, rfl, ?_⟩
     have n0_ := Aside0.mk (Kd.R_below (zr HO381.out) hb)
     have n1_ := Aside0.mk (Kd.R_below (zr HO384.out) hb)
     have n2_ := Aside0.mk (Kd.R_below (zr HO387.out) hb)
     have n3_ := Aside0.mk (Kd.R_below (zr HO390.out) hb)
     have n4_ := Aside0.mk (Kd.R_below (zr HO394.out) hb)
     have n5_ := Aside0.mk (Kd.R_below (zr HO397.out) hb)
     have n6_ := Aside0.mk (Kd.R_below (zr HO401.out) hb)
     have n7_ := Aside0.mk (blk_below (zh BK377.out) hb)
     have n8_ := Aside0.mk (blk_below (zh BK391.out) hb)
     have n9_ := Aside0.mk (below_step (zb HB.out) hb)
     clear HO381
     clear HO384
     clear HO387
     clear HO390
     clear HO394
     clear HO397
     clear HO401
     clear BK377
     clear BK391
     clear HB
     have HO381 := n0_
     have HO384 := n1_
     have HO387 := n2_
     have HO390 := n3_
     have HO394 := n4_
     have HO397 := n5_
     have HO401 := n6_
     have BK377 := n7_
     have BK391 := n8_
     have HB := n9_
     clear n0_ n1_ n2_ n3_ n4_ n5_ n6_ n7_ n8_ n9_
     (try clear hb)
     (try clear hb2)
     (try clear hk)
     (try clear hi)
     refine hK.out _ _ ⟨(blk_cell BK391.out 0).trans rfl, (blk_cell BK377.out 0).trans rfl⟩ (fun hHeld => ?_)
     clear hK K
     refine norm_ (a' := ?_) ?_ ?_
     rotate_left
     ·show Act.put _ (some 41) _ = _
      simp only [Act.put, List.setIfInBounds_toArray, List.set_cons_zero, List.set_cons_succ, i64_w, i32_w]
      rfl
     refine pure_ (i := 4) (N := some 42) (v := ?_) (a' := ?_) #[true, true, true, true, true] rfl rfl (by kernel_rfl) (fun _ _ _ h => h) (Or.inl ⟨by rfl, ?_⟩) ?_ ?_
     rotate_left
     ·intro w'
      go_simp
      with_reducible rfl
     rotate_left
     ·simp only [Act.put, List.setIfInBounds_toArray, List.set_cons_zero, List.set_cons_succ, i64_w, i32_w]
      rfl
     refine done_ (by kernel_rfl) ?_
     try go_wp2
     go_ret
     exact ⟨ze, zb HB.out⟩
   ·replace c17 := Bool.eq_false_iff.mpr c17
    subst c17
    have H1 : (some false) = some r := by rw [if_neg (show ¬ (false = true) by decide)] at H; exact H
    clear H
    have H := H1
    clear H1
    obtain rfl := Option.some.inj H
    go_enter Try.func5, Try.ntmps5
    go_wp2_with (first | ((with_reducible refine gate_dst (N := 2) rfl ?_); refine box_event ?hg (N := 2) ?hd (cs := #[.slice A0_0 l0_0.length c0_0]) (t := 24) ?hr ?_; (case hd => rfl); (case hg => rfl); (case hr => first | (go_simp; done) | (go_simp; rfl)); intro gb377 hg w162 hbox hb; have n0_ := Aside0.mk (below_step (zb HB.out) hb); have n1_ := Aside0.mk (hbox); have n2_ := Aside0.mk ((by rw [hg]; exact (below_size (zb HB.out)) : w.heap.size ≤ gb377)); have n3_ := Aside0.mk ((by rw [hg]; exact (below_size (zb HB.out)) : w.heap.size ≤ gb377)); clear HB; have HB := n0_; have BK377 := n1_; have GW377 := n2_; have GE377 := n3_; clear n0_ n1_ n2_ n3_; clear hb hbox hg; have hcz163_0 : w162.cell? ⟨gb377, 0, none⟩ = some (.slice A0_0 l0_0.length c0_0) := (blk_cell BK377.out 0).trans rfl; have hfz163_0 := blk_frozen BK377.out 0) | ((with_reducible refine gate_callee (f := 11) rfl ?_); refine goesL_ (some 19) rfl rfl Try.func11 (by kernel_rfl) rfl #[.agg #[.slice A0_0 l0_0.length c0_0], .int .i64 1048576] rfl zl ?_; (with_reducible refine (laws_szPool.calls _ _ l0_0 1048576 t378 _ ?side1 ?side2 A5.out).mono ?_); (case side1 => exact zc (Kd.C_below HR0_0.out HB.out)); (case side2 => exact HC0_0.out); rintro e w164 ⟨rfl, hb⟩; refine ⟨_, rfl, ?_⟩; have n0_ := Aside0.mk (blk_below (zh BK377.out) hb); have n1_ := Aside0.mk (below_step (zb HB.out) hb); clear BK377; clear HB; have BK377 := n0_; have HB := n1_; clear n0_ n1_; (try clear hb); (try clear hb2); (try clear hk); (try clear hi); have hcz165_0 : w164.cell? ⟨gb377, 0, none⟩ = some (.slice A0_0 l0_0.length c0_0) := (blk_cell BK377.out 0).trans rfl; have hfz165_0 := blk_frozen BK377.out 0) | ((with_reducible refine gate_callee (f := 13) rfl ?_); refine goesL_ (some 23) rfl rfl Try.func13 (by kernel_rfl) rfl #[.agg #[.slice A0_0 l0_0.length c0_0]] rfl zl ?_; (with_reducible refine (laws_toPool.calls k _ _ l0_0 t379 _ ?side1 ?side2 A10.out).mono ?_); (case side1 => exact zc (Kd.C_below HR0_0.out HB.out)); (case side2 => exact HC0_0.out); rintro e w166 ⟨v380, rfl, ho0, hb⟩; refine ⟨_, rfl, ?_⟩; have n0_ := Aside0.mk (Kd.R_lower ho0 (below_size (zb HB.out))); have n1_ := Aside0.mk (blk_below (zh BK377.out) hb); have n2_ := Aside0.mk (below_step (zb HB.out) hb); clear BK377; clear HB; have HO381 := n0_; have BK377 := n1_; have HB := n2_; clear n0_ n1_ n2_; (try clear hb); (try clear hb2); (try clear hk); (try clear hi); (try clear ho0)) | ((with_reducible refine gate_callee (f := 14) rfl ?_); refine goesL_ (some 25) rfl rfl Try.func14 (by kernel_rfl) rfl #[.slice A1 l1.length c1] rfl zl ?_; (with_reducible refine (laws_toIntS.calls k _ _ l1 t382 _ ?side1 ?side2 A11.out).mono ?_); (case side1 => exact zc (Kd.C_below HR1.out HB.out)); (case side2 => exact HC1.out); rintro e w167 ⟨v383, rfl, ho0, hb⟩; refine ⟨_, rfl, ?_⟩; have n0_ := Aside0.mk (Kd.R_below (zr HO381.out) hb); have n1_ := Aside0.mk (Kd.R_lower ho0 (below_size (zb HB.out))); have n2_ := Aside0.mk (blk_below (zh BK377.out) hb); have n3_ := Aside0.mk (below_step (zb HB.out) hb); clear HO381; clear BK377; clear HB; have HO381 := n0_; have HO384 := n1_; have BK377 := n2_; have HB := n3_; clear n0_ n1_ n2_ n3_; (try clear hb); (try clear hb2); (try clear hk); (try clear hi); (try clear ho0); obtain ⟨Ao168, co168, eo168⟩ := Kd.R_slice HO381.out; subst eo168; obtain ⟨Ao169, co169, eo169⟩ := Kd.R_slice HO384.out; subst eo169) | ((with_reducible refine gate_callee (f := 25) rfl ?_); refine goesL_ (some 26) rfl rfl Try.func25 (by kernel_rfl) rfl #[.agg #[.slice Ao168 t379.length co168], .slice Ao169 t382.length co169] rfl zl ?_; (with_reducible refine (spec_MakesList.calls k _ _ t379 _ _ t382 t385 _ ?side1 ?side2 ?side3 ?side4 A12.out).mono ?_); (case side1 => exact zc (Kd.R_reads' HO381.out).2.2); (case side2 => exact (Kd.R_reads' HO381.out).2.1); (case side3 => exact zc (Kd.R_reads' HO384.out).2.2); (case side4 => exact (Kd.R_reads' HO384.out).2.1); rintro e w170 ⟨v386, rfl, ho0, hb⟩; refine ⟨_, rfl, ?_⟩; have n0_ := Aside0.mk (Kd.R_below (zr HO381.out) hb); have n1_ := Aside0.mk (Kd.R_elder' (zr HO384.out) (Kd.R_base ho0) hb); have n2_ := Aside0.mk (Kd.R_lower (Kd.R_new' ho0 (Kd.R_lt (zr HO384.out))) (below_size (zb HB.out))); have n3_ := Aside0.mk (blk_below (zh BK377.out) hb); have n4_ := Aside0.mk (below_step (zb HB.out) hb); clear HO381; clear HO384; clear BK377; clear HB; have HO381 := n0_; have HO384 := n1_; have HO387 := n2_; have BK377 := n3_; have HB := n4_; clear n0_ n1_ n2_ n3_ n4_; (try clear hb); (try clear hb2); (try clear hk); (try clear hi); (try clear ho0); have hcz171_0 : w170.cell? ⟨gb377, 0, none⟩ = some (.slice A0_0 l0_0.length c0_0) := (blk_cell BK377.out 0).trans rfl; have hfz171_0 := blk_frozen BK377.out 0) | ((with_reducible refine gate_callee (f := 13) rfl ?_); refine goesL_ (some 28) rfl rfl Try.func13 (by kernel_rfl) rfl #[.agg #[.slice A0_0 l0_0.length c0_0]] rfl zl ?_; (with_reducible refine (laws_toPool.calls k _ _ l0_0 t388 _ ?side1 ?side2 A13.out).mono ?_); (case side1 => exact zc (Kd.C_below HR0_0.out HB.out)); (case side2 => exact HC0_0.out); rintro e w172 ⟨v389, rfl, ho0, hb⟩; refine ⟨_, rfl, ?_⟩; have n0_ := Aside0.mk (Kd.R_elder' (zr HO381.out) (Kd.R_base ho0) hb); have n1_ := Aside0.mk (Kd.R_below (zr HO384.out) hb); have n2_ := Aside0.mk (Kd.R_below (zr HO387.out) hb); have n3_ := Aside0.mk (Kd.R_lower (Kd.R_new' ho0 (Kd.R_lt (zr HO381.out))) (below_size (zb HB.out))); have n4_ := Aside0.mk (blk_below (zh BK377.out) hb); have n5_ := Aside0.mk (below_step (zb HB.out) hb); clear HO381; clear HO384; clear HO387; clear BK377; clear HB; have HO381 := n0_; have HO384 := n1_; have HO387 := n2_; have HO390 := n3_; have BK377 := n4_; have HB := n5_; clear n0_ n1_ n2_ n3_ n4_ n5_; (try clear hb); (try clear hb2); (try clear hk); (try clear hi); (try clear ho0)) | ((with_reducible refine gate_dst (N := 7) rfl ?_); refine box_event ?hg (N := 7) ?hd (cs := #[.slice none 0 0]) (t := 30) ?hr ?_; (case hd => rfl); (case hg => rfl); (case hr => first | (go_simp; done) | (go_simp; rfl)); intro gb391 hg w173 hbox hb; have n0_ := Aside0.mk (Kd.R_below (zr HO381.out) hb); have n1_ := Aside0.mk (Kd.R_below (zr HO384.out) hb); have n2_ := Aside0.mk (Kd.R_below (zr HO387.out) hb); have n3_ := Aside0.mk (Kd.R_below (zr HO390.out) hb); have n4_ := Aside0.mk (blk_below (zh BK377.out) hb); have n5_ := Aside0.mk (below_step (zb HB.out) hb); have n6_ := Aside0.mk (hbox); have n7_ := Aside0.mk ((by rw [hg]; exact (below_size (zb HB.out)) : w.heap.size ≤ gb391)); have n8_ := Aside0.mk ((by rw [hg]; exact (below_size (zb HB.out)) : w.heap.size ≤ gb391)); have n9_ := Aside0.mk ((by rw [hg]; exact Nat.ne_of_lt (blk_lt (zh BK377.out)) : gb377 ≠ gb391)); have n10_ := Aside0.mk ((by rw [hg]; exact Nat.ne_of_gt (blk_lt (zh BK377.out)) : gb391 ≠ gb377)); clear HO381; clear HO384; clear HO387; clear HO390; clear BK377; clear HB; have HO381 := n0_; have HO384 := n1_; have HO387 := n2_; have HO390 := n3_; have BK377 := n4_; have HB := n5_; have BK391 := n6_; have GW391 := n7_; have GE391 := n8_; have NB377_391 := n9_; have NB391_377 := n10_; clear n0_ n1_ n2_ n3_ n4_ n5_ n6_ n7_ n8_ n9_ n10_; clear hb hbox hg; obtain ⟨Ao174, co174, eo174⟩ := Kd.R_slice HO390.out; subst eo174; have hnb175 := NB391_377.out; have hnc175 := NB377_391.out; have hcz176_0 : w173.cell? ⟨gb391, 0, none⟩ = some (.slice none 0 0) := (blk_cell BK391.out 0).trans rfl; have hfz176_0 := blk_frozen BK391.out 0) | ((with_reducible refine gate_callee (f := 14) rfl ?_); refine goesL_ (some 30) rfl rfl Try.func14 (by kernel_rfl) rfl #[.slice A1 l1.length c1] rfl zl ?_; (with_reducible refine (laws_toIntS.calls k _ _ l1 t392 _ ?side1 ?side2 A14.out).mono ?_); (case side1 => exact Kd.C_below HR1.out (zb HB.out)); (case side2 => exact HC1.out); rintro e w177 ⟨v393, rfl, ho0, hb⟩; refine ⟨_, rfl, ?_⟩; have n0_ := Aside0.mk (Kd.R_below (by (with_reducible repeat (first | apply Kd.R_alloc | apply Kd.R_drewN | apply Kd.R_drew)); exact (Kd.R_mono (Kd.R_far (p := ⟨gb391, 0, none⟩) (Kd.R_types HO381.out BK391.out (by decide)) (fun _ hk => hk.2) (.slice Ao174 t388.length co174)) (fun _ h_ => h_.1))) hb); have n1_ := Aside0.mk (Kd.R_elder' (by (with_reducible repeat (first | apply Kd.R_alloc | apply Kd.R_drewN | apply Kd.R_drew)); exact (Kd.R_mono (Kd.R_far (p := ⟨gb391, 0, none⟩) (Kd.R_types HO384.out BK391.out (by decide)) (fun _ hk => hk.2) (.slice Ao174 t388.length co174)) (fun _ h_ => h_.1))) (Kd.R_base ho0) hb); have n2_ := Aside0.mk (Kd.R_elder' (by (with_reducible repeat (first | apply Kd.R_alloc | apply Kd.R_drewN | apply Kd.R_drew)); exact (Kd.R_mono (Kd.R_far (p := ⟨gb391, 0, none⟩) (Kd.R_types HO387.out BK391.out (by decide)) (fun _ hk => hk.2) (.slice Ao174 t388.length co174)) (fun _ h_ => h_.1))) (Kd.R_base ho0) hb); have n3_ := Aside0.mk (Kd.R_below (by (with_reducible repeat (first | apply Kd.R_alloc | apply Kd.R_drewN | apply Kd.R_drew)); exact (Kd.R_mono (Kd.R_far (p := ⟨gb391, 0, none⟩) (Kd.R_types HO390.out BK391.out (by decide)) (fun _ hk => hk.2) (.slice Ao174 t388.length co174)) (fun _ h_ => h_.1))) hb); have n4_ := Aside0.mk (Kd.R_lower (Kd.R_new' (Kd.R_new' ho0 (Kd.R_lt (by (with_reducible repeat (first | apply Kd.R_alloc | apply Kd.R_drewN | apply Kd.R_drew)); exact (Kd.R_mono (Kd.R_far (p := ⟨gb391, 0, none⟩) (Kd.R_types HO384.out BK391.out (by decide)) (fun _ hk => hk.2) (.slice Ao174 t388.length co174)) (fun _ h_ => h_.1))))) (Kd.R_lt (by (with_reducible repeat (first | apply Kd.R_alloc | apply Kd.R_drewN | apply Kd.R_drew)); exact (Kd.R_mono (Kd.R_far (p := ⟨gb391, 0, none⟩) (Kd.R_types HO387.out BK391.out (by decide)) (fun _ hk => hk.2) (.slice Ao174 t388.length co174)) (fun _ h_ => h_.1))))) (below_size (zb HB.out))); have n5_ := Aside0.mk (blk_below (g := gb377) (o := .cells #[.slice A0_0 l0_0.length c0_0] 24 (0, 0)) (zf BK377.out) hb); have n6_ := Aside0.mk (blk_below (g := gb391) (o := .cells #[.slice Ao174 t388.length co174] 30 (0, 0)) (by (with_reducible repeat (first | refine blk_drewN ?_ _ | refine blk_drew ?_ | refine blk_alloc ?_ _)); refine blk_put (cs := #[.slice none 0 0]) ?_ 0 _ rfl; (with_reducible repeat (first | refine blk_drewN ?_ _ | refine blk_drew ?_ | refine blk_alloc ?_ _)); exact BK391.out) hb); have n7_ := Aside0.mk (below_step (zb HB.out) hb); clear HO381; clear HO384; clear HO387; clear HO390; clear BK377; clear BK391; clear HB; have HO381 := n0_; have HO384 := n1_; have HO387 := n2_; have HO390 := n3_; have HO394 := n4_; have BK377 := n5_; have BK391 := n6_; have HB := n7_; clear n0_ n1_ n2_ n3_ n4_ n5_ n6_ n7_; (try clear hb); (try clear hb2); (try clear hk); (try clear hi); (try clear ho0); have hcz178_0 : w177.cell? ⟨gb391, 0, none⟩ = some (.slice Ao174 t388.length co174) := (blk_cell BK391.out 0).trans rfl; have hfz178_0 := blk_frozen BK391.out 0; obtain ⟨Ao179, co179, eo179⟩ := Kd.R_slice HO394.out; subst eo179) | ((with_reducible refine gate_callee (f := 26) rfl ?_); refine goesL_ (some 33) rfl rfl Try.func26 (by kernel_rfl) rfl #[.agg #[.slice Ao174 t388.length co174], .slice Ao179 t392.length co179] rfl zl ?_; (with_reducible refine (impl_MakesList.calls k _ _ t388 _ _ t392 t395 _ ?side1 ?side2 ?side3 ?side4 A15.out).mono ?_); (case side1 => exact zc (Kd.R_reads' HO390.out).2.2); (case side2 => exact (Kd.R_reads' HO390.out).2.1); (case side3 => exact zc (Kd.R_reads' HO394.out).2.2); (case side4 => exact (Kd.R_reads' HO394.out).2.1); rintro e w180 ⟨v396, rfl, ho0, hb⟩; refine ⟨_, rfl, ?_⟩; have n0_ := Aside0.mk (Kd.R_below (zr HO381.out) hb); have n1_ := Aside0.mk (Kd.R_elder' (zr HO384.out) (Kd.R_base ho0) hb); have n2_ := Aside0.mk (Kd.R_elder' (zr HO387.out) (Kd.R_base ho0) hb); have n3_ := Aside0.mk (Kd.R_below (zr HO390.out) hb); have n4_ := Aside0.mk (Kd.R_elder' (zr HO394.out) (Kd.R_base ho0) hb); have n5_ := Aside0.mk (Kd.R_lower (Kd.R_new' (Kd.R_new' (Kd.R_new' ho0 (Kd.R_lt (zr HO384.out))) (Kd.R_lt (zr HO387.out))) (Kd.R_lt (zr HO394.out))) (below_size (zb HB.out))); have n6_ := Aside0.mk (blk_below (zh BK377.out) hb); have n7_ := Aside0.mk (blk_below (zh BK391.out) hb); have n8_ := Aside0.mk (below_step (zb HB.out) hb); clear HO381; clear HO384; clear HO387; clear HO390; clear HO394; clear BK377; clear BK391; clear HB; have HO381 := n0_; have HO384 := n1_; have HO387 := n2_; have HO390 := n3_; have HO394 := n4_; have HO397 := n5_; have BK377 := n6_; have BK391 := n7_; have HB := n8_; clear n0_ n1_ n2_ n3_ n4_ n5_ n6_ n7_ n8_; (try clear hb); (try clear hb2); (try clear hk); (try clear hi); (try clear ho0); obtain ⟨Ao181, co181, eo181⟩ := Kd.R_slice HO397.out; subst eo181; obtain ⟨Ao182, co182, eo182⟩ := Kd.R_slice HO387.out; subst eo182) | ((with_reducible refine gate_callee (f := 17) rfl ?_); refine goesL_ (some 36) rfl rfl Try.func17 (by kernel_rfl) rfl #[.slice Ao181 t395.length co181, .slice Ao182 t385.length co182] rfl zl ?_; (with_reducible refine (laws_eqIntS.calls k _ _ t395 _ _ t385 false _ ?side1 ?side2 ?side3 ?side4 A16.out).mono ?_); (case side1 => exact zc (Kd.R_reads' HO397.out).2.2); (case side2 => exact (Kd.R_reads' HO397.out).2.1); (case side3 => exact zc (Kd.R_reads' HO387.out).2.2); (case side4 => exact (Kd.R_reads' HO387.out).2.1); rintro e w' ⟨rfl, ⟨nd, rfl⟩⟩; refine ⟨_, rfl, ?_⟩))
    go_ret
    exact ⟨ze, zb HB.out⟩

end Go.Proofs.Ytgohebghlgamiaa.M
end
