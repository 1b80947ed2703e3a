import Derived.Test.YtgohebghlgamiaaZM0
import Derived.Test.YtgohebghlgamiaaZMg0
import Derived.Test.YtgohebghlgamiaaZMg4
import Derived.Test.YtgohebghlgamiaaZMg7
import Derived.Test.YtgohebghlgamiaaZMg8
import Derived.Test.YtgohebghlgamiaaZMg9
section
-- Written by this session's program (wip/tools/gprint.py over the kit's print) out of the translation; Lean checks it.
namespace Go.Proofs.Ytgohebghlgamiaa.M
open Go.RowKit Go.Proofs.YtgohebghlgamiaaW.PrintWords Go.Proofs.YtgohebghlgamiaaW.PrintLast Go.Proofs.YtgohebghlgamiaaW.PrintMore
attribute [local go_sem] max2_int min2_int max_two min_two max_three min_three max_four min_four   -- for this text's walks alone
set_option linter.unusedVariables false
set_option linter.unusedSimpArgs false
set_option maxRecDepth 100000

/-! ### laws_FnExactMakesAll: function 4 -/
def laws_FnExactMakesAll.j0 : Nat → List Int → List Bool → List Bool → Bool → List (S77) → Option (Bool)
 | 0, _, _, _, _, _ => none
 | k + 1, x1, x6, x9, x61, x306000 => if x61 = true then (some false) else ((laws_markBoolS.f k x9 1).bind fun bt340 => ((laws_heldBoolS.f k bt340.2 1).bind fun t342 => (if t342 < 0 then (some false) else (if t342 = bt340.1 then ((laws_toPool.f k x306000).bind fun t343 => ((laws_toIntS.f k x1).bind fun t346 => ((impl_MakesAll.f k t343 t346).bind fun t349 => ((laws_eqBoolS.f k t349 x6).bind fun t352 => (if t352 = true then ((laws_heldBoolS.f k bt340.2 1).bind fun t353 => (if t353 < 0 then (some false) else (if t353 = bt340.1 then (some true) else (some false)))) else (some false)))))) else (some false)))))
def laws_FnExactMakesAll.f (k : Nat) (l0_0 : List (S77)) (l1 : List Int) : Option (Bool) := if (l1.length : Int) > 1048576 then (some true) else ((laws_szPool.f l0_0 1048576).bind fun t306 => (if t306 < 0 then (some true) else ((laws_toPool.f k l0_0).bind fun t307 => ((laws_toIntS.f k l1).bind fun t310 => ((spec_MakesAll.f k t307 t310).bind fun t313 => ((laws_toPool.f k l0_0).bind fun t316 => ((laws_toIntS.f k l1).bind fun t320 => ((impl_MakesAll.f k t316 t320).bind fun t323 => ((laws_eqBoolS.f k t323 t313).bind fun t326 => (if t326 = true then ((laws_toPool.f k l0_0).bind fun t327 => ((laws_eqPool.f k t316 t327).bind fun t330 => (if t330 = true then ((laws_toIntS.f k l1).bind fun t331 => ((laws_eqIntS.f k t320 t331).bind fun t334 => (if t334 = true then ((laws_markPool.f k t316 1).bind fun bt335 => ((laws_markIntS.f k t320 bt335.1).bind fun bt337 => (if bt337.1 < 0 then (laws_FnExactMakesAll.j0 k l1 t313 t323 true l0_0) else ((laws_eqBoolS.f k t323 t313).bind fun t339 => (laws_FnExactMakesAll.j0 k l1 t313 t323 (!t339) l0_0))))) else (some false)))) else (some false)))) else (some false)))))))))))
theorem laws_FnExactMakesAll.mono_l : ∀ k, (∀ y0 y1 y2 y3 y4, LeO (laws_FnExactMakesAll.j0 k y0 y1 y2 y3 y4) (laws_FnExactMakesAll.j0 (k + 1) y0 y1 y2 y3 y4))
 | 0 => fun _ _ _ _ _ r h => by simp [laws_FnExactMakesAll.j0] at h
 | k + 1 => by
  have ih0 := laws_FnExactMakesAll.mono_l k
  ·intro y0 y1 y2 y3 y4
   unfold laws_FnExactMakesAll.j0
   repeat' first
   | (with_reducible exact ih0 _ _ _ _ _)
   | (with_reducible exact impl_MakesAll.mono _ _ _)
   | (with_reducible exact laws_eqBoolS.mono _ _ _)
   | (with_reducible exact laws_eqIntS.mono _ _ _)
   | (with_reducible exact laws_eqPool.mono _ _ _)
   | (with_reducible exact laws_heldBoolS.mono _ _ _)
   | (with_reducible exact laws_markBoolS.mono _ _ _)
   | (with_reducible exact laws_markIntS.mono _ _ _)
   | (with_reducible exact laws_markPool.mono _ _ _)
   | (with_reducible exact laws_toIntS.mono _ _)
   | (with_reducible exact laws_toPool.mono _ _)
   | (with_reducible exact spec_MakesAll.mono _ _ _)
   | (with_reducible exact LeO.refl _)
   | (with_reducible exact LeO.none _)
   | (with_reducible refine LeO.ite ?_ ?_)
   | (with_reducible refine LeO.bind ?_ (fun _ => ?_))
   | exact ih0 _ _ _ _ _
   | exact impl_MakesAll.mono _ _ _
   | exact laws_eqBoolS.mono _ _ _
   | exact laws_eqIntS.mono _ _ _
   | exact laws_eqPool.mono _ _ _
   | exact laws_heldBoolS.mono _ _ _
   | exact laws_markBoolS.mono _ _ _
   | exact laws_markIntS.mono _ _ _
   | exact laws_markPool.mono _ _ _
   | exact laws_toIntS.mono _ _
   | exact laws_toPool.mono _ _
   | exact spec_MakesAll.mono _ _ _
   | exact LeO.none _
   | refine LeO.ite ?_ ?_
   | refine LeO.bind ?_ (fun _ => ?_)
theorem laws_FnExactMakesAll.mono : ∀ a0 a1 k, LeO (laws_FnExactMakesAll.f k a0 a1) (laws_FnExactMakesAll.f (k + 1) a0 a1) := by
 intro a0 a1 k
 have ih0 := laws_FnExactMakesAll.mono_l k
 unfold laws_FnExactMakesAll.f
 repeat' first
   | (with_reducible exact ih0 _ _ _ _ _)
   | (with_reducible exact impl_MakesAll.mono _ _ _)
   | (with_reducible exact laws_eqBoolS.mono _ _ _)
   | (with_reducible exact laws_eqIntS.mono _ _ _)
   | (with_reducible exact laws_eqPool.mono _ _ _)
   | (with_reducible exact laws_heldBoolS.mono _ _ _)
   | (with_reducible exact laws_markBoolS.mono _ _ _)
   | (with_reducible exact laws_markIntS.mono _ _ _)
   | (with_reducible exact laws_markPool.mono _ _ _)
   | (with_reducible exact laws_toIntS.mono _ _)
   | (with_reducible exact laws_toPool.mono _ _)
   | (with_reducible exact spec_MakesAll.mono _ _ _)
   | (with_reducible exact LeO.refl _)
   | (with_reducible exact LeO.none _)
   | (with_reducible refine LeO.ite ?_ ?_)
   | (with_reducible refine LeO.bind ?_ (fun _ => ?_))
   | exact ih0 _ _ _ _ _
   | exact impl_MakesAll.mono _ _ _
   | exact laws_eqBoolS.mono _ _ _
   | exact laws_eqIntS.mono _ _ _
   | exact laws_eqPool.mono _ _ _
   | exact laws_heldBoolS.mono _ _ _
   | exact laws_markBoolS.mono _ _ _
   | exact laws_markIntS.mono _ _ _
   | exact laws_markPool.mono _ _ _
   | exact laws_toIntS.mono _ _
   | exact laws_toPool.mono _ _
   | exact spec_MakesAll.mono _ _ _
   | exact LeO.none _
   | refine LeO.ite ?_ ?_
   | refine LeO.bind ?_ (fun _ => ?_)
set_option maxHeartbeats 8000000 in
set_option maxRecDepth 100000 in
theorem laws_FnExactMakesAll.calls (k : Nat) (A0_0 : Option Addr) (c0_0 : Nat) (l0_0 : List (S77)) (A1 : Option Addr) (c1 : Nat) (l1 : List Int) (r : Bool) (w : World) (hr0_0 : Kd.C k77 w A0_0 l0_0.length l0_0) (hc0_0 : l0_0.length ≤ c0_0) (hr1 : Kd.C (Kd.int .i64) w A1 l1.length l1) (hc1 : l1.length ≤ c1) (h : laws_FnExactMakesAll.f k l0_0 l1 = some r) :
  Calls Try.prog 4 #[.agg #[.slice A0_0 l0_0.length c0_0], .slice A1 l1.length c1] w fun e w' => e = .returned (.bool r) ∧ Below w.heap.size w w' := by
 have hu24 := Try.underlying24
 have hu30 := Try.underlying30
 have HR0_0 := Aside0.mk hr0_0
 have HC0_0 := Aside0.mk hc0_0
 clear hr0_0 hc0_0
 have HR1 := Aside0.mk hr1
 have HC1 := Aside0.mk hc1
 clear hr1 hc1
 have HB := Aside0.mk (Below.refl w.heap.size w)
 have H : (if (l1.length : Int) > 1048576 then (some true) else ((laws_szPool.f l0_0 1048576).bind fun t306 => (if t306 < 0 then (some true) else ((laws_toPool.f k l0_0).bind fun t307 => ((laws_toIntS.f k l1).bind fun t310 => ((spec_MakesAll.f k t307 t310).bind fun t313 => ((laws_toPool.f k l0_0).bind fun t316 => ((laws_toIntS.f k l1).bind fun t320 => ((impl_MakesAll.f k t316 t320).bind fun t323 => ((laws_eqBoolS.f k t323 t313).bind fun t326 => (if t326 = true then ((laws_toPool.f k l0_0).bind fun t327 => ((laws_eqPool.f k t316 t327).bind fun t330 => (if t330 = true then ((laws_toIntS.f k l1).bind fun t331 => ((laws_eqIntS.f k t320 t331).bind fun t334 => (if t334 = true then ((laws_markPool.f k t316 1).bind fun bt335 => ((laws_markIntS.f k t320 bt335.1).bind fun bt337 => (if bt337.1 < 0 then (laws_FnExactMakesAll.j0 k l1 t313 t323 true l0_0) else ((laws_eqBoolS.f k t323 t313).bind fun t339 => (laws_FnExactMakesAll.j0 k l1 t313 t323 (!t339) l0_0))))) else (some false)))) else (some false)))) else (some false)))))))))))) = some r := h
 clear h
 by_cases c3 : (l1.length : Int) > 1048576
 ·rw [if_pos c3] at H
  have c3b0 : decide (1048576 < (l1.length : Int)) = true := decide_eq_true c3
  have c3b1 : decide (1048576 < l1.length) = true := decide_eq_true (by omega)
  clear c3
  obtain rfl := Option.some.inj H
  go_enter Try.func4, Try.ntmps4
  go_wp2_with (first | ((with_reducible refine gate_dst (N := 2) rfl ?_); refine box_event ?hg (N := 2) ?hd (cs := #[.slice A0_0 l0_0.length c0_0]) (t := 24) ?hr ?_; (case hd => rfl); (case hg => rfl); (case hr => first | (go_simp; done) | (go_simp; rfl)); intro gb305 hg w4 hbox hb; have n0_ := Aside0.mk (below_step (zb HB.out) hb); have n1_ := Aside0.mk (hbox); have n2_ := Aside0.mk ((by rw [hg]; exact (below_size (zb HB.out)) : w.heap.size ≤ gb305)); have n3_ := Aside0.mk ((by rw [hg]; exact (below_size (zb HB.out)) : w.heap.size ≤ gb305)); clear HB; have HB := n0_; have BK305 := n1_; have GW305 := n2_; have GE305 := n3_; clear n0_ n1_ n2_ n3_; clear hb hbox hg))
  go_ret
  exact ⟨ze, zb HB.out⟩
 ·rw [if_neg c3] at H
  have c3b0 : decide (1048576 < (l1.length : Int)) = false := decide_eq_false c3
  have c3b1 : decide (1048576 < l1.length) = false := decide_eq_false (by omega)
  clear c3
  replace H := Option.bind_eq_some_iff.mp H
  obtain ⟨t306, A50, H⟩ := H
  replace H : (if t306 < 0 then (some true) else ((laws_toPool.f k l0_0).bind fun t307 => ((laws_toIntS.f k l1).bind fun t310 => ((spec_MakesAll.f k t307 t310).bind fun t313 => ((laws_toPool.f k l0_0).bind fun t316 => ((laws_toIntS.f k l1).bind fun t320 => ((impl_MakesAll.f k t316 t320).bind fun t323 => ((laws_eqBoolS.f k t323 t313).bind fun t326 => (if t326 = true then ((laws_toPool.f k l0_0).bind fun t327 => ((laws_eqPool.f k t316 t327).bind fun t330 => (if t330 = true then ((laws_toIntS.f k l1).bind fun t331 => ((laws_eqIntS.f k t320 t331).bind fun t334 => (if t334 = true then ((laws_markPool.f k t316 1).bind fun bt335 => ((laws_markIntS.f k t320 bt335.1).bind fun bt337 => (if bt337.1 < 0 then (laws_FnExactMakesAll.j0 k l1 t313 t323 true l0_0) else ((laws_eqBoolS.f k t323 t313).bind fun t339 => (laws_FnExactMakesAll.j0 k l1 t313 t323 (!t339) l0_0))))) else (some false)))) else (some false)))) else (some false)))))))))) = some r := H
  have A5 := Aside0.mk A50
  clear A50
  by_cases c6 : t306 < 0
  ·rw [if_pos c6] at H
   have c6b0 : decide (t306 < 0) = true := decide_eq_true c6
   clear c6
   obtain rfl := Option.some.inj H
   go_enter Try.func4, Try.ntmps4
   go_wp2_with (first | ((with_reducible refine gate_dst (N := 2) rfl ?_); refine box_event ?hg (N := 2) ?hd (cs := #[.slice A0_0 l0_0.length c0_0]) (t := 24) ?hr ?_; (case hd => rfl); (case hg => rfl); (case hr => first | (go_simp; done) | (go_simp; rfl)); intro gb305 hg w7 hbox hb; have n0_ := Aside0.mk (below_step (zb HB.out) hb); have n1_ := Aside0.mk (hbox); have n2_ := Aside0.mk ((by rw [hg]; exact (below_size (zb HB.out)) : w.heap.size ≤ gb305)); have n3_ := Aside0.mk ((by rw [hg]; exact (below_size (zb HB.out)) : w.heap.size ≤ gb305)); clear HB; have HB := n0_; have BK305 := n1_; have GW305 := n2_; have GE305 := n3_; clear n0_ n1_ n2_ n3_; clear hb hbox hg; have hcz8_0 : w7.cell? ⟨gb305, 0, none⟩ = some (.slice A0_0 l0_0.length c0_0) := (blk_cell BK305.out 0).trans rfl; have hfz8_0 := blk_frozen BK305.out 0) | ((with_reducible refine gate_callee (f := 11) rfl ?_); refine goesL_ (some 19) rfl rfl Try.func11 (by kernel_rfl) rfl #[.agg #[.slice A0_0 l0_0.length c0_0], .int .i64 1048576] rfl zl ?_; (with_reducible refine (laws_szPool.calls _ _ l0_0 1048576 t306 _ ?side1 ?side2 A5.out).mono ?_); (case side1 => exact zc (Kd.C_below HR0_0.out HB.out)); (case side2 => exact HC0_0.out); rintro e w9 ⟨rfl, hb⟩; refine ⟨_, rfl, ?_⟩; have n0_ := Aside0.mk (blk_below (zh BK305.out) hb); have n1_ := Aside0.mk (below_step (zb HB.out) hb); clear BK305; clear HB; have BK305 := n0_; have HB := n1_; clear n0_ n1_; (try clear hb); (try clear hb2); (try clear hk); (try clear hi)))
   go_ret
   exact ⟨ze, zb HB.out⟩
  ·rw [if_neg c6] at H
   have c6b0 : decide (t306 < 0) = false := decide_eq_false c6
   clear c6
   replace H := Option.bind_eq_some_iff.mp H
   obtain ⟨t307, A100, H⟩ := H
   replace H : ((laws_toIntS.f k l1).bind fun t310 => ((spec_MakesAll.f k t307 t310).bind fun t313 => ((laws_toPool.f k l0_0).bind fun t316 => ((laws_toIntS.f k l1).bind fun t320 => ((impl_MakesAll.f k t316 t320).bind fun t323 => ((laws_eqBoolS.f k t323 t313).bind fun t326 => (if t326 = true then ((laws_toPool.f k l0_0).bind fun t327 => ((laws_eqPool.f k t316 t327).bind fun t330 => (if t330 = true then ((laws_toIntS.f k l1).bind fun t331 => ((laws_eqIntS.f k t320 t331).bind fun t334 => (if t334 = true then ((laws_markPool.f k t316 1).bind fun bt335 => ((laws_markIntS.f k t320 bt335.1).bind fun bt337 => (if bt337.1 < 0 then (laws_FnExactMakesAll.j0 k l1 t313 t323 true l0_0) else ((laws_eqBoolS.f k t323 t313).bind fun t339 => (laws_FnExactMakesAll.j0 k l1 t313 t323 (!t339) l0_0))))) else (some false)))) else (some false)))) else (some false)))))))) = some r := H
   have A10 := Aside0.mk A100
   clear A100
   replace H := Option.bind_eq_some_iff.mp H
   obtain ⟨t310, A110, H⟩ := H
   replace H : ((spec_MakesAll.f k t307 t310).bind fun t313 => ((laws_toPool.f k l0_0).bind fun t316 => ((laws_toIntS.f k l1).bind fun t320 => ((impl_MakesAll.f k t316 t320).bind fun t323 => ((laws_eqBoolS.f k t323 t313).bind fun t326 => (if t326 = true then ((laws_toPool.f k l0_0).bind fun t327 => ((laws_eqPool.f k t316 t327).bind fun t330 => (if t330 = true then ((laws_toIntS.f k l1).bind fun t331 => ((laws_eqIntS.f k t320 t331).bind fun t334 => (if t334 = true then ((laws_markPool.f k t316 1).bind fun bt335 => ((laws_markIntS.f k t320 bt335.1).bind fun bt337 => (if bt337.1 < 0 then (laws_FnExactMakesAll.j0 k l1 t313 t323 true l0_0) else ((laws_eqBoolS.f k t323 t313).bind fun t339 => (laws_FnExactMakesAll.j0 k l1 t313 t323 (!t339) l0_0))))) else (some false)))) else (some false)))) else (some false))))))) = some r := H
   have A11 := Aside0.mk A110
   clear A110
   replace H := Option.bind_eq_some_iff.mp H
   obtain ⟨t313, A120, H⟩ := H
   replace H : ((laws_toPool.f k l0_0).bind fun t316 => ((laws_toIntS.f k l1).bind fun t320 => ((impl_MakesAll.f k t316 t320).bind fun t323 => ((laws_eqBoolS.f k t323 t313).bind fun t326 => (if t326 = true then ((laws_toPool.f k l0_0).bind fun t327 => ((laws_eqPool.f k t316 t327).bind fun t330 => (if t330 = true then ((laws_toIntS.f k l1).bind fun t331 => ((laws_eqIntS.f k t320 t331).bind fun t334 => (if t334 = true then ((laws_markPool.f k t316 1).bind fun bt335 => ((laws_markIntS.f k t320 bt335.1).bind fun bt337 => (if bt337.1 < 0 then (laws_FnExactMakesAll.j0 k l1 t313 t323 true l0_0) else ((laws_eqBoolS.f k t323 t313).bind fun t339 => (laws_FnExactMakesAll.j0 k l1 t313 t323 (!t339) l0_0))))) else (some false)))) else (some false)))) else (some false)))))) = some r := H
   have A12 := Aside0.mk A120
   clear A120
   replace H := Option.bind_eq_some_iff.mp H
   obtain ⟨t316, A130, H⟩ := H
   replace H : ((laws_toIntS.f k l1).bind fun t320 => ((impl_MakesAll.f k t316 t320).bind fun t323 => ((laws_eqBoolS.f k t323 t313).bind fun t326 => (if t326 = true then ((laws_toPool.f k l0_0).bind fun t327 => ((laws_eqPool.f k t316 t327).bind fun t330 => (if t330 = true then ((laws_toIntS.f k l1).bind fun t331 => ((laws_eqIntS.f k t320 t331).bind fun t334 => (if t334 = true then ((laws_markPool.f k t316 1).bind fun bt335 => ((laws_markIntS.f k t320 bt335.1).bind fun bt337 => (if bt337.1 < 0 then (laws_FnExactMakesAll.j0 k l1 t313 t323 true l0_0) else ((laws_eqBoolS.f k t323 t313).bind fun t339 => (laws_FnExactMakesAll.j0 k l1 t313 t323 (!t339) l0_0))))) else (some false)))) else (some false)))) else (some false))))) = some r := H
   have A13 := Aside0.mk A130
   clear A130
   replace H := Option.bind_eq_some_iff.mp H
   obtain ⟨t320, A140, H⟩ := H
   replace H : ((impl_MakesAll.f k t316 t320).bind fun t323 => ((laws_eqBoolS.f k t323 t313).bind fun t326 => (if t326 = true then ((laws_toPool.f k l0_0).bind fun t327 => ((laws_eqPool.f k t316 t327).bind fun t330 => (if t330 = true then ((laws_toIntS.f k l1).bind fun t331 => ((laws_eqIntS.f k t320 t331).bind fun t334 => (if t334 = true then ((laws_markPool.f k t316 1).bind fun bt335 => ((laws_markIntS.f k t320 bt335.1).bind fun bt337 => (if bt337.1 < 0 then (laws_FnExactMakesAll.j0 k l1 t313 t323 true l0_0) else ((laws_eqBoolS.f k t323 t313).bind fun t339 => (laws_FnExactMakesAll.j0 k l1 t313 t323 (!t339) l0_0))))) else (some false)))) else (some false)))) else (some false)))) = some r := H
   have A14 := Aside0.mk A140
   clear A140
   replace H := Option.bind_eq_some_iff.mp H
   obtain ⟨t323, A150, H⟩ := H
   replace H : ((laws_eqBoolS.f k t323 t313).bind fun t326 => (if t326 = true then ((laws_toPool.f k l0_0).bind fun t327 => ((laws_eqPool.f k t316 t327).bind fun t330 => (if t330 = true then ((laws_toIntS.f k l1).bind fun t331 => ((laws_eqIntS.f k t320 t331).bind fun t334 => (if t334 = true then ((laws_markPool.f k t316 1).bind fun bt335 => ((laws_markIntS.f k t320 bt335.1).bind fun bt337 => (if bt337.1 < 0 then (laws_FnExactMakesAll.j0 k l1 t313 t323 true l0_0) else ((laws_eqBoolS.f k t323 t313).bind fun t339 => (laws_FnExactMakesAll.j0 k l1 t313 t323 (!t339) l0_0))))) else (some false)))) else (some false)))) else (some false))) = some r := H
   have A15 := Aside0.mk A150
   clear A150
   replace H := Option.bind_eq_some_iff.mp H
   obtain ⟨t326, A160, H⟩ := H
   replace H : (if t326 = true then ((laws_toPool.f k l0_0).bind fun t327 => ((laws_eqPool.f k t316 t327).bind fun t330 => (if t330 = true then ((laws_toIntS.f k l1).bind fun t331 => ((laws_eqIntS.f k t320 t331).bind fun t334 => (if t334 = true then ((laws_markPool.f k t316 1).bind fun bt335 => ((laws_markIntS.f k t320 bt335.1).bind fun bt337 => (if bt337.1 < 0 then (laws_FnExactMakesAll.j0 k l1 t313 t323 true l0_0) else ((laws_eqBoolS.f k t323 t313).bind fun t339 => (laws_FnExactMakesAll.j0 k l1 t313 t323 (!t339) l0_0))))) else (some false)))) else (some false)))) else (some false)) = some r := H
   have A16 := Aside0.mk A160
   clear A160
   by_cases c17 : t326 = true
   ·subst c17
    have H1 : ((laws_toPool.f k l0_0).bind fun t327 => ((laws_eqPool.f k t316 t327).bind fun t330 => (if t330 = true then ((laws_toIntS.f k l1).bind fun t331 => ((laws_eqIntS.f k t320 t331).bind fun t334 => (if t334 = true then ((laws_markPool.f k t316 1).bind fun bt335 => ((laws_markIntS.f k t320 bt335.1).bind fun bt337 => (if bt337.1 < 0 then (laws_FnExactMakesAll.j0 k l1 t313 t323 true l0_0) else ((laws_eqBoolS.f k t323 t313).bind fun t339 => (laws_FnExactMakesAll.j0 k l1 t313 t323 (!t339) l0_0))))) else (some false)))) else (some false)))) = some r := by rw [if_pos rfl] at H; exact H
    clear H
    have H := H1
    clear H1
    replace H := Option.bind_eq_some_iff.mp H
    obtain ⟨t327, A180, H⟩ := H
    replace H : ((laws_eqPool.f k t316 t327).bind fun t330 => (if t330 = true then ((laws_toIntS.f k l1).bind fun t331 => ((laws_eqIntS.f k t320 t331).bind fun t334 => (if t334 = true then ((laws_markPool.f k t316 1).bind fun bt335 => ((laws_markIntS.f k t320 bt335.1).bind fun bt337 => (if bt337.1 < 0 then (laws_FnExactMakesAll.j0 k l1 t313 t323 true l0_0) else ((laws_eqBoolS.f k t323 t313).bind fun t339 => (laws_FnExactMakesAll.j0 k l1 t313 t323 (!t339) l0_0))))) else (some false)))) else (some false))) = some r := H
    have A18 := Aside0.mk A180
    clear A180
    replace H := Option.bind_eq_some_iff.mp H
    obtain ⟨t330, A190, H⟩ := H
    replace H : (if t330 = true then ((laws_toIntS.f k l1).bind fun t331 => ((laws_eqIntS.f k t320 t331).bind fun t334 => (if t334 = true then ((laws_markPool.f k t316 1).bind fun bt335 => ((laws_markIntS.f k t320 bt335.1).bind fun bt337 => (if bt337.1 < 0 then (laws_FnExactMakesAll.j0 k l1 t313 t323 true l0_0) else ((laws_eqBoolS.f k t323 t313).bind fun t339 => (laws_FnExactMakesAll.j0 k l1 t313 t323 (!t339) l0_0))))) else (some false)))) else (some false)) = some r := H
    have A19 := Aside0.mk A190
    clear A190
    by_cases c20 : t330 = true
    ·subst c20
     have H1 : ((laws_toIntS.f k l1).bind fun t331 => ((laws_eqIntS.f k t320 t331).bind fun t334 => (if t334 = true then ((laws_markPool.f k t316 1).bind fun bt335 => ((laws_markIntS.f k t320 bt335.1).bind fun bt337 => (if bt337.1 < 0 then (laws_FnExactMakesAll.j0 k l1 t313 t323 true l0_0) else ((laws_eqBoolS.f k t323 t313).bind fun t339 => (laws_FnExactMakesAll.j0 k l1 t313 t323 (!t339) l0_0))))) else (some false)))) = some r := by rw [if_pos rfl] at H; exact H
     clear H
     have H := H1
     clear H1
     replace H := Option.bind_eq_some_iff.mp H
     obtain ⟨t331, A210, H⟩ := H
     replace H : ((laws_eqIntS.f k t320 t331).bind fun t334 => (if t334 = true then ((laws_markPool.f k t316 1).bind fun bt335 => ((laws_markIntS.f k t320 bt335.1).bind fun bt337 => (if bt337.1 < 0 then (laws_FnExactMakesAll.j0 k l1 t313 t323 true l0_0) else ((laws_eqBoolS.f k t323 t313).bind fun t339 => (laws_FnExactMakesAll.j0 k l1 t313 t323 (!t339) l0_0))))) else (some false))) = some r := H
     have A21 := Aside0.mk A210
     clear A210
     replace H := Option.bind_eq_some_iff.mp H
     obtain ⟨t334, A220, H⟩ := H
     replace H : (if t334 = true then ((laws_markPool.f k t316 1).bind fun bt335 => ((laws_markIntS.f k t320 bt335.1).bind fun bt337 => (if bt337.1 < 0 then (laws_FnExactMakesAll.j0 k l1 t313 t323 true l0_0) else ((laws_eqBoolS.f k t323 t313).bind fun t339 => (laws_FnExactMakesAll.j0 k l1 t313 t323 (!t339) l0_0))))) else (some false)) = some r := H
     have A22 := Aside0.mk A220
     clear A220
     by_cases c23 : t334 = true
     ·subst c23
      have H1 : ((laws_markPool.f k t316 1).bind fun bt335 => ((laws_markIntS.f k t320 bt335.1).bind fun bt337 => (if bt337.1 < 0 then (laws_FnExactMakesAll.j0 k l1 t313 t323 true l0_0) else ((laws_eqBoolS.f k t323 t313).bind fun t339 => (laws_FnExactMakesAll.j0 k l1 t313 t323 (!t339) l0_0))))) = some r := by rw [if_pos rfl] at H; exact H
      clear H
      have H := H1
      clear H1
      replace H := Option.bind_eq_some_iff.mp H
      obtain ⟨⟨t335, t336⟩, A240, H⟩ := H
      replace H : ((laws_markIntS.f k t320 t335).bind fun bt337 => (if bt337.1 < 0 then (laws_FnExactMakesAll.j0 k l1 t313 t323 true l0_0) else ((laws_eqBoolS.f k t323 t313).bind fun t339 => (laws_FnExactMakesAll.j0 k l1 t313 t323 (!t339) l0_0)))) = some r := H
      have A24 := Aside0.mk A240
      clear A240
      replace H := Option.bind_eq_some_iff.mp H
      obtain ⟨⟨t337, t338⟩, A250, H⟩ := H
      replace H : (if t337 < 0 then (laws_FnExactMakesAll.j0 k l1 t313 t323 true l0_0) else ((laws_eqBoolS.f k t323 t313).bind fun t339 => (laws_FnExactMakesAll.j0 k l1 t313 t323 (!t339) l0_0))) = some r := H
      have A25 := Aside0.mk A250
      clear A250
      have HC26 := Aside0.mk H
      clear H
      go_enter Try.func4, Try.ntmps4
      try go_wp2_with (first | ((with_reducible refine gate_dst (N := 2) rfl ?_); refine box_event ?hg (N := 2) ?hd (cs := #[.slice A0_0 l0_0.length c0_0]) (t := 24) ?hr ?_; (case hd => rfl); (case hg => rfl); (case hr => first | (go_simp; done) | (go_simp; rfl)); intro gb305 hg w27 hbox hb; have n0_ := Aside0.mk (below_step (zb HB.out) hb); have n1_ := Aside0.mk (hbox); have n2_ := Aside0.mk ((by rw [hg]; exact (below_size (zb HB.out)) : w.heap.size ≤ gb305)); have n3_ := Aside0.mk ((by rw [hg]; exact (below_size (zb HB.out)) : w.heap.size ≤ gb305)); clear HB; have HB := n0_; have BK305 := n1_; have GW305 := n2_; have GE305 := n3_; clear n0_ n1_ n2_ n3_; clear hb hbox hg; have hcz28_0 : w27.cell? ⟨gb305, 0, none⟩ = some (.slice A0_0 l0_0.length c0_0) := (blk_cell BK305.out 0).trans rfl; have hfz28_0 := blk_frozen BK305.out 0) | ((with_reducible refine gate_callee (f := 11) rfl ?_); refine goesL_ (some 19) rfl rfl Try.func11 (by kernel_rfl) rfl #[.agg #[.slice A0_0 l0_0.length c0_0], .int .i64 1048576] rfl zl ?_; (with_reducible refine (laws_szPool.calls _ _ l0_0 1048576 t306 _ ?side1 ?side2 A5.out).mono ?_); (case side1 => exact zc (Kd.C_below HR0_0.out HB.out)); (case side2 => exact HC0_0.out); rintro e w29 ⟨rfl, hb⟩; refine ⟨_, rfl, ?_⟩; have n0_ := Aside0.mk (blk_below (zh BK305.out) hb); have n1_ := Aside0.mk (below_step (zb HB.out) hb); clear BK305; clear HB; have BK305 := n0_; have HB := n1_; clear n0_ n1_; (try clear hb); (try clear hb2); (try clear hk); (try clear hi); have hcz30_0 : w29.cell? ⟨gb305, 0, none⟩ = some (.slice A0_0 l0_0.length c0_0) := (blk_cell BK305.out 0).trans rfl; have hfz30_0 := blk_frozen BK305.out 0) | ((with_reducible refine gate_callee (f := 13) rfl ?_); refine goesL_ (some 23) rfl rfl Try.func13 (by kernel_rfl) rfl #[.agg #[.slice A0_0 l0_0.length c0_0]] rfl zl ?_; (with_reducible refine (laws_toPool.calls k _ _ l0_0 t307 _ ?side1 ?side2 A10.out).mono ?_); (case side1 => exact zc (Kd.C_below HR0_0.out HB.out)); (case side2 => exact HC0_0.out); rintro e w31 ⟨v308, rfl, ho0, hb⟩; refine ⟨_, rfl, ?_⟩; have n0_ := Aside0.mk (Kd.R_lower ho0 (below_size (zb HB.out))); have n1_ := Aside0.mk (blk_below (zh BK305.out) hb); have n2_ := Aside0.mk (below_step (zb HB.out) hb); clear BK305; clear HB; have HO309 := n0_; have BK305 := n1_; have HB := n2_; clear n0_ n1_ n2_; (try clear hb); (try clear hb2); (try clear hk); (try clear hi); (try clear ho0)) | ((with_reducible refine gate_callee (f := 14) rfl ?_); refine goesL_ (some 25) rfl rfl Try.func14 (by kernel_rfl) rfl #[.slice A1 l1.length c1] rfl zl ?_; (with_reducible refine (laws_toIntS.calls k _ _ l1 t310 _ ?side1 ?side2 A11.out).mono ?_); (case side1 => exact zc (Kd.C_below HR1.out HB.out)); (case side2 => exact HC1.out); rintro e w32 ⟨v311, rfl, ho0, hb⟩; refine ⟨_, rfl, ?_⟩; have n0_ := Aside0.mk (Kd.R_below (zr HO309.out) hb); have n1_ := Aside0.mk (Kd.R_lower ho0 (below_size (zb HB.out))); have n2_ := Aside0.mk (blk_below (zh BK305.out) hb); have n3_ := Aside0.mk (below_step (zb HB.out) hb); clear HO309; clear BK305; clear HB; have HO309 := n0_; have HO312 := n1_; have BK305 := n2_; have HB := n3_; clear n0_ n1_ n2_ n3_; (try clear hb); (try clear hb2); (try clear hk); (try clear hi); (try clear ho0); obtain ⟨Ao33, co33, eo33⟩ := Kd.R_slice HO309.out; subst eo33; obtain ⟨Ao34, co34, eo34⟩ := Kd.R_slice HO312.out; subst eo34) | ((with_reducible refine gate_callee (f := 18) rfl ?_); refine goesL_ (some 26) rfl rfl Try.func18 (by kernel_rfl) rfl #[.agg #[.slice Ao33 t307.length co33], .slice Ao34 t310.length co34] rfl zl ?_; (with_reducible refine (spec_MakesAll.calls k _ _ t307 _ _ t310 t313 _ ?side1 ?side2 ?side3 ?side4 A12.out).mono ?_); (case side1 => exact zc (Kd.R_reads' HO309.out).2.2); (case side2 => exact (Kd.R_reads' HO309.out).2.1); (case side3 => exact zc (Kd.R_reads' HO312.out).2.2); (case side4 => exact (Kd.R_reads' HO312.out).2.1); rintro e w35 ⟨v314, rfl, ho0, hb⟩; refine ⟨_, rfl, ?_⟩; have n0_ := Aside0.mk (Kd.R_below (zr HO309.out) hb); have n1_ := Aside0.mk (Kd.R_below (zr HO312.out) hb); have n2_ := Aside0.mk (Kd.R_lower ho0 (below_size (zb HB.out))); have n3_ := Aside0.mk (blk_below (zh BK305.out) hb); have n4_ := Aside0.mk (below_step (zb HB.out) hb); clear HO309; clear HO312; clear BK305; clear HB; have HO309 := n0_; have HO312 := n1_; have HO315 := n2_; have BK305 := n3_; have HB := n4_; clear n0_ n1_ n2_ n3_ n4_; (try clear hb); (try clear hb2); (try clear hk); (try clear hi); (try clear ho0); have hcz36_0 : w35.cell? ⟨gb305, 0, none⟩ = some (.slice A0_0 l0_0.length c0_0) := (blk_cell BK305.out 0).trans rfl; have hfz36_0 := blk_frozen BK305.out 0) | ((with_reducible refine gate_callee (f := 13) rfl ?_); refine goesL_ (some 28) rfl rfl Try.func13 (by kernel_rfl) rfl #[.agg #[.slice A0_0 l0_0.length c0_0]] rfl zl ?_; (with_reducible refine (laws_toPool.calls k _ _ l0_0 t316 _ ?side1 ?side2 A13.out).mono ?_); (case side1 => exact zc (Kd.C_below HR0_0.out HB.out)); (case side2 => exact HC0_0.out); rintro e w37 ⟨v317, rfl, ho0, hb⟩; refine ⟨_, rfl, ?_⟩; have n0_ := Aside0.mk (Kd.R_elder' (zr HO309.out) (Kd.R_base ho0) hb); have n1_ := Aside0.mk (Kd.R_below (zr HO312.out) hb); have n2_ := Aside0.mk (Kd.R_below (zr HO315.out) hb); have n3_ := Aside0.mk (Kd.R_lower (Kd.R_new' ho0 (Kd.R_lt (zr HO309.out))) (below_size (zb HB.out))); have n4_ := Aside0.mk (blk_below (zh BK305.out) hb); have n5_ := Aside0.mk (below_step (zb HB.out) hb); clear HO309; clear HO312; clear HO315; clear BK305; clear HB; have HO309 := n0_; have HO312 := n1_; have HO315 := n2_; have HO318 := n3_; have BK305 := n4_; have HB := n5_; clear n0_ n1_ n2_ n3_ n4_ n5_; (try clear hb); (try clear hb2); (try clear hk); (try clear hi); (try clear ho0)) | ((with_reducible refine gate_dst (N := 7) rfl ?_); refine box_event ?hg (N := 7) ?hd (cs := #[.slice none 0 0]) (t := 30) ?hr ?_; (case hd => rfl); (case hg => rfl); (case hr => first | (go_simp; done) | (go_simp; rfl)); intro gb319 hg w38 hbox hb; have n0_ := Aside0.mk (Kd.R_below (zr HO309.out) hb); have n1_ := Aside0.mk (Kd.R_below (zr HO312.out) hb); have n2_ := Aside0.mk (Kd.R_below (zr HO315.out) hb); have n3_ := Aside0.mk (Kd.R_below (zr HO318.out) hb); have n4_ := Aside0.mk (blk_below (zh BK305.out) hb); have n5_ := Aside0.mk (below_step (zb HB.out) hb); have n6_ := Aside0.mk (hbox); have n7_ := Aside0.mk ((by rw [hg]; exact (below_size (zb HB.out)) : w.heap.size ≤ gb319)); have n8_ := Aside0.mk ((by rw [hg]; exact (below_size (zb HB.out)) : w.heap.size ≤ gb319)); have n9_ := Aside0.mk ((by rw [hg]; exact Nat.ne_of_lt (blk_lt (zh BK305.out)) : gb305 ≠ gb319)); have n10_ := Aside0.mk ((by rw [hg]; exact Nat.ne_of_gt (blk_lt (zh BK305.out)) : gb319 ≠ gb305)); clear HO309; clear HO312; clear HO315; clear HO318; clear BK305; clear HB; have HO309 := n0_; have HO312 := n1_; have HO315 := n2_; have HO318 := n3_; have BK305 := n4_; have HB := n5_; have BK319 := n6_; have GW319 := n7_; have GE319 := n8_; have NB305_319 := n9_; have NB319_305 := n10_; clear n0_ n1_ n2_ n3_ n4_ n5_ n6_ n7_ n8_ n9_ n10_; clear hb hbox hg; obtain ⟨Ao39, co39, eo39⟩ := Kd.R_slice HO318.out; subst eo39; have hnb40 := NB319_305.out; have hnc40 := NB305_319.out; have hcz41_0 : w38.cell? ⟨gb319, 0, none⟩ = some (.slice none 0 0) := (blk_cell BK319.out 0).trans rfl; have hfz41_0 := blk_frozen BK319.out 0) | ((with_reducible refine gate_callee (f := 14) rfl ?_); refine goesL_ (some 30) rfl rfl Try.func14 (by kernel_rfl) rfl #[.slice A1 l1.length c1] rfl zl ?_; (with_reducible refine (laws_toIntS.calls k _ _ l1 t320 _ ?side1 ?side2 A14.out).mono ?_); (case side1 => exact Kd.C_below HR1.out (zb HB.out)); (case side2 => exact HC1.out); rintro e w42 ⟨v321, rfl, ho0, hb⟩; refine ⟨_, rfl, ?_⟩; have n0_ := Aside0.mk (Kd.R_below (by (with_reducible repeat (first | apply Kd.R_alloc | apply Kd.R_drewN | apply Kd.R_drew)); exact (Kd.R_mono (Kd.R_far (p := ⟨gb319, 0, none⟩) (Kd.R_types HO309.out BK319.out (by decide)) (fun _ hk => hk.2) (.slice Ao39 t316.length co39)) (fun _ h_ => h_.1))) hb); have n1_ := Aside0.mk (Kd.R_elder' (by (with_reducible repeat (first | apply Kd.R_alloc | apply Kd.R_drewN | apply Kd.R_drew)); exact (Kd.R_mono (Kd.R_far (p := ⟨gb319, 0, none⟩) (Kd.R_types HO312.out BK319.out (by decide)) (fun _ hk => hk.2) (.slice Ao39 t316.length co39)) (fun _ h_ => h_.1))) (Kd.R_base ho0) hb); have n2_ := Aside0.mk (Kd.R_below (by (with_reducible repeat (first | apply Kd.R_alloc | apply Kd.R_drewN | apply Kd.R_drew)); exact (Kd.R_mono (Kd.R_far (p := ⟨gb319, 0, none⟩) (Kd.R_types HO315.out BK319.out (by decide)) (fun _ hk => hk.2) (.slice Ao39 t316.length co39)) (fun _ h_ => h_.1))) hb); have n3_ := Aside0.mk (Kd.R_below (by (with_reducible repeat (first | apply Kd.R_alloc | apply Kd.R_drewN | apply Kd.R_drew)); exact (Kd.R_mono (Kd.R_far (p := ⟨gb319, 0, none⟩) (Kd.R_types HO318.out BK319.out (by decide)) (fun _ hk => hk.2) (.slice Ao39 t316.length co39)) (fun _ h_ => h_.1))) hb); have n4_ := Aside0.mk (Kd.R_lower (Kd.R_new' ho0 (Kd.R_lt (by (with_reducible repeat (first | apply Kd.R_alloc | apply Kd.R_drewN | apply Kd.R_drew)); exact (Kd.R_mono (Kd.R_far (p := ⟨gb319, 0, none⟩) (Kd.R_types HO312.out BK319.out (by decide)) (fun _ hk => hk.2) (.slice Ao39 t316.length co39)) (fun _ h_ => h_.1))))) (below_size (zb HB.out))); have n5_ := Aside0.mk (blk_below (g := gb305) (o := .cells #[.slice A0_0 l0_0.length c0_0] 24 (0, 0)) (zf BK305.out) hb); have n6_ := Aside0.mk (blk_below (g := gb319) (o := .cells #[.slice Ao39 t316.length co39] 30 (0, 0)) (by (with_reducible repeat (first | refine blk_drewN ?_ _ | refine blk_drew ?_ | refine blk_alloc ?_ _)); refine blk_put (cs := #[.slice none 0 0]) ?_ 0 _ rfl; (with_reducible repeat (first | refine blk_drewN ?_ _ | refine blk_drew ?_ | refine blk_alloc ?_ _)); exact BK319.out) hb); have n7_ := Aside0.mk (below_step (zb HB.out) hb); clear HO309; clear HO312; clear HO315; clear HO318; clear BK305; clear BK319; clear HB; have HO309 := n0_; have HO312 := n1_; have HO315 := n2_; have HO318 := n3_; have HO322 := n4_; have BK305 := n5_; have BK319 := n6_; have HB := n7_; clear n0_ n1_ n2_ n3_ n4_ n5_ n6_ n7_; (try clear hb); (try clear hb2); (try clear hk); (try clear hi); (try clear ho0); have hcz43_0 : w42.cell? ⟨gb319, 0, none⟩ = some (.slice Ao39 t316.length co39) := (blk_cell BK319.out 0).trans rfl; have hfz43_0 := blk_frozen BK319.out 0; obtain ⟨Ao44, co44, eo44⟩ := Kd.R_slice HO322.out; subst eo44) | ((with_reducible refine gate_callee (f := 19) rfl ?_); refine goesL_ (some 33) rfl rfl Try.func19 (by kernel_rfl) rfl #[.agg #[.slice Ao39 t316.length co39], .slice Ao44 t320.length co44] rfl zl ?_; (with_reducible refine (impl_MakesAll.calls k _ _ t316 _ _ t320 t323 _ ?side1 ?side2 ?side3 ?side4 A15.out).mono ?_); (case side1 => exact zc (Kd.R_reads' HO318.out).2.2); (case side2 => exact (Kd.R_reads' HO318.out).2.1); (case side3 => exact zc (Kd.R_reads' HO322.out).2.2); (case side4 => exact (Kd.R_reads' HO322.out).2.1); rintro e w45 ⟨v324, rfl, ho0, hb⟩; refine ⟨_, rfl, ?_⟩; have n0_ := Aside0.mk (Kd.R_below (zr HO309.out) hb); have n1_ := Aside0.mk (Kd.R_below (zr HO312.out) hb); have n2_ := Aside0.mk (Kd.R_elder' (zr HO315.out) (Kd.R_base ho0) hb); have n3_ := Aside0.mk (Kd.R_below (zr HO318.out) hb); have n4_ := Aside0.mk (Kd.R_below (zr HO322.out) hb); have n5_ := Aside0.mk (Kd.R_lower (Kd.R_new' ho0 (Kd.R_lt (zr HO315.out))) (below_size (zb HB.out))); have n6_ := Aside0.mk (blk_below (zh BK305.out) hb); have n7_ := Aside0.mk (blk_below (zh BK319.out) hb); have n8_ := Aside0.mk (below_step (zb HB.out) hb); clear HO309; clear HO312; clear HO315; clear HO318; clear HO322; clear BK305; clear BK319; clear HB; have HO309 := n0_; have HO312 := n1_; have HO315 := n2_; have HO318 := n3_; have HO322 := n4_; have HO325 := n5_; have BK305 := n6_; have BK319 := n7_; have HB := n8_; clear n0_ n1_ n2_ n3_ n4_ n5_ n6_ n7_ n8_; (try clear hb); (try clear hb2); (try clear hk); (try clear hi); (try clear ho0); obtain ⟨Ao46, co46, eo46⟩ := Kd.R_slice HO325.out; subst eo46; obtain ⟨Ao47, co47, eo47⟩ := Kd.R_slice HO315.out; subst eo47) | ((with_reducible refine gate_callee (f := 20) rfl ?_); refine goesL_ (some 36) rfl rfl Try.func20 (by kernel_rfl) rfl #[.slice Ao46 t323.length co46, .slice Ao47 t313.length co47] rfl zl ?_; (with_reducible refine (laws_eqBoolS.calls k _ _ t323 _ _ t313 true _ ?side1 ?side2 ?side3 ?side4 A16.out).mono ?_); (case side1 => exact zc (Kd.R_reads' HO325.out).2.2); (case side2 => exact (Kd.R_reads' HO325.out).2.1); (case side3 => exact zc (Kd.R_reads' HO315.out).2.2); (case side4 => exact (Kd.R_reads' HO315.out).2.1); rintro e w' ⟨rfl, ⟨nd, rfl⟩⟩; refine ⟨_, rfl, ?_⟩))
      (try (rw [drewN_self w45]; generalize hq_ : World.drewN w45 _ = w45; have n0_ : Aside0 (Kd.R k51 51 w45 w.heap.size (fun k_ => some k_ ≠ (.slice Ao39 t316.length co39 : Value).ownBlock) (.slice Ao33 t307.length co33) t307) := ⟨by rw [← hq_]; exact (by (with_reducible repeat (first | apply Kd.R_alloc | apply Kd.R_drewN | apply Kd.R_drew)); exact Kd.R_mono HO309.out (fun _ hk => hk.2))⟩; have n1_ : Aside0 (Kd.R (Kd.int .i64) 3 w45 w.heap.size (fun k_ => some k_ ≠ (.slice Ao44 t320.length co44 : Value).ownBlock) (.slice Ao34 t310.length co34) t310) := ⟨by rw [← hq_]; exact (by (with_reducible repeat (first | apply Kd.R_alloc | apply Kd.R_drewN | apply Kd.R_drew)); exact Kd.R_mono HO312.out (fun _ hk => hk.2))⟩; have n2_ : Aside0 (Kd.R Kd.bool 4 w45 w.heap.size (fun k_ => some k_ ≠ (.slice Ao46 t323.length co46 : Value).ownBlock) (.slice Ao47 t313.length co47) t313) := ⟨by rw [← hq_]; exact (by (with_reducible repeat (first | apply Kd.R_alloc | apply Kd.R_drewN | apply Kd.R_drew)); exact Kd.R_mono HO315.out (fun _ hk => hk.2))⟩; have n3_ : Aside0 (Kd.R k51 51 w45 w.heap.size (fun k_ => some k_ ≠ (.slice Ao33 t307.length co33 : Value).ownBlock) (.slice Ao39 t316.length co39) t316) := ⟨by rw [← hq_]; exact (by (with_reducible repeat (first | apply Kd.R_alloc | apply Kd.R_drewN | apply Kd.R_drew)); exact Kd.R_mono HO318.out (fun _ hk => hk.2))⟩; have n4_ : Aside0 (Kd.R (Kd.int .i64) 3 w45 w.heap.size (fun k_ => some k_ ≠ (.slice Ao34 t310.length co34 : Value).ownBlock) (.slice Ao44 t320.length co44) t320) := ⟨by rw [← hq_]; exact (by (with_reducible repeat (first | apply Kd.R_alloc | apply Kd.R_drewN | apply Kd.R_drew)); exact Kd.R_mono HO322.out (fun _ hk => hk.2))⟩; have n5_ : Aside0 (Kd.R Kd.bool 4 w45 w.heap.size (fun k_ => some k_ ≠ (.slice Ao47 t313.length co47 : Value).ownBlock) (.slice Ao46 t323.length co46) t323) := ⟨by rw [← hq_]; exact (by (with_reducible repeat (first | apply Kd.R_alloc | apply Kd.R_drewN | apply Kd.R_drew)); exact Kd.R_mono HO325.out (fun _ hk => hk.2))⟩; have n6_ : Aside0 (w45.heap[gb305]? = some (.cells #[.slice A0_0 l0_0.length c0_0] 24 (0, 0))) := ⟨by rw [← hq_]; exact (zh BK305.out)⟩; have n7_ : Aside0 (w45.heap[gb319]? = some (.cells #[.slice Ao39 t316.length co39] 30 (0, 0))) := ⟨by rw [← hq_]; exact (zh BK319.out)⟩; have n8_ : Aside0 (Below w.heap.size w w45) := ⟨by rw [← hq_]; exact (zb HB.out)⟩; clear HO309 HO312 HO315 HO318 HO322 HO325 BK305 BK319 HB hq_; have HO309 := n0_; have HO312 := n1_; have HO315 := n2_; have HO318 := n3_; have HO322 := n4_; have HO325 := n5_; have BK305 := n6_; have BK319 := n7_; have HB := n8_; clear n0_ n1_ n2_ n3_ n4_ n5_ n6_ n7_ n8_))
      have n0_ := Aside0.mk (Kd.R_drew HO309.out)
      have n1_ := Aside0.mk (Kd.R_drew HO312.out)
      have n2_ := Aside0.mk (Kd.R_drew HO315.out)
      have n3_ := Aside0.mk (Kd.R_drew HO318.out)
      have n4_ := Aside0.mk (Kd.R_drew HO322.out)
      have n5_ := Aside0.mk (Kd.R_drew HO325.out)
      have n6_ := Aside0.mk (blk_drew BK305.out)
      have n7_ := Aside0.mk (blk_drew BK319.out)
      have n8_ := Aside0.mk (below_drew1 HB.out)
      clear HO309
      clear HO312
      clear HO315
      clear HO318
      clear HO322
      clear HO325
      clear BK305
      clear BK319
      clear HB
      have HO309 := n0_
      have HO312 := n1_
      have HO315 := n2_
      have HO318 := n3_
      have HO322 := n4_
      have HO325 := n5_
      have BK305 := n6_
      have BK319 := n7_
      have HB := n8_
      clear n0_ n1_ n2_ n3_ n4_ n5_ n6_ n7_ n8_
      refine start_ (n := 5) (S := fun w' => w'.cell? ⟨gb319, 0, none⟩ = some (.slice Ao39 t316.length co39) ∧ w'.cell? ⟨gb305, 0, none⟩ = some (.slice A0_0 l0_0.length c0_0)) (ds := []) #[false, false, false, false, false] (by kernel_rfl) rfl rfl ⟨(blk_cell BK319.out 0).trans rfl, (blk_cell BK305.out 0).trans rfl⟩ (fun hHeld => ?_)
      generalize w45.drew = w48 at HO309 HO312 HO315 HO318 HO322 HO325 BK305 BK319 HB hHeld ⊢
      refine take_ (i := 0) (N := some 38) (v := ?_) (a' := ?_) #[true, false, false, false, false] rfl rfl (by kernel_rfl) (fun _ _ _ h => h) (Or.inl ⟨by rfl, ?_⟩) hHeld ?_ ?_
      rotate_left
      ·rintro w' ⟨s0, s1⟩
       go_simp
       with_reducible rfl
      rotate_left
      ·simp only [Act.put, List.setIfInBounds_toArray, List.set_cons_zero, List.set_cons_succ, i64_w, i32_w]
       rfl
      refine take_ (i := 1) (N := some 39) (v := ?_) (a' := ?_) #[true, true, false, false, false] rfl rfl (by kernel_rfl) (fun _ _ _ h => h) (Or.inl ⟨by rfl, ?_⟩) hHeld ?_ ?_
      rotate_left
      ·rintro w' ⟨s0, s1⟩
       go_simp
       with_reducible rfl
      rotate_left
      ·simp only [Act.put, List.setIfInBounds_toArray, List.set_cons_zero, List.set_cons_succ, i64_w, i32_w]
       rfl
      refine one_ (i := 2) (N := some 40) #[true, true, true, false, false] rfl rfl (by kernel_rfl) (by decide) (fun K hK => ?_)
      refine goes_ Try.func13 (by kernel_rfl) rfl #[.agg #[.slice A0_0 l0_0.length c0_0]] (by rfl) rfl rfl zl ?_
      with_reducible refine (laws_toPool.calls k _ _ l0_0 t327 _ ?side1 ?side2 A18.out).mono ?_
      (case side1 => exact zc (Kd.C_below HR0_0.out HB.out))
      (case side2 => exact HC0_0.out)
      rintro e w49 ⟨v328, rfl, ho0, hb⟩
      refine ⟨_, rfl, ?_⟩
      have n0_ := Aside0.mk (Kd.R_elder' (zr HO309.out) (Kd.R_base ho0) hb)
      have n1_ := Aside0.mk (Kd.R_below (zr HO312.out) hb)
      have n2_ := Aside0.mk (Kd.R_below (zr HO315.out) hb)
      have n3_ := Aside0.mk (Kd.R_elder' (zr HO318.out) (Kd.R_base ho0) hb)
      have n4_ := Aside0.mk (Kd.R_below (zr HO322.out) hb)
      have n5_ := Aside0.mk (Kd.R_below (zr HO325.out) hb)
      have n6_ := Aside0.mk (Kd.R_lower (Kd.R_new' (Kd.R_new' ho0 (Kd.R_lt (zr HO309.out))) (Kd.R_lt (zr HO318.out))) (below_size (zb HB.out)))
      have n7_ := Aside0.mk (blk_below (zh BK305.out) hb)
      have n8_ := Aside0.mk (blk_below (zh BK319.out) hb)
      have n9_ := Aside0.mk (below_step (zb HB.out) hb)
      clear HO309
      clear HO312
      clear HO315
      clear HO318
      clear HO322
      clear HO325
      clear BK305
      clear BK319
      clear HB
      have HO309 := n0_
      have HO312 := n1_
      have HO315 := n2_
      have HO318 := n3_
      have HO322 := n4_
      have HO325 := n5_
      have HO329 := n6_
      have BK305 := n7_
      have BK319 := n8_
      have HB := n9_
      clear n0_ n1_ n2_ n3_ n4_ n5_ n6_ n7_ n8_ n9_
      (try clear hb)
      (try clear hb2)
      (try clear hk)
      (try clear hi)
      (try clear ho0)
      obtain ⟨Ao50, co50, eo50⟩ := Kd.R_slice HO329.out
      (first | subst eo50 | (injection eo50 with f1_ f2_ f3_; have f4_ := f1_.symm; have f5_ := f3_.symm; clear f1_ f2_ f3_; subst f4_; subst f5_))
      refine hK.out _ _ ⟨(blk_cell BK319.out 0).trans rfl, (blk_cell BK305.out 0).trans rfl⟩ (fun hHeld => ?_)
      clear hK K
      refine norm_ (a' := ?_) ?_ ?_
      rotate_left
      ·show Act.put _ (some 40) _ = _
       simp only [Act.put, List.setIfInBounds_toArray, List.set_cons_zero, List.set_cons_succ, i64_w, i32_w]
       rfl
      refine one_ (i := 3) (N := some 41) #[true, true, true, true, false] rfl rfl (by kernel_rfl) (by decide) (fun K hK => ?_)
      refine goes_ Try.func16 (by kernel_rfl) rfl #[.agg #[.slice Ao39 t316.length co39], .agg #[.slice Ao50 t327.length co50]] (by rfl) rfl rfl zl ?_
      with_reducible refine (laws_eqPool.calls k _ _ t316 _ _ t327 true _ ?side1 ?side2 ?side3 ?side4 A19.out).mono ?_
      (case side1 => exact zc (Kd.R_reads' HO318.out).2.2)
      (case side2 => exact (Kd.R_reads' HO318.out).2.1)
      (case side3 => exact zc (Kd.R_reads' HO329.out).2.2)
      (case side4 => exact (Kd.R_reads' HO329.out).2.1)
      rintro e w51 ⟨rfl, hb⟩
      refine ⟨_, rfl, ?_⟩
      have n0_ := Aside0.mk (Kd.R_below (zr HO309.out) hb)
      have n1_ := Aside0.mk (Kd.R_below (zr HO312.out) hb)
      have n2_ := Aside0.mk (Kd.R_below (zr HO315.out) hb)
      have n3_ := Aside0.mk (Kd.R_below (zr HO318.out) hb)
      have n4_ := Aside0.mk (Kd.R_below (zr HO322.out) hb)
      have n5_ := Aside0.mk (Kd.R_below (zr HO325.out) hb)
      have n6_ := Aside0.mk (Kd.R_below (zr HO329.out) hb)
      have n7_ := Aside0.mk (blk_below (zh BK305.out) hb)
      have n8_ := Aside0.mk (blk_below (zh BK319.out) hb)
      have n9_ := Aside0.mk (below_step (zb HB.out) hb)
      clear HO309
      clear HO312
      clear HO315
      clear HO318
      clear HO322
      clear HO325
      clear HO329
      clear BK305
      clear BK319
      clear HB
      have HO309 := n0_
      have HO312 := n1_
      have HO315 := n2_
      have HO318 := n3_
      have HO322 := n4_
      have HO325 := n5_
      have HO329 := n6_
      have BK305 := n7_
      have BK319 := n8_
      have HB := n9_
      clear n0_ n1_ n2_ n3_ n4_ n5_ n6_ n7_ n8_ n9_
      (try clear hb)
      (try clear hb2)
      (try clear hk)
      (try clear hi)
      refine hK.out _ _ ⟨(blk_cell BK319.out 0).trans rfl, (blk_cell BK305.out 0).trans rfl⟩ (fun hHeld => ?_)
      clear hK K
      refine norm_ (a' := ?_) ?_ ?_
      rotate_left
      ·show Act.put _ (some 41) _ = _
       simp only [Act.put, List.setIfInBounds_toArray, List.set_cons_zero, List.set_cons_succ, i64_w, i32_w]
       rfl
      refine pure_ (i := 4) (N := some 42) (v := ?_) (a' := ?_) #[true, true, true, true, true] rfl rfl (by kernel_rfl) (fun _ _ _ h => h) (Or.inl ⟨by rfl, ?_⟩) ?_ ?_
      rotate_left
      ·intro w'
       go_simp
       with_reducible rfl
      rotate_left
      ·simp only [Act.put, List.setIfInBounds_toArray, List.set_cons_zero, List.set_cons_succ, i64_w, i32_w]
       rfl
      refine done_ (by kernel_rfl) ?_
      go_upto_region 20 with (first | ((with_reducible refine gate_callee (f := 14) rfl ?_); refine goesL_ (some 45) rfl rfl Try.func14 (by kernel_rfl) rfl #[.slice A1 l1.length c1] rfl zl ?_; (with_reducible refine (laws_toIntS.calls k _ _ l1 t331 _ ?side1 ?side2 A21.out).mono ?_); (case side1 => exact zc (Kd.C_below HR1.out HB.out)); (case side2 => exact HC1.out); rintro e w52 ⟨v332, rfl, ho0, hb⟩; refine ⟨_, rfl, ?_⟩; have n0_ := Aside0.mk (Kd.R_below (zr HO309.out) hb); have n1_ := Aside0.mk (Kd.R_elder' (zr HO312.out) (Kd.R_base ho0) hb); have n2_ := Aside0.mk (Kd.R_below (zr HO315.out) hb); have n3_ := Aside0.mk (Kd.R_below (zr HO318.out) hb); have n4_ := Aside0.mk (Kd.R_elder' (zr HO322.out) (Kd.R_base ho0) hb); have n5_ := Aside0.mk (Kd.R_below (zr HO325.out) hb); have n6_ := Aside0.mk (Kd.R_below (zr HO329.out) hb); have n7_ := Aside0.mk (Kd.R_lower (Kd.R_new' (Kd.R_new' ho0 (Kd.R_lt (zr HO312.out))) (Kd.R_lt (zr HO322.out))) (below_size (zb HB.out))); have n8_ := Aside0.mk (blk_below (zh BK305.out) hb); have n9_ := Aside0.mk (blk_below (zh BK319.out) hb); have n10_ := Aside0.mk (below_step (zb HB.out) hb); clear HO309; clear HO312; clear HO315; clear HO318; clear HO322; clear HO325; clear HO329; clear BK305; clear BK319; clear HB; have HO309 := n0_; have HO312 := n1_; have HO315 := n2_; have HO318 := n3_; have HO322 := n4_; have HO325 := n5_; have HO329 := n6_; have HO333 := n7_; have BK305 := n8_; have BK319 := n9_; have HB := n10_; clear n0_ n1_ n2_ n3_ n4_ n5_ n6_ n7_ n8_ n9_ n10_; (try clear hb); (try clear hb2); (try clear hk); (try clear hi); (try clear ho0); obtain ⟨Ao53, co53, eo53⟩ := Kd.R_slice HO333.out; subst eo53) | ((with_reducible refine gate_callee (f := 17) rfl ?_); refine goesL_ (some 46) rfl rfl Try.func17 (by kernel_rfl) rfl #[.slice Ao44 t320.length co44, .slice Ao53 t331.length co53] rfl zl ?_; (with_reducible refine (laws_eqIntS.calls k _ _ t320 _ _ t331 true _ ?side1 ?side2 ?side3 ?side4 A22.out).mono ?_); (case side1 => exact zc (Kd.R_reads' HO322.out).2.2); (case side2 => exact (Kd.R_reads' HO322.out).2.1); (case side3 => exact zc (Kd.R_reads' HO333.out).2.2); (case side4 => exact (Kd.R_reads' HO333.out).2.1); rintro e w' ⟨rfl, ⟨nd, rfl⟩⟩; refine ⟨_, rfl, ?_⟩; have hcz54_0 : w52.cell? ⟨gb319, 0, none⟩ = some (.slice Ao39 t316.length co39) := (blk_cell BK319.out 0).trans rfl; have hfz54_0 := blk_frozen BK319.out 0) | ((with_reducible refine gate_callee (f := 21) rfl ?_); refine goesL_ (some 50) rfl rfl Try.func21 (by kernel_rfl) rfl #[.agg #[.slice Ao39 t316.length co39], .int .i64 1] rfl zl ?_; (with_reducible refine (laws_markPool.calls k (fun k_ => some k_ = (.slice Ao39 t316.length co39 : Value).ownBlock) (.slice Ao39 t316.length co39) t316 1 t335 t336 w _ ?side1 ?side2 A24.out).mono ?_); (case side1 => repeat (first | (with_reducible first | exact HB.out | apply below_alloc | apply pw_below_drewN | apply below_drew1 | refine below_set ?_ GE305.out | refine below_set ?_ GE319.out) | exact HB.out)); (case side2 => exact Kd.R_tight rfl HO318.out); rintro e w55 ⟨rfl, hy0, hb, hkp⟩; refine ⟨_, rfl, ?_⟩; have n0_ := Aside0.mk (blk_kept (zh BK305.out) hkp (fun hs_ => (fun e_ => (Kd.R_ne HO318.out BK305.out (by decide)) e_) hs_)); have n1_ := Aside0.mk (Kd.R_mono (ok' := fun k_ => some k_ ≠ (.slice Ao39 t316.length co39 : Value).ownBlock ∧ some k_ ≠ (.slice Ao50 t327.length co50 : Value).ownBlock) (Kd.R_keptB (HO309.out) hkp (fun k_ hk_ hs_ => by first | exact (hk_.1.2) hs_ | (revert hk_; simp only [and_imp]; intros; exact absurd hs_ (by assumption)))) (fun k_ hk_ => by first | exact ⟨hk_.1.1.2, hk_.1.2⟩ | (revert hk_; simp only [and_imp]; intros; and_intros <;> assumption))); have n2_ := Aside0.mk (Kd.R_mono (ok' := fun k_ => some k_ ≠ (.slice Ao44 t320.length co44 : Value).ownBlock ∧ some k_ ≠ (.slice Ao53 t331.length co53 : Value).ownBlock) (Kd.R_keptB ((Kd.R_apart' HO312.out (Kd.R_typed HO318.out) (by decide))) hkp (fun k_ hk_ hs_ => by first | exact (hk_.2) hs_ | (revert hk_; simp only [and_imp]; intros; exact absurd hs_ (by assumption)))) (fun k_ hk_ => by first | exact ⟨hk_.1.1.1.2, hk_.1.1.2⟩ | (revert hk_; simp only [and_imp]; intros; and_intros <;> assumption))); have n3_ := Aside0.mk (Kd.R_mono (ok' := fun k_ => some k_ ≠ (.slice Ao46 t323.length co46 : Value).ownBlock) (Kd.R_keptB ((Kd.R_apart' HO315.out (Kd.R_typed HO318.out) (by decide))) hkp (fun k_ hk_ hs_ => by first | exact (hk_.2) hs_ | (revert hk_; simp only [and_imp]; intros; exact absurd hs_ (by assumption)))) (fun k_ hk_ => by first | exact hk_.1.1.2 | (revert hk_; simp only [and_imp]; intros; and_intros <;> assumption))); have n4_ := Aside0.mk (Kd.R_reok rfl hy0 (fun k_ e_ => HO318.out.1 k_ e_)); have n5_ := Aside0.mk (blk_kept (zh BK319.out) hkp (fun hs_ => (fun e_ => (Kd.R_ne HO318.out BK319.out (by decide)) e_) hs_)); have n6_ := Aside0.mk (Kd.R_mono (ok' := fun k_ => some k_ ≠ (.slice Ao34 t310.length co34 : Value).ownBlock ∧ some k_ ≠ (.slice Ao53 t331.length co53 : Value).ownBlock) (Kd.R_keptB ((Kd.R_apart' HO322.out (Kd.R_typed HO318.out) (by decide))) hkp (fun k_ hk_ hs_ => by first | exact (hk_.2) hs_ | (revert hk_; simp only [and_imp]; intros; exact absurd hs_ (by assumption)))) (fun k_ hk_ => by first | exact ⟨hk_.1.1.1.2, hk_.1.1.2⟩ | (revert hk_; simp only [and_imp]; intros; and_intros <;> assumption))); have n7_ := Aside0.mk (Kd.R_mono (ok' := fun k_ => some k_ ≠ (.slice Ao47 t313.length co47 : Value).ownBlock) (Kd.R_keptB ((Kd.R_apart' HO325.out (Kd.R_typed HO318.out) (by decide))) hkp (fun k_ hk_ hs_ => by first | exact (hk_.2) hs_ | (revert hk_; simp only [and_imp]; intros; exact absurd hs_ (by assumption)))) (fun k_ hk_ => by first | exact hk_.1.1.2 | (revert hk_; simp only [and_imp]; intros; and_intros <;> assumption))); have n8_ := Aside0.mk (Kd.R_mono (ok' := fun k_ => some k_ ≠ (.slice Ao33 t307.length co33 : Value).ownBlock ∧ some k_ ≠ (.slice Ao39 t316.length co39 : Value).ownBlock) (Kd.R_keptB (HO329.out) hkp (fun k_ hk_ hs_ => by first | exact (hk_.2) hs_ | (revert hk_; simp only [and_imp]; intros; exact absurd hs_ (by assumption)))) (fun k_ hk_ => by first | exact ⟨hk_.1.1.2, hk_.1.2⟩ | (revert hk_; simp only [and_imp]; intros; and_intros <;> assumption))); have n9_ := Aside0.mk (Kd.R_mono (ok' := fun k_ => some k_ ≠ (.slice Ao34 t310.length co34 : Value).ownBlock ∧ some k_ ≠ (.slice Ao44 t320.length co44 : Value).ownBlock) (Kd.R_keptB ((Kd.R_apart' HO333.out (Kd.R_typed HO318.out) (by decide))) hkp (fun k_ hk_ hs_ => by first | exact (hk_.2) hs_ | (revert hk_; simp only [and_imp]; intros; exact absurd hs_ (by assumption)))) (fun k_ hk_ => by first | exact ⟨hk_.1.1.1.2, hk_.1.1.2⟩ | (revert hk_; simp only [and_imp]; intros; and_intros <;> assumption))); have n10_ := Aside0.mk (hb); clear BK305; clear HO309; clear HO312; clear HO315; clear HO318; clear BK319; clear HO322; clear HO325; clear HO329; clear HO333; clear HB; have BK305 := n0_; have HO309 := n1_; have HO312 := n2_; have HO315 := n3_; have HO318 := n4_; have BK319 := n5_; have HO322 := n6_; have HO325 := n7_; have HO329 := n8_; have HO333 := n9_; have HB := n10_; clear n0_ n1_ n2_ n3_ n4_ n5_ n6_ n7_ n8_ n9_ n10_; (try clear hb); (try clear hkp); (try clear hy0)) | ((with_reducible refine gate_callee (f := 22) rfl ?_); refine goesL_ (some 53) rfl rfl Try.func22 (by kernel_rfl) rfl #[.slice Ao44 t320.length co44, .int .i64 t335] rfl zl ?_; (with_reducible refine (laws_markIntS.calls k (fun k_ => some k_ = (.slice Ao44 t320.length co44 : Value).ownBlock) (.slice Ao44 t320.length co44) t320 t335 t337 t338 w _ ?side1 ?side2 A25.out).mono ?_); (case side1 => repeat (first | (with_reducible first | exact HB.out | apply below_alloc | apply pw_below_drewN | apply below_drew1 | refine below_set ?_ GE305.out | refine below_set ?_ GE319.out) | exact HB.out)); (case side2 => exact Kd.R_tight rfl HO322.out); rintro e w56 ⟨rfl, hy0, hb, hkp⟩; refine ⟨_, rfl, ?_⟩; have n0_ := Aside0.mk (blk_kept (zh BK305.out) hkp (fun hs_ => (fun e_ => (Kd.R_ne HO322.out BK305.out (by decide)) e_) hs_)); have n1_ := Aside0.mk (Kd.R_mono (ok' := fun k_ => some k_ ≠ (.slice Ao39 t316.length co39 : Value).ownBlock ∧ some k_ ≠ (.slice Ao50 t327.length co50 : Value).ownBlock) (Kd.R_keptB ((Kd.R_apart' HO309.out (Kd.R_typed HO322.out) (by decide))) hkp (fun k_ hk_ hs_ => by first | exact (hk_.2) hs_ | (revert hk_; simp only [and_imp]; intros; exact absurd hs_ (by assumption)))) (fun k_ hk_ => by first | exact ⟨hk_.1.1.1, hk_.1.1.2⟩ | (revert hk_; simp only [and_imp]; intros; and_intros <;> assumption))); have n2_ := Aside0.mk (Kd.R_mono (ok' := fun k_ => some k_ ≠ (.slice Ao44 t320.length co44 : Value).ownBlock ∧ some k_ ≠ (.slice Ao53 t331.length co53 : Value).ownBlock) (Kd.R_keptB (HO312.out) hkp (fun k_ hk_ hs_ => by first | exact (hk_.1) hs_ | (revert hk_; simp only [and_imp]; intros; exact absurd hs_ (by assumption)))) (fun k_ hk_ => by first | exact ⟨hk_.1.1, hk_.1.2⟩ | (revert hk_; simp only [and_imp]; intros; and_intros <;> assumption))); have n3_ := Aside0.mk (Kd.R_mono (ok' := fun k_ => some k_ ≠ (.slice Ao46 t323.length co46 : Value).ownBlock) (Kd.R_keptB ((Kd.R_apart' HO315.out (Kd.R_typed HO322.out) (by decide))) hkp (fun k_ hk_ hs_ => by first | exact (hk_.2) hs_ | (revert hk_; simp only [and_imp]; intros; exact absurd hs_ (by assumption)))) (fun k_ hk_ => by first | exact hk_.1.1 | (revert hk_; simp only [and_imp]; intros; and_intros <;> assumption))); have n4_ := Aside0.mk (Kd.R_mono (ok' := fun k_ => some k_ ≠ (.slice Ao33 t307.length co33 : Value).ownBlock ∧ some k_ ≠ (.slice Ao50 t327.length co50 : Value).ownBlock) (Kd.R_keptB ((Kd.R_apart' HO318.out (Kd.R_typed HO322.out) (by decide))) hkp (fun k_ hk_ hs_ => by first | exact (hk_.2) hs_ | (revert hk_; simp only [and_imp]; intros; exact absurd hs_ (by assumption)))) (fun k_ hk_ => by first | exact ⟨hk_.1.1.1.2, hk_.1.1.2⟩ | (revert hk_; simp only [and_imp]; intros; and_intros <;> assumption))); have n5_ := Aside0.mk (blk_kept (zh BK319.out) hkp (fun hs_ => (fun e_ => (Kd.R_ne HO322.out BK319.out (by decide)) e_) hs_)); have n6_ := Aside0.mk (Kd.R_reok rfl hy0 (fun k_ e_ => HO322.out.1 k_ e_)); have n7_ := Aside0.mk (Kd.R_mono (ok' := fun k_ => some k_ ≠ (.slice Ao47 t313.length co47 : Value).ownBlock) (Kd.R_keptB ((Kd.R_apart' HO325.out (Kd.R_typed HO322.out) (by decide))) hkp (fun k_ hk_ hs_ => by first | exact (hk_.2) hs_ | (revert hk_; simp only [and_imp]; intros; exact absurd hs_ (by assumption)))) (fun k_ hk_ => by first | exact hk_.1.1 | (revert hk_; simp only [and_imp]; intros; and_intros <;> assumption))); have n8_ := Aside0.mk (Kd.R_mono (ok' := fun k_ => some k_ ≠ (.slice Ao33 t307.length co33 : Value).ownBlock ∧ some k_ ≠ (.slice Ao39 t316.length co39 : Value).ownBlock) (Kd.R_keptB ((Kd.R_apart' HO329.out (Kd.R_typed HO322.out) (by decide))) hkp (fun k_ hk_ hs_ => by first | exact (hk_.2) hs_ | (revert hk_; simp only [and_imp]; intros; exact absurd hs_ (by assumption)))) (fun k_ hk_ => by first | exact ⟨hk_.1.1.1, hk_.1.1.2⟩ | (revert hk_; simp only [and_imp]; intros; and_intros <;> assumption))); have n9_ := Aside0.mk (Kd.R_mono (ok' := fun k_ => some k_ ≠ (.slice Ao34 t310.length co34 : Value).ownBlock ∧ some k_ ≠ (.slice Ao44 t320.length co44 : Value).ownBlock) (Kd.R_keptB (HO333.out) hkp (fun k_ hk_ hs_ => by first | exact (hk_.2) hs_ | (revert hk_; simp only [and_imp]; intros; exact absurd hs_ (by assumption)))) (fun k_ hk_ => by first | exact ⟨hk_.1.1, hk_.1.2⟩ | (revert hk_; simp only [and_imp]; intros; and_intros <;> assumption))); have n10_ := Aside0.mk (hb); clear BK305; clear HO309; clear HO312; clear HO315; clear HO318; clear BK319; clear HO322; clear HO325; clear HO329; clear HO333; clear HB; have BK305 := n0_; have HO309 := n1_; have HO312 := n2_; have HO315 := n3_; have HO318 := n4_; have BK319 := n5_; have HO322 := n6_; have HO325 := n7_; have HO329 := n8_; have HO333 := n9_; have HB := n10_; clear n0_ n1_ n2_ n3_ n4_ n5_ n6_ n7_ n8_ n9_ n10_; (try clear hb); (try clear hkp); (try clear hy0)))
      (try simp only [Act.put, List.setIfInBounds_toArray, List.set_cons_zero, List.set_cons_succ])
      go_cut [61] (fun v61 wc => ∃ (kq : Nat) (x61_25 : Bool), v61 = .bool x61_25 ∧ Aside0 (laws_FnExactMakesAll.j0 kq l1 t313 t323 x61_25 l0_0 = some r) ∧ Aside0 (kq ≤ k) ∧ Aside0 (Kd.R Kd.bool 4 wc w.heap.size (fun k_ => some k_ ≠ ((.slice Ao46 t323.length co46) : Value).ownBlock) (.slice Ao47 t313.length co47) t313) ∧ Aside0 (Kd.R Kd.bool 4 wc w.heap.size (fun k_ => some k_ ≠ ((.slice Ao47 t313.length co47) : Value).ownBlock) (.slice Ao46 t323.length co46) t323) ∧ Aside0 (Kd.R k51 51 wc w.heap.size (fun _ => True) (.slice Ao39 t316.length co39) t336) ∧ Aside0 (wc.heap[gb305]? = some (.cells #[(.slice A0_0 l0_0.length c0_0)] 24 (0, 0))) ∧ Aside0 (wc.heap[gb319]? = some (.cells #[(.slice Ao39 t316.length co39)] 30 (0, 0))) ∧ Aside0 (Below w.heap.size w wc))
      case first =>
       have H := HC26.out
       clear HC26
       by_cases c57 : t337 < 0
       ·rw [if_pos c57] at H
        have c57b0 : decide (t337 < 0) = true := decide_eq_true c57
        clear c57
        (first | rw [c57b0] | (simp only [i64_w, i32_w]; rw [c57b0]) | skip)
        have H' := Aside0.mk H
        clear H
        go_wp2
        go_meet
        case rel => exact ⟨_, (true), (by first | rfl | (simp; done) | (simp [*]; done)), H', ⟨by first | omega | exact Nat.le_refl _⟩, ⟨zr HO315.out⟩, ⟨zr HO325.out⟩, ⟨zr (Kd.R_mono HO318.out (fun _ hk => trivial))⟩, ⟨zh BK305.out⟩, ⟨zh BK319.out⟩, ⟨zb HB.out⟩⟩
       ·rw [if_neg c57] at H
        have c57b0 : decide (t337 < 0) = false := decide_eq_false c57
        clear c57
        (first | rw [c57b0] | (simp only [i64_w, i32_w]; rw [c57b0]) | skip)
        replace H := Option.bind_eq_some_iff.mp H
        obtain ⟨t339, A580, H⟩ := H
        replace H : (laws_FnExactMakesAll.j0 k l1 t313 t323 (!t339) l0_0) = some r := H
        have A58 := Aside0.mk A580
        clear A580
        have H' := Aside0.mk H
        clear H
        go_wp2_with (first | (go_at_call 20; (with_reducible refine (laws_eqBoolS.calls k _ _ t323 _ _ t313 t339 _ ?side1 ?side2 ?side3 ?side4 A58.out).mono ?_); (case side1 => exact zc (Kd.R_reads' HO325.out).2.2); (case side2 => exact (Kd.R_reads' HO325.out).2.1); (case side3 => exact zc (Kd.R_reads' HO315.out).2.2); (case side4 => exact (Kd.R_reads' HO315.out).2.1); rintro e w' ⟨rfl, ⟨nd, rfl⟩⟩))
        go_meet
        case rel => exact ⟨_, (!t339), (by first | rfl | (simp; done) | (simp [*]; done)), H', ⟨by first | omega | exact Nat.le_refl _⟩, ⟨zr HO315.out⟩, ⟨zr HO325.out⟩, ⟨zr (Kd.R_mono HO318.out (fun _ hk => trivial))⟩, ⟨zh BK305.out⟩, ⟨zh BK319.out⟩, ⟨zb HB.out⟩⟩
      case rest =>
       clear HC26
       try clear c1
       try clear c2
       try clear p2
       try clear c3
       try clear c3b0
       try clear c3b1
       try clear c4
       try clear c5
       try clear c6
       try clear c6b0
       try clear c11
       try clear c13
       try clear c14
       try clear c16
       try clear c17
       try clear c18
       try clear c19
       try clear c20
       try clear c21
       try clear c22
       try clear c23
       try clear c40
       try clear c57
       try clear c57b0
       try clear hcz28_0
       try clear hcz30_0
       try clear hcz36_0
       try clear hcz41_0
       try clear hcz43_0
       try clear hcz54_0
       try clear hcz8_0
       try clear hfz28_0
       try clear hfz30_0
       try clear hfz36_0
       try clear hfz41_0
       try clear hfz43_0
       try clear hfz54_0
       try clear hfz8_0
       obtain ⟨kq, x61_25, rfl, HA, HJ25, HO_6, HO_9, HO_320000, BK305, BK319, HB⟩ := hcut
       have hl320000_25 := (Kd.R_reads' HO_320000.out).1
       rw [hl320000_25] at HO_320000
       (try simp only [hl320000_25])
       (try simp only [hl320000_25] at BK305)
       (try simp only [hl320000_25] at BK319)
       (try simp only [hl320000_25] at HO_6)
       (try simp only [hl320000_25] at HO_9)
       cases kq with
       | zero => exact absurd HA.out (by simp [laws_FnExactMakesAll.j0])
       | succ kj25 =>
        have H := HA.out
        clear HA
        simp only [laws_FnExactMakesAll.j0] at H
        by_cases c59 : x61_25 = true
        ·subst c59
         have H1 : (some false) = some r := by rw [if_pos rfl] at H; exact H
         clear H
         have H := H1
         clear H1
         obtain rfl := Option.some.inj H
         go_wp2
         go_ret
         exact ⟨ze, zb HB.out⟩
        ·replace c59 := Bool.eq_false_iff.mpr c59
         subst c59
         have H1 : ((laws_markBoolS.f kj25 t323 1).bind fun bt340 => ((laws_heldBoolS.f kj25 bt340.2 1).bind fun t342 => (if t342 < 0 then (some false) else (if t342 = bt340.1 then ((laws_toPool.f kj25 l0_0).bind fun t343 => ((laws_toIntS.f kj25 l1).bind fun t346 => ((impl_MakesAll.f kj25 t343 t346).bind fun t349 => ((laws_eqBoolS.f kj25 t349 t313).bind fun t352 => (if t352 = true then ((laws_heldBoolS.f kj25 bt340.2 1).bind fun t353 => (if t353 < 0 then (some false) else (if t353 = bt340.1 then (some true) else (some false)))) else (some false)))))) else (some false))))) = some r := by rw [if_neg (show ¬ (false = true) by decide)] at H; exact H
         clear H
         have H := H1
         clear H1
         replace H := Option.bind_eq_some_iff.mp H
         obtain ⟨⟨t340, t341⟩, A600, H⟩ := H
         replace H : ((laws_heldBoolS.f kj25 t341 1).bind fun t342 => (if t342 < 0 then (some false) else (if t342 = t340 then ((laws_toPool.f kj25 l0_0).bind fun t343 => ((laws_toIntS.f kj25 l1).bind fun t346 => ((impl_MakesAll.f kj25 t343 t346).bind fun t349 => ((laws_eqBoolS.f kj25 t349 t313).bind fun t352 => (if t352 = true then ((laws_heldBoolS.f kj25 t341 1).bind fun t353 => (if t353 < 0 then (some false) else (if t353 = t340 then (some true) else (some false)))) else (some false)))))) else (some false)))) = some r := H
         have A60 := Aside0.mk A600
         clear A600
         replace H := Option.bind_eq_some_iff.mp H
         obtain ⟨t342, A610, H⟩ := H
         replace H : (if t342 < 0 then (some false) else (if t342 = t340 then ((laws_toPool.f kj25 l0_0).bind fun t343 => ((laws_toIntS.f kj25 l1).bind fun t346 => ((impl_MakesAll.f kj25 t343 t346).bind fun t349 => ((laws_eqBoolS.f kj25 t349 t313).bind fun t352 => (if t352 = true then ((laws_heldBoolS.f kj25 t341 1).bind fun t353 => (if t353 < 0 then (some false) else (if t353 = t340 then (some true) else (some false)))) else (some false)))))) else (some false))) = some r := H
         have A61 := Aside0.mk A610
         clear A610
         by_cases c62 : t342 < 0
         ·rw [if_pos c62] at H
          have c62b0 : decide (t342 < 0) = true := decide_eq_true c62
          clear c62
          obtain rfl := Option.some.inj H
          go_wp2_with (first | ((with_reducible refine gate_callee (f := 23) rfl ?_); refine goesL_ (some 64) rfl rfl Try.func23 (by kernel_rfl) rfl #[.slice Ao46 t323.length co46, .int .i64 1] rfl zl ?_; (with_reducible refine (laws_markBoolS.calls kj25 (fun k_ => some k_ = (.slice Ao46 t323.length co46 : Value).ownBlock) (.slice Ao46 t323.length co46) t323 1 t340 t341 w _ ?side1 ?side2 A60.out).mono ?_); (case side1 => repeat (first | (with_reducible first | exact HB.out | apply below_alloc | apply pw_below_drewN | apply below_drew1 | refine below_set ?_ GE305.out | refine below_set ?_ GE319.out) | exact HB.out)); (case side2 => exact Kd.R_tight rfl HO_9.out); rintro e w63 ⟨rfl, hy0, hb, hkp⟩; refine ⟨_, rfl, ?_⟩; have n0_ := Aside0.mk (Kd.R_mono (ok' := fun k_ => some k_ ≠ (.slice Ao46 t323.length co46 : Value).ownBlock) (Kd.R_keptB (HO_6.out) hkp (fun k_ hk_ hs_ => by first | exact (hk_) hs_ | (revert hk_; simp only [and_imp]; intros; exact absurd hs_ (by assumption)))) (fun k_ hk_ => by first | exact hk_.1 | (revert hk_; simp only [and_imp]; intros; and_intros <;> assumption))); have n1_ := Aside0.mk (Kd.R_reok rfl hy0 (fun k_ e_ => HO_9.out.1 k_ e_)); have n2_ := Aside0.mk (Kd.R_mono (ok' := fun k_ => True) (Kd.R_keptB ((Kd.R_apart' HO_320000.out (Kd.R_typed HO_9.out) (by decide))) hkp (fun k_ hk_ hs_ => by first | exact (hk_.2) hs_ | (revert hk_; simp only [and_imp]; intros; exact absurd hs_ (by assumption)))) (fun k_ hk_ => trivial)); have n3_ := Aside0.mk (blk_kept (zh BK305.out) hkp (fun hs_ => (fun e_ => (Kd.R_ne HO_9.out BK305.out (by decide)) e_) hs_)); have n4_ := Aside0.mk (blk_kept (zh BK319.out) hkp (fun hs_ => (fun e_ => (Kd.R_ne HO_9.out BK319.out (by decide)) e_) hs_)); have n5_ := Aside0.mk (hb); clear HO_6; clear HO_9; clear HO_320000; clear BK305; clear BK319; clear HB; have HO_6 := n0_; have HO_9 := n1_; have HO_320000 := n2_; have BK305 := n3_; have BK319 := n4_; have HB := n5_; clear n0_ n1_ n2_ n3_ n4_ n5_; (try clear hb); (try clear hkp); (try clear hy0)) | ((with_reducible refine gate_callee (f := 24) rfl ?_); refine goesL_ (some 67) rfl rfl Try.func24 (by kernel_rfl) rfl #[.slice Ao46 t341.length co46, .int .i64 1] rfl (by (try simp only [List.map_toArray, List.map_cons, List.map_nil]); first | done | (rw [show t341.length = t323.length from (Kd.R_reads' HO_9.out).1.symm] <;> rfl) | rfl | (simp only [List.length_drop, List.length_take]; rfl)) ?_; (with_reducible refine (laws_heldBoolS.calls kj25 _ _ t341 1 t342 _ ?side1 ?side2 A61.out).mono ?_); (case side1 => exact zc (Kd.R_reads' HO_9.out).2.2); (case side2 => rw [show t341.length = t323.length from (Kd.R_reads' HO_9.out).1.symm]; exact (Kd.R_reads' HO_9.out).2.1); rintro e w' ⟨rfl, ⟨nd, rfl⟩⟩; refine ⟨_, rfl, ?_⟩))
          go_ret
          exact ⟨ze, zb HB.out⟩
         ·rw [if_neg c62] at H
          have c62b0 : decide (t342 < 0) = false := decide_eq_false c62
          clear c62
          by_cases c64 : t342 = t340
          ·rw [if_pos c64] at H
           have c64b0 : (t342 == t340) = true := beq_iff_eq.mpr c64
           have c64b1 : (t342 != t340) = false := bne_eq_false_iff_eq.mpr c64
           clear c64
           replace H := Option.bind_eq_some_iff.mp H
           obtain ⟨t343, A650, H⟩ := H
           replace H : ((laws_toIntS.f kj25 l1).bind fun t346 => ((impl_MakesAll.f kj25 t343 t346).bind fun t349 => ((laws_eqBoolS.f kj25 t349 t313).bind fun t352 => (if t352 = true then ((laws_heldBoolS.f kj25 t341 1).bind fun t353 => (if t353 < 0 then (some false) else (if t353 = t340 then (some true) else (some false)))) else (some false))))) = some r := H
           have A65 := Aside0.mk A650
           clear A650
           replace H := Option.bind_eq_some_iff.mp H
           obtain ⟨t346, A660, H⟩ := H
           replace H : ((impl_MakesAll.f kj25 t343 t346).bind fun t349 => ((laws_eqBoolS.f kj25 t349 t313).bind fun t352 => (if t352 = true then ((laws_heldBoolS.f kj25 t341 1).bind fun t353 => (if t353 < 0 then (some false) else (if t353 = t340 then (some true) else (some false)))) else (some false)))) = some r := H
           have A66 := Aside0.mk A660
           clear A660
           replace H := Option.bind_eq_some_iff.mp H
           obtain ⟨t349, A670, H⟩ := H
           replace H : ((laws_eqBoolS.f kj25 t349 t313).bind fun t352 => (if t352 = true then ((laws_heldBoolS.f kj25 t341 1).bind fun t353 => (if t353 < 0 then (some false) else (if t353 = t340 then (some true) else (some false)))) else (some false))) = some r := H
           have A67 := Aside0.mk A670
           clear A670
           replace H := Option.bind_eq_some_iff.mp H
           obtain ⟨t352, A680, H⟩ := H
           replace H : (if t352 = true then ((laws_heldBoolS.f kj25 t341 1).bind fun t353 => (if t353 < 0 then (some false) else (if t353 = t340 then (some true) else (some false)))) else (some false)) = some r := H
           have A68 := Aside0.mk A680
           clear A680
           by_cases c69 : t352 = true
           ·subst c69
            have H1 : ((laws_heldBoolS.f kj25 t341 1).bind fun t353 => (if t353 < 0 then (some false) else (if t353 = t340 then (some true) else (some false)))) = some r := by rw [if_pos rfl] at H; exact H
            clear H
            have H := H1
            clear H1
            replace H := Option.bind_eq_some_iff.mp H
            obtain ⟨t353, A700, H⟩ := H
            replace H : (if t353 < 0 then (some false) else (if t353 = t340 then (some true) else (some false))) = some r := H
            have A70 := Aside0.mk A700
            clear A700
            by_cases c71 : t353 < 0
            ·rw [if_pos c71] at H
             have c71b0 : decide (t353 < 0) = true := decide_eq_true c71
             clear c71
             obtain rfl := Option.some.inj H
             go_wp2_with (first | ((with_reducible refine gate_callee (f := 23) rfl ?_); refine goesL_ (some 64) rfl rfl Try.func23 (by kernel_rfl) rfl #[.slice Ao46 t323.length co46, .int .i64 1] rfl zl ?_; (with_reducible refine (laws_markBoolS.calls kj25 (fun k_ => some k_ = (.slice Ao46 t323.length co46 : Value).ownBlock) (.slice Ao46 t323.length co46) t323 1 t340 t341 w _ ?side1 ?side2 A60.out).mono ?_); (case side1 => repeat (first | (with_reducible first | exact HB.out | apply below_alloc | apply pw_below_drewN | apply below_drew1 | refine below_set ?_ GE305.out | refine below_set ?_ GE319.out) | exact HB.out)); (case side2 => exact Kd.R_tight rfl HO_9.out); rintro e w72 ⟨rfl, hy0, hb, hkp⟩; refine ⟨_, rfl, ?_⟩; have n0_ := Aside0.mk (Kd.R_mono (ok' := fun k_ => some k_ ≠ (.slice Ao46 t323.length co46 : Value).ownBlock) (Kd.R_keptB (HO_6.out) hkp (fun k_ hk_ hs_ => by first | exact (hk_) hs_ | (revert hk_; simp only [and_imp]; intros; exact absurd hs_ (by assumption)))) (fun k_ hk_ => by first | exact hk_.1 | (revert hk_; simp only [and_imp]; intros; and_intros <;> assumption))); have n1_ := Aside0.mk (Kd.R_reok rfl hy0 (fun k_ e_ => HO_9.out.1 k_ e_)); have n2_ := Aside0.mk (Kd.R_mono (ok' := fun k_ => True) (Kd.R_keptB ((Kd.R_apart' HO_320000.out (Kd.R_typed HO_9.out) (by decide))) hkp (fun k_ hk_ hs_ => by first | exact (hk_.2) hs_ | (revert hk_; simp only [and_imp]; intros; exact absurd hs_ (by assumption)))) (fun k_ hk_ => trivial)); have n3_ := Aside0.mk (blk_kept (zh BK305.out) hkp (fun hs_ => (fun e_ => (Kd.R_ne HO_9.out BK305.out (by decide)) e_) hs_)); have n4_ := Aside0.mk (blk_kept (zh BK319.out) hkp (fun hs_ => (fun e_ => (Kd.R_ne HO_9.out BK319.out (by decide)) e_) hs_)); have n5_ := Aside0.mk (hb); clear HO_6; clear HO_9; clear HO_320000; clear BK305; clear BK319; clear HB; have HO_6 := n0_; have HO_9 := n1_; have HO_320000 := n2_; have BK305 := n3_; have BK319 := n4_; have HB := n5_; clear n0_ n1_ n2_ n3_ n4_ n5_; (try clear hb); (try clear hkp); (try clear hy0)) | ((with_reducible refine gate_callee (f := 24) rfl ?_); refine goesL_ (some 67) rfl rfl Try.func24 (by kernel_rfl) rfl #[.slice Ao46 t341.length co46, .int .i64 1] rfl (by (try simp only [List.map_toArray, List.map_cons, List.map_nil]); first | done | (rw [show t341.length = t323.length from (Kd.R_reads' HO_9.out).1.symm] <;> rfl) | rfl | (simp only [List.length_drop, List.length_take]; rfl)) ?_; (with_reducible refine (laws_heldBoolS.calls kj25 _ _ t341 1 t342 _ ?side1 ?side2 A61.out).mono ?_); (case side1 => exact zc (Kd.R_reads' HO_9.out).2.2); (case side2 => rw [show t341.length = t323.length from (Kd.R_reads' HO_9.out).1.symm]; exact (Kd.R_reads' HO_9.out).2.1); rintro e w' ⟨rfl, ⟨nd, rfl⟩⟩; refine ⟨_, rfl, ?_⟩; have hnb73 := NB305_319.out; have hnc73 := NB319_305.out; have hcz74_0 : w72.cell? ⟨gb305, 0, none⟩ = some (.slice A0_0 l0_0.length c0_0) := (blk_cell BK305.out 0).trans rfl; have hfz74_0 := blk_frozen BK305.out 0) | ((with_reducible refine gate_callee (f := 13) rfl ?_); refine goesL_ (some 74) rfl rfl Try.func13 (by kernel_rfl) rfl #[.agg #[.slice A0_0 l0_0.length c0_0]] rfl zl ?_; (with_reducible refine (laws_toPool.calls kj25 _ _ l0_0 t343 _ ?side1 ?side2 A65.out).mono ?_); (case side1 => exact zc (Kd.C_below HR0_0.out (zb HB.out))); (case side2 => exact HC0_0.out); rintro e w75 ⟨v344, rfl, ho0, hb⟩; refine ⟨_, rfl, ?_⟩; have n0_ := Aside0.mk (Kd.R_below (zr HO_6.out) hb); have n1_ := Aside0.mk (Kd.R_below (zr HO_9.out) hb); have n2_ := Aside0.mk (Kd.R_elder' (zr HO_320000.out) (Kd.R_base ho0) hb); have n3_ := Aside0.mk (Kd.R_lower (Kd.R_new' ho0 (Kd.R_lt (zr HO_320000.out))) (below_size (zb HB.out))); have n4_ := Aside0.mk (blk_below (zh BK305.out) hb); have n5_ := Aside0.mk (blk_below (zh BK319.out) hb); have n6_ := Aside0.mk (below_step (zb HB.out) hb); clear HO_6; clear HO_9; clear HO_320000; clear BK305; clear BK319; clear HB; have HO_6 := n0_; have HO_9 := n1_; have HO_320000 := n2_; have HO345 := n3_; have BK305 := n4_; have BK319 := n5_; have HB := n6_; clear n0_ n1_ n2_ n3_ n4_ n5_ n6_; (try clear hb); (try clear hb2); (try clear hk); (try clear hi); (try clear ho0)) | ((with_reducible refine gate_callee (f := 14) rfl ?_); refine goesL_ (some 76) rfl rfl Try.func14 (by kernel_rfl) rfl #[.slice A1 l1.length c1] rfl zl ?_; (with_reducible refine (laws_toIntS.calls kj25 _ _ l1 t346 _ ?side1 ?side2 A66.out).mono ?_); (case side1 => exact zc (Kd.C_below HR1.out HB.out)); (case side2 => exact HC1.out); rintro e w76 ⟨v347, rfl, ho0, hb⟩; refine ⟨_, rfl, ?_⟩; have n0_ := Aside0.mk (Kd.R_below (zr HO_6.out) hb); have n1_ := Aside0.mk (Kd.R_below (zr HO_9.out) hb); have n2_ := Aside0.mk (Kd.R_below (zr HO_320000.out) hb); have n3_ := Aside0.mk (Kd.R_below (zr HO345.out) hb); have n4_ := Aside0.mk (Kd.R_lower ho0 (below_size (zb HB.out))); have n5_ := Aside0.mk (blk_below (zh BK305.out) hb); have n6_ := Aside0.mk (blk_below (zh BK319.out) hb); have n7_ := Aside0.mk (below_step (zb HB.out) hb); clear HO_6; clear HO_9; clear HO_320000; clear HO345; clear BK305; clear BK319; clear HB; have HO_6 := n0_; have HO_9 := n1_; have HO_320000 := n2_; have HO345 := n3_; have HO348 := n4_; have BK305 := n5_; have BK319 := n6_; have HB := n7_; clear n0_ n1_ n2_ n3_ n4_ n5_ n6_ n7_; (try clear hb); (try clear hb2); (try clear hk); (try clear hi); (try clear ho0); obtain ⟨Ao77, co77, eo77⟩ := Kd.R_slice HO345.out; subst eo77; obtain ⟨Ao78, co78, eo78⟩ := Kd.R_slice HO348.out; subst eo78) | ((with_reducible refine gate_callee (f := 19) rfl ?_); refine goesL_ (some 77) rfl rfl Try.func19 (by kernel_rfl) rfl #[.agg #[.slice Ao77 t343.length co77], .slice Ao78 t346.length co78] rfl zl ?_; (with_reducible refine (impl_MakesAll.calls kj25 _ _ t343 _ _ t346 t349 _ ?side1 ?side2 ?side3 ?side4 A67.out).mono ?_); (case side1 => exact zc (Kd.R_reads' HO345.out).2.2); (case side2 => exact (Kd.R_reads' HO345.out).2.1); (case side3 => exact zc (Kd.R_reads' HO348.out).2.2); (case side4 => exact (Kd.R_reads' HO348.out).2.1); rintro e w79 ⟨v350, rfl, ho0, hb⟩; refine ⟨_, rfl, ?_⟩; have n0_ := Aside0.mk (Kd.R_elder' (zr HO_6.out) (Kd.R_base ho0) hb); have n1_ := Aside0.mk (Kd.R_elder' (zr HO_9.out) (Kd.R_base ho0) hb); have n2_ := Aside0.mk (Kd.R_below (zr HO_320000.out) hb); have n3_ := Aside0.mk (Kd.R_below (zr HO345.out) hb); have n4_ := Aside0.mk (Kd.R_below (zr HO348.out) hb); have n5_ := Aside0.mk (Kd.R_lower (Kd.R_new' (Kd.R_new' ho0 (Kd.R_lt (zr HO_6.out))) (Kd.R_lt (zr HO_9.out))) (below_size (zb HB.out))); have n6_ := Aside0.mk (blk_below (zh BK305.out) hb); have n7_ := Aside0.mk (blk_below (zh BK319.out) hb); have n8_ := Aside0.mk (below_step (zb HB.out) hb); clear HO_6; clear HO_9; clear HO_320000; clear HO345; clear HO348; clear BK305; clear BK319; clear HB; have HO_6 := n0_; have HO_9 := n1_; have HO_320000 := n2_; have HO345 := n3_; have HO348 := n4_; have HO351 := n5_; have BK305 := n6_; have BK319 := n7_; have HB := n8_; clear n0_ n1_ n2_ n3_ n4_ n5_ n6_ n7_ n8_; (try clear hb); (try clear hb2); (try clear hk); (try clear hi); (try clear ho0); obtain ⟨Ao80, co80, eo80⟩ := Kd.R_slice HO351.out; subst eo80) | ((with_reducible refine gate_callee (f := 20) rfl ?_); refine goesL_ (some 80) rfl rfl Try.func20 (by kernel_rfl) rfl #[.slice Ao80 t349.length co80, .slice Ao47 t313.length co47] rfl zl ?_; (with_reducible refine (laws_eqBoolS.calls kj25 _ _ t349 _ _ t313 true _ ?side1 ?side2 ?side3 ?side4 A68.out).mono ?_); (case side1 => exact zc (Kd.R_reads' HO351.out).2.2); (case side2 => exact (Kd.R_reads' HO351.out).2.1); (case side3 => exact zc (Kd.R_reads' HO_6.out).2.2); (case side4 => exact (Kd.R_reads' HO_6.out).2.1); rintro e w' ⟨rfl, ⟨nd, rfl⟩⟩; refine ⟨_, rfl, ?_⟩) | ((with_reducible refine gate_callee (f := 24) rfl ?_); refine goesL_ (some 84) rfl rfl Try.func24 (by kernel_rfl) rfl #[.slice Ao46 t341.length co46, .int .i64 1] rfl (by (try simp only [List.map_toArray, List.map_cons, List.map_nil]); first | done | (rw [show t341.length = t323.length from (Kd.R_reads' HO_9.out).1.symm] <;> rfl) | rfl | (simp only [List.length_drop, List.length_take]; rfl)) ?_; (with_reducible refine (laws_heldBoolS.calls kj25 _ _ t341 1 t353 _ ?side1 ?side2 A70.out).mono ?_); (case side1 => exact zc (Kd.R_reads' HO_9.out).2.2); (case side2 => rw [show t341.length = t323.length from (Kd.R_reads' HO_9.out).1.symm]; exact (Kd.R_reads' HO_9.out).2.1); rintro e w' ⟨rfl, ⟨nd, rfl⟩⟩; refine ⟨_, rfl, ?_⟩))
             go_ret
             exact ⟨ze, zb HB.out⟩
            ·rw [if_neg c71] at H
             have c71b0 : decide (t353 < 0) = false := decide_eq_false c71
             clear c71
             by_cases c81 : t353 = t340
             ·rw [if_pos c81] at H
              have c81b0 : (t353 == t340) = true := beq_iff_eq.mpr c81
              have c81b1 : (t353 != t340) = false := bne_eq_false_iff_eq.mpr c81
              clear c81
              obtain rfl := Option.some.inj H
              go_wp2_with (first | ((with_reducible refine gate_callee (f := 23) rfl ?_); refine goesL_ (some 64) rfl rfl Try.func23 (by kernel_rfl) rfl #[.slice Ao46 t323.length co46, .int .i64 1] rfl zl ?_; (with_reducible refine (laws_markBoolS.calls kj25 (fun k_ => some k_ = (.slice Ao46 t323.length co46 : Value).ownBlock) (.slice Ao46 t323.length co46) t323 1 t340 t341 w _ ?side1 ?side2 A60.out).mono ?_); (case side1 => repeat (first | (with_reducible first | exact HB.out | apply below_alloc | apply pw_below_drewN | apply below_drew1 | refine below_set ?_ GE305.out | refine below_set ?_ GE319.out) | exact HB.out)); (case side2 => exact Kd.R_tight rfl HO_9.out); rintro e w82 ⟨rfl, hy0, hb, hkp⟩; refine ⟨_, rfl, ?_⟩; have n0_ := Aside0.mk (Kd.R_mono (ok' := fun k_ => some k_ ≠ (.slice Ao46 t323.length co46 : Value).ownBlock) (Kd.R_keptB (HO_6.out) hkp (fun k_ hk_ hs_ => by first | exact (hk_) hs_ | (revert hk_; simp only [and_imp]; intros; exact absurd hs_ (by assumption)))) (fun k_ hk_ => by first | exact hk_.1 | (revert hk_; simp only [and_imp]; intros; and_intros <;> assumption))); have n1_ := Aside0.mk (Kd.R_reok rfl hy0 (fun k_ e_ => HO_9.out.1 k_ e_)); have n2_ := Aside0.mk (Kd.R_mono (ok' := fun k_ => True) (Kd.R_keptB ((Kd.R_apart' HO_320000.out (Kd.R_typed HO_9.out) (by decide))) hkp (fun k_ hk_ hs_ => by first | exact (hk_.2) hs_ | (revert hk_; simp only [and_imp]; intros; exact absurd hs_ (by assumption)))) (fun k_ hk_ => trivial)); have n3_ := Aside0.mk (blk_kept (zh BK305.out) hkp (fun hs_ => (fun e_ => (Kd.R_ne HO_9.out BK305.out (by decide)) e_) hs_)); have n4_ := Aside0.mk (blk_kept (zh BK319.out) hkp (fun hs_ => (fun e_ => (Kd.R_ne HO_9.out BK319.out (by decide)) e_) hs_)); have n5_ := Aside0.mk (hb); clear HO_6; clear HO_9; clear HO_320000; clear BK305; clear BK319; clear HB; have HO_6 := n0_; have HO_9 := n1_; have HO_320000 := n2_; have BK305 := n3_; have BK319 := n4_; have HB := n5_; clear n0_ n1_ n2_ n3_ n4_ n5_; (try clear hb); (try clear hkp); (try clear hy0)) | ((with_reducible refine gate_callee (f := 24) rfl ?_); refine goesL_ (some 67) rfl rfl Try.func24 (by kernel_rfl) rfl #[.slice Ao46 t341.length co46, .int .i64 1] rfl (by (try simp only [List.map_toArray, List.map_cons, List.map_nil]); first | done | (rw [show t341.length = t323.length from (Kd.R_reads' HO_9.out).1.symm] <;> rfl) | rfl | (simp only [List.length_drop, List.length_take]; rfl)) ?_; (with_reducible refine (laws_heldBoolS.calls kj25 _ _ t341 1 t342 _ ?side1 ?side2 A61.out).mono ?_); (case side1 => exact zc (Kd.R_reads' HO_9.out).2.2); (case side2 => rw [show t341.length = t323.length from (Kd.R_reads' HO_9.out).1.symm]; exact (Kd.R_reads' HO_9.out).2.1); rintro e w' ⟨rfl, ⟨nd, rfl⟩⟩; refine ⟨_, rfl, ?_⟩; have hnb83 := NB305_319.out; have hnc83 := NB319_305.out; have hcz84_0 : w82.cell? ⟨gb305, 0, none⟩ = some (.slice A0_0 l0_0.length c0_0) := (blk_cell BK305.out 0).trans rfl; have hfz84_0 := blk_frozen BK305.out 0) | ((with_reducible refine gate_callee (f := 13) rfl ?_); refine goesL_ (some 74) rfl rfl Try.func13 (by kernel_rfl) rfl #[.agg #[.slice A0_0 l0_0.length c0_0]] rfl zl ?_; (with_reducible refine (laws_toPool.calls kj25 _ _ l0_0 t343 _ ?side1 ?side2 A65.out).mono ?_); (case side1 => exact zc (Kd.C_below HR0_0.out (zb HB.out))); (case side2 => exact HC0_0.out); rintro e w85 ⟨v344, rfl, ho0, hb⟩; refine ⟨_, rfl, ?_⟩; have n0_ := Aside0.mk (Kd.R_below (zr HO_6.out) hb); have n1_ := Aside0.mk (Kd.R_below (zr HO_9.out) hb); have n2_ := Aside0.mk (Kd.R_elder' (zr HO_320000.out) (Kd.R_base ho0) hb); have n3_ := Aside0.mk (Kd.R_lower (Kd.R_new' ho0 (Kd.R_lt (zr HO_320000.out))) (below_size (zb HB.out))); have n4_ := Aside0.mk (blk_below (zh BK305.out) hb); have n5_ := Aside0.mk (blk_below (zh BK319.out) hb); have n6_ := Aside0.mk (below_step (zb HB.out) hb); clear HO_6; clear HO_9; clear HO_320000; clear BK305; clear BK319; clear HB; have HO_6 := n0_; have HO_9 := n1_; have HO_320000 := n2_; have HO345 := n3_; have BK305 := n4_; have BK319 := n5_; have HB := n6_; clear n0_ n1_ n2_ n3_ n4_ n5_ n6_; (try clear hb); (try clear hb2); (try clear hk); (try clear hi); (try clear ho0)) | ((with_reducible refine gate_callee (f := 14) rfl ?_); refine goesL_ (some 76) rfl rfl Try.func14 (by kernel_rfl) rfl #[.slice A1 l1.length c1] rfl zl ?_; (with_reducible refine (laws_toIntS.calls kj25 _ _ l1 t346 _ ?side1 ?side2 A66.out).mono ?_); (case side1 => exact zc (Kd.C_below HR1.out HB.out)); (case side2 => exact HC1.out); rintro e w86 ⟨v347, rfl, ho0, hb⟩; refine ⟨_, rfl, ?_⟩; have n0_ := Aside0.mk (Kd.R_below (zr HO_6.out) hb); have n1_ := Aside0.mk (Kd.R_below (zr HO_9.out) hb); have n2_ := Aside0.mk (Kd.R_below (zr HO_320000.out) hb); have n3_ := Aside0.mk (Kd.R_below (zr HO345.out) hb); have n4_ := Aside0.mk (Kd.R_lower ho0 (below_size (zb HB.out))); have n5_ := Aside0.mk (blk_below (zh BK305.out) hb); have n6_ := Aside0.mk (blk_below (zh BK319.out) hb); have n7_ := Aside0.mk (below_step (zb HB.out) hb); clear HO_6; clear HO_9; clear HO_320000; clear HO345; clear BK305; clear BK319; clear HB; have HO_6 := n0_; have HO_9 := n1_; have HO_320000 := n2_; have HO345 := n3_; have HO348 := n4_; have BK305 := n5_; have BK319 := n6_; have HB := n7_; clear n0_ n1_ n2_ n3_ n4_ n5_ n6_ n7_; (try clear hb); (try clear hb2); (try clear hk); (try clear hi); (try clear ho0); obtain ⟨Ao87, co87, eo87⟩ := Kd.R_slice HO345.out; subst eo87; obtain ⟨Ao88, co88, eo88⟩ := Kd.R_slice HO348.out; subst eo88) | ((with_reducible refine gate_callee (f := 19) rfl ?_); refine goesL_ (some 77) rfl rfl Try.func19 (by kernel_rfl) rfl #[.agg #[.slice Ao87 t343.length co87], .slice Ao88 t346.length co88] rfl zl ?_; (with_reducible refine (impl_MakesAll.calls kj25 _ _ t343 _ _ t346 t349 _ ?side1 ?side2 ?side3 ?side4 A67.out).mono ?_); (case side1 => exact zc (Kd.R_reads' HO345.out).2.2); (case side2 => exact (Kd.R_reads' HO345.out).2.1); (case side3 => exact zc (Kd.R_reads' HO348.out).2.2); (case side4 => exact (Kd.R_reads' HO348.out).2.1); rintro e w89 ⟨v350, rfl, ho0, hb⟩; refine ⟨_, rfl, ?_⟩; have n0_ := Aside0.mk (Kd.R_elder' (zr HO_6.out) (Kd.R_base ho0) hb); have n1_ := Aside0.mk (Kd.R_elder' (zr HO_9.out) (Kd.R_base ho0) hb); have n2_ := Aside0.mk (Kd.R_below (zr HO_320000.out) hb); have n3_ := Aside0.mk (Kd.R_below (zr HO345.out) hb); have n4_ := Aside0.mk (Kd.R_below (zr HO348.out) hb); have n5_ := Aside0.mk (Kd.R_lower (Kd.R_new' (Kd.R_new' ho0 (Kd.R_lt (zr HO_6.out))) (Kd.R_lt (zr HO_9.out))) (below_size (zb HB.out))); have n6_ := Aside0.mk (blk_below (zh BK305.out) hb); have n7_ := Aside0.mk (blk_below (zh BK319.out) hb); have n8_ := Aside0.mk (below_step (zb HB.out) hb); clear HO_6; clear HO_9; clear HO_320000; clear HO345; clear HO348; clear BK305; clear BK319; clear HB; have HO_6 := n0_; have HO_9 := n1_; have HO_320000 := n2_; have HO345 := n3_; have HO348 := n4_; have HO351 := n5_; have BK305 := n6_; have BK319 := n7_; have HB := n8_; clear n0_ n1_ n2_ n3_ n4_ n5_ n6_ n7_ n8_; (try clear hb); (try clear hb2); (try clear hk); (try clear hi); (try clear ho0); obtain ⟨Ao90, co90, eo90⟩ := Kd.R_slice HO351.out; subst eo90) | ((with_reducible refine gate_callee (f := 20) rfl ?_); refine goesL_ (some 80) rfl rfl Try.func20 (by kernel_rfl) rfl #[.slice Ao90 t349.length co90, .slice Ao47 t313.length co47] rfl zl ?_; (with_reducible refine (laws_eqBoolS.calls kj25 _ _ t349 _ _ t313 true _ ?side1 ?side2 ?side3 ?side4 A68.out).mono ?_); (case side1 => exact zc (Kd.R_reads' HO351.out).2.2); (case side2 => exact (Kd.R_reads' HO351.out).2.1); (case side3 => exact zc (Kd.R_reads' HO_6.out).2.2); (case side4 => exact (Kd.R_reads' HO_6.out).2.1); rintro e w' ⟨rfl, ⟨nd, rfl⟩⟩; refine ⟨_, rfl, ?_⟩) | ((with_reducible refine gate_callee (f := 24) rfl ?_); refine goesL_ (some 84) rfl rfl Try.func24 (by kernel_rfl) rfl #[.slice Ao46 t341.length co46, .int .i64 1] rfl (by (try simp only [List.map_toArray, List.map_cons, List.map_nil]); first | done | (rw [show t341.length = t323.length from (Kd.R_reads' HO_9.out).1.symm] <;> rfl) | rfl | (simp only [List.length_drop, List.length_take]; rfl)) ?_; (with_reducible refine (laws_heldBoolS.calls kj25 _ _ t341 1 t353 _ ?side1 ?side2 A70.out).mono ?_); (case side1 => exact zc (Kd.R_reads' HO_9.out).2.2); (case side2 => rw [show t341.length = t323.length from (Kd.R_reads' HO_9.out).1.symm]; exact (Kd.R_reads' HO_9.out).2.1); rintro e w' ⟨rfl, ⟨nd, rfl⟩⟩; refine ⟨_, rfl, ?_⟩))
              go_ret
              exact ⟨ze, zb HB.out⟩
             ·rw [if_neg c81] at H
              have c81b0 : (t353 == t340) = false := beq_eq_false_iff_ne.mpr c81
              have c81b1 : (t353 != t340) = true := bne_iff_ne.mpr c81
              obtain rfl := Option.some.inj H
              go_wp2_with (first | ((with_reducible refine gate_callee (f := 23) rfl ?_); refine goesL_ (some 64) rfl rfl Try.func23 (by kernel_rfl) rfl #[.slice Ao46 t323.length co46, .int .i64 1] rfl zl ?_; (with_reducible refine (laws_markBoolS.calls kj25 (fun k_ => some k_ = (.slice Ao46 t323.length co46 : Value).ownBlock) (.slice Ao46 t323.length co46) t323 1 t340 t341 w _ ?side1 ?side2 A60.out).mono ?_); (case side1 => repeat (first | (with_reducible first | exact HB.out | apply below_alloc | apply pw_below_drewN | apply below_drew1 | refine below_set ?_ GE305.out | refine below_set ?_ GE319.out) | exact HB.out)); (case side2 => exact Kd.R_tight rfl HO_9.out); rintro e w91 ⟨rfl, hy0, hb, hkp⟩; refine ⟨_, rfl, ?_⟩; have n0_ := Aside0.mk (Kd.R_mono (ok' := fun k_ => some k_ ≠ (.slice Ao46 t323.length co46 : Value).ownBlock) (Kd.R_keptB (HO_6.out) hkp (fun k_ hk_ hs_ => by first | exact (hk_) hs_ | (revert hk_; simp only [and_imp]; intros; exact absurd hs_ (by assumption)))) (fun k_ hk_ => by first | exact hk_.1 | (revert hk_; simp only [and_imp]; intros; and_intros <;> assumption))); have n1_ := Aside0.mk (Kd.R_reok rfl hy0 (fun k_ e_ => HO_9.out.1 k_ e_)); have n2_ := Aside0.mk (Kd.R_mono (ok' := fun k_ => True) (Kd.R_keptB ((Kd.R_apart' HO_320000.out (Kd.R_typed HO_9.out) (by decide))) hkp (fun k_ hk_ hs_ => by first | exact (hk_.2) hs_ | (revert hk_; simp only [and_imp]; intros; exact absurd hs_ (by assumption)))) (fun k_ hk_ => trivial)); have n3_ := Aside0.mk (blk_kept (zh BK305.out) hkp (fun hs_ => (fun e_ => (Kd.R_ne HO_9.out BK305.out (by decide)) e_) hs_)); have n4_ := Aside0.mk (blk_kept (zh BK319.out) hkp (fun hs_ => (fun e_ => (Kd.R_ne HO_9.out BK319.out (by decide)) e_) hs_)); have n5_ := Aside0.mk (hb); clear HO_6; clear HO_9; clear HO_320000; clear BK305; clear BK319; clear HB; have HO_6 := n0_; have HO_9 := n1_; have HO_320000 := n2_; have BK305 := n3_; have BK319 := n4_; have HB := n5_; clear n0_ n1_ n2_ n3_ n4_ n5_; (try clear hb); (try clear hkp); (try clear hy0)) | ((with_reducible refine gate_callee (f := 24) rfl ?_); refine goesL_ (some 67) rfl rfl Try.func24 (by kernel_rfl) rfl #[.slice Ao46 t341.length co46, .int .i64 1] rfl (by (try simp only [List.map_toArray, List.map_cons, List.map_nil]); first | done | (rw [show t341.length = t323.length from (Kd.R_reads' HO_9.out).1.symm] <;> rfl) | rfl | (simp only [List.length_drop, List.length_take]; rfl)) ?_; (with_reducible refine (laws_heldBoolS.calls kj25 _ _ t341 1 t342 _ ?side1 ?side2 A61.out).mono ?_); (case side1 => exact zc (Kd.R_reads' HO_9.out).2.2); (case side2 => rw [show t341.length = t323.length from (Kd.R_reads' HO_9.out).1.symm]; exact (Kd.R_reads' HO_9.out).2.1); rintro e w' ⟨rfl, ⟨nd, rfl⟩⟩; refine ⟨_, rfl, ?_⟩; have hnb92 := NB305_319.out; have hnc92 := NB319_305.out; have hcz93_0 : w91.cell? ⟨gb305, 0, none⟩ = some (.slice A0_0 l0_0.length c0_0) := (blk_cell BK305.out 0).trans rfl; have hfz93_0 := blk_frozen BK305.out 0) | ((with_reducible refine gate_callee (f := 13) rfl ?_); refine goesL_ (some 74) rfl rfl Try.func13 (by kernel_rfl) rfl #[.agg #[.slice A0_0 l0_0.length c0_0]] rfl zl ?_; (with_reducible refine (laws_toPool.calls kj25 _ _ l0_0 t343 _ ?side1 ?side2 A65.out).mono ?_); (case side1 => exact zc (Kd.C_below HR0_0.out (zb HB.out))); (case side2 => exact HC0_0.out); rintro e w94 ⟨v344, rfl, ho0, hb⟩; refine ⟨_, rfl, ?_⟩; have n0_ := Aside0.mk (Kd.R_below (zr HO_6.out) hb); have n1_ := Aside0.mk (Kd.R_below (zr HO_9.out) hb); have n2_ := Aside0.mk (Kd.R_elder' (zr HO_320000.out) (Kd.R_base ho0) hb); have n3_ := Aside0.mk (Kd.R_lower (Kd.R_new' ho0 (Kd.R_lt (zr HO_320000.out))) (below_size (zb HB.out))); have n4_ := Aside0.mk (blk_below (zh BK305.out) hb); have n5_ := Aside0.mk (blk_below (zh BK319.out) hb); have n6_ := Aside0.mk (below_step (zb HB.out) hb); clear HO_6; clear HO_9; clear HO_320000; clear BK305; clear BK319; clear HB; have HO_6 := n0_; have HO_9 := n1_; have HO_320000 := n2_; have HO345 := n3_; have BK305 := n4_; have BK319 := n5_; have HB := n6_; clear n0_ n1_ n2_ n3_ n4_ n5_ n6_; (try clear hb); (try clear hb2); (try clear hk); (try clear hi); (try clear ho0)) | ((with_reducible refine gate_callee (f := 14) rfl ?_); refine goesL_ (some 76) rfl rfl Try.func14 (by kernel_rfl) rfl #[.slice A1 l1.length c1] rfl zl ?_; (with_reducible refine (laws_toIntS.calls kj25 _ _ l1 t346 _ ?side1 ?side2 A66.out).mono ?_); (case side1 => exact zc (Kd.C_below HR1.out HB.out)); (case side2 => exact HC1.out); rintro e w95 ⟨v347, rfl, ho0, hb⟩; refine ⟨_, rfl, ?_⟩; have n0_ := Aside0.mk (Kd.R_below (zr HO_6.out) hb); have n1_ := Aside0.mk (Kd.R_below (zr HO_9.out) hb); have n2_ := Aside0.mk (Kd.R_below (zr HO_320000.out) hb); have n3_ := Aside0.mk (Kd.R_below (zr HO345.out) hb); have n4_ := Aside0.mk (Kd.R_lower ho0 (below_size (zb HB.out))); have n5_ := Aside0.mk (blk_below (zh BK305.out) hb); have n6_ := Aside0.mk (blk_below (zh BK319.out) hb); have n7_ := Aside0.mk (below_step (zb HB.out) hb); clear HO_6; clear HO_9; clear HO_320000; clear HO345; clear BK305; clear BK319; clear HB; have HO_6 := n0_; have HO_9 := n1_; have HO_320000 := n2_; have HO345 := n3_; have HO348 := n4_; have BK305 := n5_; have BK319 := n6_; have HB := n7_; clear n0_ n1_ n2_ n3_ n4_ n5_ n6_ n7_; (try clear hb); (try clear hb2); (try clear hk); (try clear hi); (try clear ho0); obtain ⟨Ao96, co96, eo96⟩ := Kd.R_slice HO345.out; subst eo96; obtain ⟨Ao97, co97, eo97⟩ := Kd.R_slice HO348.out; subst eo97) | ((with_reducible refine gate_callee (f := 19) rfl ?_); refine goesL_ (some 77) rfl rfl Try.func19 (by kernel_rfl) rfl #[.agg #[.slice Ao96 t343.length co96], .slice Ao97 t346.length co97] rfl zl ?_; (with_reducible refine (impl_MakesAll.calls kj25 _ _ t343 _ _ t346 t349 _ ?side1 ?side2 ?side3 ?side4 A67.out).mono ?_); (case side1 => exact zc (Kd.R_reads' HO345.out).2.2); (case side2 => exact (Kd.R_reads' HO345.out).2.1); (case side3 => exact zc (Kd.R_reads' HO348.out).2.2); (case side4 => exact (Kd.R_reads' HO348.out).2.1); rintro e w98 ⟨v350, rfl, ho0, hb⟩; refine ⟨_, rfl, ?_⟩; have n0_ := Aside0.mk (Kd.R_elder' (zr HO_6.out) (Kd.R_base ho0) hb); have n1_ := Aside0.mk (Kd.R_elder' (zr HO_9.out) (Kd.R_base ho0) hb); have n2_ := Aside0.mk (Kd.R_below (zr HO_320000.out) hb); have n3_ := Aside0.mk (Kd.R_below (zr HO345.out) hb); have n4_ := Aside0.mk (Kd.R_below (zr HO348.out) hb); have n5_ := Aside0.mk (Kd.R_lower (Kd.R_new' (Kd.R_new' ho0 (Kd.R_lt (zr HO_6.out))) (Kd.R_lt (zr HO_9.out))) (below_size (zb HB.out))); have n6_ := Aside0.mk (blk_below (zh BK305.out) hb); have n7_ := Aside0.mk (blk_below (zh BK319.out) hb); have n8_ := Aside0.mk (below_step (zb HB.out) hb); clear HO_6; clear HO_9; clear HO_320000; clear HO345; clear HO348; clear BK305; clear BK319; clear HB; have HO_6 := n0_; have HO_9 := n1_; have HO_320000 := n2_; have HO345 := n3_; have HO348 := n4_; have HO351 := n5_; have BK305 := n6_; have BK319 := n7_; have HB := n8_; clear n0_ n1_ n2_ n3_ n4_ n5_ n6_ n7_ n8_; (try clear hb); (try clear hb2); (try clear hk); (try clear hi); (try clear ho0); obtain ⟨Ao99, co99, eo99⟩ := Kd.R_slice HO351.out; subst eo99) | ((with_reducible refine gate_callee (f := 20) rfl ?_); refine goesL_ (some 80) rfl rfl Try.func20 (by kernel_rfl) rfl #[.slice Ao99 t349.length co99, .slice Ao47 t313.length co47] rfl zl ?_; (with_reducible refine (laws_eqBoolS.calls kj25 _ _ t349 _ _ t313 true _ ?side1 ?side2 ?side3 ?side4 A68.out).mono ?_); (case side1 => exact zc (Kd.R_reads' HO351.out).2.2); (case side2 => exact (Kd.R_reads' HO351.out).2.1); (case side3 => exact zc (Kd.R_reads' HO_6.out).2.2); (case side4 => exact (Kd.R_reads' HO_6.out).2.1); rintro e w' ⟨rfl, ⟨nd, rfl⟩⟩; refine ⟨_, rfl, ?_⟩) | ((with_reducible refine gate_callee (f := 24) rfl ?_); refine goesL_ (some 84) rfl rfl Try.func24 (by kernel_rfl) rfl #[.slice Ao46 t341.length co46, .int .i64 1] rfl (by (try simp only [List.map_toArray, List.map_cons, List.map_nil]); first | done | (rw [show t341.length = t323.length from (Kd.R_reads' HO_9.out).1.symm] <;> rfl) | rfl | (simp only [List.length_drop, List.length_take]; rfl)) ?_; (with_reducible refine (laws_heldBoolS.calls kj25 _ _ t341 1 t353 _ ?side1 ?side2 A70.out).mono ?_); (case side1 => exact zc (Kd.R_reads' HO_9.out).2.2); (case side2 => rw [show t341.length = t323.length from (Kd.R_reads' HO_9.out).1.symm]; exact (Kd.R_reads' HO_9.out).2.1); rintro e w' ⟨rfl, ⟨nd, rfl⟩⟩; refine ⟨_, rfl, ?_⟩))
              go_ret
              exact ⟨ze, zb HB.out⟩
           ·replace c69 := Bool.eq_false_iff.mpr c69
            subst c69
            have H1 : (some false) = some r := by rw [if_neg (show ¬ (false = true) by decide)] at H; exact H
            clear H
            have H := H1
            clear H1
            obtain rfl := Option.some.inj H
            go_wp2_with (first | ((with_reducible refine gate_callee (f := 23) rfl ?_); refine goesL_ (some 64) rfl rfl Try.func23 (by kernel_rfl) rfl #[.slice Ao46 t323.length co46, .int .i64 1] rfl zl ?_; (with_reducible refine (laws_markBoolS.calls kj25 (fun k_ => some k_ = (.slice Ao46 t323.length co46 : Value).ownBlock) (.slice Ao46 t323.length co46) t323 1 t340 t341 w _ ?side1 ?side2 A60.out).mono ?_); (case side1 => repeat (first | (with_reducible first | exact HB.out | apply below_alloc | apply pw_below_drewN | apply below_drew1 | refine below_set ?_ GE305.out | refine below_set ?_ GE319.out) | exact HB.out)); (case side2 => exact Kd.R_tight rfl HO_9.out); rintro e w100 ⟨rfl, hy0, hb, hkp⟩; refine ⟨_, rfl, ?_⟩; have n0_ := Aside0.mk (Kd.R_mono (ok' := fun k_ => some k_ ≠ (.slice Ao46 t323.length co46 : Value).ownBlock) (Kd.R_keptB (HO_6.out) hkp (fun k_ hk_ hs_ => by first | exact (hk_) hs_ | (revert hk_; simp only [and_imp]; intros; exact absurd hs_ (by assumption)))) (fun k_ hk_ => by first | exact hk_.1 | (revert hk_; simp only [and_imp]; intros; and_intros <;> assumption))); have n1_ := Aside0.mk (Kd.R_reok rfl hy0 (fun k_ e_ => HO_9.out.1 k_ e_)); have n2_ := Aside0.mk (Kd.R_mono (ok' := fun k_ => True) (Kd.R_keptB ((Kd.R_apart' HO_320000.out (Kd.R_typed HO_9.out) (by decide))) hkp (fun k_ hk_ hs_ => by first | exact (hk_.2) hs_ | (revert hk_; simp only [and_imp]; intros; exact absurd hs_ (by assumption)))) (fun k_ hk_ => trivial)); have n3_ := Aside0.mk (blk_kept (zh BK305.out) hkp (fun hs_ => (fun e_ => (Kd.R_ne HO_9.out BK305.out (by decide)) e_) hs_)); have n4_ := Aside0.mk (blk_kept (zh BK319.out) hkp (fun hs_ => (fun e_ => (Kd.R_ne HO_9.out BK319.out (by decide)) e_) hs_)); have n5_ := Aside0.mk (hb); clear HO_6; clear HO_9; clear HO_320000; clear BK305; clear BK319; clear HB; have HO_6 := n0_; have HO_9 := n1_; have HO_320000 := n2_; have BK305 := n3_; have BK319 := n4_; have HB := n5_; clear n0_ n1_ n2_ n3_ n4_ n5_; (try clear hb); (try clear hkp); (try clear hy0)) | ((with_reducible refine gate_callee (f := 24) rfl ?_); refine goesL_ (some 67) rfl rfl Try.func24 (by kernel_rfl) rfl #[.slice Ao46 t341.length co46, .int .i64 1] rfl (by (try simp only [List.map_toArray, List.map_cons, List.map_nil]); first | done | (rw [show t341.length = t323.length from (Kd.R_reads' HO_9.out).1.symm] <;> rfl) | rfl | (simp only [List.length_drop, List.length_take]; rfl)) ?_; (with_reducible refine (laws_heldBoolS.calls kj25 _ _ t341 1 t342 _ ?side1 ?side2 A61.out).mono ?_); (case side1 => exact zc (Kd.R_reads' HO_9.out).2.2); (case side2 => rw [show t341.length = t323.length from (Kd.R_reads' HO_9.out).1.symm]; exact (Kd.R_reads' HO_9.out).2.1); rintro e w' ⟨rfl, ⟨nd, rfl⟩⟩; refine ⟨_, rfl, ?_⟩; have hnb101 := NB305_319.out; have hnc101 := NB319_305.out; have hcz102_0 : w100.cell? ⟨gb305, 0, none⟩ = some (.slice A0_0 l0_0.length c0_0) := (blk_cell BK305.out 0).trans rfl; have hfz102_0 := blk_frozen BK305.out 0) | ((with_reducible refine gate_callee (f := 13) rfl ?_); refine goesL_ (some 74) rfl rfl Try.func13 (by kernel_rfl) rfl #[.agg #[.slice A0_0 l0_0.length c0_0]] rfl zl ?_; (with_reducible refine (laws_toPool.calls kj25 _ _ l0_0 t343 _ ?side1 ?side2 A65.out).mono ?_); (case side1 => exact zc (Kd.C_below HR0_0.out (zb HB.out))); (case side2 => exact HC0_0.out); rintro e w103 ⟨v344, rfl, ho0, hb⟩; refine ⟨_, rfl, ?_⟩; have n0_ := Aside0.mk (Kd.R_below (zr HO_6.out) hb); have n1_ := Aside0.mk (Kd.R_below (zr HO_9.out) hb); have n2_ := Aside0.mk (Kd.R_elder' (zr HO_320000.out) (Kd.R_base ho0) hb); have n3_ := Aside0.mk (Kd.R_lower (Kd.R_new' ho0 (Kd.R_lt (zr HO_320000.out))) (below_size (zb HB.out))); have n4_ := Aside0.mk (blk_below (zh BK305.out) hb); have n5_ := Aside0.mk (blk_below (zh BK319.out) hb); have n6_ := Aside0.mk (below_step (zb HB.out) hb); clear HO_6; clear HO_9; clear HO_320000; clear BK305; clear BK319; clear HB; have HO_6 := n0_; have HO_9 := n1_; have HO_320000 := n2_; have HO345 := n3_; have BK305 := n4_; have BK319 := n5_; have HB := n6_; clear n0_ n1_ n2_ n3_ n4_ n5_ n6_; (try clear hb); (try clear hb2); (try clear hk); (try clear hi); (try clear ho0)) | ((with_reducible refine gate_callee (f := 14) rfl ?_); refine goesL_ (some 76) rfl rfl Try.func14 (by kernel_rfl) rfl #[.slice A1 l1.length c1] rfl zl ?_; (with_reducible refine (laws_toIntS.calls kj25 _ _ l1 t346 _ ?side1 ?side2 A66.out).mono ?_); (case side1 => exact zc (Kd.C_below HR1.out HB.out)); (case side2 => exact HC1.out); rintro e w104 ⟨v347, rfl, ho0, hb⟩; refine ⟨_, rfl, ?_⟩; have n0_ := Aside0.mk (Kd.R_below (zr HO_6.out) hb); have n1_ := Aside0.mk (Kd.R_below (zr HO_9.out) hb); have n2_ := Aside0.mk (Kd.R_below (zr HO_320000.out) hb); have n3_ := Aside0.mk (Kd.R_below (zr HO345.out) hb); have n4_ := Aside0.mk (Kd.R_lower ho0 (below_size (zb HB.out))); have n5_ := Aside0.mk (blk_below (zh BK305.out) hb); have n6_ := Aside0.mk (blk_below (zh BK319.out) hb); have n7_ := Aside0.mk (below_step (zb HB.out) hb); clear HO_6; clear HO_9; clear HO_320000; clear HO345; clear BK305; clear BK319; clear HB; have HO_6 := n0_; have HO_9 := n1_; have HO_320000 := n2_; have HO345 := n3_; have HO348 := n4_; have BK305 := n5_; have BK319 := n6_; have HB := n7_; clear n0_ n1_ n2_ n3_ n4_ n5_ n6_ n7_; (try clear hb); (try clear hb2); (try clear hk); (try clear hi); (try clear ho0); obtain ⟨Ao105, co105, eo105⟩ := Kd.R_slice HO345.out; subst eo105; obtain ⟨Ao106, co106, eo106⟩ := Kd.R_slice HO348.out; subst eo106) | ((with_reducible refine gate_callee (f := 19) rfl ?_); refine goesL_ (some 77) rfl rfl Try.func19 (by kernel_rfl) rfl #[.agg #[.slice Ao105 t343.length co105], .slice Ao106 t346.length co106] rfl zl ?_; (with_reducible refine (impl_MakesAll.calls kj25 _ _ t343 _ _ t346 t349 _ ?side1 ?side2 ?side3 ?side4 A67.out).mono ?_); (case side1 => exact zc (Kd.R_reads' HO345.out).2.2); (case side2 => exact (Kd.R_reads' HO345.out).2.1); (case side3 => exact zc (Kd.R_reads' HO348.out).2.2); (case side4 => exact (Kd.R_reads' HO348.out).2.1); rintro e w107 ⟨v350, rfl, ho0, hb⟩; refine ⟨_, rfl, ?_⟩; have n0_ := Aside0.mk (Kd.R_elder' (zr HO_6.out) (Kd.R_base ho0) hb); have n1_ := Aside0.mk (Kd.R_elder' (zr HO_9.out) (Kd.R_base ho0) hb); have n2_ := Aside0.mk (Kd.R_below (zr HO_320000.out) hb); have n3_ := Aside0.mk (Kd.R_below (zr HO345.out) hb); have n4_ := Aside0.mk (Kd.R_below (zr HO348.out) hb); have n5_ := Aside0.mk (Kd.R_lower (Kd.R_new' (Kd.R_new' ho0 (Kd.R_lt (zr HO_6.out))) (Kd.R_lt (zr HO_9.out))) (below_size (zb HB.out))); have n6_ := Aside0.mk (blk_below (zh BK305.out) hb); have n7_ := Aside0.mk (blk_below (zh BK319.out) hb); have n8_ := Aside0.mk (below_step (zb HB.out) hb); clear HO_6; clear HO_9; clear HO_320000; clear HO345; clear HO348; clear BK305; clear BK319; clear HB; have HO_6 := n0_; have HO_9 := n1_; have HO_320000 := n2_; have HO345 := n3_; have HO348 := n4_; have HO351 := n5_; have BK305 := n6_; have BK319 := n7_; have HB := n8_; clear n0_ n1_ n2_ n3_ n4_ n5_ n6_ n7_ n8_; (try clear hb); (try clear hb2); (try clear hk); (try clear hi); (try clear ho0); obtain ⟨Ao108, co108, eo108⟩ := Kd.R_slice HO351.out; subst eo108) | ((with_reducible refine gate_callee (f := 20) rfl ?_); refine goesL_ (some 80) rfl rfl Try.func20 (by kernel_rfl) rfl #[.slice Ao108 t349.length co108, .slice Ao47 t313.length co47] rfl zl ?_; (with_reducible refine (laws_eqBoolS.calls kj25 _ _ t349 _ _ t313 false _ ?side1 ?side2 ?side3 ?side4 A68.out).mono ?_); (case side1 => exact zc (Kd.R_reads' HO351.out).2.2); (case side2 => exact (Kd.R_reads' HO351.out).2.1); (case side3 => exact zc (Kd.R_reads' HO_6.out).2.2); (case side4 => exact (Kd.R_reads' HO_6.out).2.1); rintro e w' ⟨rfl, ⟨nd, rfl⟩⟩; refine ⟨_, rfl, ?_⟩))
            go_ret
            exact ⟨ze, zb HB.out⟩
          ·rw [if_neg c64] at H
           have c64b0 : (t342 == t340) = false := beq_eq_false_iff_ne.mpr c64
           have c64b1 : (t342 != t340) = true := bne_iff_ne.mpr c64
           obtain rfl := Option.some.inj H
           go_wp2_with (first | ((with_reducible refine gate_callee (f := 23) rfl ?_); refine goesL_ (some 64) rfl rfl Try.func23 (by kernel_rfl) rfl #[.slice Ao46 t323.length co46, .int .i64 1] rfl zl ?_; (with_reducible refine (laws_markBoolS.calls kj25 (fun k_ => some k_ = (.slice Ao46 t323.length co46 : Value).ownBlock) (.slice Ao46 t323.length co46) t323 1 t340 t341 w _ ?side1 ?side2 A60.out).mono ?_); (case side1 => repeat (first | (with_reducible first | exact HB.out | apply below_alloc | apply pw_below_drewN | apply below_drew1 | refine below_set ?_ GE305.out | refine below_set ?_ GE319.out) | exact HB.out)); (case side2 => exact Kd.R_tight rfl HO_9.out); rintro e w109 ⟨rfl, hy0, hb, hkp⟩; refine ⟨_, rfl, ?_⟩; have n0_ := Aside0.mk (Kd.R_mono (ok' := fun k_ => some k_ ≠ (.slice Ao46 t323.length co46 : Value).ownBlock) (Kd.R_keptB (HO_6.out) hkp (fun k_ hk_ hs_ => by first | exact (hk_) hs_ | (revert hk_; simp only [and_imp]; intros; exact absurd hs_ (by assumption)))) (fun k_ hk_ => by first | exact hk_.1 | (revert hk_; simp only [and_imp]; intros; and_intros <;> assumption))); have n1_ := Aside0.mk (Kd.R_reok rfl hy0 (fun k_ e_ => HO_9.out.1 k_ e_)); have n2_ := Aside0.mk (Kd.R_mono (ok' := fun k_ => True) (Kd.R_keptB ((Kd.R_apart' HO_320000.out (Kd.R_typed HO_9.out) (by decide))) hkp (fun k_ hk_ hs_ => by first | exact (hk_.2) hs_ | (revert hk_; simp only [and_imp]; intros; exact absurd hs_ (by assumption)))) (fun k_ hk_ => trivial)); have n3_ := Aside0.mk (blk_kept (zh BK305.out) hkp (fun hs_ => (fun e_ => (Kd.R_ne HO_9.out BK305.out (by decide)) e_) hs_)); have n4_ := Aside0.mk (blk_kept (zh BK319.out) hkp (fun hs_ => (fun e_ => (Kd.R_ne HO_9.out BK319.out (by decide)) e_) hs_)); have n5_ := Aside0.mk (hb); clear HO_6; clear HO_9; clear HO_320000; clear BK305; clear BK319; clear HB; have HO_6 := n0_; have HO_9 := n1_; have HO_320000 := n2_; have BK305 := n3_; have BK319 := n4_; have HB := n5_; clear n0_ n1_ n2_ n3_ n4_ n5_; (try clear hb); (try clear hkp); (try clear hy0)) | ((with_reducible refine gate_callee (f := 24) rfl ?_); refine goesL_ (some 67) rfl rfl Try.func24 (by kernel_rfl) rfl #[.slice Ao46 t341.length co46, .int .i64 1] rfl (by (try simp only [List.map_toArray, List.map_cons, List.map_nil]); first | done | (rw [show t341.length = t323.length from (Kd.R_reads' HO_9.out).1.symm] <;> rfl) | rfl | (simp only [List.length_drop, List.length_take]; rfl)) ?_; (with_reducible refine (laws_heldBoolS.calls kj25 _ _ t341 1 t342 _ ?side1 ?side2 A61.out).mono ?_); (case side1 => exact zc (Kd.R_reads' HO_9.out).2.2); (case side2 => rw [show t341.length = t323.length from (Kd.R_reads' HO_9.out).1.symm]; exact (Kd.R_reads' HO_9.out).2.1); rintro e w' ⟨rfl, ⟨nd, rfl⟩⟩; refine ⟨_, rfl, ?_⟩))
           go_ret
           exact ⟨ze, zb HB.out⟩
     ·replace c23 := Bool.eq_false_iff.mpr c23
      subst c23
      have H1 : (some false) = some r := by rw [if_neg (show ¬ (false = true) by decide)] at H; exact H
      clear H
      have H := H1
      clear H1
      obtain rfl := Option.some.inj H
      go_enter Try.func4, Try.ntmps4
      try go_wp2_with (first | ((with_reducible refine gate_dst (N := 2) rfl ?_); refine box_event ?hg (N := 2) ?hd (cs := #[.slice A0_0 l0_0.length c0_0]) (t := 24) ?hr ?_; (case hd => rfl); (case hg => rfl); (case hr => first | (go_simp; done) | (go_simp; rfl)); intro gb305 hg w110 hbox hb; have n0_ := Aside0.mk (below_step (zb HB.out) hb); have n1_ := Aside0.mk (hbox); have n2_ := Aside0.mk ((by rw [hg]; exact (below_size (zb HB.out)) : w.heap.size ≤ gb305)); have n3_ := Aside0.mk ((by rw [hg]; exact (below_size (zb HB.out)) : w.heap.size ≤ gb305)); clear HB; have HB := n0_; have BK305 := n1_; have GW305 := n2_; have GE305 := n3_; clear n0_ n1_ n2_ n3_; clear hb hbox hg; have hcz111_0 : w110.cell? ⟨gb305, 0, none⟩ = some (.slice A0_0 l0_0.length c0_0) := (blk_cell BK305.out 0).trans rfl; have hfz111_0 := blk_frozen BK305.out 0) | ((with_reducible refine gate_callee (f := 11) rfl ?_); refine goesL_ (some 19) rfl rfl Try.func11 (by kernel_rfl) rfl #[.agg #[.slice A0_0 l0_0.length c0_0], .int .i64 1048576] rfl zl ?_; (with_reducible refine (laws_szPool.calls _ _ l0_0 1048576 t306 _ ?side1 ?side2 A5.out).mono ?_); (case side1 => exact zc (Kd.C_below HR0_0.out HB.out)); (case side2 => exact HC0_0.out); rintro e w112 ⟨rfl, hb⟩; refine ⟨_, rfl, ?_⟩; have n0_ := Aside0.mk (blk_below (zh BK305.out) hb); have n1_ := Aside0.mk (below_step (zb HB.out) hb); clear BK305; clear HB; have BK305 := n0_; have HB := n1_; clear n0_ n1_; (try clear hb); (try clear hb2); (try clear hk); (try clear hi); have hcz113_0 : w112.cell? ⟨gb305, 0, none⟩ = some (.slice A0_0 l0_0.length c0_0) := (blk_cell BK305.out 0).trans rfl; have hfz113_0 := blk_frozen BK305.out 0) | ((with_reducible refine gate_callee (f := 13) rfl ?_); refine goesL_ (some 23) rfl rfl Try.func13 (by kernel_rfl) rfl #[.agg #[.slice A0_0 l0_0.length c0_0]] rfl zl ?_; (with_reducible refine (laws_toPool.calls k _ _ l0_0 t307 _ ?side1 ?side2 A10.out).mono ?_); (case side1 => exact zc (Kd.C_below HR0_0.out HB.out)); (case side2 => exact HC0_0.out); rintro e w114 ⟨v308, rfl, ho0, hb⟩; refine ⟨_, rfl, ?_⟩; have n0_ := Aside0.mk (Kd.R_lower ho0 (below_size (zb HB.out))); have n1_ := Aside0.mk (blk_below (zh BK305.out) hb); have n2_ := Aside0.mk (below_step (zb HB.out) hb); clear BK305; clear HB; have HO309 := n0_; have BK305 := n1_; have HB := n2_; clear n0_ n1_ n2_; (try clear hb); (try clear hb2); (try clear hk); (try clear hi); (try clear ho0)) | ((with_reducible refine gate_callee (f := 14) rfl ?_); refine goesL_ (some 25) rfl rfl Try.func14 (by kernel_rfl) rfl #[.slice A1 l1.length c1] rfl zl ?_; (with_reducible refine (laws_toIntS.calls k _ _ l1 t310 _ ?side1 ?side2 A11.out).mono ?_); (case side1 => exact zc (Kd.C_below HR1.out HB.out)); (case side2 => exact HC1.out); rintro e w115 ⟨v311, rfl, ho0, hb⟩; refine ⟨_, rfl, ?_⟩; have n0_ := Aside0.mk (Kd.R_below (zr HO309.out) hb); have n1_ := Aside0.mk (Kd.R_lower ho0 (below_size (zb HB.out))); have n2_ := Aside0.mk (blk_below (zh BK305.out) hb); have n3_ := Aside0.mk (below_step (zb HB.out) hb); clear HO309; clear BK305; clear HB; have HO309 := n0_; have HO312 := n1_; have BK305 := n2_; have HB := n3_; clear n0_ n1_ n2_ n3_; (try clear hb); (try clear hb2); (try clear hk); (try clear hi); (try clear ho0); obtain ⟨Ao116, co116, eo116⟩ := Kd.R_slice HO309.out; subst eo116; obtain ⟨Ao117, co117, eo117⟩ := Kd.R_slice HO312.out; subst eo117) | ((with_reducible refine gate_callee (f := 18) rfl ?_); refine goesL_ (some 26) rfl rfl Try.func18 (by kernel_rfl) rfl #[.agg #[.slice Ao116 t307.length co116], .slice Ao117 t310.length co117] rfl zl ?_; (with_reducible refine (spec_MakesAll.calls k _ _ t307 _ _ t310 t313 _ ?side1 ?side2 ?side3 ?side4 A12.out).mono ?_); (case side1 => exact zc (Kd.R_reads' HO309.out).2.2); (case side2 => exact (Kd.R_reads' HO309.out).2.1); (case side3 => exact zc (Kd.R_reads' HO312.out).2.2); (case side4 => exact (Kd.R_reads' HO312.out).2.1); rintro e w118 ⟨v314, rfl, ho0, hb⟩; refine ⟨_, rfl, ?_⟩; have n0_ := Aside0.mk (Kd.R_below (zr HO309.out) hb); have n1_ := Aside0.mk (Kd.R_below (zr HO312.out) hb); have n2_ := Aside0.mk (Kd.R_lower ho0 (below_size (zb HB.out))); have n3_ := Aside0.mk (blk_below (zh BK305.out) hb); have n4_ := Aside0.mk (below_step (zb HB.out) hb); clear HO309; clear HO312; clear BK305; clear HB; have HO309 := n0_; have HO312 := n1_; have HO315 := n2_; have BK305 := n3_; have HB := n4_; clear n0_ n1_ n2_ n3_ n4_; (try clear hb); (try clear hb2); (try clear hk); (try clear hi); (try clear ho0); have hcz119_0 : w118.cell? ⟨gb305, 0, none⟩ = some (.slice A0_0 l0_0.length c0_0) := (blk_cell BK305.out 0).trans rfl; have hfz119_0 := blk_frozen BK305.out 0) | ((with_reducible refine gate_callee (f := 13) rfl ?_); refine goesL_ (some 28) rfl rfl Try.func13 (by kernel_rfl) rfl #[.agg #[.slice A0_0 l0_0.length c0_0]] rfl zl ?_; (with_reducible refine (laws_toPool.calls k _ _ l0_0 t316 _ ?side1 ?side2 A13.out).mono ?_); (case side1 => exact zc (Kd.C_below HR0_0.out HB.out)); (case side2 => exact HC0_0.out); rintro e w120 ⟨v317, rfl, ho0, hb⟩; refine ⟨_, rfl, ?_⟩; have n0_ := Aside0.mk (Kd.R_elder' (zr HO309.out) (Kd.R_base ho0) hb); have n1_ := Aside0.mk (Kd.R_below (zr HO312.out) hb); have n2_ := Aside0.mk (Kd.R_below (zr HO315.out) hb); have n3_ := Aside0.mk (Kd.R_lower (Kd.R_new' ho0 (Kd.R_lt (zr HO309.out))) (below_size (zb HB.out))); have n4_ := Aside0.mk (blk_below (zh BK305.out) hb); have n5_ := Aside0.mk (below_step (zb HB.out) hb); clear HO309; clear HO312; clear HO315; clear BK305; clear HB; have HO309 := n0_; have HO312 := n1_; have HO315 := n2_; have HO318 := n3_; have BK305 := n4_; have HB := n5_; clear n0_ n1_ n2_ n3_ n4_ n5_; (try clear hb); (try clear hb2); (try clear hk); (try clear hi); (try clear ho0)) | ((with_reducible refine gate_dst (N := 7) rfl ?_); refine box_event ?hg (N := 7) ?hd (cs := #[.slice none 0 0]) (t := 30) ?hr ?_; (case hd => rfl); (case hg => rfl); (case hr => first | (go_simp; done) | (go_simp; rfl)); intro gb319 hg w121 hbox hb; have n0_ := Aside0.mk (Kd.R_below (zr HO309.out) hb); have n1_ := Aside0.mk (Kd.R_below (zr HO312.out) hb); have n2_ := Aside0.mk (Kd.R_below (zr HO315.out) hb); have n3_ := Aside0.mk (Kd.R_below (zr HO318.out) hb); have n4_ := Aside0.mk (blk_below (zh BK305.out) hb); have n5_ := Aside0.mk (below_step (zb HB.out) hb); have n6_ := Aside0.mk (hbox); have n7_ := Aside0.mk ((by rw [hg]; exact (below_size (zb HB.out)) : w.heap.size ≤ gb319)); have n8_ := Aside0.mk ((by rw [hg]; exact (below_size (zb HB.out)) : w.heap.size ≤ gb319)); have n9_ := Aside0.mk ((by rw [hg]; exact Nat.ne_of_lt (blk_lt (zh BK305.out)) : gb305 ≠ gb319)); have n10_ := Aside0.mk ((by rw [hg]; exact Nat.ne_of_gt (blk_lt (zh BK305.out)) : gb319 ≠ gb305)); clear HO309; clear HO312; clear HO315; clear HO318; clear BK305; clear HB; have HO309 := n0_; have HO312 := n1_; have HO315 := n2_; have HO318 := n3_; have BK305 := n4_; have HB := n5_; have BK319 := n6_; have GW319 := n7_; have GE319 := n8_; have NB305_319 := n9_; have NB319_305 := n10_; clear n0_ n1_ n2_ n3_ n4_ n5_ n6_ n7_ n8_ n9_ n10_; clear hb hbox hg; obtain ⟨Ao122, co122, eo122⟩ := Kd.R_slice HO318.out; subst eo122; have hnb123 := NB319_305.out; have hnc123 := NB305_319.out; have hcz124_0 : w121.cell? ⟨gb319, 0, none⟩ = some (.slice none 0 0) := (blk_cell BK319.out 0).trans rfl; have hfz124_0 := blk_frozen BK319.out 0) | ((with_reducible refine gate_callee (f := 14) rfl ?_); refine goesL_ (some 30) rfl rfl Try.func14 (by kernel_rfl) rfl #[.slice A1 l1.length c1] rfl zl ?_; (with_reducible refine (laws_toIntS.calls k _ _ l1 t320 _ ?side1 ?side2 A14.out).mono ?_); (case side1 => exact Kd.C_below HR1.out (zb HB.out)); (case side2 => exact HC1.out); rintro e w125 ⟨v321, rfl, ho0, hb⟩; refine ⟨_, rfl, ?_⟩; have n0_ := Aside0.mk (Kd.R_below (by (with_reducible repeat (first | apply Kd.R_alloc | apply Kd.R_drewN | apply Kd.R_drew)); exact (Kd.R_mono (Kd.R_far (p := ⟨gb319, 0, none⟩) (Kd.R_types HO309.out BK319.out (by decide)) (fun _ hk => hk.2) (.slice Ao122 t316.length co122)) (fun _ h_ => h_.1))) hb); have n1_ := Aside0.mk (Kd.R_elder' (by (with_reducible repeat (first | apply Kd.R_alloc | apply Kd.R_drewN | apply Kd.R_drew)); exact (Kd.R_mono (Kd.R_far (p := ⟨gb319, 0, none⟩) (Kd.R_types HO312.out BK319.out (by decide)) (fun _ hk => hk.2) (.slice Ao122 t316.length co122)) (fun _ h_ => h_.1))) (Kd.R_base ho0) hb); have n2_ := Aside0.mk (Kd.R_below (by (with_reducible repeat (first | apply Kd.R_alloc | apply Kd.R_drewN | apply Kd.R_drew)); exact (Kd.R_mono (Kd.R_far (p := ⟨gb319, 0, none⟩) (Kd.R_types HO315.out BK319.out (by decide)) (fun _ hk => hk.2) (.slice Ao122 t316.length co122)) (fun _ h_ => h_.1))) hb); have n3_ := Aside0.mk (Kd.R_below (by (with_reducible repeat (first | apply Kd.R_alloc | apply Kd.R_drewN | apply Kd.R_drew)); exact (Kd.R_mono (Kd.R_far (p := ⟨gb319, 0, none⟩) (Kd.R_types HO318.out BK319.out (by decide)) (fun _ hk => hk.2) (.slice Ao122 t316.length co122)) (fun _ h_ => h_.1))) hb); have n4_ := Aside0.mk (Kd.R_lower (Kd.R_new' ho0 (Kd.R_lt (by (with_reducible repeat (first | apply Kd.R_alloc | apply Kd.R_drewN | apply Kd.R_drew)); exact (Kd.R_mono (Kd.R_far (p := ⟨gb319, 0, none⟩) (Kd.R_types HO312.out BK319.out (by decide)) (fun _ hk => hk.2) (.slice Ao122 t316.length co122)) (fun _ h_ => h_.1))))) (below_size (zb HB.out))); have n5_ := Aside0.mk (blk_below (g := gb305) (o := .cells #[.slice A0_0 l0_0.length c0_0] 24 (0, 0)) (zf BK305.out) hb); have n6_ := Aside0.mk (blk_below (g := gb319) (o := .cells #[.slice Ao122 t316.length co122] 30 (0, 0)) (by (with_reducible repeat (first | refine blk_drewN ?_ _ | refine blk_drew ?_ | refine blk_alloc ?_ _)); refine blk_put (cs := #[.slice none 0 0]) ?_ 0 _ rfl; (with_reducible repeat (first | refine blk_drewN ?_ _ | refine blk_drew ?_ | refine blk_alloc ?_ _)); exact BK319.out) hb); have n7_ := Aside0.mk (below_step (zb HB.out) hb); clear HO309; clear HO312; clear HO315; clear HO318; clear BK305; clear BK319; clear HB; have HO309 := n0_; have HO312 := n1_; have HO315 := n2_; have HO318 := n3_; have HO322 := n4_; have BK305 := n5_; have BK319 := n6_; have HB := n7_; clear n0_ n1_ n2_ n3_ n4_ n5_ n6_ n7_; (try clear hb); (try clear hb2); (try clear hk); (try clear hi); (try clear ho0); have hcz126_0 : w125.cell? ⟨gb319, 0, none⟩ = some (.slice Ao122 t316.length co122) := (blk_cell BK319.out 0).trans rfl; have hfz126_0 := blk_frozen BK319.out 0; obtain ⟨Ao127, co127, eo127⟩ := Kd.R_slice HO322.out; subst eo127) | ((with_reducible refine gate_callee (f := 19) rfl ?_); refine goesL_ (some 33) rfl rfl Try.func19 (by kernel_rfl) rfl #[.agg #[.slice Ao122 t316.length co122], .slice Ao127 t320.length co127] rfl zl ?_; (with_reducible refine (impl_MakesAll.calls k _ _ t316 _ _ t320 t323 _ ?side1 ?side2 ?side3 ?side4 A15.out).mono ?_); (case side1 => exact zc (Kd.R_reads' HO318.out).2.2); (case side2 => exact (Kd.R_reads' HO318.out).2.1); (case side3 => exact zc (Kd.R_reads' HO322.out).2.2); (case side4 => exact (Kd.R_reads' HO322.out).2.1); rintro e w128 ⟨v324, rfl, ho0, hb⟩; refine ⟨_, rfl, ?_⟩; have n0_ := Aside0.mk (Kd.R_below (zr HO309.out) hb); have n1_ := Aside0.mk (Kd.R_below (zr HO312.out) hb); have n2_ := Aside0.mk (Kd.R_elder' (zr HO315.out) (Kd.R_base ho0) hb); have n3_ := Aside0.mk (Kd.R_below (zr HO318.out) hb); have n4_ := Aside0.mk (Kd.R_below (zr HO322.out) hb); have n5_ := Aside0.mk (Kd.R_lower (Kd.R_new' ho0 (Kd.R_lt (zr HO315.out))) (below_size (zb HB.out))); have n6_ := Aside0.mk (blk_below (zh BK305.out) hb); have n7_ := Aside0.mk (blk_below (zh BK319.out) hb); have n8_ := Aside0.mk (below_step (zb HB.out) hb); clear HO309; clear HO312; clear HO315; clear HO318; clear HO322; clear BK305; clear BK319; clear HB; have HO309 := n0_; have HO312 := n1_; have HO315 := n2_; have HO318 := n3_; have HO322 := n4_; have HO325 := n5_; have BK305 := n6_; have BK319 := n7_; have HB := n8_; clear n0_ n1_ n2_ n3_ n4_ n5_ n6_ n7_ n8_; (try clear hb); (try clear hb2); (try clear hk); (try clear hi); (try clear ho0); obtain ⟨Ao129, co129, eo129⟩ := Kd.R_slice HO325.out; subst eo129; obtain ⟨Ao130, co130, eo130⟩ := Kd.R_slice HO315.out; subst eo130) | ((with_reducible refine gate_callee (f := 20) rfl ?_); refine goesL_ (some 36) rfl rfl Try.func20 (by kernel_rfl) rfl #[.slice Ao129 t323.length co129, .slice Ao130 t313.length co130] rfl zl ?_; (with_reducible refine (laws_eqBoolS.calls k _ _ t323 _ _ t313 true _ ?side1 ?side2 ?side3 ?side4 A16.out).mono ?_); (case side1 => exact zc (Kd.R_reads' HO325.out).2.2); (case side2 => exact (Kd.R_reads' HO325.out).2.1); (case side3 => exact zc (Kd.R_reads' HO315.out).2.2); (case side4 => exact (Kd.R_reads' HO315.out).2.1); rintro e w' ⟨rfl, ⟨nd, rfl⟩⟩; refine ⟨_, rfl, ?_⟩))
      (try (rw [drewN_self w128]; generalize hq_ : World.drewN w128 _ = w128; have n0_ : Aside0 (Kd.R k51 51 w128 w.heap.size (fun k_ => some k_ ≠ (.slice Ao122 t316.length co122 : Value).ownBlock) (.slice Ao116 t307.length co116) t307) := ⟨by rw [← hq_]; exact (by (with_reducible repeat (first | apply Kd.R_alloc | apply Kd.R_drewN | apply Kd.R_drew)); exact Kd.R_mono HO309.out (fun _ hk => hk.2))⟩; have n1_ : Aside0 (Kd.R (Kd.int .i64) 3 w128 w.heap.size (fun k_ => some k_ ≠ (.slice Ao127 t320.length co127 : Value).ownBlock) (.slice Ao117 t310.length co117) t310) := ⟨by rw [← hq_]; exact (by (with_reducible repeat (first | apply Kd.R_alloc | apply Kd.R_drewN | apply Kd.R_drew)); exact Kd.R_mono HO312.out (fun _ hk => hk.2))⟩; have n2_ : Aside0 (Kd.R Kd.bool 4 w128 w.heap.size (fun k_ => some k_ ≠ (.slice Ao129 t323.length co129 : Value).ownBlock) (.slice Ao130 t313.length co130) t313) := ⟨by rw [← hq_]; exact (by (with_reducible repeat (first | apply Kd.R_alloc | apply Kd.R_drewN | apply Kd.R_drew)); exact Kd.R_mono HO315.out (fun _ hk => hk.2))⟩; have n3_ : Aside0 (Kd.R k51 51 w128 w.heap.size (fun k_ => some k_ ≠ (.slice Ao116 t307.length co116 : Value).ownBlock) (.slice Ao122 t316.length co122) t316) := ⟨by rw [← hq_]; exact (by (with_reducible repeat (first | apply Kd.R_alloc | apply Kd.R_drewN | apply Kd.R_drew)); exact Kd.R_mono HO318.out (fun _ hk => hk.2))⟩; have n4_ : Aside0 (Kd.R (Kd.int .i64) 3 w128 w.heap.size (fun k_ => some k_ ≠ (.slice Ao117 t310.length co117 : Value).ownBlock) (.slice Ao127 t320.length co127) t320) := ⟨by rw [← hq_]; exact (by (with_reducible repeat (first | apply Kd.R_alloc | apply Kd.R_drewN | apply Kd.R_drew)); exact Kd.R_mono HO322.out (fun _ hk => hk.2))⟩; have n5_ : Aside0 (Kd.R Kd.bool 4 w128 w.heap.size (fun k_ => some k_ ≠ (.slice Ao130 t313.length co130 : Value).ownBlock) (.slice Ao129 t323.length co129) t323) := ⟨by rw [← hq_]; exact (by (with_reducible repeat (first | apply Kd.R_alloc | apply Kd.R_drewN | apply Kd.R_drew)); exact Kd.R_mono HO325.out (fun _ hk => hk.2))⟩; have n6_ : Aside0 (w128.heap[gb305]? = some (.cells #[.slice A0_0 l0_0.length c0_0] 24 (0, 0))) := ⟨by rw [← hq_]; exact (zh BK305.out)⟩; have n7_ : Aside0 (w128.heap[gb319]? = some (.cells #[.slice Ao122 t316.length co122] 30 (0, 0))) := ⟨by rw [← hq_]; exact (zh BK319.out)⟩; have n8_ : Aside0 (Below w.heap.size w w128) := ⟨by rw [← hq_]; exact (zb HB.out)⟩; clear HO309 HO312 HO315 HO318 HO322 HO325 BK305 BK319 HB hq_; have HO309 := n0_; have HO312 := n1_; have HO315 := n2_; have HO318 := n3_; have HO322 := n4_; have HO325 := n5_; have BK305 := n6_; have BK319 := n7_; have HB := n8_; clear n0_ n1_ n2_ n3_ n4_ n5_ n6_ n7_ n8_))
      have n0_ := Aside0.mk (Kd.R_drew HO309.out)
      have n1_ := Aside0.mk (Kd.R_drew HO312.out)
      have n2_ := Aside0.mk (Kd.R_drew HO315.out)
      have n3_ := Aside0.mk (Kd.R_drew HO318.out)
      have n4_ := Aside0.mk (Kd.R_drew HO322.out)
      have n5_ := Aside0.mk (Kd.R_drew HO325.out)
      have n6_ := Aside0.mk (blk_drew BK305.out)
      have n7_ := Aside0.mk (blk_drew BK319.out)
      have n8_ := Aside0.mk (below_drew1 HB.out)
      clear HO309
      clear HO312
      clear HO315
      clear HO318
      clear HO322
      clear HO325
      clear BK305
      clear BK319
      clear HB
      have HO309 := n0_
      have HO312 := n1_
      have HO315 := n2_
      have HO318 := n3_
      have HO322 := n4_
      have HO325 := n5_
      have BK305 := n6_
      have BK319 := n7_
      have HB := n8_
      clear n0_ n1_ n2_ n3_ n4_ n5_ n6_ n7_ n8_
      refine start_ (n := 5) (S := fun w' => w'.cell? ⟨gb319, 0, none⟩ = some (.slice Ao122 t316.length co122) ∧ w'.cell? ⟨gb305, 0, none⟩ = some (.slice A0_0 l0_0.length c0_0)) (ds := []) #[false, false, false, false, false] (by kernel_rfl) rfl rfl ⟨(blk_cell BK319.out 0).trans rfl, (blk_cell BK305.out 0).trans rfl⟩ (fun hHeld => ?_)
      generalize w128.drew = w131 at HO309 HO312 HO315 HO318 HO322 HO325 BK305 BK319 HB hHeld ⊢
      refine take_ (i := 0) (N := some 38) (v := ?_) (a' := ?_) #[true, false, false, false, false] rfl rfl (by kernel_rfl) (fun _ _ _ h => h) (Or.inl ⟨by rfl, ?_⟩) hHeld ?_ ?_
      rotate_left
      ·rintro w' ⟨s0, s1⟩
       go_simp
       with_reducible rfl
      rotate_left
      ·simp only [Act.put, List.setIfInBounds_toArray, List.set_cons_zero, List.set_cons_succ, i64_w, i32_w]
       rfl
      refine take_ (i := 1) (N := some 39) (v := ?_) (a' := ?_) #[true, true, false, false, false] rfl rfl (by kernel_rfl) (fun _ _ _ h => h) (Or.inl ⟨by rfl, ?_⟩) hHeld ?_ ?_
      rotate_left
      ·rintro w' ⟨s0, s1⟩
       go_simp
       with_reducible rfl
      rotate_left
      ·simp only [Act.put, List.setIfInBounds_toArray, List.set_cons_zero, List.set_cons_succ, i64_w, i32_w]
       rfl
      refine one_ (i := 2) (N := some 40) #[true, true, true, false, false] rfl rfl (by kernel_rfl) (by decide) (fun K hK => ?_)
      refine goes_ Try.func13 (by kernel_rfl) rfl #[.agg #[.slice A0_0 l0_0.length c0_0]] (by rfl) rfl rfl zl ?_
      with_reducible refine (laws_toPool.calls k _ _ l0_0 t327 _ ?side1 ?side2 A18.out).mono ?_
      (case side1 => exact zc (Kd.C_below HR0_0.out HB.out))
      (case side2 => exact HC0_0.out)
      rintro e w132 ⟨v328, rfl, ho0, hb⟩
      refine ⟨_, rfl, ?_⟩
      have n0_ := Aside0.mk (Kd.R_elder' (zr HO309.out) (Kd.R_base ho0) hb)
      have n1_ := Aside0.mk (Kd.R_below (zr HO312.out) hb)
      have n2_ := Aside0.mk (Kd.R_below (zr HO315.out) hb)
      have n3_ := Aside0.mk (Kd.R_elder' (zr HO318.out) (Kd.R_base ho0) hb)
      have n4_ := Aside0.mk (Kd.R_below (zr HO322.out) hb)
      have n5_ := Aside0.mk (Kd.R_below (zr HO325.out) hb)
      have n6_ := Aside0.mk (Kd.R_lower (Kd.R_new' (Kd.R_new' ho0 (Kd.R_lt (zr HO309.out))) (Kd.R_lt (zr HO318.out))) (below_size (zb HB.out)))
      have n7_ := Aside0.mk (blk_below (zh BK305.out) hb)
      have n8_ := Aside0.mk (blk_below (zh BK319.out) hb)
      have n9_ := Aside0.mk (below_step (zb HB.out) hb)
      clear HO309
      clear HO312
      clear HO315
      clear HO318
      clear HO322
      clear HO325
      clear BK305
      clear BK319
      clear HB
      have HO309 := n0_
      have HO312 := n1_
      have HO315 := n2_
      have HO318 := n3_
      have HO322 := n4_
      have HO325 := n5_
      have HO329 := n6_
      have BK305 := n7_
      have BK319 := n8_
      have HB := n9_
      clear n0_ n1_ n2_ n3_ n4_ n5_ n6_ n7_ n8_ n9_
      (try clear hb)
      (try clear hb2)
      (try clear hk)
      (try clear hi)
      (try clear ho0)
      obtain ⟨Ao133, co133, eo133⟩ := Kd.R_slice HO329.out
      (first | subst eo133 | (injection eo133 with f1_ f2_ f3_; have f4_ := f1_.symm; have f5_ := f3_.symm; clear f1_ f2_ f3_; subst f4_; subst f5_))
      refine hK.out _ _ ⟨(blk_cell BK319.out 0).trans rfl, (blk_cell BK305.out 0).trans rfl⟩ (fun hHeld => ?_)
      clear hK K
      refine norm_ (a' := ?_) ?_ ?_
      rotate_left
      ·show Act.put _ (some 40) _ = _
       simp only [Act.put, List.setIfInBounds_toArray, List.set_cons_zero, List.set_cons_succ, i64_w, i32_w]
       rfl
      refine one_ (i := 3) (N := some 41) #[true, true, true, true, false] rfl rfl (by kernel_rfl) (by decide) (fun K hK => ?_)
      refine goes_ Try.func16 (by kernel_rfl) rfl #[.agg #[.slice Ao122 t316.length co122], .agg #[.slice Ao133 t327.length co133]] (by rfl) rfl rfl zl ?_
      with_reducible refine (laws_eqPool.calls k _ _ t316 _ _ t327 true _ ?side1 ?side2 ?side3 ?side4 A19.out).mono ?_
      (case side1 => exact zc (Kd.R_reads' HO318.out).2.2)
      (case side2 => exact (Kd.R_reads' HO318.out).2.1)
      (case side3 => exact zc (Kd.R_reads' HO329.out).2.2)
      (case side4 => exact (Kd.R_reads' HO329.out).2.1)
      rintro e w134 ⟨rfl, hb⟩
      refine ⟨_, rfl, ?_⟩
      have n0_ := Aside0.mk (Kd.R_below (zr HO309.out) hb)
      have n1_ := Aside0.mk (Kd.R_below (zr HO312.out) hb)
      have n2_ := Aside0.mk (Kd.R_below (zr HO315.out) hb)
      have n3_ := Aside0.mk (Kd.R_below (zr HO318.out) hb)
      have n4_ := Aside0.mk (Kd.R_below (zr HO322.out) hb)
      have n5_ := Aside0.mk (Kd.R_below (zr HO325.out) hb)
      have n6_ := Aside0.mk (Kd.R_below (zr HO329.out) hb)
      have n7_ := Aside0.mk (blk_below (zh BK305.out) hb)
      have n8_ := Aside0.mk (blk_below (zh BK319.out) hb)
      have n9_ := Aside0.mk (below_step (zb HB.out) hb)
      clear HO309
      clear HO312
      clear HO315
      clear HO318
      clear HO322
      clear HO325
      clear HO329
      clear BK305
      clear BK319
      clear HB
      have HO309 := n0_
      have HO312 := n1_
      have HO315 := n2_
      have HO318 := n3_
      have HO322 := n4_
      have HO325 := n5_
      have HO329 := n6_
      have BK305 := n7_
      have BK319 := n8_
      have HB := n9_
      clear n0_ n1_ n2_ n3_ n4_ n5_ n6_ n7_ n8_ n9_
      (try clear hb)
      (try clear hb2)
      (try clear hk)
      (try clear hi)
      refine hK.out _ _ ⟨(blk_cell BK319.out 0).trans rfl, (blk_cell BK305.out 0).trans rfl⟩ (fun hHeld => ?_)
      clear hK K
      refine norm_ (a' := ?_) ?_ ?_
      rotate_left
      ·show Act.put _ (some 41) _ = _
       simp only [Act.put, List.setIfInBounds_toArray, List.set_cons_zero, List.set_cons_succ, i64_w, i32_w]
       rfl
      refine pure_ (i := 4) (N := some 42) (v := ?_) (a' := ?_) #[true, true, true, true, true] rfl rfl (by kernel_rfl) (fun _ _ _ h => h) (Or.inl ⟨by rfl, ?_⟩) ?_ ?_
      rotate_left
      ·intro w'
       go_simp
       with_reducible rfl
      rotate_left
      ·simp only [Act.put, List.setIfInBounds_toArray, List.set_cons_zero, List.set_cons_succ, i64_w, i32_w]
       rfl
      refine done_ (by kernel_rfl) ?_
      try go_wp2_with (first | ((with_reducible refine gate_callee (f := 14) rfl ?_); refine goesL_ (some 45) rfl rfl Try.func14 (by kernel_rfl) rfl #[.slice A1 l1.length c1] rfl zl ?_; (with_reducible refine (laws_toIntS.calls k _ _ l1 t331 _ ?side1 ?side2 A21.out).mono ?_); (case side1 => exact zc (Kd.C_below HR1.out HB.out)); (case side2 => exact HC1.out); rintro e w135 ⟨v332, rfl, ho0, hb⟩; refine ⟨_, rfl, ?_⟩; have n0_ := Aside0.mk (Kd.R_below (zr HO309.out) hb); have n1_ := Aside0.mk (Kd.R_elder' (zr HO312.out) (Kd.R_base ho0) hb); have n2_ := Aside0.mk (Kd.R_below (zr HO315.out) hb); have n3_ := Aside0.mk (Kd.R_below (zr HO318.out) hb); have n4_ := Aside0.mk (Kd.R_elder' (zr HO322.out) (Kd.R_base ho0) hb); have n5_ := Aside0.mk (Kd.R_below (zr HO325.out) hb); have n6_ := Aside0.mk (Kd.R_below (zr HO329.out) hb); have n7_ := Aside0.mk (Kd.R_lower (Kd.R_new' (Kd.R_new' ho0 (Kd.R_lt (zr HO312.out))) (Kd.R_lt (zr HO322.out))) (below_size (zb HB.out))); have n8_ := Aside0.mk (blk_below (zh BK305.out) hb); have n9_ := Aside0.mk (blk_below (zh BK319.out) hb); have n10_ := Aside0.mk (below_step (zb HB.out) hb); clear HO309; clear HO312; clear HO315; clear HO318; clear HO322; clear HO325; clear HO329; clear BK305; clear BK319; clear HB; have HO309 := n0_; have HO312 := n1_; have HO315 := n2_; have HO318 := n3_; have HO322 := n4_; have HO325 := n5_; have HO329 := n6_; have HO333 := n7_; have BK305 := n8_; have BK319 := n9_; have HB := n10_; clear n0_ n1_ n2_ n3_ n4_ n5_ n6_ n7_ n8_ n9_ n10_; (try clear hb); (try clear hb2); (try clear hk); (try clear hi); (try clear ho0); obtain ⟨Ao136, co136, eo136⟩ := Kd.R_slice HO333.out; subst eo136) | ((with_reducible refine gate_callee (f := 17) rfl ?_); refine goesL_ (some 46) rfl rfl Try.func17 (by kernel_rfl) rfl #[.slice Ao127 t320.length co127, .slice Ao136 t331.length co136] rfl zl ?_; (with_reducible refine (laws_eqIntS.calls k _ _ t320 _ _ t331 false _ ?side1 ?side2 ?side3 ?side4 A22.out).mono ?_); (case side1 => exact zc (Kd.R_reads' HO322.out).2.2); (case side2 => exact (Kd.R_reads' HO322.out).2.1); (case side3 => exact zc (Kd.R_reads' HO333.out).2.2); (case side4 => exact (Kd.R_reads' HO333.out).2.1); rintro e w' ⟨rfl, ⟨nd, rfl⟩⟩; refine ⟨_, rfl, ?_⟩))
      go_ret
      exact ⟨ze, zb HB.out⟩
    ·replace c20 := Bool.eq_false_iff.mpr c20
     subst c20
     have H1 : (some false) = some r := by rw [if_neg (show ¬ (false = true) by decide)] at H; exact H
     clear H
     have H := H1
     clear H1
     obtain rfl := Option.some.inj H
     go_enter Try.func4, Try.ntmps4
     try go_wp2_with (first | ((with_reducible refine gate_dst (N := 2) rfl ?_); refine box_event ?hg (N := 2) ?hd (cs := #[.slice A0_0 l0_0.length c0_0]) (t := 24) ?hr ?_; (case hd => rfl); (case hg => rfl); (case hr => first | (go_simp; done) | (go_simp; rfl)); intro gb305 hg w137 hbox hb; have n0_ := Aside0.mk (below_step (zb HB.out) hb); have n1_ := Aside0.mk (hbox); have n2_ := Aside0.mk ((by rw [hg]; exact (below_size (zb HB.out)) : w.heap.size ≤ gb305)); have n3_ := Aside0.mk ((by rw [hg]; exact (below_size (zb HB.out)) : w.heap.size ≤ gb305)); clear HB; have HB := n0_; have BK305 := n1_; have GW305 := n2_; have GE305 := n3_; clear n0_ n1_ n2_ n3_; clear hb hbox hg; have hcz138_0 : w137.cell? ⟨gb305, 0, none⟩ = some (.slice A0_0 l0_0.length c0_0) := (blk_cell BK305.out 0).trans rfl; have hfz138_0 := blk_frozen BK305.out 0) | ((with_reducible refine gate_callee (f := 11) rfl ?_); refine goesL_ (some 19) rfl rfl Try.func11 (by kernel_rfl) rfl #[.agg #[.slice A0_0 l0_0.length c0_0], .int .i64 1048576] rfl zl ?_; (with_reducible refine (laws_szPool.calls _ _ l0_0 1048576 t306 _ ?side1 ?side2 A5.out).mono ?_); (case side1 => exact zc (Kd.C_below HR0_0.out HB.out)); (case side2 => exact HC0_0.out); rintro e w139 ⟨rfl, hb⟩; refine ⟨_, rfl, ?_⟩; have n0_ := Aside0.mk (blk_below (zh BK305.out) hb); have n1_ := Aside0.mk (below_step (zb HB.out) hb); clear BK305; clear HB; have BK305 := n0_; have HB := n1_; clear n0_ n1_; (try clear hb); (try clear hb2); (try clear hk); (try clear hi); have hcz140_0 : w139.cell? ⟨gb305, 0, none⟩ = some (.slice A0_0 l0_0.length c0_0) := (blk_cell BK305.out 0).trans rfl; have hfz140_0 := blk_frozen BK305.out 0) | ((with_reducible refine gate_callee (f := 13) rfl ?_); refine goesL_ (some 23) rfl rfl Try.func13 (by kernel_rfl) rfl #[.agg #[.slice A0_0 l0_0.length c0_0]] rfl zl ?_; (with_reducible refine (laws_toPool.calls k _ _ l0_0 t307 _ ?side1 ?side2 A10.out).mono ?_); (case side1 => exact zc (Kd.C_below HR0_0.out HB.out)); (case side2 => exact HC0_0.out); rintro e w141 ⟨v308, rfl, ho0, hb⟩; refine ⟨_, rfl, ?_⟩; have n0_ := Aside0.mk (Kd.R_lower ho0 (below_size (zb HB.out))); have n1_ := Aside0.mk (blk_below (zh BK305.out) hb); have n2_ := Aside0.mk (below_step (zb HB.out) hb); clear BK305; clear HB; have HO309 := n0_; have BK305 := n1_; have HB := n2_; clear n0_ n1_ n2_; (try clear hb); (try clear hb2); (try clear hk); (try clear hi); (try clear ho0)) | ((with_reducible refine gate_callee (f := 14) rfl ?_); refine goesL_ (some 25) rfl rfl Try.func14 (by kernel_rfl) rfl #[.slice A1 l1.length c1] rfl zl ?_; (with_reducible refine (laws_toIntS.calls k _ _ l1 t310 _ ?side1 ?side2 A11.out).mono ?_); (case side1 => exact zc (Kd.C_below HR1.out HB.out)); (case side2 => exact HC1.out); rintro e w142 ⟨v311, rfl, ho0, hb⟩; refine ⟨_, rfl, ?_⟩; have n0_ := Aside0.mk (Kd.R_below (zr HO309.out) hb); have n1_ := Aside0.mk (Kd.R_lower ho0 (below_size (zb HB.out))); have n2_ := Aside0.mk (blk_below (zh BK305.out) hb); have n3_ := Aside0.mk (below_step (zb HB.out) hb); clear HO309; clear BK305; clear HB; have HO309 := n0_; have HO312 := n1_; have BK305 := n2_; have HB := n3_; clear n0_ n1_ n2_ n3_; (try clear hb); (try clear hb2); (try clear hk); (try clear hi); (try clear ho0); obtain ⟨Ao143, co143, eo143⟩ := Kd.R_slice HO309.out; subst eo143; obtain ⟨Ao144, co144, eo144⟩ := Kd.R_slice HO312.out; subst eo144) | ((with_reducible refine gate_callee (f := 18) rfl ?_); refine goesL_ (some 26) rfl rfl Try.func18 (by kernel_rfl) rfl #[.agg #[.slice Ao143 t307.length co143], .slice Ao144 t310.length co144] rfl zl ?_; (with_reducible refine (spec_MakesAll.calls k _ _ t307 _ _ t310 t313 _ ?side1 ?side2 ?side3 ?side4 A12.out).mono ?_); (case side1 => exact zc (Kd.R_reads' HO309.out).2.2); (case side2 => exact (Kd.R_reads' HO309.out).2.1); (case side3 => exact zc (Kd.R_reads' HO312.out).2.2); (case side4 => exact (Kd.R_reads' HO312.out).2.1); rintro e w145 ⟨v314, rfl, ho0, hb⟩; refine ⟨_, rfl, ?_⟩; have n0_ := Aside0.mk (Kd.R_below (zr HO309.out) hb); have n1_ := Aside0.mk (Kd.R_below (zr HO312.out) hb); have n2_ := Aside0.mk (Kd.R_lower ho0 (below_size (zb HB.out))); have n3_ := Aside0.mk (blk_below (zh BK305.out) hb); have n4_ := Aside0.mk (below_step (zb HB.out) hb); clear HO309; clear HO312; clear BK305; clear HB; have HO309 := n0_; have HO312 := n1_; have HO315 := n2_; have BK305 := n3_; have HB := n4_; clear n0_ n1_ n2_ n3_ n4_; (try clear hb); (try clear hb2); (try clear hk); (try clear hi); (try clear ho0); have hcz146_0 : w145.cell? ⟨gb305, 0, none⟩ = some (.slice A0_0 l0_0.length c0_0) := (blk_cell BK305.out 0).trans rfl; have hfz146_0 := blk_frozen BK305.out 0) | ((with_reducible refine gate_callee (f := 13) rfl ?_); refine goesL_ (some 28) rfl rfl Try.func13 (by kernel_rfl) rfl #[.agg #[.slice A0_0 l0_0.length c0_0]] rfl zl ?_; (with_reducible refine (laws_toPool.calls k _ _ l0_0 t316 _ ?side1 ?side2 A13.out).mono ?_); (case side1 => exact zc (Kd.C_below HR0_0.out HB.out)); (case side2 => exact HC0_0.out); rintro e w147 ⟨v317, rfl, ho0, hb⟩; refine ⟨_, rfl, ?_⟩; have n0_ := Aside0.mk (Kd.R_elder' (zr HO309.out) (Kd.R_base ho0) hb); have n1_ := Aside0.mk (Kd.R_below (zr HO312.out) hb); have n2_ := Aside0.mk (Kd.R_below (zr HO315.out) hb); have n3_ := Aside0.mk (Kd.R_lower (Kd.R_new' ho0 (Kd.R_lt (zr HO309.out))) (below_size (zb HB.out))); have n4_ := Aside0.mk (blk_below (zh BK305.out) hb); have n5_ := Aside0.mk (below_step (zb HB.out) hb); clear HO309; clear HO312; clear HO315; clear BK305; clear HB; have HO309 := n0_; have HO312 := n1_; have HO315 := n2_; have HO318 := n3_; have BK305 := n4_; have HB := n5_; clear n0_ n1_ n2_ n3_ n4_ n5_; (try clear hb); (try clear hb2); (try clear hk); (try clear hi); (try clear ho0)) | ((with_reducible refine gate_dst (N := 7) rfl ?_); refine box_event ?hg (N := 7) ?hd (cs := #[.slice none 0 0]) (t := 30) ?hr ?_; (case hd => rfl); (case hg => rfl); (case hr => first | (go_simp; done) | (go_simp; rfl)); intro gb319 hg w148 hbox hb; have n0_ := Aside0.mk (Kd.R_below (zr HO309.out) hb); have n1_ := Aside0.mk (Kd.R_below (zr HO312.out) hb); have n2_ := Aside0.mk (Kd.R_below (zr HO315.out) hb); have n3_ := Aside0.mk (Kd.R_below (zr HO318.out) hb); have n4_ := Aside0.mk (blk_below (zh BK305.out) hb); have n5_ := Aside0.mk (below_step (zb HB.out) hb); have n6_ := Aside0.mk (hbox); have n7_ := Aside0.mk ((by rw [hg]; exact (below_size (zb HB.out)) : w.heap.size ≤ gb319)); have n8_ := Aside0.mk ((by rw [hg]; exact (below_size (zb HB.out)) : w.heap.size ≤ gb319)); have n9_ := Aside0.mk ((by rw [hg]; exact Nat.ne_of_lt (blk_lt (zh BK305.out)) : gb305 ≠ gb319)); have n10_ := Aside0.mk ((by rw [hg]; exact Nat.ne_of_gt (blk_lt (zh BK305.out)) : gb319 ≠ gb305)); clear HO309; clear HO312; clear HO315; clear HO318; clear BK305; clear HB; have HO309 := n0_; have HO312 := n1_; have HO315 := n2_; have HO318 := n3_; have BK305 := n4_; have HB := n5_; have BK319 := n6_; have GW319 := n7_; have GE319 := n8_; have NB305_319 := n9_; have NB319_305 := n10_; clear n0_ n1_ n2_ n3_ n4_ n5_ n6_ n7_ n8_ n9_ n10_; clear hb hbox hg; obtain ⟨Ao149, co149, eo149⟩ := Kd.R_slice HO318.out; subst eo149; have hnb150 := NB319_305.out; have hnc150 := NB305_319.out; have hcz151_0 : w148.cell? ⟨gb319, 0, none⟩ = some (.slice none 0 0) := (blk_cell BK319.out 0).trans rfl; have hfz151_0 := blk_frozen BK319.out 0) | ((with_reducible refine gate_callee (f := 14) rfl ?_); refine goesL_ (some 30) rfl rfl Try.func14 (by kernel_rfl) rfl #[.slice A1 l1.length c1] rfl zl ?_; (with_reducible refine (laws_toIntS.calls k _ _ l1 t320 _ ?side1 ?side2 A14.out).mono ?_); (case side1 => exact Kd.C_below HR1.out (zb HB.out)); (case side2 => exact HC1.out); rintro e w152 ⟨v321, rfl, ho0, hb⟩; refine ⟨_, rfl, ?_⟩; have n0_ := Aside0.mk (Kd.R_below (by (with_reducible repeat (first | apply Kd.R_alloc | apply Kd.R_drewN | apply Kd.R_drew)); exact (Kd.R_mono (Kd.R_far (p := ⟨gb319, 0, none⟩) (Kd.R_types HO309.out BK319.out (by decide)) (fun _ hk => hk.2) (.slice Ao149 t316.length co149)) (fun _ h_ => h_.1))) hb); have n1_ := Aside0.mk (Kd.R_elder' (by (with_reducible repeat (first | apply Kd.R_alloc | apply Kd.R_drewN | apply Kd.R_drew)); exact (Kd.R_mono (Kd.R_far (p := ⟨gb319, 0, none⟩) (Kd.R_types HO312.out BK319.out (by decide)) (fun _ hk => hk.2) (.slice Ao149 t316.length co149)) (fun _ h_ => h_.1))) (Kd.R_base ho0) hb); have n2_ := Aside0.mk (Kd.R_below (by (with_reducible repeat (first | apply Kd.R_alloc | apply Kd.R_drewN | apply Kd.R_drew)); exact (Kd.R_mono (Kd.R_far (p := ⟨gb319, 0, none⟩) (Kd.R_types HO315.out BK319.out (by decide)) (fun _ hk => hk.2) (.slice Ao149 t316.length co149)) (fun _ h_ => h_.1))) hb); have n3_ := Aside0.mk (Kd.R_below (by (with_reducible repeat (first | apply Kd.R_alloc | apply Kd.R_drewN | apply Kd.R_drew)); exact (Kd.R_mono (Kd.R_far (p := ⟨gb319, 0, none⟩) (Kd.R_types HO318.out BK319.out (by decide)) (fun _ hk => hk.2) (.slice Ao149 t316.length co149)) (fun _ h_ => h_.1))) hb); have n4_ := Aside0.mk (Kd.R_lower (Kd.R_new' ho0 (Kd.R_lt (by (with_reducible repeat (first | apply Kd.R_alloc | apply Kd.R_drewN | apply Kd.R_drew)); exact (Kd.R_mono (Kd.R_far (p := ⟨gb319, 0, none⟩) (Kd.R_types HO312.out BK319.out (by decide)) (fun _ hk => hk.2) (.slice Ao149 t316.length co149)) (fun _ h_ => h_.1))))) (below_size (zb HB.out))); have n5_ := Aside0.mk (blk_below (g := gb305) (o := .cells #[.slice A0_0 l0_0.length c0_0] 24 (0, 0)) (zf BK305.out) hb); have n6_ := Aside0.mk (blk_below (g := gb319) (o := .cells #[.slice Ao149 t316.length co149] 30 (0, 0)) (by (with_reducible repeat (first | refine blk_drewN ?_ _ | refine blk_drew ?_ | refine blk_alloc ?_ _)); refine blk_put (cs := #[.slice none 0 0]) ?_ 0 _ rfl; (with_reducible repeat (first | refine blk_drewN ?_ _ | refine blk_drew ?_ | refine blk_alloc ?_ _)); exact BK319.out) hb); have n7_ := Aside0.mk (below_step (zb HB.out) hb); clear HO309; clear HO312; clear HO315; clear HO318; clear BK305; clear BK319; clear HB; have HO309 := n0_; have HO312 := n1_; have HO315 := n2_; have HO318 := n3_; have HO322 := n4_; have BK305 := n5_; have BK319 := n6_; have HB := n7_; clear n0_ n1_ n2_ n3_ n4_ n5_ n6_ n7_; (try clear hb); (try clear hb2); (try clear hk); (try clear hi); (try clear ho0); have hcz153_0 : w152.cell? ⟨gb319, 0, none⟩ = some (.slice Ao149 t316.length co149) := (blk_cell BK319.out 0).trans rfl; have hfz153_0 := blk_frozen BK319.out 0; obtain ⟨Ao154, co154, eo154⟩ := Kd.R_slice HO322.out; subst eo154) | ((with_reducible refine gate_callee (f := 19) rfl ?_); refine goesL_ (some 33) rfl rfl Try.func19 (by kernel_rfl) rfl #[.agg #[.slice Ao149 t316.length co149], .slice Ao154 t320.length co154] rfl zl ?_; (with_reducible refine (impl_MakesAll.calls k _ _ t316 _ _ t320 t323 _ ?side1 ?side2 ?side3 ?side4 A15.out).mono ?_); (case side1 => exact zc (Kd.R_reads' HO318.out).2.2); (case side2 => exact (Kd.R_reads' HO318.out).2.1); (case side3 => exact zc (Kd.R_reads' HO322.out).2.2); (case side4 => exact (Kd.R_reads' HO322.out).2.1); rintro e w155 ⟨v324, rfl, ho0, hb⟩; refine ⟨_, rfl, ?_⟩; have n0_ := Aside0.mk (Kd.R_below (zr HO309.out) hb); have n1_ := Aside0.mk (Kd.R_below (zr HO312.out) hb); have n2_ := Aside0.mk (Kd.R_elder' (zr HO315.out) (Kd.R_base ho0) hb); have n3_ := Aside0.mk (Kd.R_below (zr HO318.out) hb); have n4_ := Aside0.mk (Kd.R_below (zr HO322.out) hb); have n5_ := Aside0.mk (Kd.R_lower (Kd.R_new' ho0 (Kd.R_lt (zr HO315.out))) (below_size (zb HB.out))); have n6_ := Aside0.mk (blk_below (zh BK305.out) hb); have n7_ := Aside0.mk (blk_below (zh BK319.out) hb); have n8_ := Aside0.mk (below_step (zb HB.out) hb); clear HO309; clear HO312; clear HO315; clear HO318; clear HO322; clear BK305; clear BK319; clear HB; have HO309 := n0_; have HO312 := n1_; have HO315 := n2_; have HO318 := n3_; have HO322 := n4_; have HO325 := n5_; have BK305 := n6_; have BK319 := n7_; have HB := n8_; clear n0_ n1_ n2_ n3_ n4_ n5_ n6_ n7_ n8_; (try clear hb); (try clear hb2); (try clear hk); (try clear hi); (try clear ho0); obtain ⟨Ao156, co156, eo156⟩ := Kd.R_slice HO325.out; subst eo156; obtain ⟨Ao157, co157, eo157⟩ := Kd.R_slice HO315.out; subst eo157) | ((with_reducible refine gate_callee (f := 20) rfl ?_); refine goesL_ (some 36) rfl rfl Try.func20 (by kernel_rfl) rfl #[.slice Ao156 t323.length co156, .slice Ao157 t313.length co157] rfl zl ?_; (with_reducible refine (laws_eqBoolS.calls k _ _ t323 _ _ t313 true _ ?side1 ?side2 ?side3 ?side4 A16.out).mono ?_); (case side1 => exact zc (Kd.R_reads' HO325.out).2.2); (case side2 => exact (Kd.R_reads' HO325.out).2.1); (case side3 => exact zc (Kd.R_reads' HO315.out).2.2); (case side4 => exact (Kd.R_reads' HO315.out).2.1); rintro e w' ⟨rfl, ⟨nd, rfl⟩⟩; refine ⟨_, rfl, ?_⟩))
     (try (rw [drewN_self w155]; generalize hq_ : World.drewN w155 _ = w155; have n0_ : Aside0 (Kd.R k51 51 w155 w.heap.size (fun k_ => some k_ ≠ (.slice Ao149 t316.length co149 : Value).ownBlock) (.slice Ao143 t307.length co143) t307) := ⟨by rw [← hq_]; exact (by (with_reducible repeat (first | apply Kd.R_alloc | apply Kd.R_drewN | apply Kd.R_drew)); exact Kd.R_mono HO309.out (fun _ hk => hk.2))⟩; have n1_ : Aside0 (Kd.R (Kd.int .i64) 3 w155 w.heap.size (fun k_ => some k_ ≠ (.slice Ao154 t320.length co154 : Value).ownBlock) (.slice Ao144 t310.length co144) t310) := ⟨by rw [← hq_]; exact (by (with_reducible repeat (first | apply Kd.R_alloc | apply Kd.R_drewN | apply Kd.R_drew)); exact Kd.R_mono HO312.out (fun _ hk => hk.2))⟩; have n2_ : Aside0 (Kd.R Kd.bool 4 w155 w.heap.size (fun k_ => some k_ ≠ (.slice Ao156 t323.length co156 : Value).ownBlock) (.slice Ao157 t313.length co157) t313) := ⟨by rw [← hq_]; exact (by (with_reducible repeat (first | apply Kd.R_alloc | apply Kd.R_drewN | apply Kd.R_drew)); exact Kd.R_mono HO315.out (fun _ hk => hk.2))⟩; have n3_ : Aside0 (Kd.R k51 51 w155 w.heap.size (fun k_ => some k_ ≠ (.slice Ao143 t307.length co143 : Value).ownBlock) (.slice Ao149 t316.length co149) t316) := ⟨by rw [← hq_]; exact (by (with_reducible repeat (first | apply Kd.R_alloc | apply Kd.R_drewN | apply Kd.R_drew)); exact Kd.R_mono HO318.out (fun _ hk => hk.2))⟩; have n4_ : Aside0 (Kd.R (Kd.int .i64) 3 w155 w.heap.size (fun k_ => some k_ ≠ (.slice Ao144 t310.length co144 : Value).ownBlock) (.slice Ao154 t320.length co154) t320) := ⟨by rw [← hq_]; exact (by (with_reducible repeat (first | apply Kd.R_alloc | apply Kd.R_drewN | apply Kd.R_drew)); exact Kd.R_mono HO322.out (fun _ hk => hk.2))⟩; have n5_ : Aside0 (Kd.R Kd.bool 4 w155 w.heap.size (fun k_ => some k_ ≠ (.slice Ao157 t313.length co157 : Value).ownBlock) (.slice Ao156 t323.length co156) t323) := ⟨by rw [← hq_]; exact (by (with_reducible repeat (first | apply Kd.R_alloc | apply Kd.R_drewN | apply Kd.R_drew)); exact Kd.R_mono HO325.out (fun _ hk => hk.2))⟩; have n6_ : Aside0 (w155.heap[gb305]? = some (.cells #[.slice A0_0 l0_0.length c0_0] 24 (0, 0))) := ⟨by rw [← hq_]; exact (zh BK305.out)⟩; have n7_ : Aside0 (w155.heap[gb319]? = some (.cells #[.slice Ao149 t316.length co149] 30 (0, 0))) := ⟨by rw [← hq_]; exact (zh BK319.out)⟩; have n8_ : Aside0 (Below w.heap.size w w155) := ⟨by rw [← hq_]; exact (zb HB.out)⟩; clear HO309 HO312 HO315 HO318 HO322 HO325 BK305 BK319 HB hq_; have HO309 := n0_; have HO312 := n1_; have HO315 := n2_; have HO318 := n3_; have HO322 := n4_; have HO325 := n5_; have BK305 := n6_; have BK319 := n7_; have HB := n8_; clear n0_ n1_ n2_ n3_ n4_ n5_ n6_ n7_ n8_))
     have n0_ := Aside0.mk (Kd.R_drew HO309.out)
     have n1_ := Aside0.mk (Kd.R_drew HO312.out)
     have n2_ := Aside0.mk (Kd.R_drew HO315.out)
     have n3_ := Aside0.mk (Kd.R_drew HO318.out)
     have n4_ := Aside0.mk (Kd.R_drew HO322.out)
     have n5_ := Aside0.mk (Kd.R_drew HO325.out)
     have n6_ := Aside0.mk (blk_drew BK305.out)
     have n7_ := Aside0.mk (blk_drew BK319.out)
     have n8_ := Aside0.mk (below_drew1 HB.out)
     clear HO309
     clear HO312
     clear HO315
     clear HO318
     clear HO322
     clear HO325
     clear BK305
     clear BK319
     clear HB
     have HO309 := n0_
     have HO312 := n1_
     have HO315 := n2_
     have HO318 := n3_
     have HO322 := n4_
     have HO325 := n5_
     have BK305 := n6_
     have BK319 := n7_
     have HB := n8_
     clear n0_ n1_ n2_ n3_ n4_ n5_ n6_ n7_ n8_
     refine start_ (n := 5) (S := fun w' => w'.cell? ⟨gb319, 0, none⟩ = some (.slice Ao149 t316.length co149) ∧ w'.cell? ⟨gb305, 0, none⟩ = some (.slice A0_0 l0_0.length c0_0)) (ds := []) #[false, false, false, false, false] (by kernel_rfl) rfl rfl ⟨(blk_cell BK319.out 0).trans rfl, (blk_cell BK305.out 0).trans rfl⟩ (fun hHeld => ?_)
     generalize w155.drew = w158 at HO309 HO312 HO315 HO318 HO322 HO325 BK305 BK319 HB hHeld ⊢
     refine take_ (i := 0) (N := some 38) (v := ?_) (a' := ?_) #[true, false, false, false, false] rfl rfl (by kernel_rfl) (fun _ _ _ h => h) (Or.inl ⟨by rfl, ?_⟩) hHeld ?_ ?_
     rotate_left
     ·rintro w' ⟨s0, s1⟩
      go_simp
      with_reducible rfl
     rotate_left
     ·simp only [Act.put, List.setIfInBounds_toArray, List.set_cons_zero, List.set_cons_succ, i64_w, i32_w]
      rfl
     refine take_ (i := 1) (N := some 39) (v := ?_) (a' := ?_) #[true, true, false, false, false] rfl rfl (by kernel_rfl) (fun _ _ _ h => h) (Or.inl ⟨by rfl, ?_⟩) hHeld ?_ ?_
     rotate_left
     ·rintro w' ⟨s0, s1⟩
      go_simp
      with_reducible rfl
     rotate_left
     ·simp only [Act.put, List.setIfInBounds_toArray, List.set_cons_zero, List.set_cons_succ, i64_w, i32_w]
      rfl
     refine one_ (i := 2) (N := some 40) #[true, true, true, false, false] rfl rfl (by kernel_rfl) (by decide) (fun K hK => ?_)
     refine goes_ Try.func13 (by kernel_rfl) rfl #[.agg #[.slice A0_0 l0_0.length c0_0]] (by rfl) rfl rfl zl ?_
     with_reducible refine (laws_toPool.calls k _ _ l0_0 t327 _ ?side1 ?side2 A18.out).mono ?_
     (case side1 => exact zc (Kd.C_below HR0_0.out HB.out))
     (case side2 => exact HC0_0.out)
     rintro e w159 ⟨v328, rfl, ho0, hb⟩
     refine ⟨_, rfl, ?_⟩
     have n0_ := Aside0.mk (Kd.R_elder' (zr HO309.out) (Kd.R_base ho0) hb)
     have n1_ := Aside0.mk (Kd.R_below (zr HO312.out) hb)
     have n2_ := Aside0.mk (Kd.R_below (zr HO315.out) hb)
     have n3_ := Aside0.mk (Kd.R_elder' (zr HO318.out) (Kd.R_base ho0) hb)
     have n4_ := Aside0.mk (Kd.R_below (zr HO322.out) hb)
     have n5_ := Aside0.mk (Kd.R_below (zr HO325.out) hb)
     have n6_ := Aside0.mk (Kd.R_lower (Kd.R_new' (Kd.R_new' ho0 (Kd.R_lt (zr HO309.out))) (Kd.R_lt (zr HO318.out))) (below_size (zb HB.out)))
     have n7_ := Aside0.mk (blk_below (zh BK305.out) hb)
     have n8_ := Aside0.mk (blk_below (zh BK319.out) hb)
     have n9_ := Aside0.mk (below_step (zb HB.out) hb)
     clear HO309
     clear HO312
     clear HO315
     clear HO318
     clear HO322
     clear HO325
     clear BK305
     clear BK319
     clear HB
     have HO309 := n0_
     have HO312 := n1_
     have HO315 := n2_
     have HO318 := n3_
     have HO322 := n4_
     have HO325 := n5_
     have HO329 := n6_
     have BK305 := n7_
     have BK319 := n8_
     have HB := n9_
     clear n0_ n1_ n2_ n3_ n4_ n5_ n6_ n7_ n8_ n9_
     (try clear hb)
     (try clear hb2)
     (try clear hk)
     (try clear hi)
     (try clear ho0)
     obtain ⟨Ao160, co160, eo160⟩ := Kd.R_slice HO329.out
     (first | subst eo160 | (injection eo160 with f1_ f2_ f3_; have f4_ := f1_.symm; have f5_ := f3_.symm; clear f1_ f2_ f3_; subst f4_; subst f5_))
     refine hK.out _ _ ⟨(blk_cell BK319.out 0).trans rfl, (blk_cell BK305.out 0).trans rfl⟩ (fun hHeld => ?_)
     clear hK K
     refine norm_ (a' := ?_) ?_ ?_
     rotate_left
     ·show Act.put _ (some 40) _ = _
      simp only [Act.put, List.setIfInBounds_toArray, List.set_cons_zero, List.set_cons_succ, i64_w, i32_w]
      rfl
     refine one_ (i := 3) (N := some 41) #[true, true, true, true, false] rfl rfl (by kernel_rfl) (by decide) (fun K hK => ?_)
     refine goes_ Try.func16 (by kernel_rfl) rfl #[.agg #[.slice Ao149 t316.length co149], .agg #[.slice Ao160 t327.length co160]] (by rfl) rfl rfl zl ?_
     with_reducible refine (laws_eqPool.calls k _ _ t316 _ _ t327 false _ ?side1 ?side2 ?side3 ?side4 A19.out).mono ?_
     (case side1 => exact zc (Kd.R_reads' HO318.out).2.2)
     (case side2 => exact (Kd.R_reads' HO318.out).2.1)
     (case side3 => exact zc (Kd.R_reads' HO329.out).2.2)
     (case side4 => exact (Kd.R_reads' HO329.out).2.1)
     rintro e w161 ⟨rfl, hb⟩
     refine ⟨_, rfl, ?_⟩
     have n0_ := Aside0.mk (Kd.R_below (zr HO309.out) hb)
     have n1_ := Aside0.mk (Kd.R_below (zr HO312.out) hb)
     have n2_ := Aside0.mk (Kd.R_below (zr HO315.out) hb)
     have n3_ := Aside0.mk (Kd.R_below (zr HO318.out) hb)
     have n4_ := Aside0.mk (Kd.R_below (zr HO322.out) hb)
     have n5_ := Aside0.mk (Kd.R_below (zr HO325.out) hb)
     have n6_ := Aside0.mk (Kd.R_below (zr HO329.out) hb)
     have n7_ := Aside0.mk (blk_below (zh BK305.out) hb)
     have n8_ := Aside0.mk (blk_below (zh BK319.out) hb)
     have n9_ := Aside0.mk (below_step (zb HB.out) hb)
     clear HO309
     clear HO312
     clear HO315
     clear HO318
     clear HO322
     clear HO325
     clear HO329
     clear BK305
     clear BK319
     clear HB
     have HO309 := n0_
     have HO312 := n1_
     have HO315 := n2_
     have HO318 := n3_
     have HO322 := n4_
     have HO325 := n5_
     have HO329 := n6_
     have BK305 := n7_
     have BK319 := n8_
     have HB := n9_
     clear n0_ n1_ n2_ n3_ n4_ n5_ n6_ n7_ n8_ n9_
     (try clear hb)
     (try clear hb2)
     (try clear hk)
     (try clear hi)
     refine hK.out _ _ ⟨(blk_cell BK319.out 0).trans rfl, (blk_cell BK305.out 0).trans rfl⟩ (fun hHeld => ?_)
     clear hK K
     refine norm_ (a' := ?_) ?_ ?_
     rotate_left
     ·show Act.put _ (some 41) _ = _
      simp only [Act.put, List.setIfInBounds_toArray, List.set_cons_zero, List.set_cons_succ, i64_w, i32_w]
      rfl
     refine pure_ (i := 4) (N := some 42) (v := ?_) (a' := ?_) #[true, true, true, true, true] rfl rfl (by kernel_rfl) (fun _ _ _ h => h) (Or.inl ⟨by rfl, ?_⟩) ?_ ?_
     rotate_left
     ·intro w'
      go_simp
      with_reducible rfl
     rotate_left
     ·simp only [Act.put, List.setIfInBounds_toArray, List.set_cons_zero, List.set_cons_succ, i64_w, i32_w]
      rfl
     refine done_ (by kernel_rfl) ?_
     try go_wp2
     go_ret
     exact ⟨ze, zb HB.out⟩
   ·replace c17 := Bool.eq_false_iff.mpr c17
    subst c17
    have H1 : (some false) = some r := by rw [if_neg (show ¬ (false = true) by decide)] at H; exact H
    clear H
    have H := H1
    clear H1
    obtain rfl := Option.some.inj H
    go_enter Try.func4, Try.ntmps4
    go_wp2_with (first | ((with_reducible refine gate_dst (N := 2) rfl ?_); refine box_event ?hg (N := 2) ?hd (cs := #[.slice A0_0 l0_0.length c0_0]) (t := 24) ?hr ?_; (case hd => rfl); (case hg => rfl); (case hr => first | (go_simp; done) | (go_simp; rfl)); intro gb305 hg w162 hbox hb; have n0_ := Aside0.mk (below_step (zb HB.out) hb); have n1_ := Aside0.mk (hbox); have n2_ := Aside0.mk ((by rw [hg]; exact (below_size (zb HB.out)) : w.heap.size ≤ gb305)); have n3_ := Aside0.mk ((by rw [hg]; exact (below_size (zb HB.out)) : w.heap.size ≤ gb305)); clear HB; have HB := n0_; have BK305 := n1_; have GW305 := n2_; have GE305 := n3_; clear n0_ n1_ n2_ n3_; clear hb hbox hg; have hcz163_0 : w162.cell? ⟨gb305, 0, none⟩ = some (.slice A0_0 l0_0.length c0_0) := (blk_cell BK305.out 0).trans rfl; have hfz163_0 := blk_frozen BK305.out 0) | ((with_reducible refine gate_callee (f := 11) rfl ?_); refine goesL_ (some 19) rfl rfl Try.func11 (by kernel_rfl) rfl #[.agg #[.slice A0_0 l0_0.length c0_0], .int .i64 1048576] rfl zl ?_; (with_reducible refine (laws_szPool.calls _ _ l0_0 1048576 t306 _ ?side1 ?side2 A5.out).mono ?_); (case side1 => exact zc (Kd.C_below HR0_0.out HB.out)); (case side2 => exact HC0_0.out); rintro e w164 ⟨rfl, hb⟩; refine ⟨_, rfl, ?_⟩; have n0_ := Aside0.mk (blk_below (zh BK305.out) hb); have n1_ := Aside0.mk (below_step (zb HB.out) hb); clear BK305; clear HB; have BK305 := n0_; have HB := n1_; clear n0_ n1_; (try clear hb); (try clear hb2); (try clear hk); (try clear hi); have hcz165_0 : w164.cell? ⟨gb305, 0, none⟩ = some (.slice A0_0 l0_0.length c0_0) := (blk_cell BK305.out 0).trans rfl; have hfz165_0 := blk_frozen BK305.out 0) | ((with_reducible refine gate_callee (f := 13) rfl ?_); refine goesL_ (some 23) rfl rfl Try.func13 (by kernel_rfl) rfl #[.agg #[.slice A0_0 l0_0.length c0_0]] rfl zl ?_; (with_reducible refine (laws_toPool.calls k _ _ l0_0 t307 _ ?side1 ?side2 A10.out).mono ?_); (case side1 => exact zc (Kd.C_below HR0_0.out HB.out)); (case side2 => exact HC0_0.out); rintro e w166 ⟨v308, rfl, ho0, hb⟩; refine ⟨_, rfl, ?_⟩; have n0_ := Aside0.mk (Kd.R_lower ho0 (below_size (zb HB.out))); have n1_ := Aside0.mk (blk_below (zh BK305.out) hb); have n2_ := Aside0.mk (below_step (zb HB.out) hb); clear BK305; clear HB; have HO309 := n0_; have BK305 := n1_; have HB := n2_; clear n0_ n1_ n2_; (try clear hb); (try clear hb2); (try clear hk); (try clear hi); (try clear ho0)) | ((with_reducible refine gate_callee (f := 14) rfl ?_); refine goesL_ (some 25) rfl rfl Try.func14 (by kernel_rfl) rfl #[.slice A1 l1.length c1] rfl zl ?_; (with_reducible refine (laws_toIntS.calls k _ _ l1 t310 _ ?side1 ?side2 A11.out).mono ?_); (case side1 => exact zc (Kd.C_below HR1.out HB.out)); (case side2 => exact HC1.out); rintro e w167 ⟨v311, rfl, ho0, hb⟩; refine ⟨_, rfl, ?_⟩; have n0_ := Aside0.mk (Kd.R_below (zr HO309.out) hb); have n1_ := Aside0.mk (Kd.R_lower ho0 (below_size (zb HB.out))); have n2_ := Aside0.mk (blk_below (zh BK305.out) hb); have n3_ := Aside0.mk (below_step (zb HB.out) hb); clear HO309; clear BK305; clear HB; have HO309 := n0_; have HO312 := n1_; have BK305 := n2_; have HB := n3_; clear n0_ n1_ n2_ n3_; (try clear hb); (try clear hb2); (try clear hk); (try clear hi); (try clear ho0); obtain ⟨Ao168, co168, eo168⟩ := Kd.R_slice HO309.out; subst eo168; obtain ⟨Ao169, co169, eo169⟩ := Kd.R_slice HO312.out; subst eo169) | ((with_reducible refine gate_callee (f := 18) rfl ?_); refine goesL_ (some 26) rfl rfl Try.func18 (by kernel_rfl) rfl #[.agg #[.slice Ao168 t307.length co168], .slice Ao169 t310.length co169] rfl zl ?_; (with_reducible refine (spec_MakesAll.calls k _ _ t307 _ _ t310 t313 _ ?side1 ?side2 ?side3 ?side4 A12.out).mono ?_); (case side1 => exact zc (Kd.R_reads' HO309.out).2.2); (case side2 => exact (Kd.R_reads' HO309.out).2.1); (case side3 => exact zc (Kd.R_reads' HO312.out).2.2); (case side4 => exact (Kd.R_reads' HO312.out).2.1); rintro e w170 ⟨v314, rfl, ho0, hb⟩; refine ⟨_, rfl, ?_⟩; have n0_ := Aside0.mk (Kd.R_below (zr HO309.out) hb); have n1_ := Aside0.mk (Kd.R_below (zr HO312.out) hb); have n2_ := Aside0.mk (Kd.R_lower ho0 (below_size (zb HB.out))); have n3_ := Aside0.mk (blk_below (zh BK305.out) hb); have n4_ := Aside0.mk (below_step (zb HB.out) hb); clear HO309; clear HO312; clear BK305; clear HB; have HO309 := n0_; have HO312 := n1_; have HO315 := n2_; have BK305 := n3_; have HB := n4_; clear n0_ n1_ n2_ n3_ n4_; (try clear hb); (try clear hb2); (try clear hk); (try clear hi); (try clear ho0); have hcz171_0 : w170.cell? ⟨gb305, 0, none⟩ = some (.slice A0_0 l0_0.length c0_0) := (blk_cell BK305.out 0).trans rfl; have hfz171_0 := blk_frozen BK305.out 0) | ((with_reducible refine gate_callee (f := 13) rfl ?_); refine goesL_ (some 28) rfl rfl Try.func13 (by kernel_rfl) rfl #[.agg #[.slice A0_0 l0_0.length c0_0]] rfl zl ?_; (with_reducible refine (laws_toPool.calls k _ _ l0_0 t316 _ ?side1 ?side2 A13.out).mono ?_); (case side1 => exact zc (Kd.C_below HR0_0.out HB.out)); (case side2 => exact HC0_0.out); rintro e w172 ⟨v317, rfl, ho0, hb⟩; refine ⟨_, rfl, ?_⟩; have n0_ := Aside0.mk (Kd.R_elder' (zr HO309.out) (Kd.R_base ho0) hb); have n1_ := Aside0.mk (Kd.R_below (zr HO312.out) hb); have n2_ := Aside0.mk (Kd.R_below (zr HO315.out) hb); have n3_ := Aside0.mk (Kd.R_lower (Kd.R_new' ho0 (Kd.R_lt (zr HO309.out))) (below_size (zb HB.out))); have n4_ := Aside0.mk (blk_below (zh BK305.out) hb); have n5_ := Aside0.mk (below_step (zb HB.out) hb); clear HO309; clear HO312; clear HO315; clear BK305; clear HB; have HO309 := n0_; have HO312 := n1_; have HO315 := n2_; have HO318 := n3_; have BK305 := n4_; have HB := n5_; clear n0_ n1_ n2_ n3_ n4_ n5_; (try clear hb); (try clear hb2); (try clear hk); (try clear hi); (try clear ho0)) | ((with_reducible refine gate_dst (N := 7) rfl ?_); refine box_event ?hg (N := 7) ?hd (cs := #[.slice none 0 0]) (t := 30) ?hr ?_; (case hd => rfl); (case hg => rfl); (case hr => first | (go_simp; done) | (go_simp; rfl)); intro gb319 hg w173 hbox hb; have n0_ := Aside0.mk (Kd.R_below (zr HO309.out) hb); have n1_ := Aside0.mk (Kd.R_below (zr HO312.out) hb); have n2_ := Aside0.mk (Kd.R_below (zr HO315.out) hb); have n3_ := Aside0.mk (Kd.R_below (zr HO318.out) hb); have n4_ := Aside0.mk (blk_below (zh BK305.out) hb); have n5_ := Aside0.mk (below_step (zb HB.out) hb); have n6_ := Aside0.mk (hbox); have n7_ := Aside0.mk ((by rw [hg]; exact (below_size (zb HB.out)) : w.heap.size ≤ gb319)); have n8_ := Aside0.mk ((by rw [hg]; exact (below_size (zb HB.out)) : w.heap.size ≤ gb319)); have n9_ := Aside0.mk ((by rw [hg]; exact Nat.ne_of_lt (blk_lt (zh BK305.out)) : gb305 ≠ gb319)); have n10_ := Aside0.mk ((by rw [hg]; exact Nat.ne_of_gt (blk_lt (zh BK305.out)) : gb319 ≠ gb305)); clear HO309; clear HO312; clear HO315; clear HO318; clear BK305; clear HB; have HO309 := n0_; have HO312 := n1_; have HO315 := n2_; have HO318 := n3_; have BK305 := n4_; have HB := n5_; have BK319 := n6_; have GW319 := n7_; have GE319 := n8_; have NB305_319 := n9_; have NB319_305 := n10_; clear n0_ n1_ n2_ n3_ n4_ n5_ n6_ n7_ n8_ n9_ n10_; clear hb hbox hg; obtain ⟨Ao174, co174, eo174⟩ := Kd.R_slice HO318.out; subst eo174; have hnb175 := NB319_305.out; have hnc175 := NB305_319.out; have hcz176_0 : w173.cell? ⟨gb319, 0, none⟩ = some (.slice none 0 0) := (blk_cell BK319.out 0).trans rfl; have hfz176_0 := blk_frozen BK319.out 0) | ((with_reducible refine gate_callee (f := 14) rfl ?_); refine goesL_ (some 30) rfl rfl Try.func14 (by kernel_rfl) rfl #[.slice A1 l1.length c1] rfl zl ?_; (with_reducible refine (laws_toIntS.calls k _ _ l1 t320 _ ?side1 ?side2 A14.out).mono ?_); (case side1 => exact Kd.C_below HR1.out (zb HB.out)); (case side2 => exact HC1.out); rintro e w177 ⟨v321, rfl, ho0, hb⟩; refine ⟨_, rfl, ?_⟩; have n0_ := Aside0.mk (Kd.R_below (by (with_reducible repeat (first | apply Kd.R_alloc | apply Kd.R_drewN | apply Kd.R_drew)); exact (Kd.R_mono (Kd.R_far (p := ⟨gb319, 0, none⟩) (Kd.R_types HO309.out BK319.out (by decide)) (fun _ hk => hk.2) (.slice Ao174 t316.length co174)) (fun _ h_ => h_.1))) hb); have n1_ := Aside0.mk (Kd.R_elder' (by (with_reducible repeat (first | apply Kd.R_alloc | apply Kd.R_drewN | apply Kd.R_drew)); exact (Kd.R_mono (Kd.R_far (p := ⟨gb319, 0, none⟩) (Kd.R_types HO312.out BK319.out (by decide)) (fun _ hk => hk.2) (.slice Ao174 t316.length co174)) (fun _ h_ => h_.1))) (Kd.R_base ho0) hb); have n2_ := Aside0.mk (Kd.R_below (by (with_reducible repeat (first | apply Kd.R_alloc | apply Kd.R_drewN | apply Kd.R_drew)); exact (Kd.R_mono (Kd.R_far (p := ⟨gb319, 0, none⟩) (Kd.R_types HO315.out BK319.out (by decide)) (fun _ hk => hk.2) (.slice Ao174 t316.length co174)) (fun _ h_ => h_.1))) hb); have n3_ := Aside0.mk (Kd.R_below (by (with_reducible repeat (first | apply Kd.R_alloc | apply Kd.R_drewN | apply Kd.R_drew)); exact (Kd.R_mono (Kd.R_far (p := ⟨gb319, 0, none⟩) (Kd.R_types HO318.out BK319.out (by decide)) (fun _ hk => hk.2) (.slice Ao174 t316.length co174)) (fun _ h_ => h_.1))) hb); have n4_ := Aside0.mk (Kd.R_lower (Kd.R_new' ho0 (Kd.R_lt (by (with_reducible repeat (first | apply Kd.R_alloc | apply Kd.R_drewN | apply Kd.R_drew)); exact (Kd.R_mono (Kd.R_far (p := ⟨gb319, 0, none⟩) (Kd.R_types HO312.out BK319.out (by decide)) (fun _ hk => hk.2) (.slice Ao174 t316.length co174)) (fun _ h_ => h_.1))))) (below_size (zb HB.out))); have n5_ := Aside0.mk (blk_below (g := gb305) (o := .cells #[.slice A0_0 l0_0.length c0_0] 24 (0, 0)) (zf BK305.out) hb); have n6_ := Aside0.mk (blk_below (g := gb319) (o := .cells #[.slice Ao174 t316.length co174] 30 (0, 0)) (by (with_reducible repeat (first | refine blk_drewN ?_ _ | refine blk_drew ?_ | refine blk_alloc ?_ _)); refine blk_put (cs := #[.slice none 0 0]) ?_ 0 _ rfl; (with_reducible repeat (first | refine blk_drewN ?_ _ | refine blk_drew ?_ | refine blk_alloc ?_ _)); exact BK319.out) hb); have n7_ := Aside0.mk (below_step (zb HB.out) hb); clear HO309; clear HO312; clear HO315; clear HO318; clear BK305; clear BK319; clear HB; have HO309 := n0_; have HO312 := n1_; have HO315 := n2_; have HO318 := n3_; have HO322 := n4_; have BK305 := n5_; have BK319 := n6_; have HB := n7_; clear n0_ n1_ n2_ n3_ n4_ n5_ n6_ n7_; (try clear hb); (try clear hb2); (try clear hk); (try clear hi); (try clear ho0); have hcz178_0 : w177.cell? ⟨gb319, 0, none⟩ = some (.slice Ao174 t316.length co174) := (blk_cell BK319.out 0).trans rfl; have hfz178_0 := blk_frozen BK319.out 0; obtain ⟨Ao179, co179, eo179⟩ := Kd.R_slice HO322.out; subst eo179) | ((with_reducible refine gate_callee (f := 19) rfl ?_); refine goesL_ (some 33) rfl rfl Try.func19 (by kernel_rfl) rfl #[.agg #[.slice Ao174 t316.length co174], .slice Ao179 t320.length co179] rfl zl ?_; (with_reducible refine (impl_MakesAll.calls k _ _ t316 _ _ t320 t323 _ ?side1 ?side2 ?side3 ?side4 A15.out).mono ?_); (case side1 => exact zc (Kd.R_reads' HO318.out).2.2); (case side2 => exact (Kd.R_reads' HO318.out).2.1); (case side3 => exact zc (Kd.R_reads' HO322.out).2.2); (case side4 => exact (Kd.R_reads' HO322.out).2.1); rintro e w180 ⟨v324, rfl, ho0, hb⟩; refine ⟨_, rfl, ?_⟩; have n0_ := Aside0.mk (Kd.R_below (zr HO309.out) hb); have n1_ := Aside0.mk (Kd.R_below (zr HO312.out) hb); have n2_ := Aside0.mk (Kd.R_elder' (zr HO315.out) (Kd.R_base ho0) hb); have n3_ := Aside0.mk (Kd.R_below (zr HO318.out) hb); have n4_ := Aside0.mk (Kd.R_below (zr HO322.out) hb); have n5_ := Aside0.mk (Kd.R_lower (Kd.R_new' ho0 (Kd.R_lt (zr HO315.out))) (below_size (zb HB.out))); have n6_ := Aside0.mk (blk_below (zh BK305.out) hb); have n7_ := Aside0.mk (blk_below (zh BK319.out) hb); have n8_ := Aside0.mk (below_step (zb HB.out) hb); clear HO309; clear HO312; clear HO315; clear HO318; clear HO322; clear BK305; clear BK319; clear HB; have HO309 := n0_; have HO312 := n1_; have HO315 := n2_; have HO318 := n3_; have HO322 := n4_; have HO325 := n5_; have BK305 := n6_; have BK319 := n7_; have HB := n8_; clear n0_ n1_ n2_ n3_ n4_ n5_ n6_ n7_ n8_; (try clear hb); (try clear hb2); (try clear hk); (try clear hi); (try clear ho0); obtain ⟨Ao181, co181, eo181⟩ := Kd.R_slice HO325.out; subst eo181; obtain ⟨Ao182, co182, eo182⟩ := Kd.R_slice HO315.out; subst eo182) | ((with_reducible refine gate_callee (f := 20) rfl ?_); refine goesL_ (some 36) rfl rfl Try.func20 (by kernel_rfl) rfl #[.slice Ao181 t323.length co181, .slice Ao182 t313.length co182] rfl zl ?_; (with_reducible refine (laws_eqBoolS.calls k _ _ t323 _ _ t313 false _ ?side1 ?side2 ?side3 ?side4 A16.out).mono ?_); (case side1 => exact zc (Kd.R_reads' HO325.out).2.2); (case side2 => exact (Kd.R_reads' HO325.out).2.1); (case side3 => exact zc (Kd.R_reads' HO315.out).2.2); (case side4 => exact (Kd.R_reads' HO315.out).2.1); rintro e w' ⟨rfl, ⟨nd, rfl⟩⟩; refine ⟨_, rfl, ?_⟩))
    go_ret
    exact ⟨ze, zb HB.out⟩

end Go.Proofs.Ytgohebghlgamiaa.M
end
