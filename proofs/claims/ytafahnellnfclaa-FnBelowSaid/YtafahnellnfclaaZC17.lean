-- Written by this session's program (wip/tools/gprint.py over the kit's print) out of the translation; Lean checks it.
import Derived.Test.YtafahnellnfclaaZC0
import Derived.Test.YtafahnellnfclaaZC4
import Derived.Test.YtafahnellnfclaaZC5
import Derived.Test.YtafahnellnfclaaZC9
import Derived.Test.YtafahnellnfclaaZC15
import Derived.Test.YtafahnellnfclaaZC16
namespace Go.Proofs.Ytafahnellnfclaa.C
open Go.RowKit Go.Proofs.YtafahnellnfclaaW.PrintWords Go.Proofs.YtafahnellnfclaaW.PrintLast Go.Proofs.YtafahnellnfclaaW.PrintMore
attribute [local go_sem] max2_int min2_int max_two min_two max_three min_three max_four min_four   -- for this text's walks alone
set_option linter.unusedVariables false
set_option linter.unusedSimpArgs false
set_option maxRecDepth 100000

/-! ### laws_FnBelow: function 10 -/
mutual
def laws_FnBelow.l0 : Nat → Int → List Int → List Int → List Int → Int → List (S34) → Option (Bool)
 | 0, _, _, _, _, _, _ => none
 | k + 1, x4, x5, x6, x7, x8, x485000 => if x8 < (x7.length : Int) then (if 0 ≤ x8 then ((impl_TermBelow.f k x485000 (rd x7 x8)).bind fun t501 => (laws_FnBelow.l1 k x4 x5 x6 x7 x8 t501 0 x485000)) else (none)) else (if (x6.length : Int) = (x5.length : Int) then (if 0 ≤ (wrap64 ((x5.length : Int) - 1)) then (if (wrap64 ((x5.length : Int) - 1)) < (x5.length : Int) then (some ((rd x5 (wrap64 ((x5.length : Int) - 1))) == x4)) else (none)) else (none)) else (some false))
def laws_FnBelow.l1 : Nat → Int → List Int → List Int → List Int → Int → List Int → Int → List (S34) → Option (Bool)
 | 0, _, _, _, _, _, _, _, _ => none
 | k + 1, x4, x5, x6, x7, x8, x9, x10, x485000 => if x10 < (x9.length : Int) then (if 0 ≤ x10 then ((laws_within.f k x5 (rd x9 x10)).bind fun t505 => (if t505 = true then ((laws_within.f k x6 (rd x9 x10)).bind fun t507 => (if t507 = true then (laws_FnBelow.l1 k x4 x5 x6 x7 x8 x9 (wrap64 (x10 + 1)) x485000) else (if x6.length < 17592186044416 then (laws_FnBelow.l1 k x4 x5 (x6 ++ [rd x9 x10]) x7 x8 x9 (wrap64 (x10 + 1)) x485000) else (none)))) else (some false))) else (none)) else (laws_FnBelow.l0 k x4 x5 x6 x7 (wrap64 (x8 + 1)) x485000)
end
def laws_FnBelow.f (k : Nat) (l0 : List Int) : Option (Bool) := (laws_big.f l0).bind fun t479 => (if t479 = true then (some true) else ((spec_DrawTermBelow.f k l0).bind fun bt480 => ((impl_TermBelow.f k bt480.1 bt480.2).bind fun t485 => ((spec_TermBelow.f k bt480.1 bt480.2).bind fun t488 => ((laws_sameInts.f k t485 t488).bind fun t491 => (if t491 = true then (if (t485.length : Int) = 0 then ((spec_PoolOk.f k bt480.1).bind fun t492 => (if t492 = true then (if bt480.2 < 0 then (some true) else (some (decide (bt480.2 ≥ (bt480.1.length : Int))))) else (some true))) else ((impl_PartsOf.f k bt480.1 bt480.2).bind fun t496 => (laws_FnBelow.l0 k bt480.2 t485 (([bt480.2] : List Int)) t496 0 bt480.1))) else (some false)))))))
theorem laws_FnBelow.mono_l : ∀ k, (∀ y0 y1 y2 y3 y4 y5, LeO (laws_FnBelow.l0 k y0 y1 y2 y3 y4 y5) (laws_FnBelow.l0 (k + 1) y0 y1 y2 y3 y4 y5)) ∧ (∀ y0 y1 y2 y3 y4 y5 y6 y7, LeO (laws_FnBelow.l1 k y0 y1 y2 y3 y4 y5 y6 y7) (laws_FnBelow.l1 (k + 1) y0 y1 y2 y3 y4 y5 y6 y7))
 | 0 => ⟨fun _ _ _ _ _ _ r h => by simp [laws_FnBelow.l0] at h, fun _ _ _ _ _ _ _ _ r h => by simp [laws_FnBelow.l1] at h⟩
 | k + 1 => by
  obtain ⟨ih0, ih1⟩ := laws_FnBelow.mono_l k
  refine ⟨?_, ?_⟩
  ·intro y0 y1 y2 y3 y4 y5
   unfold laws_FnBelow.l0
   repeat' first
   | (with_reducible exact ih0 _ _ _ _ _ _)
   | (with_reducible exact ih1 _ _ _ _ _ _ _ _)
   | (with_reducible exact impl_PartsOf.mono _ _ _)
   | (with_reducible exact impl_TermBelow.mono _ _ _)
   | (with_reducible exact laws_sameInts.mono _ _ _)
   | (with_reducible exact laws_within.mono _ _ _)
   | (with_reducible exact spec_DrawTermBelow.mono _ _)
   | (with_reducible exact spec_PoolOk.mono _ _)
   | (with_reducible exact spec_TermBelow.mono _ _ _)
   | (with_reducible exact LeO.refl _)
   | (with_reducible exact LeO.none _)
   | (with_reducible refine LeO.ite ?_ ?_)
   | (with_reducible refine LeO.bind ?_ (fun _ => ?_))
   | exact ih0 _ _ _ _ _ _
   | exact ih1 _ _ _ _ _ _ _ _
   | exact impl_PartsOf.mono _ _ _
   | exact impl_TermBelow.mono _ _ _
   | exact laws_sameInts.mono _ _ _
   | exact laws_within.mono _ _ _
   | exact spec_DrawTermBelow.mono _ _
   | exact spec_PoolOk.mono _ _
   | exact spec_TermBelow.mono _ _ _
   | exact LeO.none _
   | refine LeO.ite ?_ ?_
   | refine LeO.bind ?_ (fun _ => ?_)
  ·intro y0 y1 y2 y3 y4 y5 y6 y7
   unfold laws_FnBelow.l1
   repeat' first
   | (with_reducible exact ih0 _ _ _ _ _ _)
   | (with_reducible exact ih1 _ _ _ _ _ _ _ _)
   | (with_reducible exact impl_PartsOf.mono _ _ _)
   | (with_reducible exact impl_TermBelow.mono _ _ _)
   | (with_reducible exact laws_sameInts.mono _ _ _)
   | (with_reducible exact laws_within.mono _ _ _)
   | (with_reducible exact spec_DrawTermBelow.mono _ _)
   | (with_reducible exact spec_PoolOk.mono _ _)
   | (with_reducible exact spec_TermBelow.mono _ _ _)
   | (with_reducible exact LeO.refl _)
   | (with_reducible exact LeO.none _)
   | (with_reducible refine LeO.ite ?_ ?_)
   | (with_reducible refine LeO.bind ?_ (fun _ => ?_))
   | exact ih0 _ _ _ _ _ _
   | exact ih1 _ _ _ _ _ _ _ _
   | exact impl_PartsOf.mono _ _ _
   | exact impl_TermBelow.mono _ _ _
   | exact laws_sameInts.mono _ _ _
   | exact laws_within.mono _ _ _
   | exact spec_DrawTermBelow.mono _ _
   | exact spec_PoolOk.mono _ _
   | exact spec_TermBelow.mono _ _ _
   | exact LeO.none _
   | refine LeO.ite ?_ ?_
   | refine LeO.bind ?_ (fun _ => ?_)
theorem laws_FnBelow.mono : ∀ a0 k, LeO (laws_FnBelow.f k a0) (laws_FnBelow.f (k + 1) a0) := by
 intro a0 k
 obtain ⟨ih0, ih1⟩ := laws_FnBelow.mono_l k
 unfold laws_FnBelow.f
 repeat' first
   | (with_reducible exact ih0 _ _ _ _ _ _)
   | (with_reducible exact ih1 _ _ _ _ _ _ _ _)
   | (with_reducible exact impl_PartsOf.mono _ _ _)
   | (with_reducible exact impl_TermBelow.mono _ _ _)
   | (with_reducible exact laws_sameInts.mono _ _ _)
   | (with_reducible exact laws_within.mono _ _ _)
   | (with_reducible exact spec_DrawTermBelow.mono _ _)
   | (with_reducible exact spec_PoolOk.mono _ _)
   | (with_reducible exact spec_TermBelow.mono _ _ _)
   | (with_reducible exact LeO.refl _)
   | (with_reducible exact LeO.none _)
   | (with_reducible refine LeO.ite ?_ ?_)
   | (with_reducible refine LeO.bind ?_ (fun _ => ?_))
   | exact ih0 _ _ _ _ _ _
   | exact ih1 _ _ _ _ _ _ _ _
   | exact impl_PartsOf.mono _ _ _
   | exact impl_TermBelow.mono _ _ _
   | exact laws_sameInts.mono _ _ _
   | exact laws_within.mono _ _ _
   | exact spec_DrawTermBelow.mono _ _
   | exact spec_PoolOk.mono _ _
   | exact spec_TermBelow.mono _ _ _
   | exact LeO.none _
   | refine LeO.ite ?_ ?_
   | refine LeO.bind ?_ (fun _ => ?_)
set_option maxHeartbeats 8000000 in
set_option maxRecDepth 100000 in
theorem laws_FnBelow.calls (k : Nat) (A0 : Option Addr) (c0 : Nat) (l0 : List Int) (r : Bool) (w : World) (hr0 : Kd.C (Kd.int .u8) w A0 l0.length l0) (hc0 : l0.length ≤ c0) (h : laws_FnBelow.f k l0 = some r) :
  Calls Try.prog 10 #[.slice A0 l0.length c0] w fun e w' => e = .returned (.bool r) ∧ Below w.heap.size w w' := by
 have hu30 := Try.underlying30
 have HR0 := Aside0.mk hr0
 have HC0 := Aside0.mk hc0
 clear hr0 hc0
 have HB := Aside0.mk (Below.refl w.heap.size w)
 have H : ((laws_big.f l0).bind fun t479 => (if t479 = true then (some true) else ((spec_DrawTermBelow.f k l0).bind fun bt480 => ((impl_TermBelow.f k bt480.1 bt480.2).bind fun t485 => ((spec_TermBelow.f k bt480.1 bt480.2).bind fun t488 => ((laws_sameInts.f k t485 t488).bind fun t491 => (if t491 = true then (if (t485.length : Int) = 0 then ((spec_PoolOk.f k bt480.1).bind fun t492 => (if t492 = true then (if bt480.2 < 0 then (some true) else (some (decide (bt480.2 ≥ (bt480.1.length : Int))))) else (some true))) else ((impl_PartsOf.f k bt480.1 bt480.2).bind fun t496 => (laws_FnBelow.l0 k bt480.2 t485 (([bt480.2] : List Int)) t496 0 bt480.1))) else (some false)))))))) = some r := h
 clear h
 replace H := Option.bind_eq_some_iff.mp H
 obtain ⟨t479, A20, H⟩ := H
 replace H : (if t479 = true then (some true) else ((spec_DrawTermBelow.f k l0).bind fun bt480 => ((impl_TermBelow.f k bt480.1 bt480.2).bind fun t485 => ((spec_TermBelow.f k bt480.1 bt480.2).bind fun t488 => ((laws_sameInts.f k t485 t488).bind fun t491 => (if t491 = true then (if (t485.length : Int) = 0 then ((spec_PoolOk.f k bt480.1).bind fun t492 => (if t492 = true then (if bt480.2 < 0 then (some true) else (some (decide (bt480.2 ≥ (bt480.1.length : Int))))) else (some true))) else ((impl_PartsOf.f k bt480.1 bt480.2).bind fun t496 => (laws_FnBelow.l0 k bt480.2 t485 (([bt480.2] : List Int)) t496 0 bt480.1))) else (some false))))))) = some r := H
 have A2 := Aside0.mk A20
 clear A20
 by_cases c3 : t479 = true
 ·subst c3
  have H1 : (some true) = some r := by rw [if_pos rfl] at H; exact H
  clear H
  have H := H1
  clear H1
  obtain rfl := Option.some.inj H
  go_enter Try.func10, Try.ntmps10
  go_wp2_with (first | ((with_reducible refine gate_callee (f := 34) rfl ?_); refine goesL_ (some 12) rfl rfl Try.func34 (by kernel_rfl) rfl #[.slice A0 l0.length c0] rfl zl ?_; (with_reducible refine (laws_big.calls _ _ l0 true _ ?side1 ?side2 A2.out).mono ?_); (case side1 => exact zc HR0.out); (case side2 => exact HC0.out); rintro e w' ⟨rfl, ⟨nd, rfl⟩⟩; refine ⟨_, rfl, ?_⟩))
  go_ret
  exact ⟨ze, zb HB.out⟩
 ·replace c3 := Bool.eq_false_iff.mpr c3
  subst c3
  have H1 : ((spec_DrawTermBelow.f k l0).bind fun bt480 => ((impl_TermBelow.f k bt480.1 bt480.2).bind fun t485 => ((spec_TermBelow.f k bt480.1 bt480.2).bind fun t488 => ((laws_sameInts.f k t485 t488).bind fun t491 => (if t491 = true then (if (t485.length : Int) = 0 then ((spec_PoolOk.f k bt480.1).bind fun t492 => (if t492 = true then (if bt480.2 < 0 then (some true) else (some (decide (bt480.2 ≥ (bt480.1.length : Int))))) else (some true))) else ((impl_PartsOf.f k bt480.1 bt480.2).bind fun t496 => (laws_FnBelow.l0 k bt480.2 t485 (([bt480.2] : List Int)) t496 0 bt480.1))) else (some false)))))) = some r := by rw [if_neg (show ¬ (false = true) by decide)] at H; exact H
  clear H
  have H := H1
  clear H1
  replace H := Option.bind_eq_some_iff.mp H
  obtain ⟨⟨t480, t483⟩, A40, H⟩ := H
  replace H : ((impl_TermBelow.f k t480 t483).bind fun t485 => ((spec_TermBelow.f k t480 t483).bind fun t488 => ((laws_sameInts.f k t485 t488).bind fun t491 => (if t491 = true then (if (t485.length : Int) = 0 then ((spec_PoolOk.f k t480).bind fun t492 => (if t492 = true then (if t483 < 0 then (some true) else (some (decide (t483 ≥ (t480.length : Int))))) else (some true))) else ((impl_PartsOf.f k t480 t483).bind fun t496 => (laws_FnBelow.l0 k t483 t485 (([t483] : List Int)) t496 0 t480))) else (some false))))) = some r := H
  have A4 := Aside0.mk A40
  clear A40
  replace H := Option.bind_eq_some_iff.mp H
  obtain ⟨t485, A50, H⟩ := H
  replace H : ((spec_TermBelow.f k t480 t483).bind fun t488 => ((laws_sameInts.f k t485 t488).bind fun t491 => (if t491 = true then (if (t485.length : Int) = 0 then ((spec_PoolOk.f k t480).bind fun t492 => (if t492 = true then (if t483 < 0 then (some true) else (some (decide (t483 ≥ (t480.length : Int))))) else (some true))) else ((impl_PartsOf.f k t480 t483).bind fun t496 => (laws_FnBelow.l0 k t483 t485 (([t483] : List Int)) t496 0 t480))) else (some false)))) = some r := H
  have A5 := Aside0.mk A50
  clear A50
  replace H := Option.bind_eq_some_iff.mp H
  obtain ⟨t488, A60, H⟩ := H
  replace H : ((laws_sameInts.f k t485 t488).bind fun t491 => (if t491 = true then (if (t485.length : Int) = 0 then ((spec_PoolOk.f k t480).bind fun t492 => (if t492 = true then (if t483 < 0 then (some true) else (some (decide (t483 ≥ (t480.length : Int))))) else (some true))) else ((impl_PartsOf.f k t480 t483).bind fun t496 => (laws_FnBelow.l0 k t483 t485 (([t483] : List Int)) t496 0 t480))) else (some false))) = some r := H
  have A6 := Aside0.mk A60
  clear A60
  replace H := Option.bind_eq_some_iff.mp H
  obtain ⟨t491, A70, H⟩ := H
  replace H : (if t491 = true then (if (t485.length : Int) = 0 then ((spec_PoolOk.f k t480).bind fun t492 => (if t492 = true then (if t483 < 0 then (some true) else (some (decide (t483 ≥ (t480.length : Int))))) else (some true))) else ((impl_PartsOf.f k t480 t483).bind fun t496 => (laws_FnBelow.l0 k t483 t485 (([t483] : List Int)) t496 0 t480))) else (some false)) = some r := H
  have A7 := Aside0.mk A70
  clear A70
  by_cases c8 : t491 = true
  ·subst c8
   have H1 : (if (t485.length : Int) = 0 then ((spec_PoolOk.f k t480).bind fun t492 => (if t492 = true then (if t483 < 0 then (some true) else (some (decide (t483 ≥ (t480.length : Int))))) else (some true))) else ((impl_PartsOf.f k t480 t483).bind fun t496 => (laws_FnBelow.l0 k t483 t485 (([t483] : List Int)) t496 0 t480))) = some r := by rw [if_pos rfl] at H; exact H
   clear H
   have H := H1
   clear H1
   by_cases c9 : (t485.length : Int) = 0
   ·rw [if_pos c9] at H
    have c9b0 : ((t485.length : Int) == 0) = true := beq_iff_eq.mpr c9
    have c9b1 : ((t485.length : Int) != 0) = false := bne_eq_false_iff_eq.mpr c9
    clear c9
    replace H := Option.bind_eq_some_iff.mp H
    obtain ⟨t492, A100, H⟩ := H
    replace H : (if t492 = true then (if t483 < 0 then (some true) else (some (decide (t483 ≥ (t480.length : Int))))) else (some true)) = some r := H
    have A10 := Aside0.mk A100
    clear A100
    by_cases c11 : t492 = true
    ·subst c11
     have H1 : (if t483 < 0 then (some true) else (some (decide (t483 ≥ (t480.length : Int))))) = some r := by rw [if_pos rfl] at H; exact H
     clear H
     have H := H1
     clear H1
     by_cases c12 : t483 < 0
     ·rw [if_pos c12] at H
      have c12b0 : decide (t483 < 0) = true := decide_eq_true c12
      clear c12
      obtain rfl := Option.some.inj H
      go_enter Try.func10, Try.ntmps10
      go_wp2_with (first | ((with_reducible refine gate_callee (f := 34) rfl ?_); refine goesL_ (some 12) rfl rfl Try.func34 (by kernel_rfl) rfl #[.slice A0 l0.length c0] rfl zl ?_; (with_reducible refine (laws_big.calls _ _ l0 false _ ?side1 ?side2 A2.out).mono ?_); (case side1 => exact zc HR0.out); (case side2 => exact HC0.out); rintro e w' ⟨rfl, ⟨nd, rfl⟩⟩; refine ⟨_, rfl, ?_⟩) | ((with_reducible refine gate_callee (f := 40) rfl ?_); refine goesL_ (some 15) rfl rfl Try.func40 (by kernel_rfl) rfl #[.slice A0 l0.length c0] rfl zl ?_; (with_reducible refine (spec_DrawTermBelow.calls k _ _ l0 t480 t483 _ ?side1 ?side2 A4.out).mono ?_); (case side1 => exact zc HR0.out); (case side2 => exact HC0.out); rintro e w13 ⟨v481, rfl, ho0, hb⟩; refine ⟨_, rfl, ?_⟩; have n0_ := Aside0.mk (Kd.R_lower ho0 (below_size (zb HB.out))); have n1_ := Aside0.mk (below_step (zb HB.out) hb); clear HB; have HO482 := n0_; have HB := n1_; clear n0_ n1_; (try clear hb); (try clear hb2); (try clear hk); (try clear hi); (try clear ho0)) | ((with_reducible refine gate_dst (N := 3) rfl ?_); (try (refine gate_guard (by rfl) ?_; dsimp only)); refine box_event ?hg (N := 3) ?hd (cs := #[.slice none 0 0]) (t := 30) ?hr ?_; (case hd => rfl); (case hg => rfl); (case hr => first | (go_simp; done) | (go_simp; rfl)); intro gb484 hg w14 hbox hb; have n0_ := Aside0.mk (Kd.R_below (zr HO482.out) hb); have n1_ := Aside0.mk (below_step (zb HB.out) hb); have n2_ := Aside0.mk (hbox); have n3_ := Aside0.mk ((by rw [hg]; exact (below_size (zb HB.out)) : w.heap.size ≤ gb484)); have n4_ := Aside0.mk ((by rw [hg]; exact (below_size (zb HB.out)) : w.heap.size ≤ gb484)); clear HO482; clear HB; have HO482 := n0_; have HB := n1_; have BK484 := n2_; have GW484 := n3_; have GE484 := n4_; clear n0_ n1_ n2_ n3_ n4_; clear hb hbox hg; obtain ⟨Ao15, co15, eo15⟩ := Kd.R_slice HO482.out; subst eo15; have hcz16_0 : w14.cell? ⟨gb484, 0, none⟩ = some (.slice none 0 0) := (blk_cell BK484.out 0).trans rfl; have hfz16_0 := blk_frozen BK484.out 0) | ((with_reducible refine gate_callee (f := 33) rfl ?_); refine goesL_ (some 20) rfl rfl Try.func33 (by kernel_rfl) rfl #[.agg #[.slice Ao15 t480.length co15], .int .i64 t483] rfl zl ?_; (with_reducible refine (impl_TermBelow.calls k _ _ t480 t483 t485 _ ?side1 ?side2 A5.out).mono ?_); (case side1 => refine (Kd.R_reads' (e := 34) (base := w.heap.size) (ok := fun k_ => True) (n := t480.length) (c := co15) ?_).2.2; exact (by (with_reducible repeat (first | apply Kd.R_alloc | apply Kd.R_drewN | apply Kd.R_drew)); exact (Kd.R_mono (Kd.R_far (p := ⟨gb484, 0, none⟩) (Kd.R_types HO482.out BK484.out (by decide)) (fun _ hk => hk.2) (.slice Ao15 t480.length co15)) (fun _ h_ => h_.1)))); (case side2 => exact (Kd.R_reads' HO482.out).2.1); rintro e w17 ⟨v486, rfl, ho0, hb⟩; refine ⟨_, rfl, ?_⟩; have n0_ := Aside0.mk (Kd.R_below (by (with_reducible repeat (first | apply Kd.R_alloc | apply Kd.R_drewN | apply Kd.R_drew)); exact (Kd.R_mono (Kd.R_far (p := ⟨gb484, 0, none⟩) (Kd.R_types HO482.out BK484.out (by decide)) (fun _ hk => hk.2) (.slice Ao15 t480.length co15)) (fun _ h_ => h_.1))) hb); have n1_ := Aside0.mk (Kd.R_lower ho0 (below_size (zb HB.out))); have n2_ := Aside0.mk (blk_below (g := gb484) (o := .cells #[.slice Ao15 t480.length co15] 30 (0, 0)) (by (with_reducible repeat (first | refine blk_drewN ?_ _ | refine blk_drew ?_ | refine blk_alloc ?_ _)); refine blk_put (cs := #[.slice none 0 0]) ?_ 0 _ rfl; (with_reducible repeat (first | refine blk_drewN ?_ _ | refine blk_drew ?_ | refine blk_alloc ?_ _)); exact BK484.out) hb); have n3_ := Aside0.mk (below_step (zb HB.out) hb); clear HO482; clear BK484; clear HB; have HO482 := n0_; have HO487 := n1_; have BK484 := n2_; have HB := n3_; clear n0_ n1_ n2_ n3_; (try clear hb); (try clear hb2); (try clear hk); (try clear hi); (try clear ho0); have hcz18_0 : w17.cell? ⟨gb484, 0, none⟩ = some (.slice Ao15 t480.length co15) := (blk_cell BK484.out 0).trans rfl; have hfz18_0 := blk_frozen BK484.out 0) | ((with_reducible refine gate_callee (f := 32) rfl ?_); refine goesL_ (some 24) rfl rfl Try.func32 (by kernel_rfl) rfl #[.agg #[.slice Ao15 t480.length co15], .int .i64 t483] rfl zl ?_; (with_reducible refine (spec_TermBelow.calls k _ _ t480 t483 t488 _ ?side1 ?side2 A6.out).mono ?_); (case side1 => exact zc (Kd.R_reads' HO482.out).2.2); (case side2 => exact (Kd.R_reads' HO482.out).2.1); rintro e w19 ⟨v489, rfl, ho0, hb⟩; refine ⟨_, rfl, ?_⟩; have n0_ := Aside0.mk (Kd.R_below (zr HO482.out) hb); have n1_ := Aside0.mk (Kd.R_elder' (zr HO487.out) (Kd.R_base ho0) hb); have n2_ := Aside0.mk (Kd.R_lower (Kd.R_new' ho0 (Kd.R_lt (zr HO487.out))) (below_size (zb HB.out))); have n3_ := Aside0.mk (blk_below (zh BK484.out) hb); have n4_ := Aside0.mk (below_step (zb HB.out) hb); clear HO482; clear HO487; clear BK484; clear HB; have HO482 := n0_; have HO487 := n1_; have HO490 := n2_; have BK484 := n3_; have HB := n4_; clear n0_ n1_ n2_ n3_ n4_; (try clear hb); (try clear hb2); (try clear hk); (try clear hi); (try clear ho0); obtain ⟨Ao20, co20, eo20⟩ := Kd.R_slice HO487.out; subst eo20; obtain ⟨Ao21, co21, eo21⟩ := Kd.R_slice HO490.out; subst eo21) | ((with_reducible refine gate_callee (f := 41) rfl ?_); refine goesL_ (some 25) rfl rfl Try.func41 (by kernel_rfl) rfl #[.slice Ao20 t485.length co20, .slice Ao21 t488.length co21] rfl zl ?_; (with_reducible refine (laws_sameInts.calls k _ _ t485 _ _ t488 true _ ?side1 ?side2 ?side3 ?side4 A7.out).mono ?_); (case side1 => exact zc (Kd.R_reads' HO487.out).2.2); (case side2 => exact (Kd.R_reads' HO487.out).2.1); (case side3 => exact zc (Kd.R_reads' HO490.out).2.2); (case side4 => exact (Kd.R_reads' HO490.out).2.1); rintro e w' ⟨rfl, ⟨nd, rfl⟩⟩; refine ⟨_, rfl, ?_⟩; have hcz22_0 : w19.cell? ⟨gb484, 0, none⟩ = some (.slice Ao15 t480.length co15) := (blk_cell BK484.out 0).trans rfl; have hfz22_0 := blk_frozen BK484.out 0) | ((with_reducible refine gate_callee (f := 36) rfl ?_); refine goesL_ (some 31) rfl rfl Try.func36 (by kernel_rfl) rfl #[.agg #[.slice Ao15 t480.length co15]] rfl zl ?_; (with_reducible refine (spec_PoolOk.calls k _ _ t480 true _ ?side1 ?side2 A10.out).mono ?_); (case side1 => exact zc (Kd.R_reads' HO482.out).2.2); (case side2 => exact (Kd.R_reads' HO482.out).2.1); rintro e w23 ⟨rfl, hb⟩; refine ⟨_, rfl, ?_⟩; have n0_ := Aside0.mk (Kd.R_below (zr HO482.out) hb); have n1_ := Aside0.mk (Kd.R_below (zr HO487.out) hb); have n2_ := Aside0.mk (Kd.R_below (zr HO490.out) hb); have n3_ := Aside0.mk (blk_below (zh BK484.out) hb); have n4_ := Aside0.mk (below_step (zb HB.out) hb); clear HO482; clear HO487; clear HO490; clear BK484; clear HB; have HO482 := n0_; have HO487 := n1_; have HO490 := n2_; have BK484 := n3_; have HB := n4_; clear n0_ n1_ n2_ n3_ n4_; (try clear hb); (try clear hb2); (try clear hk); (try clear hi)))
      go_ret
      exact ⟨ze, zb HB.out⟩
     ·rw [if_neg c12] at H
      have c12b0 : decide (t483 < 0) = false := decide_eq_false c12
      clear c12
      obtain rfl := Option.some.inj H
      go_enter Try.func10, Try.ntmps10
      go_wp2_with (first | ((with_reducible refine gate_callee (f := 34) rfl ?_); refine goesL_ (some 12) rfl rfl Try.func34 (by kernel_rfl) rfl #[.slice A0 l0.length c0] rfl zl ?_; (with_reducible refine (laws_big.calls _ _ l0 false _ ?side1 ?side2 A2.out).mono ?_); (case side1 => exact zc HR0.out); (case side2 => exact HC0.out); rintro e w' ⟨rfl, ⟨nd, rfl⟩⟩; refine ⟨_, rfl, ?_⟩) | ((with_reducible refine gate_callee (f := 40) rfl ?_); refine goesL_ (some 15) rfl rfl Try.func40 (by kernel_rfl) rfl #[.slice A0 l0.length c0] rfl zl ?_; (with_reducible refine (spec_DrawTermBelow.calls k _ _ l0 t480 t483 _ ?side1 ?side2 A4.out).mono ?_); (case side1 => exact zc HR0.out); (case side2 => exact HC0.out); rintro e w24 ⟨v481, rfl, ho0, hb⟩; refine ⟨_, rfl, ?_⟩; have n0_ := Aside0.mk (Kd.R_lower ho0 (below_size (zb HB.out))); have n1_ := Aside0.mk (below_step (zb HB.out) hb); clear HB; have HO482 := n0_; have HB := n1_; clear n0_ n1_; (try clear hb); (try clear hb2); (try clear hk); (try clear hi); (try clear ho0)) | ((with_reducible refine gate_dst (N := 3) rfl ?_); (try (refine gate_guard (by rfl) ?_; dsimp only)); refine box_event ?hg (N := 3) ?hd (cs := #[.slice none 0 0]) (t := 30) ?hr ?_; (case hd => rfl); (case hg => rfl); (case hr => first | (go_simp; done) | (go_simp; rfl)); intro gb484 hg w25 hbox hb; have n0_ := Aside0.mk (Kd.R_below (zr HO482.out) hb); have n1_ := Aside0.mk (below_step (zb HB.out) hb); have n2_ := Aside0.mk (hbox); have n3_ := Aside0.mk ((by rw [hg]; exact (below_size (zb HB.out)) : w.heap.size ≤ gb484)); have n4_ := Aside0.mk ((by rw [hg]; exact (below_size (zb HB.out)) : w.heap.size ≤ gb484)); clear HO482; clear HB; have HO482 := n0_; have HB := n1_; have BK484 := n2_; have GW484 := n3_; have GE484 := n4_; clear n0_ n1_ n2_ n3_ n4_; clear hb hbox hg; obtain ⟨Ao26, co26, eo26⟩ := Kd.R_slice HO482.out; subst eo26; have hcz27_0 : w25.cell? ⟨gb484, 0, none⟩ = some (.slice none 0 0) := (blk_cell BK484.out 0).trans rfl; have hfz27_0 := blk_frozen BK484.out 0) | ((with_reducible refine gate_callee (f := 33) rfl ?_); refine goesL_ (some 20) rfl rfl Try.func33 (by kernel_rfl) rfl #[.agg #[.slice Ao26 t480.length co26], .int .i64 t483] rfl zl ?_; (with_reducible refine (impl_TermBelow.calls k _ _ t480 t483 t485 _ ?side1 ?side2 A5.out).mono ?_); (case side1 => refine (Kd.R_reads' (e := 34) (base := w.heap.size) (ok := fun k_ => True) (n := t480.length) (c := co26) ?_).2.2; exact (by (with_reducible repeat (first | apply Kd.R_alloc | apply Kd.R_drewN | apply Kd.R_drew)); exact (Kd.R_mono (Kd.R_far (p := ⟨gb484, 0, none⟩) (Kd.R_types HO482.out BK484.out (by decide)) (fun _ hk => hk.2) (.slice Ao26 t480.length co26)) (fun _ h_ => h_.1)))); (case side2 => exact (Kd.R_reads' HO482.out).2.1); rintro e w28 ⟨v486, rfl, ho0, hb⟩; refine ⟨_, rfl, ?_⟩; have n0_ := Aside0.mk (Kd.R_below (by (with_reducible repeat (first | apply Kd.R_alloc | apply Kd.R_drewN | apply Kd.R_drew)); exact (Kd.R_mono (Kd.R_far (p := ⟨gb484, 0, none⟩) (Kd.R_types HO482.out BK484.out (by decide)) (fun _ hk => hk.2) (.slice Ao26 t480.length co26)) (fun _ h_ => h_.1))) hb); have n1_ := Aside0.mk (Kd.R_lower ho0 (below_size (zb HB.out))); have n2_ := Aside0.mk (blk_below (g := gb484) (o := .cells #[.slice Ao26 t480.length co26] 30 (0, 0)) (by (with_reducible repeat (first | refine blk_drewN ?_ _ | refine blk_drew ?_ | refine blk_alloc ?_ _)); refine blk_put (cs := #[.slice none 0 0]) ?_ 0 _ rfl; (with_reducible repeat (first | refine blk_drewN ?_ _ | refine blk_drew ?_ | refine blk_alloc ?_ _)); exact BK484.out) hb); have n3_ := Aside0.mk (below_step (zb HB.out) hb); clear HO482; clear BK484; clear HB; have HO482 := n0_; have HO487 := n1_; have BK484 := n2_; have HB := n3_; clear n0_ n1_ n2_ n3_; (try clear hb); (try clear hb2); (try clear hk); (try clear hi); (try clear ho0); have hcz29_0 : w28.cell? ⟨gb484, 0, none⟩ = some (.slice Ao26 t480.length co26) := (blk_cell BK484.out 0).trans rfl; have hfz29_0 := blk_frozen BK484.out 0) | ((with_reducible refine gate_callee (f := 32) rfl ?_); refine goesL_ (some 24) rfl rfl Try.func32 (by kernel_rfl) rfl #[.agg #[.slice Ao26 t480.length co26], .int .i64 t483] rfl zl ?_; (with_reducible refine (spec_TermBelow.calls k _ _ t480 t483 t488 _ ?side1 ?side2 A6.out).mono ?_); (case side1 => exact zc (Kd.R_reads' HO482.out).2.2); (case side2 => exact (Kd.R_reads' HO482.out).2.1); rintro e w30 ⟨v489, rfl, ho0, hb⟩; refine ⟨_, rfl, ?_⟩; have n0_ := Aside0.mk (Kd.R_below (zr HO482.out) hb); have n1_ := Aside0.mk (Kd.R_elder' (zr HO487.out) (Kd.R_base ho0) hb); have n2_ := Aside0.mk (Kd.R_lower (Kd.R_new' ho0 (Kd.R_lt (zr HO487.out))) (below_size (zb HB.out))); have n3_ := Aside0.mk (blk_below (zh BK484.out) hb); have n4_ := Aside0.mk (below_step (zb HB.out) hb); clear HO482; clear HO487; clear BK484; clear HB; have HO482 := n0_; have HO487 := n1_; have HO490 := n2_; have BK484 := n3_; have HB := n4_; clear n0_ n1_ n2_ n3_ n4_; (try clear hb); (try clear hb2); (try clear hk); (try clear hi); (try clear ho0); obtain ⟨Ao31, co31, eo31⟩ := Kd.R_slice HO487.out; subst eo31; obtain ⟨Ao32, co32, eo32⟩ := Kd.R_slice HO490.out; subst eo32) | ((with_reducible refine gate_callee (f := 41) rfl ?_); refine goesL_ (some 25) rfl rfl Try.func41 (by kernel_rfl) rfl #[.slice Ao31 t485.length co31, .slice Ao32 t488.length co32] rfl zl ?_; (with_reducible refine (laws_sameInts.calls k _ _ t485 _ _ t488 true _ ?side1 ?side2 ?side3 ?side4 A7.out).mono ?_); (case side1 => exact zc (Kd.R_reads' HO487.out).2.2); (case side2 => exact (Kd.R_reads' HO487.out).2.1); (case side3 => exact zc (Kd.R_reads' HO490.out).2.2); (case side4 => exact (Kd.R_reads' HO490.out).2.1); rintro e w' ⟨rfl, ⟨nd, rfl⟩⟩; refine ⟨_, rfl, ?_⟩; have hcz33_0 : w30.cell? ⟨gb484, 0, none⟩ = some (.slice Ao26 t480.length co26) := (blk_cell BK484.out 0).trans rfl; have hfz33_0 := blk_frozen BK484.out 0) | ((with_reducible refine gate_callee (f := 36) rfl ?_); refine goesL_ (some 31) rfl rfl Try.func36 (by kernel_rfl) rfl #[.agg #[.slice Ao26 t480.length co26]] rfl zl ?_; (with_reducible refine (spec_PoolOk.calls k _ _ t480 true _ ?side1 ?side2 A10.out).mono ?_); (case side1 => exact zc (Kd.R_reads' HO482.out).2.2); (case side2 => exact (Kd.R_reads' HO482.out).2.1); rintro e w34 ⟨rfl, hb⟩; refine ⟨_, rfl, ?_⟩; have n0_ := Aside0.mk (Kd.R_below (zr HO482.out) hb); have n1_ := Aside0.mk (Kd.R_below (zr HO487.out) hb); have n2_ := Aside0.mk (Kd.R_below (zr HO490.out) hb); have n3_ := Aside0.mk (blk_below (zh BK484.out) hb); have n4_ := Aside0.mk (below_step (zb HB.out) hb); clear HO482; clear HO487; clear HO490; clear BK484; clear HB; have HO482 := n0_; have HO487 := n1_; have HO490 := n2_; have BK484 := n3_; have HB := n4_; clear n0_ n1_ n2_ n3_ n4_; (try clear hb); (try clear hb2); (try clear hk); (try clear hi); have hcz35_0 : w34.cell? ⟨gb484, 0, none⟩ = some (.slice Ao26 t480.length co26) := (blk_cell BK484.out 0).trans rfl; have hfz35_0 := blk_frozen BK484.out 0))
      go_ret
      exact ⟨ze, zb HB.out⟩
    ·replace c11 := Bool.eq_false_iff.mpr c11
     subst c11
     have H1 : (some true) = some r := by rw [if_neg (show ¬ (false = true) by decide)] at H; exact H
     clear H
     have H := H1
     clear H1
     obtain rfl := Option.some.inj H
     go_enter Try.func10, Try.ntmps10
     go_wp2_with (first | ((with_reducible refine gate_callee (f := 34) rfl ?_); refine goesL_ (some 12) rfl rfl Try.func34 (by kernel_rfl) rfl #[.slice A0 l0.length c0] rfl zl ?_; (with_reducible refine (laws_big.calls _ _ l0 false _ ?side1 ?side2 A2.out).mono ?_); (case side1 => exact zc HR0.out); (case side2 => exact HC0.out); rintro e w' ⟨rfl, ⟨nd, rfl⟩⟩; refine ⟨_, rfl, ?_⟩) | ((with_reducible refine gate_callee (f := 40) rfl ?_); refine goesL_ (some 15) rfl rfl Try.func40 (by kernel_rfl) rfl #[.slice A0 l0.length c0] rfl zl ?_; (with_reducible refine (spec_DrawTermBelow.calls k _ _ l0 t480 t483 _ ?side1 ?side2 A4.out).mono ?_); (case side1 => exact zc HR0.out); (case side2 => exact HC0.out); rintro e w36 ⟨v481, rfl, ho0, hb⟩; refine ⟨_, rfl, ?_⟩; have n0_ := Aside0.mk (Kd.R_lower ho0 (below_size (zb HB.out))); have n1_ := Aside0.mk (below_step (zb HB.out) hb); clear HB; have HO482 := n0_; have HB := n1_; clear n0_ n1_; (try clear hb); (try clear hb2); (try clear hk); (try clear hi); (try clear ho0)) | ((with_reducible refine gate_dst (N := 3) rfl ?_); (try (refine gate_guard (by rfl) ?_; dsimp only)); refine box_event ?hg (N := 3) ?hd (cs := #[.slice none 0 0]) (t := 30) ?hr ?_; (case hd => rfl); (case hg => rfl); (case hr => first | (go_simp; done) | (go_simp; rfl)); intro gb484 hg w37 hbox hb; have n0_ := Aside0.mk (Kd.R_below (zr HO482.out) hb); have n1_ := Aside0.mk (below_step (zb HB.out) hb); have n2_ := Aside0.mk (hbox); have n3_ := Aside0.mk ((by rw [hg]; exact (below_size (zb HB.out)) : w.heap.size ≤ gb484)); have n4_ := Aside0.mk ((by rw [hg]; exact (below_size (zb HB.out)) : w.heap.size ≤ gb484)); clear HO482; clear HB; have HO482 := n0_; have HB := n1_; have BK484 := n2_; have GW484 := n3_; have GE484 := n4_; clear n0_ n1_ n2_ n3_ n4_; clear hb hbox hg; obtain ⟨Ao38, co38, eo38⟩ := Kd.R_slice HO482.out; subst eo38; have hcz39_0 : w37.cell? ⟨gb484, 0, none⟩ = some (.slice none 0 0) := (blk_cell BK484.out 0).trans rfl; have hfz39_0 := blk_frozen BK484.out 0) | ((with_reducible refine gate_callee (f := 33) rfl ?_); refine goesL_ (some 20) rfl rfl Try.func33 (by kernel_rfl) rfl #[.agg #[.slice Ao38 t480.length co38], .int .i64 t483] rfl zl ?_; (with_reducible refine (impl_TermBelow.calls k _ _ t480 t483 t485 _ ?side1 ?side2 A5.out).mono ?_); (case side1 => refine (Kd.R_reads' (e := 34) (base := w.heap.size) (ok := fun k_ => True) (n := t480.length) (c := co38) ?_).2.2; exact (by (with_reducible repeat (first | apply Kd.R_alloc | apply Kd.R_drewN | apply Kd.R_drew)); exact (Kd.R_mono (Kd.R_far (p := ⟨gb484, 0, none⟩) (Kd.R_types HO482.out BK484.out (by decide)) (fun _ hk => hk.2) (.slice Ao38 t480.length co38)) (fun _ h_ => h_.1)))); (case side2 => exact (Kd.R_reads' HO482.out).2.1); rintro e w40 ⟨v486, rfl, ho0, hb⟩; refine ⟨_, rfl, ?_⟩; have n0_ := Aside0.mk (Kd.R_below (by (with_reducible repeat (first | apply Kd.R_alloc | apply Kd.R_drewN | apply Kd.R_drew)); exact (Kd.R_mono (Kd.R_far (p := ⟨gb484, 0, none⟩) (Kd.R_types HO482.out BK484.out (by decide)) (fun _ hk => hk.2) (.slice Ao38 t480.length co38)) (fun _ h_ => h_.1))) hb); have n1_ := Aside0.mk (Kd.R_lower ho0 (below_size (zb HB.out))); have n2_ := Aside0.mk (blk_below (g := gb484) (o := .cells #[.slice Ao38 t480.length co38] 30 (0, 0)) (by (with_reducible repeat (first | refine blk_drewN ?_ _ | refine blk_drew ?_ | refine blk_alloc ?_ _)); refine blk_put (cs := #[.slice none 0 0]) ?_ 0 _ rfl; (with_reducible repeat (first | refine blk_drewN ?_ _ | refine blk_drew ?_ | refine blk_alloc ?_ _)); exact BK484.out) hb); have n3_ := Aside0.mk (below_step (zb HB.out) hb); clear HO482; clear BK484; clear HB; have HO482 := n0_; have HO487 := n1_; have BK484 := n2_; have HB := n3_; clear n0_ n1_ n2_ n3_; (try clear hb); (try clear hb2); (try clear hk); (try clear hi); (try clear ho0); have hcz41_0 : w40.cell? ⟨gb484, 0, none⟩ = some (.slice Ao38 t480.length co38) := (blk_cell BK484.out 0).trans rfl; have hfz41_0 := blk_frozen BK484.out 0) | ((with_reducible refine gate_callee (f := 32) rfl ?_); refine goesL_ (some 24) rfl rfl Try.func32 (by kernel_rfl) rfl #[.agg #[.slice Ao38 t480.length co38], .int .i64 t483] rfl zl ?_; (with_reducible refine (spec_TermBelow.calls k _ _ t480 t483 t488 _ ?side1 ?side2 A6.out).mono ?_); (case side1 => exact zc (Kd.R_reads' HO482.out).2.2); (case side2 => exact (Kd.R_reads' HO482.out).2.1); rintro e w42 ⟨v489, rfl, ho0, hb⟩; refine ⟨_, rfl, ?_⟩; have n0_ := Aside0.mk (Kd.R_below (zr HO482.out) hb); have n1_ := Aside0.mk (Kd.R_elder' (zr HO487.out) (Kd.R_base ho0) hb); have n2_ := Aside0.mk (Kd.R_lower (Kd.R_new' ho0 (Kd.R_lt (zr HO487.out))) (below_size (zb HB.out))); have n3_ := Aside0.mk (blk_below (zh BK484.out) hb); have n4_ := Aside0.mk (below_step (zb HB.out) hb); clear HO482; clear HO487; clear BK484; clear HB; have HO482 := n0_; have HO487 := n1_; have HO490 := n2_; have BK484 := n3_; have HB := n4_; clear n0_ n1_ n2_ n3_ n4_; (try clear hb); (try clear hb2); (try clear hk); (try clear hi); (try clear ho0); obtain ⟨Ao43, co43, eo43⟩ := Kd.R_slice HO487.out; subst eo43; obtain ⟨Ao44, co44, eo44⟩ := Kd.R_slice HO490.out; subst eo44) | ((with_reducible refine gate_callee (f := 41) rfl ?_); refine goesL_ (some 25) rfl rfl Try.func41 (by kernel_rfl) rfl #[.slice Ao43 t485.length co43, .slice Ao44 t488.length co44] rfl zl ?_; (with_reducible refine (laws_sameInts.calls k _ _ t485 _ _ t488 true _ ?side1 ?side2 ?side3 ?side4 A7.out).mono ?_); (case side1 => exact zc (Kd.R_reads' HO487.out).2.2); (case side2 => exact (Kd.R_reads' HO487.out).2.1); (case side3 => exact zc (Kd.R_reads' HO490.out).2.2); (case side4 => exact (Kd.R_reads' HO490.out).2.1); rintro e w' ⟨rfl, ⟨nd, rfl⟩⟩; refine ⟨_, rfl, ?_⟩; have hcz45_0 : w42.cell? ⟨gb484, 0, none⟩ = some (.slice Ao38 t480.length co38) := (blk_cell BK484.out 0).trans rfl; have hfz45_0 := blk_frozen BK484.out 0) | ((with_reducible refine gate_callee (f := 36) rfl ?_); refine goesL_ (some 31) rfl rfl Try.func36 (by kernel_rfl) rfl #[.agg #[.slice Ao38 t480.length co38]] rfl zl ?_; (with_reducible refine (spec_PoolOk.calls k _ _ t480 false _ ?side1 ?side2 A10.out).mono ?_); (case side1 => exact zc (Kd.R_reads' HO482.out).2.2); (case side2 => exact (Kd.R_reads' HO482.out).2.1); rintro e w46 ⟨rfl, hb⟩; refine ⟨_, rfl, ?_⟩; have n0_ := Aside0.mk (Kd.R_below (zr HO482.out) hb); have n1_ := Aside0.mk (Kd.R_below (zr HO487.out) hb); have n2_ := Aside0.mk (Kd.R_below (zr HO490.out) hb); have n3_ := Aside0.mk (blk_below (zh BK484.out) hb); have n4_ := Aside0.mk (below_step (zb HB.out) hb); clear HO482; clear HO487; clear HO490; clear BK484; clear HB; have HO482 := n0_; have HO487 := n1_; have HO490 := n2_; have BK484 := n3_; have HB := n4_; clear n0_ n1_ n2_ n3_ n4_; (try clear hb); (try clear hb2); (try clear hk); (try clear hi)))
     go_ret
     exact ⟨ze, zb HB.out⟩
   ·rw [if_neg c9] at H
    have c9b0 : ((t485.length : Int) == 0) = false := beq_eq_false_iff_ne.mpr c9
    have c9b1 : ((t485.length : Int) != 0) = true := bne_iff_ne.mpr c9
    have c9b2 : ¬ (t485 = []) := fun h_ => c9 (by rw [h_]; rfl)
    obtain ⟨y493, hy493⟩ : ∃ y_ : List Int, y_ = (([t483] : List Int)) := ⟨_, rfl⟩
    replace H : ((impl_PartsOf.f k t480 t483).bind fun t496 => (laws_FnBelow.l0 k t483 t485 y493 t496 0 t480)) = some r := by first | (rw [hy493]; with_reducible exact H) | (have H2_ := (Option.bind_some _ _).symm.trans H; rw [hy493]; with_reducible exact H2_) | (have H2_ := (Option.bind_some _ _).symm.trans H; with_reducible exact H2_) | with_reducible exact H | (rw [hy493]; exact H) | exact H
    have Ny493 := Aside0.mk hy493
    clear hy493
    replace H := Option.bind_eq_some_iff.mp H
    obtain ⟨t496, A470, H⟩ := H
    replace H : (laws_FnBelow.l0 k t483 t485 y493 t496 0 t480) = some r := H
    have A47 := Aside0.mk A470
    clear A470
    have H' := Aside0.mk H
    clear H
    go_enter Try.func10, Try.ntmps10
    go_wp2_with (first | ((with_reducible refine gate_callee (f := 34) rfl ?_); refine goesL_ (some 12) rfl rfl Try.func34 (by kernel_rfl) rfl #[.slice A0 l0.length c0] rfl zl ?_; (with_reducible refine (laws_big.calls _ _ l0 false _ ?side1 ?side2 A2.out).mono ?_); (case side1 => exact zc HR0.out); (case side2 => exact HC0.out); rintro e w' ⟨rfl, ⟨nd, rfl⟩⟩; refine ⟨_, rfl, ?_⟩) | ((with_reducible refine gate_callee (f := 40) rfl ?_); refine goesL_ (some 15) rfl rfl Try.func40 (by kernel_rfl) rfl #[.slice A0 l0.length c0] rfl zl ?_; (with_reducible refine (spec_DrawTermBelow.calls k _ _ l0 t480 t483 _ ?side1 ?side2 A4.out).mono ?_); (case side1 => exact zc HR0.out); (case side2 => exact HC0.out); rintro e w48 ⟨v481, rfl, ho0, hb⟩; refine ⟨_, rfl, ?_⟩; have n0_ := Aside0.mk (Kd.R_lower ho0 (below_size (zb HB.out))); have n1_ := Aside0.mk (below_step (zb HB.out) hb); clear HB; have HO482 := n0_; have HB := n1_; clear n0_ n1_; (try clear hb); (try clear hb2); (try clear hk); (try clear hi); (try clear ho0)) | ((with_reducible refine gate_dst (N := 3) rfl ?_); (try (refine gate_guard (by rfl) ?_; dsimp only)); refine box_event ?hg (N := 3) ?hd (cs := #[.slice none 0 0]) (t := 30) ?hr ?_; (case hd => rfl); (case hg => rfl); (case hr => first | (go_simp; done) | (go_simp; rfl)); intro gb484 hg w49 hbox hb; have n0_ := Aside0.mk (Kd.R_below (zr HO482.out) hb); have n1_ := Aside0.mk (below_step (zb HB.out) hb); have n2_ := Aside0.mk (hbox); have n3_ := Aside0.mk ((by rw [hg]; exact (below_size (zb HB.out)) : w.heap.size ≤ gb484)); have n4_ := Aside0.mk ((by rw [hg]; exact (below_size (zb HB.out)) : w.heap.size ≤ gb484)); clear HO482; clear HB; have HO482 := n0_; have HB := n1_; have BK484 := n2_; have GW484 := n3_; have GE484 := n4_; clear n0_ n1_ n2_ n3_ n4_; clear hb hbox hg; obtain ⟨Ao50, co50, eo50⟩ := Kd.R_slice HO482.out; subst eo50; have hcz51_0 : w49.cell? ⟨gb484, 0, none⟩ = some (.slice none 0 0) := (blk_cell BK484.out 0).trans rfl; have hfz51_0 := blk_frozen BK484.out 0) | ((with_reducible refine gate_callee (f := 33) rfl ?_); refine goesL_ (some 20) rfl rfl Try.func33 (by kernel_rfl) rfl #[.agg #[.slice Ao50 t480.length co50], .int .i64 t483] rfl zl ?_; (with_reducible refine (impl_TermBelow.calls k _ _ t480 t483 t485 _ ?side1 ?side2 A5.out).mono ?_); (case side1 => refine (Kd.R_reads' (e := 34) (base := w.heap.size) (ok := fun k_ => True) (n := t480.length) (c := co50) ?_).2.2; exact (by (with_reducible repeat (first | apply Kd.R_alloc | apply Kd.R_drewN | apply Kd.R_drew)); exact (Kd.R_mono (Kd.R_far (p := ⟨gb484, 0, none⟩) (Kd.R_types HO482.out BK484.out (by decide)) (fun _ hk => hk.2) (.slice Ao50 t480.length co50)) (fun _ h_ => h_.1)))); (case side2 => exact (Kd.R_reads' HO482.out).2.1); rintro e w52 ⟨v486, rfl, ho0, hb⟩; refine ⟨_, rfl, ?_⟩; have n0_ := Aside0.mk (Kd.R_below (by (with_reducible repeat (first | apply Kd.R_alloc | apply Kd.R_drewN | apply Kd.R_drew)); exact (Kd.R_mono (Kd.R_far (p := ⟨gb484, 0, none⟩) (Kd.R_types HO482.out BK484.out (by decide)) (fun _ hk => hk.2) (.slice Ao50 t480.length co50)) (fun _ h_ => h_.1))) hb); have n1_ := Aside0.mk (Kd.R_lower ho0 (below_size (zb HB.out))); have n2_ := Aside0.mk (blk_below (g := gb484) (o := .cells #[.slice Ao50 t480.length co50] 30 (0, 0)) (by (with_reducible repeat (first | refine blk_drewN ?_ _ | refine blk_drew ?_ | refine blk_alloc ?_ _)); refine blk_put (cs := #[.slice none 0 0]) ?_ 0 _ rfl; (with_reducible repeat (first | refine blk_drewN ?_ _ | refine blk_drew ?_ | refine blk_alloc ?_ _)); exact BK484.out) hb); have n3_ := Aside0.mk (below_step (zb HB.out) hb); clear HO482; clear BK484; clear HB; have HO482 := n0_; have HO487 := n1_; have BK484 := n2_; have HB := n3_; clear n0_ n1_ n2_ n3_; (try clear hb); (try clear hb2); (try clear hk); (try clear hi); (try clear ho0); have hcz53_0 : w52.cell? ⟨gb484, 0, none⟩ = some (.slice Ao50 t480.length co50) := (blk_cell BK484.out 0).trans rfl; have hfz53_0 := blk_frozen BK484.out 0) | ((with_reducible refine gate_callee (f := 32) rfl ?_); refine goesL_ (some 24) rfl rfl Try.func32 (by kernel_rfl) rfl #[.agg #[.slice Ao50 t480.length co50], .int .i64 t483] rfl zl ?_; (with_reducible refine (spec_TermBelow.calls k _ _ t480 t483 t488 _ ?side1 ?side2 A6.out).mono ?_); (case side1 => exact zc (Kd.R_reads' HO482.out).2.2); (case side2 => exact (Kd.R_reads' HO482.out).2.1); rintro e w54 ⟨v489, rfl, ho0, hb⟩; refine ⟨_, rfl, ?_⟩; have n0_ := Aside0.mk (Kd.R_below (zr HO482.out) hb); have n1_ := Aside0.mk (Kd.R_elder' (zr HO487.out) (Kd.R_base ho0) hb); have n2_ := Aside0.mk (Kd.R_lower (Kd.R_new' ho0 (Kd.R_lt (zr HO487.out))) (below_size (zb HB.out))); have n3_ := Aside0.mk (blk_below (zh BK484.out) hb); have n4_ := Aside0.mk (below_step (zb HB.out) hb); clear HO482; clear HO487; clear BK484; clear HB; have HO482 := n0_; have HO487 := n1_; have HO490 := n2_; have BK484 := n3_; have HB := n4_; clear n0_ n1_ n2_ n3_ n4_; (try clear hb); (try clear hb2); (try clear hk); (try clear hi); (try clear ho0); obtain ⟨Ao55, co55, eo55⟩ := Kd.R_slice HO487.out; subst eo55; obtain ⟨Ao56, co56, eo56⟩ := Kd.R_slice HO490.out; subst eo56) | ((with_reducible refine gate_callee (f := 41) rfl ?_); refine goesL_ (some 25) rfl rfl Try.func41 (by kernel_rfl) rfl #[.slice Ao55 t485.length co55, .slice Ao56 t488.length co56] rfl zl ?_; (with_reducible refine (laws_sameInts.calls k _ _ t485 _ _ t488 true _ ?side1 ?side2 ?side3 ?side4 A7.out).mono ?_); (case side1 => exact zc (Kd.R_reads' HO487.out).2.2); (case side2 => exact (Kd.R_reads' HO487.out).2.1); (case side3 => exact zc (Kd.R_reads' HO490.out).2.2); (case side4 => exact (Kd.R_reads' HO490.out).2.1); rintro e w' ⟨rfl, ⟨nd, rfl⟩⟩; refine ⟨_, rfl, ?_⟩) | ((with_reducible refine gate_dst (N := 45) rfl ?_); (try (refine gate_guard (by rfl) ?_; dsimp only)); refine Kd.R_lit (Kd.int .i64) _ 3 ?hg (N := 45) ?hd (xs := ([t483] : List Int)) (inner := [.int .i64 t483]) (ok := fun _ => True) (okp := fun _ => True) ?hr ?hp (fun _ hk => hk) trivial (Below.refl _ _) (Nat.le_refl _) (by simp) ?_; (case hd => rfl); (case hg => rfl); (case hr => first | (go_simp; done) | (go_simp; rfl)); (case hp => exact (Reps.one (show Kd.M (Kd.int .i64) _ _ _ t483 [.int .i64 t483] from rfl) (Reps.none _ _))); intro v494 w57 ho58 hb hg_ hnew_; clear hg_ hnew_; (first | rw [← Ny493.out] at ho58 | (simp only [Int.reduceToNat] at ho58; rw [← Ny493.out] at ho58)); have n0_ := Aside0.mk (Kd.R_below (zr HO482.out) hb); have n1_ := Aside0.mk (Kd.R_elder' (zr HO487.out) (Kd.R_base ho58) hb); have n2_ := Aside0.mk (Kd.R_elder' (zr HO490.out) (Kd.R_base ho58) hb); have n3_ := Aside0.mk (Kd.R_lower (Kd.R_new' (Kd.R_new' ho58 (Kd.R_lt (zr HO487.out))) (Kd.R_lt (zr HO490.out))) (below_size (zb HB.out))); have n4_ := Aside0.mk (blk_below (zh BK484.out) hb); have n5_ := Aside0.mk (below_step (zb HB.out) hb); clear HO482; clear HO487; clear HO490; clear BK484; clear HB; have HO482 := n0_; have HO487 := n1_; have HO490 := n2_; have HO495 := n3_; have BK484 := n4_; have HB := n5_; clear n0_ n1_ n2_ n3_ n4_ n5_; clear hb ho58; have hcz59_0 : w57.cell? ⟨gb484, 0, none⟩ = some (.slice Ao50 t480.length co50) := (blk_cell BK484.out 0).trans rfl; have hfz59_0 := blk_frozen BK484.out 0) | ((with_reducible refine gate_callee (f := 24) rfl ?_); refine goesL_ (some 48) rfl rfl Try.func24 (by kernel_rfl) rfl #[.agg #[.slice Ao50 t480.length co50], .int .i64 t483] rfl zl ?_; (with_reducible refine (impl_PartsOf.calls k _ _ t480 t483 t496 _ ?side1 ?side2 A47.out).mono ?_); (case side1 => exact zc (Kd.R_reads' HO482.out).2.2); (case side2 => exact (Kd.R_reads' HO482.out).2.1); rintro e w60 ⟨v497, rfl, ho0, hb⟩; refine ⟨_, rfl, ?_⟩; have n0_ := Aside0.mk (Kd.R_below (zr HO482.out) hb); have n1_ := Aside0.mk (Kd.R_elder' (zr HO487.out) (Kd.R_base ho0) hb); have n2_ := Aside0.mk (Kd.R_elder' (zr HO490.out) (Kd.R_base ho0) hb); have n3_ := Aside0.mk (Kd.R_elder' (zr HO495.out) (Kd.R_base ho0) hb); have n4_ := Aside0.mk (Kd.R_lower (Kd.R_new' (Kd.R_new' (Kd.R_new' ho0 (Kd.R_lt (zr HO487.out))) (Kd.R_lt (zr HO490.out))) (Kd.R_lt (zr HO495.out))) (below_size (zb HB.out))); have n5_ := Aside0.mk (blk_below (zh BK484.out) hb); have n6_ := Aside0.mk (below_step (zb HB.out) hb); clear HO482; clear HO487; clear HO490; clear HO495; clear BK484; clear HB; have HO482 := n0_; have HO487 := n1_; have HO490 := n2_; have HO495 := n3_; have HO498 := n4_; have BK484 := n5_; have HB := n6_; clear n0_ n1_ n2_ n3_ n4_ n5_ n6_; (try clear hb); (try clear hb2); (try clear hk); (try clear hi); (try clear ho0)))
    go_loopg [6, 8] k (fun kq v6 v8 w' => ∃ (x6_1 : List Int) (x8_1 : Int), v8 = .int .i64 x8_1 ∧ Aside0 (laws_FnBelow.l0 kq t483 t485 x6_1 t496 x8_1 t480 = some r) ∧ Aside0 (kq ≤ k) ∧ Aside0 (Kd.R (Kd.int .i64) 3 w' w.heap.size (fun k_ => some k_ ≠ (v6 : Value).ownBlock ∧ some k_ ≠ (v497 : Value).ownBlock) (.slice Ao55 t485.length co55) t485) ∧ Aside0 (Kd.R (Kd.int .i64) 3 w' w.heap.size (fun k_ => some k_ ≠ ((.slice Ao55 t485.length co55) : Value).ownBlock ∧ some k_ ≠ (v497 : Value).ownBlock) v6 x6_1) ∧ Aside0 (Kd.R (Kd.int .i64) 3 w' w.heap.size (fun k_ => some k_ ≠ ((.slice Ao55 t485.length co55) : Value).ownBlock ∧ some k_ ≠ (v6 : Value).ownBlock) v497 t496) ∧ Aside0 (Kd.R k34 34 w' w.heap.size (fun _ => True) (.slice Ao50 t480.length co50) t480) ∧ Aside0 (w'.heap[gb484]? = some (.cells #[(.slice Ao50 t480.length co50)] 30 (0, 0))) ∧ Aside0 (Below w.heap.size w w'))
    case atStart => exact ⟨(y493), (0), (by first | rfl | (simp; done) | (simp [*]; done)), H', ⟨Nat.le_refl _⟩, ⟨zr (Kd.R_mono HO487.out (fun _ hk => ⟨hk.1.2, hk.2⟩))⟩, ⟨zr (Kd.R_mono HO495.out (fun _ hk => ⟨hk.1.1.2, hk.2⟩))⟩, ⟨zr (Kd.R_mono HO498.out (fun _ hk => ⟨hk.1.1.2, hk.2⟩))⟩, ⟨zr HO482.out⟩, ⟨zh BK484.out⟩, ⟨zb HB.out⟩⟩
    case round =>
     clear H'
     try clear c1
     try clear c2
     try clear p2
     try clear c3
     try clear c4
     try clear c8
     try clear c9
     try clear c9b0
     try clear c9b1
     try clear c9b2
     try clear c10
     try clear c11
     try clear c12
     try clear c12b0
     try clear c24
     try clear c32
     try clear c33
     try clear c34
     try clear c36
     try clear c40
     try clear c41
     try clear hcz16_0
     try clear hcz18_0
     try clear hcz22_0
     try clear hcz27_0
     try clear hcz29_0
     try clear hcz33_0
     try clear hcz35_0
     try clear hcz39_0
     try clear hcz41_0
     try clear hcz45_0
     try clear hcz51_0
     try clear hcz53_0
     try clear hcz59_0
     try clear hfz16_0
     try clear hfz18_0
     try clear hfz22_0
     try clear hfz27_0
     try clear hfz29_0
     try clear hfz33_0
     try clear hfz35_0
     try clear hfz39_0
     try clear hfz41_0
     try clear hfz45_0
     try clear hfz51_0
     try clear hfz53_0
     try clear hfz59_0
     obtain ⟨x6_1, x8_1, rfl, HA, HK1, HO_5, HO_6, HO_7, HO_485000, BK484, HB⟩ := hrel
     cases gk with
     | zero => exact absurd HA.out (by simp [laws_FnBelow.l0])
     | succ k1 =>
      have H := HA.out
      clear HA
      simp only [laws_FnBelow.l0] at H
      by_cases c61 : x8_1 < (t496.length : Int)
      ·rw [if_pos c61] at H
       have c61b0 : decide (x8_1 < (t496.length : Int)) = true := decide_eq_true c61
       clear c61
       by_cases c62 : 0 ≤ x8_1
       ·rw [if_pos c62] at H
        have c62b0 : decide (0 ≤ x8_1) = true := decide_eq_true c62
        clear c62
        replace H := Option.bind_eq_some_iff.mp H
        obtain ⟨t501, A630, H⟩ := H
        replace H : (laws_FnBelow.l1 k1 t483 t485 x6_1 t496 x8_1 t501 0 t480) = some r := H
        have A63 := Aside0.mk A630
        clear A630
        have H' := Aside0.mk H
        clear H
        obtain ⟨Ao64, co64, eo64⟩ := Kd.R_slice HO_7.out
        subst eo64
        try go_wp2
        have n0_ := Aside0.mk (Kd.R_drew HO_5.out)
        have n1_ := Aside0.mk (Kd.R_drew HO_6.out)
        have n2_ := Aside0.mk (Kd.R_drew HO_7.out)
        have n3_ := Aside0.mk (Kd.R_drew HO_485000.out)
        have n4_ := Aside0.mk (blk_drew BK484.out)
        have n5_ := Aside0.mk (below_drew1 HB.out)
        clear HO_5
        clear HO_6
        clear HO_7
        clear HO_485000
        clear BK484
        clear HB
        have HO_5 := n0_
        have HO_6 := n1_
        have HO_7 := n2_
        have HO_485000 := n3_
        have BK484 := n4_
        have HB := n5_
        clear n0_ n1_ n2_ n3_ n4_ n5_
        have p500 : 0 ≤ (x8_1 : Int) := of_decide_eq_true (by first | (with_reducible assumption) | assumption)
        have q500 : x8_1 < (t496.length : Int) := of_decide_eq_true (by first | (with_reducible assumption) | assumption)
        obtain ⟨ad500, e500, hx500_0⟩ := Kd.at_int (Kd.R_reads' HO_7.out).2.2 x8_1 p500 q500
        cases e500
        replace p500 := eq_true p500
        replace q500 := eq_true q500
        refine start_ (n := 7) (S := fun w' => w'.cell? ⟨gb484, 0, none⟩ = some (.slice Ao50 t480.length co50) ∧ w'.cell? (ad500.add (x8_1).toNat) = some (.int .i64 (rd t496 x8_1))) (ds := []) #[false, false, false, false, false, false, false] (by kernel_rfl) rfl rfl ⟨(blk_cell BK484.out 0).trans rfl, hx500_0⟩ (fun hHeld => ?_)
        generalize wr.drew = w65 at HO_5 HO_6 HO_7 HO_485000 BK484 HB hx500_0 hHeld ⊢
        refine pure_ (i := 1) (N := some 56) (v := ?_) (a' := ?_) #[false, true, false, false, false, false, false] rfl rfl (by kernel_rfl) (fun _ _ _ h => h) (Or.inl ⟨by rfl, ?_⟩) ?_ ?_
        rotate_left
        ·intro w'
         go_simp
         with_reducible rfl
        rotate_left
        ·simp only [Act.put, List.setIfInBounds_toArray, List.set_cons_zero, List.set_cons_succ, i64_w, i32_w]
         rfl
        refine pure_ (i := 2) (N := some 57) (v := ?_) (a' := ?_) #[false, true, true, false, false, false, false] rfl rfl (by kernel_rfl) (fun _ _ _ h => h) (Or.inl ⟨by rfl, ?_⟩) ?_ ?_
        rotate_left
        ·intro w'
         go_simp
         with_reducible rfl
        rotate_left
        ·simp only [Act.put, List.setIfInBounds_toArray, List.set_cons_zero, List.set_cons_succ, i64_w, i32_w]
         rfl
        refine pure_ (i := 3) (N := some 58) (v := ?_) (a' := ?_) #[false, true, true, true, false, false, false] rfl rfl (by kernel_rfl) (fun _ _ _ h => h) (Or.inl ⟨by rfl, ?_⟩) ?_ ?_
        rotate_left
        ·intro w'
         go_simp
         with_reducible rfl
        rotate_left
        ·simp only [Act.put, List.setIfInBounds_toArray, List.set_cons_zero, List.set_cons_succ, i64_w, i32_w]
         rfl
        refine take_ (i := 0) (N := some 55) (v := ?_) (a' := ?_) #[true, true, true, true, false, false, false] rfl rfl (by kernel_rfl) (fun _ _ _ h => h) (Or.inl ⟨by rfl, ?_⟩) hHeld ?_ ?_
        rotate_left
        ·rintro w' ⟨s0, s1⟩
         go_simp
         with_reducible rfl
        rotate_left
        ·simp only [Act.put, List.setIfInBounds_toArray, List.set_cons_zero, List.set_cons_succ, i64_w, i32_w]
         rfl
        refine take_ (i := 4) (N := some 59) (v := ?_) (a' := ?_) #[true, true, true, true, true, false, false] rfl rfl (by kernel_rfl) (fun _ _ _ h => h) (Or.inl ⟨by rfl, ?_⟩) hHeld ?_ ?_
        rotate_left
        ·rintro w' ⟨s0, s1⟩
         go_simp
         with_reducible rfl
        rotate_left
        ·simp only [Act.put, List.setIfInBounds_toArray, List.set_cons_zero, List.set_cons_succ, i64_w, i32_w]
         rfl
        refine one_ (i := 5) (N := some 60) #[true, true, true, true, true, true, false] rfl rfl (by kernel_rfl) (by decide) (fun K hK => ?_)
        refine goes_ Try.func33 (by kernel_rfl) rfl #[.agg #[.slice Ao50 t480.length co50], .int .i64 (rd t496 x8_1)] (by rfl) rfl rfl zl ?_
        with_reducible refine (impl_TermBelow.calls k1 _ _ t480 (rd t496 x8_1) t501 _ ?side1 ?side2 A63.out).mono ?_
        (case side1 => exact zc (Kd.R_reads' HO_485000.out).2.2)
        (case side2 => exact (Kd.R_reads' HO_485000.out).2.1)
        rintro e w66 ⟨v502, rfl, ho0, hb⟩
        have HS1_ := (hb.cell (World.block_lt_of_cell? _ _ (hHeld.2))).trans (hHeld.2)
        refine ⟨_, rfl, ?_⟩
        have n0_ := Aside0.mk (Kd.R_elder' (zr HO_5.out) (Kd.R_base ho0) hb)
        have n1_ := Aside0.mk (Kd.R_elder' (zr HO_6.out) (Kd.R_base ho0) hb)
        have n2_ := Aside0.mk (Kd.R_elder' (zr HO_7.out) (Kd.R_base ho0) hb)
        have n3_ := Aside0.mk (Kd.R_below (zr HO_485000.out) hb)
        have n4_ := Aside0.mk (Kd.R_lower (Kd.R_new' (Kd.R_new' (Kd.R_new' ho0 (Kd.R_lt (zr HO_5.out))) (Kd.R_lt (zr HO_6.out))) (Kd.R_lt (zr HO_7.out))) (below_size (zb HB.out)))
        have n5_ := Aside0.mk (blk_below (zh BK484.out) hb)
        have n6_ := Aside0.mk (below_step (zb HB.out) hb)
        clear HO_5
        clear HO_6
        clear HO_7
        clear HO_485000
        clear BK484
        clear HB
        have HO_5 := n0_
        have HO_6 := n1_
        have HO_7 := n2_
        have HO_485000 := n3_
        have HO503 := n4_
        have BK484 := n5_
        have HB := n6_
        clear n0_ n1_ n2_ n3_ n4_ n5_ n6_
        (try clear hb)
        (try clear hb2)
        (try clear hk)
        (try clear hi)
        (try clear ho0)
        refine hK.out _ _ ⟨(blk_cell BK484.out 0).trans rfl, HS1_⟩ (fun hHeld => ?_)
        clear hK K
        refine norm_ (a' := ?_) ?_ ?_
        rotate_left
        ·show Act.put _ (some 60) _ = _
         simp only [Act.put, List.setIfInBounds_toArray, List.set_cons_zero, List.set_cons_succ, i64_w, i32_w]
         rfl
        refine pure_ (i := 6) (N := some 9) (v := ?_) (a' := ?_) #[true, true, true, true, true, true, true] rfl rfl (by kernel_rfl) (fun _ _ _ h => h) (Or.inl ⟨by rfl, ?_⟩) ?_ ?_
        rotate_left
        ·intro w'
         go_simp
         with_reducible rfl
        rotate_left
        ·simp only [Act.put, List.setIfInBounds_toArray, List.set_cons_zero, List.set_cons_succ, i64_w, i32_w]
         rfl
        refine done_ (by kernel_rfl) ?_
        try go_wp2
        go_loopg [6, 10] k1 (fun kq v6 v10 w' => ∃ (x6_2 : List Int) (x10_2 : Int), v10 = .int .i64 x10_2 ∧ Aside0 (laws_FnBelow.l1 kq t483 t485 x6_2 t496 x8_1 t501 x10_2 t480 = some r) ∧ Aside0 (kq ≤ k1) ∧ Aside0 (Kd.R (Kd.int .i64) 3 w' w.heap.size (fun k_ => some k_ ≠ (v6 : Value).ownBlock ∧ some k_ ≠ ((.slice (some ad500) t496.length co64) : Value).ownBlock ∧ some k_ ≠ (v502 : Value).ownBlock) (.slice Ao55 t485.length co55) t485) ∧ Aside0 (Kd.R (Kd.int .i64) 3 w' w.heap.size (fun k_ => some k_ ≠ ((.slice Ao55 t485.length co55) : Value).ownBlock ∧ some k_ ≠ ((.slice (some ad500) t496.length co64) : Value).ownBlock ∧ some k_ ≠ (v502 : Value).ownBlock) v6 x6_2) ∧ Aside0 (Kd.R (Kd.int .i64) 3 w' w.heap.size (fun k_ => some k_ ≠ ((.slice Ao55 t485.length co55) : Value).ownBlock ∧ some k_ ≠ (v6 : Value).ownBlock ∧ some k_ ≠ (v502 : Value).ownBlock) (.slice (some ad500) t496.length co64) t496) ∧ Aside0 (Kd.R (Kd.int .i64) 3 w' w.heap.size (fun k_ => some k_ ≠ ((.slice Ao55 t485.length co55) : Value).ownBlock ∧ some k_ ≠ (v6 : Value).ownBlock ∧ some k_ ≠ ((.slice (some ad500) t496.length co64) : Value).ownBlock) v502 t501) ∧ Aside0 (Kd.R k34 34 w' w.heap.size (fun _ => True) (.slice Ao50 t480.length co50) t480) ∧ Aside0 (w'.heap[gb484]? = some (.cells #[(.slice Ao50 t480.length co50)] 30 (0, 0))) ∧ Aside0 (Below w.heap.size w w'))
        case atStart => exact ⟨(x6_1), (0), (by first | rfl | (simp; done) | (simp [*]; done)), H', ⟨Nat.le_refl _⟩, ⟨zr (Kd.R_mono HO_5.out (fun _ hk => ⟨hk.1.1, ⟨hk.1.2, hk.2⟩⟩))⟩, ⟨zr (Kd.R_mono HO_6.out (fun _ hk => ⟨hk.1.1, ⟨hk.1.2, hk.2⟩⟩))⟩, ⟨zr (Kd.R_mono HO_7.out (fun _ hk => ⟨hk.1.1, ⟨hk.1.2, hk.2⟩⟩))⟩, ⟨zr (Kd.R_mono HO503.out (fun _ hk => ⟨hk.1.1.2, ⟨hk.1.2, hk.2⟩⟩))⟩, ⟨zr HO_485000.out⟩, ⟨zh BK484.out⟩, ⟨zb HB.out⟩⟩
        case round =>
         clear H'
         try clear c1
         try clear c2
         try clear p2
         try clear c3
         try clear c4
         try clear p5
         try clear q5
         try clear hx5
         try clear c6
         try clear c8
         try clear c9
         try clear c9b0
         try clear c9b1
         try clear c9b2
         try clear c10
         try clear c11
         try clear c12
         try clear c12b0
         try clear c24
         try clear c32
         try clear c33
         try clear c34
         try clear c36
         try clear c40
         try clear c41
         try clear p50
         try clear q50
         try clear hx50
         try clear c61
         try clear c61b0
         try clear c62
         try clear c62b0
         try clear hcz16_0
         try clear hcz18_0
         try clear hcz22_0
         try clear hcz27_0
         try clear hcz29_0
         try clear hcz33_0
         try clear hcz35_0
         try clear hcz39_0
         try clear hcz41_0
         try clear hcz45_0
         try clear hcz51_0
         try clear hcz53_0
         try clear hcz59_0
         try clear hfz16_0
         try clear hfz18_0
         try clear hfz22_0
         try clear hfz27_0
         try clear hfz29_0
         try clear hfz33_0
         try clear hfz35_0
         try clear hfz39_0
         try clear hfz41_0
         try clear hfz45_0
         try clear hfz51_0
         try clear hfz53_0
         try clear hfz59_0
         try clear hx500_0
         try clear p2
         try clear p500
         try clear q500
         obtain ⟨x6_2, x10_2, rfl, HA, HK2, HO_5, HO_6, HO_7, HO_9, HO_485000, BK484, HB⟩ := hrel
         cases gk with
         | zero => exact absurd HA.out (by simp [laws_FnBelow.l1])
         | succ k2 =>
          have H := HA.out
          clear HA
          simp only [laws_FnBelow.l1] at H
          by_cases c67 : x10_2 < (t501.length : Int)
          ·rw [if_pos c67] at H
           have c67b0 : decide (x10_2 < (t501.length : Int)) = true := decide_eq_true c67
           clear c67
           by_cases c68 : 0 ≤ x10_2
           ·rw [if_pos c68] at H
            have c68b0 : decide (0 ≤ x10_2) = true := decide_eq_true c68
            clear c68
            replace H := Option.bind_eq_some_iff.mp H
            obtain ⟨t505, A690, H⟩ := H
            replace H : (if t505 = true then ((laws_within.f k2 x6_2 (rd t501 x10_2)).bind fun t507 => (if t507 = true then (laws_FnBelow.l1 k2 t483 t485 x6_2 t496 x8_1 t501 (wrap64 (x10_2 + 1)) t480) else (if x6_2.length < 17592186044416 then (laws_FnBelow.l1 k2 t483 t485 (x6_2 ++ [rd t501 x10_2]) t496 x8_1 t501 (wrap64 (x10_2 + 1)) t480) else (none)))) else (some false)) = some r := H
            have A69 := Aside0.mk A690
            clear A690
            by_cases c70 : t505 = true
            ·subst c70
             have H1 : ((laws_within.f k2 x6_2 (rd t501 x10_2)).bind fun t507 => (if t507 = true then (laws_FnBelow.l1 k2 t483 t485 x6_2 t496 x8_1 t501 (wrap64 (x10_2 + 1)) t480) else (if x6_2.length < 17592186044416 then (laws_FnBelow.l1 k2 t483 t485 (x6_2 ++ [rd t501 x10_2]) t496 x8_1 t501 (wrap64 (x10_2 + 1)) t480) else (none)))) = some r := by rw [if_pos rfl] at H; exact H
             clear H
             have H := H1
             clear H1
             replace H := Option.bind_eq_some_iff.mp H
             obtain ⟨t507, A710, H⟩ := H
             replace H : (if t507 = true then (laws_FnBelow.l1 k2 t483 t485 x6_2 t496 x8_1 t501 (wrap64 (x10_2 + 1)) t480) else (if x6_2.length < 17592186044416 then (laws_FnBelow.l1 k2 t483 t485 (x6_2 ++ [rd t501 x10_2]) t496 x8_1 t501 (wrap64 (x10_2 + 1)) t480) else (none))) = some r := H
             have A71 := Aside0.mk A710
             clear A710
             by_cases c72 : t507 = true
             ·subst c72
              have H1 : (laws_FnBelow.l1 k2 t483 t485 x6_2 t496 x8_1 t501 (wrap64 (x10_2 + 1)) t480) = some r := by rw [if_pos rfl] at H; exact H
              clear H
              have H := H1
              clear H1
              have H' := Aside0.mk H
              clear H
              obtain ⟨Ao73, co73, eo73⟩ := Kd.R_slice HO_9.out
              subst eo73
              have p504 : 0 ≤ (x10_2 : Int) := of_decide_eq_true (by first | (with_reducible assumption) | assumption)
              have q504 : x10_2 < (t501.length : Int) := of_decide_eq_true (by first | (with_reducible assumption) | assumption)
              obtain ⟨ad504, e504, hx504_0⟩ := Kd.at_int (Kd.R_reads' HO_9.out).2.2 x10_2 p504 q504
              cases e504
              replace p504 := eq_true p504
              replace q504 := eq_true q504
              go_wp2_with (first | ((with_reducible refine gate_callee (f := 42) rfl ?_); refine goesL_ (some 72) rfl rfl Try.func42 (by kernel_rfl) rfl #[.slice Ao55 t485.length co55, .int .i64 (rd t501 x10_2)] rfl zl ?_; (with_reducible refine (laws_within.calls k2 _ _ t485 (rd t501 x10_2) true _ ?side1 ?side2 A69.out).mono ?_); (case side1 => exact zc (Kd.R_reads' HO_5.out).2.2); (case side2 => exact (Kd.R_reads' HO_5.out).2.1); rintro e w' ⟨rfl, ⟨nd, rfl⟩⟩; refine ⟨_, rfl, ?_⟩; have p506 : 0 ≤ (x10_2 : Int) := of_decide_eq_true (by first | (with_reducible assumption) | assumption); have q506 : x10_2 < (t501.length : Int) := of_decide_eq_true (by first | (with_reducible assumption) | assumption); obtain ⟨ad506, e506, hx506_0⟩ := Kd.at_int (Kd.R_reads' HO_9.out).2.2 x10_2 p506 q506; obtain rfl : ad504 = ad506 := (by injection e506); replace p506 := eq_true p506; replace q506 := eq_true q506; obtain ⟨Ao74, co74, eo74⟩ := Kd.R_slice HO_6.out; subst eo74) | ((with_reducible refine gate_callee (f := 42) rfl ?_); refine goesL_ (some 79) rfl rfl Try.func42 (by kernel_rfl) rfl #[.slice Ao74 x6_2.length co74, .int .i64 (rd t501 x10_2)] rfl zl ?_; (with_reducible refine (laws_within.calls k2 _ _ x6_2 (rd t501 x10_2) true _ ?side1 ?side2 A71.out).mono ?_); (case side1 => exact zc (Kd.R_reads' HO_6.out).2.2); (case side2 => exact (Kd.R_reads' HO_6.out).2.1); rintro e w' ⟨rfl, ⟨nd, rfl⟩⟩; refine ⟨_, rfl, ?_⟩))
              go_roundg k2
              case measure => have := HK1.out; have := HK2.out; omega
              case rel => exact ⟨(x6_2), (wrap64 (x10_2 + 1)), (by first | rfl | (simp; done) | (simp [*]; done)), H', ⟨by have := HK1.out; have := HK2.out; omega⟩, ⟨zr HO_5.out⟩, ⟨zr HO_6.out⟩, ⟨zr HO_7.out⟩, ⟨zr HO_9.out⟩, ⟨zr HO_485000.out⟩, ⟨zh BK484.out⟩, ⟨zb HB.out⟩⟩
             ·replace c72 := Bool.eq_false_iff.mpr c72
              subst c72
              have H1 : (if x6_2.length < 17592186044416 then (laws_FnBelow.l1 k2 t483 t485 (x6_2 ++ [rd t501 x10_2]) t496 x8_1 t501 (wrap64 (x10_2 + 1)) t480) else (none)) = some r := by rw [if_neg (show ¬ (false = true) by decide)] at H; exact H
              clear H
              have H := H1
              clear H1
              by_cases c75 : x6_2.length < 17592186044416
              ·rw [if_pos c75] at H
               have LMc75 := Aside0.mk c75
               clear c75
               obtain ⟨y509, hy509⟩ : ∃ y_ : List Int, y_ = (x6_2 ++ [rd t501 x10_2]) := ⟨_, rfl⟩
               replace H : (laws_FnBelow.l1 k2 t483 t485 y509 t496 x8_1 t501 (wrap64 (x10_2 + 1)) t480) = some r := by first | (rw [hy509]; with_reducible exact H) | (have H2_ := (Option.bind_some _ _).symm.trans H; rw [hy509]; with_reducible exact H2_) | (have H2_ := (Option.bind_some _ _).symm.trans H; with_reducible exact H2_) | with_reducible exact H | (rw [hy509]; exact H) | exact H
               have Ny509 := Aside0.mk hy509
               clear hy509
               have H' := Aside0.mk H
               clear H
               obtain ⟨Ao76, co76, eo76⟩ := Kd.R_slice HO_9.out
               subst eo76
               have p504 : 0 ≤ (x10_2 : Int) := of_decide_eq_true (by first | (with_reducible assumption) | assumption)
               have q504 : x10_2 < (t501.length : Int) := of_decide_eq_true (by first | (with_reducible assumption) | assumption)
               obtain ⟨ad504, e504, hx504_0⟩ := Kd.at_int (Kd.R_reads' HO_9.out).2.2 x10_2 p504 q504
               cases e504
               replace p504 := eq_true p504
               replace q504 := eq_true q504
               go_wp2_with (first | ((with_reducible refine gate_callee (f := 42) rfl ?_); refine goesL_ (some 72) rfl rfl Try.func42 (by kernel_rfl) rfl #[.slice Ao55 t485.length co55, .int .i64 (rd t501 x10_2)] rfl zl ?_; (with_reducible refine (laws_within.calls k2 _ _ t485 (rd t501 x10_2) true _ ?side1 ?side2 A69.out).mono ?_); (case side1 => exact zc (Kd.R_reads' HO_5.out).2.2); (case side2 => exact (Kd.R_reads' HO_5.out).2.1); rintro e w' ⟨rfl, ⟨nd, rfl⟩⟩; refine ⟨_, rfl, ?_⟩; have p506 : 0 ≤ (x10_2 : Int) := of_decide_eq_true (by first | (with_reducible assumption) | assumption); have q506 : x10_2 < (t501.length : Int) := of_decide_eq_true (by first | (with_reducible assumption) | assumption); obtain ⟨ad506, e506, hx506_0⟩ := Kd.at_int (Kd.R_reads' HO_9.out).2.2 x10_2 p506 q506; obtain rfl : ad504 = ad506 := (by injection e506); replace p506 := eq_true p506; replace q506 := eq_true q506; obtain ⟨Ao77, co77, eo77⟩ := Kd.R_slice HO_6.out; subst eo77) | ((with_reducible refine gate_callee (f := 42) rfl ?_); refine goesL_ (some 79) rfl rfl Try.func42 (by kernel_rfl) rfl #[.slice Ao77 x6_2.length co77, .int .i64 (rd t501 x10_2)] rfl zl ?_; (with_reducible refine (laws_within.calls k2 _ _ x6_2 (rd t501 x10_2) false _ ?side1 ?side2 A71.out).mono ?_); (case side1 => exact zc (Kd.R_reads' HO_6.out).2.2); (case side2 => exact (Kd.R_reads' HO_6.out).2.1); rintro e w' ⟨rfl, ⟨nd, rfl⟩⟩; refine ⟨_, rfl, ?_⟩; have p508 : 0 ≤ (x10_2 : Int) := of_decide_eq_true (by first | (with_reducible assumption) | assumption); have q508 : x10_2 < (t501.length : Int) := of_decide_eq_true (by first | (with_reducible assumption) | assumption); obtain ⟨ad508, e508, hx508_0⟩ := Kd.at_int (Kd.R_reads' HO_9.out).2.2 x10_2 p508 q508; obtain rfl : ad504 = ad508 := (by injection e508); replace p508 := eq_true p508; replace q508 := eq_true q508) | ((with_reducible refine gate_builtin (b := .append) (xs := #[.tmp 81, .tmp 86]) rfl ?_); (try (refine gate_guard (by rfl) ?_; dsimp only)); at_builtin; refine Kd.R_append (Kd.int .i64) (w0 := w) w.heap.size rfl (.tmp 81) (.tmp 86) 39 3 (.int .i64 0) 8 rfl Try.underlying39 info3 rfl (by decide) (by omega) (.slice Ao77 x6_2.length co77) x6_2 (rd t501 x10_2) [.int .i64 (rd t501 x10_2)] (fun k_ => some k_ ≠ (.slice Ao55 t485.length co55 : Value).ownBlock ∧ some k_ ≠ (.slice (some ad500) t496.length co64 : Value).ownBlock ∧ some k_ ≠ (.slice (some ad504) t501.length co76 : Value).ownBlock) (fun _ => False) rfl rfl ?aP (fun _ hk => hk.elim) ?aF ?aO ?aB ?aS ?aL ?_; (case aP => exact rfl); (case aB => exact (zb HB.out)); (case aF => exact (fun k_ hk => ⟨Kd.fresh' (Kd.R_lt (zr HO_5.out)) k_ hk, Kd.fresh' (Kd.R_lt (zr HO_7.out)) k_ hk, Kd.fresh' (Kd.R_lt (zr HO_9.out)) k_ hk⟩)); (case aO => exact (zr HO_6.out)); (case aS => exact (below_size (zb HB.out))); (case aL => have := LMc75.out; omega); intro v510 w78 ho hb hg hat; rw [← Ny509.out] at ho; have n0_ := Aside0.mk (Kd.R_after (ok := (fun k_ => some k_ ≠ (.slice (some ad500) t496.length co64 : Value).ownBlock ∧ some k_ ≠ (.slice (some ad504) t501.length co76 : Value).ownBlock)) (by (with_reducible repeat (first | apply Kd.R_alloc | apply Kd.R_drewN | apply Kd.R_drew)); exact Kd.R_mono HO_5.out (fun _ hk => ⟨⟨hk.2.1, hk.2.2⟩, hk.1⟩)) hg hat); have n1_ := Aside0.mk (Kd.R_after (ok := (fun k_ => some k_ ≠ (.slice Ao55 t485.length co55 : Value).ownBlock ∧ some k_ ≠ (.slice (some ad504) t501.length co76 : Value).ownBlock)) (by (with_reducible repeat (first | apply Kd.R_alloc | apply Kd.R_drewN | apply Kd.R_drew)); exact Kd.R_mono HO_7.out (fun _ hk => ⟨⟨hk.1, hk.2.2⟩, hk.2.1⟩)) hg hat); have n2_ := Aside0.mk (Kd.R_after (ok := (fun k_ => some k_ ≠ (.slice Ao55 t485.length co55 : Value).ownBlock ∧ some k_ ≠ (.slice (some ad500) t496.length co64 : Value).ownBlock)) (by (with_reducible repeat (first | apply Kd.R_alloc | apply Kd.R_drewN | apply Kd.R_drew)); exact Kd.R_mono HO_9.out (fun _ hk => ⟨⟨hk.1, hk.2.2⟩, hk.2.1⟩)) hg hat); have n3_ := Aside0.mk (Kd.R_over' (zr HO_485000.out) (Kd.R_typed (zr HO_6.out)) (by decide) hg); have n4_ := Aside0.mk (blk_grown (zh BK484.out) hg (Kd.R_ne HO_6.out BK484.out (by decide))); have n5_ := Aside0.mk (hb); have n6_ := Aside0.mk (ho); clear HO_5; clear HO_7; clear HO_9; clear HO_485000; clear BK484; clear HB; clear HO_6; have HO_5 := n0_; have HO_7 := n1_; have HO_9 := n2_; have HO_485000 := n3_; have BK484 := n4_; have HB := n5_; have HO511 := n6_; clear n0_ n1_ n2_ n3_ n4_ n5_ n6_; clear ho hb hg hat))
               go_roundg k2
               case measure => have := HK1.out; have := HK2.out; omega
               case rel => exact ⟨(y509), (wrap64 (x10_2 + 1)), (by first | rfl | (simp; done) | (simp [*]; done)), H', ⟨by have := HK1.out; have := HK2.out; omega⟩, ⟨zr (Kd.R_mono HO_5.out (fun _ hk => ⟨hk.2, ⟨hk.1.1, hk.1.2⟩⟩))⟩, ⟨zr HO511.out⟩, ⟨zr (Kd.R_mono HO_7.out (fun _ hk => ⟨hk.1.1, ⟨hk.2, hk.1.2⟩⟩))⟩, ⟨zr (Kd.R_mono HO_9.out (fun _ hk => ⟨hk.1.1, ⟨hk.2, hk.1.2⟩⟩))⟩, ⟨zr HO_485000.out⟩, ⟨zh BK484.out⟩, ⟨zb HB.out⟩⟩
              ·rw [if_neg c75] at H
               exact absurd H (by simp)
            ·replace c70 := Bool.eq_false_iff.mpr c70
             subst c70
             have H1 : (some false) = some r := by rw [if_neg (show ¬ (false = true) by decide)] at H; exact H
             clear H
             have H := H1
             clear H1
             obtain rfl := Option.some.inj H
             obtain ⟨Ao79, co79, eo79⟩ := Kd.R_slice HO_9.out
             subst eo79
             have p504 : 0 ≤ (x10_2 : Int) := of_decide_eq_true (by first | (with_reducible assumption) | assumption)
             have q504 : x10_2 < (t501.length : Int) := of_decide_eq_true (by first | (with_reducible assumption) | assumption)
             obtain ⟨ad504, e504, hx504_0⟩ := Kd.at_int (Kd.R_reads' HO_9.out).2.2 x10_2 p504 q504
             cases e504
             replace p504 := eq_true p504
             replace q504 := eq_true q504
             go_wp2_with (first | ((with_reducible refine gate_callee (f := 42) rfl ?_); refine goesL_ (some 72) rfl rfl Try.func42 (by kernel_rfl) rfl #[.slice Ao55 t485.length co55, .int .i64 (rd t501 x10_2)] rfl zl ?_; (with_reducible refine (laws_within.calls k2 _ _ t485 (rd t501 x10_2) false _ ?side1 ?side2 A69.out).mono ?_); (case side1 => exact zc (Kd.R_reads' HO_5.out).2.2); (case side2 => exact (Kd.R_reads' HO_5.out).2.1); rintro e w' ⟨rfl, ⟨nd, rfl⟩⟩; refine ⟨_, rfl, ?_⟩))
             go_ret
             exact ⟨ze, zb HB.out⟩
           ·rw [if_neg c68] at H
            exact absurd H (by simp)
          ·rw [if_neg c67] at H
           have c67b0 : decide (x10_2 < (t501.length : Int)) = false := decide_eq_false c67
           clear c67
           have H' := Aside0.mk H
           clear H
           obtain ⟨Ao80, co80, eo80⟩ := Kd.R_slice HO_9.out
           subst eo80
           go_wp2
           go_roundg k2
           case measure => have := HK1.out; have := HK2.out; omega
           case rel => exact ⟨(x6_2), (wrap64 (x8_1 + 1)), (by first | rfl | (simp; done) | (simp [*]; done)), H', ⟨by have := HK1.out; have := HK2.out; omega⟩, ⟨zr (Kd.R_mono HO_5.out (fun _ hk => ⟨hk.1, hk.2.1⟩))⟩, ⟨zr (Kd.R_mono HO_6.out (fun _ hk => ⟨hk.1, hk.2.1⟩))⟩, ⟨zr (Kd.R_mono HO_7.out (fun _ hk => ⟨hk.1, hk.2.1⟩))⟩, ⟨zr HO_485000.out⟩, ⟨zh BK484.out⟩, ⟨zb HB.out⟩⟩
       ·rw [if_neg c62] at H
        exact absurd H (by simp)
      ·rw [if_neg c61] at H
       have c61b0 : decide (x8_1 < (t496.length : Int)) = false := decide_eq_false c61
       clear c61
       by_cases c81 : (x6_1.length : Int) = (t485.length : Int)
       ·rw [if_pos c81] at H
        have c81b0 : ((x6_1.length : Int) == (t485.length : Int)) = true := beq_iff_eq.mpr c81
        have c81b1 : ((x6_1.length : Int) != (t485.length : Int)) = false := bne_eq_false_iff_eq.mpr c81
        have c81b2 : (x6_1.length == t485.length) = true := by first | simpa using c81 | (simp at c81 ⊢; omega)
        clear c81
        obtain ⟨ji82, hji82⟩ : ∃ j_ : Int, (wrap64 ((t485.length : Int) - 1)) = j_ := ⟨_, rfl⟩
        replace H : (if 0 ≤ (ji82) then (if (ji82) < (t485.length : Int) then (some ((rd t485 (ji82)) == t483)) else (none)) else (none)) = some r := by first | (rw [hji82] at H; exact H) | (simp only [hji82] at H ⊢; exact H)
        have hji82w : (IntKind.i64.wrap ((t485.length : Int) - 1)) = ji82 := (i64_w _).trans hji82
        by_cases c83 : 0 ≤ (ji82)
        ·rw [if_pos c83] at H
         have c83b0 : decide (0 ≤ (ji82)) = true := decide_eq_true c83
         clear c83
         by_cases c84 : (ji82) < (t485.length : Int)
         ·rw [if_pos c84] at H
          have c84b0 : decide ((ji82) < (t485.length : Int)) = true := decide_eq_true c84
          clear c84
          obtain rfl := Option.some.inj H
          obtain ⟨Ao85, co85, eo85⟩ := Kd.R_slice HO_7.out
          subst eo85
          obtain ⟨Ao86, co86, eo86⟩ := Kd.R_slice HO_6.out
          subst eo86
          have p499 : 0 ≤ ((ji82) : Int) := of_decide_eq_true (by first | (with_reducible assumption) | assumption)
          have q499 : (ji82) < (t485.length : Int) := of_decide_eq_true (by first | (with_reducible assumption) | assumption)
          obtain ⟨ad499, e499, hx499_0⟩ := Kd.at_int (Kd.R_reads' HO_5.out).2.2 (ji82) p499 q499
          cases e499
          replace p499 := eq_true p499
          replace q499 := eq_true q499
          go_wp2
          go_ret
          exact ⟨by first | rfl | (simp [errW_none, errW_some] <;> rfl) | (simp only [← hji82]; first | rfl | (simp [errW_none, errW_some] <;> rfl)) | (simp [*, errW_none, errW_some] <;> rfl), zb HB.out⟩
         ·rw [if_neg c84] at H
          exact absurd H (by simp)
        ·rw [if_neg c83] at H
         exact absurd H (by simp)
       ·rw [if_neg c81] at H
        have c81b0 : ((x6_1.length : Int) == (t485.length : Int)) = false := beq_eq_false_iff_ne.mpr c81
        have c81b1 : ((x6_1.length : Int) != (t485.length : Int)) = true := bne_iff_ne.mpr c81
        have c81b2 : (x6_1.length == t485.length) = false := by first | simpa using c81 | (simp at c81 ⊢; omega)
        obtain rfl := Option.some.inj H
        obtain ⟨Ao87, co87, eo87⟩ := Kd.R_slice HO_7.out
        subst eo87
        obtain ⟨Ao88, co88, eo88⟩ := Kd.R_slice HO_6.out
        subst eo88
        go_wp2
        go_ret
        exact ⟨ze, zb HB.out⟩
  ·replace c8 := Bool.eq_false_iff.mpr c8
   subst c8
   have H1 : (some false) = some r := by rw [if_neg (show ¬ (false = true) by decide)] at H; exact H
   clear H
   have H := H1
   clear H1
   obtain rfl := Option.some.inj H
   go_enter Try.func10, Try.ntmps10
   go_wp2_with (first | ((with_reducible refine gate_callee (f := 34) rfl ?_); refine goesL_ (some 12) rfl rfl Try.func34 (by kernel_rfl) rfl #[.slice A0 l0.length c0] rfl zl ?_; (with_reducible refine (laws_big.calls _ _ l0 false _ ?side1 ?side2 A2.out).mono ?_); (case side1 => exact zc HR0.out); (case side2 => exact HC0.out); rintro e w' ⟨rfl, ⟨nd, rfl⟩⟩; refine ⟨_, rfl, ?_⟩) | ((with_reducible refine gate_callee (f := 40) rfl ?_); refine goesL_ (some 15) rfl rfl Try.func40 (by kernel_rfl) rfl #[.slice A0 l0.length c0] rfl zl ?_; (with_reducible refine (spec_DrawTermBelow.calls k _ _ l0 t480 t483 _ ?side1 ?side2 A4.out).mono ?_); (case side1 => exact zc HR0.out); (case side2 => exact HC0.out); rintro e w89 ⟨v481, rfl, ho0, hb⟩; refine ⟨_, rfl, ?_⟩; have n0_ := Aside0.mk (Kd.R_lower ho0 (below_size (zb HB.out))); have n1_ := Aside0.mk (below_step (zb HB.out) hb); clear HB; have HO482 := n0_; have HB := n1_; clear n0_ n1_; (try clear hb); (try clear hb2); (try clear hk); (try clear hi); (try clear ho0)) | ((with_reducible refine gate_dst (N := 3) rfl ?_); (try (refine gate_guard (by rfl) ?_; dsimp only)); refine box_event ?hg (N := 3) ?hd (cs := #[.slice none 0 0]) (t := 30) ?hr ?_; (case hd => rfl); (case hg => rfl); (case hr => first | (go_simp; done) | (go_simp; rfl)); intro gb484 hg w90 hbox hb; have n0_ := Aside0.mk (Kd.R_below (zr HO482.out) hb); have n1_ := Aside0.mk (below_step (zb HB.out) hb); have n2_ := Aside0.mk (hbox); have n3_ := Aside0.mk ((by rw [hg]; exact (below_size (zb HB.out)) : w.heap.size ≤ gb484)); have n4_ := Aside0.mk ((by rw [hg]; exact (below_size (zb HB.out)) : w.heap.size ≤ gb484)); clear HO482; clear HB; have HO482 := n0_; have HB := n1_; have BK484 := n2_; have GW484 := n3_; have GE484 := n4_; clear n0_ n1_ n2_ n3_ n4_; clear hb hbox hg; obtain ⟨Ao91, co91, eo91⟩ := Kd.R_slice HO482.out; subst eo91; have hcz92_0 : w90.cell? ⟨gb484, 0, none⟩ = some (.slice none 0 0) := (blk_cell BK484.out 0).trans rfl; have hfz92_0 := blk_frozen BK484.out 0) | ((with_reducible refine gate_callee (f := 33) rfl ?_); refine goesL_ (some 20) rfl rfl Try.func33 (by kernel_rfl) rfl #[.agg #[.slice Ao91 t480.length co91], .int .i64 t483] rfl zl ?_; (with_reducible refine (impl_TermBelow.calls k _ _ t480 t483 t485 _ ?side1 ?side2 A5.out).mono ?_); (case side1 => refine (Kd.R_reads' (e := 34) (base := w.heap.size) (ok := fun k_ => True) (n := t480.length) (c := co91) ?_).2.2; exact (by (with_reducible repeat (first | apply Kd.R_alloc | apply Kd.R_drewN | apply Kd.R_drew)); exact (Kd.R_mono (Kd.R_far (p := ⟨gb484, 0, none⟩) (Kd.R_types HO482.out BK484.out (by decide)) (fun _ hk => hk.2) (.slice Ao91 t480.length co91)) (fun _ h_ => h_.1)))); (case side2 => exact (Kd.R_reads' HO482.out).2.1); rintro e w93 ⟨v486, rfl, ho0, hb⟩; refine ⟨_, rfl, ?_⟩; have n0_ := Aside0.mk (Kd.R_below (by (with_reducible repeat (first | apply Kd.R_alloc | apply Kd.R_drewN | apply Kd.R_drew)); exact (Kd.R_mono (Kd.R_far (p := ⟨gb484, 0, none⟩) (Kd.R_types HO482.out BK484.out (by decide)) (fun _ hk => hk.2) (.slice Ao91 t480.length co91)) (fun _ h_ => h_.1))) hb); have n1_ := Aside0.mk (Kd.R_lower ho0 (below_size (zb HB.out))); have n2_ := Aside0.mk (blk_below (g := gb484) (o := .cells #[.slice Ao91 t480.length co91] 30 (0, 0)) (by (with_reducible repeat (first | refine blk_drewN ?_ _ | refine blk_drew ?_ | refine blk_alloc ?_ _)); refine blk_put (cs := #[.slice none 0 0]) ?_ 0 _ rfl; (with_reducible repeat (first | refine blk_drewN ?_ _ | refine blk_drew ?_ | refine blk_alloc ?_ _)); exact BK484.out) hb); have n3_ := Aside0.mk (below_step (zb HB.out) hb); clear HO482; clear BK484; clear HB; have HO482 := n0_; have HO487 := n1_; have BK484 := n2_; have HB := n3_; clear n0_ n1_ n2_ n3_; (try clear hb); (try clear hb2); (try clear hk); (try clear hi); (try clear ho0); have hcz94_0 : w93.cell? ⟨gb484, 0, none⟩ = some (.slice Ao91 t480.length co91) := (blk_cell BK484.out 0).trans rfl; have hfz94_0 := blk_frozen BK484.out 0) | ((with_reducible refine gate_callee (f := 32) rfl ?_); refine goesL_ (some 24) rfl rfl Try.func32 (by kernel_rfl) rfl #[.agg #[.slice Ao91 t480.length co91], .int .i64 t483] rfl zl ?_; (with_reducible refine (spec_TermBelow.calls k _ _ t480 t483 t488 _ ?side1 ?side2 A6.out).mono ?_); (case side1 => exact zc (Kd.R_reads' HO482.out).2.2); (case side2 => exact (Kd.R_reads' HO482.out).2.1); rintro e w95 ⟨v489, rfl, ho0, hb⟩; refine ⟨_, rfl, ?_⟩; have n0_ := Aside0.mk (Kd.R_below (zr HO482.out) hb); have n1_ := Aside0.mk (Kd.R_elder' (zr HO487.out) (Kd.R_base ho0) hb); have n2_ := Aside0.mk (Kd.R_lower (Kd.R_new' ho0 (Kd.R_lt (zr HO487.out))) (below_size (zb HB.out))); have n3_ := Aside0.mk (blk_below (zh BK484.out) hb); have n4_ := Aside0.mk (below_step (zb HB.out) hb); clear HO482; clear HO487; clear BK484; clear HB; have HO482 := n0_; have HO487 := n1_; have HO490 := n2_; have BK484 := n3_; have HB := n4_; clear n0_ n1_ n2_ n3_ n4_; (try clear hb); (try clear hb2); (try clear hk); (try clear hi); (try clear ho0); obtain ⟨Ao96, co96, eo96⟩ := Kd.R_slice HO487.out; subst eo96; obtain ⟨Ao97, co97, eo97⟩ := Kd.R_slice HO490.out; subst eo97) | ((with_reducible refine gate_callee (f := 41) rfl ?_); refine goesL_ (some 25) rfl rfl Try.func41 (by kernel_rfl) rfl #[.slice Ao96 t485.length co96, .slice Ao97 t488.length co97] rfl zl ?_; (with_reducible refine (laws_sameInts.calls k _ _ t485 _ _ t488 false _ ?side1 ?side2 ?side3 ?side4 A7.out).mono ?_); (case side1 => exact zc (Kd.R_reads' HO487.out).2.2); (case side2 => exact (Kd.R_reads' HO487.out).2.1); (case side3 => exact zc (Kd.R_reads' HO490.out).2.2); (case side4 => exact (Kd.R_reads' HO490.out).2.1); rintro e w' ⟨rfl, ⟨nd, rfl⟩⟩; refine ⟨_, rfl, ?_⟩))
   go_ret
   exact ⟨ze, zb HB.out⟩

def laws_FnBelow.Pure : Prop := ∀ (l0 : List Int), l0.length ≤ maxLen → l0.length * 1 ≤ 140737488351232 → (∀ x ∈ l0, (Lit.int .u8 x).wf = true) → ∃ k, laws_FnBelow.f k l0 = some true
theorem laws_FnBelow.walk (P : laws_FnBelow.Pure) (a0 : Option Addr) (len0 cap0 : Nat) (z0 : List Int) (w : World) (w0 : (a0 = none ∧ len0 = 0 ∧ cap0 = 0 ∧ z0 = []) ∨ ∃ x, a0 = some x ∧ len0 ≤ cap0 ∧ cap0 ≤ maxLen ∧ z0.length = cap0 ∧ (∀ i, i < z0.length → w.cell? (x.add i) = some (.int .u8 (z0.getD i 0))) ∧ ∀ n ∈ z0, (Lit.int .u8 n).wf = true) (y0 : len0 * 1 ≤ 140737488351232) :
  Calls Try.prog 10 #[.slice a0 len0 cap0] w fun e w' => e = .returned (.bool true) ∧ Below w.heap.size w w' := by
 obtain ⟨l0, rfl, hr0, hm0, hw0, hc0⟩ := ReadsInt.ofRowC w0
 obtain ⟨k, h⟩ := P l0 hm0 y0 hw0
 refine (laws_FnBelow.calls k _ _ l0 true w (Kd.C_of_reads (d := (0 : Int)) (h1 := fun _ => rfl) hr0) hc0 h).mono ?_
 rintro e w' ⟨rfl, hd⟩
 exact ⟨rfl, hd⟩

end Go.Proofs.Ytafahnellnfclaa.C
