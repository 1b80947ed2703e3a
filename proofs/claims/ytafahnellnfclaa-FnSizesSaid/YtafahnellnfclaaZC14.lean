-- Written by this session's program (wip/tools/gprint.py over the kit's print) out of the translation; Lean checks it.
import Derived.Test.YtafahnellnfclaaZC0
import Derived.Test.YtafahnellnfclaaZC4
import Derived.Test.YtafahnellnfclaaZC6
import Derived.Test.YtafahnellnfclaaZC7
import Derived.Test.YtafahnellnfclaaZC9
import Derived.Test.YtafahnellnfclaaZC12
import Derived.Test.YtafahnellnfclaaZC13
namespace Go.Proofs.Ytafahnellnfclaa.C
open Go.RowKit Go.Proofs.YtafahnellnfclaaW.PrintWords Go.Proofs.YtafahnellnfclaaW.PrintLast Go.Proofs.YtafahnellnfclaaW.PrintMore
attribute [local go_sem] max2_int min2_int max_two min_two max_three min_three max_four min_four   -- for this text's walks alone
set_option linter.unusedVariables false
set_option linter.unusedSimpArgs false
set_option maxRecDepth 100000

/-! ### laws_FnSizes: function 9 -/
def laws_FnSizes.l0 : Nat → Int → Int → List Int → Int → Int → Int → List (S34) → Option (Bool)
 | 0, _, _, _, _, _, _, _ => none
 | k + 1, x4, x5, x6, x7, x8, x9, x423000 => if x9 < (x6.length : Int) then (if 0 ≤ x9 then ((impl_TermSize.f k x423000 (rd x6 x9)).bind fun t435 => ((impl_TermDeep.f k x423000 (rd x6 x9)).bind fun t437 => (if t437 > x8 then ((impl_TermDeep.f k x423000 (rd x6 x9)).bind fun t439 => (laws_FnSizes.l0 k x4 x5 x6 (wrap64 (x7 + t435)) t439 (wrap64 (x9 + 1)) x423000)) else (laws_FnSizes.l0 k x4 x5 x6 (wrap64 (x7 + t435)) x8 (wrap64 (x9 + 1)) x423000)))) else (none)) else (if x7 > 1001 then (if 1001 = x5 then ((impl_TermDeep.f k x423000 x4).bind fun t432 => (some (t432 == (wrap64 (x8 + 1))))) else (some false)) else (if x7 = x5 then ((impl_TermDeep.f k x423000 x4).bind fun t433 => (some (t433 == (wrap64 (x8 + 1))))) else (some false)))
def laws_FnSizes.f (k : Nat) (l0 : List Int) : Option (Bool) := (laws_big.f l0).bind fun t417 => (if t417 = true then (some true) else ((spec_DrawTermSize.f k l0).bind fun bt418 => ((impl_TermSize.f k bt418.1 bt418.2).bind fun t423 => ((spec_TermSize.f k bt418.1 bt418.2).bind fun t424 => (if t423 = t424 then (if t423 = 0 then ((impl_TermDeep.f k bt418.1 bt418.2).bind fun t425 => (if t425 = 0 then ((impl_TermBelow.f k bt418.1 bt418.2).bind fun t426 => (some ((t426.length : Int) == 0))) else (some false))) else ((impl_PartsOf.f k bt418.1 bt418.2).bind fun t429 => (laws_FnSizes.l0 k bt418.2 t423 t429 1 0 0 bt418.1))) else (some false))))))
theorem laws_FnSizes.mono_l : ∀ k, (∀ y0 y1 y2 y3 y4 y5 y6, LeO (laws_FnSizes.l0 k y0 y1 y2 y3 y4 y5 y6) (laws_FnSizes.l0 (k + 1) y0 y1 y2 y3 y4 y5 y6))
 | 0 => fun _ _ _ _ _ _ _ r h => by simp [laws_FnSizes.l0] at h
 | k + 1 => by
  have ih0 := laws_FnSizes.mono_l k
  ·intro y0 y1 y2 y3 y4 y5 y6
   unfold laws_FnSizes.l0
   repeat' first
   | (with_reducible exact ih0 _ _ _ _ _ _ _)
   | (with_reducible exact impl_PartsOf.mono _ _ _)
   | (with_reducible exact impl_TermBelow.mono _ _ _)
   | (with_reducible exact impl_TermDeep.mono _ _ _)
   | (with_reducible exact impl_TermSize.mono _ _ _)
   | (with_reducible exact spec_DrawTermSize.mono _ _)
   | (with_reducible exact spec_TermSize.mono _ _ _)
   | (with_reducible exact LeO.refl _)
   | (with_reducible exact LeO.none _)
   | (with_reducible refine LeO.ite ?_ ?_)
   | (with_reducible refine LeO.bind ?_ (fun _ => ?_))
   | exact ih0 _ _ _ _ _ _ _
   | exact impl_PartsOf.mono _ _ _
   | exact impl_TermBelow.mono _ _ _
   | exact impl_TermDeep.mono _ _ _
   | exact impl_TermSize.mono _ _ _
   | exact spec_DrawTermSize.mono _ _
   | exact spec_TermSize.mono _ _ _
   | exact LeO.none _
   | refine LeO.ite ?_ ?_
   | refine LeO.bind ?_ (fun _ => ?_)
theorem laws_FnSizes.mono : ∀ a0 k, LeO (laws_FnSizes.f k a0) (laws_FnSizes.f (k + 1) a0) := by
 intro a0 k
 have ih0 := laws_FnSizes.mono_l k
 unfold laws_FnSizes.f
 repeat' first
   | (with_reducible exact ih0 _ _ _ _ _ _ _)
   | (with_reducible exact impl_PartsOf.mono _ _ _)
   | (with_reducible exact impl_TermBelow.mono _ _ _)
   | (with_reducible exact impl_TermDeep.mono _ _ _)
   | (with_reducible exact impl_TermSize.mono _ _ _)
   | (with_reducible exact spec_DrawTermSize.mono _ _)
   | (with_reducible exact spec_TermSize.mono _ _ _)
   | (with_reducible exact LeO.refl _)
   | (with_reducible exact LeO.none _)
   | (with_reducible refine LeO.ite ?_ ?_)
   | (with_reducible refine LeO.bind ?_ (fun _ => ?_))
   | exact ih0 _ _ _ _ _ _ _
   | exact impl_PartsOf.mono _ _ _
   | exact impl_TermBelow.mono _ _ _
   | exact impl_TermDeep.mono _ _ _
   | exact impl_TermSize.mono _ _ _
   | exact spec_DrawTermSize.mono _ _
   | exact spec_TermSize.mono _ _ _
   | exact LeO.none _
   | refine LeO.ite ?_ ?_
   | refine LeO.bind ?_ (fun _ => ?_)
def laws_FnSizes.T14 : Bool × List (List Nat × List Nat) := (true, [([], []), ([], []), ([], []), ([], []), ([2, 3], [2, 3]), ([4], [4]), ([1, 5], [1, 5]), ([0, 6], [0, 6]), ([7, 6, 0, 1, 2, 3, 4, 5, 6, 7], [0, 7])])
def laws_FnSizes.B14 : List Nat := [0, 0, 0, 0, 12, 28, 62, 127, 255]
theorem laws_FnSizes.tab14 : rtab .any (opsOf Try.f9 14) = laws_FnSizes.T14 := by kernel_rfl
theorem laws_FnSizes.bits14 : waitsOk laws_FnSizes.T14.2 laws_FnSizes.B14 = true := by kernel_rfl
def laws_FnSizes.T15 : Bool × List (List Nat × List Nat) := (true, [([], []), ([], []), ([], []), ([1, 2], [1, 2]), ([3], [3]), ([0, 4], [0, 4]), ([], []), ([5, 6], [5, 6])])
def laws_FnSizes.B15 : List Nat := [0, 0, 0, 6, 14, 31, 0, 127]
theorem laws_FnSizes.tab15 : rtab .any (opsOf Try.f9 15) = laws_FnSizes.T15 := by kernel_rfl
theorem laws_FnSizes.bits15 : waitsOk laws_FnSizes.T15.2 laws_FnSizes.B15 = true := by kernel_rfl
set_option maxHeartbeats 8000000 in
set_option maxRecDepth 100000 in
theorem laws_FnSizes.calls (k : Nat) (A0 : Option Addr) (c0 : Nat) (l0 : List Int) (r : Bool) (w : World) (hr0 : Kd.C (Kd.int .u8) w A0 l0.length l0) (hc0 : l0.length ≤ c0) (h : laws_FnSizes.f k l0 = some r) :
  Calls Try.prog 9 #[.slice A0 l0.length c0] w fun e w' => e = .returned (.bool r) ∧ Below w.heap.size w w' := by
 have hu30 := Try.underlying30
 have HR0 := Aside0.mk hr0
 have HC0 := Aside0.mk hc0
 clear hr0 hc0
 have HB := Aside0.mk (Below.refl w.heap.size w)
 have H : ((laws_big.f l0).bind fun t417 => (if t417 = true then (some true) else ((spec_DrawTermSize.f k l0).bind fun bt418 => ((impl_TermSize.f k bt418.1 bt418.2).bind fun t423 => ((spec_TermSize.f k bt418.1 bt418.2).bind fun t424 => (if t423 = t424 then (if t423 = 0 then ((impl_TermDeep.f k bt418.1 bt418.2).bind fun t425 => (if t425 = 0 then ((impl_TermBelow.f k bt418.1 bt418.2).bind fun t426 => (some ((t426.length : Int) == 0))) else (some false))) else ((impl_PartsOf.f k bt418.1 bt418.2).bind fun t429 => (laws_FnSizes.l0 k bt418.2 t423 t429 1 0 0 bt418.1))) else (some false))))))) = some r := h
 clear h
 replace H := Option.bind_eq_some_iff.mp H
 obtain ⟨t417, A20, H⟩ := H
 replace H : (if t417 = true then (some true) else ((spec_DrawTermSize.f k l0).bind fun bt418 => ((impl_TermSize.f k bt418.1 bt418.2).bind fun t423 => ((spec_TermSize.f k bt418.1 bt418.2).bind fun t424 => (if t423 = t424 then (if t423 = 0 then ((impl_TermDeep.f k bt418.1 bt418.2).bind fun t425 => (if t425 = 0 then ((impl_TermBelow.f k bt418.1 bt418.2).bind fun t426 => (some ((t426.length : Int) == 0))) else (some false))) else ((impl_PartsOf.f k bt418.1 bt418.2).bind fun t429 => (laws_FnSizes.l0 k bt418.2 t423 t429 1 0 0 bt418.1))) else (some false)))))) = some r := H
 have A2 := Aside0.mk A20
 clear A20
 by_cases c3 : t417 = true
 ·subst c3
  have H1 : (some true) = some r := by rw [if_pos rfl] at H; exact H
  clear H
  have H := H1
  clear H1
  obtain rfl := Option.some.inj H
  go_enter Try.func9, Try.ntmps9
  go_wp2_with (first | ((with_reducible refine gate_callee (f := 34) rfl ?_); refine goesL_ (some 11) rfl rfl Try.func34 (by kernel_rfl) rfl #[.slice A0 l0.length c0] rfl zl ?_; (with_reducible refine (laws_big.calls _ _ l0 true _ ?side1 ?side2 A2.out).mono ?_); (case side1 => exact zc HR0.out); (case side2 => exact HC0.out); rintro e w' ⟨rfl, ⟨nd, rfl⟩⟩; refine ⟨_, rfl, ?_⟩))
  go_ret
  exact ⟨ze, zb HB.out⟩
 ·replace c3 := Bool.eq_false_iff.mpr c3
  subst c3
  have H1 : ((spec_DrawTermSize.f k l0).bind fun bt418 => ((impl_TermSize.f k bt418.1 bt418.2).bind fun t423 => ((spec_TermSize.f k bt418.1 bt418.2).bind fun t424 => (if t423 = t424 then (if t423 = 0 then ((impl_TermDeep.f k bt418.1 bt418.2).bind fun t425 => (if t425 = 0 then ((impl_TermBelow.f k bt418.1 bt418.2).bind fun t426 => (some ((t426.length : Int) == 0))) else (some false))) else ((impl_PartsOf.f k bt418.1 bt418.2).bind fun t429 => (laws_FnSizes.l0 k bt418.2 t423 t429 1 0 0 bt418.1))) else (some false))))) = some r := by rw [if_neg (show ¬ (false = true) by decide)] at H; exact H
  clear H
  have H := H1
  clear H1
  replace H := Option.bind_eq_some_iff.mp H
  obtain ⟨⟨t418, t421⟩, A40, H⟩ := H
  replace H : ((impl_TermSize.f k t418 t421).bind fun t423 => ((spec_TermSize.f k t418 t421).bind fun t424 => (if t423 = t424 then (if t423 = 0 then ((impl_TermDeep.f k t418 t421).bind fun t425 => (if t425 = 0 then ((impl_TermBelow.f k t418 t421).bind fun t426 => (some ((t426.length : Int) == 0))) else (some false))) else ((impl_PartsOf.f k t418 t421).bind fun t429 => (laws_FnSizes.l0 k t421 t423 t429 1 0 0 t418))) else (some false)))) = some r := H
  have A4 := Aside0.mk A40
  clear A40
  replace H := Option.bind_eq_some_iff.mp H
  obtain ⟨t423, A50, H⟩ := H
  replace H : ((spec_TermSize.f k t418 t421).bind fun t424 => (if t423 = t424 then (if t423 = 0 then ((impl_TermDeep.f k t418 t421).bind fun t425 => (if t425 = 0 then ((impl_TermBelow.f k t418 t421).bind fun t426 => (some ((t426.length : Int) == 0))) else (some false))) else ((impl_PartsOf.f k t418 t421).bind fun t429 => (laws_FnSizes.l0 k t421 t423 t429 1 0 0 t418))) else (some false))) = some r := H
  have A5 := Aside0.mk A50
  clear A50
  replace H := Option.bind_eq_some_iff.mp H
  obtain ⟨t424, A60, H⟩ := H
  replace H : (if t423 = t424 then (if t423 = 0 then ((impl_TermDeep.f k t418 t421).bind fun t425 => (if t425 = 0 then ((impl_TermBelow.f k t418 t421).bind fun t426 => (some ((t426.length : Int) == 0))) else (some false))) else ((impl_PartsOf.f k t418 t421).bind fun t429 => (laws_FnSizes.l0 k t421 t423 t429 1 0 0 t418))) else (some false)) = some r := H
  have A6 := Aside0.mk A60
  clear A60
  by_cases c7 : t423 = t424
  ·rw [if_pos c7] at H
   have c7b0 : (t423 == t424) = true := beq_iff_eq.mpr c7
   have c7b1 : (t423 != t424) = false := bne_eq_false_iff_eq.mpr c7
   clear c7
   by_cases c8 : t423 = 0
   ·rw [if_pos c8] at H
    have c8b0 : (t423 == 0) = true := beq_iff_eq.mpr c8
    have c8b1 : (t423 != 0) = false := bne_eq_false_iff_eq.mpr c8
    clear c8
    replace H := Option.bind_eq_some_iff.mp H
    obtain ⟨t425, A90, H⟩ := H
    replace H : (if t425 = 0 then ((impl_TermBelow.f k t418 t421).bind fun t426 => (some ((t426.length : Int) == 0))) else (some false)) = some r := H
    have A9 := Aside0.mk A90
    clear A90
    by_cases c10 : t425 = 0
    ·rw [if_pos c10] at H
     have c10b0 : (t425 == 0) = true := beq_iff_eq.mpr c10
     have c10b1 : (t425 != 0) = false := bne_eq_false_iff_eq.mpr c10
     clear c10
     replace H := Option.bind_eq_some_iff.mp H
     obtain ⟨t426, A110, H⟩ := H
     replace H : (some ((t426.length : Int) == 0)) = some r := H
     have A11 := Aside0.mk A110
     clear A110
     obtain rfl := Option.some.inj H
     go_enter Try.func9, Try.ntmps9
     go_wp2_with (first | ((with_reducible refine gate_callee (f := 34) rfl ?_); refine goesL_ (some 11) rfl rfl Try.func34 (by kernel_rfl) rfl #[.slice A0 l0.length c0] rfl zl ?_; (with_reducible refine (laws_big.calls _ _ l0 false _ ?side1 ?side2 A2.out).mono ?_); (case side1 => exact zc HR0.out); (case side2 => exact HC0.out); rintro e w' ⟨rfl, ⟨nd, rfl⟩⟩; refine ⟨_, rfl, ?_⟩) | ((with_reducible refine gate_callee (f := 38) rfl ?_); refine goesL_ (some 14) rfl rfl Try.func38 (by kernel_rfl) rfl #[.slice A0 l0.length c0] rfl zl ?_; (with_reducible refine (spec_DrawTermSize.calls k _ _ l0 t418 t421 _ ?side1 ?side2 A4.out).mono ?_); (case side1 => exact zc HR0.out); (case side2 => exact HC0.out); rintro e w12 ⟨v419, rfl, ho0, hb⟩; refine ⟨_, rfl, ?_⟩; have n0_ := Aside0.mk (Kd.R_lower ho0 (below_size (zb HB.out))); have n1_ := Aside0.mk (below_step (zb HB.out) hb); clear HB; have HO420 := n0_; have HB := n1_; clear n0_ n1_; (try clear hb); (try clear hb2); (try clear hk); (try clear hi); (try clear ho0)) | ((with_reducible refine gate_dst (N := 3) rfl ?_); (try (refine gate_guard (by rfl) ?_; dsimp only)); refine box_event ?hg (N := 3) ?hd (cs := #[.slice none 0 0]) (t := 30) ?hr ?_; (case hd => rfl); (case hg => rfl); (case hr => first | (go_simp; done) | (go_simp; rfl)); intro gb422 hg w13 hbox hb; have n0_ := Aside0.mk (Kd.R_below (zr HO420.out) hb); have n1_ := Aside0.mk (below_step (zb HB.out) hb); have n2_ := Aside0.mk (hbox); have n3_ := Aside0.mk ((by rw [hg]; exact (below_size (zb HB.out)) : w.heap.size ≤ gb422)); have n4_ := Aside0.mk ((by rw [hg]; exact (below_size (zb HB.out)) : w.heap.size ≤ gb422)); clear HO420; clear HB; have HO420 := n0_; have HB := n1_; have BK422 := n2_; have GW422 := n3_; have GE422 := n4_; clear n0_ n1_ n2_ n3_ n4_; clear hb hbox hg; obtain ⟨Ao14, co14, eo14⟩ := Kd.R_slice HO420.out; subst eo14; have hcz15_0 : w13.cell? ⟨gb422, 0, none⟩ = some (.slice none 0 0) := (blk_cell BK422.out 0).trans rfl; have hfz15_0 := blk_frozen BK422.out 0) | ((with_reducible refine gate_callee (f := 29) rfl ?_); refine goesL_ (some 19) rfl rfl Try.func29 (by kernel_rfl) rfl #[.agg #[.slice Ao14 t418.length co14], .int .i64 t421] rfl zl ?_; (with_reducible refine (impl_TermSize.calls k _ _ t418 t421 t423 _ ?side1 ?side2 A5.out).mono ?_); (case side1 => refine (Kd.R_reads' (e := 34) (base := w.heap.size) (ok := fun k_ => True) (n := t418.length) (c := co14) ?_).2.2; exact (by (with_reducible repeat (first | apply Kd.R_alloc | apply Kd.R_drewN | apply Kd.R_drew)); exact (Kd.R_mono (Kd.R_far (p := ⟨gb422, 0, none⟩) (Kd.R_types HO420.out BK422.out (by decide)) (fun _ hk => hk.2) (.slice Ao14 t418.length co14)) (fun _ h_ => h_.1)))); (case side2 => exact (Kd.R_reads' HO420.out).2.1); rintro e w16 ⟨rfl, hb⟩; refine ⟨_, rfl, ?_⟩; have n0_ := Aside0.mk (Kd.R_below (by (with_reducible repeat (first | apply Kd.R_alloc | apply Kd.R_drewN | apply Kd.R_drew)); exact (Kd.R_mono (Kd.R_far (p := ⟨gb422, 0, none⟩) (Kd.R_types HO420.out BK422.out (by decide)) (fun _ hk => hk.2) (.slice Ao14 t418.length co14)) (fun _ h_ => h_.1))) hb); have n1_ := Aside0.mk (blk_below (g := gb422) (o := .cells #[.slice Ao14 t418.length co14] 30 (0, 0)) (by (with_reducible repeat (first | refine blk_drewN ?_ _ | refine blk_drew ?_ | refine blk_alloc ?_ _)); refine blk_put (cs := #[.slice none 0 0]) ?_ 0 _ rfl; (with_reducible repeat (first | refine blk_drewN ?_ _ | refine blk_drew ?_ | refine blk_alloc ?_ _)); exact BK422.out) hb); have n2_ := Aside0.mk (below_step (zb HB.out) hb); clear HO420; clear BK422; clear HB; have HO420 := n0_; have BK422 := n1_; have HB := n2_; clear n0_ n1_ n2_; (try clear hb); (try clear hb2); (try clear hk); (try clear hi); have hcz17_0 : w16.cell? ⟨gb422, 0, none⟩ = some (.slice Ao14 t418.length co14) := (blk_cell BK422.out 0).trans rfl; have hfz17_0 := blk_frozen BK422.out 0) | ((with_reducible refine gate_callee (f := 28) rfl ?_); refine goesL_ (some 23) rfl rfl Try.func28 (by kernel_rfl) rfl #[.agg #[.slice Ao14 t418.length co14], .int .i64 t421] rfl zl ?_; (with_reducible refine (spec_TermSize.calls k _ _ t418 t421 t424 _ ?side1 ?side2 A6.out).mono ?_); (case side1 => exact zc (Kd.R_reads' HO420.out).2.2); (case side2 => exact (Kd.R_reads' HO420.out).2.1); rintro e w18 ⟨rfl, hb⟩; refine ⟨_, rfl, ?_⟩; have n0_ := Aside0.mk (Kd.R_below (zr HO420.out) hb); have n1_ := Aside0.mk (blk_below (zh BK422.out) hb); have n2_ := Aside0.mk (below_step (zb HB.out) hb); clear HO420; clear BK422; clear HB; have HO420 := n0_; have BK422 := n1_; have HB := n2_; clear n0_ n1_ n2_; (try clear hb); (try clear hb2); (try clear hk); (try clear hi); have hcz19_0 : w18.cell? ⟨gb422, 0, none⟩ = some (.slice Ao14 t418.length co14) := (blk_cell BK422.out 0).trans rfl; have hfz19_0 := blk_frozen BK422.out 0) | ((with_reducible refine gate_callee (f := 39) rfl ?_); refine goesL_ (some 29) rfl rfl Try.func39 (by kernel_rfl) rfl #[.agg #[.slice Ao14 t418.length co14], .int .i64 t421] rfl zl ?_; (with_reducible refine (impl_TermDeep.calls k _ _ t418 t421 t425 _ ?side1 ?side2 A9.out).mono ?_); (case side1 => exact zc (Kd.R_reads' HO420.out).2.2); (case side2 => exact (Kd.R_reads' HO420.out).2.1); rintro e w20 ⟨rfl, hb⟩; refine ⟨_, rfl, ?_⟩; have n0_ := Aside0.mk (Kd.R_below (zr HO420.out) hb); have n1_ := Aside0.mk (blk_below (zh BK422.out) hb); have n2_ := Aside0.mk (below_step (zb HB.out) hb); clear HO420; clear BK422; clear HB; have HO420 := n0_; have BK422 := n1_; have HB := n2_; clear n0_ n1_ n2_; (try clear hb); (try clear hb2); (try clear hk); (try clear hi); have hcz21_0 : w20.cell? ⟨gb422, 0, none⟩ = some (.slice Ao14 t418.length co14) := (blk_cell BK422.out 0).trans rfl; have hfz21_0 := blk_frozen BK422.out 0) | (go_at_call 33; (with_reducible refine (impl_TermBelow.calls k _ _ t418 t421 t426 _ ?side1 ?side2 A11.out).mono ?_); (case side1 => exact zc (Kd.R_reads' HO420.out).2.2); (case side2 => exact (Kd.R_reads' HO420.out).2.1); rintro e w22 ⟨v427, rfl, ho0, hb⟩; have n0_ := Aside0.mk (Kd.R_below (zr HO420.out) hb); have n1_ := Aside0.mk (Kd.R_lower ho0 (below_size (zb HB.out))); have n2_ := Aside0.mk (blk_below (zh BK422.out) hb); have n3_ := Aside0.mk (below_step (zb HB.out) hb); clear HO420; clear BK422; clear HB; have HO420 := n0_; have HO428 := n1_; have BK422 := n2_; have HB := n3_; clear n0_ n1_ n2_ n3_; (try clear hb); (try clear hb2); (try clear hk); (try clear hi); (try clear ho0); obtain ⟨Ao23, co23, eo23⟩ := Kd.R_slice HO428.out; subst eo23))
     go_ret
     exact ⟨ze, zb HB.out⟩
    ·rw [if_neg c10] at H
     have c10b0 : (t425 == 0) = false := beq_eq_false_iff_ne.mpr c10
     have c10b1 : (t425 != 0) = true := bne_iff_ne.mpr c10
     obtain rfl := Option.some.inj H
     go_enter Try.func9, Try.ntmps9
     go_wp2_with (first | ((with_reducible refine gate_callee (f := 34) rfl ?_); refine goesL_ (some 11) rfl rfl Try.func34 (by kernel_rfl) rfl #[.slice A0 l0.length c0] rfl zl ?_; (with_reducible refine (laws_big.calls _ _ l0 false _ ?side1 ?side2 A2.out).mono ?_); (case side1 => exact zc HR0.out); (case side2 => exact HC0.out); rintro e w' ⟨rfl, ⟨nd, rfl⟩⟩; refine ⟨_, rfl, ?_⟩) | ((with_reducible refine gate_callee (f := 38) rfl ?_); refine goesL_ (some 14) rfl rfl Try.func38 (by kernel_rfl) rfl #[.slice A0 l0.length c0] rfl zl ?_; (with_reducible refine (spec_DrawTermSize.calls k _ _ l0 t418 t421 _ ?side1 ?side2 A4.out).mono ?_); (case side1 => exact zc HR0.out); (case side2 => exact HC0.out); rintro e w24 ⟨v419, rfl, ho0, hb⟩; refine ⟨_, rfl, ?_⟩; have n0_ := Aside0.mk (Kd.R_lower ho0 (below_size (zb HB.out))); have n1_ := Aside0.mk (below_step (zb HB.out) hb); clear HB; have HO420 := n0_; have HB := n1_; clear n0_ n1_; (try clear hb); (try clear hb2); (try clear hk); (try clear hi); (try clear ho0)) | ((with_reducible refine gate_dst (N := 3) rfl ?_); (try (refine gate_guard (by rfl) ?_; dsimp only)); refine box_event ?hg (N := 3) ?hd (cs := #[.slice none 0 0]) (t := 30) ?hr ?_; (case hd => rfl); (case hg => rfl); (case hr => first | (go_simp; done) | (go_simp; rfl)); intro gb422 hg w25 hbox hb; have n0_ := Aside0.mk (Kd.R_below (zr HO420.out) hb); have n1_ := Aside0.mk (below_step (zb HB.out) hb); have n2_ := Aside0.mk (hbox); have n3_ := Aside0.mk ((by rw [hg]; exact (below_size (zb HB.out)) : w.heap.size ≤ gb422)); have n4_ := Aside0.mk ((by rw [hg]; exact (below_size (zb HB.out)) : w.heap.size ≤ gb422)); clear HO420; clear HB; have HO420 := n0_; have HB := n1_; have BK422 := n2_; have GW422 := n3_; have GE422 := n4_; clear n0_ n1_ n2_ n3_ n4_; clear hb hbox hg; obtain ⟨Ao26, co26, eo26⟩ := Kd.R_slice HO420.out; subst eo26; have hcz27_0 : w25.cell? ⟨gb422, 0, none⟩ = some (.slice none 0 0) := (blk_cell BK422.out 0).trans rfl; have hfz27_0 := blk_frozen BK422.out 0) | ((with_reducible refine gate_callee (f := 29) rfl ?_); refine goesL_ (some 19) rfl rfl Try.func29 (by kernel_rfl) rfl #[.agg #[.slice Ao26 t418.length co26], .int .i64 t421] rfl zl ?_; (with_reducible refine (impl_TermSize.calls k _ _ t418 t421 t423 _ ?side1 ?side2 A5.out).mono ?_); (case side1 => refine (Kd.R_reads' (e := 34) (base := w.heap.size) (ok := fun k_ => True) (n := t418.length) (c := co26) ?_).2.2; exact (by (with_reducible repeat (first | apply Kd.R_alloc | apply Kd.R_drewN | apply Kd.R_drew)); exact (Kd.R_mono (Kd.R_far (p := ⟨gb422, 0, none⟩) (Kd.R_types HO420.out BK422.out (by decide)) (fun _ hk => hk.2) (.slice Ao26 t418.length co26)) (fun _ h_ => h_.1)))); (case side2 => exact (Kd.R_reads' HO420.out).2.1); rintro e w28 ⟨rfl, hb⟩; refine ⟨_, rfl, ?_⟩; have n0_ := Aside0.mk (Kd.R_below (by (with_reducible repeat (first | apply Kd.R_alloc | apply Kd.R_drewN | apply Kd.R_drew)); exact (Kd.R_mono (Kd.R_far (p := ⟨gb422, 0, none⟩) (Kd.R_types HO420.out BK422.out (by decide)) (fun _ hk => hk.2) (.slice Ao26 t418.length co26)) (fun _ h_ => h_.1))) hb); have n1_ := Aside0.mk (blk_below (g := gb422) (o := .cells #[.slice Ao26 t418.length co26] 30 (0, 0)) (by (with_reducible repeat (first | refine blk_drewN ?_ _ | refine blk_drew ?_ | refine blk_alloc ?_ _)); refine blk_put (cs := #[.slice none 0 0]) ?_ 0 _ rfl; (with_reducible repeat (first | refine blk_drewN ?_ _ | refine blk_drew ?_ | refine blk_alloc ?_ _)); exact BK422.out) hb); have n2_ := Aside0.mk (below_step (zb HB.out) hb); clear HO420; clear BK422; clear HB; have HO420 := n0_; have BK422 := n1_; have HB := n2_; clear n0_ n1_ n2_; (try clear hb); (try clear hb2); (try clear hk); (try clear hi); have hcz29_0 : w28.cell? ⟨gb422, 0, none⟩ = some (.slice Ao26 t418.length co26) := (blk_cell BK422.out 0).trans rfl; have hfz29_0 := blk_frozen BK422.out 0) | ((with_reducible refine gate_callee (f := 28) rfl ?_); refine goesL_ (some 23) rfl rfl Try.func28 (by kernel_rfl) rfl #[.agg #[.slice Ao26 t418.length co26], .int .i64 t421] rfl zl ?_; (with_reducible refine (spec_TermSize.calls k _ _ t418 t421 t424 _ ?side1 ?side2 A6.out).mono ?_); (case side1 => exact zc (Kd.R_reads' HO420.out).2.2); (case side2 => exact (Kd.R_reads' HO420.out).2.1); rintro e w30 ⟨rfl, hb⟩; refine ⟨_, rfl, ?_⟩; have n0_ := Aside0.mk (Kd.R_below (zr HO420.out) hb); have n1_ := Aside0.mk (blk_below (zh BK422.out) hb); have n2_ := Aside0.mk (below_step (zb HB.out) hb); clear HO420; clear BK422; clear HB; have HO420 := n0_; have BK422 := n1_; have HB := n2_; clear n0_ n1_ n2_; (try clear hb); (try clear hb2); (try clear hk); (try clear hi); have hcz31_0 : w30.cell? ⟨gb422, 0, none⟩ = some (.slice Ao26 t418.length co26) := (blk_cell BK422.out 0).trans rfl; have hfz31_0 := blk_frozen BK422.out 0) | ((with_reducible refine gate_callee (f := 39) rfl ?_); refine goesL_ (some 29) rfl rfl Try.func39 (by kernel_rfl) rfl #[.agg #[.slice Ao26 t418.length co26], .int .i64 t421] rfl zl ?_; (with_reducible refine (impl_TermDeep.calls k _ _ t418 t421 t425 _ ?side1 ?side2 A9.out).mono ?_); (case side1 => exact zc (Kd.R_reads' HO420.out).2.2); (case side2 => exact (Kd.R_reads' HO420.out).2.1); rintro e w32 ⟨rfl, hb⟩; refine ⟨_, rfl, ?_⟩; have n0_ := Aside0.mk (Kd.R_below (zr HO420.out) hb); have n1_ := Aside0.mk (blk_below (zh BK422.out) hb); have n2_ := Aside0.mk (below_step (zb HB.out) hb); clear HO420; clear BK422; clear HB; have HO420 := n0_; have BK422 := n1_; have HB := n2_; clear n0_ n1_ n2_; (try clear hb); (try clear hb2); (try clear hk); (try clear hi)))
     go_ret
     exact ⟨ze, zb HB.out⟩
   ·rw [if_neg c8] at H
    have c8b0 : (t423 == 0) = false := beq_eq_false_iff_ne.mpr c8
    have c8b1 : (t423 != 0) = true := bne_iff_ne.mpr c8
    replace H := Option.bind_eq_some_iff.mp H
    obtain ⟨t429, A330, H⟩ := H
    replace H : (laws_FnSizes.l0 k t421 t423 t429 1 0 0 t418) = some r := H
    have A33 := Aside0.mk A330
    clear A330
    have H' := Aside0.mk H
    clear H
    go_enter Try.func9, Try.ntmps9
    go_wp2_with (first | ((with_reducible refine gate_callee (f := 34) rfl ?_); refine goesL_ (some 11) rfl rfl Try.func34 (by kernel_rfl) rfl #[.slice A0 l0.length c0] rfl zl ?_; (with_reducible refine (laws_big.calls _ _ l0 false _ ?side1 ?side2 A2.out).mono ?_); (case side1 => exact zc HR0.out); (case side2 => exact HC0.out); rintro e w' ⟨rfl, ⟨nd, rfl⟩⟩; refine ⟨_, rfl, ?_⟩) | ((with_reducible refine gate_callee (f := 38) rfl ?_); refine goesL_ (some 14) rfl rfl Try.func38 (by kernel_rfl) rfl #[.slice A0 l0.length c0] rfl zl ?_; (with_reducible refine (spec_DrawTermSize.calls k _ _ l0 t418 t421 _ ?side1 ?side2 A4.out).mono ?_); (case side1 => exact zc HR0.out); (case side2 => exact HC0.out); rintro e w34 ⟨v419, rfl, ho0, hb⟩; refine ⟨_, rfl, ?_⟩; have n0_ := Aside0.mk (Kd.R_lower ho0 (below_size (zb HB.out))); have n1_ := Aside0.mk (below_step (zb HB.out) hb); clear HB; have HO420 := n0_; have HB := n1_; clear n0_ n1_; (try clear hb); (try clear hb2); (try clear hk); (try clear hi); (try clear ho0)) | ((with_reducible refine gate_dst (N := 3) rfl ?_); (try (refine gate_guard (by rfl) ?_; dsimp only)); refine box_event ?hg (N := 3) ?hd (cs := #[.slice none 0 0]) (t := 30) ?hr ?_; (case hd => rfl); (case hg => rfl); (case hr => first | (go_simp; done) | (go_simp; rfl)); intro gb422 hg w35 hbox hb; have n0_ := Aside0.mk (Kd.R_below (zr HO420.out) hb); have n1_ := Aside0.mk (below_step (zb HB.out) hb); have n2_ := Aside0.mk (hbox); have n3_ := Aside0.mk ((by rw [hg]; exact (below_size (zb HB.out)) : w.heap.size ≤ gb422)); have n4_ := Aside0.mk ((by rw [hg]; exact (below_size (zb HB.out)) : w.heap.size ≤ gb422)); clear HO420; clear HB; have HO420 := n0_; have HB := n1_; have BK422 := n2_; have GW422 := n3_; have GE422 := n4_; clear n0_ n1_ n2_ n3_ n4_; clear hb hbox hg; obtain ⟨Ao36, co36, eo36⟩ := Kd.R_slice HO420.out; subst eo36; have hcz37_0 : w35.cell? ⟨gb422, 0, none⟩ = some (.slice none 0 0) := (blk_cell BK422.out 0).trans rfl; have hfz37_0 := blk_frozen BK422.out 0) | ((with_reducible refine gate_callee (f := 29) rfl ?_); refine goesL_ (some 19) rfl rfl Try.func29 (by kernel_rfl) rfl #[.agg #[.slice Ao36 t418.length co36], .int .i64 t421] rfl zl ?_; (with_reducible refine (impl_TermSize.calls k _ _ t418 t421 t423 _ ?side1 ?side2 A5.out).mono ?_); (case side1 => refine (Kd.R_reads' (e := 34) (base := w.heap.size) (ok := fun k_ => True) (n := t418.length) (c := co36) ?_).2.2; exact (by (with_reducible repeat (first | apply Kd.R_alloc | apply Kd.R_drewN | apply Kd.R_drew)); exact (Kd.R_mono (Kd.R_far (p := ⟨gb422, 0, none⟩) (Kd.R_types HO420.out BK422.out (by decide)) (fun _ hk => hk.2) (.slice Ao36 t418.length co36)) (fun _ h_ => h_.1)))); (case side2 => exact (Kd.R_reads' HO420.out).2.1); rintro e w38 ⟨rfl, hb⟩; refine ⟨_, rfl, ?_⟩; have n0_ := Aside0.mk (Kd.R_below (by (with_reducible repeat (first | apply Kd.R_alloc | apply Kd.R_drewN | apply Kd.R_drew)); exact (Kd.R_mono (Kd.R_far (p := ⟨gb422, 0, none⟩) (Kd.R_types HO420.out BK422.out (by decide)) (fun _ hk => hk.2) (.slice Ao36 t418.length co36)) (fun _ h_ => h_.1))) hb); have n1_ := Aside0.mk (blk_below (g := gb422) (o := .cells #[.slice Ao36 t418.length co36] 30 (0, 0)) (by (with_reducible repeat (first | refine blk_drewN ?_ _ | refine blk_drew ?_ | refine blk_alloc ?_ _)); refine blk_put (cs := #[.slice none 0 0]) ?_ 0 _ rfl; (with_reducible repeat (first | refine blk_drewN ?_ _ | refine blk_drew ?_ | refine blk_alloc ?_ _)); exact BK422.out) hb); have n2_ := Aside0.mk (below_step (zb HB.out) hb); clear HO420; clear BK422; clear HB; have HO420 := n0_; have BK422 := n1_; have HB := n2_; clear n0_ n1_ n2_; (try clear hb); (try clear hb2); (try clear hk); (try clear hi); have hcz39_0 : w38.cell? ⟨gb422, 0, none⟩ = some (.slice Ao36 t418.length co36) := (blk_cell BK422.out 0).trans rfl; have hfz39_0 := blk_frozen BK422.out 0) | ((with_reducible refine gate_callee (f := 28) rfl ?_); refine goesL_ (some 23) rfl rfl Try.func28 (by kernel_rfl) rfl #[.agg #[.slice Ao36 t418.length co36], .int .i64 t421] rfl zl ?_; (with_reducible refine (spec_TermSize.calls k _ _ t418 t421 t424 _ ?side1 ?side2 A6.out).mono ?_); (case side1 => exact zc (Kd.R_reads' HO420.out).2.2); (case side2 => exact (Kd.R_reads' HO420.out).2.1); rintro e w40 ⟨rfl, hb⟩; refine ⟨_, rfl, ?_⟩; have n0_ := Aside0.mk (Kd.R_below (zr HO420.out) hb); have n1_ := Aside0.mk (blk_below (zh BK422.out) hb); have n2_ := Aside0.mk (below_step (zb HB.out) hb); clear HO420; clear BK422; clear HB; have HO420 := n0_; have BK422 := n1_; have HB := n2_; clear n0_ n1_ n2_; (try clear hb); (try clear hb2); (try clear hk); (try clear hi); have hcz41_0 : w40.cell? ⟨gb422, 0, none⟩ = some (.slice Ao36 t418.length co36) := (blk_cell BK422.out 0).trans rfl; have hfz41_0 := blk_frozen BK422.out 0) | ((with_reducible refine gate_callee (f := 24) rfl ?_); refine goesL_ (some 40) rfl rfl Try.func24 (by kernel_rfl) rfl #[.agg #[.slice Ao36 t418.length co36], .int .i64 t421] rfl zl ?_; (with_reducible refine (impl_PartsOf.calls k _ _ t418 t421 t429 _ ?side1 ?side2 A33.out).mono ?_); (case side1 => exact zc (Kd.R_reads' HO420.out).2.2); (case side2 => exact (Kd.R_reads' HO420.out).2.1); rintro e w42 ⟨v430, rfl, ho0, hb⟩; refine ⟨_, rfl, ?_⟩; have n0_ := Aside0.mk (Kd.R_below (zr HO420.out) hb); have n1_ := Aside0.mk (Kd.R_lower ho0 (below_size (zb HB.out))); have n2_ := Aside0.mk (blk_below (zh BK422.out) hb); have n3_ := Aside0.mk (below_step (zb HB.out) hb); clear HO420; clear BK422; clear HB; have HO420 := n0_; have HO431 := n1_; have BK422 := n2_; have HB := n3_; clear n0_ n1_ n2_ n3_; (try clear hb); (try clear hb2); (try clear hk); (try clear hi); (try clear ho0)))
    go_loopg [7, 8, 9] k (fun kq v7 v8 v9 w' => ∃ (x7_1 : Int) (x8_1 : Int) (x9_1 : Int), v7 = .int .i64 x7_1 ∧ v8 = .int .i64 x8_1 ∧ v9 = .int .i64 x9_1 ∧ Aside0 (laws_FnSizes.l0 kq t421 t423 t429 x7_1 x8_1 x9_1 t418 = some r) ∧ Aside0 (kq ≤ k) ∧ Aside0 (Kd.R (Kd.int .i64) 3 w' w.heap.size (fun _ => True) v430 t429) ∧ Aside0 (Kd.R k34 34 w' w.heap.size (fun _ => True) (.slice Ao36 t418.length co36) t418) ∧ Aside0 (w'.heap[gb422]? = some (.cells #[(.slice Ao36 t418.length co36)] 30 (0, 0))) ∧ Aside0 (Below w.heap.size w w'))
    case atStart => exact ⟨(1), (0), (0), (by first | rfl | (simp; done) | (simp [*]; done)), (by first | rfl | (simp; done) | (simp [*]; done)), (by first | rfl | (simp; done) | (simp [*]; done)), H', ⟨Nat.le_refl _⟩, ⟨zr HO431.out⟩, ⟨zr HO420.out⟩, ⟨zh BK422.out⟩, ⟨zb HB.out⟩⟩
    case round =>
     clear H'
     try clear c1
     try clear c2
     try clear p2
     try clear c3
     try clear c7
     try clear c7b0
     try clear c7b1
     try clear c8
     try clear c8b0
     try clear c8b1
     try clear c9
     try clear c10
     try clear c10b0
     try clear c10b1
     try clear c24
     try clear c28
     try clear c29
     try clear c34
     try clear c38
     try clear c39
     try clear hcz15_0
     try clear hcz17_0
     try clear hcz19_0
     try clear hcz21_0
     try clear hcz27_0
     try clear hcz29_0
     try clear hcz31_0
     try clear hcz37_0
     try clear hcz39_0
     try clear hcz41_0
     try clear hfz15_0
     try clear hfz17_0
     try clear hfz19_0
     try clear hfz21_0
     try clear hfz27_0
     try clear hfz29_0
     try clear hfz31_0
     try clear hfz37_0
     try clear hfz39_0
     try clear hfz41_0
     obtain ⟨x7_1, x8_1, x9_1, rfl, rfl, rfl, HA, HK1, HO_6, HO_423000, BK422, HB⟩ := hrel
     cases gk with
     | zero => exact absurd HA.out (by simp [laws_FnSizes.l0])
     | succ k1 =>
      have H := HA.out
      clear HA
      simp only [laws_FnSizes.l0] at H
      by_cases c43 : x9_1 < (t429.length : Int)
      ·rw [if_pos c43] at H
       have c43b0 : decide (x9_1 < (t429.length : Int)) = true := decide_eq_true c43
       clear c43
       by_cases c44 : 0 ≤ x9_1
       ·rw [if_pos c44] at H
        have c44b0 : decide (0 ≤ x9_1) = true := decide_eq_true c44
        clear c44
        replace H := Option.bind_eq_some_iff.mp H
        obtain ⟨t435, A450, H⟩ := H
        replace H : ((impl_TermDeep.f k1 t418 (rd t429 x9_1)).bind fun t437 => (if t437 > x8_1 then ((impl_TermDeep.f k1 t418 (rd t429 x9_1)).bind fun t439 => (laws_FnSizes.l0 k1 t421 t423 t429 (wrap64 (x7_1 + t435)) t439 (wrap64 (x9_1 + 1)) t418)) else (laws_FnSizes.l0 k1 t421 t423 t429 (wrap64 (x7_1 + t435)) x8_1 (wrap64 (x9_1 + 1)) t418))) = some r := H
        have A45 := Aside0.mk A450
        clear A450
        replace H := Option.bind_eq_some_iff.mp H
        obtain ⟨t437, A460, H⟩ := H
        replace H : (if t437 > x8_1 then ((impl_TermDeep.f k1 t418 (rd t429 x9_1)).bind fun t439 => (laws_FnSizes.l0 k1 t421 t423 t429 (wrap64 (x7_1 + t435)) t439 (wrap64 (x9_1 + 1)) t418)) else (laws_FnSizes.l0 k1 t421 t423 t429 (wrap64 (x7_1 + t435)) x8_1 (wrap64 (x9_1 + 1)) t418)) = some r := H
        have A46 := Aside0.mk A460
        clear A460
        by_cases c47 : t437 > x8_1
        ·rw [if_pos c47] at H
         have c47b0 : decide (x8_1 < t437) = true := decide_eq_true c47
         clear c47
         replace H := Option.bind_eq_some_iff.mp H
         obtain ⟨t439, A480, H⟩ := H
         replace H : (laws_FnSizes.l0 k1 t421 t423 t429 (wrap64 (x7_1 + t435)) t439 (wrap64 (x9_1 + 1)) t418) = some r := H
         have A48 := Aside0.mk A480
         clear A480
         have H' := Aside0.mk H
         clear H
         obtain ⟨Ao49, co49, eo49⟩ := Kd.R_slice HO_6.out
         subst eo49
         try go_wp2
         have n0_ := Aside0.mk (Kd.R_drew HO_6.out)
         have n1_ := Aside0.mk (Kd.R_drew HO_423000.out)
         have n2_ := Aside0.mk (blk_drew BK422.out)
         have n3_ := Aside0.mk (below_drew1 HB.out)
         clear HO_6
         clear HO_423000
         clear BK422
         clear HB
         have HO_6 := n0_
         have HO_423000 := n1_
         have BK422 := n2_
         have HB := n3_
         clear n0_ n1_ n2_ n3_
         have p434 : 0 ≤ (x9_1 : Int) := of_decide_eq_true (by first | (with_reducible assumption) | assumption)
         have q434 : x9_1 < (t429.length : Int) := of_decide_eq_true (by first | (with_reducible assumption) | assumption)
         obtain ⟨ad434, e434, hx434_0⟩ := Kd.at_int (Kd.R_reads' HO_6.out).2.2 x9_1 p434 q434
         cases e434
         replace p434 := eq_true p434
         replace q434 := eq_true q434
         refine start_ (n := 9) (S := fun w' => w'.cell? ⟨gb422, 0, none⟩ = some (.slice Ao36 t418.length co36) ∧ w'.cell? (ad434.add (x9_1).toNat) = some (.int .i64 (rd t429 x9_1))) (ds := []) #[false, false, false, false, false, false, false, false, false] (by kernel_rfl) rfl rfl ⟨(blk_cell BK422.out 0).trans rfl, hx434_0⟩ (fun hHeld => ?_); refine with_tabW laws_FnSizes.tab14 laws_FnSizes.bits14 (fun HT_ HW_ => ?_)
         generalize wr.drew = w50 at HO_6 HO_423000 BK422 HB hx434_0 hHeld ⊢
         refine pure_ (i := 0) (N := some 47) (v := ?_) (a' := ?_) #[true, false, false, false, false, false, false, false, false] rfl rfl (any_of HT_.out (by kernel_rfl)) (fun _ _ _ h => h) (Or.inl ⟨by rfl, ?_⟩) ?_ ?_
         rotate_left
         ·intro w'
          go_simp
          with_reducible rfl
         rotate_left
         ·simp only [Act.put, List.setIfInBounds_toArray, List.set_cons_zero, List.set_cons_succ, i64_w, i32_w]
          rfl
         refine pure_ (i := 2) (N := some 49) (v := ?_) (a' := ?_) #[true, false, true, false, false, false, false, false, false] rfl rfl (any_of HT_.out (by kernel_rfl)) (fun _ _ _ h => h) (Or.inl ⟨by rfl, ?_⟩) ?_ ?_
         rotate_left
         ·intro w'
          go_simp
          with_reducible rfl
         rotate_left
         ·simp only [Act.put, List.setIfInBounds_toArray, List.set_cons_zero, List.set_cons_succ, i64_w, i32_w]
          rfl
         refine pure_ (i := 3) (N := some 50) (v := ?_) (a' := ?_) #[true, false, true, true, false, false, false, false, false] rfl rfl (any_of HT_.out (by kernel_rfl)) (fun _ _ _ h => h) (Or.inl ⟨by rfl, ?_⟩) ?_ ?_
         rotate_left
         ·intro w'
          go_simp
          with_reducible rfl
         rotate_left
         ·simp only [Act.put, List.setIfInBounds_toArray, List.set_cons_zero, List.set_cons_succ, i64_w, i32_w]
          rfl
         refine pure_ (i := 4) (N := some 51) (v := ?_) (a' := ?_) #[true, false, true, true, true, false, false, false, false] rfl rfl (any_of HT_.out (by kernel_rfl)) (fun _ _ _ h => h) (Or.inl ⟨by rfl, ?_⟩) ?_ ?_
         rotate_left
         ·intro w'
          go_simp
          with_reducible rfl
         rotate_left
         ·simp only [Act.put, List.setIfInBounds_toArray, List.set_cons_zero, List.set_cons_succ, i64_w, i32_w]
          rfl
         refine take_ (i := 1) (N := some 48) (v := ?_) (a' := ?_) #[true, true, true, true, true, false, false, false, false] rfl rfl (take_ofW HT_.out HW_.out (by kernel_rfl)) (fun _ _ _ h => h) (Or.inl ⟨by rfl, ?_⟩) hHeld ?_ ?_
         rotate_left
         ·rintro w' ⟨s0, s1⟩
          go_simp
          with_reducible rfl
         rotate_left
         ·simp only [Act.put, List.setIfInBounds_toArray, List.set_cons_zero, List.set_cons_succ, i64_w, i32_w]
          rfl
         refine take_ (i := 5) (N := some 52) (v := ?_) (a' := ?_) #[true, true, true, true, true, true, false, false, false] rfl rfl (take_ofW HT_.out HW_.out (by kernel_rfl)) (fun _ _ _ h => h) (Or.inl ⟨by rfl, ?_⟩) hHeld ?_ ?_
         rotate_left
         ·rintro w' ⟨s0, s1⟩
          go_simp
          with_reducible rfl
         rotate_left
         ·simp only [Act.put, List.setIfInBounds_toArray, List.set_cons_zero, List.set_cons_succ, i64_w, i32_w]
          rfl
         refine one_ (i := 6) (N := some 53) #[true, true, true, true, true, true, true, false, false] rfl rfl (one_of HT_.out (by kernel_rfl)) (by decide) (fun K hK => ?_)
         refine goes_ Try.func29 (by kernel_rfl) rfl #[.agg #[.slice Ao36 t418.length co36], .int .i64 (rd t429 x9_1)] (by rfl) rfl rfl zl ?_
         with_reducible refine (impl_TermSize.calls k1 _ _ t418 (rd t429 x9_1) t435 _ ?side1 ?side2 A45.out).mono ?_
         (case side1 => exact zc (Kd.R_reads' HO_423000.out).2.2)
         (case side2 => exact (Kd.R_reads' HO_423000.out).2.1)
         rintro e w51 ⟨rfl, hb⟩
         have HS1_ := (hb.cell (World.block_lt_of_cell? _ _ (hHeld.2))).trans (hHeld.2)
         refine ⟨_, rfl, ?_⟩
         have n0_ := Aside0.mk (Kd.R_below (zr HO_6.out) hb)
         have n1_ := Aside0.mk (Kd.R_below (zr HO_423000.out) hb)
         have n2_ := Aside0.mk (blk_below (zh BK422.out) hb)
         have n3_ := Aside0.mk (below_step (zb HB.out) hb)
         clear HO_6
         clear HO_423000
         clear BK422
         clear HB
         have HO_6 := n0_
         have HO_423000 := n1_
         have BK422 := n2_
         have HB := n3_
         clear n0_ n1_ n2_ n3_
         (try clear hb)
         (try clear hb2)
         (try clear hk)
         (try clear hi)
         refine hK.out _ _ ⟨(blk_cell BK422.out 0).trans rfl, HS1_⟩ (fun hHeld => ?_)
         clear hK K
         refine norm_ (a' := ?_) ?_ ?_
         rotate_left
         ·show Act.put _ (some 53) _ = _
          simp only [Act.put, List.setIfInBounds_toArray, List.set_cons_zero, List.set_cons_succ, i64_w, i32_w]
          rfl
         refine pure_ (i := 7) (N := some 54) (v := ?_) (a' := ?_) #[true, true, true, true, true, true, true, true, false] rfl rfl (any_of HT_.out (by kernel_rfl)) (fun _ _ _ h => h) (Or.inl ⟨by rfl, ?_⟩) ?_ ?_
         rotate_left
         ·intro w'
          go_simp
          with_reducible rfl
         rotate_left
         ·simp only [Act.put, List.setIfInBounds_toArray, List.set_cons_zero, List.set_cons_succ, i64_w, i32_w]
          rfl
         refine pure_ (i := 8) (N := some 7) (v := ?_) (a' := ?_) #[true, true, true, true, true, true, true, true, true] rfl rfl (any_of HT_.out (by kernel_rfl)) (fun _ _ _ h => h) (Or.inl ⟨by rfl, ?_⟩) ?_ ?_
         rotate_left
         ·intro w'
          go_simp
          with_reducible rfl
         rotate_left
         ·simp only [Act.put, List.setIfInBounds_toArray, List.set_cons_zero, List.set_cons_succ, i64_w, i32_w]
          rfl
         refine done_ (done_of HT_.out (by kernel_rfl)) ?_
         try go_wp2
         have n0_ := Aside0.mk (Kd.R_drew HO_6.out)
         have n1_ := Aside0.mk (Kd.R_drew HO_423000.out)
         have n2_ := Aside0.mk (blk_drew BK422.out)
         have n3_ := Aside0.mk (below_drew1 HB.out)
         clear HO_6
         clear HO_423000
         clear BK422
         clear HB
         have HO_6 := n0_
         have HO_423000 := n1_
         have BK422 := n2_
         have HB := n3_
         clear n0_ n1_ n2_ n3_
         have p436 : 0 ≤ (x9_1 : Int) := of_decide_eq_true (by first | (with_reducible assumption) | assumption)
         have q436 : x9_1 < (t429.length : Int) := of_decide_eq_true (by first | (with_reducible assumption) | assumption)
         obtain ⟨ad436, e436, hx436_0⟩ := Kd.at_int (Kd.R_reads' HO_6.out).2.2 x9_1 p436 q436
         obtain rfl : ad434 = ad436 := (by injection e436)
         replace p436 := eq_true p436
         replace q436 := eq_true q436
         refine start_ (n := 8) (S := fun w' => w'.cell? ⟨gb422, 0, none⟩ = some (.slice Ao36 t418.length co36) ∧ w'.cell? (ad434.add (x9_1).toNat) = some (.int .i64 (rd t429 x9_1))) (ds := []) #[false, false, false, false, false, false, false, false] (by kernel_rfl) rfl rfl ⟨(blk_cell BK422.out 0).trans rfl, hx436_0⟩ (fun hHeld => ?_); refine with_tabW laws_FnSizes.tab15 laws_FnSizes.bits15 (fun HT_ HW_ => ?_)
         generalize w51.drew = w52 at HO_6 HO_423000 BK422 HB hx436_0 hHeld ⊢
         refine pure_ (i := 1) (N := some 56) (v := ?_) (a' := ?_) #[false, true, false, false, false, false, false, false] rfl rfl (any_of HT_.out (by kernel_rfl)) (fun _ _ _ h => h) (Or.inl ⟨by rfl, ?_⟩) ?_ ?_
         rotate_left
         ·intro w'
          go_simp
          with_reducible rfl
         rotate_left
         ·simp only [Act.put, List.setIfInBounds_toArray, List.set_cons_zero, List.set_cons_succ, i64_w, i32_w]
          rfl
         refine pure_ (i := 2) (N := some 57) (v := ?_) (a' := ?_) #[false, true, true, false, false, false, false, false] rfl rfl (any_of HT_.out (by kernel_rfl)) (fun _ _ _ h => h) (Or.inl ⟨by rfl, ?_⟩) ?_ ?_
         rotate_left
         ·intro w'
          go_simp
          with_reducible rfl
         rotate_left
         ·simp only [Act.put, List.setIfInBounds_toArray, List.set_cons_zero, List.set_cons_succ, i64_w, i32_w]
          rfl
         refine pure_ (i := 3) (N := some 58) (v := ?_) (a' := ?_) #[false, true, true, true, false, false, false, false] rfl rfl (any_of HT_.out (by kernel_rfl)) (fun _ _ _ h => h) (Or.inl ⟨by rfl, ?_⟩) ?_ ?_
         rotate_left
         ·intro w'
          go_simp
          with_reducible rfl
         rotate_left
         ·simp only [Act.put, List.setIfInBounds_toArray, List.set_cons_zero, List.set_cons_succ, i64_w, i32_w]
          rfl
         refine pure_ (i := 6) (N := some 61) (v := ?_) (a' := ?_) #[false, true, true, true, false, false, true, false] rfl rfl (any_of HT_.out (by kernel_rfl)) (fun _ _ _ h => h) (Or.inl ⟨by rfl, ?_⟩) ?_ ?_
         rotate_left
         ·intro w'
          go_simp
          with_reducible rfl
         rotate_left
         ·simp only [Act.put, List.setIfInBounds_toArray, List.set_cons_zero, List.set_cons_succ, i64_w, i32_w]
          rfl
         refine take_ (i := 0) (N := some 55) (v := ?_) (a' := ?_) #[true, true, true, true, false, false, true, false] rfl rfl (take_ofW HT_.out HW_.out (by kernel_rfl)) (fun _ _ _ h => h) (Or.inl ⟨by rfl, ?_⟩) hHeld ?_ ?_
         rotate_left
         ·rintro w' ⟨s0, s1⟩
          go_simp
          with_reducible rfl
         rotate_left
         ·simp only [Act.put, List.setIfInBounds_toArray, List.set_cons_zero, List.set_cons_succ, i64_w, i32_w]
          rfl
         refine take_ (i := 4) (N := some 59) (v := ?_) (a' := ?_) #[true, true, true, true, true, false, true, false] rfl rfl (take_ofW HT_.out HW_.out (by kernel_rfl)) (fun _ _ _ h => h) (Or.inl ⟨by rfl, ?_⟩) hHeld ?_ ?_
         rotate_left
         ·rintro w' ⟨s0, s1⟩
          go_simp
          with_reducible rfl
         rotate_left
         ·simp only [Act.put, List.setIfInBounds_toArray, List.set_cons_zero, List.set_cons_succ, i64_w, i32_w]
          rfl
         refine one_ (i := 5) (N := some 60) #[true, true, true, true, true, true, true, false] rfl rfl (one_of HT_.out (by kernel_rfl)) (by decide) (fun K hK => ?_)
         refine goes_ Try.func39 (by kernel_rfl) rfl #[.agg #[.slice Ao36 t418.length co36], .int .i64 (rd t429 x9_1)] (by rfl) rfl rfl zl ?_
         with_reducible refine (impl_TermDeep.calls k1 _ _ t418 (rd t429 x9_1) t437 _ ?side1 ?side2 A46.out).mono ?_
         (case side1 => exact zc (Kd.R_reads' HO_423000.out).2.2)
         (case side2 => exact (Kd.R_reads' HO_423000.out).2.1)
         rintro e w53 ⟨rfl, hb⟩
         have HS1_ := (hb.cell (World.block_lt_of_cell? _ _ (hHeld.2))).trans (hHeld.2)
         refine ⟨_, rfl, ?_⟩
         have n0_ := Aside0.mk (Kd.R_below (zr HO_6.out) hb)
         have n1_ := Aside0.mk (Kd.R_below (zr HO_423000.out) hb)
         have n2_ := Aside0.mk (blk_below (zh BK422.out) hb)
         have n3_ := Aside0.mk (below_step (zb HB.out) hb)
         clear HO_6
         clear HO_423000
         clear BK422
         clear HB
         have HO_6 := n0_
         have HO_423000 := n1_
         have BK422 := n2_
         have HB := n3_
         clear n0_ n1_ n2_ n3_
         (try clear hb)
         (try clear hb2)
         (try clear hk)
         (try clear hi)
         refine hK.out _ _ ⟨(blk_cell BK422.out 0).trans rfl, HS1_⟩ (fun hHeld => ?_)
         clear hK K
         refine norm_ (a' := ?_) ?_ ?_
         rotate_left
         ·show Act.put _ (some 60) _ = _
          simp only [Act.put, List.setIfInBounds_toArray, List.set_cons_zero, List.set_cons_succ, i64_w, i32_w]
          rfl
         refine pure_ (i := 7) (N := some 62) (v := ?_) (a' := ?_) #[true, true, true, true, true, true, true, true] rfl rfl (any_of HT_.out (by kernel_rfl)) (fun _ _ _ h => h) (Or.inl ⟨by rfl, ?_⟩) ?_ ?_
         rotate_left
         ·intro w'
          go_simp
          with_reducible rfl
         rotate_left
         ·simp only [Act.put, List.setIfInBounds_toArray, List.set_cons_zero, List.set_cons_succ, i64_w, i32_w]
          rfl
         refine done_ (done_of HT_.out (by kernel_rfl)) ?_
         try go_wp2
         have n0_ := Aside0.mk (Kd.R_drew HO_6.out)
         have n1_ := Aside0.mk (Kd.R_drew HO_423000.out)
         have n2_ := Aside0.mk (blk_drew BK422.out)
         have n3_ := Aside0.mk (below_drew1 HB.out)
         clear HO_6
         clear HO_423000
         clear BK422
         clear HB
         have HO_6 := n0_
         have HO_423000 := n1_
         have BK422 := n2_
         have HB := n3_
         clear n0_ n1_ n2_ n3_
         have p438 : 0 ≤ (x9_1 : Int) := of_decide_eq_true (by first | (with_reducible assumption) | assumption)
         have q438 : x9_1 < (t429.length : Int) := of_decide_eq_true (by first | (with_reducible assumption) | assumption)
         obtain ⟨ad438, e438, hx438_0⟩ := Kd.at_int (Kd.R_reads' HO_6.out).2.2 x9_1 p438 q438
         obtain rfl : ad434 = ad438 := (by injection e438)
         replace p438 := eq_true p438
         replace q438 := eq_true q438
         refine start_ (n := 7) (S := fun w' => w'.cell? ⟨gb422, 0, none⟩ = some (.slice Ao36 t418.length co36) ∧ w'.cell? (ad434.add (x9_1).toNat) = some (.int .i64 (rd t429 x9_1))) (ds := []) #[false, false, false, false, false, false, false] (by kernel_rfl) rfl rfl ⟨(blk_cell BK422.out 0).trans rfl, hx438_0⟩ (fun hHeld => ?_)
         generalize w53.drew = w54 at HO_6 HO_423000 BK422 HB hx438_0 hHeld ⊢
         refine pure_ (i := 1) (N := some 64) (v := ?_) (a' := ?_) #[false, true, false, false, false, false, false] rfl rfl (by kernel_rfl) (fun _ _ _ h => h) (Or.inl ⟨by rfl, ?_⟩) ?_ ?_
         rotate_left
         ·intro w'
          go_simp
          with_reducible rfl
         rotate_left
         ·simp only [Act.put, List.setIfInBounds_toArray, List.set_cons_zero, List.set_cons_succ, i64_w, i32_w]
          rfl
         refine pure_ (i := 2) (N := some 65) (v := ?_) (a' := ?_) #[false, true, true, false, false, false, false] rfl rfl (by kernel_rfl) (fun _ _ _ h => h) (Or.inl ⟨by rfl, ?_⟩) ?_ ?_
         rotate_left
         ·intro w'
          go_simp
          with_reducible rfl
         rotate_left
         ·simp only [Act.put, List.setIfInBounds_toArray, List.set_cons_zero, List.set_cons_succ, i64_w, i32_w]
          rfl
         refine pure_ (i := 3) (N := some 66) (v := ?_) (a' := ?_) #[false, true, true, true, false, false, false] rfl rfl (by kernel_rfl) (fun _ _ _ h => h) (Or.inl ⟨by rfl, ?_⟩) ?_ ?_
         rotate_left
         ·intro w'
          go_simp
          with_reducible rfl
         rotate_left
         ·simp only [Act.put, List.setIfInBounds_toArray, List.set_cons_zero, List.set_cons_succ, i64_w, i32_w]
          rfl
         refine take_ (i := 0) (N := some 63) (v := ?_) (a' := ?_) #[true, true, true, true, false, false, false] rfl rfl (by kernel_rfl) (fun _ _ _ h => h) (Or.inl ⟨by rfl, ?_⟩) hHeld ?_ ?_
         rotate_left
         ·rintro w' ⟨s0, s1⟩
          go_simp
          with_reducible rfl
         rotate_left
         ·simp only [Act.put, List.setIfInBounds_toArray, List.set_cons_zero, List.set_cons_succ, i64_w, i32_w]
          rfl
         refine take_ (i := 4) (N := some 67) (v := ?_) (a' := ?_) #[true, true, true, true, true, false, false] rfl rfl (by kernel_rfl) (fun _ _ _ h => h) (Or.inl ⟨by rfl, ?_⟩) hHeld ?_ ?_
         rotate_left
         ·rintro w' ⟨s0, s1⟩
          go_simp
          with_reducible rfl
         rotate_left
         ·simp only [Act.put, List.setIfInBounds_toArray, List.set_cons_zero, List.set_cons_succ, i64_w, i32_w]
          rfl
         refine one_ (i := 5) (N := some 68) #[true, true, true, true, true, true, false] rfl rfl (by kernel_rfl) (by decide) (fun K hK => ?_)
         refine goes_ Try.func39 (by kernel_rfl) rfl #[.agg #[.slice Ao36 t418.length co36], .int .i64 (rd t429 x9_1)] (by rfl) rfl rfl zl ?_
         with_reducible refine (impl_TermDeep.calls k1 _ _ t418 (rd t429 x9_1) t439 _ ?side1 ?side2 A48.out).mono ?_
         (case side1 => exact zc (Kd.R_reads' HO_423000.out).2.2)
         (case side2 => exact (Kd.R_reads' HO_423000.out).2.1)
         rintro e w55 ⟨rfl, hb⟩
         have HS1_ := (hb.cell (World.block_lt_of_cell? _ _ (hHeld.2))).trans (hHeld.2)
         refine ⟨_, rfl, ?_⟩
         have n0_ := Aside0.mk (Kd.R_below (zr HO_6.out) hb)
         have n1_ := Aside0.mk (Kd.R_below (zr HO_423000.out) hb)
         have n2_ := Aside0.mk (blk_below (zh BK422.out) hb)
         have n3_ := Aside0.mk (below_step (zb HB.out) hb)
         clear HO_6
         clear HO_423000
         clear BK422
         clear HB
         have HO_6 := n0_
         have HO_423000 := n1_
         have BK422 := n2_
         have HB := n3_
         clear n0_ n1_ n2_ n3_
         (try clear hb)
         (try clear hb2)
         (try clear hk)
         (try clear hi)
         refine hK.out _ _ ⟨(blk_cell BK422.out 0).trans rfl, HS1_⟩ (fun hHeld => ?_)
         clear hK K
         refine norm_ (a' := ?_) ?_ ?_
         rotate_left
         ·show Act.put _ (some 68) _ = _
          simp only [Act.put, List.setIfInBounds_toArray, List.set_cons_zero, List.set_cons_succ, i64_w, i32_w]
          rfl
         refine pure_ (i := 6) (N := some 8) (v := ?_) (a' := ?_) #[true, true, true, true, true, true, true] rfl rfl (by kernel_rfl) (fun _ _ _ h => h) (Or.inl ⟨by rfl, ?_⟩) ?_ ?_
         rotate_left
         ·intro w'
          go_simp
          with_reducible rfl
         rotate_left
         ·simp only [Act.put, List.setIfInBounds_toArray, List.set_cons_zero, List.set_cons_succ, i64_w, i32_w]
          rfl
         refine done_ (by kernel_rfl) ?_
         try go_wp2
         go_roundg k1
         case measure => have := HK1.out; omega
         case rel => exact ⟨(wrap64 (x7_1 + t435)), (t439), (wrap64 (x9_1 + 1)), (by first | rfl | (simp; done) | (simp [*]; done)), (by first | rfl | (simp; done) | (simp [*]; done)), (by first | rfl | (simp; done) | (simp [*]; done)), H', ⟨by have := HK1.out; omega⟩, ⟨zr HO_6.out⟩, ⟨zr HO_423000.out⟩, ⟨zh BK422.out⟩, ⟨zb HB.out⟩⟩
        ·rw [if_neg c47] at H
         have c47b0 : decide (x8_1 < t437) = false := decide_eq_false c47
         clear c47
         have H' := Aside0.mk H
         clear H
         obtain ⟨Ao56, co56, eo56⟩ := Kd.R_slice HO_6.out
         subst eo56
         try go_wp2
         have n0_ := Aside0.mk (Kd.R_drew HO_6.out)
         have n1_ := Aside0.mk (Kd.R_drew HO_423000.out)
         have n2_ := Aside0.mk (blk_drew BK422.out)
         have n3_ := Aside0.mk (below_drew1 HB.out)
         clear HO_6
         clear HO_423000
         clear BK422
         clear HB
         have HO_6 := n0_
         have HO_423000 := n1_
         have BK422 := n2_
         have HB := n3_
         clear n0_ n1_ n2_ n3_
         have p434 : 0 ≤ (x9_1 : Int) := of_decide_eq_true (by first | (with_reducible assumption) | assumption)
         have q434 : x9_1 < (t429.length : Int) := of_decide_eq_true (by first | (with_reducible assumption) | assumption)
         obtain ⟨ad434, e434, hx434_0⟩ := Kd.at_int (Kd.R_reads' HO_6.out).2.2 x9_1 p434 q434
         cases e434
         replace p434 := eq_true p434
         replace q434 := eq_true q434
         refine start_ (n := 9) (S := fun w' => w'.cell? ⟨gb422, 0, none⟩ = some (.slice Ao36 t418.length co36) ∧ w'.cell? (ad434.add (x9_1).toNat) = some (.int .i64 (rd t429 x9_1))) (ds := []) #[false, false, false, false, false, false, false, false, false] (by kernel_rfl) rfl rfl ⟨(blk_cell BK422.out 0).trans rfl, hx434_0⟩ (fun hHeld => ?_); refine with_tabW laws_FnSizes.tab14 laws_FnSizes.bits14 (fun HT_ HW_ => ?_)
         generalize wr.drew = w57 at HO_6 HO_423000 BK422 HB hx434_0 hHeld ⊢
         refine pure_ (i := 0) (N := some 47) (v := ?_) (a' := ?_) #[true, false, false, false, false, false, false, false, false] rfl rfl (any_of HT_.out (by kernel_rfl)) (fun _ _ _ h => h) (Or.inl ⟨by rfl, ?_⟩) ?_ ?_
         rotate_left
         ·intro w'
          go_simp
          with_reducible rfl
         rotate_left
         ·simp only [Act.put, List.setIfInBounds_toArray, List.set_cons_zero, List.set_cons_succ, i64_w, i32_w]
          rfl
         refine pure_ (i := 2) (N := some 49) (v := ?_) (a' := ?_) #[true, false, true, false, false, false, false, false, false] rfl rfl (any_of HT_.out (by kernel_rfl)) (fun _ _ _ h => h) (Or.inl ⟨by rfl, ?_⟩) ?_ ?_
         rotate_left
         ·intro w'
          go_simp
          with_reducible rfl
         rotate_left
         ·simp only [Act.put, List.setIfInBounds_toArray, List.set_cons_zero, List.set_cons_succ, i64_w, i32_w]
          rfl
         refine pure_ (i := 3) (N := some 50) (v := ?_) (a' := ?_) #[true, false, true, true, false, false, false, false, false] rfl rfl (any_of HT_.out (by kernel_rfl)) (fun _ _ _ h => h) (Or.inl ⟨by rfl, ?_⟩) ?_ ?_
         rotate_left
         ·intro w'
          go_simp
          with_reducible rfl
         rotate_left
         ·simp only [Act.put, List.setIfInBounds_toArray, List.set_cons_zero, List.set_cons_succ, i64_w, i32_w]
          rfl
         refine pure_ (i := 4) (N := some 51) (v := ?_) (a' := ?_) #[true, false, true, true, true, false, false, false, false] rfl rfl (any_of HT_.out (by kernel_rfl)) (fun _ _ _ h => h) (Or.inl ⟨by rfl, ?_⟩) ?_ ?_
         rotate_left
         ·intro w'
          go_simp
          with_reducible rfl
         rotate_left
         ·simp only [Act.put, List.setIfInBounds_toArray, List.set_cons_zero, List.set_cons_succ, i64_w, i32_w]
          rfl
         refine take_ (i := 1) (N := some 48) (v := ?_) (a' := ?_) #[true, true, true, true, true, false, false, false, false] rfl rfl (take_ofW HT_.out HW_.out (by kernel_rfl)) (fun _ _ _ h => h) (Or.inl ⟨by rfl, ?_⟩) hHeld ?_ ?_
         rotate_left
         ·rintro w' ⟨s0, s1⟩
          go_simp
          with_reducible rfl
         rotate_left
         ·simp only [Act.put, List.setIfInBounds_toArray, List.set_cons_zero, List.set_cons_succ, i64_w, i32_w]
          rfl
         refine take_ (i := 5) (N := some 52) (v := ?_) (a' := ?_) #[true, true, true, true, true, true, false, false, false] rfl rfl (take_ofW HT_.out HW_.out (by kernel_rfl)) (fun _ _ _ h => h) (Or.inl ⟨by rfl, ?_⟩) hHeld ?_ ?_
         rotate_left
         ·rintro w' ⟨s0, s1⟩
          go_simp
          with_reducible rfl
         rotate_left
         ·simp only [Act.put, List.setIfInBounds_toArray, List.set_cons_zero, List.set_cons_succ, i64_w, i32_w]
          rfl
         refine one_ (i := 6) (N := some 53) #[true, true, true, true, true, true, true, false, false] rfl rfl (one_of HT_.out (by kernel_rfl)) (by decide) (fun K hK => ?_)
         refine goes_ Try.func29 (by kernel_rfl) rfl #[.agg #[.slice Ao36 t418.length co36], .int .i64 (rd t429 x9_1)] (by rfl) rfl rfl zl ?_
         with_reducible refine (impl_TermSize.calls k1 _ _ t418 (rd t429 x9_1) t435 _ ?side1 ?side2 A45.out).mono ?_
         (case side1 => exact zc (Kd.R_reads' HO_423000.out).2.2)
         (case side2 => exact (Kd.R_reads' HO_423000.out).2.1)
         rintro e w58 ⟨rfl, hb⟩
         have HS1_ := (hb.cell (World.block_lt_of_cell? _ _ (hHeld.2))).trans (hHeld.2)
         refine ⟨_, rfl, ?_⟩
         have n0_ := Aside0.mk (Kd.R_below (zr HO_6.out) hb)
         have n1_ := Aside0.mk (Kd.R_below (zr HO_423000.out) hb)
         have n2_ := Aside0.mk (blk_below (zh BK422.out) hb)
         have n3_ := Aside0.mk (below_step (zb HB.out) hb)
         clear HO_6
         clear HO_423000
         clear BK422
         clear HB
         have HO_6 := n0_
         have HO_423000 := n1_
         have BK422 := n2_
         have HB := n3_
         clear n0_ n1_ n2_ n3_
         (try clear hb)
         (try clear hb2)
         (try clear hk)
         (try clear hi)
         refine hK.out _ _ ⟨(blk_cell BK422.out 0).trans rfl, HS1_⟩ (fun hHeld => ?_)
         clear hK K
         refine norm_ (a' := ?_) ?_ ?_
         rotate_left
         ·show Act.put _ (some 53) _ = _
          simp only [Act.put, List.setIfInBounds_toArray, List.set_cons_zero, List.set_cons_succ, i64_w, i32_w]
          rfl
         refine pure_ (i := 7) (N := some 54) (v := ?_) (a' := ?_) #[true, true, true, true, true, true, true, true, false] rfl rfl (any_of HT_.out (by kernel_rfl)) (fun _ _ _ h => h) (Or.inl ⟨by rfl, ?_⟩) ?_ ?_
         rotate_left
         ·intro w'
          go_simp
          with_reducible rfl
         rotate_left
         ·simp only [Act.put, List.setIfInBounds_toArray, List.set_cons_zero, List.set_cons_succ, i64_w, i32_w]
          rfl
         refine pure_ (i := 8) (N := some 7) (v := ?_) (a' := ?_) #[true, true, true, true, true, true, true, true, true] rfl rfl (any_of HT_.out (by kernel_rfl)) (fun _ _ _ h => h) (Or.inl ⟨by rfl, ?_⟩) ?_ ?_
         rotate_left
         ·intro w'
          go_simp
          with_reducible rfl
         rotate_left
         ·simp only [Act.put, List.setIfInBounds_toArray, List.set_cons_zero, List.set_cons_succ, i64_w, i32_w]
          rfl
         refine done_ (done_of HT_.out (by kernel_rfl)) ?_
         try go_wp2
         have n0_ := Aside0.mk (Kd.R_drew HO_6.out)
         have n1_ := Aside0.mk (Kd.R_drew HO_423000.out)
         have n2_ := Aside0.mk (blk_drew BK422.out)
         have n3_ := Aside0.mk (below_drew1 HB.out)
         clear HO_6
         clear HO_423000
         clear BK422
         clear HB
         have HO_6 := n0_
         have HO_423000 := n1_
         have BK422 := n2_
         have HB := n3_
         clear n0_ n1_ n2_ n3_
         have p436 : 0 ≤ (x9_1 : Int) := of_decide_eq_true (by first | (with_reducible assumption) | assumption)
         have q436 : x9_1 < (t429.length : Int) := of_decide_eq_true (by first | (with_reducible assumption) | assumption)
         obtain ⟨ad436, e436, hx436_0⟩ := Kd.at_int (Kd.R_reads' HO_6.out).2.2 x9_1 p436 q436
         obtain rfl : ad434 = ad436 := (by injection e436)
         replace p436 := eq_true p436
         replace q436 := eq_true q436
         refine start_ (n := 8) (S := fun w' => w'.cell? ⟨gb422, 0, none⟩ = some (.slice Ao36 t418.length co36) ∧ w'.cell? (ad434.add (x9_1).toNat) = some (.int .i64 (rd t429 x9_1))) (ds := []) #[false, false, false, false, false, false, false, false] (by kernel_rfl) rfl rfl ⟨(blk_cell BK422.out 0).trans rfl, hx436_0⟩ (fun hHeld => ?_); refine with_tabW laws_FnSizes.tab15 laws_FnSizes.bits15 (fun HT_ HW_ => ?_)
         generalize w58.drew = w59 at HO_6 HO_423000 BK422 HB hx436_0 hHeld ⊢
         refine pure_ (i := 1) (N := some 56) (v := ?_) (a' := ?_) #[false, true, false, false, false, false, false, false] rfl rfl (any_of HT_.out (by kernel_rfl)) (fun _ _ _ h => h) (Or.inl ⟨by rfl, ?_⟩) ?_ ?_
         rotate_left
         ·intro w'
          go_simp
          with_reducible rfl
         rotate_left
         ·simp only [Act.put, List.setIfInBounds_toArray, List.set_cons_zero, List.set_cons_succ, i64_w, i32_w]
          rfl
         refine pure_ (i := 2) (N := some 57) (v := ?_) (a' := ?_) #[false, true, true, false, false, false, false, false] rfl rfl (any_of HT_.out (by kernel_rfl)) (fun _ _ _ h => h) (Or.inl ⟨by rfl, ?_⟩) ?_ ?_
         rotate_left
         ·intro w'
          go_simp
          with_reducible rfl
         rotate_left
         ·simp only [Act.put, List.setIfInBounds_toArray, List.set_cons_zero, List.set_cons_succ, i64_w, i32_w]
          rfl
         refine pure_ (i := 3) (N := some 58) (v := ?_) (a' := ?_) #[false, true, true, true, false, false, false, false] rfl rfl (any_of HT_.out (by kernel_rfl)) (fun _ _ _ h => h) (Or.inl ⟨by rfl, ?_⟩) ?_ ?_
         rotate_left
         ·intro w'
          go_simp
          with_reducible rfl
         rotate_left
         ·simp only [Act.put, List.setIfInBounds_toArray, List.set_cons_zero, List.set_cons_succ, i64_w, i32_w]
          rfl
         refine pure_ (i := 6) (N := some 61) (v := ?_) (a' := ?_) #[false, true, true, true, false, false, true, false] rfl rfl (any_of HT_.out (by kernel_rfl)) (fun _ _ _ h => h) (Or.inl ⟨by rfl, ?_⟩) ?_ ?_
         rotate_left
         ·intro w'
          go_simp
          with_reducible rfl
         rotate_left
         ·simp only [Act.put, List.setIfInBounds_toArray, List.set_cons_zero, List.set_cons_succ, i64_w, i32_w]
          rfl
         refine take_ (i := 0) (N := some 55) (v := ?_) (a' := ?_) #[true, true, true, true, false, false, true, false] rfl rfl (take_ofW HT_.out HW_.out (by kernel_rfl)) (fun _ _ _ h => h) (Or.inl ⟨by rfl, ?_⟩) hHeld ?_ ?_
         rotate_left
         ·rintro w' ⟨s0, s1⟩
          go_simp
          with_reducible rfl
         rotate_left
         ·simp only [Act.put, List.setIfInBounds_toArray, List.set_cons_zero, List.set_cons_succ, i64_w, i32_w]
          rfl
         refine take_ (i := 4) (N := some 59) (v := ?_) (a' := ?_) #[true, true, true, true, true, false, true, false] rfl rfl (take_ofW HT_.out HW_.out (by kernel_rfl)) (fun _ _ _ h => h) (Or.inl ⟨by rfl, ?_⟩) hHeld ?_ ?_
         rotate_left
         ·rintro w' ⟨s0, s1⟩
          go_simp
          with_reducible rfl
         rotate_left
         ·simp only [Act.put, List.setIfInBounds_toArray, List.set_cons_zero, List.set_cons_succ, i64_w, i32_w]
          rfl
         refine one_ (i := 5) (N := some 60) #[true, true, true, true, true, true, true, false] rfl rfl (one_of HT_.out (by kernel_rfl)) (by decide) (fun K hK => ?_)
         refine goes_ Try.func39 (by kernel_rfl) rfl #[.agg #[.slice Ao36 t418.length co36], .int .i64 (rd t429 x9_1)] (by rfl) rfl rfl zl ?_
         with_reducible refine (impl_TermDeep.calls k1 _ _ t418 (rd t429 x9_1) t437 _ ?side1 ?side2 A46.out).mono ?_
         (case side1 => exact zc (Kd.R_reads' HO_423000.out).2.2)
         (case side2 => exact (Kd.R_reads' HO_423000.out).2.1)
         rintro e w60 ⟨rfl, hb⟩
         have HS1_ := (hb.cell (World.block_lt_of_cell? _ _ (hHeld.2))).trans (hHeld.2)
         refine ⟨_, rfl, ?_⟩
         have n0_ := Aside0.mk (Kd.R_below (zr HO_6.out) hb)
         have n1_ := Aside0.mk (Kd.R_below (zr HO_423000.out) hb)
         have n2_ := Aside0.mk (blk_below (zh BK422.out) hb)
         have n3_ := Aside0.mk (below_step (zb HB.out) hb)
         clear HO_6
         clear HO_423000
         clear BK422
         clear HB
         have HO_6 := n0_
         have HO_423000 := n1_
         have BK422 := n2_
         have HB := n3_
         clear n0_ n1_ n2_ n3_
         (try clear hb)
         (try clear hb2)
         (try clear hk)
         (try clear hi)
         refine hK.out _ _ ⟨(blk_cell BK422.out 0).trans rfl, HS1_⟩ (fun hHeld => ?_)
         clear hK K
         refine norm_ (a' := ?_) ?_ ?_
         rotate_left
         ·show Act.put _ (some 60) _ = _
          simp only [Act.put, List.setIfInBounds_toArray, List.set_cons_zero, List.set_cons_succ, i64_w, i32_w]
          rfl
         refine pure_ (i := 7) (N := some 62) (v := ?_) (a' := ?_) #[true, true, true, true, true, true, true, true] rfl rfl (any_of HT_.out (by kernel_rfl)) (fun _ _ _ h => h) (Or.inl ⟨by rfl, ?_⟩) ?_ ?_
         rotate_left
         ·intro w'
          go_simp
          with_reducible rfl
         rotate_left
         ·simp only [Act.put, List.setIfInBounds_toArray, List.set_cons_zero, List.set_cons_succ, i64_w, i32_w]
          rfl
         refine done_ (done_of HT_.out (by kernel_rfl)) ?_
         try go_wp2
         go_roundg k1
         case measure => have := HK1.out; omega
         case rel => exact ⟨(wrap64 (x7_1 + t435)), (x8_1), (wrap64 (x9_1 + 1)), (by first | rfl | (simp; done) | (simp [*]; done)), (by first | rfl | (simp; done) | (simp [*]; done)), (by first | rfl | (simp; done) | (simp [*]; done)), H', ⟨by have := HK1.out; omega⟩, ⟨zr HO_6.out⟩, ⟨zr HO_423000.out⟩, ⟨zh BK422.out⟩, ⟨zb HB.out⟩⟩
       ·rw [if_neg c44] at H
        exact absurd H (by simp)
      ·rw [if_neg c43] at H
       have c43b0 : decide (x9_1 < (t429.length : Int)) = false := decide_eq_false c43
       clear c43
       by_cases c61 : x7_1 > 1001
       ·rw [if_pos c61] at H
        have c61b0 : decide (1001 < x7_1) = true := decide_eq_true c61
        clear c61
        by_cases c62 : 1001 = t423
        ·rw [if_pos c62] at H
         have c62b0 : (1001 == t423) = true := beq_iff_eq.mpr c62
         have c62b1 : (1001 != t423) = false := bne_eq_false_iff_eq.mpr c62
         clear c62
         replace H := Option.bind_eq_some_iff.mp H
         obtain ⟨t432, A630, H⟩ := H
         replace H : (some (t432 == (wrap64 (x8_1 + 1)))) = some r := H
         have A63 := Aside0.mk A630
         clear A630
         obtain rfl := Option.some.inj H
         obtain ⟨Ao64, co64, eo64⟩ := Kd.R_slice HO_6.out
         subst eo64
         have hcz65_0 : wr.cell? ⟨gb422, 0, none⟩ = some (.slice Ao36 t418.length co36) := (blk_cell BK422.out 0).trans rfl
         have hfz65_0 := blk_frozen BK422.out 0
         go_wp2_with (first | (go_at_call 39; (with_reducible refine (impl_TermDeep.calls k1 _ _ t418 t421 t432 _ ?side1 ?side2 A63.out).mono ?_); (case side1 => exact zc (Kd.R_reads' HO_423000.out).2.2); (case side2 => exact (Kd.R_reads' HO_423000.out).2.1); rintro e w66 ⟨rfl, hb⟩; have n0_ := Aside0.mk (Kd.R_below (zr HO_6.out) hb); have n1_ := Aside0.mk (Kd.R_below (zr HO_423000.out) hb); have n2_ := Aside0.mk (blk_below (zh BK422.out) hb); have n3_ := Aside0.mk (below_step (zb HB.out) hb); clear HO_6; clear HO_423000; clear BK422; clear HB; have HO_6 := n0_; have HO_423000 := n1_; have BK422 := n2_; have HB := n3_; clear n0_ n1_ n2_ n3_; (try clear hb); (try clear hb2); (try clear hk); (try clear hi)))
         go_ret
         exact ⟨ze, zb HB.out⟩
        ·rw [if_neg c62] at H
         have c62b0 : (1001 == t423) = false := beq_eq_false_iff_ne.mpr c62
         have c62b1 : (1001 != t423) = true := bne_iff_ne.mpr c62
         obtain rfl := Option.some.inj H
         obtain ⟨Ao67, co67, eo67⟩ := Kd.R_slice HO_6.out
         subst eo67
         go_wp2
         go_ret
         exact ⟨ze, zb HB.out⟩
       ·rw [if_neg c61] at H
        have c61b0 : decide (1001 < x7_1) = false := decide_eq_false c61
        clear c61
        by_cases c68 : x7_1 = t423
        ·rw [if_pos c68] at H
         have c68b0 : (x7_1 == t423) = true := beq_iff_eq.mpr c68
         have c68b1 : (x7_1 != t423) = false := bne_eq_false_iff_eq.mpr c68
         clear c68
         replace H := Option.bind_eq_some_iff.mp H
         obtain ⟨t433, A690, H⟩ := H
         replace H : (some (t433 == (wrap64 (x8_1 + 1)))) = some r := H
         have A69 := Aside0.mk A690
         clear A690
         obtain rfl := Option.some.inj H
         obtain ⟨Ao70, co70, eo70⟩ := Kd.R_slice HO_6.out
         subst eo70
         have hcz71_0 : wr.cell? ⟨gb422, 0, none⟩ = some (.slice Ao36 t418.length co36) := (blk_cell BK422.out 0).trans rfl
         have hfz71_0 := blk_frozen BK422.out 0
         go_wp2_with (first | (go_at_call 39; (with_reducible refine (impl_TermDeep.calls k1 _ _ t418 t421 t433 _ ?side1 ?side2 A69.out).mono ?_); (case side1 => exact zc (Kd.R_reads' HO_423000.out).2.2); (case side2 => exact (Kd.R_reads' HO_423000.out).2.1); rintro e w72 ⟨rfl, hb⟩; have n0_ := Aside0.mk (Kd.R_below (zr HO_6.out) hb); have n1_ := Aside0.mk (Kd.R_below (zr HO_423000.out) hb); have n2_ := Aside0.mk (blk_below (zh BK422.out) hb); have n3_ := Aside0.mk (below_step (zb HB.out) hb); clear HO_6; clear HO_423000; clear BK422; clear HB; have HO_6 := n0_; have HO_423000 := n1_; have BK422 := n2_; have HB := n3_; clear n0_ n1_ n2_ n3_; (try clear hb); (try clear hb2); (try clear hk); (try clear hi)))
         go_ret
         exact ⟨ze, zb HB.out⟩
        ·rw [if_neg c68] at H
         have c68b0 : (x7_1 == t423) = false := beq_eq_false_iff_ne.mpr c68
         have c68b1 : (x7_1 != t423) = true := bne_iff_ne.mpr c68
         obtain rfl := Option.some.inj H
         obtain ⟨Ao73, co73, eo73⟩ := Kd.R_slice HO_6.out
         subst eo73
         go_wp2
         go_ret
         exact ⟨ze, zb HB.out⟩
  ·rw [if_neg c7] at H
   have c7b0 : (t423 == t424) = false := beq_eq_false_iff_ne.mpr c7
   have c7b1 : (t423 != t424) = true := bne_iff_ne.mpr c7
   obtain rfl := Option.some.inj H
   go_enter Try.func9, Try.ntmps9
   go_wp2_with (first | ((with_reducible refine gate_callee (f := 34) rfl ?_); refine goesL_ (some 11) rfl rfl Try.func34 (by kernel_rfl) rfl #[.slice A0 l0.length c0] rfl zl ?_; (with_reducible refine (laws_big.calls _ _ l0 false _ ?side1 ?side2 A2.out).mono ?_); (case side1 => exact zc HR0.out); (case side2 => exact HC0.out); rintro e w' ⟨rfl, ⟨nd, rfl⟩⟩; refine ⟨_, rfl, ?_⟩) | ((with_reducible refine gate_callee (f := 38) rfl ?_); refine goesL_ (some 14) rfl rfl Try.func38 (by kernel_rfl) rfl #[.slice A0 l0.length c0] rfl zl ?_; (with_reducible refine (spec_DrawTermSize.calls k _ _ l0 t418 t421 _ ?side1 ?side2 A4.out).mono ?_); (case side1 => exact zc HR0.out); (case side2 => exact HC0.out); rintro e w74 ⟨v419, rfl, ho0, hb⟩; refine ⟨_, rfl, ?_⟩; have n0_ := Aside0.mk (Kd.R_lower ho0 (below_size (zb HB.out))); have n1_ := Aside0.mk (below_step (zb HB.out) hb); clear HB; have HO420 := n0_; have HB := n1_; clear n0_ n1_; (try clear hb); (try clear hb2); (try clear hk); (try clear hi); (try clear ho0)) | ((with_reducible refine gate_dst (N := 3) rfl ?_); (try (refine gate_guard (by rfl) ?_; dsimp only)); refine box_event ?hg (N := 3) ?hd (cs := #[.slice none 0 0]) (t := 30) ?hr ?_; (case hd => rfl); (case hg => rfl); (case hr => first | (go_simp; done) | (go_simp; rfl)); intro gb422 hg w75 hbox hb; have n0_ := Aside0.mk (Kd.R_below (zr HO420.out) hb); have n1_ := Aside0.mk (below_step (zb HB.out) hb); have n2_ := Aside0.mk (hbox); have n3_ := Aside0.mk ((by rw [hg]; exact (below_size (zb HB.out)) : w.heap.size ≤ gb422)); have n4_ := Aside0.mk ((by rw [hg]; exact (below_size (zb HB.out)) : w.heap.size ≤ gb422)); clear HO420; clear HB; have HO420 := n0_; have HB := n1_; have BK422 := n2_; have GW422 := n3_; have GE422 := n4_; clear n0_ n1_ n2_ n3_ n4_; clear hb hbox hg; obtain ⟨Ao76, co76, eo76⟩ := Kd.R_slice HO420.out; subst eo76; have hcz77_0 : w75.cell? ⟨gb422, 0, none⟩ = some (.slice none 0 0) := (blk_cell BK422.out 0).trans rfl; have hfz77_0 := blk_frozen BK422.out 0) | ((with_reducible refine gate_callee (f := 29) rfl ?_); refine goesL_ (some 19) rfl rfl Try.func29 (by kernel_rfl) rfl #[.agg #[.slice Ao76 t418.length co76], .int .i64 t421] rfl zl ?_; (with_reducible refine (impl_TermSize.calls k _ _ t418 t421 t423 _ ?side1 ?side2 A5.out).mono ?_); (case side1 => refine (Kd.R_reads' (e := 34) (base := w.heap.size) (ok := fun k_ => True) (n := t418.length) (c := co76) ?_).2.2; exact (by (with_reducible repeat (first | apply Kd.R_alloc | apply Kd.R_drewN | apply Kd.R_drew)); exact (Kd.R_mono (Kd.R_far (p := ⟨gb422, 0, none⟩) (Kd.R_types HO420.out BK422.out (by decide)) (fun _ hk => hk.2) (.slice Ao76 t418.length co76)) (fun _ h_ => h_.1)))); (case side2 => exact (Kd.R_reads' HO420.out).2.1); rintro e w78 ⟨rfl, hb⟩; refine ⟨_, rfl, ?_⟩; have n0_ := Aside0.mk (Kd.R_below (by (with_reducible repeat (first | apply Kd.R_alloc | apply Kd.R_drewN | apply Kd.R_drew)); exact (Kd.R_mono (Kd.R_far (p := ⟨gb422, 0, none⟩) (Kd.R_types HO420.out BK422.out (by decide)) (fun _ hk => hk.2) (.slice Ao76 t418.length co76)) (fun _ h_ => h_.1))) hb); have n1_ := Aside0.mk (blk_below (g := gb422) (o := .cells #[.slice Ao76 t418.length co76] 30 (0, 0)) (by (with_reducible repeat (first | refine blk_drewN ?_ _ | refine blk_drew ?_ | refine blk_alloc ?_ _)); refine blk_put (cs := #[.slice none 0 0]) ?_ 0 _ rfl; (with_reducible repeat (first | refine blk_drewN ?_ _ | refine blk_drew ?_ | refine blk_alloc ?_ _)); exact BK422.out) hb); have n2_ := Aside0.mk (below_step (zb HB.out) hb); clear HO420; clear BK422; clear HB; have HO420 := n0_; have BK422 := n1_; have HB := n2_; clear n0_ n1_ n2_; (try clear hb); (try clear hb2); (try clear hk); (try clear hi); have hcz79_0 : w78.cell? ⟨gb422, 0, none⟩ = some (.slice Ao76 t418.length co76) := (blk_cell BK422.out 0).trans rfl; have hfz79_0 := blk_frozen BK422.out 0) | ((with_reducible refine gate_callee (f := 28) rfl ?_); refine goesL_ (some 23) rfl rfl Try.func28 (by kernel_rfl) rfl #[.agg #[.slice Ao76 t418.length co76], .int .i64 t421] rfl zl ?_; (with_reducible refine (spec_TermSize.calls k _ _ t418 t421 t424 _ ?side1 ?side2 A6.out).mono ?_); (case side1 => exact zc (Kd.R_reads' HO420.out).2.2); (case side2 => exact (Kd.R_reads' HO420.out).2.1); rintro e w80 ⟨rfl, hb⟩; refine ⟨_, rfl, ?_⟩; have n0_ := Aside0.mk (Kd.R_below (zr HO420.out) hb); have n1_ := Aside0.mk (blk_below (zh BK422.out) hb); have n2_ := Aside0.mk (below_step (zb HB.out) hb); clear HO420; clear BK422; clear HB; have HO420 := n0_; have BK422 := n1_; have HB := n2_; clear n0_ n1_ n2_; (try clear hb); (try clear hb2); (try clear hk); (try clear hi)))
   go_ret
   exact ⟨ze, zb HB.out⟩

def laws_FnSizes.Pure : Prop := ∀ (l0 : List Int), l0.length ≤ maxLen → l0.length * 1 ≤ 140737488351232 → (∀ x ∈ l0, (Lit.int .u8 x).wf = true) → ∃ k, laws_FnSizes.f k l0 = some true
theorem laws_FnSizes.walk (P : laws_FnSizes.Pure) (a0 : Option Addr) (len0 cap0 : Nat) (z0 : List Int) (w : World) (w0 : (a0 = none ∧ len0 = 0 ∧ cap0 = 0 ∧ z0 = []) ∨ ∃ x, a0 = some x ∧ len0 ≤ cap0 ∧ cap0 ≤ maxLen ∧ z0.length = cap0 ∧ (∀ i, i < z0.length → w.cell? (x.add i) = some (.int .u8 (z0.getD i 0))) ∧ ∀ n ∈ z0, (Lit.int .u8 n).wf = true) (y0 : len0 * 1 ≤ 140737488351232) :
  Calls Try.prog 9 #[.slice a0 len0 cap0] w fun e w' => e = .returned (.bool true) ∧ Below w.heap.size w w' := by
 obtain ⟨l0, rfl, hr0, hm0, hw0, hc0⟩ := ReadsInt.ofRowC w0
 obtain ⟨k, h⟩ := P l0 hm0 y0 hw0
 refine (laws_FnSizes.calls k _ _ l0 true w (Kd.C_of_reads (d := (0 : Int)) (h1 := fun _ => rfl) hr0) hc0 h).mono ?_
 rintro e w' ⟨rfl, hd⟩
 exact ⟨rfl, hd⟩

end Go.Proofs.Ytafahnellnfclaa.C
