import Derived.Test.YtobkledmbnacjaaZFF0
import Derived.Test.YtobkledmbnacjaaZFFg1
import Derived.Test.YtobkledmbnacjaaZFFg3
import Derived.Test.YtobkledmbnacjaaZFFg4
section
-- Written by this session's program (wip/tools/gprint.py over the kit's print) out of the translation; Lean checks it.
namespace Go.Proofs.Ytobkledmbnacjaa.F
open Go.RowKit Go.Proofs.YtobkledmbnacjaaW.PrintWords Go.Proofs.YtobkledmbnacjaaW.PrintLast Go.Proofs.YtobkledmbnacjaaW.PrintMore
attribute [local go_sem] max2_int min2_int max_two min_two max_three min_three max_four min_four   -- for this text's walks alone
set_option linter.unusedVariables false
set_option linter.unusedSimpArgs false
set_option maxRecDepth 100000

/-! ### laws_FnSwap: function 5 -/
def laws_FnSwap.j0 : Nat → Int → Int → Int → Bool → List (S55) → List (S55) → Option (Bool)
 | 0, _, _, _, _, _, _ => none
 | k + 1, x5, x6, x8, x99, x408000, x413000 => if x99 = true then (some false) else ((impl_TermHas.f k x408000 x6 x5).bind fun t425 => (if t425 = true then (some true) else ((impl_TermHas.f k x408000 x5 x6).bind fun t426 => (if t426 = true then (some true) else ((impl_TermHas.f k x413000 x8 x5).bind fun t427 => (some (!t427)))))))
def laws_FnSwap.f (k : Nat) (l0 : List Int) : Option (Bool) := (laws_big.f l0).bind fun t400 => (if t400 = true then (some true) else ((spec_DrawTermSwap.f k l0).bind fun bt401 => ((impl_TermSwap.f k bt401.1 bt401.2.1 bt401.2.2.1 bt401.2.2.2).bind fun bt408 => ((spec_TermSwap.f k bt401.1 bt401.2.1 bt401.2.2.1 bt401.2.2.2).bind fun bt413 => (if bt408.2 = bt413.2 then (if bt408.2 < 0 then (if (bt408.1.length : Int) = (bt401.1.length : Int) then (some true) else (some ((bt408.1.length : Int) == 0))) else ((impl_TermSwap.f k bt401.1 bt401.2.1 bt401.2.2.1 bt401.2.2.1).bind fun bt418 => ((impl_TermHas.f k bt401.1 bt401.2.1 bt401.2.2.1).bind fun t423 => (if bt418.2 = bt401.2.1 then (if (bt418.1.length : Int) = (bt401.1.length : Int) then (if t423 = true then ((impl_TermHas.f k bt408.1 bt408.2 bt401.2.2.2).bind fun t424 => (laws_FnSwap.j0 k bt401.2.2.1 bt401.2.2.2 bt408.2 (!t424) bt401.1 bt408.1)) else (if bt408.2 = bt401.2.1 then (laws_FnSwap.j0 k bt401.2.2.1 bt401.2.2.2 bt408.2 false bt401.1 bt408.1) else (laws_FnSwap.j0 k bt401.2.2.1 bt401.2.2.2 bt408.2 true bt401.1 bt408.1))) else (laws_FnSwap.j0 k bt401.2.2.1 bt401.2.2.2 bt408.2 true bt401.1 bt408.1)) else (laws_FnSwap.j0 k bt401.2.2.1 bt401.2.2.2 bt408.2 true bt401.1 bt408.1))))) else (some false))))))
theorem laws_FnSwap.mono_l : ∀ k, (∀ y0 y1 y2 y3 y4 y5, LeO (laws_FnSwap.j0 k y0 y1 y2 y3 y4 y5) (laws_FnSwap.j0 (k + 1) y0 y1 y2 y3 y4 y5))
 | 0 => fun _ _ _ _ _ _ r h => by simp [laws_FnSwap.j0] at h
 | k + 1 => by
  have ih0 := laws_FnSwap.mono_l k
  ·intro y0 y1 y2 y3 y4 y5
   unfold laws_FnSwap.j0
   repeat' first
   | (with_reducible exact ih0 _ _ _ _ _ _)
   | (with_reducible exact impl_TermHas.mono _ _ _ _)
   | (with_reducible exact impl_TermSwap.mono _ _ _ _ _)
   | (with_reducible exact spec_DrawTermSwap.mono _ _)
   | (with_reducible exact spec_TermSwap.mono _ _ _ _ _)
   | (with_reducible exact LeO.refl _)
   | (with_reducible exact LeO.none _)
   | (with_reducible refine LeO.ite ?_ ?_)
   | (with_reducible refine LeO.bind ?_ (fun _ => ?_))
   | exact ih0 _ _ _ _ _ _
   | exact impl_TermHas.mono _ _ _ _
   | exact impl_TermSwap.mono _ _ _ _ _
   | exact spec_DrawTermSwap.mono _ _
   | exact spec_TermSwap.mono _ _ _ _ _
   | exact LeO.none _
   | refine LeO.ite ?_ ?_
   | refine LeO.bind ?_ (fun _ => ?_)
theorem laws_FnSwap.mono : ∀ a0 k, LeO (laws_FnSwap.f k a0) (laws_FnSwap.f (k + 1) a0) := by
 intro a0 k
 have ih0 := laws_FnSwap.mono_l k
 unfold laws_FnSwap.f
 repeat' first
   | (with_reducible exact ih0 _ _ _ _ _ _)
   | (with_reducible exact impl_TermHas.mono _ _ _ _)
   | (with_reducible exact impl_TermSwap.mono _ _ _ _ _)
   | (with_reducible exact spec_DrawTermSwap.mono _ _)
   | (with_reducible exact spec_TermSwap.mono _ _ _ _ _)
   | (with_reducible exact LeO.refl _)
   | (with_reducible exact LeO.none _)
   | (with_reducible refine LeO.ite ?_ ?_)
   | (with_reducible refine LeO.bind ?_ (fun _ => ?_))
   | exact ih0 _ _ _ _ _ _
   | exact impl_TermHas.mono _ _ _ _
   | exact impl_TermSwap.mono _ _ _ _ _
   | exact spec_DrawTermSwap.mono _ _
   | exact spec_TermSwap.mono _ _ _ _ _
   | exact LeO.none _
   | refine LeO.ite ?_ ?_
   | refine LeO.bind ?_ (fun _ => ?_)
set_option maxHeartbeats 8000000 in
set_option maxRecDepth 100000 in
theorem laws_FnSwap.calls (k : Nat) (A0 : Option Addr) (c0 : Nat) (l0 : List Int) (r : Bool) (w : World) (hr0 : Kd.C (Kd.int .u8) w A0 l0.length l0) (hc0 : l0.length ≤ c0) (h : laws_FnSwap.f k l0 = some r) :
  Calls Try.prog 5 #[.slice A0 l0.length c0] w fun e w' => e = .returned (.bool r) ∧ Below w.heap.size w w' := by
 have hu28 := Try.underlying28
 have HR0 := Aside0.mk hr0
 have HC0 := Aside0.mk hc0
 clear hr0 hc0
 have HB := Aside0.mk (Below.refl w.heap.size w)
 have H : ((laws_big.f l0).bind fun t400 => (if t400 = true then (some true) else ((spec_DrawTermSwap.f k l0).bind fun bt401 => ((impl_TermSwap.f k bt401.1 bt401.2.1 bt401.2.2.1 bt401.2.2.2).bind fun bt408 => ((spec_TermSwap.f k bt401.1 bt401.2.1 bt401.2.2.1 bt401.2.2.2).bind fun bt413 => (if bt408.2 = bt413.2 then (if bt408.2 < 0 then (if (bt408.1.length : Int) = (bt401.1.length : Int) then (some true) else (some ((bt408.1.length : Int) == 0))) else ((impl_TermSwap.f k bt401.1 bt401.2.1 bt401.2.2.1 bt401.2.2.1).bind fun bt418 => ((impl_TermHas.f k bt401.1 bt401.2.1 bt401.2.2.1).bind fun t423 => (if bt418.2 = bt401.2.1 then (if (bt418.1.length : Int) = (bt401.1.length : Int) then (if t423 = true then ((impl_TermHas.f k bt408.1 bt408.2 bt401.2.2.2).bind fun t424 => (laws_FnSwap.j0 k bt401.2.2.1 bt401.2.2.2 bt408.2 (!t424) bt401.1 bt408.1)) else (if bt408.2 = bt401.2.1 then (laws_FnSwap.j0 k bt401.2.2.1 bt401.2.2.2 bt408.2 false bt401.1 bt408.1) else (laws_FnSwap.j0 k bt401.2.2.1 bt401.2.2.2 bt408.2 true bt401.1 bt408.1))) else (laws_FnSwap.j0 k bt401.2.2.1 bt401.2.2.2 bt408.2 true bt401.1 bt408.1)) else (laws_FnSwap.j0 k bt401.2.2.1 bt401.2.2.2 bt408.2 true bt401.1 bt408.1))))) else (some false))))))) = some r := h
 clear h
 replace H := Option.bind_eq_some_iff.mp H
 obtain ⟨t400, A20, H⟩ := H
 replace H : (if t400 = true then (some true) else ((spec_DrawTermSwap.f k l0).bind fun bt401 => ((impl_TermSwap.f k bt401.1 bt401.2.1 bt401.2.2.1 bt401.2.2.2).bind fun bt408 => ((spec_TermSwap.f k bt401.1 bt401.2.1 bt401.2.2.1 bt401.2.2.2).bind fun bt413 => (if bt408.2 = bt413.2 then (if bt408.2 < 0 then (if (bt408.1.length : Int) = (bt401.1.length : Int) then (some true) else (some ((bt408.1.length : Int) == 0))) else ((impl_TermSwap.f k bt401.1 bt401.2.1 bt401.2.2.1 bt401.2.2.1).bind fun bt418 => ((impl_TermHas.f k bt401.1 bt401.2.1 bt401.2.2.1).bind fun t423 => (if bt418.2 = bt401.2.1 then (if (bt418.1.length : Int) = (bt401.1.length : Int) then (if t423 = true then ((impl_TermHas.f k bt408.1 bt408.2 bt401.2.2.2).bind fun t424 => (laws_FnSwap.j0 k bt401.2.2.1 bt401.2.2.2 bt408.2 (!t424) bt401.1 bt408.1)) else (if bt408.2 = bt401.2.1 then (laws_FnSwap.j0 k bt401.2.2.1 bt401.2.2.2 bt408.2 false bt401.1 bt408.1) else (laws_FnSwap.j0 k bt401.2.2.1 bt401.2.2.2 bt408.2 true bt401.1 bt408.1))) else (laws_FnSwap.j0 k bt401.2.2.1 bt401.2.2.2 bt408.2 true bt401.1 bt408.1)) else (laws_FnSwap.j0 k bt401.2.2.1 bt401.2.2.2 bt408.2 true bt401.1 bt408.1))))) else (some false)))))) = some r := H
 have A2 := Aside0.mk A20
 clear A20
 by_cases c3 : t400 = true
 ·subst c3
  have H1 : (some true) = some r := by rw [if_pos rfl] at H; exact H
  clear H
  have H := H1
  clear H1
  obtain rfl := Option.some.inj H
  go_enter Try.func5, Try.ntmps5
  go_wp2_with (first | ((with_reducible refine gate_callee (f := 16) rfl ?_); refine goesL_ (some 15) rfl rfl Try.func16 (by kernel_rfl) rfl #[.slice A0 l0.length c0] rfl zl ?_; (with_reducible refine (laws_big.calls _ _ l0 true _ ?side1 ?side2 A2.out).mono ?_); (case side1 => exact zc HR0.out); (case side2 => exact HC0.out); rintro e w' ⟨rfl, ⟨nd, rfl⟩⟩; refine ⟨_, rfl, ?_⟩))
  go_ret
  exact ⟨ze, zb HB.out⟩
 ·replace c3 := Bool.eq_false_iff.mpr c3
  subst c3
  have H1 : ((spec_DrawTermSwap.f k l0).bind fun bt401 => ((impl_TermSwap.f k bt401.1 bt401.2.1 bt401.2.2.1 bt401.2.2.2).bind fun bt408 => ((spec_TermSwap.f k bt401.1 bt401.2.1 bt401.2.2.1 bt401.2.2.2).bind fun bt413 => (if bt408.2 = bt413.2 then (if bt408.2 < 0 then (if (bt408.1.length : Int) = (bt401.1.length : Int) then (some true) else (some ((bt408.1.length : Int) == 0))) else ((impl_TermSwap.f k bt401.1 bt401.2.1 bt401.2.2.1 bt401.2.2.1).bind fun bt418 => ((impl_TermHas.f k bt401.1 bt401.2.1 bt401.2.2.1).bind fun t423 => (if bt418.2 = bt401.2.1 then (if (bt418.1.length : Int) = (bt401.1.length : Int) then (if t423 = true then ((impl_TermHas.f k bt408.1 bt408.2 bt401.2.2.2).bind fun t424 => (laws_FnSwap.j0 k bt401.2.2.1 bt401.2.2.2 bt408.2 (!t424) bt401.1 bt408.1)) else (if bt408.2 = bt401.2.1 then (laws_FnSwap.j0 k bt401.2.2.1 bt401.2.2.2 bt408.2 false bt401.1 bt408.1) else (laws_FnSwap.j0 k bt401.2.2.1 bt401.2.2.2 bt408.2 true bt401.1 bt408.1))) else (laws_FnSwap.j0 k bt401.2.2.1 bt401.2.2.2 bt408.2 true bt401.1 bt408.1)) else (laws_FnSwap.j0 k bt401.2.2.1 bt401.2.2.2 bt408.2 true bt401.1 bt408.1))))) else (some false))))) = some r := by rw [if_neg (show ¬ (false = true) by decide)] at H; exact H
  clear H
  have H := H1
  clear H1
  replace H := Option.bind_eq_some_iff.mp H
  obtain ⟨⟨t401, t404, t405, t406⟩, A40, H⟩ := H
  replace H : ((impl_TermSwap.f k t401 t404 t405 t406).bind fun bt408 => ((spec_TermSwap.f k t401 t404 t405 t406).bind fun bt413 => (if bt408.2 = bt413.2 then (if bt408.2 < 0 then (if (bt408.1.length : Int) = (t401.length : Int) then (some true) else (some ((bt408.1.length : Int) == 0))) else ((impl_TermSwap.f k t401 t404 t405 t405).bind fun bt418 => ((impl_TermHas.f k t401 t404 t405).bind fun t423 => (if bt418.2 = t404 then (if (bt418.1.length : Int) = (t401.length : Int) then (if t423 = true then ((impl_TermHas.f k bt408.1 bt408.2 t406).bind fun t424 => (laws_FnSwap.j0 k t405 t406 bt408.2 (!t424) t401 bt408.1)) else (if bt408.2 = t404 then (laws_FnSwap.j0 k t405 t406 bt408.2 false t401 bt408.1) else (laws_FnSwap.j0 k t405 t406 bt408.2 true t401 bt408.1))) else (laws_FnSwap.j0 k t405 t406 bt408.2 true t401 bt408.1)) else (laws_FnSwap.j0 k t405 t406 bt408.2 true t401 bt408.1))))) else (some false)))) = some r := H
  have A4 := Aside0.mk A40
  clear A40
  replace H := Option.bind_eq_some_iff.mp H
  obtain ⟨⟨t408, t411⟩, A50, H⟩ := H
  replace H : ((spec_TermSwap.f k t401 t404 t405 t406).bind fun bt413 => (if t411 = bt413.2 then (if t411 < 0 then (if (t408.length : Int) = (t401.length : Int) then (some true) else (some ((t408.length : Int) == 0))) else ((impl_TermSwap.f k t401 t404 t405 t405).bind fun bt418 => ((impl_TermHas.f k t401 t404 t405).bind fun t423 => (if bt418.2 = t404 then (if (bt418.1.length : Int) = (t401.length : Int) then (if t423 = true then ((impl_TermHas.f k t408 t411 t406).bind fun t424 => (laws_FnSwap.j0 k t405 t406 t411 (!t424) t401 t408)) else (if t411 = t404 then (laws_FnSwap.j0 k t405 t406 t411 false t401 t408) else (laws_FnSwap.j0 k t405 t406 t411 true t401 t408))) else (laws_FnSwap.j0 k t405 t406 t411 true t401 t408)) else (laws_FnSwap.j0 k t405 t406 t411 true t401 t408))))) else (some false))) = some r := H
  have A5 := Aside0.mk A50
  clear A50
  replace H := Option.bind_eq_some_iff.mp H
  obtain ⟨⟨t413, t416⟩, A60, H⟩ := H
  replace H : (if t411 = t416 then (if t411 < 0 then (if (t408.length : Int) = (t401.length : Int) then (some true) else (some ((t408.length : Int) == 0))) else ((impl_TermSwap.f k t401 t404 t405 t405).bind fun bt418 => ((impl_TermHas.f k t401 t404 t405).bind fun t423 => (if bt418.2 = t404 then (if (bt418.1.length : Int) = (t401.length : Int) then (if t423 = true then ((impl_TermHas.f k t408 t411 t406).bind fun t424 => (laws_FnSwap.j0 k t405 t406 t411 (!t424) t401 t408)) else (if t411 = t404 then (laws_FnSwap.j0 k t405 t406 t411 false t401 t408) else (laws_FnSwap.j0 k t405 t406 t411 true t401 t408))) else (laws_FnSwap.j0 k t405 t406 t411 true t401 t408)) else (laws_FnSwap.j0 k t405 t406 t411 true t401 t408))))) else (some false)) = some r := H
  have A6 := Aside0.mk A60
  clear A60
  by_cases c7 : t411 = t416
  ·rw [if_pos c7] at H
   have c7b0 : (t411 == t416) = true := beq_iff_eq.mpr c7
   have c7b1 : (t411 != t416) = false := bne_eq_false_iff_eq.mpr c7
   clear c7
   by_cases c8 : t411 < 0
   ·rw [if_pos c8] at H
    have c8b0 : decide (t411 < 0) = true := decide_eq_true c8
    clear c8
    by_cases c9 : (t408.length : Int) = (t401.length : Int)
    ·rw [if_pos c9] at H
     have c9b0 : ((t408.length : Int) == (t401.length : Int)) = true := beq_iff_eq.mpr c9
     have c9b1 : ((t408.length : Int) != (t401.length : Int)) = false := bne_eq_false_iff_eq.mpr c9
     have c9b2 : (t408.length == t401.length) = true := by first | simpa using c9 | (simp at c9 ⊢; omega)
     clear c9
     obtain rfl := Option.some.inj H
     go_enter Try.func5, Try.ntmps5
     go_wp2_with (first | ((with_reducible refine gate_callee (f := 16) rfl ?_); refine goesL_ (some 15) rfl rfl Try.func16 (by kernel_rfl) rfl #[.slice A0 l0.length c0] rfl zl ?_; (with_reducible refine (laws_big.calls _ _ l0 false _ ?side1 ?side2 A2.out).mono ?_); (case side1 => exact zc HR0.out); (case side2 => exact HC0.out); rintro e w' ⟨rfl, ⟨nd, rfl⟩⟩; refine ⟨_, rfl, ?_⟩) | ((with_reducible refine gate_callee (f := 17) rfl ?_); refine goesL_ (some 18) rfl rfl Try.func17 (by kernel_rfl) rfl #[.slice A0 l0.length c0] rfl zl ?_; (with_reducible refine (spec_DrawTermSwap.calls k _ _ l0 t401 t404 t405 t406 _ ?side1 ?side2 A4.out).mono ?_); (case side1 => exact zc HR0.out); (case side2 => exact HC0.out); rintro e w10 ⟨v402, rfl, ho0, hb⟩; refine ⟨_, rfl, ?_⟩; have n0_ := Aside0.mk (Kd.R_lower ho0 (below_size (zb HB.out))); have n1_ := Aside0.mk (below_step (zb HB.out) hb); clear HB; have HO403 := n0_; have HB := n1_; clear n0_ n1_; (try clear hb); (try clear hb2); (try clear hk); (try clear hi); (try clear ho0)) | ((with_reducible refine gate_dst (N := 3) rfl ?_); (try (refine gate_guard (by rfl) ?_; dsimp only)); refine box_event ?hg (N := 3) ?hd (cs := #[.slice none 0 0]) (t := 28) ?hr ?_; (case hd => rfl); (case hg => rfl); (case hr => first | (go_simp; done) | (go_simp; rfl)); intro gb407 hg w11 hbox hb; have n0_ := Aside0.mk (Kd.R_below (zr HO403.out) hb); have n1_ := Aside0.mk (below_step (zb HB.out) hb); have n2_ := Aside0.mk (hbox); have n3_ := Aside0.mk ((by rw [hg]; exact (below_size (zb HB.out)) : w.heap.size ≤ gb407)); have n4_ := Aside0.mk ((by rw [hg]; exact (below_size (zb HB.out)) : w.heap.size ≤ gb407)); clear HO403; clear HB; have HO403 := n0_; have HB := n1_; have BK407 := n2_; have GW407 := n3_; have GE407 := n4_; clear n0_ n1_ n2_ n3_ n4_; clear hb hbox hg; obtain ⟨Ao12, co12, eo12⟩ := Kd.R_slice HO403.out; subst eo12; have hcz13_0 : w11.cell? ⟨gb407, 0, none⟩ = some (.slice none 0 0) := (blk_cell BK407.out 0).trans rfl; have hfz13_0 := blk_frozen BK407.out 0) | ((with_reducible refine gate_callee (f := 10) rfl ?_); refine goesL_ (some 28) rfl rfl Try.func10 (by kernel_rfl) rfl #[.agg #[.slice Ao12 t401.length co12], .int .i64 t404, .int .i64 t405, .int .i64 t406] rfl zl ?_; (with_reducible refine (impl_TermSwap.calls k _ _ t401 t404 t405 t406 t408 t411 _ ?side1 ?side2 A5.out).mono ?_); (case side1 => refine (Kd.R_reads' (e := 55) (base := w.heap.size) (ok := fun k_ => True) (n := t401.length) (c := co12) ?_).2.2; exact (by (with_reducible repeat (first | apply Kd.R_alloc | apply Kd.R_drewN | apply Kd.R_drew)); exact (Kd.R_mono (Kd.R_far (p := ⟨gb407, 0, none⟩) (Kd.R_types HO403.out BK407.out (by decide)) (fun _ hk => hk.2) (.slice Ao12 t401.length co12)) (fun _ h_ => h_.1)))); (case side2 => exact (Kd.R_reads' HO403.out).2.1); rintro e w14 ⟨v409, rfl, ho0, hb⟩; refine ⟨_, rfl, ?_⟩; have n0_ := Aside0.mk (Kd.R_elder' (by (with_reducible repeat (first | apply Kd.R_alloc | apply Kd.R_drewN | apply Kd.R_drew)); exact (Kd.R_mono (Kd.R_far (p := ⟨gb407, 0, none⟩) (Kd.R_types HO403.out BK407.out (by decide)) (fun _ hk => hk.2) (.slice Ao12 t401.length co12)) (fun _ h_ => h_.1))) (Kd.R_base ho0) hb); have n1_ := Aside0.mk (Kd.R_lower (Kd.R_new' ho0 (Kd.R_lt (by (with_reducible repeat (first | apply Kd.R_alloc | apply Kd.R_drewN | apply Kd.R_drew)); exact (Kd.R_mono (Kd.R_far (p := ⟨gb407, 0, none⟩) (Kd.R_types HO403.out BK407.out (by decide)) (fun _ hk => hk.2) (.slice Ao12 t401.length co12)) (fun _ h_ => h_.1))))) (below_size (zb HB.out))); have n2_ := Aside0.mk (blk_below (g := gb407) (o := .cells #[.slice Ao12 t401.length co12] 28 (0, 0)) (by (with_reducible repeat (first | refine blk_drewN ?_ _ | refine blk_drew ?_ | refine blk_alloc ?_ _)); refine blk_put (cs := #[.slice none 0 0]) ?_ 0 _ rfl; (with_reducible repeat (first | refine blk_drewN ?_ _ | refine blk_drew ?_ | refine blk_alloc ?_ _)); exact BK407.out) hb); have n3_ := Aside0.mk (below_step (zb HB.out) hb); clear HO403; clear BK407; clear HB; have HO403 := n0_; have HO410 := n1_; have BK407 := n2_; have HB := n3_; clear n0_ n1_ n2_ n3_; (try clear hb); (try clear hb2); (try clear hk); (try clear hi); (try clear ho0)) | ((with_reducible refine gate_dst (N := 7) rfl ?_); (try (refine gate_guard (by rfl) ?_; dsimp only)); refine box_event ?hg (N := 7) ?hd (cs := #[.slice none 0 0]) (t := 28) ?hr ?_; (case hd => rfl); (case hg => rfl); (case hr => first | (go_simp; done) | (go_simp; rfl)); intro gb412 hg w15 hbox hb; have n0_ := Aside0.mk (Kd.R_below (zr HO403.out) hb); have n1_ := Aside0.mk (Kd.R_below (zr HO410.out) hb); have n2_ := Aside0.mk (blk_below (zh BK407.out) hb); have n3_ := Aside0.mk (below_step (zb HB.out) hb); have n4_ := Aside0.mk (hbox); have n5_ := Aside0.mk ((by rw [hg]; exact (below_size (zb HB.out)) : w.heap.size ≤ gb412)); have n6_ := Aside0.mk ((by rw [hg]; exact (below_size (zb HB.out)) : w.heap.size ≤ gb412)); have n7_ := Aside0.mk ((by rw [hg]; exact Nat.ne_of_lt (blk_lt (zh BK407.out)) : gb407 ≠ gb412)); have n8_ := Aside0.mk ((by rw [hg]; exact Nat.ne_of_gt (blk_lt (zh BK407.out)) : gb412 ≠ gb407)); clear HO403; clear HO410; clear BK407; clear HB; have HO403 := n0_; have HO410 := n1_; have BK407 := n2_; have HB := n3_; have BK412 := n4_; have GW412 := n5_; have GE412 := n6_; have NB407_412 := n7_; have NB412_407 := n8_; clear n0_ n1_ n2_ n3_ n4_ n5_ n6_ n7_ n8_; clear hb hbox hg; obtain ⟨Ao16, co16, eo16⟩ := Kd.R_slice HO410.out; subst eo16; have hnb17 := NB412_407.out; have hnc17 := NB407_412.out; have hcz18_0 : w15.cell? ⟨gb412, 0, none⟩ = some (.slice none 0 0) := (blk_cell BK412.out 0).trans rfl; have hfz18_0 := blk_frozen BK412.out 0; have hcz19_0 : w15.cell? ⟨gb407, 0, none⟩ = some (.slice Ao12 t401.length co12) := (blk_cell BK407.out 0).trans rfl; have hfz19_0 := blk_frozen BK407.out 0) | ((with_reducible refine gate_callee (f := 8) rfl ?_); refine goesL_ (some 36) rfl rfl Try.func8 (by kernel_rfl) rfl #[.agg #[.slice Ao12 t401.length co12], .int .i64 t404, .int .i64 t405, .int .i64 t406] rfl zl ?_; (with_reducible refine (spec_TermSwap.calls k _ _ t401 t404 t405 t406 t413 t416 _ ?side1 ?side2 A6.out).mono ?_); (case side1 => refine (Kd.R_reads' (e := 55) (base := w.heap.size) (ok := fun k_ => (True ∧ some k_ ≠ (.slice Ao16 t408.length co16 : Value).ownBlock)) (n := t401.length) (c := co12) ?_).2.2; exact (by (with_reducible repeat (first | apply Kd.R_alloc | apply Kd.R_drewN | apply Kd.R_drew)); exact (Kd.R_mono (Kd.R_far (p := ⟨gb412, 0, none⟩) (Kd.R_types HO403.out BK412.out (by decide)) (fun _ hk => hk.2) (.slice Ao16 t408.length co16)) (fun _ h_ => h_.1)))); (case side2 => exact (Kd.R_reads' HO403.out).2.1); rintro e w20 ⟨v414, rfl, ho0, hb⟩; refine ⟨_, rfl, ?_⟩; have n0_ := Aside0.mk (Kd.R_elder' (by (with_reducible repeat (first | apply Kd.R_alloc | apply Kd.R_drewN | apply Kd.R_drew)); exact (Kd.R_mono (Kd.R_far (p := ⟨gb412, 0, none⟩) (Kd.R_types HO403.out BK412.out (by decide)) (fun _ hk => hk.2) (.slice Ao16 t408.length co16)) (fun _ h_ => h_.1))) (Kd.R_base ho0) hb); have n1_ := Aside0.mk (Kd.R_elder' (by (with_reducible repeat (first | apply Kd.R_alloc | apply Kd.R_drewN | apply Kd.R_drew)); exact (Kd.R_mono (Kd.R_far (p := ⟨gb412, 0, none⟩) (Kd.R_types HO410.out BK412.out (by decide)) (fun _ hk => hk.2) (.slice Ao16 t408.length co16)) (fun _ h_ => h_.1))) (Kd.R_base ho0) hb); have n2_ := Aside0.mk (Kd.R_lower (Kd.R_new' (Kd.R_new' ho0 (Kd.R_lt (by (with_reducible repeat (first | apply Kd.R_alloc | apply Kd.R_drewN | apply Kd.R_drew)); exact (Kd.R_mono (Kd.R_far (p := ⟨gb412, 0, none⟩) (Kd.R_types HO403.out BK412.out (by decide)) (fun _ hk => hk.2) (.slice Ao16 t408.length co16)) (fun _ h_ => h_.1))))) (Kd.R_lt (by (with_reducible repeat (first | apply Kd.R_alloc | apply Kd.R_drewN | apply Kd.R_drew)); exact (Kd.R_mono (Kd.R_far (p := ⟨gb412, 0, none⟩) (Kd.R_types HO410.out BK412.out (by decide)) (fun _ hk => hk.2) (.slice Ao16 t408.length co16)) (fun _ h_ => h_.1))))) (below_size (zb HB.out))); have n3_ := Aside0.mk (blk_below (g := gb407) (o := .cells #[.slice Ao12 t401.length co12] 28 (0, 0)) (zf BK407.out) hb); have n4_ := Aside0.mk (blk_below (g := gb412) (o := .cells #[.slice Ao16 t408.length co16] 28 (0, 0)) (by (with_reducible repeat (first | refine blk_drewN ?_ _ | refine blk_drew ?_ | refine blk_alloc ?_ _)); refine blk_put (cs := #[.slice none 0 0]) ?_ 0 _ rfl; (with_reducible repeat (first | refine blk_drewN ?_ _ | refine blk_drew ?_ | refine blk_alloc ?_ _)); exact BK412.out) hb); have n5_ := Aside0.mk (below_step (zb HB.out) hb); clear HO403; clear HO410; clear BK407; clear BK412; clear HB; have HO403 := n0_; have HO410 := n1_; have HO415 := n2_; have BK407 := n3_; have BK412 := n4_; have HB := n5_; clear n0_ n1_ n2_ n3_ n4_ n5_; (try clear hb); (try clear hb2); (try clear hk); (try clear hi); (try clear ho0)) | ((with_reducible refine gate_dst (N := 9) rfl ?_); (try (refine gate_guard (by rfl) ?_; dsimp only)); refine box_event ?hg (N := 9) ?hd (cs := #[.slice none 0 0]) (t := 28) ?hr ?_; (case hd => rfl); (case hg => rfl); (case hr => first | (go_simp; done) | (go_simp; rfl)); intro gb417 hg w21 hbox hb; have n0_ := Aside0.mk (Kd.R_below (zr HO403.out) hb); have n1_ := Aside0.mk (Kd.R_below (zr HO410.out) hb); have n2_ := Aside0.mk (Kd.R_below (zr HO415.out) hb); have n3_ := Aside0.mk (blk_below (zh BK407.out) hb); have n4_ := Aside0.mk (blk_below (zh BK412.out) hb); have n5_ := Aside0.mk (below_step (zb HB.out) hb); have n6_ := Aside0.mk (hbox); have n7_ := Aside0.mk ((by rw [hg]; exact (below_size (zb HB.out)) : w.heap.size ≤ gb417)); have n8_ := Aside0.mk ((by rw [hg]; exact (below_size (zb HB.out)) : w.heap.size ≤ gb417)); have n9_ := Aside0.mk ((by rw [hg]; exact Nat.ne_of_lt (blk_lt (zh BK407.out)) : gb407 ≠ gb417)); have n10_ := Aside0.mk ((by rw [hg]; exact Nat.ne_of_gt (blk_lt (zh BK407.out)) : gb417 ≠ gb407)); have n11_ := Aside0.mk ((by rw [hg]; exact Nat.ne_of_lt (blk_lt (zh BK412.out)) : gb412 ≠ gb417)); have n12_ := Aside0.mk ((by rw [hg]; exact Nat.ne_of_gt (blk_lt (zh BK412.out)) : gb417 ≠ gb412)); clear HO403; clear HO410; clear HO415; clear BK407; clear BK412; clear HB; have HO403 := n0_; have HO410 := n1_; have HO415 := n2_; have BK407 := n3_; have BK412 := n4_; have HB := n5_; have BK417 := n6_; have GW417 := n7_; have GE417 := n8_; have NB407_417 := n9_; have NB417_407 := n10_; have NB412_417 := n11_; have NB417_412 := n12_; clear n0_ n1_ n2_ n3_ n4_ n5_ n6_ n7_ n8_ n9_ n10_ n11_ n12_; clear hb hbox hg; obtain ⟨Ao22, co22, eo22⟩ := Kd.R_slice HO415.out; subst eo22; have hnb23 := NB417_407.out; have hnc23 := NB407_417.out; have hnb24 := NB417_412.out; have hnc24 := NB412_417.out; have hcz25_0 : w21.cell? ⟨gb417, 0, none⟩ = some (.slice none 0 0) := (blk_cell BK417.out 0).trans rfl; have hfz25_0 := blk_frozen BK417.out 0; have hcz26_0 : w21.cell? ⟨gb412, 0, none⟩ = some (.slice Ao16 t408.length co16) := (blk_cell BK412.out 0).trans rfl; have hfz26_0 := blk_frozen BK412.out 0; have hcz27_0 : w21.cell? ⟨gb407, 0, none⟩ = some (.slice Ao12 t401.length co12) := (blk_cell BK407.out 0).trans rfl; have hfz27_0 := blk_frozen BK407.out 0))
     go_ret
     exact ⟨ze, zb HB.out⟩
    ·rw [if_neg c9] at H
     have c9b0 : ((t408.length : Int) == (t401.length : Int)) = false := beq_eq_false_iff_ne.mpr c9
     have c9b1 : ((t408.length : Int) != (t401.length : Int)) = true := bne_iff_ne.mpr c9
     have c9b2 : (t408.length == t401.length) = false := by first | simpa using c9 | (simp at c9 ⊢; omega)
     obtain rfl := Option.some.inj H
     go_enter Try.func5, Try.ntmps5
     go_wp2_with (first | ((with_reducible refine gate_callee (f := 16) rfl ?_); refine goesL_ (some 15) rfl rfl Try.func16 (by kernel_rfl) rfl #[.slice A0 l0.length c0] rfl zl ?_; (with_reducible refine (laws_big.calls _ _ l0 false _ ?side1 ?side2 A2.out).mono ?_); (case side1 => exact zc HR0.out); (case side2 => exact HC0.out); rintro e w' ⟨rfl, ⟨nd, rfl⟩⟩; refine ⟨_, rfl, ?_⟩) | ((with_reducible refine gate_callee (f := 17) rfl ?_); refine goesL_ (some 18) rfl rfl Try.func17 (by kernel_rfl) rfl #[.slice A0 l0.length c0] rfl zl ?_; (with_reducible refine (spec_DrawTermSwap.calls k _ _ l0 t401 t404 t405 t406 _ ?side1 ?side2 A4.out).mono ?_); (case side1 => exact zc HR0.out); (case side2 => exact HC0.out); rintro e w28 ⟨v402, rfl, ho0, hb⟩; refine ⟨_, rfl, ?_⟩; have n0_ := Aside0.mk (Kd.R_lower ho0 (below_size (zb HB.out))); have n1_ := Aside0.mk (below_step (zb HB.out) hb); clear HB; have HO403 := n0_; have HB := n1_; clear n0_ n1_; (try clear hb); (try clear hb2); (try clear hk); (try clear hi); (try clear ho0)) | ((with_reducible refine gate_dst (N := 3) rfl ?_); (try (refine gate_guard (by rfl) ?_; dsimp only)); refine box_event ?hg (N := 3) ?hd (cs := #[.slice none 0 0]) (t := 28) ?hr ?_; (case hd => rfl); (case hg => rfl); (case hr => first | (go_simp; done) | (go_simp; rfl)); intro gb407 hg w29 hbox hb; have n0_ := Aside0.mk (Kd.R_below (zr HO403.out) hb); have n1_ := Aside0.mk (below_step (zb HB.out) hb); have n2_ := Aside0.mk (hbox); have n3_ := Aside0.mk ((by rw [hg]; exact (below_size (zb HB.out)) : w.heap.size ≤ gb407)); have n4_ := Aside0.mk ((by rw [hg]; exact (below_size (zb HB.out)) : w.heap.size ≤ gb407)); clear HO403; clear HB; have HO403 := n0_; have HB := n1_; have BK407 := n2_; have GW407 := n3_; have GE407 := n4_; clear n0_ n1_ n2_ n3_ n4_; clear hb hbox hg; obtain ⟨Ao30, co30, eo30⟩ := Kd.R_slice HO403.out; subst eo30; have hcz31_0 : w29.cell? ⟨gb407, 0, none⟩ = some (.slice none 0 0) := (blk_cell BK407.out 0).trans rfl; have hfz31_0 := blk_frozen BK407.out 0) | ((with_reducible refine gate_callee (f := 10) rfl ?_); refine goesL_ (some 28) rfl rfl Try.func10 (by kernel_rfl) rfl #[.agg #[.slice Ao30 t401.length co30], .int .i64 t404, .int .i64 t405, .int .i64 t406] rfl zl ?_; (with_reducible refine (impl_TermSwap.calls k _ _ t401 t404 t405 t406 t408 t411 _ ?side1 ?side2 A5.out).mono ?_); (case side1 => refine (Kd.R_reads' (e := 55) (base := w.heap.size) (ok := fun k_ => True) (n := t401.length) (c := co30) ?_).2.2; exact (by (with_reducible repeat (first | apply Kd.R_alloc | apply Kd.R_drewN | apply Kd.R_drew)); exact (Kd.R_mono (Kd.R_far (p := ⟨gb407, 0, none⟩) (Kd.R_types HO403.out BK407.out (by decide)) (fun _ hk => hk.2) (.slice Ao30 t401.length co30)) (fun _ h_ => h_.1)))); (case side2 => exact (Kd.R_reads' HO403.out).2.1); rintro e w32 ⟨v409, rfl, ho0, hb⟩; refine ⟨_, rfl, ?_⟩; have n0_ := Aside0.mk (Kd.R_elder' (by (with_reducible repeat (first | apply Kd.R_alloc | apply Kd.R_drewN | apply Kd.R_drew)); exact (Kd.R_mono (Kd.R_far (p := ⟨gb407, 0, none⟩) (Kd.R_types HO403.out BK407.out (by decide)) (fun _ hk => hk.2) (.slice Ao30 t401.length co30)) (fun _ h_ => h_.1))) (Kd.R_base ho0) hb); have n1_ := Aside0.mk (Kd.R_lower (Kd.R_new' ho0 (Kd.R_lt (by (with_reducible repeat (first | apply Kd.R_alloc | apply Kd.R_drewN | apply Kd.R_drew)); exact (Kd.R_mono (Kd.R_far (p := ⟨gb407, 0, none⟩) (Kd.R_types HO403.out BK407.out (by decide)) (fun _ hk => hk.2) (.slice Ao30 t401.length co30)) (fun _ h_ => h_.1))))) (below_size (zb HB.out))); have n2_ := Aside0.mk (blk_below (g := gb407) (o := .cells #[.slice Ao30 t401.length co30] 28 (0, 0)) (by (with_reducible repeat (first | refine blk_drewN ?_ _ | refine blk_drew ?_ | refine blk_alloc ?_ _)); refine blk_put (cs := #[.slice none 0 0]) ?_ 0 _ rfl; (with_reducible repeat (first | refine blk_drewN ?_ _ | refine blk_drew ?_ | refine blk_alloc ?_ _)); exact BK407.out) hb); have n3_ := Aside0.mk (below_step (zb HB.out) hb); clear HO403; clear BK407; clear HB; have HO403 := n0_; have HO410 := n1_; have BK407 := n2_; have HB := n3_; clear n0_ n1_ n2_ n3_; (try clear hb); (try clear hb2); (try clear hk); (try clear hi); (try clear ho0)) | ((with_reducible refine gate_dst (N := 7) rfl ?_); (try (refine gate_guard (by rfl) ?_; dsimp only)); refine box_event ?hg (N := 7) ?hd (cs := #[.slice none 0 0]) (t := 28) ?hr ?_; (case hd => rfl); (case hg => rfl); (case hr => first | (go_simp; done) | (go_simp; rfl)); intro gb412 hg w33 hbox hb; have n0_ := Aside0.mk (Kd.R_below (zr HO403.out) hb); have n1_ := Aside0.mk (Kd.R_below (zr HO410.out) hb); have n2_ := Aside0.mk (blk_below (zh BK407.out) hb); have n3_ := Aside0.mk (below_step (zb HB.out) hb); have n4_ := Aside0.mk (hbox); have n5_ := Aside0.mk ((by rw [hg]; exact (below_size (zb HB.out)) : w.heap.size ≤ gb412)); have n6_ := Aside0.mk ((by rw [hg]; exact (below_size (zb HB.out)) : w.heap.size ≤ gb412)); have n7_ := Aside0.mk ((by rw [hg]; exact Nat.ne_of_lt (blk_lt (zh BK407.out)) : gb407 ≠ gb412)); have n8_ := Aside0.mk ((by rw [hg]; exact Nat.ne_of_gt (blk_lt (zh BK407.out)) : gb412 ≠ gb407)); clear HO403; clear HO410; clear BK407; clear HB; have HO403 := n0_; have HO410 := n1_; have BK407 := n2_; have HB := n3_; have BK412 := n4_; have GW412 := n5_; have GE412 := n6_; have NB407_412 := n7_; have NB412_407 := n8_; clear n0_ n1_ n2_ n3_ n4_ n5_ n6_ n7_ n8_; clear hb hbox hg; obtain ⟨Ao34, co34, eo34⟩ := Kd.R_slice HO410.out; subst eo34; have hnb35 := NB412_407.out; have hnc35 := NB407_412.out; have hcz36_0 : w33.cell? ⟨gb412, 0, none⟩ = some (.slice none 0 0) := (blk_cell BK412.out 0).trans rfl; have hfz36_0 := blk_frozen BK412.out 0; have hcz37_0 : w33.cell? ⟨gb407, 0, none⟩ = some (.slice Ao30 t401.length co30) := (blk_cell BK407.out 0).trans rfl; have hfz37_0 := blk_frozen BK407.out 0) | ((with_reducible refine gate_callee (f := 8) rfl ?_); refine goesL_ (some 36) rfl rfl Try.func8 (by kernel_rfl) rfl #[.agg #[.slice Ao30 t401.length co30], .int .i64 t404, .int .i64 t405, .int .i64 t406] rfl zl ?_; (with_reducible refine (spec_TermSwap.calls k _ _ t401 t404 t405 t406 t413 t416 _ ?side1 ?side2 A6.out).mono ?_); (case side1 => refine (Kd.R_reads' (e := 55) (base := w.heap.size) (ok := fun k_ => (True ∧ some k_ ≠ (.slice Ao34 t408.length co34 : Value).ownBlock)) (n := t401.length) (c := co30) ?_).2.2; exact (by (with_reducible repeat (first | apply Kd.R_alloc | apply Kd.R_drewN | apply Kd.R_drew)); exact (Kd.R_mono (Kd.R_far (p := ⟨gb412, 0, none⟩) (Kd.R_types HO403.out BK412.out (by decide)) (fun _ hk => hk.2) (.slice Ao34 t408.length co34)) (fun _ h_ => h_.1)))); (case side2 => exact (Kd.R_reads' HO403.out).2.1); rintro e w38 ⟨v414, rfl, ho0, hb⟩; refine ⟨_, rfl, ?_⟩; have n0_ := Aside0.mk (Kd.R_elder' (by (with_reducible repeat (first | apply Kd.R_alloc | apply Kd.R_drewN | apply Kd.R_drew)); exact (Kd.R_mono (Kd.R_far (p := ⟨gb412, 0, none⟩) (Kd.R_types HO403.out BK412.out (by decide)) (fun _ hk => hk.2) (.slice Ao34 t408.length co34)) (fun _ h_ => h_.1))) (Kd.R_base ho0) hb); have n1_ := Aside0.mk (Kd.R_elder' (by (with_reducible repeat (first | apply Kd.R_alloc | apply Kd.R_drewN | apply Kd.R_drew)); exact (Kd.R_mono (Kd.R_far (p := ⟨gb412, 0, none⟩) (Kd.R_types HO410.out BK412.out (by decide)) (fun _ hk => hk.2) (.slice Ao34 t408.length co34)) (fun _ h_ => h_.1))) (Kd.R_base ho0) hb); have n2_ := Aside0.mk (Kd.R_lower (Kd.R_new' (Kd.R_new' ho0 (Kd.R_lt (by (with_reducible repeat (first | apply Kd.R_alloc | apply Kd.R_drewN | apply Kd.R_drew)); exact (Kd.R_mono (Kd.R_far (p := ⟨gb412, 0, none⟩) (Kd.R_types HO403.out BK412.out (by decide)) (fun _ hk => hk.2) (.slice Ao34 t408.length co34)) (fun _ h_ => h_.1))))) (Kd.R_lt (by (with_reducible repeat (first | apply Kd.R_alloc | apply Kd.R_drewN | apply Kd.R_drew)); exact (Kd.R_mono (Kd.R_far (p := ⟨gb412, 0, none⟩) (Kd.R_types HO410.out BK412.out (by decide)) (fun _ hk => hk.2) (.slice Ao34 t408.length co34)) (fun _ h_ => h_.1))))) (below_size (zb HB.out))); have n3_ := Aside0.mk (blk_below (g := gb407) (o := .cells #[.slice Ao30 t401.length co30] 28 (0, 0)) (zf BK407.out) hb); have n4_ := Aside0.mk (blk_below (g := gb412) (o := .cells #[.slice Ao34 t408.length co34] 28 (0, 0)) (by (with_reducible repeat (first | refine blk_drewN ?_ _ | refine blk_drew ?_ | refine blk_alloc ?_ _)); refine blk_put (cs := #[.slice none 0 0]) ?_ 0 _ rfl; (with_reducible repeat (first | refine blk_drewN ?_ _ | refine blk_drew ?_ | refine blk_alloc ?_ _)); exact BK412.out) hb); have n5_ := Aside0.mk (below_step (zb HB.out) hb); clear HO403; clear HO410; clear BK407; clear BK412; clear HB; have HO403 := n0_; have HO410 := n1_; have HO415 := n2_; have BK407 := n3_; have BK412 := n4_; have HB := n5_; clear n0_ n1_ n2_ n3_ n4_ n5_; (try clear hb); (try clear hb2); (try clear hk); (try clear hi); (try clear ho0)) | ((with_reducible refine gate_dst (N := 9) rfl ?_); (try (refine gate_guard (by rfl) ?_; dsimp only)); refine box_event ?hg (N := 9) ?hd (cs := #[.slice none 0 0]) (t := 28) ?hr ?_; (case hd => rfl); (case hg => rfl); (case hr => first | (go_simp; done) | (go_simp; rfl)); intro gb417 hg w39 hbox hb; have n0_ := Aside0.mk (Kd.R_below (zr HO403.out) hb); have n1_ := Aside0.mk (Kd.R_below (zr HO410.out) hb); have n2_ := Aside0.mk (Kd.R_below (zr HO415.out) hb); have n3_ := Aside0.mk (blk_below (zh BK407.out) hb); have n4_ := Aside0.mk (blk_below (zh BK412.out) hb); have n5_ := Aside0.mk (below_step (zb HB.out) hb); have n6_ := Aside0.mk (hbox); have n7_ := Aside0.mk ((by rw [hg]; exact (below_size (zb HB.out)) : w.heap.size ≤ gb417)); have n8_ := Aside0.mk ((by rw [hg]; exact (below_size (zb HB.out)) : w.heap.size ≤ gb417)); have n9_ := Aside0.mk ((by rw [hg]; exact Nat.ne_of_lt (blk_lt (zh BK407.out)) : gb407 ≠ gb417)); have n10_ := Aside0.mk ((by rw [hg]; exact Nat.ne_of_gt (blk_lt (zh BK407.out)) : gb417 ≠ gb407)); have n11_ := Aside0.mk ((by rw [hg]; exact Nat.ne_of_lt (blk_lt (zh BK412.out)) : gb412 ≠ gb417)); have n12_ := Aside0.mk ((by rw [hg]; exact Nat.ne_of_gt (blk_lt (zh BK412.out)) : gb417 ≠ gb412)); clear HO403; clear HO410; clear HO415; clear BK407; clear BK412; clear HB; have HO403 := n0_; have HO410 := n1_; have HO415 := n2_; have BK407 := n3_; have BK412 := n4_; have HB := n5_; have BK417 := n6_; have GW417 := n7_; have GE417 := n8_; have NB407_417 := n9_; have NB417_407 := n10_; have NB412_417 := n11_; have NB417_412 := n12_; clear n0_ n1_ n2_ n3_ n4_ n5_ n6_ n7_ n8_ n9_ n10_ n11_ n12_; clear hb hbox hg; obtain ⟨Ao40, co40, eo40⟩ := Kd.R_slice HO415.out; subst eo40; have hnb41 := NB417_407.out; have hnc41 := NB407_417.out; have hnb42 := NB417_412.out; have hnc42 := NB412_417.out; have hcz43_0 : w39.cell? ⟨gb417, 0, none⟩ = some (.slice none 0 0) := (blk_cell BK417.out 0).trans rfl; have hfz43_0 := blk_frozen BK417.out 0; have hcz44_0 : w39.cell? ⟨gb412, 0, none⟩ = some (.slice Ao34 t408.length co34) := (blk_cell BK412.out 0).trans rfl; have hfz44_0 := blk_frozen BK412.out 0; have hcz45_0 : w39.cell? ⟨gb407, 0, none⟩ = some (.slice Ao30 t401.length co30) := (blk_cell BK407.out 0).trans rfl; have hfz45_0 := blk_frozen BK407.out 0))
     go_ret
     exact ⟨ze, zb HB.out⟩
   ·rw [if_neg c8] at H
    have c8b0 : decide (t411 < 0) = false := decide_eq_false c8
    clear c8
    replace H := Option.bind_eq_some_iff.mp H
    obtain ⟨⟨t418, t421⟩, A460, H⟩ := H
    replace H : ((impl_TermHas.f k t401 t404 t405).bind fun t423 => (if t421 = t404 then (if (t418.length : Int) = (t401.length : Int) then (if t423 = true then ((impl_TermHas.f k t408 t411 t406).bind fun t424 => (laws_FnSwap.j0 k t405 t406 t411 (!t424) t401 t408)) else (if t411 = t404 then (laws_FnSwap.j0 k t405 t406 t411 false t401 t408) else (laws_FnSwap.j0 k t405 t406 t411 true t401 t408))) else (laws_FnSwap.j0 k t405 t406 t411 true t401 t408)) else (laws_FnSwap.j0 k t405 t406 t411 true t401 t408))) = some r := H
    have A46 := Aside0.mk A460
    clear A460
    replace H := Option.bind_eq_some_iff.mp H
    obtain ⟨t423, A470, H⟩ := H
    replace H : (if t421 = t404 then (if (t418.length : Int) = (t401.length : Int) then (if t423 = true then ((impl_TermHas.f k t408 t411 t406).bind fun t424 => (laws_FnSwap.j0 k t405 t406 t411 (!t424) t401 t408)) else (if t411 = t404 then (laws_FnSwap.j0 k t405 t406 t411 false t401 t408) else (laws_FnSwap.j0 k t405 t406 t411 true t401 t408))) else (laws_FnSwap.j0 k t405 t406 t411 true t401 t408)) else (laws_FnSwap.j0 k t405 t406 t411 true t401 t408)) = some r := H
    have A47 := Aside0.mk A470
    clear A470
    have HC48 := Aside0.mk H
    clear H
    go_enter Try.func5, Try.ntmps5
    go_upto_region 12 with (first | ((with_reducible refine gate_callee (f := 16) rfl ?_); refine goesL_ (some 15) rfl rfl Try.func16 (by kernel_rfl) rfl #[.slice A0 l0.length c0] rfl zl ?_; (with_reducible refine (laws_big.calls _ _ l0 false _ ?side1 ?side2 A2.out).mono ?_); (case side1 => exact zc HR0.out); (case side2 => exact HC0.out); rintro e w' ⟨rfl, ⟨nd, rfl⟩⟩; refine ⟨_, rfl, ?_⟩) | ((with_reducible refine gate_callee (f := 17) rfl ?_); refine goesL_ (some 18) rfl rfl Try.func17 (by kernel_rfl) rfl #[.slice A0 l0.length c0] rfl zl ?_; (with_reducible refine (spec_DrawTermSwap.calls k _ _ l0 t401 t404 t405 t406 _ ?side1 ?side2 A4.out).mono ?_); (case side1 => exact zc HR0.out); (case side2 => exact HC0.out); rintro e w49 ⟨v402, rfl, ho0, hb⟩; refine ⟨_, rfl, ?_⟩; have n0_ := Aside0.mk (Kd.R_lower ho0 (below_size (zb HB.out))); have n1_ := Aside0.mk (below_step (zb HB.out) hb); clear HB; have HO403 := n0_; have HB := n1_; clear n0_ n1_; (try clear hb); (try clear hb2); (try clear hk); (try clear hi); (try clear ho0)) | ((with_reducible refine gate_dst (N := 3) rfl ?_); (try (refine gate_guard (by rfl) ?_; dsimp only)); refine box_event ?hg (N := 3) ?hd (cs := #[.slice none 0 0]) (t := 28) ?hr ?_; (case hd => rfl); (case hg => rfl); (case hr => first | (go_simp; done) | (go_simp; rfl)); intro gb407 hg w50 hbox hb; have n0_ := Aside0.mk (Kd.R_below (zr HO403.out) hb); have n1_ := Aside0.mk (below_step (zb HB.out) hb); have n2_ := Aside0.mk (hbox); have n3_ := Aside0.mk ((by rw [hg]; exact (below_size (zb HB.out)) : w.heap.size ≤ gb407)); have n4_ := Aside0.mk ((by rw [hg]; exact (below_size (zb HB.out)) : w.heap.size ≤ gb407)); clear HO403; clear HB; have HO403 := n0_; have HB := n1_; have BK407 := n2_; have GW407 := n3_; have GE407 := n4_; clear n0_ n1_ n2_ n3_ n4_; clear hb hbox hg; obtain ⟨Ao51, co51, eo51⟩ := Kd.R_slice HO403.out; subst eo51; have hcz52_0 : w50.cell? ⟨gb407, 0, none⟩ = some (.slice none 0 0) := (blk_cell BK407.out 0).trans rfl; have hfz52_0 := blk_frozen BK407.out 0) | ((with_reducible refine gate_callee (f := 10) rfl ?_); refine goesL_ (some 28) rfl rfl Try.func10 (by kernel_rfl) rfl #[.agg #[.slice Ao51 t401.length co51], .int .i64 t404, .int .i64 t405, .int .i64 t406] rfl zl ?_; (with_reducible refine (impl_TermSwap.calls k _ _ t401 t404 t405 t406 t408 t411 _ ?side1 ?side2 A5.out).mono ?_); (case side1 => refine (Kd.R_reads' (e := 55) (base := w.heap.size) (ok := fun k_ => True) (n := t401.length) (c := co51) ?_).2.2; exact (by (with_reducible repeat (first | apply Kd.R_alloc | apply Kd.R_drewN | apply Kd.R_drew)); exact (Kd.R_mono (Kd.R_far (p := ⟨gb407, 0, none⟩) (Kd.R_types HO403.out BK407.out (by decide)) (fun _ hk => hk.2) (.slice Ao51 t401.length co51)) (fun _ h_ => h_.1)))); (case side2 => exact (Kd.R_reads' HO403.out).2.1); rintro e w53 ⟨v409, rfl, ho0, hb⟩; refine ⟨_, rfl, ?_⟩; have n0_ := Aside0.mk (Kd.R_elder' (by (with_reducible repeat (first | apply Kd.R_alloc | apply Kd.R_drewN | apply Kd.R_drew)); exact (Kd.R_mono (Kd.R_far (p := ⟨gb407, 0, none⟩) (Kd.R_types HO403.out BK407.out (by decide)) (fun _ hk => hk.2) (.slice Ao51 t401.length co51)) (fun _ h_ => h_.1))) (Kd.R_base ho0) hb); have n1_ := Aside0.mk (Kd.R_lower (Kd.R_new' ho0 (Kd.R_lt (by (with_reducible repeat (first | apply Kd.R_alloc | apply Kd.R_drewN | apply Kd.R_drew)); exact (Kd.R_mono (Kd.R_far (p := ⟨gb407, 0, none⟩) (Kd.R_types HO403.out BK407.out (by decide)) (fun _ hk => hk.2) (.slice Ao51 t401.length co51)) (fun _ h_ => h_.1))))) (below_size (zb HB.out))); have n2_ := Aside0.mk (blk_below (g := gb407) (o := .cells #[.slice Ao51 t401.length co51] 28 (0, 0)) (by (with_reducible repeat (first | refine blk_drewN ?_ _ | refine blk_drew ?_ | refine blk_alloc ?_ _)); refine blk_put (cs := #[.slice none 0 0]) ?_ 0 _ rfl; (with_reducible repeat (first | refine blk_drewN ?_ _ | refine blk_drew ?_ | refine blk_alloc ?_ _)); exact BK407.out) hb); have n3_ := Aside0.mk (below_step (zb HB.out) hb); clear HO403; clear BK407; clear HB; have HO403 := n0_; have HO410 := n1_; have BK407 := n2_; have HB := n3_; clear n0_ n1_ n2_ n3_; (try clear hb); (try clear hb2); (try clear hk); (try clear hi); (try clear ho0)) | ((with_reducible refine gate_dst (N := 7) rfl ?_); (try (refine gate_guard (by rfl) ?_; dsimp only)); refine box_event ?hg (N := 7) ?hd (cs := #[.slice none 0 0]) (t := 28) ?hr ?_; (case hd => rfl); (case hg => rfl); (case hr => first | (go_simp; done) | (go_simp; rfl)); intro gb412 hg w54 hbox hb; have n0_ := Aside0.mk (Kd.R_below (zr HO403.out) hb); have n1_ := Aside0.mk (Kd.R_below (zr HO410.out) hb); have n2_ := Aside0.mk (blk_below (zh BK407.out) hb); have n3_ := Aside0.mk (below_step (zb HB.out) hb); have n4_ := Aside0.mk (hbox); have n5_ := Aside0.mk ((by rw [hg]; exact (below_size (zb HB.out)) : w.heap.size ≤ gb412)); have n6_ := Aside0.mk ((by rw [hg]; exact (below_size (zb HB.out)) : w.heap.size ≤ gb412)); have n7_ := Aside0.mk ((by rw [hg]; exact Nat.ne_of_lt (blk_lt (zh BK407.out)) : gb407 ≠ gb412)); have n8_ := Aside0.mk ((by rw [hg]; exact Nat.ne_of_gt (blk_lt (zh BK407.out)) : gb412 ≠ gb407)); clear HO403; clear HO410; clear BK407; clear HB; have HO403 := n0_; have HO410 := n1_; have BK407 := n2_; have HB := n3_; have BK412 := n4_; have GW412 := n5_; have GE412 := n6_; have NB407_412 := n7_; have NB412_407 := n8_; clear n0_ n1_ n2_ n3_ n4_ n5_ n6_ n7_ n8_; clear hb hbox hg; obtain ⟨Ao55, co55, eo55⟩ := Kd.R_slice HO410.out; subst eo55; have hnb56 := NB412_407.out; have hnc56 := NB407_412.out; have hcz57_0 : w54.cell? ⟨gb412, 0, none⟩ = some (.slice none 0 0) := (blk_cell BK412.out 0).trans rfl; have hfz57_0 := blk_frozen BK412.out 0; have hcz58_0 : w54.cell? ⟨gb407, 0, none⟩ = some (.slice Ao51 t401.length co51) := (blk_cell BK407.out 0).trans rfl; have hfz58_0 := blk_frozen BK407.out 0) | ((with_reducible refine gate_callee (f := 8) rfl ?_); refine goesL_ (some 36) rfl rfl Try.func8 (by kernel_rfl) rfl #[.agg #[.slice Ao51 t401.length co51], .int .i64 t404, .int .i64 t405, .int .i64 t406] rfl zl ?_; (with_reducible refine (spec_TermSwap.calls k _ _ t401 t404 t405 t406 t413 t416 _ ?side1 ?side2 A6.out).mono ?_); (case side1 => refine (Kd.R_reads' (e := 55) (base := w.heap.size) (ok := fun k_ => (True ∧ some k_ ≠ (.slice Ao55 t408.length co55 : Value).ownBlock)) (n := t401.length) (c := co51) ?_).2.2; exact (by (with_reducible repeat (first | apply Kd.R_alloc | apply Kd.R_drewN | apply Kd.R_drew)); exact (Kd.R_mono (Kd.R_far (p := ⟨gb412, 0, none⟩) (Kd.R_types HO403.out BK412.out (by decide)) (fun _ hk => hk.2) (.slice Ao55 t408.length co55)) (fun _ h_ => h_.1)))); (case side2 => exact (Kd.R_reads' HO403.out).2.1); rintro e w59 ⟨v414, rfl, ho0, hb⟩; refine ⟨_, rfl, ?_⟩; have n0_ := Aside0.mk (Kd.R_elder' (by (with_reducible repeat (first | apply Kd.R_alloc | apply Kd.R_drewN | apply Kd.R_drew)); exact (Kd.R_mono (Kd.R_far (p := ⟨gb412, 0, none⟩) (Kd.R_types HO403.out BK412.out (by decide)) (fun _ hk => hk.2) (.slice Ao55 t408.length co55)) (fun _ h_ => h_.1))) (Kd.R_base ho0) hb); have n1_ := Aside0.mk (Kd.R_elder' (by (with_reducible repeat (first | apply Kd.R_alloc | apply Kd.R_drewN | apply Kd.R_drew)); exact (Kd.R_mono (Kd.R_far (p := ⟨gb412, 0, none⟩) (Kd.R_types HO410.out BK412.out (by decide)) (fun _ hk => hk.2) (.slice Ao55 t408.length co55)) (fun _ h_ => h_.1))) (Kd.R_base ho0) hb); have n2_ := Aside0.mk (Kd.R_lower (Kd.R_new' (Kd.R_new' ho0 (Kd.R_lt (by (with_reducible repeat (first | apply Kd.R_alloc | apply Kd.R_drewN | apply Kd.R_drew)); exact (Kd.R_mono (Kd.R_far (p := ⟨gb412, 0, none⟩) (Kd.R_types HO403.out BK412.out (by decide)) (fun _ hk => hk.2) (.slice Ao55 t408.length co55)) (fun _ h_ => h_.1))))) (Kd.R_lt (by (with_reducible repeat (first | apply Kd.R_alloc | apply Kd.R_drewN | apply Kd.R_drew)); exact (Kd.R_mono (Kd.R_far (p := ⟨gb412, 0, none⟩) (Kd.R_types HO410.out BK412.out (by decide)) (fun _ hk => hk.2) (.slice Ao55 t408.length co55)) (fun _ h_ => h_.1))))) (below_size (zb HB.out))); have n3_ := Aside0.mk (blk_below (g := gb407) (o := .cells #[.slice Ao51 t401.length co51] 28 (0, 0)) (zf BK407.out) hb); have n4_ := Aside0.mk (blk_below (g := gb412) (o := .cells #[.slice Ao55 t408.length co55] 28 (0, 0)) (by (with_reducible repeat (first | refine blk_drewN ?_ _ | refine blk_drew ?_ | refine blk_alloc ?_ _)); refine blk_put (cs := #[.slice none 0 0]) ?_ 0 _ rfl; (with_reducible repeat (first | refine blk_drewN ?_ _ | refine blk_drew ?_ | refine blk_alloc ?_ _)); exact BK412.out) hb); have n5_ := Aside0.mk (below_step (zb HB.out) hb); clear HO403; clear HO410; clear BK407; clear BK412; clear HB; have HO403 := n0_; have HO410 := n1_; have HO415 := n2_; have BK407 := n3_; have BK412 := n4_; have HB := n5_; clear n0_ n1_ n2_ n3_ n4_ n5_; (try clear hb); (try clear hb2); (try clear hk); (try clear hi); (try clear ho0)) | ((with_reducible refine gate_dst (N := 9) rfl ?_); (try (refine gate_guard (by rfl) ?_; dsimp only)); refine box_event ?hg (N := 9) ?hd (cs := #[.slice none 0 0]) (t := 28) ?hr ?_; (case hd => rfl); (case hg => rfl); (case hr => first | (go_simp; done) | (go_simp; rfl)); intro gb417 hg w60 hbox hb; have n0_ := Aside0.mk (Kd.R_below (zr HO403.out) hb); have n1_ := Aside0.mk (Kd.R_below (zr HO410.out) hb); have n2_ := Aside0.mk (Kd.R_below (zr HO415.out) hb); have n3_ := Aside0.mk (blk_below (zh BK407.out) hb); have n4_ := Aside0.mk (blk_below (zh BK412.out) hb); have n5_ := Aside0.mk (below_step (zb HB.out) hb); have n6_ := Aside0.mk (hbox); have n7_ := Aside0.mk ((by rw [hg]; exact (below_size (zb HB.out)) : w.heap.size ≤ gb417)); have n8_ := Aside0.mk ((by rw [hg]; exact (below_size (zb HB.out)) : w.heap.size ≤ gb417)); have n9_ := Aside0.mk ((by rw [hg]; exact Nat.ne_of_lt (blk_lt (zh BK407.out)) : gb407 ≠ gb417)); have n10_ := Aside0.mk ((by rw [hg]; exact Nat.ne_of_gt (blk_lt (zh BK407.out)) : gb417 ≠ gb407)); have n11_ := Aside0.mk ((by rw [hg]; exact Nat.ne_of_lt (blk_lt (zh BK412.out)) : gb412 ≠ gb417)); have n12_ := Aside0.mk ((by rw [hg]; exact Nat.ne_of_gt (blk_lt (zh BK412.out)) : gb417 ≠ gb412)); clear HO403; clear HO410; clear HO415; clear BK407; clear BK412; clear HB; have HO403 := n0_; have HO410 := n1_; have HO415 := n2_; have BK407 := n3_; have BK412 := n4_; have HB := n5_; have BK417 := n6_; have GW417 := n7_; have GE417 := n8_; have NB407_417 := n9_; have NB417_407 := n10_; have NB412_417 := n11_; have NB417_412 := n12_; clear n0_ n1_ n2_ n3_ n4_ n5_ n6_ n7_ n8_ n9_ n10_ n11_ n12_; clear hb hbox hg; obtain ⟨Ao61, co61, eo61⟩ := Kd.R_slice HO415.out; subst eo61; have hnb62 := NB417_407.out; have hnc62 := NB407_417.out; have hnb63 := NB417_412.out; have hnc63 := NB412_417.out; have hcz64_0 : w60.cell? ⟨gb417, 0, none⟩ = some (.slice none 0 0) := (blk_cell BK417.out 0).trans rfl; have hfz64_0 := blk_frozen BK417.out 0; have hcz65_0 : w60.cell? ⟨gb407, 0, none⟩ = some (.slice Ao51 t401.length co51) := (blk_cell BK407.out 0).trans rfl; have hfz65_0 := blk_frozen BK407.out 0) | ((with_reducible refine gate_callee (f := 10) rfl ?_); refine goesL_ (some 62) rfl rfl Try.func10 (by kernel_rfl) rfl #[.agg #[.slice Ao51 t401.length co51], .int .i64 t404, .int .i64 t405, .int .i64 t405] rfl zl ?_; (with_reducible refine (impl_TermSwap.calls k _ _ t401 t404 t405 t405 t418 t421 _ ?side1 ?side2 A46.out).mono ?_); (case side1 => refine (Kd.R_reads' (e := 55) (base := w.heap.size) (ok := fun k_ => ((True ∧ some k_ ≠ (.slice Ao55 t408.length co55 : Value).ownBlock) ∧ some k_ ≠ (.slice Ao61 t413.length co61 : Value).ownBlock)) (n := t401.length) (c := co51) ?_).2.2; exact (by (with_reducible repeat (first | apply Kd.R_alloc | apply Kd.R_drewN | apply Kd.R_drew)); exact (Kd.R_mono (Kd.R_far (p := ⟨gb417, 0, none⟩) (Kd.R_types HO403.out BK417.out (by decide)) (fun _ hk => hk.2) (.slice Ao61 t413.length co61)) (fun _ h_ => h_.1)))); (case side2 => exact (Kd.R_reads' HO403.out).2.1); rintro e w66 ⟨v419, rfl, ho0, hb⟩; refine ⟨_, rfl, ?_⟩; have n0_ := Aside0.mk (Kd.R_elder' (by (with_reducible repeat (first | apply Kd.R_alloc | apply Kd.R_drewN | apply Kd.R_drew)); exact (Kd.R_mono (Kd.R_far (p := ⟨gb417, 0, none⟩) (Kd.R_types HO403.out BK417.out (by decide)) (fun _ hk => hk.2) (.slice Ao61 t413.length co61)) (fun _ h_ => h_.1))) (Kd.R_base ho0) hb); have n1_ := Aside0.mk (Kd.R_elder' (by (with_reducible repeat (first | apply Kd.R_alloc | apply Kd.R_drewN | apply Kd.R_drew)); exact (Kd.R_mono (Kd.R_far (p := ⟨gb417, 0, none⟩) (Kd.R_types HO410.out BK417.out (by decide)) (fun _ hk => hk.2) (.slice Ao61 t413.length co61)) (fun _ h_ => h_.1))) (Kd.R_base ho0) hb); have n2_ := Aside0.mk (Kd.R_elder' (by (with_reducible repeat (first | apply Kd.R_alloc | apply Kd.R_drewN | apply Kd.R_drew)); exact (Kd.R_mono (Kd.R_far (p := ⟨gb417, 0, none⟩) (Kd.R_types HO415.out BK417.out (by decide)) (fun _ hk => hk.2) (.slice Ao61 t413.length co61)) (fun _ h_ => h_.1))) (Kd.R_base ho0) hb); have n3_ := Aside0.mk (Kd.R_lower (Kd.R_new' (Kd.R_new' (Kd.R_new' ho0 (Kd.R_lt (by (with_reducible repeat (first | apply Kd.R_alloc | apply Kd.R_drewN | apply Kd.R_drew)); exact (Kd.R_mono (Kd.R_far (p := ⟨gb417, 0, none⟩) (Kd.R_types HO403.out BK417.out (by decide)) (fun _ hk => hk.2) (.slice Ao61 t413.length co61)) (fun _ h_ => h_.1))))) (Kd.R_lt (by (with_reducible repeat (first | apply Kd.R_alloc | apply Kd.R_drewN | apply Kd.R_drew)); exact (Kd.R_mono (Kd.R_far (p := ⟨gb417, 0, none⟩) (Kd.R_types HO410.out BK417.out (by decide)) (fun _ hk => hk.2) (.slice Ao61 t413.length co61)) (fun _ h_ => h_.1))))) (Kd.R_lt (by (with_reducible repeat (first | apply Kd.R_alloc | apply Kd.R_drewN | apply Kd.R_drew)); exact (Kd.R_mono (Kd.R_far (p := ⟨gb417, 0, none⟩) (Kd.R_types HO415.out BK417.out (by decide)) (fun _ hk => hk.2) (.slice Ao61 t413.length co61)) (fun _ h_ => h_.1))))) (below_size (zb HB.out))); have n4_ := Aside0.mk (blk_below (g := gb407) (o := .cells #[.slice Ao51 t401.length co51] 28 (0, 0)) (zf BK407.out) hb); have n5_ := Aside0.mk (blk_below (g := gb412) (o := .cells #[.slice Ao55 t408.length co55] 28 (0, 0)) (zf BK412.out) hb); have n6_ := Aside0.mk (blk_below (g := gb417) (o := .cells #[.slice Ao61 t413.length co61] 28 (0, 0)) (by (with_reducible repeat (first | refine blk_drewN ?_ _ | refine blk_drew ?_ | refine blk_alloc ?_ _)); refine blk_put (cs := #[.slice none 0 0]) ?_ 0 _ rfl; (with_reducible repeat (first | refine blk_drewN ?_ _ | refine blk_drew ?_ | refine blk_alloc ?_ _)); exact BK417.out) hb); have n7_ := Aside0.mk (below_step (zb HB.out) hb); clear HO403; clear HO410; clear HO415; clear BK407; clear BK412; clear BK417; clear HB; have HO403 := n0_; have HO410 := n1_; have HO415 := n2_; have HO420 := n3_; have BK407 := n4_; have BK412 := n5_; have BK417 := n6_; have HB := n7_; clear n0_ n1_ n2_ n3_ n4_ n5_ n6_ n7_; (try clear hb); (try clear hb2); (try clear hk); (try clear hi); (try clear ho0)) | ((with_reducible refine gate_dst (N := 11) rfl ?_); (try (refine gate_guard (by rfl) ?_; dsimp only)); refine box_event ?hg (N := 11) ?hd (cs := #[.slice none 0 0]) (t := 28) ?hr ?_; (case hd => rfl); (case hg => rfl); (case hr => first | (go_simp; done) | (go_simp; rfl)); intro gb422 hg w67 hbox hb; have n0_ := Aside0.mk (Kd.R_below (zr HO403.out) hb); have n1_ := Aside0.mk (Kd.R_below (zr HO410.out) hb); have n2_ := Aside0.mk (Kd.R_below (zr HO415.out) hb); have n3_ := Aside0.mk (Kd.R_below (zr HO420.out) hb); have n4_ := Aside0.mk (blk_below (zh BK407.out) hb); have n5_ := Aside0.mk (blk_below (zh BK412.out) hb); have n6_ := Aside0.mk (blk_below (zh BK417.out) hb); have n7_ := Aside0.mk (below_step (zb HB.out) hb); have n8_ := Aside0.mk (hbox); have n9_ := Aside0.mk ((by rw [hg]; exact (below_size (zb HB.out)) : w.heap.size ≤ gb422)); have n10_ := Aside0.mk ((by rw [hg]; exact (below_size (zb HB.out)) : w.heap.size ≤ gb422)); have n11_ := Aside0.mk ((by rw [hg]; exact Nat.ne_of_lt (blk_lt (zh BK407.out)) : gb407 ≠ gb422)); have n12_ := Aside0.mk ((by rw [hg]; exact Nat.ne_of_gt (blk_lt (zh BK407.out)) : gb422 ≠ gb407)); have n13_ := Aside0.mk ((by rw [hg]; exact Nat.ne_of_lt (blk_lt (zh BK412.out)) : gb412 ≠ gb422)); have n14_ := Aside0.mk ((by rw [hg]; exact Nat.ne_of_gt (blk_lt (zh BK412.out)) : gb422 ≠ gb412)); have n15_ := Aside0.mk ((by rw [hg]; exact Nat.ne_of_lt (blk_lt (zh BK417.out)) : gb417 ≠ gb422)); have n16_ := Aside0.mk ((by rw [hg]; exact Nat.ne_of_gt (blk_lt (zh BK417.out)) : gb422 ≠ gb417)); clear HO403; clear HO410; clear HO415; clear HO420; clear BK407; clear BK412; clear BK417; clear HB; have HO403 := n0_; have HO410 := n1_; have HO415 := n2_; have HO420 := n3_; have BK407 := n4_; have BK412 := n5_; have BK417 := n6_; have HB := n7_; have BK422 := n8_; have GW422 := n9_; have GE422 := n10_; have NB407_422 := n11_; have NB422_407 := n12_; have NB412_422 := n13_; have NB422_412 := n14_; have NB417_422 := n15_; have NB422_417 := n16_; clear n0_ n1_ n2_ n3_ n4_ n5_ n6_ n7_ n8_ n9_ n10_ n11_ n12_ n13_ n14_ n15_ n16_; clear hb hbox hg; obtain ⟨Ao68, co68, eo68⟩ := Kd.R_slice HO420.out; subst eo68; have hnb69 := NB422_407.out; have hnc69 := NB407_422.out; have hnb70 := NB422_412.out; have hnc70 := NB412_422.out; have hnb71 := NB422_417.out; have hnc71 := NB417_422.out; have hcz72_0 : w67.cell? ⟨gb422, 0, none⟩ = some (.slice none 0 0) := (blk_cell BK422.out 0).trans rfl; have hfz72_0 := blk_frozen BK422.out 0; have hcz73_0 : w67.cell? ⟨gb407, 0, none⟩ = some (.slice Ao51 t401.length co51) := (blk_cell BK407.out 0).trans rfl; have hfz73_0 := blk_frozen BK407.out 0) | ((with_reducible refine gate_callee (f := 18) rfl ?_); refine goesL_ (some 68) rfl rfl Try.func18 (by kernel_rfl) rfl #[.agg #[.slice Ao51 t401.length co51], .int .i64 t404, .int .i64 t405] rfl zl ?_; (with_reducible refine (impl_TermHas.calls k _ _ t401 t404 t405 t423 _ ?side1 ?side2 A47.out).mono ?_); (case side1 => refine (Kd.R_reads' (e := 55) (base := w.heap.size) (ok := fun k_ => (((True ∧ some k_ ≠ (.slice Ao55 t408.length co55 : Value).ownBlock) ∧ some k_ ≠ (.slice Ao61 t413.length co61 : Value).ownBlock) ∧ some k_ ≠ (.slice Ao68 t418.length co68 : Value).ownBlock)) (n := t401.length) (c := co51) ?_).2.2; exact (by (with_reducible repeat (first | apply Kd.R_alloc | apply Kd.R_drewN | apply Kd.R_drew)); exact (Kd.R_mono (Kd.R_far (p := ⟨gb422, 0, none⟩) (Kd.R_types HO403.out BK422.out (by decide)) (fun _ hk => hk.2) (.slice Ao68 t418.length co68)) (fun _ h_ => h_.1)))); (case side2 => exact (Kd.R_reads' HO403.out).2.1); rintro e w74 ⟨rfl, hb⟩; refine ⟨_, rfl, ?_⟩; have n0_ := Aside0.mk (Kd.R_below (by (with_reducible repeat (first | apply Kd.R_alloc | apply Kd.R_drewN | apply Kd.R_drew)); exact (Kd.R_mono (Kd.R_far (p := ⟨gb422, 0, none⟩) (Kd.R_types HO403.out BK422.out (by decide)) (fun _ hk => hk.2) (.slice Ao68 t418.length co68)) (fun _ h_ => h_.1))) hb); have n1_ := Aside0.mk (Kd.R_below (by (with_reducible repeat (first | apply Kd.R_alloc | apply Kd.R_drewN | apply Kd.R_drew)); exact (Kd.R_mono (Kd.R_far (p := ⟨gb422, 0, none⟩) (Kd.R_types HO410.out BK422.out (by decide)) (fun _ hk => hk.2) (.slice Ao68 t418.length co68)) (fun _ h_ => h_.1))) hb); have n2_ := Aside0.mk (Kd.R_below (by (with_reducible repeat (first | apply Kd.R_alloc | apply Kd.R_drewN | apply Kd.R_drew)); exact (Kd.R_mono (Kd.R_far (p := ⟨gb422, 0, none⟩) (Kd.R_types HO415.out BK422.out (by decide)) (fun _ hk => hk.2) (.slice Ao68 t418.length co68)) (fun _ h_ => h_.1))) hb); have n3_ := Aside0.mk (Kd.R_below (by (with_reducible repeat (first | apply Kd.R_alloc | apply Kd.R_drewN | apply Kd.R_drew)); exact (Kd.R_mono (Kd.R_far (p := ⟨gb422, 0, none⟩) (Kd.R_types HO420.out BK422.out (by decide)) (fun _ hk => hk.2) (.slice Ao68 t418.length co68)) (fun _ h_ => h_.1))) hb); have n4_ := Aside0.mk (blk_below (g := gb407) (o := .cells #[.slice Ao51 t401.length co51] 28 (0, 0)) (zf BK407.out) hb); have n5_ := Aside0.mk (blk_below (g := gb412) (o := .cells #[.slice Ao55 t408.length co55] 28 (0, 0)) (zf BK412.out) hb); have n6_ := Aside0.mk (blk_below (g := gb417) (o := .cells #[.slice Ao61 t413.length co61] 28 (0, 0)) (zf BK417.out) hb); have n7_ := Aside0.mk (blk_below (g := gb422) (o := .cells #[.slice Ao68 t418.length co68] 28 (0, 0)) (by (with_reducible repeat (first | refine blk_drewN ?_ _ | refine blk_drew ?_ | refine blk_alloc ?_ _)); refine blk_put (cs := #[.slice none 0 0]) ?_ 0 _ rfl; (with_reducible repeat (first | refine blk_drewN ?_ _ | refine blk_drew ?_ | refine blk_alloc ?_ _)); exact BK422.out) hb); have n8_ := Aside0.mk (below_step (zb HB.out) hb); clear HO403; clear HO410; clear HO415; clear HO420; clear BK407; clear BK412; clear BK417; clear BK422; clear HB; have HO403 := n0_; have HO410 := n1_; have HO415 := n2_; have HO420 := n3_; have BK407 := n4_; have BK412 := n5_; have BK417 := n6_; have BK422 := n7_; have HB := n8_; clear n0_ n1_ n2_ n3_ n4_ n5_ n6_ n7_ n8_; (try clear hb); (try clear hb2); (try clear hk); (try clear hi)))
    (try simp only [Act.put, List.setIfInBounds_toArray, List.set_cons_zero, List.set_cons_succ])
    go_cut [99] (fun v99 wc => ∃ (kq : Nat) (x99_47 : Bool), v99 = .bool x99_47 ∧ Aside0 (laws_FnSwap.j0 kq t405 t406 t411 x99_47 t401 t408 = some r) ∧ Aside0 (kq ≤ k) ∧ Aside0 (Kd.R k55 55 wc w.heap.size (fun k_ => some k_ ≠ ((.slice Ao55 t408.length co55) : Value).ownBlock ∧ some k_ ≠ ((.slice Ao61 t413.length co61) : Value).ownBlock ∧ some k_ ≠ ((.slice Ao68 t418.length co68) : Value).ownBlock) (.slice Ao51 t401.length co51) t401) ∧ Aside0 (Kd.R k55 55 wc w.heap.size (fun k_ => some k_ ≠ ((.slice Ao51 t401.length co51) : Value).ownBlock ∧ some k_ ≠ ((.slice Ao61 t413.length co61) : Value).ownBlock ∧ some k_ ≠ ((.slice Ao68 t418.length co68) : Value).ownBlock) (.slice Ao55 t408.length co55) t408) ∧ Aside0 (Kd.R k55 55 wc w.heap.size (fun k_ => some k_ ≠ ((.slice Ao51 t401.length co51) : Value).ownBlock ∧ some k_ ≠ ((.slice Ao55 t408.length co55) : Value).ownBlock ∧ some k_ ≠ ((.slice Ao68 t418.length co68) : Value).ownBlock) (.slice Ao61 t413.length co61) t413) ∧ Aside0 (Kd.R k55 55 wc w.heap.size (fun k_ => some k_ ≠ ((.slice Ao51 t401.length co51) : Value).ownBlock ∧ some k_ ≠ ((.slice Ao55 t408.length co55) : Value).ownBlock ∧ some k_ ≠ ((.slice Ao61 t413.length co61) : Value).ownBlock) (.slice Ao68 t418.length co68) t418) ∧ Aside0 (wc.heap[gb407]? = some (.cells #[(.slice Ao51 t401.length co51)] 28 (0, 0))) ∧ Aside0 (wc.heap[gb412]? = some (.cells #[(.slice Ao55 t408.length co55)] 28 (0, 0))) ∧ Aside0 (wc.heap[gb417]? = some (.cells #[(.slice Ao61 t413.length co61)] 28 (0, 0))) ∧ Aside0 (wc.heap[gb422]? = some (.cells #[(.slice Ao68 t418.length co68)] 28 (0, 0))) ∧ Aside0 (Below w.heap.size w wc))
    case first =>
     have H := HC48.out
     clear HC48
     by_cases c75 : t421 = t404
     ·rw [if_pos c75] at H
      have c75b0 : (t421 == t404) = true := beq_iff_eq.mpr c75
      have c75b1 : (t421 != t404) = false := bne_eq_false_iff_eq.mpr c75
      clear c75
      (first | rw [c75b0] | (simp only [i64_w, i32_w]; rw [c75b0]) | skip)
      by_cases c76 : (t418.length : Int) = (t401.length : Int)
      ·rw [if_pos c76] at H
       have c76b0 : ((t418.length : Int) == (t401.length : Int)) = true := beq_iff_eq.mpr c76
       have c76b1 : ((t418.length : Int) != (t401.length : Int)) = false := bne_eq_false_iff_eq.mpr c76
       have c76b2 : (t418.length == t401.length) = true := by first | simpa using c76 | (simp at c76 ⊢; omega)
       clear c76
       by_cases c77 : t423 = true
       ·subst c77
        have H1 : ((impl_TermHas.f k t408 t411 t406).bind fun t424 => (laws_FnSwap.j0 k t405 t406 t411 (!t424) t401 t408)) = some r := by rw [if_pos rfl] at H; exact H
        clear H
        have H := H1
        clear H1
        replace H := Option.bind_eq_some_iff.mp H
        obtain ⟨t424, A780, H⟩ := H
        replace H : (laws_FnSwap.j0 k t405 t406 t411 (!t424) t401 t408) = some r := H
        have A78 := Aside0.mk A780
        clear A780
        have H' := Aside0.mk H
        clear H
        have hnb79 := NB422_407.out
        have hnc79 := NB407_422.out
        have hnb80 := NB422_412.out
        have hnc80 := NB412_422.out
        have hnb81 := NB422_417.out
        have hnc81 := NB417_422.out
        have hcz82_0 : w74.cell? ⟨gb422, 0, none⟩ = some (.slice Ao68 t418.length co68) := (blk_cell BK422.out 0).trans rfl
        have hfz82_0 := blk_frozen BK422.out 0
        have hnb83 := NB407_412.out
        have hnc83 := NB412_407.out
        have hnb84 := NB407_417.out
        have hnc84 := NB417_407.out
        have hcz85_0 : w74.cell? ⟨gb407, 0, none⟩ = some (.slice Ao51 t401.length co51) := (blk_cell BK407.out 0).trans rfl
        have hfz85_0 := blk_frozen BK407.out 0
        have hnb86 := NB412_417.out
        have hnc86 := NB417_412.out
        have hcz87_0 : w74.cell? ⟨gb412, 0, none⟩ = some (.slice Ao55 t408.length co55) := (blk_cell BK412.out 0).trans rfl
        have hfz87_0 := blk_frozen BK412.out 0
        go_wp2_with (first | (go_at_call 18; (with_reducible refine (impl_TermHas.calls k _ _ t408 t411 t406 t424 _ ?side1 ?side2 A78.out).mono ?_); (case side1 => exact zc (Kd.R_reads' HO410.out).2.2); (case side2 => exact (Kd.R_reads' HO410.out).2.1); rintro e w88 ⟨rfl, hb⟩; have n0_ := Aside0.mk (Kd.R_below (zr HO403.out) hb); have n1_ := Aside0.mk (Kd.R_below (zr HO410.out) hb); have n2_ := Aside0.mk (Kd.R_below (zr HO415.out) hb); have n3_ := Aside0.mk (Kd.R_below (zr HO420.out) hb); have n4_ := Aside0.mk (blk_below (zh BK407.out) hb); have n5_ := Aside0.mk (blk_below (zh BK412.out) hb); have n6_ := Aside0.mk (blk_below (zh BK417.out) hb); have n7_ := Aside0.mk (blk_below (zh BK422.out) hb); have n8_ := Aside0.mk (below_step (zb HB.out) hb); clear HO403; clear HO410; clear HO415; clear HO420; clear BK407; clear BK412; clear BK417; clear BK422; clear HB; have HO403 := n0_; have HO410 := n1_; have HO415 := n2_; have HO420 := n3_; have BK407 := n4_; have BK412 := n5_; have BK417 := n6_; have BK422 := n7_; have HB := n8_; clear n0_ n1_ n2_ n3_ n4_ n5_ n6_ n7_ n8_; (try clear hb); (try clear hb2); (try clear hk); (try clear hi)))
        go_meet
        case rel => exact ⟨_, (!t424), (by first | rfl | (simp; done) | (simp [*]; done)), H', ⟨by first | omega | exact Nat.le_refl _⟩, ⟨zr (Kd.R_mono HO403.out (fun _ hk => ⟨hk.1.1.2, ⟨hk.1.2, hk.2⟩⟩))⟩, ⟨zr (Kd.R_mono HO410.out (fun _ hk => ⟨hk.1.1.2, ⟨hk.1.2, hk.2⟩⟩))⟩, ⟨zr (Kd.R_mono HO415.out (fun _ hk => ⟨hk.1.1.2, ⟨hk.1.2, hk.2⟩⟩))⟩, ⟨zr (Kd.R_mono HO420.out (fun _ hk => ⟨hk.1.1.2, ⟨hk.1.2, hk.2⟩⟩))⟩, ⟨zh BK407.out⟩, ⟨zh BK412.out⟩, ⟨zh BK417.out⟩, ⟨zh BK422.out⟩, ⟨zb HB.out⟩⟩
       ·replace c77 := Bool.eq_false_iff.mpr c77
        subst c77
        have H1 : (if t411 = t404 then (laws_FnSwap.j0 k t405 t406 t411 false t401 t408) else (laws_FnSwap.j0 k t405 t406 t411 true t401 t408)) = some r := by rw [if_neg (show ¬ (false = true) by decide)] at H; exact H
        clear H
        have H := H1
        clear H1
        by_cases c89 : t411 = t404
        ·rw [if_pos c89] at H
         have c89b0 : (t411 == t404) = true := beq_iff_eq.mpr c89
         have c89b1 : (t411 != t404) = false := bne_eq_false_iff_eq.mpr c89
         clear c89
         have H' := Aside0.mk H
         clear H
         have hnb90 := NB422_407.out
         have hnc90 := NB407_422.out
         have hnb91 := NB422_412.out
         have hnc91 := NB412_422.out
         have hnb92 := NB422_417.out
         have hnc92 := NB417_422.out
         have hcz93_0 : w74.cell? ⟨gb422, 0, none⟩ = some (.slice Ao68 t418.length co68) := (blk_cell BK422.out 0).trans rfl
         have hfz93_0 := blk_frozen BK422.out 0
         have hnb94 := NB407_412.out
         have hnc94 := NB412_407.out
         have hnb95 := NB407_417.out
         have hnc95 := NB417_407.out
         have hcz96_0 : w74.cell? ⟨gb407, 0, none⟩ = some (.slice Ao51 t401.length co51) := (blk_cell BK407.out 0).trans rfl
         have hfz96_0 := blk_frozen BK407.out 0
         go_wp2
         go_meet
         case rel => exact ⟨_, (false), (by first | rfl | (simp; done) | (simp [*]; done)), H', ⟨by first | omega | exact Nat.le_refl _⟩, ⟨zr (Kd.R_mono HO403.out (fun _ hk => ⟨hk.1.1.2, ⟨hk.1.2, hk.2⟩⟩))⟩, ⟨zr (Kd.R_mono HO410.out (fun _ hk => ⟨hk.1.1.2, ⟨hk.1.2, hk.2⟩⟩))⟩, ⟨zr (Kd.R_mono HO415.out (fun _ hk => ⟨hk.1.1.2, ⟨hk.1.2, hk.2⟩⟩))⟩, ⟨zr (Kd.R_mono HO420.out (fun _ hk => ⟨hk.1.1.2, ⟨hk.1.2, hk.2⟩⟩))⟩, ⟨zh BK407.out⟩, ⟨zh BK412.out⟩, ⟨zh BK417.out⟩, ⟨zh BK422.out⟩, ⟨zb HB.out⟩⟩
        ·rw [if_neg c89] at H
         have c89b0 : (t411 == t404) = false := beq_eq_false_iff_ne.mpr c89
         have c89b1 : (t411 != t404) = true := bne_iff_ne.mpr c89
         have H' := Aside0.mk H
         clear H
         have hnb97 := NB422_407.out
         have hnc97 := NB407_422.out
         have hnb98 := NB422_412.out
         have hnc98 := NB412_422.out
         have hnb99 := NB422_417.out
         have hnc99 := NB417_422.out
         have hcz100_0 : w74.cell? ⟨gb422, 0, none⟩ = some (.slice Ao68 t418.length co68) := (blk_cell BK422.out 0).trans rfl
         have hfz100_0 := blk_frozen BK422.out 0
         have hnb101 := NB407_412.out
         have hnc101 := NB412_407.out
         have hnb102 := NB407_417.out
         have hnc102 := NB417_407.out
         have hcz103_0 : w74.cell? ⟨gb407, 0, none⟩ = some (.slice Ao51 t401.length co51) := (blk_cell BK407.out 0).trans rfl
         have hfz103_0 := blk_frozen BK407.out 0
         go_wp2
         go_meet
         case rel => exact ⟨_, (true), (by first | rfl | (simp; done) | (simp [*]; done)), H', ⟨by first | omega | exact Nat.le_refl _⟩, ⟨zr (Kd.R_mono HO403.out (fun _ hk => ⟨hk.1.1.2, ⟨hk.1.2, hk.2⟩⟩))⟩, ⟨zr (Kd.R_mono HO410.out (fun _ hk => ⟨hk.1.1.2, ⟨hk.1.2, hk.2⟩⟩))⟩, ⟨zr (Kd.R_mono HO415.out (fun _ hk => ⟨hk.1.1.2, ⟨hk.1.2, hk.2⟩⟩))⟩, ⟨zr (Kd.R_mono HO420.out (fun _ hk => ⟨hk.1.1.2, ⟨hk.1.2, hk.2⟩⟩))⟩, ⟨zh BK407.out⟩, ⟨zh BK412.out⟩, ⟨zh BK417.out⟩, ⟨zh BK422.out⟩, ⟨zb HB.out⟩⟩
      ·rw [if_neg c76] at H
       have c76b0 : ((t418.length : Int) == (t401.length : Int)) = false := beq_eq_false_iff_ne.mpr c76
       have c76b1 : ((t418.length : Int) != (t401.length : Int)) = true := bne_iff_ne.mpr c76
       have c76b2 : (t418.length == t401.length) = false := by first | simpa using c76 | (simp at c76 ⊢; omega)
       have H' := Aside0.mk H
       clear H
       have hnb104 := NB422_407.out
       have hnc104 := NB407_422.out
       have hnb105 := NB422_412.out
       have hnc105 := NB412_422.out
       have hnb106 := NB422_417.out
       have hnc106 := NB417_422.out
       have hcz107_0 : w74.cell? ⟨gb422, 0, none⟩ = some (.slice Ao68 t418.length co68) := (blk_cell BK422.out 0).trans rfl
       have hfz107_0 := blk_frozen BK422.out 0
       have hnb108 := NB407_412.out
       have hnc108 := NB412_407.out
       have hnb109 := NB407_417.out
       have hnc109 := NB417_407.out
       have hcz110_0 : w74.cell? ⟨gb407, 0, none⟩ = some (.slice Ao51 t401.length co51) := (blk_cell BK407.out 0).trans rfl
       have hfz110_0 := blk_frozen BK407.out 0
       go_wp2
       go_meet
       case rel => exact ⟨_, (true), (by first | rfl | (simp; done) | (simp [*]; done)), H', ⟨by first | omega | exact Nat.le_refl _⟩, ⟨zr (Kd.R_mono HO403.out (fun _ hk => ⟨hk.1.1.2, ⟨hk.1.2, hk.2⟩⟩))⟩, ⟨zr (Kd.R_mono HO410.out (fun _ hk => ⟨hk.1.1.2, ⟨hk.1.2, hk.2⟩⟩))⟩, ⟨zr (Kd.R_mono HO415.out (fun _ hk => ⟨hk.1.1.2, ⟨hk.1.2, hk.2⟩⟩))⟩, ⟨zr (Kd.R_mono HO420.out (fun _ hk => ⟨hk.1.1.2, ⟨hk.1.2, hk.2⟩⟩))⟩, ⟨zh BK407.out⟩, ⟨zh BK412.out⟩, ⟨zh BK417.out⟩, ⟨zh BK422.out⟩, ⟨zb HB.out⟩⟩
     ·rw [if_neg c75] at H
      have c75b0 : (t421 == t404) = false := beq_eq_false_iff_ne.mpr c75
      have c75b1 : (t421 != t404) = true := bne_iff_ne.mpr c75
      (first | rw [c75b0] | (simp only [i64_w, i32_w]; rw [c75b0]) | skip)
      have H' := Aside0.mk H
      clear H
      go_wp2
      go_meet
      case rel => exact ⟨_, (true), (by first | rfl | (simp; done) | (simp [*]; done)), H', ⟨by first | omega | exact Nat.le_refl _⟩, ⟨zr (Kd.R_mono HO403.out (fun _ hk => ⟨hk.1.1.2, ⟨hk.1.2, hk.2⟩⟩))⟩, ⟨zr (Kd.R_mono HO410.out (fun _ hk => ⟨hk.1.1.2, ⟨hk.1.2, hk.2⟩⟩))⟩, ⟨zr (Kd.R_mono HO415.out (fun _ hk => ⟨hk.1.1.2, ⟨hk.1.2, hk.2⟩⟩))⟩, ⟨zr (Kd.R_mono HO420.out (fun _ hk => ⟨hk.1.1.2, ⟨hk.1.2, hk.2⟩⟩))⟩, ⟨zh BK407.out⟩, ⟨zh BK412.out⟩, ⟨zh BK417.out⟩, ⟨zh BK422.out⟩, ⟨zb HB.out⟩⟩
    case rest =>
     clear HC48
     try clear c1
     try clear c2
     try clear p2
     try clear c3
     try clear c4
     try clear c5
     try clear c6
     try clear c7
     try clear c7b0
     try clear c7b1
     try clear c8
     try clear c8b0
     try clear c9
     try clear c9b0
     try clear c9b1
     try clear c9b2
     try clear c10
     try clear c16
     try clear c17
     try clear c18
     try clear c23
     try clear c24
     try clear c35
     try clear c41
     try clear c42
     try clear c56
     try clear c62
     try clear c63
     try clear c69
     try clear c70
     try clear c71
     try clear c75
     try clear c75b0
     try clear c75b1
     try clear c76
     try clear c76b0
     try clear c76b1
     try clear c76b2
     try clear c77
     try clear c79
     try clear c80
     try clear c81
     try clear c83
     try clear c84
     try clear c86
     try clear c89
     try clear c89b0
     try clear c89b1
     try clear c90
     try clear c91
     try clear c92
     try clear c94
     try clear c95
     try clear c97
     try clear c98
     try clear c99
     try clear c101
     try clear c102
     try clear c104
     try clear c105
     try clear c106
     try clear c108
     try clear c109
     try clear hcz100_0
     try clear hcz103_0
     try clear hcz107_0
     try clear hcz110_0
     try clear hcz13_0
     try clear hcz18_0
     try clear hcz19_0
     try clear hcz25_0
     try clear hcz26_0
     try clear hcz27_0
     try clear hcz31_0
     try clear hcz36_0
     try clear hcz37_0
     try clear hcz43_0
     try clear hcz44_0
     try clear hcz45_0
     try clear hcz52_0
     try clear hcz57_0
     try clear hcz58_0
     try clear hcz64_0
     try clear hcz65_0
     try clear hcz72_0
     try clear hcz73_0
     try clear hcz82_0
     try clear hcz85_0
     try clear hcz87_0
     try clear hcz93_0
     try clear hcz96_0
     try clear hfz100_0
     try clear hfz103_0
     try clear hfz107_0
     try clear hfz110_0
     try clear hfz13_0
     try clear hfz18_0
     try clear hfz19_0
     try clear hfz25_0
     try clear hfz26_0
     try clear hfz27_0
     try clear hfz31_0
     try clear hfz36_0
     try clear hfz37_0
     try clear hfz43_0
     try clear hfz44_0
     try clear hfz45_0
     try clear hfz52_0
     try clear hfz57_0
     try clear hfz58_0
     try clear hfz64_0
     try clear hfz65_0
     try clear hfz72_0
     try clear hfz73_0
     try clear hfz82_0
     try clear hfz85_0
     try clear hfz87_0
     try clear hfz93_0
     try clear hfz96_0
     obtain ⟨kq, x99_47, rfl, HA, HJ47, HO_408000, HO_413000, HO_418000, HO_423000, BK407, BK412, BK417, BK422, HB⟩ := hcut
     cases kq with
     | zero => exact absurd HA.out (by simp [laws_FnSwap.j0])
     | succ kj47 =>
      have H := HA.out
      clear HA
      simp only [laws_FnSwap.j0] at H
      by_cases c111 : x99_47 = true
      ·subst c111
       have H1 : (some false) = some r := by rw [if_pos rfl] at H; exact H
       clear H
       have H := H1
       clear H1
       obtain rfl := Option.some.inj H
       go_wp2
       go_ret
       exact ⟨ze, zb HB.out⟩
      ·replace c111 := Bool.eq_false_iff.mpr c111
       subst c111
       have H1 : ((impl_TermHas.f kj47 t401 t406 t405).bind fun t425 => (if t425 = true then (some true) else ((impl_TermHas.f kj47 t401 t405 t406).bind fun t426 => (if t426 = true then (some true) else ((impl_TermHas.f kj47 t408 t411 t405).bind fun t427 => (some (!t427))))))) = some r := by rw [if_neg (show ¬ (false = true) by decide)] at H; exact H
       clear H
       have H := H1
       clear H1
       replace H := Option.bind_eq_some_iff.mp H
       obtain ⟨t425, A1120, H⟩ := H
       replace H : (if t425 = true then (some true) else ((impl_TermHas.f kj47 t401 t405 t406).bind fun t426 => (if t426 = true then (some true) else ((impl_TermHas.f kj47 t408 t411 t405).bind fun t427 => (some (!t427)))))) = some r := H
       have A112 := Aside0.mk A1120
       clear A1120
       by_cases c113 : t425 = true
       ·subst c113
        have H1 : (some true) = some r := by rw [if_pos rfl] at H; exact H
        clear H
        have H := H1
        clear H1
        obtain rfl := Option.some.inj H
        have hnb114 := NB407_412.out
        have hnc114 := NB412_407.out
        have hnb115 := NB407_417.out
        have hnc115 := NB417_407.out
        have hnb116 := NB407_422.out
        have hnc116 := NB422_407.out
        have hcz117_0 : wc.cell? ⟨gb407, 0, none⟩ = some (.slice Ao51 t401.length co51) := (blk_cell BK407.out 0).trans rfl
        have hfz117_0 := blk_frozen BK407.out 0
        go_wp2_with (first | ((with_reducible refine gate_callee (f := 18) rfl ?_); refine goesL_ (some 103) rfl rfl Try.func18 (by kernel_rfl) rfl #[.agg #[.slice Ao51 t401.length co51], .int .i64 t406, .int .i64 t405] rfl zl ?_; (with_reducible refine (impl_TermHas.calls kj47 _ _ t401 t406 t405 true _ ?side1 ?side2 A112.out).mono ?_); (case side1 => exact zc (Kd.R_reads' HO_408000.out).2.2); (case side2 => exact (Kd.R_reads' HO_408000.out).2.1); rintro e w118 ⟨rfl, hb⟩; refine ⟨_, rfl, ?_⟩; have n0_ := Aside0.mk (Kd.R_below (zr HO_408000.out) hb); have n1_ := Aside0.mk (Kd.R_below (zr HO_413000.out) hb); have n2_ := Aside0.mk (Kd.R_below (zr HO_418000.out) hb); have n3_ := Aside0.mk (Kd.R_below (zr HO_423000.out) hb); have n4_ := Aside0.mk (blk_below (zh BK407.out) hb); have n5_ := Aside0.mk (blk_below (zh BK412.out) hb); have n6_ := Aside0.mk (blk_below (zh BK417.out) hb); have n7_ := Aside0.mk (blk_below (zh BK422.out) hb); have n8_ := Aside0.mk (below_step (zb HB.out) hb); clear HO_408000; clear HO_413000; clear HO_418000; clear HO_423000; clear BK407; clear BK412; clear BK417; clear BK422; clear HB; have HO_408000 := n0_; have HO_413000 := n1_; have HO_418000 := n2_; have HO_423000 := n3_; have BK407 := n4_; have BK412 := n5_; have BK417 := n6_; have BK422 := n7_; have HB := n8_; clear n0_ n1_ n2_ n3_ n4_ n5_ n6_ n7_ n8_; (try clear hb); (try clear hb2); (try clear hk); (try clear hi)))
        go_ret
        exact ⟨ze, zb HB.out⟩
       ·replace c113 := Bool.eq_false_iff.mpr c113
        subst c113
        have H1 : ((impl_TermHas.f kj47 t401 t405 t406).bind fun t426 => (if t426 = true then (some true) else ((impl_TermHas.f kj47 t408 t411 t405).bind fun t427 => (some (!t427))))) = some r := by rw [if_neg (show ¬ (false = true) by decide)] at H; exact H
        clear H
        have H := H1
        clear H1
        replace H := Option.bind_eq_some_iff.mp H
        obtain ⟨t426, A1190, H⟩ := H
        replace H : (if t426 = true then (some true) else ((impl_TermHas.f kj47 t408 t411 t405).bind fun t427 => (some (!t427)))) = some r := H
        have A119 := Aside0.mk A1190
        clear A1190
        by_cases c120 : t426 = true
        ·subst c120
         have H1 : (some true) = some r := by rw [if_pos rfl] at H; exact H
         clear H
         have H := H1
         clear H1
         obtain rfl := Option.some.inj H
         have hnb121 := NB407_412.out
         have hnc121 := NB412_407.out
         have hnb122 := NB407_417.out
         have hnc122 := NB417_407.out
         have hnb123 := NB407_422.out
         have hnc123 := NB422_407.out
         have hcz124_0 : wc.cell? ⟨gb407, 0, none⟩ = some (.slice Ao51 t401.length co51) := (blk_cell BK407.out 0).trans rfl
         have hfz124_0 := blk_frozen BK407.out 0
         go_wp2_with (first | ((with_reducible refine gate_callee (f := 18) rfl ?_); refine goesL_ (some 103) rfl rfl Try.func18 (by kernel_rfl) rfl #[.agg #[.slice Ao51 t401.length co51], .int .i64 t406, .int .i64 t405] rfl zl ?_; (with_reducible refine (impl_TermHas.calls kj47 _ _ t401 t406 t405 false _ ?side1 ?side2 A112.out).mono ?_); (case side1 => exact zc (Kd.R_reads' HO_408000.out).2.2); (case side2 => exact (Kd.R_reads' HO_408000.out).2.1); rintro e w125 ⟨rfl, hb⟩; refine ⟨_, rfl, ?_⟩; have n0_ := Aside0.mk (Kd.R_below (zr HO_408000.out) hb); have n1_ := Aside0.mk (Kd.R_below (zr HO_413000.out) hb); have n2_ := Aside0.mk (Kd.R_below (zr HO_418000.out) hb); have n3_ := Aside0.mk (Kd.R_below (zr HO_423000.out) hb); have n4_ := Aside0.mk (blk_below (zh BK407.out) hb); have n5_ := Aside0.mk (blk_below (zh BK412.out) hb); have n6_ := Aside0.mk (blk_below (zh BK417.out) hb); have n7_ := Aside0.mk (blk_below (zh BK422.out) hb); have n8_ := Aside0.mk (below_step (zb HB.out) hb); clear HO_408000; clear HO_413000; clear HO_418000; clear HO_423000; clear BK407; clear BK412; clear BK417; clear BK422; clear HB; have HO_408000 := n0_; have HO_413000 := n1_; have HO_418000 := n2_; have HO_423000 := n3_; have BK407 := n4_; have BK412 := n5_; have BK417 := n6_; have BK422 := n7_; have HB := n8_; clear n0_ n1_ n2_ n3_ n4_ n5_ n6_ n7_ n8_; (try clear hb); (try clear hb2); (try clear hk); (try clear hi); have hcz126_0 : w125.cell? ⟨gb407, 0, none⟩ = some (.slice Ao51 t401.length co51) := (blk_cell BK407.out 0).trans rfl; have hfz126_0 := blk_frozen BK407.out 0) | (go_at_call 18; (with_reducible refine (impl_TermHas.calls kj47 _ _ t401 t405 t406 true _ ?side1 ?side2 A119.out).mono ?_); (case side1 => exact zc (Kd.R_reads' HO_408000.out).2.2); (case side2 => exact (Kd.R_reads' HO_408000.out).2.1); rintro e w127 ⟨rfl, hb⟩; have n0_ := Aside0.mk (Kd.R_below (zr HO_408000.out) hb); have n1_ := Aside0.mk (Kd.R_below (zr HO_413000.out) hb); have n2_ := Aside0.mk (Kd.R_below (zr HO_418000.out) hb); have n3_ := Aside0.mk (Kd.R_below (zr HO_423000.out) hb); have n4_ := Aside0.mk (blk_below (zh BK407.out) hb); have n5_ := Aside0.mk (blk_below (zh BK412.out) hb); have n6_ := Aside0.mk (blk_below (zh BK417.out) hb); have n7_ := Aside0.mk (blk_below (zh BK422.out) hb); have n8_ := Aside0.mk (below_step (zb HB.out) hb); clear HO_408000; clear HO_413000; clear HO_418000; clear HO_423000; clear BK407; clear BK412; clear BK417; clear BK422; clear HB; have HO_408000 := n0_; have HO_413000 := n1_; have HO_418000 := n2_; have HO_423000 := n3_; have BK407 := n4_; have BK412 := n5_; have BK417 := n6_; have BK422 := n7_; have HB := n8_; clear n0_ n1_ n2_ n3_ n4_ n5_ n6_ n7_ n8_; (try clear hb); (try clear hb2); (try clear hk); (try clear hi)))
         go_ret
         exact ⟨ze, zb HB.out⟩
        ·replace c120 := Bool.eq_false_iff.mpr c120
         subst c120
         have H1 : ((impl_TermHas.f kj47 t408 t411 t405).bind fun t427 => (some (!t427))) = some r := by rw [if_neg (show ¬ (false = true) by decide)] at H; exact H
         clear H
         have H := H1
         clear H1
         replace H := Option.bind_eq_some_iff.mp H
         obtain ⟨t427, A1280, H⟩ := H
         replace H : (some (!t427)) = some r := H
         have A128 := Aside0.mk A1280
         clear A1280
         obtain rfl := Option.some.inj H
         have hnb129 := NB407_412.out
         have hnc129 := NB412_407.out
         have hnb130 := NB407_417.out
         have hnc130 := NB417_407.out
         have hnb131 := NB407_422.out
         have hnc131 := NB422_407.out
         have hcz132_0 : wc.cell? ⟨gb407, 0, none⟩ = some (.slice Ao51 t401.length co51) := (blk_cell BK407.out 0).trans rfl
         have hfz132_0 := blk_frozen BK407.out 0
         go_wp2_with (first | ((with_reducible refine gate_callee (f := 18) rfl ?_); refine goesL_ (some 103) rfl rfl Try.func18 (by kernel_rfl) rfl #[.agg #[.slice Ao51 t401.length co51], .int .i64 t406, .int .i64 t405] rfl zl ?_; (with_reducible refine (impl_TermHas.calls kj47 _ _ t401 t406 t405 false _ ?side1 ?side2 A112.out).mono ?_); (case side1 => exact zc (Kd.R_reads' HO_408000.out).2.2); (case side2 => exact (Kd.R_reads' HO_408000.out).2.1); rintro e w133 ⟨rfl, hb⟩; refine ⟨_, rfl, ?_⟩; have n0_ := Aside0.mk (Kd.R_below (zr HO_408000.out) hb); have n1_ := Aside0.mk (Kd.R_below (zr HO_413000.out) hb); have n2_ := Aside0.mk (Kd.R_below (zr HO_418000.out) hb); have n3_ := Aside0.mk (Kd.R_below (zr HO_423000.out) hb); have n4_ := Aside0.mk (blk_below (zh BK407.out) hb); have n5_ := Aside0.mk (blk_below (zh BK412.out) hb); have n6_ := Aside0.mk (blk_below (zh BK417.out) hb); have n7_ := Aside0.mk (blk_below (zh BK422.out) hb); have n8_ := Aside0.mk (below_step (zb HB.out) hb); clear HO_408000; clear HO_413000; clear HO_418000; clear HO_423000; clear BK407; clear BK412; clear BK417; clear BK422; clear HB; have HO_408000 := n0_; have HO_413000 := n1_; have HO_418000 := n2_; have HO_423000 := n3_; have BK407 := n4_; have BK412 := n5_; have BK417 := n6_; have BK422 := n7_; have HB := n8_; clear n0_ n1_ n2_ n3_ n4_ n5_ n6_ n7_ n8_; (try clear hb); (try clear hb2); (try clear hk); (try clear hi); have hcz134_0 : w133.cell? ⟨gb407, 0, none⟩ = some (.slice Ao51 t401.length co51) := (blk_cell BK407.out 0).trans rfl; have hfz134_0 := blk_frozen BK407.out 0) | (go_at_call 18; (with_reducible refine (impl_TermHas.calls kj47 _ _ t401 t405 t406 false _ ?side1 ?side2 A119.out).mono ?_); (case side1 => exact zc (Kd.R_reads' HO_408000.out).2.2); (case side2 => exact (Kd.R_reads' HO_408000.out).2.1); rintro e w135 ⟨rfl, hb⟩; have n0_ := Aside0.mk (Kd.R_below (zr HO_408000.out) hb); have n1_ := Aside0.mk (Kd.R_below (zr HO_413000.out) hb); have n2_ := Aside0.mk (Kd.R_below (zr HO_418000.out) hb); have n3_ := Aside0.mk (Kd.R_below (zr HO_423000.out) hb); have n4_ := Aside0.mk (blk_below (zh BK407.out) hb); have n5_ := Aside0.mk (blk_below (zh BK412.out) hb); have n6_ := Aside0.mk (blk_below (zh BK417.out) hb); have n7_ := Aside0.mk (blk_below (zh BK422.out) hb); have n8_ := Aside0.mk (below_step (zb HB.out) hb); clear HO_408000; clear HO_413000; clear HO_418000; clear HO_423000; clear BK407; clear BK412; clear BK417; clear BK422; clear HB; have HO_408000 := n0_; have HO_413000 := n1_; have HO_418000 := n2_; have HO_423000 := n3_; have BK407 := n4_; have BK412 := n5_; have BK417 := n6_; have BK422 := n7_; have HB := n8_; clear n0_ n1_ n2_ n3_ n4_ n5_ n6_ n7_ n8_; (try clear hb); (try clear hb2); (try clear hk); (try clear hi); have hnb136 := NB412_417.out; have hnc136 := NB417_412.out; have hnb137 := NB412_422.out; have hnc137 := NB422_412.out; have hcz138_0 : w135.cell? ⟨gb412, 0, none⟩ = some (.slice Ao55 t408.length co55) := (blk_cell BK412.out 0).trans rfl; have hfz138_0 := blk_frozen BK412.out 0) | (go_at_call 18; (with_reducible refine (impl_TermHas.calls kj47 _ _ t408 t411 t405 t427 _ ?side1 ?side2 A128.out).mono ?_); (case side1 => exact zc (Kd.R_reads' HO_413000.out).2.2); (case side2 => exact (Kd.R_reads' HO_413000.out).2.1); rintro e w139 ⟨rfl, hb⟩; have n0_ := Aside0.mk (Kd.R_below (zr HO_408000.out) hb); have n1_ := Aside0.mk (Kd.R_below (zr HO_413000.out) hb); have n2_ := Aside0.mk (Kd.R_below (zr HO_418000.out) hb); have n3_ := Aside0.mk (Kd.R_below (zr HO_423000.out) hb); have n4_ := Aside0.mk (blk_below (zh BK407.out) hb); have n5_ := Aside0.mk (blk_below (zh BK412.out) hb); have n6_ := Aside0.mk (blk_below (zh BK417.out) hb); have n7_ := Aside0.mk (blk_below (zh BK422.out) hb); have n8_ := Aside0.mk (below_step (zb HB.out) hb); clear HO_408000; clear HO_413000; clear HO_418000; clear HO_423000; clear BK407; clear BK412; clear BK417; clear BK422; clear HB; have HO_408000 := n0_; have HO_413000 := n1_; have HO_418000 := n2_; have HO_423000 := n3_; have BK407 := n4_; have BK412 := n5_; have BK417 := n6_; have BK422 := n7_; have HB := n8_; clear n0_ n1_ n2_ n3_ n4_ n5_ n6_ n7_ n8_; (try clear hb); (try clear hb2); (try clear hk); (try clear hi)))
         go_ret
         exact ⟨ze, zb HB.out⟩
  ·rw [if_neg c7] at H
   have c7b0 : (t411 == t416) = false := beq_eq_false_iff_ne.mpr c7
   have c7b1 : (t411 != t416) = true := bne_iff_ne.mpr c7
   obtain rfl := Option.some.inj H
   go_enter Try.func5, Try.ntmps5
   go_wp2_with (first | ((with_reducible refine gate_callee (f := 16) rfl ?_); refine goesL_ (some 15) rfl rfl Try.func16 (by kernel_rfl) rfl #[.slice A0 l0.length c0] rfl zl ?_; (with_reducible refine (laws_big.calls _ _ l0 false _ ?side1 ?side2 A2.out).mono ?_); (case side1 => exact zc HR0.out); (case side2 => exact HC0.out); rintro e w' ⟨rfl, ⟨nd, rfl⟩⟩; refine ⟨_, rfl, ?_⟩) | ((with_reducible refine gate_callee (f := 17) rfl ?_); refine goesL_ (some 18) rfl rfl Try.func17 (by kernel_rfl) rfl #[.slice A0 l0.length c0] rfl zl ?_; (with_reducible refine (spec_DrawTermSwap.calls k _ _ l0 t401 t404 t405 t406 _ ?side1 ?side2 A4.out).mono ?_); (case side1 => exact zc HR0.out); (case side2 => exact HC0.out); rintro e w140 ⟨v402, rfl, ho0, hb⟩; refine ⟨_, rfl, ?_⟩; have n0_ := Aside0.mk (Kd.R_lower ho0 (below_size (zb HB.out))); have n1_ := Aside0.mk (below_step (zb HB.out) hb); clear HB; have HO403 := n0_; have HB := n1_; clear n0_ n1_; (try clear hb); (try clear hb2); (try clear hk); (try clear hi); (try clear ho0)) | ((with_reducible refine gate_dst (N := 3) rfl ?_); (try (refine gate_guard (by rfl) ?_; dsimp only)); refine box_event ?hg (N := 3) ?hd (cs := #[.slice none 0 0]) (t := 28) ?hr ?_; (case hd => rfl); (case hg => rfl); (case hr => first | (go_simp; done) | (go_simp; rfl)); intro gb407 hg w141 hbox hb; have n0_ := Aside0.mk (Kd.R_below (zr HO403.out) hb); have n1_ := Aside0.mk (below_step (zb HB.out) hb); have n2_ := Aside0.mk (hbox); have n3_ := Aside0.mk ((by rw [hg]; exact (below_size (zb HB.out)) : w.heap.size ≤ gb407)); have n4_ := Aside0.mk ((by rw [hg]; exact (below_size (zb HB.out)) : w.heap.size ≤ gb407)); clear HO403; clear HB; have HO403 := n0_; have HB := n1_; have BK407 := n2_; have GW407 := n3_; have GE407 := n4_; clear n0_ n1_ n2_ n3_ n4_; clear hb hbox hg; obtain ⟨Ao142, co142, eo142⟩ := Kd.R_slice HO403.out; subst eo142; have hcz143_0 : w141.cell? ⟨gb407, 0, none⟩ = some (.slice none 0 0) := (blk_cell BK407.out 0).trans rfl; have hfz143_0 := blk_frozen BK407.out 0) | ((with_reducible refine gate_callee (f := 10) rfl ?_); refine goesL_ (some 28) rfl rfl Try.func10 (by kernel_rfl) rfl #[.agg #[.slice Ao142 t401.length co142], .int .i64 t404, .int .i64 t405, .int .i64 t406] rfl zl ?_; (with_reducible refine (impl_TermSwap.calls k _ _ t401 t404 t405 t406 t408 t411 _ ?side1 ?side2 A5.out).mono ?_); (case side1 => refine (Kd.R_reads' (e := 55) (base := w.heap.size) (ok := fun k_ => True) (n := t401.length) (c := co142) ?_).2.2; exact (by (with_reducible repeat (first | apply Kd.R_alloc | apply Kd.R_drewN | apply Kd.R_drew)); exact (Kd.R_mono (Kd.R_far (p := ⟨gb407, 0, none⟩) (Kd.R_types HO403.out BK407.out (by decide)) (fun _ hk => hk.2) (.slice Ao142 t401.length co142)) (fun _ h_ => h_.1)))); (case side2 => exact (Kd.R_reads' HO403.out).2.1); rintro e w144 ⟨v409, rfl, ho0, hb⟩; refine ⟨_, rfl, ?_⟩; have n0_ := Aside0.mk (Kd.R_elder' (by (with_reducible repeat (first | apply Kd.R_alloc | apply Kd.R_drewN | apply Kd.R_drew)); exact (Kd.R_mono (Kd.R_far (p := ⟨gb407, 0, none⟩) (Kd.R_types HO403.out BK407.out (by decide)) (fun _ hk => hk.2) (.slice Ao142 t401.length co142)) (fun _ h_ => h_.1))) (Kd.R_base ho0) hb); have n1_ := Aside0.mk (Kd.R_lower (Kd.R_new' ho0 (Kd.R_lt (by (with_reducible repeat (first | apply Kd.R_alloc | apply Kd.R_drewN | apply Kd.R_drew)); exact (Kd.R_mono (Kd.R_far (p := ⟨gb407, 0, none⟩) (Kd.R_types HO403.out BK407.out (by decide)) (fun _ hk => hk.2) (.slice Ao142 t401.length co142)) (fun _ h_ => h_.1))))) (below_size (zb HB.out))); have n2_ := Aside0.mk (blk_below (g := gb407) (o := .cells #[.slice Ao142 t401.length co142] 28 (0, 0)) (by (with_reducible repeat (first | refine blk_drewN ?_ _ | refine blk_drew ?_ | refine blk_alloc ?_ _)); refine blk_put (cs := #[.slice none 0 0]) ?_ 0 _ rfl; (with_reducible repeat (first | refine blk_drewN ?_ _ | refine blk_drew ?_ | refine blk_alloc ?_ _)); exact BK407.out) hb); have n3_ := Aside0.mk (below_step (zb HB.out) hb); clear HO403; clear BK407; clear HB; have HO403 := n0_; have HO410 := n1_; have BK407 := n2_; have HB := n3_; clear n0_ n1_ n2_ n3_; (try clear hb); (try clear hb2); (try clear hk); (try clear hi); (try clear ho0)) | ((with_reducible refine gate_dst (N := 7) rfl ?_); (try (refine gate_guard (by rfl) ?_; dsimp only)); refine box_event ?hg (N := 7) ?hd (cs := #[.slice none 0 0]) (t := 28) ?hr ?_; (case hd => rfl); (case hg => rfl); (case hr => first | (go_simp; done) | (go_simp; rfl)); intro gb412 hg w145 hbox hb; have n0_ := Aside0.mk (Kd.R_below (zr HO403.out) hb); have n1_ := Aside0.mk (Kd.R_below (zr HO410.out) hb); have n2_ := Aside0.mk (blk_below (zh BK407.out) hb); have n3_ := Aside0.mk (below_step (zb HB.out) hb); have n4_ := Aside0.mk (hbox); have n5_ := Aside0.mk ((by rw [hg]; exact (below_size (zb HB.out)) : w.heap.size ≤ gb412)); have n6_ := Aside0.mk ((by rw [hg]; exact (below_size (zb HB.out)) : w.heap.size ≤ gb412)); have n7_ := Aside0.mk ((by rw [hg]; exact Nat.ne_of_lt (blk_lt (zh BK407.out)) : gb407 ≠ gb412)); have n8_ := Aside0.mk ((by rw [hg]; exact Nat.ne_of_gt (blk_lt (zh BK407.out)) : gb412 ≠ gb407)); clear HO403; clear HO410; clear BK407; clear HB; have HO403 := n0_; have HO410 := n1_; have BK407 := n2_; have HB := n3_; have BK412 := n4_; have GW412 := n5_; have GE412 := n6_; have NB407_412 := n7_; have NB412_407 := n8_; clear n0_ n1_ n2_ n3_ n4_ n5_ n6_ n7_ n8_; clear hb hbox hg; obtain ⟨Ao146, co146, eo146⟩ := Kd.R_slice HO410.out; subst eo146; have hnb147 := NB412_407.out; have hnc147 := NB407_412.out; have hcz148_0 : w145.cell? ⟨gb412, 0, none⟩ = some (.slice none 0 0) := (blk_cell BK412.out 0).trans rfl; have hfz148_0 := blk_frozen BK412.out 0; have hcz149_0 : w145.cell? ⟨gb407, 0, none⟩ = some (.slice Ao142 t401.length co142) := (blk_cell BK407.out 0).trans rfl; have hfz149_0 := blk_frozen BK407.out 0) | ((with_reducible refine gate_callee (f := 8) rfl ?_); refine goesL_ (some 36) rfl rfl Try.func8 (by kernel_rfl) rfl #[.agg #[.slice Ao142 t401.length co142], .int .i64 t404, .int .i64 t405, .int .i64 t406] rfl zl ?_; (with_reducible refine (spec_TermSwap.calls k _ _ t401 t404 t405 t406 t413 t416 _ ?side1 ?side2 A6.out).mono ?_); (case side1 => refine (Kd.R_reads' (e := 55) (base := w.heap.size) (ok := fun k_ => (True ∧ some k_ ≠ (.slice Ao146 t408.length co146 : Value).ownBlock)) (n := t401.length) (c := co142) ?_).2.2; exact (by (with_reducible repeat (first | apply Kd.R_alloc | apply Kd.R_drewN | apply Kd.R_drew)); exact (Kd.R_mono (Kd.R_far (p := ⟨gb412, 0, none⟩) (Kd.R_types HO403.out BK412.out (by decide)) (fun _ hk => hk.2) (.slice Ao146 t408.length co146)) (fun _ h_ => h_.1)))); (case side2 => exact (Kd.R_reads' HO403.out).2.1); rintro e w150 ⟨v414, rfl, ho0, hb⟩; refine ⟨_, rfl, ?_⟩; have n0_ := Aside0.mk (Kd.R_elder' (by (with_reducible repeat (first | apply Kd.R_alloc | apply Kd.R_drewN | apply Kd.R_drew)); exact (Kd.R_mono (Kd.R_far (p := ⟨gb412, 0, none⟩) (Kd.R_types HO403.out BK412.out (by decide)) (fun _ hk => hk.2) (.slice Ao146 t408.length co146)) (fun _ h_ => h_.1))) (Kd.R_base ho0) hb); have n1_ := Aside0.mk (Kd.R_elder' (by (with_reducible repeat (first | apply Kd.R_alloc | apply Kd.R_drewN | apply Kd.R_drew)); exact (Kd.R_mono (Kd.R_far (p := ⟨gb412, 0, none⟩) (Kd.R_types HO410.out BK412.out (by decide)) (fun _ hk => hk.2) (.slice Ao146 t408.length co146)) (fun _ h_ => h_.1))) (Kd.R_base ho0) hb); have n2_ := Aside0.mk (Kd.R_lower (Kd.R_new' (Kd.R_new' ho0 (Kd.R_lt (by (with_reducible repeat (first | apply Kd.R_alloc | apply Kd.R_drewN | apply Kd.R_drew)); exact (Kd.R_mono (Kd.R_far (p := ⟨gb412, 0, none⟩) (Kd.R_types HO403.out BK412.out (by decide)) (fun _ hk => hk.2) (.slice Ao146 t408.length co146)) (fun _ h_ => h_.1))))) (Kd.R_lt (by (with_reducible repeat (first | apply Kd.R_alloc | apply Kd.R_drewN | apply Kd.R_drew)); exact (Kd.R_mono (Kd.R_far (p := ⟨gb412, 0, none⟩) (Kd.R_types HO410.out BK412.out (by decide)) (fun _ hk => hk.2) (.slice Ao146 t408.length co146)) (fun _ h_ => h_.1))))) (below_size (zb HB.out))); have n3_ := Aside0.mk (blk_below (g := gb407) (o := .cells #[.slice Ao142 t401.length co142] 28 (0, 0)) (zf BK407.out) hb); have n4_ := Aside0.mk (blk_below (g := gb412) (o := .cells #[.slice Ao146 t408.length co146] 28 (0, 0)) (by (with_reducible repeat (first | refine blk_drewN ?_ _ | refine blk_drew ?_ | refine blk_alloc ?_ _)); refine blk_put (cs := #[.slice none 0 0]) ?_ 0 _ rfl; (with_reducible repeat (first | refine blk_drewN ?_ _ | refine blk_drew ?_ | refine blk_alloc ?_ _)); exact BK412.out) hb); have n5_ := Aside0.mk (below_step (zb HB.out) hb); clear HO403; clear HO410; clear BK407; clear BK412; clear HB; have HO403 := n0_; have HO410 := n1_; have HO415 := n2_; have BK407 := n3_; have BK412 := n4_; have HB := n5_; clear n0_ n1_ n2_ n3_ n4_ n5_; (try clear hb); (try clear hb2); (try clear hk); (try clear hi); (try clear ho0)) | ((with_reducible refine gate_dst (N := 9) rfl ?_); (try (refine gate_guard (by rfl) ?_; dsimp only)); refine box_event ?hg (N := 9) ?hd (cs := #[.slice none 0 0]) (t := 28) ?hr ?_; (case hd => rfl); (case hg => rfl); (case hr => first | (go_simp; done) | (go_simp; rfl)); intro gb417 hg w151 hbox hb; have n0_ := Aside0.mk (Kd.R_below (zr HO403.out) hb); have n1_ := Aside0.mk (Kd.R_below (zr HO410.out) hb); have n2_ := Aside0.mk (Kd.R_below (zr HO415.out) hb); have n3_ := Aside0.mk (blk_below (zh BK407.out) hb); have n4_ := Aside0.mk (blk_below (zh BK412.out) hb); have n5_ := Aside0.mk (below_step (zb HB.out) hb); have n6_ := Aside0.mk (hbox); have n7_ := Aside0.mk ((by rw [hg]; exact (below_size (zb HB.out)) : w.heap.size ≤ gb417)); have n8_ := Aside0.mk ((by rw [hg]; exact (below_size (zb HB.out)) : w.heap.size ≤ gb417)); have n9_ := Aside0.mk ((by rw [hg]; exact Nat.ne_of_lt (blk_lt (zh BK407.out)) : gb407 ≠ gb417)); have n10_ := Aside0.mk ((by rw [hg]; exact Nat.ne_of_gt (blk_lt (zh BK407.out)) : gb417 ≠ gb407)); have n11_ := Aside0.mk ((by rw [hg]; exact Nat.ne_of_lt (blk_lt (zh BK412.out)) : gb412 ≠ gb417)); have n12_ := Aside0.mk ((by rw [hg]; exact Nat.ne_of_gt (blk_lt (zh BK412.out)) : gb417 ≠ gb412)); clear HO403; clear HO410; clear HO415; clear BK407; clear BK412; clear HB; have HO403 := n0_; have HO410 := n1_; have HO415 := n2_; have BK407 := n3_; have BK412 := n4_; have HB := n5_; have BK417 := n6_; have GW417 := n7_; have GE417 := n8_; have NB407_417 := n9_; have NB417_407 := n10_; have NB412_417 := n11_; have NB417_412 := n12_; clear n0_ n1_ n2_ n3_ n4_ n5_ n6_ n7_ n8_ n9_ n10_ n11_ n12_; clear hb hbox hg; obtain ⟨Ao152, co152, eo152⟩ := Kd.R_slice HO415.out; subst eo152; have hnb153 := NB417_407.out; have hnc153 := NB407_417.out; have hnb154 := NB417_412.out; have hnc154 := NB412_417.out; have hcz155_0 : w151.cell? ⟨gb417, 0, none⟩ = some (.slice none 0 0) := (blk_cell BK417.out 0).trans rfl; have hfz155_0 := blk_frozen BK417.out 0))
   go_ret
   exact ⟨ze, zb HB.out⟩

def laws_FnSwap.Pure : Prop := ∀ (l0 : List Int), l0.length ≤ maxLen → l0.length * 1 ≤ 140737488351232 → (∀ x ∈ l0, (Lit.int .u8 x).wf = true) → ∃ k, laws_FnSwap.f k l0 = some true
theorem laws_FnSwap.walk (P : laws_FnSwap.Pure) (a0 : Option Addr) (len0 cap0 : Nat) (z0 : List Int) (w : World) (w0 : (a0 = none ∧ len0 = 0 ∧ cap0 = 0 ∧ z0 = []) ∨ ∃ x, a0 = some x ∧ len0 ≤ cap0 ∧ cap0 ≤ maxLen ∧ z0.length = cap0 ∧ (∀ i, i < z0.length → w.cell? (x.add i) = some (.int .u8 (z0.getD i 0))) ∧ ∀ n ∈ z0, (Lit.int .u8 n).wf = true) (y0 : len0 * 1 ≤ 140737488351232) :
  Calls Try.prog 5 #[.slice a0 len0 cap0] w fun e w' => e = .returned (.bool true) ∧ Below w.heap.size w w' := by
 obtain ⟨l0, rfl, hr0, hm0, hw0, hc0⟩ := ReadsInt.ofRowC w0
 obtain ⟨k, h⟩ := P l0 hm0 y0 hw0
 refine (laws_FnSwap.calls k _ _ l0 true w (Kd.C_of_reads (d := (0 : Int)) (h1 := fun _ => rfl) hr0) hc0 h).mono ?_
 rintro e w' ⟨rfl, hd⟩
 exact ⟨rfl, hd⟩

end Go.Proofs.Ytobkledmbnacjaa.F
end
