import Derived.Test.YtobkledmbnacjaaZNM0
import Derived.Test.YtobkledmbnacjaaZNMg1
import Derived.Test.YtobkledmbnacjaaZNMg3
import Derived.Test.YtobkledmbnacjaaZNMg4
section
namespace Go.Proofs.Ytobkledmbnacjaa.M
open Go.RowKit Go.Proofs.YtobkledmbnacjaaW.PrintWords Go.Proofs.YtobkledmbnacjaaW.PrintLast Go.Proofs.YtobkledmbnacjaaW.PrintMore
attribute [local go_sem] max2_int min2_int max_two min_two max_three min_three max_four min_four   -- for this text's walks alone
set_option linter.unusedVariables false
set_option linter.unusedSimpArgs false
set_option maxRecDepth 100000

/-! ### laws_FnMoved: function 6 -/
def laws_FnMoved.f (k : Nat) (l0 : List Int) : Option (Bool) := (laws_big.f l0).bind fun t399 => (if t399 = true then (some true) else ((spec_DrawTermMove.f k l0).bind fun bt400 => ((impl_TermMove.f k bt400.1 bt400.2.1 bt400.2.2).bind fun bt409 => ((spec_TermMove.f k bt400.1 bt400.2.1 bt400.2.2).bind fun bt414 => (if bt409.2 = bt414.2 then (if bt409.2 < 0 then (if (bt409.1.length : Int) = (bt400.2.2.length : Int) then (some true) else (some ((bt409.1.length : Int) == 0))) else ((impl_TermMove.f k bt409.1 bt409.2 bt400.1).bind fun bt419 => ((impl_TermSize.f k bt409.1 bt409.2).bind fun t424 => ((impl_TermSize.f k bt400.1 bt400.2.1).bind fun t425 => (if t424 = t425 then ((impl_TermDeep.f k bt409.1 bt409.2).bind fun t426 => ((impl_TermDeep.f k bt400.1 bt400.2.1).bind fun t427 => (if t426 = t427 then ((impl_TermNames.f k bt409.1 bt409.2).bind fun t428 => ((impl_TermNames.f k bt400.1 bt400.2.1).bind fun t431 => ((laws_sameInts.f k t428 t431).bind fun t434 => (if t434 = true then (if bt419.2 = bt400.2.1 then (some ((bt419.1.length : Int) == (bt400.1.length : Int))) else (some false)) else (some false))))) else (some false)))) else (some false)))))) else (some false))))))
def laws_FnMoved.T11 : Bool × List (List Nat × List Nat) := (true, [([], []), ([], []), ([0, 1], [0, 1]), ([], []), ([], []), ([3, 4, 2], [3, 4]), ([2, 5], [2, 5]), ([6, 5], [6]), ([7], [7]), ([7], [7]), ([8, 9, 7, 7], [7, 8, 9]), ([7], [7]), ([7], [7]), ([11, 12, 10, 7], [7, 11, 12]), ([10, 13, 7], [7, 10, 13]), ([7, 14], [7, 14]), ([15, 13], [15]), ([16], [16]), ([16], [16]), ([17, 18, 16, 16], [16, 17, 18]), ([16], [16]), ([16], [16]), ([20, 21, 19, 16], [16, 20, 21]), ([19, 22, 22, 16], [16, 19, 22]), ([16, 23], [16, 23]), ([24, 23], [24]), ([25], [25]), ([25], [25]), ([26, 27, 25], [25, 26, 27]), ([25, 28], [25, 28]), ([29, 25], [29]), ([30], [30]), ([31, 30], [30, 31]), ([32, 30], [30, 32]), ([30], [30]), ([34, 30], [30, 34]), ([35, 30], [30, 35]), ([33, 36, 30], [30, 33, 36]), ([30, 37], [30, 37]), ([38, 30, 0, 1, 2, 3, 4, 5, 6, 7, 8, 9, 10, 11, 12, 13, 14, 15, 16, 17, 18, 19, 20, 21, 22, 23, 24, 25, 26, 27, 28, 29, 30, 31, 32, 33, 34, 35, 36, 37, 38], [38])])
def laws_FnMoved.B11 : List Nat := [0, 0, 3, 0, 0, 31, 63, 127, 255, 255, 1023, 255, 255, 8191, 16383, 32767, 65535, 131071, 131071, 524287, 131071, 131071, 4194303, 8388607, 16777215, 33554431, 67108863, 67108863, 268435455, 536870911, 1073741823, 2147483647, 4294967295, 8589934591, 2147483647, 19327352831, 53687091199, 137438953471, 274877906943, 549755813887]
theorem laws_FnMoved.tab11 : rtab .any (opsOf Try.f6 11) = laws_FnMoved.T11 := by kernel_rfl
theorem laws_FnMoved.bits11 : waitsOk laws_FnMoved.T11.2 laws_FnMoved.B11 = true := by kernel_rfl
set_option maxHeartbeats 8000000 in
set_option maxRecDepth 100000 in
theorem laws_FnMoved.calls (k : Nat) (A0 : Option Addr) (c0 : Nat) (l0 : List Int) (r : Bool) (w : World) (hr0 : Kd.C (Kd.int .u8) w A0 l0.length l0) (hc0 : l0.length ≤ c0) (h : laws_FnMoved.f k l0 = some r) :
  Calls Try.prog 6 #[.slice A0 l0.length c0] w fun e w' => e = .returned (.bool r) ∧ Below w.heap.size w w' := by
 have hu28 := Try.underlying28
 have HR0 := Aside0.mk hr0
 have HC0 := Aside0.mk hc0
 clear hr0 hc0
 have HB := Aside0.mk (Below.refl w.heap.size w)
 have H : ((laws_big.f l0).bind fun t399 => (if t399 = true then (some true) else ((spec_DrawTermMove.f k l0).bind fun bt400 => ((impl_TermMove.f k bt400.1 bt400.2.1 bt400.2.2).bind fun bt409 => ((spec_TermMove.f k bt400.1 bt400.2.1 bt400.2.2).bind fun bt414 => (if bt409.2 = bt414.2 then (if bt409.2 < 0 then (if (bt409.1.length : Int) = (bt400.2.2.length : Int) then (some true) else (some ((bt409.1.length : Int) == 0))) else ((impl_TermMove.f k bt409.1 bt409.2 bt400.1).bind fun bt419 => ((impl_TermSize.f k bt409.1 bt409.2).bind fun t424 => ((impl_TermSize.f k bt400.1 bt400.2.1).bind fun t425 => (if t424 = t425 then ((impl_TermDeep.f k bt409.1 bt409.2).bind fun t426 => ((impl_TermDeep.f k bt400.1 bt400.2.1).bind fun t427 => (if t426 = t427 then ((impl_TermNames.f k bt409.1 bt409.2).bind fun t428 => ((impl_TermNames.f k bt400.1 bt400.2.1).bind fun t431 => ((laws_sameInts.f k t428 t431).bind fun t434 => (if t434 = true then (if bt419.2 = bt400.2.1 then (some ((bt419.1.length : Int) == (bt400.1.length : Int))) else (some false)) else (some false))))) else (some false)))) else (some false)))))) else (some false))))))) = some r := h
 clear h
 replace H := Option.bind_eq_some_iff.mp H
 obtain ⟨t399, A20, H⟩ := H
 replace H : (if t399 = true then (some true) else ((spec_DrawTermMove.f k l0).bind fun bt400 => ((impl_TermMove.f k bt400.1 bt400.2.1 bt400.2.2).bind fun bt409 => ((spec_TermMove.f k bt400.1 bt400.2.1 bt400.2.2).bind fun bt414 => (if bt409.2 = bt414.2 then (if bt409.2 < 0 then (if (bt409.1.length : Int) = (bt400.2.2.length : Int) then (some true) else (some ((bt409.1.length : Int) == 0))) else ((impl_TermMove.f k bt409.1 bt409.2 bt400.1).bind fun bt419 => ((impl_TermSize.f k bt409.1 bt409.2).bind fun t424 => ((impl_TermSize.f k bt400.1 bt400.2.1).bind fun t425 => (if t424 = t425 then ((impl_TermDeep.f k bt409.1 bt409.2).bind fun t426 => ((impl_TermDeep.f k bt400.1 bt400.2.1).bind fun t427 => (if t426 = t427 then ((impl_TermNames.f k bt409.1 bt409.2).bind fun t428 => ((impl_TermNames.f k bt400.1 bt400.2.1).bind fun t431 => ((laws_sameInts.f k t428 t431).bind fun t434 => (if t434 = true then (if bt419.2 = bt400.2.1 then (some ((bt419.1.length : Int) == (bt400.1.length : Int))) else (some false)) else (some false))))) else (some false)))) else (some false)))))) else (some false)))))) = some r := H
 have A2 := Aside0.mk A20
 clear A20
 by_cases c3 : t399 = true
 ·subst c3
  have H1 : (some true) = some r := by rw [if_pos rfl] at H; exact H
  clear H
  have H := H1
  clear H1
  obtain rfl := Option.some.inj H
  go_enter Try.func6, Try.ntmps6
  go_wp2_with (first | ((with_reducible refine gate_callee (f := 16) rfl ?_); refine goesL_ (some 13) rfl rfl Try.func16 (by kernel_rfl) rfl #[.slice A0 l0.length c0] rfl zl ?_; (with_reducible refine (laws_big.calls _ _ l0 true _ ?side1 ?side2 A2.out).mono ?_); (case side1 => exact zc HR0.out); (case side2 => exact HC0.out); rintro e w' ⟨rfl, ⟨nd, rfl⟩⟩; refine ⟨_, rfl, ?_⟩))
  go_ret
  exact ⟨ze, zb HB.out⟩
 replace c3 := Bool.eq_false_iff.mpr c3
 subst c3
 have H1 : ((spec_DrawTermMove.f k l0).bind fun bt400 => ((impl_TermMove.f k bt400.1 bt400.2.1 bt400.2.2).bind fun bt409 => ((spec_TermMove.f k bt400.1 bt400.2.1 bt400.2.2).bind fun bt414 => (if bt409.2 = bt414.2 then (if bt409.2 < 0 then (if (bt409.1.length : Int) = (bt400.2.2.length : Int) then (some true) else (some ((bt409.1.length : Int) == 0))) else ((impl_TermMove.f k bt409.1 bt409.2 bt400.1).bind fun bt419 => ((impl_TermSize.f k bt409.1 bt409.2).bind fun t424 => ((impl_TermSize.f k bt400.1 bt400.2.1).bind fun t425 => (if t424 = t425 then ((impl_TermDeep.f k bt409.1 bt409.2).bind fun t426 => ((impl_TermDeep.f k bt400.1 bt400.2.1).bind fun t427 => (if t426 = t427 then ((impl_TermNames.f k bt409.1 bt409.2).bind fun t428 => ((impl_TermNames.f k bt400.1 bt400.2.1).bind fun t431 => ((laws_sameInts.f k t428 t431).bind fun t434 => (if t434 = true then (if bt419.2 = bt400.2.1 then (some ((bt419.1.length : Int) == (bt400.1.length : Int))) else (some false)) else (some false))))) else (some false)))) else (some false)))))) else (some false))))) = some r := by rw [if_neg (show ¬ (false = true) by decide)] at H; exact H
 clear H
 have H := H1
 clear H1
 replace H := Option.bind_eq_some_iff.mp H
 obtain ⟨⟨t400, t403, t404⟩, A40, H⟩ := H
 replace H : ((impl_TermMove.f k t400 t403 t404).bind fun bt409 => ((spec_TermMove.f k t400 t403 t404).bind fun bt414 => (if bt409.2 = bt414.2 then (if bt409.2 < 0 then (if (bt409.1.length : Int) = (t404.length : Int) then (some true) else (some ((bt409.1.length : Int) == 0))) else ((impl_TermMove.f k bt409.1 bt409.2 t400).bind fun bt419 => ((impl_TermSize.f k bt409.1 bt409.2).bind fun t424 => ((impl_TermSize.f k t400 t403).bind fun t425 => (if t424 = t425 then ((impl_TermDeep.f k bt409.1 bt409.2).bind fun t426 => ((impl_TermDeep.f k t400 t403).bind fun t427 => (if t426 = t427 then ((impl_TermNames.f k bt409.1 bt409.2).bind fun t428 => ((impl_TermNames.f k t400 t403).bind fun t431 => ((laws_sameInts.f k t428 t431).bind fun t434 => (if t434 = true then (if bt419.2 = t403 then (some ((bt419.1.length : Int) == (t400.length : Int))) else (some false)) else (some false))))) else (some false)))) else (some false)))))) else (some false)))) = some r := H
 have A4 := Aside0.mk A40
 clear A40
 replace H := Option.bind_eq_some_iff.mp H
 obtain ⟨⟨t409, t412⟩, A50, H⟩ := H
 replace H : ((spec_TermMove.f k t400 t403 t404).bind fun bt414 => (if t412 = bt414.2 then (if t412 < 0 then (if (t409.length : Int) = (t404.length : Int) then (some true) else (some ((t409.length : Int) == 0))) else ((impl_TermMove.f k t409 t412 t400).bind fun bt419 => ((impl_TermSize.f k t409 t412).bind fun t424 => ((impl_TermSize.f k t400 t403).bind fun t425 => (if t424 = t425 then ((impl_TermDeep.f k t409 t412).bind fun t426 => ((impl_TermDeep.f k t400 t403).bind fun t427 => (if t426 = t427 then ((impl_TermNames.f k t409 t412).bind fun t428 => ((impl_TermNames.f k t400 t403).bind fun t431 => ((laws_sameInts.f k t428 t431).bind fun t434 => (if t434 = true then (if bt419.2 = t403 then (some ((bt419.1.length : Int) == (t400.length : Int))) else (some false)) else (some false))))) else (some false)))) else (some false)))))) else (some false))) = some r := H
 have A5 := Aside0.mk A50
 clear A50
 replace H := Option.bind_eq_some_iff.mp H
 obtain ⟨⟨t414, t417⟩, A60, H⟩ := H
 replace H : (if t412 = t417 then (if t412 < 0 then (if (t409.length : Int) = (t404.length : Int) then (some true) else (some ((t409.length : Int) == 0))) else ((impl_TermMove.f k t409 t412 t400).bind fun bt419 => ((impl_TermSize.f k t409 t412).bind fun t424 => ((impl_TermSize.f k t400 t403).bind fun t425 => (if t424 = t425 then ((impl_TermDeep.f k t409 t412).bind fun t426 => ((impl_TermDeep.f k t400 t403).bind fun t427 => (if t426 = t427 then ((impl_TermNames.f k t409 t412).bind fun t428 => ((impl_TermNames.f k t400 t403).bind fun t431 => ((laws_sameInts.f k t428 t431).bind fun t434 => (if t434 = true then (if bt419.2 = t403 then (some ((bt419.1.length : Int) == (t400.length : Int))) else (some false)) else (some false))))) else (some false)))) else (some false)))))) else (some false)) = some r := H
 have A6 := Aside0.mk A60
 clear A60
 by_cases c7 : t412 = t417
 rotate_left
 ·rw [if_neg c7] at H
  have c7b0 : (t412 == t417) = false := beq_eq_false_iff_ne.mpr c7
  have c7b1 : (t412 != t417) = true := bne_iff_ne.mpr c7
  obtain rfl := Option.some.inj H
  go_enter Try.func6, Try.ntmps6
  go_wp2_with (first | ((with_reducible refine gate_callee (f := 16) rfl ?_); refine goesL_ (some 13) rfl rfl Try.func16 (by kernel_rfl) rfl #[.slice A0 l0.length c0] rfl zl ?_; (with_reducible refine (laws_big.calls _ _ l0 false _ ?side1 ?side2 A2.out).mono ?_); (case side1 => exact zc HR0.out); (case side2 => exact HC0.out); rintro e w' ⟨rfl, ⟨nd, rfl⟩⟩; refine ⟨_, rfl, ?_⟩) | ((with_reducible refine gate_callee (f := 19) rfl ?_); refine goesL_ (some 16) rfl rfl Try.func19 (by kernel_rfl) rfl #[.slice A0 l0.length c0] rfl zl ?_; (with_reducible refine (spec_DrawTermMove.calls k _ _ l0 t400 t403 t404 _ ?side1 ?side2 A4.out).mono ?_); (case side1 => exact zc HR0.out); (case side2 => exact HC0.out); rintro e w277 ⟨v401, v405, rfl, ho0, ho1, hb⟩; refine ⟨_, rfl, ?_⟩; have n0_ := Aside0.mk (Kd.R_lower ho0 (below_size (zb HB.out))); have n1_ := Aside0.mk (Kd.R_lower ho1 (below_size (zb HB.out))); have n2_ := Aside0.mk (below_step (zb HB.out) hb); clear HB; have HO402 := n0_; have HO406 := n1_; have HB := n2_; clear n0_ n1_ n2_; (try clear hb); (try clear hb2); (try clear hk); (try clear hi); (try clear ho0); (try clear ho1)) | ((with_reducible refine gate_dst (N := 3) rfl ?_); (try (refine gate_guard (by rfl) ?_; dsimp only)); refine box_event ?hg (N := 3) ?hd (cs := #[.slice none 0 0]) (t := 28) ?hr ?_; (case hd => rfl); (case hg => rfl); (case hr => first | (go_simp; done) | (go_simp; rfl)); intro gb407 hg w278 hbox hb; have n0_ := Aside0.mk (Kd.R_below (zr HO402.out) hb); have n1_ := Aside0.mk (Kd.R_below (zr HO406.out) hb); have n2_ := Aside0.mk (below_step (zb HB.out) hb); have n3_ := Aside0.mk (hbox); have n4_ := Aside0.mk ((by rw [hg]; exact (below_size (zb HB.out)) : w.heap.size ≤ gb407)); have n5_ := Aside0.mk ((by rw [hg]; exact (below_size (zb HB.out)) : w.heap.size ≤ gb407)); clear HO402 HO406 HB; have HO402 := n0_; have HO406 := n1_; have HB := n2_; have BK407 := n3_; have GW407 := n4_; have GE407 := n5_; clear n0_ n1_ n2_ n3_ n4_ n5_ hb hbox hg) | ((with_reducible refine gate_dst (N := 5) rfl ?_); (try (refine gate_guard (by rfl) ?_; dsimp only)); refine box_event ?hg (N := 5) ?hd (cs := #[.slice none 0 0]) (t := 28) ?hr ?_; (case hd => rfl); (case hg => rfl); (case hr => first | (go_simp; done) | (go_simp; rfl)); intro gb408 hg w279 hbox hb; have n0_ := Aside0.mk (Kd.R_below (zr HO402.out) hb); have n1_ := Aside0.mk (Kd.R_below (zr HO406.out) hb); have n2_ := Aside0.mk (blk_below (zh BK407.out) hb); have n3_ := Aside0.mk (below_step (zb HB.out) hb); have n4_ := Aside0.mk (hbox); have n5_ := Aside0.mk ((by rw [hg]; exact (below_size (zb HB.out)) : w.heap.size ≤ gb408)); have n6_ := Aside0.mk ((by rw [hg]; exact (below_size (zb HB.out)) : w.heap.size ≤ gb408)); have n7_ := Aside0.mk ((by rw [hg]; exact Nat.ne_of_lt (blk_lt (zh BK407.out)) : gb407 ≠ gb408)); have n8_ := Aside0.mk ((by rw [hg]; exact Nat.ne_of_gt (blk_lt (zh BK407.out)) : gb408 ≠ gb407)); clear HO402 HO406 BK407 HB; have HO402 := n0_; have HO406 := n1_; have BK407 := n2_; have HB := n3_; have BK408 := n4_; have GW408 := n5_; have GE408 := n6_; have NB407_408 := n7_; have NB408_407 := n8_; clear n0_ n1_ n2_ n3_ n4_ n5_ n6_ n7_ n8_ hb hbox hg; obtain ⟨Ao280, co280, eo280⟩ := Kd.R_slice HO402.out; subst eo280; have hnb281 := NB407_408.out; have hnc281 := NB408_407.out; have hcz282_0 : w279.cell? ⟨gb407, 0, none⟩ = some (.slice none 0 0) := (blk_cell BK407.out 0).trans rfl; have hfz282_0 := blk_frozen BK407.out 0; obtain ⟨Ao283, co283, eo283⟩ := Kd.R_slice HO406.out; subst eo283; have hcz284_0 : w279.cell? ⟨gb408, 0, none⟩ = some (.slice none 0 0) := (blk_cell BK408.out 0).trans rfl; have hfz284_0 := blk_frozen BK408.out 0) | ((with_reducible refine gate_callee (f := 15) rfl ?_); refine goesL_ (some 24) rfl rfl Try.func15 (by kernel_rfl) rfl #[.agg #[.slice Ao280 t400.length co280], .int .i64 t403, .agg #[.slice Ao283 t404.length co283]] rfl zl ?_; (with_reducible refine (impl_TermMove.calls k _ _ t400 t403 _ _ t404 t409 t412 _ ?side1 ?side2 ?side3 ?side4 A5.out).mono ?_); (case side1 => refine (Kd.R_reads' (e := 55) (base := w.heap.size) (ok := fun k_ => some k_ ≠ (.slice Ao283 t404.length co283 : Value).ownBlock) (n := t400.length) (c := co280) ?_).2.2; exact (by (with_reducible repeat (first | apply Kd.R_alloc | apply Kd.R_drewN | apply Kd.R_drew)); exact (Kd.R_mono (Kd.R_mono (Kd.R_far (p := ⟨gb408, 0, none⟩) (Kd.R_far (p := ⟨gb407, 0, none⟩) (Kd.R_types (Kd.R_types HO402.out BK407.out (by decide)) BK408.out (by decide)) (fun _ hk => hk.1.2) (.slice Ao280 t400.length co280)) (fun _ hk => hk.2) (.slice Ao283 t404.length co283)) (fun _ h_ => h_.1)) (fun _ h_ => h_.1)))); (case side2 => exact (Kd.R_reads' HO402.out).2.1); (case side3 => refine (Kd.R_reads' (e := 55) (base := w.heap.size) (ok := fun k_ => some k_ ≠ (.slice Ao280 t400.length co280 : Value).ownBlock) (n := t404.length) (c := co283) ?_).2.2; exact (by (with_reducible repeat (first | apply Kd.R_alloc | apply Kd.R_drewN | apply Kd.R_drew)); exact (Kd.R_mono (Kd.R_mono (Kd.R_far (p := ⟨gb408, 0, none⟩) (Kd.R_far (p := ⟨gb407, 0, none⟩) (Kd.R_types (Kd.R_types HO406.out BK407.out (by decide)) BK408.out (by decide)) (fun _ hk => hk.1.2) (.slice Ao280 t400.length co280)) (fun _ hk => hk.2) (.slice Ao283 t404.length co283)) (fun _ h_ => h_.1)) (fun _ h_ => h_.1)))); (case side4 => exact (Kd.R_reads' HO406.out).2.1); rintro e w285 ⟨v410, rfl, ho0, hb⟩; refine ⟨_, rfl, ?_⟩; have n0_ := Aside0.mk (Kd.R_elder' (by (with_reducible repeat (first | apply Kd.R_alloc | apply Kd.R_drewN | apply Kd.R_drew)); exact (Kd.R_mono (Kd.R_mono (Kd.R_far (p := ⟨gb408, 0, none⟩) (Kd.R_far (p := ⟨gb407, 0, none⟩) (Kd.R_types (Kd.R_types HO402.out BK407.out (by decide)) BK408.out (by decide)) (fun _ hk => hk.1.2) (.slice Ao280 t400.length co280)) (fun _ hk => hk.2) (.slice Ao283 t404.length co283)) (fun _ h_ => h_.1)) (fun _ h_ => h_.1))) (Kd.R_base ho0) hb); have n1_ := Aside0.mk (Kd.R_elder' (by (with_reducible repeat (first | apply Kd.R_alloc | apply Kd.R_drewN | apply Kd.R_drew)); exact (Kd.R_mono (Kd.R_mono (Kd.R_far (p := ⟨gb408, 0, none⟩) (Kd.R_far (p := ⟨gb407, 0, none⟩) (Kd.R_types (Kd.R_types HO406.out BK407.out (by decide)) BK408.out (by decide)) (fun _ hk => hk.1.2) (.slice Ao280 t400.length co280)) (fun _ hk => hk.2) (.slice Ao283 t404.length co283)) (fun _ h_ => h_.1)) (fun _ h_ => h_.1))) (Kd.R_base ho0) hb); have n2_ := Aside0.mk (Kd.R_lower (Kd.R_new' (Kd.R_new' ho0 (Kd.R_lt (by (with_reducible repeat (first | apply Kd.R_alloc | apply Kd.R_drewN | apply Kd.R_drew)); exact (Kd.R_mono (Kd.R_mono (Kd.R_far (p := ⟨gb408, 0, none⟩) (Kd.R_far (p := ⟨gb407, 0, none⟩) (Kd.R_types (Kd.R_types HO402.out BK407.out (by decide)) BK408.out (by decide)) (fun _ hk => hk.1.2) (.slice Ao280 t400.length co280)) (fun _ hk => hk.2) (.slice Ao283 t404.length co283)) (fun _ h_ => h_.1)) (fun _ h_ => h_.1))))) (Kd.R_lt (by (with_reducible repeat (first | apply Kd.R_alloc | apply Kd.R_drewN | apply Kd.R_drew)); exact (Kd.R_mono (Kd.R_mono (Kd.R_far (p := ⟨gb408, 0, none⟩) (Kd.R_far (p := ⟨gb407, 0, none⟩) (Kd.R_types (Kd.R_types HO406.out BK407.out (by decide)) BK408.out (by decide)) (fun _ hk => hk.1.2) (.slice Ao280 t400.length co280)) (fun _ hk => hk.2) (.slice Ao283 t404.length co283)) (fun _ h_ => h_.1)) (fun _ h_ => h_.1))))) (below_size (zb HB.out))); have n3_ := Aside0.mk (blk_below (g := gb407) (o := .cells #[.slice Ao280 t400.length co280] 28 (0, 0)) (by (with_reducible repeat (first | refine blk_drewN ?_ _ | refine blk_drew ?_ | refine blk_alloc ?_ _)); refine blk_far ?_ NB407_408.out _; (with_reducible repeat (first | refine blk_drewN ?_ _ | refine blk_drew ?_ | refine blk_alloc ?_ _)); refine blk_put (cs := #[.slice none 0 0]) ?_ 0 _ rfl; (with_reducible repeat (first | refine blk_drewN ?_ _ | refine blk_drew ?_ | refine blk_alloc ?_ _)); exact BK407.out) hb); have n4_ := Aside0.mk (blk_below (g := gb408) (o := .cells #[.slice Ao283 t404.length co283] 28 (0, 0)) (by (with_reducible repeat (first | refine blk_drewN ?_ _ | refine blk_drew ?_ | refine blk_alloc ?_ _)); refine blk_put (cs := #[.slice none 0 0]) ?_ 0 _ rfl; (with_reducible repeat (first | refine blk_drewN ?_ _ | refine blk_drew ?_ | refine blk_alloc ?_ _)); refine blk_far ?_ NB408_407.out _; (with_reducible repeat (first | refine blk_drewN ?_ _ | refine blk_drew ?_ | refine blk_alloc ?_ _)); exact BK408.out) hb); have n5_ := Aside0.mk (below_step (zb HB.out) hb); clear HO402 HO406 BK407 BK408 HB; have HO402 := n0_; have HO406 := n1_; have HO411 := n2_; have BK407 := n3_; have BK408 := n4_; have HB := n5_; clear n0_ n1_ n2_ n3_ n4_ n5_; (try clear hb); (try clear hb2); (try clear hk); (try clear hi); (try clear ho0)) | ((with_reducible refine gate_dst (N := 6) rfl ?_); (try (refine gate_guard (by rfl) ?_; dsimp only)); refine box_event ?hg (N := 6) ?hd (cs := #[.slice none 0 0]) (t := 28) ?hr ?_; (case hd => rfl); (case hg => rfl); (case hr => first | (go_simp; done) | (go_simp; rfl)); intro gb413 hg w286 hbox hb; have n0_ := Aside0.mk (Kd.R_below (zr HO402.out) hb); have n1_ := Aside0.mk (Kd.R_below (zr HO406.out) hb); have n2_ := Aside0.mk (Kd.R_below (zr HO411.out) hb); have n3_ := Aside0.mk (blk_below (zh BK407.out) hb); have n4_ := Aside0.mk (blk_below (zh BK408.out) hb); have n5_ := Aside0.mk (below_step (zb HB.out) hb); have n6_ := Aside0.mk (hbox); have n7_ := Aside0.mk ((by rw [hg]; exact (below_size (zb HB.out)) : w.heap.size ≤ gb413)); have n8_ := Aside0.mk ((by rw [hg]; exact (below_size (zb HB.out)) : w.heap.size ≤ gb413)); have n9_ := Aside0.mk ((by rw [hg]; exact Nat.ne_of_lt (blk_lt (zh BK407.out)) : gb407 ≠ gb413)); have n10_ := Aside0.mk ((by rw [hg]; exact Nat.ne_of_gt (blk_lt (zh BK407.out)) : gb413 ≠ gb407)); have n11_ := Aside0.mk ((by rw [hg]; exact Nat.ne_of_lt (blk_lt (zh BK408.out)) : gb408 ≠ gb413)); have n12_ := Aside0.mk ((by rw [hg]; exact Nat.ne_of_gt (blk_lt (zh BK408.out)) : gb413 ≠ gb408)); clear HO402 HO406 HO411 BK407 BK408 HB; have HO402 := n0_; have HO406 := n1_; have HO411 := n2_; have BK407 := n3_; have BK408 := n4_; have HB := n5_; have BK413 := n6_; have GW413 := n7_; have GE413 := n8_; have NB407_413 := n9_; have NB413_407 := n10_; have NB408_413 := n11_; have NB413_408 := n12_; clear n0_ n1_ n2_ n3_ n4_ n5_ n6_ n7_ n8_ n9_ n10_ n11_ n12_ hb hbox hg; obtain ⟨Ao287, co287, eo287⟩ := Kd.R_slice HO411.out; subst eo287; have hnb288 := NB413_407.out; have hnc288 := NB407_413.out; have hnb289 := NB413_408.out; have hnc289 := NB408_413.out; have hcz290_0 : w286.cell? ⟨gb413, 0, none⟩ = some (.slice none 0 0) := (blk_cell BK413.out 0).trans rfl; have hfz290_0 := blk_frozen BK413.out 0; have hcz291_0 : w286.cell? ⟨gb407, 0, none⟩ = some (.slice Ao280 t400.length co280) := (blk_cell BK407.out 0).trans rfl; have hfz291_0 := blk_frozen BK407.out 0; have hcz292_0 : w286.cell? ⟨gb408, 0, none⟩ = some (.slice Ao283 t404.length co283) := (blk_cell BK408.out 0).trans rfl; have hfz292_0 := blk_frozen BK408.out 0) | ((with_reducible refine gate_callee (f := 14) rfl ?_); refine goesL_ (some 31) rfl rfl Try.func14 (by kernel_rfl) rfl #[.agg #[.slice Ao280 t400.length co280], .int .i64 t403, .agg #[.slice Ao283 t404.length co283]] rfl zl ?_; (with_reducible refine (spec_TermMove.calls k _ _ t400 t403 _ _ t404 t414 t417 _ ?side1 ?side2 ?side3 ?side4 A6.out).mono ?_); (case side1 => refine (Kd.R_reads' (e := 55) (base := w.heap.size) (ok := fun k_ => (some k_ ≠ (.slice Ao283 t404.length co283 : Value).ownBlock ∧ some k_ ≠ (.slice Ao287 t409.length co287 : Value).ownBlock)) (n := t400.length) (c := co280) ?_).2.2; exact (by (with_reducible repeat (first | apply Kd.R_alloc | apply Kd.R_drewN | apply Kd.R_drew)); exact (Kd.R_mono (Kd.R_far (p := ⟨gb413, 0, none⟩) (Kd.R_types HO402.out BK413.out (by decide)) (fun _ hk => hk.2) (.slice Ao287 t409.length co287)) (fun _ h_ => h_.1)))); (case side2 => exact (Kd.R_reads' HO402.out).2.1); (case side3 => refine (Kd.R_reads' (e := 55) (base := w.heap.size) (ok := fun k_ => (some k_ ≠ (.slice Ao280 t400.length co280 : Value).ownBlock ∧ some k_ ≠ (.slice Ao287 t409.length co287 : Value).ownBlock)) (n := t404.length) (c := co283) ?_).2.2; exact (by (with_reducible repeat (first | apply Kd.R_alloc | apply Kd.R_drewN | apply Kd.R_drew)); exact (Kd.R_mono (Kd.R_far (p := ⟨gb413, 0, none⟩) (Kd.R_types HO406.out BK413.out (by decide)) (fun _ hk => hk.2) (.slice Ao287 t409.length co287)) (fun _ h_ => h_.1)))); (case side4 => exact (Kd.R_reads' HO406.out).2.1); rintro e w293 ⟨v415, rfl, ho0, hb⟩; refine ⟨_, rfl, ?_⟩; have n0_ := Aside0.mk (Kd.R_elder' (by (with_reducible repeat (first | apply Kd.R_alloc | apply Kd.R_drewN | apply Kd.R_drew)); exact (Kd.R_mono (Kd.R_far (p := ⟨gb413, 0, none⟩) (Kd.R_types HO402.out BK413.out (by decide)) (fun _ hk => hk.2) (.slice Ao287 t409.length co287)) (fun _ h_ => h_.1))) (Kd.R_base ho0) hb); have n1_ := Aside0.mk (Kd.R_elder' (by (with_reducible repeat (first | apply Kd.R_alloc | apply Kd.R_drewN | apply Kd.R_drew)); exact (Kd.R_mono (Kd.R_far (p := ⟨gb413, 0, none⟩) (Kd.R_types HO406.out BK413.out (by decide)) (fun _ hk => hk.2) (.slice Ao287 t409.length co287)) (fun _ h_ => h_.1))) (Kd.R_base ho0) hb); have n2_ := Aside0.mk (Kd.R_elder' (by (with_reducible repeat (first | apply Kd.R_alloc | apply Kd.R_drewN | apply Kd.R_drew)); exact (Kd.R_mono (Kd.R_far (p := ⟨gb413, 0, none⟩) (Kd.R_types HO411.out BK413.out (by decide)) (fun _ hk => hk.2) (.slice Ao287 t409.length co287)) (fun _ h_ => h_.1))) (Kd.R_base ho0) hb); have n3_ := Aside0.mk (Kd.R_lower (Kd.R_new' (Kd.R_new' (Kd.R_new' ho0 (Kd.R_lt (by (with_reducible repeat (first | apply Kd.R_alloc | apply Kd.R_drewN | apply Kd.R_drew)); exact (Kd.R_mono (Kd.R_far (p := ⟨gb413, 0, none⟩) (Kd.R_types HO402.out BK413.out (by decide)) (fun _ hk => hk.2) (.slice Ao287 t409.length co287)) (fun _ h_ => h_.1))))) (Kd.R_lt (by (with_reducible repeat (first | apply Kd.R_alloc | apply Kd.R_drewN | apply Kd.R_drew)); exact (Kd.R_mono (Kd.R_far (p := ⟨gb413, 0, none⟩) (Kd.R_types HO406.out BK413.out (by decide)) (fun _ hk => hk.2) (.slice Ao287 t409.length co287)) (fun _ h_ => h_.1))))) (Kd.R_lt (by (with_reducible repeat (first | apply Kd.R_alloc | apply Kd.R_drewN | apply Kd.R_drew)); exact (Kd.R_mono (Kd.R_far (p := ⟨gb413, 0, none⟩) (Kd.R_types HO411.out BK413.out (by decide)) (fun _ hk => hk.2) (.slice Ao287 t409.length co287)) (fun _ h_ => h_.1))))) (below_size (zb HB.out))); have n4_ := Aside0.mk (blk_below (g := gb407) (o := .cells #[.slice Ao280 t400.length co280] 28 (0, 0)) (zf BK407.out) hb); have n5_ := Aside0.mk (blk_below (g := gb408) (o := .cells #[.slice Ao283 t404.length co283] 28 (0, 0)) (zf BK408.out) hb); have n6_ := Aside0.mk (blk_below (g := gb413) (o := .cells #[.slice Ao287 t409.length co287] 28 (0, 0)) (by (with_reducible repeat (first | refine blk_drewN ?_ _ | refine blk_drew ?_ | refine blk_alloc ?_ _)); refine blk_put (cs := #[.slice none 0 0]) ?_ 0 _ rfl; (with_reducible repeat (first | refine blk_drewN ?_ _ | refine blk_drew ?_ | refine blk_alloc ?_ _)); exact BK413.out) hb); have n7_ := Aside0.mk (below_step (zb HB.out) hb); clear HO402 HO406 HO411 BK407 BK408 BK413 HB; have HO402 := n0_; have HO406 := n1_; have HO411 := n2_; have HO416 := n3_; have BK407 := n4_; have BK408 := n5_; have BK413 := n6_; have HB := n7_; clear n0_ n1_ n2_ n3_ n4_ n5_ n6_ n7_; (try clear hb); (try clear hb2); (try clear hk); (try clear hi); (try clear ho0)) | ((with_reducible refine gate_dst (N := 8) rfl ?_); (try (refine gate_guard (by rfl) ?_; dsimp only)); refine box_event ?hg (N := 8) ?hd (cs := #[.slice none 0 0]) (t := 28) ?hr ?_; (case hd => rfl); (case hg => rfl); (case hr => first | (go_simp; done) | (go_simp; rfl)); intro gb418 hg w294 hbox hb; have n0_ := Aside0.mk (Kd.R_below (zr HO402.out) hb); have n1_ := Aside0.mk (Kd.R_below (zr HO406.out) hb); have n2_ := Aside0.mk (Kd.R_below (zr HO411.out) hb); have n3_ := Aside0.mk (Kd.R_below (zr HO416.out) hb); have n4_ := Aside0.mk (blk_below (zh BK407.out) hb); have n5_ := Aside0.mk (blk_below (zh BK408.out) hb); have n6_ := Aside0.mk (blk_below (zh BK413.out) hb); have n7_ := Aside0.mk (below_step (zb HB.out) hb); have n8_ := Aside0.mk (hbox); have n9_ := Aside0.mk ((by rw [hg]; exact (below_size (zb HB.out)) : w.heap.size ≤ gb418)); have n10_ := Aside0.mk ((by rw [hg]; exact (below_size (zb HB.out)) : w.heap.size ≤ gb418)); have n11_ := Aside0.mk ((by rw [hg]; exact Nat.ne_of_lt (blk_lt (zh BK407.out)) : gb407 ≠ gb418)); have n12_ := Aside0.mk ((by rw [hg]; exact Nat.ne_of_gt (blk_lt (zh BK407.out)) : gb418 ≠ gb407)); have n13_ := Aside0.mk ((by rw [hg]; exact Nat.ne_of_lt (blk_lt (zh BK408.out)) : gb408 ≠ gb418)); have n14_ := Aside0.mk ((by rw [hg]; exact Nat.ne_of_gt (blk_lt (zh BK408.out)) : gb418 ≠ gb408)); have n15_ := Aside0.mk ((by rw [hg]; exact Nat.ne_of_lt (blk_lt (zh BK413.out)) : gb413 ≠ gb418)); have n16_ := Aside0.mk ((by rw [hg]; exact Nat.ne_of_gt (blk_lt (zh BK413.out)) : gb418 ≠ gb413)); clear HO402 HO406 HO411 HO416 BK407 BK408 BK413 HB; have HO402 := n0_; have HO406 := n1_; have HO411 := n2_; have HO416 := n3_; have BK407 := n4_; have BK408 := n5_; have BK413 := n6_; have HB := n7_; have BK418 := n8_; have GW418 := n9_; have GE418 := n10_; have NB407_418 := n11_; have NB418_407 := n12_; have NB408_418 := n13_; have NB418_408 := n14_; have NB413_418 := n15_; have NB418_413 := n16_; clear n0_ n1_ n2_ n3_ n4_ n5_ n6_ n7_ n8_ n9_ n10_ n11_ n12_ n13_ n14_ n15_ n16_ hb hbox hg; obtain ⟨Ao295, co295, eo295⟩ := Kd.R_slice HO416.out; subst eo295; have hnb296 := NB418_407.out; have hnc296 := NB407_418.out; have hnb297 := NB418_408.out; have hnc297 := NB408_418.out; have hnb298 := NB418_413.out; have hnc298 := NB413_418.out; have hcz299_0 : w294.cell? ⟨gb418, 0, none⟩ = some (.slice none 0 0) := (blk_cell BK418.out 0).trans rfl; have hfz299_0 := blk_frozen BK418.out 0))
  go_ret
  exact ⟨ze, zb HB.out⟩
  
 rw [if_pos c7] at H
 have c7b0 : (t412 == t417) = true := beq_iff_eq.mpr c7
 have c7b1 : (t412 != t417) = false := bne_eq_false_iff_eq.mpr c7
 clear c7
 by_cases c8 : t412 < 0
 ·rw [if_pos c8] at H
  have c8b0 : decide (t412 < 0) = true := decide_eq_true c8
  clear c8
  by_cases c9 : (t409.length : Int) = (t404.length : Int)
  rotate_left
  ·rw [if_neg c9] at H
   have c9b0 : ((t409.length : Int) == (t404.length : Int)) = false := beq_eq_false_iff_ne.mpr c9
   have c9b1 : ((t409.length : Int) != (t404.length : Int)) = true := bne_iff_ne.mpr c9
   have c9b2 : (t409.length == t404.length) = false := by first | simpa using c9 | (simp at c9 ⊢; omega)
   obtain rfl := Option.some.inj H
   go_enter Try.func6, Try.ntmps6
   go_wp2_with (first | ((with_reducible refine gate_callee (f := 16) rfl ?_); refine goesL_ (some 13) rfl rfl Try.func16 (by kernel_rfl) rfl #[.slice A0 l0.length c0] rfl zl ?_; (with_reducible refine (laws_big.calls _ _ l0 false _ ?side1 ?side2 A2.out).mono ?_); (case side1 => exact zc HR0.out); (case side2 => exact HC0.out); rintro e w' ⟨rfl, ⟨nd, rfl⟩⟩; refine ⟨_, rfl, ?_⟩) | ((with_reducible refine gate_callee (f := 19) rfl ?_); refine goesL_ (some 16) rfl rfl Try.func19 (by kernel_rfl) rfl #[.slice A0 l0.length c0] rfl zl ?_; (with_reducible refine (spec_DrawTermMove.calls k _ _ l0 t400 t403 t404 _ ?side1 ?side2 A4.out).mono ?_); (case side1 => exact zc HR0.out); (case side2 => exact HC0.out); rintro e w35 ⟨v401, v405, rfl, ho0, ho1, hb⟩; refine ⟨_, rfl, ?_⟩; have n0_ := Aside0.mk (Kd.R_lower ho0 (below_size (zb HB.out))); have n1_ := Aside0.mk (Kd.R_lower ho1 (below_size (zb HB.out))); have n2_ := Aside0.mk (below_step (zb HB.out) hb); clear HB; have HO402 := n0_; have HO406 := n1_; have HB := n2_; clear n0_ n1_ n2_; (try clear hb); (try clear hb2); (try clear hk); (try clear hi); (try clear ho0); (try clear ho1)) | ((with_reducible refine gate_dst (N := 3) rfl ?_); (try (refine gate_guard (by rfl) ?_; dsimp only)); refine box_event ?hg (N := 3) ?hd (cs := #[.slice none 0 0]) (t := 28) ?hr ?_; (case hd => rfl); (case hg => rfl); (case hr => first | (go_simp; done) | (go_simp; rfl)); intro gb407 hg w36 hbox hb; have n0_ := Aside0.mk (Kd.R_below (zr HO402.out) hb); have n1_ := Aside0.mk (Kd.R_below (zr HO406.out) hb); have n2_ := Aside0.mk (below_step (zb HB.out) hb); have n3_ := Aside0.mk (hbox); have n4_ := Aside0.mk ((by rw [hg]; exact (below_size (zb HB.out)) : w.heap.size ≤ gb407)); have n5_ := Aside0.mk ((by rw [hg]; exact (below_size (zb HB.out)) : w.heap.size ≤ gb407)); clear HO402 HO406 HB; have HO402 := n0_; have HO406 := n1_; have HB := n2_; have BK407 := n3_; have GW407 := n4_; have GE407 := n5_; clear n0_ n1_ n2_ n3_ n4_ n5_ hb hbox hg) | ((with_reducible refine gate_dst (N := 5) rfl ?_); (try (refine gate_guard (by rfl) ?_; dsimp only)); refine box_event ?hg (N := 5) ?hd (cs := #[.slice none 0 0]) (t := 28) ?hr ?_; (case hd => rfl); (case hg => rfl); (case hr => first | (go_simp; done) | (go_simp; rfl)); intro gb408 hg w37 hbox hb; have n0_ := Aside0.mk (Kd.R_below (zr HO402.out) hb); have n1_ := Aside0.mk (Kd.R_below (zr HO406.out) hb); have n2_ := Aside0.mk (blk_below (zh BK407.out) hb); have n3_ := Aside0.mk (below_step (zb HB.out) hb); have n4_ := Aside0.mk (hbox); have n5_ := Aside0.mk ((by rw [hg]; exact (below_size (zb HB.out)) : w.heap.size ≤ gb408)); have n6_ := Aside0.mk ((by rw [hg]; exact (below_size (zb HB.out)) : w.heap.size ≤ gb408)); have n7_ := Aside0.mk ((by rw [hg]; exact Nat.ne_of_lt (blk_lt (zh BK407.out)) : gb407 ≠ gb408)); have n8_ := Aside0.mk ((by rw [hg]; exact Nat.ne_of_gt (blk_lt (zh BK407.out)) : gb408 ≠ gb407)); clear HO402 HO406 BK407 HB; have HO402 := n0_; have HO406 := n1_; have BK407 := n2_; have HB := n3_; have BK408 := n4_; have GW408 := n5_; have GE408 := n6_; have NB407_408 := n7_; have NB408_407 := n8_; clear n0_ n1_ n2_ n3_ n4_ n5_ n6_ n7_ n8_ hb hbox hg; obtain ⟨Ao38, co38, eo38⟩ := Kd.R_slice HO402.out; subst eo38; have hnb39 := NB407_408.out; have hnc39 := NB408_407.out; have hcz40_0 : w37.cell? ⟨gb407, 0, none⟩ = some (.slice none 0 0) := (blk_cell BK407.out 0).trans rfl; have hfz40_0 := blk_frozen BK407.out 0; obtain ⟨Ao41, co41, eo41⟩ := Kd.R_slice HO406.out; subst eo41; have hcz42_0 : w37.cell? ⟨gb408, 0, none⟩ = some (.slice none 0 0) := (blk_cell BK408.out 0).trans rfl; have hfz42_0 := blk_frozen BK408.out 0) | ((with_reducible refine gate_callee (f := 15) rfl ?_); refine goesL_ (some 24) rfl rfl Try.func15 (by kernel_rfl) rfl #[.agg #[.slice Ao38 t400.length co38], .int .i64 t403, .agg #[.slice Ao41 t404.length co41]] rfl zl ?_; (with_reducible refine (impl_TermMove.calls k _ _ t400 t403 _ _ t404 t409 t412 _ ?side1 ?side2 ?side3 ?side4 A5.out).mono ?_); (case side1 => refine (Kd.R_reads' (e := 55) (base := w.heap.size) (ok := fun k_ => some k_ ≠ (.slice Ao41 t404.length co41 : Value).ownBlock) (n := t400.length) (c := co38) ?_).2.2; exact (by (with_reducible repeat (first | apply Kd.R_alloc | apply Kd.R_drewN | apply Kd.R_drew)); exact (Kd.R_mono (Kd.R_mono (Kd.R_far (p := ⟨gb408, 0, none⟩) (Kd.R_far (p := ⟨gb407, 0, none⟩) (Kd.R_types (Kd.R_types HO402.out BK407.out (by decide)) BK408.out (by decide)) (fun _ hk => hk.1.2) (.slice Ao38 t400.length co38)) (fun _ hk => hk.2) (.slice Ao41 t404.length co41)) (fun _ h_ => h_.1)) (fun _ h_ => h_.1)))); (case side2 => exact (Kd.R_reads' HO402.out).2.1); (case side3 => refine (Kd.R_reads' (e := 55) (base := w.heap.size) (ok := fun k_ => some k_ ≠ (.slice Ao38 t400.length co38 : Value).ownBlock) (n := t404.length) (c := co41) ?_).2.2; exact (by (with_reducible repeat (first | apply Kd.R_alloc | apply Kd.R_drewN | apply Kd.R_drew)); exact (Kd.R_mono (Kd.R_mono (Kd.R_far (p := ⟨gb408, 0, none⟩) (Kd.R_far (p := ⟨gb407, 0, none⟩) (Kd.R_types (Kd.R_types HO406.out BK407.out (by decide)) BK408.out (by decide)) (fun _ hk => hk.1.2) (.slice Ao38 t400.length co38)) (fun _ hk => hk.2) (.slice Ao41 t404.length co41)) (fun _ h_ => h_.1)) (fun _ h_ => h_.1)))); (case side4 => exact (Kd.R_reads' HO406.out).2.1); rintro e w43 ⟨v410, rfl, ho0, hb⟩; refine ⟨_, rfl, ?_⟩; have n0_ := Aside0.mk (Kd.R_elder' (by (with_reducible repeat (first | apply Kd.R_alloc | apply Kd.R_drewN | apply Kd.R_drew)); exact (Kd.R_mono (Kd.R_mono (Kd.R_far (p := ⟨gb408, 0, none⟩) (Kd.R_far (p := ⟨gb407, 0, none⟩) (Kd.R_types (Kd.R_types HO402.out BK407.out (by decide)) BK408.out (by decide)) (fun _ hk => hk.1.2) (.slice Ao38 t400.length co38)) (fun _ hk => hk.2) (.slice Ao41 t404.length co41)) (fun _ h_ => h_.1)) (fun _ h_ => h_.1))) (Kd.R_base ho0) hb); have n1_ := Aside0.mk (Kd.R_elder' (by (with_reducible repeat (first | apply Kd.R_alloc | apply Kd.R_drewN | apply Kd.R_drew)); exact (Kd.R_mono (Kd.R_mono (Kd.R_far (p := ⟨gb408, 0, none⟩) (Kd.R_far (p := ⟨gb407, 0, none⟩) (Kd.R_types (Kd.R_types HO406.out BK407.out (by decide)) BK408.out (by decide)) (fun _ hk => hk.1.2) (.slice Ao38 t400.length co38)) (fun _ hk => hk.2) (.slice Ao41 t404.length co41)) (fun _ h_ => h_.1)) (fun _ h_ => h_.1))) (Kd.R_base ho0) hb); have n2_ := Aside0.mk (Kd.R_lower (Kd.R_new' (Kd.R_new' ho0 (Kd.R_lt (by (with_reducible repeat (first | apply Kd.R_alloc | apply Kd.R_drewN | apply Kd.R_drew)); exact (Kd.R_mono (Kd.R_mono (Kd.R_far (p := ⟨gb408, 0, none⟩) (Kd.R_far (p := ⟨gb407, 0, none⟩) (Kd.R_types (Kd.R_types HO402.out BK407.out (by decide)) BK408.out (by decide)) (fun _ hk => hk.1.2) (.slice Ao38 t400.length co38)) (fun _ hk => hk.2) (.slice Ao41 t404.length co41)) (fun _ h_ => h_.1)) (fun _ h_ => h_.1))))) (Kd.R_lt (by (with_reducible repeat (first | apply Kd.R_alloc | apply Kd.R_drewN | apply Kd.R_drew)); exact (Kd.R_mono (Kd.R_mono (Kd.R_far (p := ⟨gb408, 0, none⟩) (Kd.R_far (p := ⟨gb407, 0, none⟩) (Kd.R_types (Kd.R_types HO406.out BK407.out (by decide)) BK408.out (by decide)) (fun _ hk => hk.1.2) (.slice Ao38 t400.length co38)) (fun _ hk => hk.2) (.slice Ao41 t404.length co41)) (fun _ h_ => h_.1)) (fun _ h_ => h_.1))))) (below_size (zb HB.out))); have n3_ := Aside0.mk (blk_below (g := gb407) (o := .cells #[.slice Ao38 t400.length co38] 28 (0, 0)) (by (with_reducible repeat (first | refine blk_drewN ?_ _ | refine blk_drew ?_ | refine blk_alloc ?_ _)); refine blk_far ?_ NB407_408.out _; (with_reducible repeat (first | refine blk_drewN ?_ _ | refine blk_drew ?_ | refine blk_alloc ?_ _)); refine blk_put (cs := #[.slice none 0 0]) ?_ 0 _ rfl; (with_reducible repeat (first | refine blk_drewN ?_ _ | refine blk_drew ?_ | refine blk_alloc ?_ _)); exact BK407.out) hb); have n4_ := Aside0.mk (blk_below (g := gb408) (o := .cells #[.slice Ao41 t404.length co41] 28 (0, 0)) (by (with_reducible repeat (first | refine blk_drewN ?_ _ | refine blk_drew ?_ | refine blk_alloc ?_ _)); refine blk_put (cs := #[.slice none 0 0]) ?_ 0 _ rfl; (with_reducible repeat (first | refine blk_drewN ?_ _ | refine blk_drew ?_ | refine blk_alloc ?_ _)); refine blk_far ?_ NB408_407.out _; (with_reducible repeat (first | refine blk_drewN ?_ _ | refine blk_drew ?_ | refine blk_alloc ?_ _)); exact BK408.out) hb); have n5_ := Aside0.mk (below_step (zb HB.out) hb); clear HO402 HO406 BK407 BK408 HB; have HO402 := n0_; have HO406 := n1_; have HO411 := n2_; have BK407 := n3_; have BK408 := n4_; have HB := n5_; clear n0_ n1_ n2_ n3_ n4_ n5_; (try clear hb); (try clear hb2); (try clear hk); (try clear hi); (try clear ho0)) | ((with_reducible refine gate_dst (N := 6) rfl ?_); (try (refine gate_guard (by rfl) ?_; dsimp only)); refine box_event ?hg (N := 6) ?hd (cs := #[.slice none 0 0]) (t := 28) ?hr ?_; (case hd => rfl); (case hg => rfl); (case hr => first | (go_simp; done) | (go_simp; rfl)); intro gb413 hg w44 hbox hb; have n0_ := Aside0.mk (Kd.R_below (zr HO402.out) hb); have n1_ := Aside0.mk (Kd.R_below (zr HO406.out) hb); have n2_ := Aside0.mk (Kd.R_below (zr HO411.out) hb); have n3_ := Aside0.mk (blk_below (zh BK407.out) hb); have n4_ := Aside0.mk (blk_below (zh BK408.out) hb); have n5_ := Aside0.mk (below_step (zb HB.out) hb); have n6_ := Aside0.mk (hbox); have n7_ := Aside0.mk ((by rw [hg]; exact (below_size (zb HB.out)) : w.heap.size ≤ gb413)); have n8_ := Aside0.mk ((by rw [hg]; exact (below_size (zb HB.out)) : w.heap.size ≤ gb413)); have n9_ := Aside0.mk ((by rw [hg]; exact Nat.ne_of_lt (blk_lt (zh BK407.out)) : gb407 ≠ gb413)); have n10_ := Aside0.mk ((by rw [hg]; exact Nat.ne_of_gt (blk_lt (zh BK407.out)) : gb413 ≠ gb407)); have n11_ := Aside0.mk ((by rw [hg]; exact Nat.ne_of_lt (blk_lt (zh BK408.out)) : gb408 ≠ gb413)); have n12_ := Aside0.mk ((by rw [hg]; exact Nat.ne_of_gt (blk_lt (zh BK408.out)) : gb413 ≠ gb408)); clear HO402 HO406 HO411 BK407 BK408 HB; have HO402 := n0_; have HO406 := n1_; have HO411 := n2_; have BK407 := n3_; have BK408 := n4_; have HB := n5_; have BK413 := n6_; have GW413 := n7_; have GE413 := n8_; have NB407_413 := n9_; have NB413_407 := n10_; have NB408_413 := n11_; have NB413_408 := n12_; clear n0_ n1_ n2_ n3_ n4_ n5_ n6_ n7_ n8_ n9_ n10_ n11_ n12_ hb hbox hg; obtain ⟨Ao45, co45, eo45⟩ := Kd.R_slice HO411.out; subst eo45; have hnb46 := NB413_407.out; have hnc46 := NB407_413.out; have hnb47 := NB413_408.out; have hnc47 := NB408_413.out; have hcz48_0 : w44.cell? ⟨gb413, 0, none⟩ = some (.slice none 0 0) := (blk_cell BK413.out 0).trans rfl; have hfz48_0 := blk_frozen BK413.out 0; have hcz49_0 : w44.cell? ⟨gb407, 0, none⟩ = some (.slice Ao38 t400.length co38) := (blk_cell BK407.out 0).trans rfl; have hfz49_0 := blk_frozen BK407.out 0; have hcz50_0 : w44.cell? ⟨gb408, 0, none⟩ = some (.slice Ao41 t404.length co41) := (blk_cell BK408.out 0).trans rfl; have hfz50_0 := blk_frozen BK408.out 0) | ((with_reducible refine gate_callee (f := 14) rfl ?_); refine goesL_ (some 31) rfl rfl Try.func14 (by kernel_rfl) rfl #[.agg #[.slice Ao38 t400.length co38], .int .i64 t403, .agg #[.slice Ao41 t404.length co41]] rfl zl ?_; (with_reducible refine (spec_TermMove.calls k _ _ t400 t403 _ _ t404 t414 t417 _ ?side1 ?side2 ?side3 ?side4 A6.out).mono ?_); (case side1 => refine (Kd.R_reads' (e := 55) (base := w.heap.size) (ok := fun k_ => (some k_ ≠ (.slice Ao41 t404.length co41 : Value).ownBlock ∧ some k_ ≠ (.slice Ao45 t409.length co45 : Value).ownBlock)) (n := t400.length) (c := co38) ?_).2.2; exact (by (with_reducible repeat (first | apply Kd.R_alloc | apply Kd.R_drewN | apply Kd.R_drew)); exact (Kd.R_mono (Kd.R_far (p := ⟨gb413, 0, none⟩) (Kd.R_types HO402.out BK413.out (by decide)) (fun _ hk => hk.2) (.slice Ao45 t409.length co45)) (fun _ h_ => h_.1)))); (case side2 => exact (Kd.R_reads' HO402.out).2.1); (case side3 => refine (Kd.R_reads' (e := 55) (base := w.heap.size) (ok := fun k_ => (some k_ ≠ (.slice Ao38 t400.length co38 : Value).ownBlock ∧ some k_ ≠ (.slice Ao45 t409.length co45 : Value).ownBlock)) (n := t404.length) (c := co41) ?_).2.2; exact (by (with_reducible repeat (first | apply Kd.R_alloc | apply Kd.R_drewN | apply Kd.R_drew)); exact (Kd.R_mono (Kd.R_far (p := ⟨gb413, 0, none⟩) (Kd.R_types HO406.out BK413.out (by decide)) (fun _ hk => hk.2) (.slice Ao45 t409.length co45)) (fun _ h_ => h_.1)))); (case side4 => exact (Kd.R_reads' HO406.out).2.1); rintro e w51 ⟨v415, rfl, ho0, hb⟩; refine ⟨_, rfl, ?_⟩; have n0_ := Aside0.mk (Kd.R_elder' (by (with_reducible repeat (first | apply Kd.R_alloc | apply Kd.R_drewN | apply Kd.R_drew)); exact (Kd.R_mono (Kd.R_far (p := ⟨gb413, 0, none⟩) (Kd.R_types HO402.out BK413.out (by decide)) (fun _ hk => hk.2) (.slice Ao45 t409.length co45)) (fun _ h_ => h_.1))) (Kd.R_base ho0) hb); have n1_ := Aside0.mk (Kd.R_elder' (by (with_reducible repeat (first | apply Kd.R_alloc | apply Kd.R_drewN | apply Kd.R_drew)); exact (Kd.R_mono (Kd.R_far (p := ⟨gb413, 0, none⟩) (Kd.R_types HO406.out BK413.out (by decide)) (fun _ hk => hk.2) (.slice Ao45 t409.length co45)) (fun _ h_ => h_.1))) (Kd.R_base ho0) hb); have n2_ := Aside0.mk (Kd.R_elder' (by (with_reducible repeat (first | apply Kd.R_alloc | apply Kd.R_drewN | apply Kd.R_drew)); exact (Kd.R_mono (Kd.R_far (p := ⟨gb413, 0, none⟩) (Kd.R_types HO411.out BK413.out (by decide)) (fun _ hk => hk.2) (.slice Ao45 t409.length co45)) (fun _ h_ => h_.1))) (Kd.R_base ho0) hb); have n3_ := Aside0.mk (Kd.R_lower (Kd.R_new' (Kd.R_new' (Kd.R_new' ho0 (Kd.R_lt (by (with_reducible repeat (first | apply Kd.R_alloc | apply Kd.R_drewN | apply Kd.R_drew)); exact (Kd.R_mono (Kd.R_far (p := ⟨gb413, 0, none⟩) (Kd.R_types HO402.out BK413.out (by decide)) (fun _ hk => hk.2) (.slice Ao45 t409.length co45)) (fun _ h_ => h_.1))))) (Kd.R_lt (by (with_reducible repeat (first | apply Kd.R_alloc | apply Kd.R_drewN | apply Kd.R_drew)); exact (Kd.R_mono (Kd.R_far (p := ⟨gb413, 0, none⟩) (Kd.R_types HO406.out BK413.out (by decide)) (fun _ hk => hk.2) (.slice Ao45 t409.length co45)) (fun _ h_ => h_.1))))) (Kd.R_lt (by (with_reducible repeat (first | apply Kd.R_alloc | apply Kd.R_drewN | apply Kd.R_drew)); exact (Kd.R_mono (Kd.R_far (p := ⟨gb413, 0, none⟩) (Kd.R_types HO411.out BK413.out (by decide)) (fun _ hk => hk.2) (.slice Ao45 t409.length co45)) (fun _ h_ => h_.1))))) (below_size (zb HB.out))); have n4_ := Aside0.mk (blk_below (g := gb407) (o := .cells #[.slice Ao38 t400.length co38] 28 (0, 0)) (zf BK407.out) hb); have n5_ := Aside0.mk (blk_below (g := gb408) (o := .cells #[.slice Ao41 t404.length co41] 28 (0, 0)) (zf BK408.out) hb); have n6_ := Aside0.mk (blk_below (g := gb413) (o := .cells #[.slice Ao45 t409.length co45] 28 (0, 0)) (by (with_reducible repeat (first | refine blk_drewN ?_ _ | refine blk_drew ?_ | refine blk_alloc ?_ _)); refine blk_put (cs := #[.slice none 0 0]) ?_ 0 _ rfl; (with_reducible repeat (first | refine blk_drewN ?_ _ | refine blk_drew ?_ | refine blk_alloc ?_ _)); exact BK413.out) hb); have n7_ := Aside0.mk (below_step (zb HB.out) hb); clear HO402 HO406 HO411 BK407 BK408 BK413 HB; have HO402 := n0_; have HO406 := n1_; have HO411 := n2_; have HO416 := n3_; have BK407 := n4_; have BK408 := n5_; have BK413 := n6_; have HB := n7_; clear n0_ n1_ n2_ n3_ n4_ n5_ n6_ n7_; (try clear hb); (try clear hb2); (try clear hk); (try clear hi); (try clear ho0)) | ((with_reducible refine gate_dst (N := 8) rfl ?_); (try (refine gate_guard (by rfl) ?_; dsimp only)); refine box_event ?hg (N := 8) ?hd (cs := #[.slice none 0 0]) (t := 28) ?hr ?_; (case hd => rfl); (case hg => rfl); (case hr => first | (go_simp; done) | (go_simp; rfl)); intro gb418 hg w52 hbox hb; have n0_ := Aside0.mk (Kd.R_below (zr HO402.out) hb); have n1_ := Aside0.mk (Kd.R_below (zr HO406.out) hb); have n2_ := Aside0.mk (Kd.R_below (zr HO411.out) hb); have n3_ := Aside0.mk (Kd.R_below (zr HO416.out) hb); have n4_ := Aside0.mk (blk_below (zh BK407.out) hb); have n5_ := Aside0.mk (blk_below (zh BK408.out) hb); have n6_ := Aside0.mk (blk_below (zh BK413.out) hb); have n7_ := Aside0.mk (below_step (zb HB.out) hb); have n8_ := Aside0.mk (hbox); have n9_ := Aside0.mk ((by rw [hg]; exact (below_size (zb HB.out)) : w.heap.size ≤ gb418)); have n10_ := Aside0.mk ((by rw [hg]; exact (below_size (zb HB.out)) : w.heap.size ≤ gb418)); have n11_ := Aside0.mk ((by rw [hg]; exact Nat.ne_of_lt (blk_lt (zh BK407.out)) : gb407 ≠ gb418)); have n12_ := Aside0.mk ((by rw [hg]; exact Nat.ne_of_gt (blk_lt (zh BK407.out)) : gb418 ≠ gb407)); have n13_ := Aside0.mk ((by rw [hg]; exact Nat.ne_of_lt (blk_lt (zh BK408.out)) : gb408 ≠ gb418)); have n14_ := Aside0.mk ((by rw [hg]; exact Nat.ne_of_gt (blk_lt (zh BK408.out)) : gb418 ≠ gb408)); have n15_ := Aside0.mk ((by rw [hg]; exact Nat.ne_of_lt (blk_lt (zh BK413.out)) : gb413 ≠ gb418)); have n16_ := Aside0.mk ((by rw [hg]; exact Nat.ne_of_gt (blk_lt (zh BK413.out)) : gb418 ≠ gb413)); clear HO402 HO406 HO411 HO416 BK407 BK408 BK413 HB; have HO402 := n0_; have HO406 := n1_; have HO411 := n2_; have HO416 := n3_; have BK407 := n4_; have BK408 := n5_; have BK413 := n6_; have HB := n7_; have BK418 := n8_; have GW418 := n9_; have GE418 := n10_; have NB407_418 := n11_; have NB418_407 := n12_; have NB408_418 := n13_; have NB418_408 := n14_; have NB413_418 := n15_; have NB418_413 := n16_; clear n0_ n1_ n2_ n3_ n4_ n5_ n6_ n7_ n8_ n9_ n10_ n11_ n12_ n13_ n14_ n15_ n16_ hb hbox hg; obtain ⟨Ao53, co53, eo53⟩ := Kd.R_slice HO416.out; subst eo53; have hnb54 := NB418_407.out; have hnc54 := NB407_418.out; have hnb55 := NB418_408.out; have hnc55 := NB408_418.out; have hnb56 := NB418_413.out; have hnc56 := NB413_418.out; have hcz57_0 : w52.cell? ⟨gb418, 0, none⟩ = some (.slice none 0 0) := (blk_cell BK418.out 0).trans rfl; have hfz57_0 := blk_frozen BK418.out 0; have hcz58_0 : w52.cell? ⟨gb413, 0, none⟩ = some (.slice Ao45 t409.length co45) := (blk_cell BK413.out 0).trans rfl; have hfz58_0 := blk_frozen BK413.out 0; have hcz59_0 : w52.cell? ⟨gb408, 0, none⟩ = some (.slice Ao41 t404.length co41) := (blk_cell BK408.out 0).trans rfl; have hfz59_0 := blk_frozen BK408.out 0))
   go_ret
   exact ⟨ze, zb HB.out⟩
  rw [if_pos c9] at H
  have c9b0 : ((t409.length : Int) == (t404.length : Int)) = true := beq_iff_eq.mpr c9
  have c9b1 : ((t409.length : Int) != (t404.length : Int)) = false := bne_eq_false_iff_eq.mpr c9
  have c9b2 : (t409.length == t404.length) = true := by first | simpa using c9 | (simp at c9 ⊢; omega)
  clear c9
  obtain rfl := Option.some.inj H
  go_enter Try.func6, Try.ntmps6
  go_wp2_with (first | ((with_reducible refine gate_callee (f := 16) rfl ?_); refine goesL_ (some 13) rfl rfl Try.func16 (by kernel_rfl) rfl #[.slice A0 l0.length c0] rfl zl ?_; (with_reducible refine (laws_big.calls _ _ l0 false _ ?side1 ?side2 A2.out).mono ?_); (case side1 => exact zc HR0.out); (case side2 => exact HC0.out); rintro e w' ⟨rfl, ⟨nd, rfl⟩⟩; refine ⟨_, rfl, ?_⟩) | ((with_reducible refine gate_callee (f := 19) rfl ?_); refine goesL_ (some 16) rfl rfl Try.func19 (by kernel_rfl) rfl #[.slice A0 l0.length c0] rfl zl ?_; (with_reducible refine (spec_DrawTermMove.calls k _ _ l0 t400 t403 t404 _ ?side1 ?side2 A4.out).mono ?_); (case side1 => exact zc HR0.out); (case side2 => exact HC0.out); rintro e w10 ⟨v401, v405, rfl, ho0, ho1, hb⟩; refine ⟨_, rfl, ?_⟩; have n0_ := Aside0.mk (Kd.R_lower ho0 (below_size (zb HB.out))); have n1_ := Aside0.mk (Kd.R_lower ho1 (below_size (zb HB.out))); have n2_ := Aside0.mk (below_step (zb HB.out) hb); clear HB; have HO402 := n0_; have HO406 := n1_; have HB := n2_; clear n0_ n1_ n2_; (try clear hb); (try clear hb2); (try clear hk); (try clear hi); (try clear ho0); (try clear ho1)) | ((with_reducible refine gate_dst (N := 3) rfl ?_); (try (refine gate_guard (by rfl) ?_; dsimp only)); refine box_event ?hg (N := 3) ?hd (cs := #[.slice none 0 0]) (t := 28) ?hr ?_; (case hd => rfl); (case hg => rfl); (case hr => first | (go_simp; done) | (go_simp; rfl)); intro gb407 hg w11 hbox hb; have n0_ := Aside0.mk (Kd.R_below (zr HO402.out) hb); have n1_ := Aside0.mk (Kd.R_below (zr HO406.out) hb); have n2_ := Aside0.mk (below_step (zb HB.out) hb); have n3_ := Aside0.mk (hbox); have n4_ := Aside0.mk ((by rw [hg]; exact (below_size (zb HB.out)) : w.heap.size ≤ gb407)); have n5_ := Aside0.mk ((by rw [hg]; exact (below_size (zb HB.out)) : w.heap.size ≤ gb407)); clear HO402 HO406 HB; have HO402 := n0_; have HO406 := n1_; have HB := n2_; have BK407 := n3_; have GW407 := n4_; have GE407 := n5_; clear n0_ n1_ n2_ n3_ n4_ n5_ hb hbox hg) | ((with_reducible refine gate_dst (N := 5) rfl ?_); (try (refine gate_guard (by rfl) ?_; dsimp only)); refine box_event ?hg (N := 5) ?hd (cs := #[.slice none 0 0]) (t := 28) ?hr ?_; (case hd => rfl); (case hg => rfl); (case hr => first | (go_simp; done) | (go_simp; rfl)); intro gb408 hg w12 hbox hb; have n0_ := Aside0.mk (Kd.R_below (zr HO402.out) hb); have n1_ := Aside0.mk (Kd.R_below (zr HO406.out) hb); have n2_ := Aside0.mk (blk_below (zh BK407.out) hb); have n3_ := Aside0.mk (below_step (zb HB.out) hb); have n4_ := Aside0.mk (hbox); have n5_ := Aside0.mk ((by rw [hg]; exact (below_size (zb HB.out)) : w.heap.size ≤ gb408)); have n6_ := Aside0.mk ((by rw [hg]; exact (below_size (zb HB.out)) : w.heap.size ≤ gb408)); have n7_ := Aside0.mk ((by rw [hg]; exact Nat.ne_of_lt (blk_lt (zh BK407.out)) : gb407 ≠ gb408)); have n8_ := Aside0.mk ((by rw [hg]; exact Nat.ne_of_gt (blk_lt (zh BK407.out)) : gb408 ≠ gb407)); clear HO402 HO406 BK407 HB; have HO402 := n0_; have HO406 := n1_; have BK407 := n2_; have HB := n3_; have BK408 := n4_; have GW408 := n5_; have GE408 := n6_; have NB407_408 := n7_; have NB408_407 := n8_; clear n0_ n1_ n2_ n3_ n4_ n5_ n6_ n7_ n8_ hb hbox hg; obtain ⟨Ao13, co13, eo13⟩ := Kd.R_slice HO402.out; subst eo13; have hnb14 := NB407_408.out; have hnc14 := NB408_407.out; have hcz15_0 : w12.cell? ⟨gb407, 0, none⟩ = some (.slice none 0 0) := (blk_cell BK407.out 0).trans rfl; have hfz15_0 := blk_frozen BK407.out 0; obtain ⟨Ao16, co16, eo16⟩ := Kd.R_slice HO406.out; subst eo16; have hcz17_0 : w12.cell? ⟨gb408, 0, none⟩ = some (.slice none 0 0) := (blk_cell BK408.out 0).trans rfl; have hfz17_0 := blk_frozen BK408.out 0) | ((with_reducible refine gate_callee (f := 15) rfl ?_); refine goesL_ (some 24) rfl rfl Try.func15 (by kernel_rfl) rfl #[.agg #[.slice Ao13 t400.length co13], .int .i64 t403, .agg #[.slice Ao16 t404.length co16]] rfl zl ?_; (with_reducible refine (impl_TermMove.calls k _ _ t400 t403 _ _ t404 t409 t412 _ ?side1 ?side2 ?side3 ?side4 A5.out).mono ?_); (case side1 => refine (Kd.R_reads' (e := 55) (base := w.heap.size) (ok := fun k_ => some k_ ≠ (.slice Ao16 t404.length co16 : Value).ownBlock) (n := t400.length) (c := co13) ?_).2.2; exact (by (with_reducible repeat (first | apply Kd.R_alloc | apply Kd.R_drewN | apply Kd.R_drew)); exact (Kd.R_mono (Kd.R_mono (Kd.R_far (p := ⟨gb408, 0, none⟩) (Kd.R_far (p := ⟨gb407, 0, none⟩) (Kd.R_types (Kd.R_types HO402.out BK407.out (by decide)) BK408.out (by decide)) (fun _ hk => hk.1.2) (.slice Ao13 t400.length co13)) (fun _ hk => hk.2) (.slice Ao16 t404.length co16)) (fun _ h_ => h_.1)) (fun _ h_ => h_.1)))); (case side2 => exact (Kd.R_reads' HO402.out).2.1); (case side3 => refine (Kd.R_reads' (e := 55) (base := w.heap.size) (ok := fun k_ => some k_ ≠ (.slice Ao13 t400.length co13 : Value).ownBlock) (n := t404.length) (c := co16) ?_).2.2; exact (by (with_reducible repeat (first | apply Kd.R_alloc | apply Kd.R_drewN | apply Kd.R_drew)); exact (Kd.R_mono (Kd.R_mono (Kd.R_far (p := ⟨gb408, 0, none⟩) (Kd.R_far (p := ⟨gb407, 0, none⟩) (Kd.R_types (Kd.R_types HO406.out BK407.out (by decide)) BK408.out (by decide)) (fun _ hk => hk.1.2) (.slice Ao13 t400.length co13)) (fun _ hk => hk.2) (.slice Ao16 t404.length co16)) (fun _ h_ => h_.1)) (fun _ h_ => h_.1)))); (case side4 => exact (Kd.R_reads' HO406.out).2.1); rintro e w18 ⟨v410, rfl, ho0, hb⟩; refine ⟨_, rfl, ?_⟩; have n0_ := Aside0.mk (Kd.R_elder' (by (with_reducible repeat (first | apply Kd.R_alloc | apply Kd.R_drewN | apply Kd.R_drew)); exact (Kd.R_mono (Kd.R_mono (Kd.R_far (p := ⟨gb408, 0, none⟩) (Kd.R_far (p := ⟨gb407, 0, none⟩) (Kd.R_types (Kd.R_types HO402.out BK407.out (by decide)) BK408.out (by decide)) (fun _ hk => hk.1.2) (.slice Ao13 t400.length co13)) (fun _ hk => hk.2) (.slice Ao16 t404.length co16)) (fun _ h_ => h_.1)) (fun _ h_ => h_.1))) (Kd.R_base ho0) hb); have n1_ := Aside0.mk (Kd.R_elder' (by (with_reducible repeat (first | apply Kd.R_alloc | apply Kd.R_drewN | apply Kd.R_drew)); exact (Kd.R_mono (Kd.R_mono (Kd.R_far (p := ⟨gb408, 0, none⟩) (Kd.R_far (p := ⟨gb407, 0, none⟩) (Kd.R_types (Kd.R_types HO406.out BK407.out (by decide)) BK408.out (by decide)) (fun _ hk => hk.1.2) (.slice Ao13 t400.length co13)) (fun _ hk => hk.2) (.slice Ao16 t404.length co16)) (fun _ h_ => h_.1)) (fun _ h_ => h_.1))) (Kd.R_base ho0) hb); have n2_ := Aside0.mk (Kd.R_lower (Kd.R_new' (Kd.R_new' ho0 (Kd.R_lt (by (with_reducible repeat (first | apply Kd.R_alloc | apply Kd.R_drewN | apply Kd.R_drew)); exact (Kd.R_mono (Kd.R_mono (Kd.R_far (p := ⟨gb408, 0, none⟩) (Kd.R_far (p := ⟨gb407, 0, none⟩) (Kd.R_types (Kd.R_types HO402.out BK407.out (by decide)) BK408.out (by decide)) (fun _ hk => hk.1.2) (.slice Ao13 t400.length co13)) (fun _ hk => hk.2) (.slice Ao16 t404.length co16)) (fun _ h_ => h_.1)) (fun _ h_ => h_.1))))) (Kd.R_lt (by (with_reducible repeat (first | apply Kd.R_alloc | apply Kd.R_drewN | apply Kd.R_drew)); exact (Kd.R_mono (Kd.R_mono (Kd.R_far (p := ⟨gb408, 0, none⟩) (Kd.R_far (p := ⟨gb407, 0, none⟩) (Kd.R_types (Kd.R_types HO406.out BK407.out (by decide)) BK408.out (by decide)) (fun _ hk => hk.1.2) (.slice Ao13 t400.length co13)) (fun _ hk => hk.2) (.slice Ao16 t404.length co16)) (fun _ h_ => h_.1)) (fun _ h_ => h_.1))))) (below_size (zb HB.out))); have n3_ := Aside0.mk (blk_below (g := gb407) (o := .cells #[.slice Ao13 t400.length co13] 28 (0, 0)) (by (with_reducible repeat (first | refine blk_drewN ?_ _ | refine blk_drew ?_ | refine blk_alloc ?_ _)); refine blk_far ?_ NB407_408.out _; (with_reducible repeat (first | refine blk_drewN ?_ _ | refine blk_drew ?_ | refine blk_alloc ?_ _)); refine blk_put (cs := #[.slice none 0 0]) ?_ 0 _ rfl; (with_reducible repeat (first | refine blk_drewN ?_ _ | refine blk_drew ?_ | refine blk_alloc ?_ _)); exact BK407.out) hb); have n4_ := Aside0.mk (blk_below (g := gb408) (o := .cells #[.slice Ao16 t404.length co16] 28 (0, 0)) (by (with_reducible repeat (first | refine blk_drewN ?_ _ | refine blk_drew ?_ | refine blk_alloc ?_ _)); refine blk_put (cs := #[.slice none 0 0]) ?_ 0 _ rfl; (with_reducible repeat (first | refine blk_drewN ?_ _ | refine blk_drew ?_ | refine blk_alloc ?_ _)); refine blk_far ?_ NB408_407.out _; (with_reducible repeat (first | refine blk_drewN ?_ _ | refine blk_drew ?_ | refine blk_alloc ?_ _)); exact BK408.out) hb); have n5_ := Aside0.mk (below_step (zb HB.out) hb); clear HO402 HO406 BK407 BK408 HB; have HO402 := n0_; have HO406 := n1_; have HO411 := n2_; have BK407 := n3_; have BK408 := n4_; have HB := n5_; clear n0_ n1_ n2_ n3_ n4_ n5_; (try clear hb); (try clear hb2); (try clear hk); (try clear hi); (try clear ho0)) | ((with_reducible refine gate_dst (N := 6) rfl ?_); (try (refine gate_guard (by rfl) ?_; dsimp only)); refine box_event ?hg (N := 6) ?hd (cs := #[.slice none 0 0]) (t := 28) ?hr ?_; (case hd => rfl); (case hg => rfl); (case hr => first | (go_simp; done) | (go_simp; rfl)); intro gb413 hg w19 hbox hb; have n0_ := Aside0.mk (Kd.R_below (zr HO402.out) hb); have n1_ := Aside0.mk (Kd.R_below (zr HO406.out) hb); have n2_ := Aside0.mk (Kd.R_below (zr HO411.out) hb); have n3_ := Aside0.mk (blk_below (zh BK407.out) hb); have n4_ := Aside0.mk (blk_below (zh BK408.out) hb); have n5_ := Aside0.mk (below_step (zb HB.out) hb); have n6_ := Aside0.mk (hbox); have n7_ := Aside0.mk ((by rw [hg]; exact (below_size (zb HB.out)) : w.heap.size ≤ gb413)); have n8_ := Aside0.mk ((by rw [hg]; exact (below_size (zb HB.out)) : w.heap.size ≤ gb413)); have n9_ := Aside0.mk ((by rw [hg]; exact Nat.ne_of_lt (blk_lt (zh BK407.out)) : gb407 ≠ gb413)); have n10_ := Aside0.mk ((by rw [hg]; exact Nat.ne_of_gt (blk_lt (zh BK407.out)) : gb413 ≠ gb407)); have n11_ := Aside0.mk ((by rw [hg]; exact Nat.ne_of_lt (blk_lt (zh BK408.out)) : gb408 ≠ gb413)); have n12_ := Aside0.mk ((by rw [hg]; exact Nat.ne_of_gt (blk_lt (zh BK408.out)) : gb413 ≠ gb408)); clear HO402 HO406 HO411 BK407 BK408 HB; have HO402 := n0_; have HO406 := n1_; have HO411 := n2_; have BK407 := n3_; have BK408 := n4_; have HB := n5_; have BK413 := n6_; have GW413 := n7_; have GE413 := n8_; have NB407_413 := n9_; have NB413_407 := n10_; have NB408_413 := n11_; have NB413_408 := n12_; clear n0_ n1_ n2_ n3_ n4_ n5_ n6_ n7_ n8_ n9_ n10_ n11_ n12_ hb hbox hg; obtain ⟨Ao20, co20, eo20⟩ := Kd.R_slice HO411.out; subst eo20; have hnb21 := NB413_407.out; have hnc21 := NB407_413.out; have hnb22 := NB413_408.out; have hnc22 := NB408_413.out; have hcz23_0 : w19.cell? ⟨gb413, 0, none⟩ = some (.slice none 0 0) := (blk_cell BK413.out 0).trans rfl; have hfz23_0 := blk_frozen BK413.out 0; have hcz24_0 : w19.cell? ⟨gb407, 0, none⟩ = some (.slice Ao13 t400.length co13) := (blk_cell BK407.out 0).trans rfl; have hfz24_0 := blk_frozen BK407.out 0; have hcz25_0 : w19.cell? ⟨gb408, 0, none⟩ = some (.slice Ao16 t404.length co16) := (blk_cell BK408.out 0).trans rfl; have hfz25_0 := blk_frozen BK408.out 0) | ((with_reducible refine gate_callee (f := 14) rfl ?_); refine goesL_ (some 31) rfl rfl Try.func14 (by kernel_rfl) rfl #[.agg #[.slice Ao13 t400.length co13], .int .i64 t403, .agg #[.slice Ao16 t404.length co16]] rfl zl ?_; (with_reducible refine (spec_TermMove.calls k _ _ t400 t403 _ _ t404 t414 t417 _ ?side1 ?side2 ?side3 ?side4 A6.out).mono ?_); (case side1 => refine (Kd.R_reads' (e := 55) (base := w.heap.size) (ok := fun k_ => (some k_ ≠ (.slice Ao16 t404.length co16 : Value).ownBlock ∧ some k_ ≠ (.slice Ao20 t409.length co20 : Value).ownBlock)) (n := t400.length) (c := co13) ?_).2.2; exact (by (with_reducible repeat (first | apply Kd.R_alloc | apply Kd.R_drewN | apply Kd.R_drew)); exact (Kd.R_mono (Kd.R_far (p := ⟨gb413, 0, none⟩) (Kd.R_types HO402.out BK413.out (by decide)) (fun _ hk => hk.2) (.slice Ao20 t409.length co20)) (fun _ h_ => h_.1)))); (case side2 => exact (Kd.R_reads' HO402.out).2.1); (case side3 => refine (Kd.R_reads' (e := 55) (base := w.heap.size) (ok := fun k_ => (some k_ ≠ (.slice Ao13 t400.length co13 : Value).ownBlock ∧ some k_ ≠ (.slice Ao20 t409.length co20 : Value).ownBlock)) (n := t404.length) (c := co16) ?_).2.2; exact (by (with_reducible repeat (first | apply Kd.R_alloc | apply Kd.R_drewN | apply Kd.R_drew)); exact (Kd.R_mono (Kd.R_far (p := ⟨gb413, 0, none⟩) (Kd.R_types HO406.out BK413.out (by decide)) (fun _ hk => hk.2) (.slice Ao20 t409.length co20)) (fun _ h_ => h_.1)))); (case side4 => exact (Kd.R_reads' HO406.out).2.1); rintro e w26 ⟨v415, rfl, ho0, hb⟩; refine ⟨_, rfl, ?_⟩; have n0_ := Aside0.mk (Kd.R_elder' (by (with_reducible repeat (first | apply Kd.R_alloc | apply Kd.R_drewN | apply Kd.R_drew)); exact (Kd.R_mono (Kd.R_far (p := ⟨gb413, 0, none⟩) (Kd.R_types HO402.out BK413.out (by decide)) (fun _ hk => hk.2) (.slice Ao20 t409.length co20)) (fun _ h_ => h_.1))) (Kd.R_base ho0) hb); have n1_ := Aside0.mk (Kd.R_elder' (by (with_reducible repeat (first | apply Kd.R_alloc | apply Kd.R_drewN | apply Kd.R_drew)); exact (Kd.R_mono (Kd.R_far (p := ⟨gb413, 0, none⟩) (Kd.R_types HO406.out BK413.out (by decide)) (fun _ hk => hk.2) (.slice Ao20 t409.length co20)) (fun _ h_ => h_.1))) (Kd.R_base ho0) hb); have n2_ := Aside0.mk (Kd.R_elder' (by (with_reducible repeat (first | apply Kd.R_alloc | apply Kd.R_drewN | apply Kd.R_drew)); exact (Kd.R_mono (Kd.R_far (p := ⟨gb413, 0, none⟩) (Kd.R_types HO411.out BK413.out (by decide)) (fun _ hk => hk.2) (.slice Ao20 t409.length co20)) (fun _ h_ => h_.1))) (Kd.R_base ho0) hb); have n3_ := Aside0.mk (Kd.R_lower (Kd.R_new' (Kd.R_new' (Kd.R_new' ho0 (Kd.R_lt (by (with_reducible repeat (first | apply Kd.R_alloc | apply Kd.R_drewN | apply Kd.R_drew)); exact (Kd.R_mono (Kd.R_far (p := ⟨gb413, 0, none⟩) (Kd.R_types HO402.out BK413.out (by decide)) (fun _ hk => hk.2) (.slice Ao20 t409.length co20)) (fun _ h_ => h_.1))))) (Kd.R_lt (by (with_reducible repeat (first | apply Kd.R_alloc | apply Kd.R_drewN | apply Kd.R_drew)); exact (Kd.R_mono (Kd.R_far (p := ⟨gb413, 0, none⟩) (Kd.R_types HO406.out BK413.out (by decide)) (fun _ hk => hk.2) (.slice Ao20 t409.length co20)) (fun _ h_ => h_.1))))) (Kd.R_lt (by (with_reducible repeat (first | apply Kd.R_alloc | apply Kd.R_drewN | apply Kd.R_drew)); exact (Kd.R_mono (Kd.R_far (p := ⟨gb413, 0, none⟩) (Kd.R_types HO411.out BK413.out (by decide)) (fun _ hk => hk.2) (.slice Ao20 t409.length co20)) (fun _ h_ => h_.1))))) (below_size (zb HB.out))); have n4_ := Aside0.mk (blk_below (g := gb407) (o := .cells #[.slice Ao13 t400.length co13] 28 (0, 0)) (zf BK407.out) hb); have n5_ := Aside0.mk (blk_below (g := gb408) (o := .cells #[.slice Ao16 t404.length co16] 28 (0, 0)) (zf BK408.out) hb); have n6_ := Aside0.mk (blk_below (g := gb413) (o := .cells #[.slice Ao20 t409.length co20] 28 (0, 0)) (by (with_reducible repeat (first | refine blk_drewN ?_ _ | refine blk_drew ?_ | refine blk_alloc ?_ _)); refine blk_put (cs := #[.slice none 0 0]) ?_ 0 _ rfl; (with_reducible repeat (first | refine blk_drewN ?_ _ | refine blk_drew ?_ | refine blk_alloc ?_ _)); exact BK413.out) hb); have n7_ := Aside0.mk (below_step (zb HB.out) hb); clear HO402 HO406 HO411 BK407 BK408 BK413 HB; have HO402 := n0_; have HO406 := n1_; have HO411 := n2_; have HO416 := n3_; have BK407 := n4_; have BK408 := n5_; have BK413 := n6_; have HB := n7_; clear n0_ n1_ n2_ n3_ n4_ n5_ n6_ n7_; (try clear hb); (try clear hb2); (try clear hk); (try clear hi); (try clear ho0)) | ((with_reducible refine gate_dst (N := 8) rfl ?_); (try (refine gate_guard (by rfl) ?_; dsimp only)); refine box_event ?hg (N := 8) ?hd (cs := #[.slice none 0 0]) (t := 28) ?hr ?_; (case hd => rfl); (case hg => rfl); (case hr => first | (go_simp; done) | (go_simp; rfl)); intro gb418 hg w27 hbox hb; have n0_ := Aside0.mk (Kd.R_below (zr HO402.out) hb); have n1_ := Aside0.mk (Kd.R_below (zr HO406.out) hb); have n2_ := Aside0.mk (Kd.R_below (zr HO411.out) hb); have n3_ := Aside0.mk (Kd.R_below (zr HO416.out) hb); have n4_ := Aside0.mk (blk_below (zh BK407.out) hb); have n5_ := Aside0.mk (blk_below (zh BK408.out) hb); have n6_ := Aside0.mk (blk_below (zh BK413.out) hb); have n7_ := Aside0.mk (below_step (zb HB.out) hb); have n8_ := Aside0.mk (hbox); have n9_ := Aside0.mk ((by rw [hg]; exact (below_size (zb HB.out)) : w.heap.size ≤ gb418)); have n10_ := Aside0.mk ((by rw [hg]; exact (below_size (zb HB.out)) : w.heap.size ≤ gb418)); have n11_ := Aside0.mk ((by rw [hg]; exact Nat.ne_of_lt (blk_lt (zh BK407.out)) : gb407 ≠ gb418)); have n12_ := Aside0.mk ((by rw [hg]; exact Nat.ne_of_gt (blk_lt (zh BK407.out)) : gb418 ≠ gb407)); have n13_ := Aside0.mk ((by rw [hg]; exact Nat.ne_of_lt (blk_lt (zh BK408.out)) : gb408 ≠ gb418)); have n14_ := Aside0.mk ((by rw [hg]; exact Nat.ne_of_gt (blk_lt (zh BK408.out)) : gb418 ≠ gb408)); have n15_ := Aside0.mk ((by rw [hg]; exact Nat.ne_of_lt (blk_lt (zh BK413.out)) : gb413 ≠ gb418)); have n16_ := Aside0.mk ((by rw [hg]; exact Nat.ne_of_gt (blk_lt (zh BK413.out)) : gb418 ≠ gb413)); clear HO402 HO406 HO411 HO416 BK407 BK408 BK413 HB; have HO402 := n0_; have HO406 := n1_; have HO411 := n2_; have HO416 := n3_; have BK407 := n4_; have BK408 := n5_; have BK413 := n6_; have HB := n7_; have BK418 := n8_; have GW418 := n9_; have GE418 := n10_; have NB407_418 := n11_; have NB418_407 := n12_; have NB408_418 := n13_; have NB418_408 := n14_; have NB413_418 := n15_; have NB418_413 := n16_; clear n0_ n1_ n2_ n3_ n4_ n5_ n6_ n7_ n8_ n9_ n10_ n11_ n12_ n13_ n14_ n15_ n16_ hb hbox hg; obtain ⟨Ao28, co28, eo28⟩ := Kd.R_slice HO416.out; subst eo28; have hnb29 := NB418_407.out; have hnc29 := NB407_418.out; have hnb30 := NB418_408.out; have hnc30 := NB408_418.out; have hnb31 := NB418_413.out; have hnc31 := NB413_418.out; have hcz32_0 : w27.cell? ⟨gb418, 0, none⟩ = some (.slice none 0 0) := (blk_cell BK418.out 0).trans rfl; have hfz32_0 := blk_frozen BK418.out 0; have hcz33_0 : w27.cell? ⟨gb413, 0, none⟩ = some (.slice Ao20 t409.length co20) := (blk_cell BK413.out 0).trans rfl; have hfz33_0 := blk_frozen BK413.out 0; have hcz34_0 : w27.cell? ⟨gb408, 0, none⟩ = some (.slice Ao16 t404.length co16) := (blk_cell BK408.out 0).trans rfl; have hfz34_0 := blk_frozen BK408.out 0))
  go_ret
  exact ⟨ze, zb HB.out⟩
 rw [if_neg c8] at H
 have c8b0 : decide (t412 < 0) = false := decide_eq_false c8
 clear c8
 replace H := Option.bind_eq_some_iff.mp H
 obtain ⟨⟨t419, t422⟩, A600, H⟩ := H
 replace H : ((impl_TermSize.f k t409 t412).bind fun t424 => ((impl_TermSize.f k t400 t403).bind fun t425 => (if t424 = t425 then ((impl_TermDeep.f k t409 t412).bind fun t426 => ((impl_TermDeep.f k t400 t403).bind fun t427 => (if t426 = t427 then ((impl_TermNames.f k t409 t412).bind fun t428 => ((impl_TermNames.f k t400 t403).bind fun t431 => ((laws_sameInts.f k t428 t431).bind fun t434 => (if t434 = true then (if t422 = t403 then (some ((t419.length : Int) == (t400.length : Int))) else (some false)) else (some false))))) else (some false)))) else (some false)))) = some r := H
 have A60 := Aside0.mk A600
 clear A600
 replace H := Option.bind_eq_some_iff.mp H
 obtain ⟨t424, A610, H⟩ := H
 replace H : ((impl_TermSize.f k t400 t403).bind fun t425 => (if t424 = t425 then ((impl_TermDeep.f k t409 t412).bind fun t426 => ((impl_TermDeep.f k t400 t403).bind fun t427 => (if t426 = t427 then ((impl_TermNames.f k t409 t412).bind fun t428 => ((impl_TermNames.f k t400 t403).bind fun t431 => ((laws_sameInts.f k t428 t431).bind fun t434 => (if t434 = true then (if t422 = t403 then (some ((t419.length : Int) == (t400.length : Int))) else (some false)) else (some false))))) else (some false)))) else (some false))) = some r := H
 have A61 := Aside0.mk A610
 clear A610
 replace H := Option.bind_eq_some_iff.mp H
 obtain ⟨t425, A620, H⟩ := H
 replace H : (if t424 = t425 then ((impl_TermDeep.f k t409 t412).bind fun t426 => ((impl_TermDeep.f k t400 t403).bind fun t427 => (if t426 = t427 then ((impl_TermNames.f k t409 t412).bind fun t428 => ((impl_TermNames.f k t400 t403).bind fun t431 => ((laws_sameInts.f k t428 t431).bind fun t434 => (if t434 = true then (if t422 = t403 then (some ((t419.length : Int) == (t400.length : Int))) else (some false)) else (some false))))) else (some false)))) else (some false)) = some r := H
 have A62 := Aside0.mk A620
 clear A620
 have HCh1_ := Aside0.mk H
 clear H
 go_enter Try.func6, Try.ntmps6
 try go_wp2_with (first | ((with_reducible refine gate_callee (f := 16) rfl ?_); refine goesL_ (some 13) rfl rfl Try.func16 (by kernel_rfl) rfl #[.slice A0 l0.length c0] rfl zl ?_; (with_reducible refine (laws_big.calls _ _ l0 false _ ?side1 ?side2 A2.out).mono ?_); (case side1 => exact zc HR0.out); (case side2 => exact HC0.out); rintro e w' ⟨rfl, ⟨nd, rfl⟩⟩; refine ⟨_, rfl, ?_⟩) | ((with_reducible refine gate_callee (f := 19) rfl ?_); refine goesL_ (some 16) rfl rfl Try.func19 (by kernel_rfl) rfl #[.slice A0 l0.length c0] rfl zl ?_; (with_reducible refine (spec_DrawTermMove.calls k _ _ l0 t400 t403 t404 _ ?side1 ?side2 A4.out).mono ?_); (case side1 => exact zc HR0.out); (case side2 => exact HC0.out); rintro e w72 ⟨v401, v405, rfl, ho0, ho1, hb⟩; refine ⟨_, rfl, ?_⟩; have n0_ := Aside0.mk (Kd.R_lower ho0 (below_size (zb HB.out))); have n1_ := Aside0.mk (Kd.R_lower ho1 (below_size (zb HB.out))); have n2_ := Aside0.mk (below_step (zb HB.out) hb); clear HB; have HO402 := n0_; have HO406 := n1_; have HB := n2_; clear n0_ n1_ n2_; (try clear hb); (try clear hb2); (try clear hk); (try clear hi); (try clear ho0); (try clear ho1)) | ((with_reducible refine gate_dst (N := 3) rfl ?_); (try (refine gate_guard (by rfl) ?_; dsimp only)); refine box_event ?hg (N := 3) ?hd (cs := #[.slice none 0 0]) (t := 28) ?hr ?_; (case hd => rfl); (case hg => rfl); (case hr => first | (go_simp; done) | (go_simp; rfl)); intro gb407 hg w73 hbox hb; have n0_ := Aside0.mk (Kd.R_below (zr HO402.out) hb); have n1_ := Aside0.mk (Kd.R_below (zr HO406.out) hb); have n2_ := Aside0.mk (below_step (zb HB.out) hb); have n3_ := Aside0.mk (hbox); have n4_ := Aside0.mk ((by rw [hg]; exact (below_size (zb HB.out)) : w.heap.size ≤ gb407)); have n5_ := Aside0.mk ((by rw [hg]; exact (below_size (zb HB.out)) : w.heap.size ≤ gb407)); clear HO402 HO406 HB; have HO402 := n0_; have HO406 := n1_; have HB := n2_; have BK407 := n3_; have GW407 := n4_; have GE407 := n5_; clear n0_ n1_ n2_ n3_ n4_ n5_ hb hbox hg) | ((with_reducible refine gate_dst (N := 5) rfl ?_); (try (refine gate_guard (by rfl) ?_; dsimp only)); refine box_event ?hg (N := 5) ?hd (cs := #[.slice none 0 0]) (t := 28) ?hr ?_; (case hd => rfl); (case hg => rfl); (case hr => first | (go_simp; done) | (go_simp; rfl)); intro gb408 hg w74 hbox hb; have n0_ := Aside0.mk (Kd.R_below (zr HO402.out) hb); have n1_ := Aside0.mk (Kd.R_below (zr HO406.out) hb); have n2_ := Aside0.mk (blk_below (zh BK407.out) hb); have n3_ := Aside0.mk (below_step (zb HB.out) hb); have n4_ := Aside0.mk (hbox); have n5_ := Aside0.mk ((by rw [hg]; exact (below_size (zb HB.out)) : w.heap.size ≤ gb408)); have n6_ := Aside0.mk ((by rw [hg]; exact (below_size (zb HB.out)) : w.heap.size ≤ gb408)); have n7_ := Aside0.mk ((by rw [hg]; exact Nat.ne_of_lt (blk_lt (zh BK407.out)) : gb407 ≠ gb408)); have n8_ := Aside0.mk ((by rw [hg]; exact Nat.ne_of_gt (blk_lt (zh BK407.out)) : gb408 ≠ gb407)); clear HO402 HO406 BK407 HB; have HO402 := n0_; have HO406 := n1_; have BK407 := n2_; have HB := n3_; have BK408 := n4_; have GW408 := n5_; have GE408 := n6_; have NB407_408 := n7_; have NB408_407 := n8_; clear n0_ n1_ n2_ n3_ n4_ n5_ n6_ n7_ n8_ hb hbox hg; obtain ⟨Ao75, co75, eo75⟩ := Kd.R_slice HO402.out; subst eo75; have hnb76 := NB407_408.out; have hnc76 := NB408_407.out; have hcz77_0 : w74.cell? ⟨gb407, 0, none⟩ = some (.slice none 0 0) := (blk_cell BK407.out 0).trans rfl; have hfz77_0 := blk_frozen BK407.out 0; obtain ⟨Ao78, co78, eo78⟩ := Kd.R_slice HO406.out; subst eo78; have hcz79_0 : w74.cell? ⟨gb408, 0, none⟩ = some (.slice none 0 0) := (blk_cell BK408.out 0).trans rfl; have hfz79_0 := blk_frozen BK408.out 0) | ((with_reducible refine gate_callee (f := 15) rfl ?_); refine goesL_ (some 24) rfl rfl Try.func15 (by kernel_rfl) rfl #[.agg #[.slice Ao75 t400.length co75], .int .i64 t403, .agg #[.slice Ao78 t404.length co78]] rfl zl ?_; (with_reducible refine (impl_TermMove.calls k _ _ t400 t403 _ _ t404 t409 t412 _ ?side1 ?side2 ?side3 ?side4 A5.out).mono ?_); (case side1 => refine (Kd.R_reads' (e := 55) (base := w.heap.size) (ok := fun k_ => some k_ ≠ (.slice Ao78 t404.length co78 : Value).ownBlock) (n := t400.length) (c := co75) ?_).2.2; exact (by (with_reducible repeat (first | apply Kd.R_alloc | apply Kd.R_drewN | apply Kd.R_drew)); exact (Kd.R_mono (Kd.R_mono (Kd.R_far (p := ⟨gb408, 0, none⟩) (Kd.R_far (p := ⟨gb407, 0, none⟩) (Kd.R_types (Kd.R_types HO402.out BK407.out (by decide)) BK408.out (by decide)) (fun _ hk => hk.1.2) (.slice Ao75 t400.length co75)) (fun _ hk => hk.2) (.slice Ao78 t404.length co78)) (fun _ h_ => h_.1)) (fun _ h_ => h_.1)))); (case side2 => exact (Kd.R_reads' HO402.out).2.1); (case side3 => refine (Kd.R_reads' (e := 55) (base := w.heap.size) (ok := fun k_ => some k_ ≠ (.slice Ao75 t400.length co75 : Value).ownBlock) (n := t404.length) (c := co78) ?_).2.2; exact (by (with_reducible repeat (first | apply Kd.R_alloc | apply Kd.R_drewN | apply Kd.R_drew)); exact (Kd.R_mono (Kd.R_mono (Kd.R_far (p := ⟨gb408, 0, none⟩) (Kd.R_far (p := ⟨gb407, 0, none⟩) (Kd.R_types (Kd.R_types HO406.out BK407.out (by decide)) BK408.out (by decide)) (fun _ hk => hk.1.2) (.slice Ao75 t400.length co75)) (fun _ hk => hk.2) (.slice Ao78 t404.length co78)) (fun _ h_ => h_.1)) (fun _ h_ => h_.1)))); (case side4 => exact (Kd.R_reads' HO406.out).2.1); rintro e w80 ⟨v410, rfl, ho0, hb⟩; refine ⟨_, rfl, ?_⟩; have n0_ := Aside0.mk (Kd.R_elder' (by (with_reducible repeat (first | apply Kd.R_alloc | apply Kd.R_drewN | apply Kd.R_drew)); exact (Kd.R_mono (Kd.R_mono (Kd.R_far (p := ⟨gb408, 0, none⟩) (Kd.R_far (p := ⟨gb407, 0, none⟩) (Kd.R_types (Kd.R_types HO402.out BK407.out (by decide)) BK408.out (by decide)) (fun _ hk => hk.1.2) (.slice Ao75 t400.length co75)) (fun _ hk => hk.2) (.slice Ao78 t404.length co78)) (fun _ h_ => h_.1)) (fun _ h_ => h_.1))) (Kd.R_base ho0) hb); have n1_ := Aside0.mk (Kd.R_elder' (by (with_reducible repeat (first | apply Kd.R_alloc | apply Kd.R_drewN | apply Kd.R_drew)); exact (Kd.R_mono (Kd.R_mono (Kd.R_far (p := ⟨gb408, 0, none⟩) (Kd.R_far (p := ⟨gb407, 0, none⟩) (Kd.R_types (Kd.R_types HO406.out BK407.out (by decide)) BK408.out (by decide)) (fun _ hk => hk.1.2) (.slice Ao75 t400.length co75)) (fun _ hk => hk.2) (.slice Ao78 t404.length co78)) (fun _ h_ => h_.1)) (fun _ h_ => h_.1))) (Kd.R_base ho0) hb); have n2_ := Aside0.mk (Kd.R_lower (Kd.R_new' (Kd.R_new' ho0 (Kd.R_lt (by (with_reducible repeat (first | apply Kd.R_alloc | apply Kd.R_drewN | apply Kd.R_drew)); exact (Kd.R_mono (Kd.R_mono (Kd.R_far (p := ⟨gb408, 0, none⟩) (Kd.R_far (p := ⟨gb407, 0, none⟩) (Kd.R_types (Kd.R_types HO402.out BK407.out (by decide)) BK408.out (by decide)) (fun _ hk => hk.1.2) (.slice Ao75 t400.length co75)) (fun _ hk => hk.2) (.slice Ao78 t404.length co78)) (fun _ h_ => h_.1)) (fun _ h_ => h_.1))))) (Kd.R_lt (by (with_reducible repeat (first | apply Kd.R_alloc | apply Kd.R_drewN | apply Kd.R_drew)); exact (Kd.R_mono (Kd.R_mono (Kd.R_far (p := ⟨gb408, 0, none⟩) (Kd.R_far (p := ⟨gb407, 0, none⟩) (Kd.R_types (Kd.R_types HO406.out BK407.out (by decide)) BK408.out (by decide)) (fun _ hk => hk.1.2) (.slice Ao75 t400.length co75)) (fun _ hk => hk.2) (.slice Ao78 t404.length co78)) (fun _ h_ => h_.1)) (fun _ h_ => h_.1))))) (below_size (zb HB.out))); have n3_ := Aside0.mk (blk_below (g := gb407) (o := .cells #[.slice Ao75 t400.length co75] 28 (0, 0)) (by (with_reducible repeat (first | refine blk_drewN ?_ _ | refine blk_drew ?_ | refine blk_alloc ?_ _)); refine blk_far ?_ NB407_408.out _; (with_reducible repeat (first | refine blk_drewN ?_ _ | refine blk_drew ?_ | refine blk_alloc ?_ _)); refine blk_put (cs := #[.slice none 0 0]) ?_ 0 _ rfl; (with_reducible repeat (first | refine blk_drewN ?_ _ | refine blk_drew ?_ | refine blk_alloc ?_ _)); exact BK407.out) hb); have n4_ := Aside0.mk (blk_below (g := gb408) (o := .cells #[.slice Ao78 t404.length co78] 28 (0, 0)) (by (with_reducible repeat (first | refine blk_drewN ?_ _ | refine blk_drew ?_ | refine blk_alloc ?_ _)); refine blk_put (cs := #[.slice none 0 0]) ?_ 0 _ rfl; (with_reducible repeat (first | refine blk_drewN ?_ _ | refine blk_drew ?_ | refine blk_alloc ?_ _)); refine blk_far ?_ NB408_407.out _; (with_reducible repeat (first | refine blk_drewN ?_ _ | refine blk_drew ?_ | refine blk_alloc ?_ _)); exact BK408.out) hb); have n5_ := Aside0.mk (below_step (zb HB.out) hb); clear HO402 HO406 BK407 BK408 HB; have HO402 := n0_; have HO406 := n1_; have HO411 := n2_; have BK407 := n3_; have BK408 := n4_; have HB := n5_; clear n0_ n1_ n2_ n3_ n4_ n5_; (try clear hb); (try clear hb2); (try clear hk); (try clear hi); (try clear ho0)) | ((with_reducible refine gate_dst (N := 6) rfl ?_); (try (refine gate_guard (by rfl) ?_; dsimp only)); refine box_event ?hg (N := 6) ?hd (cs := #[.slice none 0 0]) (t := 28) ?hr ?_; (case hd => rfl); (case hg => rfl); (case hr => first | (go_simp; done) | (go_simp; rfl)); intro gb413 hg w81 hbox hb; have n0_ := Aside0.mk (Kd.R_below (zr HO402.out) hb); have n1_ := Aside0.mk (Kd.R_below (zr HO406.out) hb); have n2_ := Aside0.mk (Kd.R_below (zr HO411.out) hb); have n3_ := Aside0.mk (blk_below (zh BK407.out) hb); have n4_ := Aside0.mk (blk_below (zh BK408.out) hb); have n5_ := Aside0.mk (below_step (zb HB.out) hb); have n6_ := Aside0.mk (hbox); have n7_ := Aside0.mk ((by rw [hg]; exact (below_size (zb HB.out)) : w.heap.size ≤ gb413)); have n8_ := Aside0.mk ((by rw [hg]; exact (below_size (zb HB.out)) : w.heap.size ≤ gb413)); have n9_ := Aside0.mk ((by rw [hg]; exact Nat.ne_of_lt (blk_lt (zh BK407.out)) : gb407 ≠ gb413)); have n10_ := Aside0.mk ((by rw [hg]; exact Nat.ne_of_gt (blk_lt (zh BK407.out)) : gb413 ≠ gb407)); have n11_ := Aside0.mk ((by rw [hg]; exact Nat.ne_of_lt (blk_lt (zh BK408.out)) : gb408 ≠ gb413)); have n12_ := Aside0.mk ((by rw [hg]; exact Nat.ne_of_gt (blk_lt (zh BK408.out)) : gb413 ≠ gb408)); clear HO402 HO406 HO411 BK407 BK408 HB; have HO402 := n0_; have HO406 := n1_; have HO411 := n2_; have BK407 := n3_; have BK408 := n4_; have HB := n5_; have BK413 := n6_; have GW413 := n7_; have GE413 := n8_; have NB407_413 := n9_; have NB413_407 := n10_; have NB408_413 := n11_; have NB413_408 := n12_; clear n0_ n1_ n2_ n3_ n4_ n5_ n6_ n7_ n8_ n9_ n10_ n11_ n12_ hb hbox hg; obtain ⟨Ao82, co82, eo82⟩ := Kd.R_slice HO411.out; subst eo82; have hnb83 := NB413_407.out; have hnc83 := NB407_413.out; have hnb84 := NB413_408.out; have hnc84 := NB408_413.out; have hcz85_0 : w81.cell? ⟨gb413, 0, none⟩ = some (.slice none 0 0) := (blk_cell BK413.out 0).trans rfl; have hfz85_0 := blk_frozen BK413.out 0; have hcz86_0 : w81.cell? ⟨gb407, 0, none⟩ = some (.slice Ao75 t400.length co75) := (blk_cell BK407.out 0).trans rfl; have hfz86_0 := blk_frozen BK407.out 0; have hcz87_0 : w81.cell? ⟨gb408, 0, none⟩ = some (.slice Ao78 t404.length co78) := (blk_cell BK408.out 0).trans rfl; have hfz87_0 := blk_frozen BK408.out 0) | ((with_reducible refine gate_callee (f := 14) rfl ?_); refine goesL_ (some 31) rfl rfl Try.func14 (by kernel_rfl) rfl #[.agg #[.slice Ao75 t400.length co75], .int .i64 t403, .agg #[.slice Ao78 t404.length co78]] rfl zl ?_; (with_reducible refine (spec_TermMove.calls k _ _ t400 t403 _ _ t404 t414 t417 _ ?side1 ?side2 ?side3 ?side4 A6.out).mono ?_); (case side1 => refine (Kd.R_reads' (e := 55) (base := w.heap.size) (ok := fun k_ => (some k_ ≠ (.slice Ao78 t404.length co78 : Value).ownBlock ∧ some k_ ≠ (.slice Ao82 t409.length co82 : Value).ownBlock)) (n := t400.length) (c := co75) ?_).2.2; exact (by (with_reducible repeat (first | apply Kd.R_alloc | apply Kd.R_drewN | apply Kd.R_drew)); exact (Kd.R_mono (Kd.R_far (p := ⟨gb413, 0, none⟩) (Kd.R_types HO402.out BK413.out (by decide)) (fun _ hk => hk.2) (.slice Ao82 t409.length co82)) (fun _ h_ => h_.1)))); (case side2 => exact (Kd.R_reads' HO402.out).2.1); (case side3 => refine (Kd.R_reads' (e := 55) (base := w.heap.size) (ok := fun k_ => (some k_ ≠ (.slice Ao75 t400.length co75 : Value).ownBlock ∧ some k_ ≠ (.slice Ao82 t409.length co82 : Value).ownBlock)) (n := t404.length) (c := co78) ?_).2.2; exact (by (with_reducible repeat (first | apply Kd.R_alloc | apply Kd.R_drewN | apply Kd.R_drew)); exact (Kd.R_mono (Kd.R_far (p := ⟨gb413, 0, none⟩) (Kd.R_types HO406.out BK413.out (by decide)) (fun _ hk => hk.2) (.slice Ao82 t409.length co82)) (fun _ h_ => h_.1)))); (case side4 => exact (Kd.R_reads' HO406.out).2.1); rintro e w88 ⟨v415, rfl, ho0, hb⟩; refine ⟨_, rfl, ?_⟩; have n0_ := Aside0.mk (Kd.R_elder' (by (with_reducible repeat (first | apply Kd.R_alloc | apply Kd.R_drewN | apply Kd.R_drew)); exact (Kd.R_mono (Kd.R_far (p := ⟨gb413, 0, none⟩) (Kd.R_types HO402.out BK413.out (by decide)) (fun _ hk => hk.2) (.slice Ao82 t409.length co82)) (fun _ h_ => h_.1))) (Kd.R_base ho0) hb); have n1_ := Aside0.mk (Kd.R_elder' (by (with_reducible repeat (first | apply Kd.R_alloc | apply Kd.R_drewN | apply Kd.R_drew)); exact (Kd.R_mono (Kd.R_far (p := ⟨gb413, 0, none⟩) (Kd.R_types HO406.out BK413.out (by decide)) (fun _ hk => hk.2) (.slice Ao82 t409.length co82)) (fun _ h_ => h_.1))) (Kd.R_base ho0) hb); have n2_ := Aside0.mk (Kd.R_elder' (by (with_reducible repeat (first | apply Kd.R_alloc | apply Kd.R_drewN | apply Kd.R_drew)); exact (Kd.R_mono (Kd.R_far (p := ⟨gb413, 0, none⟩) (Kd.R_types HO411.out BK413.out (by decide)) (fun _ hk => hk.2) (.slice Ao82 t409.length co82)) (fun _ h_ => h_.1))) (Kd.R_base ho0) hb); have n3_ := Aside0.mk (Kd.R_lower (Kd.R_new' (Kd.R_new' (Kd.R_new' ho0 (Kd.R_lt (by (with_reducible repeat (first | apply Kd.R_alloc | apply Kd.R_drewN | apply Kd.R_drew)); exact (Kd.R_mono (Kd.R_far (p := ⟨gb413, 0, none⟩) (Kd.R_types HO402.out BK413.out (by decide)) (fun _ hk => hk.2) (.slice Ao82 t409.length co82)) (fun _ h_ => h_.1))))) (Kd.R_lt (by (with_reducible repeat (first | apply Kd.R_alloc | apply Kd.R_drewN | apply Kd.R_drew)); exact (Kd.R_mono (Kd.R_far (p := ⟨gb413, 0, none⟩) (Kd.R_types HO406.out BK413.out (by decide)) (fun _ hk => hk.2) (.slice Ao82 t409.length co82)) (fun _ h_ => h_.1))))) (Kd.R_lt (by (with_reducible repeat (first | apply Kd.R_alloc | apply Kd.R_drewN | apply Kd.R_drew)); exact (Kd.R_mono (Kd.R_far (p := ⟨gb413, 0, none⟩) (Kd.R_types HO411.out BK413.out (by decide)) (fun _ hk => hk.2) (.slice Ao82 t409.length co82)) (fun _ h_ => h_.1))))) (below_size (zb HB.out))); have n4_ := Aside0.mk (blk_below (g := gb407) (o := .cells #[.slice Ao75 t400.length co75] 28 (0, 0)) (zf BK407.out) hb); have n5_ := Aside0.mk (blk_below (g := gb408) (o := .cells #[.slice Ao78 t404.length co78] 28 (0, 0)) (zf BK408.out) hb); have n6_ := Aside0.mk (blk_below (g := gb413) (o := .cells #[.slice Ao82 t409.length co82] 28 (0, 0)) (by (with_reducible repeat (first | refine blk_drewN ?_ _ | refine blk_drew ?_ | refine blk_alloc ?_ _)); refine blk_put (cs := #[.slice none 0 0]) ?_ 0 _ rfl; (with_reducible repeat (first | refine blk_drewN ?_ _ | refine blk_drew ?_ | refine blk_alloc ?_ _)); exact BK413.out) hb); have n7_ := Aside0.mk (below_step (zb HB.out) hb); clear HO402 HO406 HO411 BK407 BK408 BK413 HB; have HO402 := n0_; have HO406 := n1_; have HO411 := n2_; have HO416 := n3_; have BK407 := n4_; have BK408 := n5_; have BK413 := n6_; have HB := n7_; clear n0_ n1_ n2_ n3_ n4_ n5_ n6_ n7_; (try clear hb); (try clear hb2); (try clear hk); (try clear hi); (try clear ho0)) | ((with_reducible refine gate_dst (N := 8) rfl ?_); (try (refine gate_guard (by rfl) ?_; dsimp only)); refine box_event ?hg (N := 8) ?hd (cs := #[.slice none 0 0]) (t := 28) ?hr ?_; (case hd => rfl); (case hg => rfl); (case hr => first | (go_simp; done) | (go_simp; rfl)); intro gb418 hg w89 hbox hb; have n0_ := Aside0.mk (Kd.R_below (zr HO402.out) hb); have n1_ := Aside0.mk (Kd.R_below (zr HO406.out) hb); have n2_ := Aside0.mk (Kd.R_below (zr HO411.out) hb); have n3_ := Aside0.mk (Kd.R_below (zr HO416.out) hb); have n4_ := Aside0.mk (blk_below (zh BK407.out) hb); have n5_ := Aside0.mk (blk_below (zh BK408.out) hb); have n6_ := Aside0.mk (blk_below (zh BK413.out) hb); have n7_ := Aside0.mk (below_step (zb HB.out) hb); have n8_ := Aside0.mk (hbox); have n9_ := Aside0.mk ((by rw [hg]; exact (below_size (zb HB.out)) : w.heap.size ≤ gb418)); have n10_ := Aside0.mk ((by rw [hg]; exact (below_size (zb HB.out)) : w.heap.size ≤ gb418)); have n11_ := Aside0.mk ((by rw [hg]; exact Nat.ne_of_lt (blk_lt (zh BK407.out)) : gb407 ≠ gb418)); have n12_ := Aside0.mk ((by rw [hg]; exact Nat.ne_of_gt (blk_lt (zh BK407.out)) : gb418 ≠ gb407)); have n13_ := Aside0.mk ((by rw [hg]; exact Nat.ne_of_lt (blk_lt (zh BK408.out)) : gb408 ≠ gb418)); have n14_ := Aside0.mk ((by rw [hg]; exact Nat.ne_of_gt (blk_lt (zh BK408.out)) : gb418 ≠ gb408)); have n15_ := Aside0.mk ((by rw [hg]; exact Nat.ne_of_lt (blk_lt (zh BK413.out)) : gb413 ≠ gb418)); have n16_ := Aside0.mk ((by rw [hg]; exact Nat.ne_of_gt (blk_lt (zh BK413.out)) : gb418 ≠ gb413)); clear HO402 HO406 HO411 HO416 BK407 BK408 BK413 HB; have HO402 := n0_; have HO406 := n1_; have HO411 := n2_; have HO416 := n3_; have BK407 := n4_; have BK408 := n5_; have BK413 := n6_; have HB := n7_; have BK418 := n8_; have GW418 := n9_; have GE418 := n10_; have NB407_418 := n11_; have NB418_407 := n12_; have NB408_418 := n13_; have NB418_408 := n14_; have NB413_418 := n15_; have NB418_413 := n16_; clear n0_ n1_ n2_ n3_ n4_ n5_ n6_ n7_ n8_ n9_ n10_ n11_ n12_ n13_ n14_ n15_ n16_ hb hbox hg; obtain ⟨Ao90, co90, eo90⟩ := Kd.R_slice HO416.out; subst eo90; have hnb91 := NB418_407.out; have hnc91 := NB407_418.out; have hnb92 := NB418_408.out; have hnc92 := NB408_418.out; have hnb93 := NB418_413.out; have hnc93 := NB413_418.out; have hcz94_0 : w89.cell? ⟨gb418, 0, none⟩ = some (.slice none 0 0) := (blk_cell BK418.out 0).trans rfl; have hfz94_0 := blk_frozen BK418.out 0; have hcz95_0 : w89.cell? ⟨gb413, 0, none⟩ = some (.slice Ao82 t409.length co82) := (blk_cell BK413.out 0).trans rfl; have hfz95_0 := blk_frozen BK413.out 0; have hcz96_0 : w89.cell? ⟨gb407, 0, none⟩ = some (.slice Ao75 t400.length co75) := (blk_cell BK407.out 0).trans rfl; have hfz96_0 := blk_frozen BK407.out 0) | ((with_reducible refine gate_callee (f := 15) rfl ?_); refine goesL_ (some 56) rfl rfl Try.func15 (by kernel_rfl) rfl #[.agg #[.slice Ao82 t409.length co82], .int .i64 t412, .agg #[.slice Ao75 t400.length co75]] rfl zl ?_; (with_reducible refine (impl_TermMove.calls k _ _ t409 t412 _ _ t400 t419 t422 _ ?side1 ?side2 ?side3 ?side4 A60.out).mono ?_); (case side1 => refine (Kd.R_reads' (e := 55) (base := w.heap.size) (ok := fun k_ => (((True ∧ some k_ ≠ (.slice Ao75 t400.length co75 : Value).ownBlock) ∧ some k_ ≠ (.slice Ao78 t404.length co78 : Value).ownBlock) ∧ some k_ ≠ (.slice Ao90 t414.length co90 : Value).ownBlock)) (n := t409.length) (c := co82) ?_).2.2; exact (by (with_reducible repeat (first | apply Kd.R_alloc | apply Kd.R_drewN | apply Kd.R_drew)); exact (Kd.R_mono (Kd.R_far (p := ⟨gb418, 0, none⟩) (Kd.R_types HO411.out BK418.out (by decide)) (fun _ hk => hk.2) (.slice Ao90 t414.length co90)) (fun _ h_ => h_.1)))); (case side2 => exact (Kd.R_reads' HO411.out).2.1); (case side3 => refine (Kd.R_reads' (e := 55) (base := w.heap.size) (ok := fun k_ => ((some k_ ≠ (.slice Ao78 t404.length co78 : Value).ownBlock ∧ some k_ ≠ (.slice Ao82 t409.length co82 : Value).ownBlock) ∧ some k_ ≠ (.slice Ao90 t414.length co90 : Value).ownBlock)) (n := t400.length) (c := co75) ?_).2.2; exact (by (with_reducible repeat (first | apply Kd.R_alloc | apply Kd.R_drewN | apply Kd.R_drew)); exact (Kd.R_mono (Kd.R_far (p := ⟨gb418, 0, none⟩) (Kd.R_types HO402.out BK418.out (by decide)) (fun _ hk => hk.2) (.slice Ao90 t414.length co90)) (fun _ h_ => h_.1)))); (case side4 => exact (Kd.R_reads' HO402.out).2.1); rintro e w97 ⟨v420, rfl, ho0, hb⟩; refine ⟨_, rfl, ?_⟩; have n0_ := Aside0.mk (Kd.R_elder' (by (with_reducible repeat (first | apply Kd.R_alloc | apply Kd.R_drewN | apply Kd.R_drew)); exact (Kd.R_mono (Kd.R_far (p := ⟨gb418, 0, none⟩) (Kd.R_types HO402.out BK418.out (by decide)) (fun _ hk => hk.2) (.slice Ao90 t414.length co90)) (fun _ h_ => h_.1))) (Kd.R_base ho0) hb); have n1_ := Aside0.mk (Kd.R_elder' (by (with_reducible repeat (first | apply Kd.R_alloc | apply Kd.R_drewN | apply Kd.R_drew)); exact (Kd.R_mono (Kd.R_far (p := ⟨gb418, 0, none⟩) (Kd.R_types HO406.out BK418.out (by decide)) (fun _ hk => hk.2) (.slice Ao90 t414.length co90)) (fun _ h_ => h_.1))) (Kd.R_base ho0) hb); have n2_ := Aside0.mk (Kd.R_elder' (by (with_reducible repeat (first | apply Kd.R_alloc | apply Kd.R_drewN | apply Kd.R_drew)); exact (Kd.R_mono (Kd.R_far (p := ⟨gb418, 0, none⟩) (Kd.R_types HO411.out BK418.out (by decide)) (fun _ hk => hk.2) (.slice Ao90 t414.length co90)) (fun _ h_ => h_.1))) (Kd.R_base ho0) hb); have n3_ := Aside0.mk (Kd.R_elder' (by (with_reducible repeat (first | apply Kd.R_alloc | apply Kd.R_drewN | apply Kd.R_drew)); exact (Kd.R_mono (Kd.R_far (p := ⟨gb418, 0, none⟩) (Kd.R_types HO416.out BK418.out (by decide)) (fun _ hk => hk.2) (.slice Ao90 t414.length co90)) (fun _ h_ => h_.1))) (Kd.R_base ho0) hb); have n4_ := Aside0.mk (Kd.R_lower (Kd.R_new' (Kd.R_new' (Kd.R_new' (Kd.R_new' ho0 (Kd.R_lt (by (with_reducible repeat (first | apply Kd.R_alloc | apply Kd.R_drewN | apply Kd.R_drew)); exact (Kd.R_mono (Kd.R_far (p := ⟨gb418, 0, none⟩) (Kd.R_types HO402.out BK418.out (by decide)) (fun _ hk => hk.2) (.slice Ao90 t414.length co90)) (fun _ h_ => h_.1))))) (Kd.R_lt (by (with_reducible repeat (first | apply Kd.R_alloc | apply Kd.R_drewN | apply Kd.R_drew)); exact (Kd.R_mono (Kd.R_far (p := ⟨gb418, 0, none⟩) (Kd.R_types HO406.out BK418.out (by decide)) (fun _ hk => hk.2) (.slice Ao90 t414.length co90)) (fun _ h_ => h_.1))))) (Kd.R_lt (by (with_reducible repeat (first | apply Kd.R_alloc | apply Kd.R_drewN | apply Kd.R_drew)); exact (Kd.R_mono (Kd.R_far (p := ⟨gb418, 0, none⟩) (Kd.R_types HO411.out BK418.out (by decide)) (fun _ hk => hk.2) (.slice Ao90 t414.length co90)) (fun _ h_ => h_.1))))) (Kd.R_lt (by (with_reducible repeat (first | apply Kd.R_alloc | apply Kd.R_drewN | apply Kd.R_drew)); exact (Kd.R_mono (Kd.R_far (p := ⟨gb418, 0, none⟩) (Kd.R_types HO416.out BK418.out (by decide)) (fun _ hk => hk.2) (.slice Ao90 t414.length co90)) (fun _ h_ => h_.1))))) (below_size (zb HB.out))); have n5_ := Aside0.mk (blk_below (g := gb407) (o := .cells #[.slice Ao75 t400.length co75] 28 (0, 0)) (zf BK407.out) hb); have n6_ := Aside0.mk (blk_below (g := gb408) (o := .cells #[.slice Ao78 t404.length co78] 28 (0, 0)) (zf BK408.out) hb); have n7_ := Aside0.mk (blk_below (g := gb413) (o := .cells #[.slice Ao82 t409.length co82] 28 (0, 0)) (zf BK413.out) hb); have n8_ := Aside0.mk (blk_below (g := gb418) (o := .cells #[.slice Ao90 t414.length co90] 28 (0, 0)) (by (with_reducible repeat (first | refine blk_drewN ?_ _ | refine blk_drew ?_ | refine blk_alloc ?_ _)); refine blk_put (cs := #[.slice none 0 0]) ?_ 0 _ rfl; (with_reducible repeat (first | refine blk_drewN ?_ _ | refine blk_drew ?_ | refine blk_alloc ?_ _)); exact BK418.out) hb); have n9_ := Aside0.mk (below_step (zb HB.out) hb); clear HO402 HO406 HO411 HO416 BK407 BK408 BK413 BK418 HB; have HO402 := n0_; have HO406 := n1_; have HO411 := n2_; have HO416 := n3_; have HO421 := n4_; have BK407 := n5_; have BK408 := n6_; have BK413 := n7_; have BK418 := n8_; have HB := n9_; clear n0_ n1_ n2_ n3_ n4_ n5_ n6_ n7_ n8_ n9_; (try clear hb); (try clear hb2); (try clear hk); (try clear hi); (try clear ho0)) | ((with_reducible refine gate_dst (N := 10) rfl ?_); (try (refine gate_guard (by rfl) ?_; dsimp only)); refine box_event ?hg (N := 10) ?hd (cs := #[.slice none 0 0]) (t := 28) ?hr ?_; (case hd => rfl); (case hg => rfl); (case hr => first | (go_simp; done) | (go_simp; rfl)); intro gb423 hg w98 hbox hb; have n0_ := Aside0.mk (Kd.R_below (zr HO402.out) hb); have n1_ := Aside0.mk (Kd.R_below (zr HO406.out) hb); have n2_ := Aside0.mk (Kd.R_below (zr HO411.out) hb); have n3_ := Aside0.mk (Kd.R_below (zr HO416.out) hb); have n4_ := Aside0.mk (Kd.R_below (zr HO421.out) hb); have n5_ := Aside0.mk (blk_below (zh BK407.out) hb); have n6_ := Aside0.mk (blk_below (zh BK408.out) hb); have n7_ := Aside0.mk (blk_below (zh BK413.out) hb); have n8_ := Aside0.mk (blk_below (zh BK418.out) hb); have n9_ := Aside0.mk (below_step (zb HB.out) hb); have n10_ := Aside0.mk (hbox); have n11_ := Aside0.mk ((by rw [hg]; exact (below_size (zb HB.out)) : w.heap.size ≤ gb423)); have n12_ := Aside0.mk ((by rw [hg]; exact (below_size (zb HB.out)) : w.heap.size ≤ gb423)); have n13_ := Aside0.mk ((by rw [hg]; exact Nat.ne_of_lt (blk_lt (zh BK407.out)) : gb407 ≠ gb423)); have n14_ := Aside0.mk ((by rw [hg]; exact Nat.ne_of_gt (blk_lt (zh BK407.out)) : gb423 ≠ gb407)); have n15_ := Aside0.mk ((by rw [hg]; exact Nat.ne_of_lt (blk_lt (zh BK408.out)) : gb408 ≠ gb423)); have n16_ := Aside0.mk ((by rw [hg]; exact Nat.ne_of_gt (blk_lt (zh BK408.out)) : gb423 ≠ gb408)); have n17_ := Aside0.mk ((by rw [hg]; exact Nat.ne_of_lt (blk_lt (zh BK413.out)) : gb413 ≠ gb423)); have n18_ := Aside0.mk ((by rw [hg]; exact Nat.ne_of_gt (blk_lt (zh BK413.out)) : gb423 ≠ gb413)); have n19_ := Aside0.mk ((by rw [hg]; exact Nat.ne_of_lt (blk_lt (zh BK418.out)) : gb418 ≠ gb423)); have n20_ := Aside0.mk ((by rw [hg]; exact Nat.ne_of_gt (blk_lt (zh BK418.out)) : gb423 ≠ gb418)); clear HO402 HO406 HO411 HO416 HO421 BK407 BK408 BK413 BK418 HB; have HO402 := n0_; have HO406 := n1_; have HO411 := n2_; have HO416 := n3_; have HO421 := n4_; have BK407 := n5_; have BK408 := n6_; have BK413 := n7_; have BK418 := n8_; have HB := n9_; have BK423 := n10_; have GW423 := n11_; have GE423 := n12_; have NB407_423 := n13_; have NB423_407 := n14_; have NB408_423 := n15_; have NB423_408 := n16_; have NB413_423 := n17_; have NB423_413 := n18_; have NB418_423 := n19_; have NB423_418 := n20_; clear n0_ n1_ n2_ n3_ n4_ n5_ n6_ n7_ n8_ n9_ n10_ n11_ n12_ n13_ n14_ n15_ n16_ n17_ n18_ n19_ n20_ hb hbox hg; obtain ⟨Ao99, co99, eo99⟩ := Kd.R_slice HO421.out; subst eo99; have hnb100 := NB423_407.out; have hnc100 := NB407_423.out; have hnb101 := NB423_408.out; have hnc101 := NB408_423.out; have hnb102 := NB423_413.out; have hnc102 := NB413_423.out; have hnb103 := NB423_418.out; have hnc103 := NB418_423.out; have hcz104_0 : w98.cell? ⟨gb423, 0, none⟩ = some (.slice none 0 0) := (blk_cell BK423.out 0).trans rfl; have hfz104_0 := blk_frozen BK423.out 0))
 have n0_ : Aside0 (Kd.R k55 55 (w98.setCell ⟨gb423, 0, none⟩ (.slice Ao99 t419.length co99)) w.heap.size (fun k_ => some k_ ≠ (.slice Ao78 t404.length co78 : Value).ownBlock ∧ some k_ ≠ (.slice Ao82 t409.length co82 : Value).ownBlock ∧ some k_ ≠ (.slice Ao90 t414.length co90 : Value).ownBlock ∧ some k_ ≠ (.slice Ao99 t419.length co99 : Value).ownBlock) (.slice Ao75 t400.length co75) t400) := ⟨zr (Kd.R_mono (Kd.R_far (p := ⟨gb423, 0, none⟩) (Kd.R_types HO402.out BK423.out (by decide)) (fun _ hk => hk.2) (.slice Ao99 t419.length co99)) (fun _ hk => ⟨hk.1.1.1.1, ⟨hk.1.1.1.2, ⟨hk.1.1.2, hk.1.2⟩⟩⟩))⟩
 have n1_ : Aside0 (Kd.R k55 55 (w98.setCell ⟨gb423, 0, none⟩ (.slice Ao99 t419.length co99)) w.heap.size (fun k_ => some k_ ≠ (.slice Ao75 t400.length co75 : Value).ownBlock ∧ some k_ ≠ (.slice Ao82 t409.length co82 : Value).ownBlock ∧ some k_ ≠ (.slice Ao90 t414.length co90 : Value).ownBlock ∧ some k_ ≠ (.slice Ao99 t419.length co99 : Value).ownBlock) (.slice Ao78 t404.length co78) t404) := ⟨zr (Kd.R_mono (Kd.R_far (p := ⟨gb423, 0, none⟩) (Kd.R_types HO406.out BK423.out (by decide)) (fun _ hk => hk.2) (.slice Ao99 t419.length co99)) (fun _ hk => ⟨hk.1.1.1.1, ⟨hk.1.1.1.2, ⟨hk.1.1.2, hk.1.2⟩⟩⟩))⟩
 have n2_ : Aside0 (Kd.R k55 55 (w98.setCell ⟨gb423, 0, none⟩ (.slice Ao99 t419.length co99)) w.heap.size (fun k_ => some k_ ≠ (.slice Ao75 t400.length co75 : Value).ownBlock ∧ some k_ ≠ (.slice Ao78 t404.length co78 : Value).ownBlock ∧ some k_ ≠ (.slice Ao90 t414.length co90 : Value).ownBlock ∧ some k_ ≠ (.slice Ao99 t419.length co99 : Value).ownBlock) (.slice Ao82 t409.length co82) t409) := ⟨zr (Kd.R_mono (Kd.R_far (p := ⟨gb423, 0, none⟩) (Kd.R_types HO411.out BK423.out (by decide)) (fun _ hk => hk.2) (.slice Ao99 t419.length co99)) (fun _ hk => ⟨hk.1.1.1.1.2, ⟨hk.1.1.1.2, ⟨hk.1.1.2, hk.1.2⟩⟩⟩))⟩
 have n3_ : Aside0 (Kd.R k55 55 (w98.setCell ⟨gb423, 0, none⟩ (.slice Ao99 t419.length co99)) w.heap.size (fun k_ => some k_ ≠ (.slice Ao75 t400.length co75 : Value).ownBlock ∧ some k_ ≠ (.slice Ao78 t404.length co78 : Value).ownBlock ∧ some k_ ≠ (.slice Ao82 t409.length co82 : Value).ownBlock ∧ some k_ ≠ (.slice Ao99 t419.length co99 : Value).ownBlock) (.slice Ao90 t414.length co90) t414) := ⟨zr (Kd.R_mono (Kd.R_far (p := ⟨gb423, 0, none⟩) (Kd.R_types HO416.out BK423.out (by decide)) (fun _ hk => hk.2) (.slice Ao99 t419.length co99)) (fun _ hk => ⟨hk.1.1.1.1.2, ⟨hk.1.1.1.2, ⟨hk.1.1.2, hk.1.2⟩⟩⟩))⟩
 have n4_ : Aside0 (Kd.R k55 55 (w98.setCell ⟨gb423, 0, none⟩ (.slice Ao99 t419.length co99)) w.heap.size (fun k_ => some k_ ≠ (.slice Ao75 t400.length co75 : Value).ownBlock ∧ some k_ ≠ (.slice Ao78 t404.length co78 : Value).ownBlock ∧ some k_ ≠ (.slice Ao82 t409.length co82 : Value).ownBlock ∧ some k_ ≠ (.slice Ao90 t414.length co90 : Value).ownBlock) (.slice Ao99 t419.length co99) t419) := ⟨zr (Kd.R_mono (Kd.R_far (p := ⟨gb423, 0, none⟩) (Kd.R_types HO421.out BK423.out (by decide)) (fun _ hk => hk.2) (.slice Ao99 t419.length co99)) (fun _ hk => ⟨hk.1.1.1.1.2, ⟨hk.1.1.1.2, ⟨hk.1.1.2, hk.1.2⟩⟩⟩))⟩
 have n5_ : Aside0 ((w98.setCell ⟨gb423, 0, none⟩ (.slice Ao99 t419.length co99)).heap[gb407]? = some (.cells #[.slice Ao75 t400.length co75] 28 (0, 0))) := ⟨zf BK407.out⟩
 have n6_ : Aside0 ((w98.setCell ⟨gb423, 0, none⟩ (.slice Ao99 t419.length co99)).heap[gb408]? = some (.cells #[.slice Ao78 t404.length co78] 28 (0, 0))) := ⟨zf BK408.out⟩
 have n7_ : Aside0 ((w98.setCell ⟨gb423, 0, none⟩ (.slice Ao99 t419.length co99)).heap[gb413]? = some (.cells #[.slice Ao82 t409.length co82] 28 (0, 0))) := ⟨zf BK413.out⟩
 have n8_ : Aside0 ((w98.setCell ⟨gb423, 0, none⟩ (.slice Ao99 t419.length co99)).heap[gb418]? = some (.cells #[.slice Ao90 t414.length co90] 28 (0, 0))) := ⟨zf BK418.out⟩
 have n9_ : Aside0 ((w98.setCell ⟨gb423, 0, none⟩ (.slice Ao99 t419.length co99)).heap[gb423]? = some (.cells #[.slice Ao99 t419.length co99] 28 (0, 0))) := ⟨by (with_reducible repeat (first | refine blk_drewN ?_ _ | refine blk_drew ?_ | refine blk_alloc ?_ _)); refine blk_put (cs := #[.slice none 0 0]) ?_ 0 _ rfl; (with_reducible repeat (first | refine blk_drewN ?_ _ | refine blk_drew ?_ | refine blk_alloc ?_ _)); exact BK423.out⟩
 have n10_ : Aside0 (Below w.heap.size w (w98.setCell ⟨gb423, 0, none⟩ (.slice Ao99 t419.length co99))) := ⟨zb HB.out⟩
 (try clear HO402)
 (try clear HO406)
 (try clear HO411)
 (try clear HO416)
 (try clear HO421)
 (try clear BK407)
 (try clear BK408)
 (try clear BK413)
 (try clear BK418)
 (try clear BK423)
 (try clear HB)
 generalize (w98.setCell ⟨gb423, 0, none⟩ (.slice Ao99 t419.length co99)) = w105 at n0_ n1_ n2_ n3_ n4_ n5_ n6_ n7_ n8_ n9_ n10_ ⊢
 have HO402 := n0_
 have HO406 := n1_
 have HO411 := n2_
 have HO416 := n3_
 have HO421 := n4_
 have BK407 := n5_
 have BK408 := n6_
 have BK413 := n7_
 have BK418 := n8_
 have BK423 := n9_
 have HB := n10_
 clear n0_ n1_ n2_ n3_ n4_ n5_ n6_ n7_ n8_ n9_ n10_
 have n0_ := Aside0.mk (Kd.R_drew HO402.out)
 have n1_ := Aside0.mk (Kd.R_drew HO406.out)
 have n2_ := Aside0.mk (Kd.R_drew HO411.out)
 have n3_ := Aside0.mk (Kd.R_drew HO416.out)
 have n4_ := Aside0.mk (Kd.R_drew HO421.out)
 have n5_ := Aside0.mk (blk_drew BK407.out)
 have n6_ := Aside0.mk (blk_drew BK408.out)
 have n7_ := Aside0.mk (blk_drew BK413.out)
 have n8_ := Aside0.mk (blk_drew BK418.out)
 have n9_ := Aside0.mk (blk_drew BK423.out)
 have n10_ := Aside0.mk (below_drew1 HB.out)
 clear HO402 HO406 HO411 HO416 HO421 BK407 BK408 BK413 BK418 BK423 HB
 have HO402 := n0_
 have HO406 := n1_
 have HO411 := n2_
 have HO416 := n3_
 have HO421 := n4_
 have BK407 := n5_
 have BK408 := n6_
 have BK413 := n7_
 have BK418 := n8_
 have BK423 := n9_
 have HB := n10_
 clear n0_ n1_ n2_ n3_ n4_ n5_ n6_ n7_ n8_ n9_ n10_
 refine start_ (n := 40) (S := fun w' => w'.cell? ⟨gb413, 0, none⟩ = some (.slice Ao82 t409.length co82) ∧ w'.cell? ⟨gb407, 0, none⟩ = some (.slice Ao75 t400.length co75) ∧ w'.cell? ⟨gb423, 0, none⟩ = some (.slice Ao99 t419.length co99)) (ds := []) #[false, false, false, false, false, false, false, false, false, false, false, false, false, false, false, false, false, false, false, false, false, false, false, false, false, false, false, false, false, false, false, false, false, false, false, false, false, false, false, false] (by kernel_rfl) rfl rfl ⟨(blk_cell BK413.out 0).trans rfl, (blk_cell BK407.out 0).trans rfl, (blk_cell BK423.out 0).trans rfl⟩ (fun hHeld => ?_); refine with_tabW laws_FnMoved.tab11 laws_FnMoved.bits11 (fun HT_ HW_ => ?_)
 generalize w105.drew = w106 at HO402 HO406 HO411 HO416 HO421 BK407 BK408 BK413 BK418 BK423 HB hHeld ⊢
 refine pure_ (i := 1) (N := some 60) (v := ?_) (a' := ?_) (zB 40 2) rfl rfl (any_of HT_.out (by kernel_rfl)) (fun _ _ _ h => h) (Or.inl ⟨by rfl, ?_⟩) ?_ ?_
 rotate_left
 ·intro w'
  go_simp
  with_reducible rfl
 rotate_left
 ·exact zn
 refine pure_ (i := 4) (N := some 63) (v := ?_) (a' := ?_) (zB 40 18) rfl rfl (any_of HT_.out (by kernel_rfl)) (fun _ _ _ h => h) (Or.inl ⟨by rfl, ?_⟩) ?_ ?_
 rotate_left
 ·intro w'
  go_simp
  with_reducible rfl
 rotate_left
 ·exact zn
 refine take_ (i := 0) (N := some 59) (v := ?_) (a' := ?_) (zB 40 19) rfl rfl (take_ofW HT_.out HW_.out (by kernel_rfl)) (fun _ _ _ h => h) (Or.inl ⟨by rfl, ?_⟩) hHeld ?_ ?_
 rotate_left
 ·rintro w' ⟨s0, s1, s2⟩
  go_simp
  with_reducible rfl
 rotate_left
 ·exact zn
 refine take_ (i := 3) (N := some 62) (v := ?_) (a' := ?_) (zB 40 27) rfl rfl (take_ofW HT_.out HW_.out (by kernel_rfl)) (fun _ _ _ h => h) (Or.inl ⟨by rfl, ?_⟩) hHeld ?_ ?_
 rotate_left
 ·rintro w' ⟨s0, s1, s2⟩
  go_simp
  with_reducible rfl
 rotate_left
 ·exact zn
 refine one_ (i := 2) (N := some 61) (zB 40 31) rfl rfl (one_of HT_.out (by kernel_rfl)) (by decide) (fun K hK => ?_)
 refine goes_ Try.func20 (by kernel_rfl) rfl #[.agg #[.slice Ao82 t409.length co82], .int .i64 t412] (by rfl) rfl rfl zl ?_
 with_reducible refine (impl_TermSize.calls k _ _ t409 t412 t424 _ ?side1 ?side2 A61.out).mono ?_
 (case side1 => exact zc (Kd.R_reads' HO411.out).2.2)
 (case side2 => exact (Kd.R_reads' HO411.out).2.1)
 rintro e w107 ⟨rfl, hb⟩
 refine ⟨_, rfl, ?_⟩
 have n0_ := Aside0.mk (Kd.R_below (zr HO402.out) hb)
 have n1_ := Aside0.mk (Kd.R_below (zr HO406.out) hb)
 have n2_ := Aside0.mk (Kd.R_below (zr HO411.out) hb)
 have n3_ := Aside0.mk (Kd.R_below (zr HO416.out) hb)
 have n4_ := Aside0.mk (Kd.R_below (zr HO421.out) hb)
 have n5_ := Aside0.mk (blk_below (zh BK407.out) hb)
 have n6_ := Aside0.mk (blk_below (zh BK408.out) hb)
 have n7_ := Aside0.mk (blk_below (zh BK413.out) hb)
 have n8_ := Aside0.mk (blk_below (zh BK418.out) hb)
 have n9_ := Aside0.mk (blk_below (zh BK423.out) hb)
 have n10_ := Aside0.mk (below_step (zb HB.out) hb)
 clear HO402 HO406 HO411 HO416 HO421 BK407 BK408 BK413 BK418 BK423 HB
 have HO402 := n0_
 have HO406 := n1_
 have HO411 := n2_
 have HO416 := n3_
 have HO421 := n4_
 have BK407 := n5_
 have BK408 := n6_
 have BK413 := n7_
 have BK418 := n8_
 have BK423 := n9_
 have HB := n10_
 clear n0_ n1_ n2_ n3_ n4_ n5_ n6_ n7_ n8_ n9_ n10_
 (try clear hb)
 (try clear hb2)
 (try clear hk)
 (try clear hi)
 refine hK.out _ _ ⟨(blk_cell BK413.out 0).trans rfl, (blk_cell BK407.out 0).trans rfl, (blk_cell BK423.out 0).trans rfl⟩ (fun hHeld => ?_)
 clear hK K
 refine norm_ (a' := ?_) ?_ ?_
 rotate_left
 ·exact zn (N := some 61)
 refine one_ (i := 5) (N := some 64) (zB 40 63) rfl rfl (one_of HT_.out (by kernel_rfl)) (by decide) (fun K hK => ?_)
 refine goes_ Try.func20 (by kernel_rfl) rfl #[.agg #[.slice Ao75 t400.length co75], .int .i64 t403] (by rfl) rfl rfl zl ?_
 with_reducible refine (impl_TermSize.calls k _ _ t400 t403 t425 _ ?side1 ?side2 A62.out).mono ?_
 (case side1 => exact zc (Kd.R_reads' HO402.out).2.2)
 (case side2 => exact (Kd.R_reads' HO402.out).2.1)
 rintro e w108 ⟨rfl, hb⟩
 refine ⟨_, rfl, ?_⟩
 have n0_ := Aside0.mk (Kd.R_below (zr HO402.out) hb)
 have n1_ := Aside0.mk (Kd.R_below (zr HO406.out) hb)
 have n2_ := Aside0.mk (Kd.R_below (zr HO411.out) hb)
 have n3_ := Aside0.mk (Kd.R_below (zr HO416.out) hb)
 have n4_ := Aside0.mk (Kd.R_below (zr HO421.out) hb)
 have n5_ := Aside0.mk (blk_below (zh BK407.out) hb)
 have n6_ := Aside0.mk (blk_below (zh BK408.out) hb)
 have n7_ := Aside0.mk (blk_below (zh BK413.out) hb)
 have n8_ := Aside0.mk (blk_below (zh BK418.out) hb)
 have n9_ := Aside0.mk (blk_below (zh BK423.out) hb)
 have n10_ := Aside0.mk (below_step (zb HB.out) hb)
 clear HO402 HO406 HO411 HO416 HO421 BK407 BK408 BK413 BK418 BK423 HB
 have HO402 := n0_
 have HO406 := n1_
 have HO411 := n2_
 have HO416 := n3_
 have HO421 := n4_
 have BK407 := n5_
 have BK408 := n6_
 have BK413 := n7_
 have BK418 := n8_
 have BK423 := n9_
 have HB := n10_
 clear n0_ n1_ n2_ n3_ n4_ n5_ n6_ n7_ n8_ n9_ n10_
 (try clear hb)
 (try clear hb2)
 (try clear hk)
 (try clear hi)
 refine hK.out _ _ ⟨(blk_cell BK413.out 0).trans rfl, (blk_cell BK407.out 0).trans rfl, (blk_cell BK423.out 0).trans rfl⟩ (fun hHeld => ?_)
 clear hK K
 refine norm_ (a' := ?_) ?_ ?_
 rotate_left
 ·exact zn (N := some 64)
 refine pure_ (i := 6) (N := some 65) (v := ?_) (a' := ?_) (zB 40 127) rfl rfl (any_of HT_.out (by kernel_rfl)) (fun _ _ _ h => h) (Or.inl ⟨by rfl, ?_⟩) ?_ ?_
 rotate_left
 ·intro w'
  go_simp
  with_reducible rfl
 rotate_left
 ·exact zn
 refine pure_ (i := 7) (N := some 66) (v := ?_) (a' := ?_) (zB 40 255) rfl rfl (any_of HT_.out (by kernel_rfl)) (fun _ _ _ h => h) (Or.inl ⟨by rfl, ?_⟩) ?_ ?_
 rotate_left
 ·intro w'
  go_simp
  with_reducible rfl
 rotate_left
 ·exact zn
 have H := HCh1_.out
 clear HCh1_
 by_cases c63 : t424 = t425
 rotate_left
 ·rw [if_neg c63] at H
  have c63b0 : (t424 == t425) = false := beq_eq_false_iff_ne.mpr c63
  have c63b1 : (t424 != t425) = true := bne_iff_ne.mpr c63
  (try rw [c63b0])
  (try rw [c63b1])
  obtain rfl := Option.some.inj H
  refine pure_ (i := 8) (N := some 67) (v := undef) (a' := ?_) (zB 40 511) rfl rfl (any_of HT_.out (by kernel_rfl)) (fun _ _ _ h => h) (Or.inr ⟨by rfl, rfl⟩) ?_ ?_
  rotate_left
  ·exact zn
  refine pure_ (i := 9) (N := some 68) (v := undef) (a' := ?_) (zB 40 1023) rfl rfl (any_of HT_.out (by kernel_rfl)) (fun _ _ _ h => h) (Or.inr ⟨by rfl, rfl⟩) ?_ ?_
  rotate_left
  ·exact zn
  refine pure_ (i := 10) (N := some 69) (v := undef) (a' := ?_) (zB 40 2047) rfl rfl (any_of HT_.out (by kernel_rfl)) (fun _ _ _ h => h) (Or.inr ⟨by rfl, rfl⟩) ?_ ?_
  rotate_left
  ·exact zn
  refine pure_ (i := 11) (N := some 70) (v := undef) (a' := ?_) (zB 40 4095) rfl rfl (any_of HT_.out (by kernel_rfl)) (fun _ _ _ h => h) (Or.inr ⟨by rfl, rfl⟩) ?_ ?_
  rotate_left
  ·exact zn
  refine pure_ (i := 12) (N := some 71) (v := undef) (a' := ?_) (zB 40 8191) rfl rfl (any_of HT_.out (by kernel_rfl)) (fun _ _ _ h => h) (Or.inr ⟨by rfl, rfl⟩) ?_ ?_
  rotate_left
  ·exact zn
  refine pure_ (i := 13) (N := some 72) (v := undef) (a' := ?_) (zB 40 16383) rfl rfl (any_of HT_.out (by kernel_rfl)) (fun _ _ _ h => h) (Or.inr ⟨by rfl, rfl⟩) ?_ ?_
  rotate_left
  ·exact zn
  refine pure_ (i := 14) (N := some 73) (v := undef) (a' := ?_) (zB 40 32767) rfl rfl (any_of HT_.out (by kernel_rfl)) (fun _ _ _ h => h) (Or.inr ⟨by rfl, rfl⟩) ?_ ?_
  rotate_left
  ·exact zn
  refine pure_ (i := 15) (N := some 74) (v := ?_) (a' := ?_) (zB 40 65535) rfl rfl (any_of HT_.out (by kernel_rfl)) (fun _ _ _ h => h) (Or.inl ⟨by rfl, ?_⟩) ?_ ?_
  rotate_left
  ·intro w'
   go_simp
   with_reducible rfl
  rotate_left
  ·exact zn
  refine pure_ (i := 16) (N := some 75) (v := ?_) (a' := ?_) (zB 40 131071) rfl rfl (any_of HT_.out (by kernel_rfl)) (fun _ _ _ h => h) (Or.inl ⟨by rfl, ?_⟩) ?_ ?_
  rotate_left
  ·intro w'
   go_simp
   with_reducible rfl
  rotate_left
  ·exact zn
  refine pure_ (i := 17) (N := some 76) (v := undef) (a' := ?_) (zB 40 262143) rfl rfl (any_of HT_.out (by kernel_rfl)) (fun _ _ _ h => h) (Or.inr ⟨by rfl, rfl⟩) ?_ ?_
  rotate_left
  ·exact zn
  refine pure_ (i := 18) (N := some 77) (v := undef) (a' := ?_) (zB 40 524287) rfl rfl (any_of HT_.out (by kernel_rfl)) (fun _ _ _ h => h) (Or.inr ⟨by rfl, rfl⟩) ?_ ?_
  rotate_left
  ·exact zn
  refine pure_ (i := 19) (N := some 78) (v := undef) (a' := ?_) (zB 40 1048575) rfl rfl (any_of HT_.out (by kernel_rfl)) (fun _ _ _ h => h) (Or.inr ⟨by rfl, rfl⟩) ?_ ?_
  rotate_left
  ·exact zn
  refine pure_ (i := 20) (N := some 79) (v := undef) (a' := ?_) (zB 40 2097151) rfl rfl (any_of HT_.out (by kernel_rfl)) (fun _ _ _ h => h) (Or.inr ⟨by rfl, rfl⟩) ?_ ?_
  rotate_left
  ·exact zn
  refine pure_ (i := 21) (N := some 80) (v := undef) (a' := ?_) (zB 40 4194303) rfl rfl (any_of HT_.out (by kernel_rfl)) (fun _ _ _ h => h) (Or.inr ⟨by rfl, rfl⟩) ?_ ?_
  rotate_left
  ·exact zn
  refine pure_ (i := 22) (N := some 81) (v := undef) (a' := ?_) (zB 40 8388607) rfl rfl (any_of HT_.out (by kernel_rfl)) (fun _ _ _ h => h) (Or.inr ⟨by rfl, rfl⟩) ?_ ?_
  rotate_left
  ·exact zn
  refine pure_ (i := 23) (N := some 82) (v := undef) (a' := ?_) (zB 40 16777215) rfl rfl (any_of HT_.out (by kernel_rfl)) (fun _ _ _ h => h) (Or.inr ⟨by rfl, rfl⟩) ?_ ?_
  rotate_left
  ·exact zn
  refine pure_ (i := 24) (N := some 83) (v := ?_) (a' := ?_) (zB 40 33554431) rfl rfl (any_of HT_.out (by kernel_rfl)) (fun _ _ _ h => h) (Or.inl ⟨by rfl, ?_⟩) ?_ ?_
  rotate_left
  ·intro w'
   go_simp
   with_reducible rfl
  rotate_left
  ·exact zn
  refine pure_ (i := 25) (N := some 84) (v := ?_) (a' := ?_) (zB 40 67108863) rfl rfl (any_of HT_.out (by kernel_rfl)) (fun _ _ _ h => h) (Or.inl ⟨by rfl, ?_⟩) ?_ ?_
  rotate_left
  ·intro w'
   go_simp
   with_reducible rfl
  rotate_left
  ·exact zn
  refine pure_ (i := 26) (N := some 85) (v := undef) (a' := ?_) (zB 40 134217727) rfl rfl (any_of HT_.out (by kernel_rfl)) (fun _ _ _ h => h) (Or.inr ⟨by rfl, rfl⟩) ?_ ?_
  rotate_left
  ·exact zn
  refine pure_ (i := 27) (N := some 86) (v := undef) (a' := ?_) (zB 40 268435455) rfl rfl (any_of HT_.out (by kernel_rfl)) (fun _ _ _ h => h) (Or.inr ⟨by rfl, rfl⟩) ?_ ?_
  rotate_left
  ·exact zn
  refine pure_ (i := 28) (N := some 87) (v := undef) (a' := ?_) (zB 40 536870911) rfl rfl (any_of HT_.out (by kernel_rfl)) (fun _ _ _ h => h) (Or.inr ⟨by rfl, rfl⟩) ?_ ?_
  rotate_left
  ·exact zn
  refine pure_ (i := 29) (N := some 88) (v := ?_) (a' := ?_) (zB 40 1073741823) rfl rfl (any_of HT_.out (by kernel_rfl)) (fun _ _ _ h => h) (Or.inl ⟨by rfl, ?_⟩) ?_ ?_
  rotate_left
  ·intro w'
   go_simp
   with_reducible rfl
  rotate_left
  ·exact zn
  refine pure_ (i := 30) (N := some 89) (v := ?_) (a' := ?_) (zB 40 2147483647) rfl rfl (any_of HT_.out (by kernel_rfl)) (fun _ _ _ h => h) (Or.inl ⟨by rfl, ?_⟩) ?_ ?_
  rotate_left
  ·intro w'
   go_simp
   with_reducible rfl
  rotate_left
  ·exact zn
  refine pure_ (i := 31) (N := some 90) (v := undef) (a' := ?_) (zB 40 4294967295) rfl rfl (any_of HT_.out (by kernel_rfl)) (fun _ _ _ h => h) (Or.inr ⟨by rfl, rfl⟩) ?_ ?_
  rotate_left
  ·exact zn
  refine pure_ (i := 32) (N := some 91) (v := undef) (a' := ?_) (zB 40 8589934591) rfl rfl (any_of HT_.out (by kernel_rfl)) (fun _ _ _ h => h) (Or.inr ⟨by rfl, rfl⟩) ?_ ?_
  rotate_left
  ·exact zn
  refine pure_ (i := 33) (N := some 92) (v := undef) (a' := ?_) (zB 40 17179869183) rfl rfl (any_of HT_.out (by kernel_rfl)) (fun _ _ _ h => h) (Or.inr ⟨by rfl, rfl⟩) ?_ ?_
  rotate_left
  ·exact zn
  refine pure_ (i := 34) (N := some 93) (v := undef) (a' := ?_) (zB 40 34359738367) rfl rfl (any_of HT_.out (by kernel_rfl)) (fun _ _ _ h => h) (Or.inr ⟨by rfl, rfl⟩) ?_ ?_
  rotate_left
  ·exact zn
  refine pure_ (i := 35) (N := some 94) (v := undef) (a' := ?_) (zB 40 68719476735) rfl rfl (any_of HT_.out (by kernel_rfl)) (fun _ _ _ h => h) (Or.inr ⟨by rfl, rfl⟩) ?_ ?_
  rotate_left
  ·exact zn
  refine pure_ (i := 36) (N := some 95) (v := undef) (a' := ?_) (zB 40 137438953471) rfl rfl (any_of HT_.out (by kernel_rfl)) (fun _ _ _ h => h) (Or.inr ⟨by rfl, rfl⟩) ?_ ?_
  rotate_left
  ·exact zn
  refine pure_ (i := 37) (N := some 96) (v := undef) (a' := ?_) (zB 40 274877906943) rfl rfl (any_of HT_.out (by kernel_rfl)) (fun _ _ _ h => h) (Or.inr ⟨by rfl, rfl⟩) ?_ ?_
  rotate_left
  ·exact zn
  refine pure_ (i := 38) (N := some 97) (v := ?_) (a' := ?_) (zB 40 549755813887) rfl rfl (any_of HT_.out (by kernel_rfl)) (fun _ _ _ h => h) (Or.inl ⟨by rfl, ?_⟩) ?_ ?_
  rotate_left
  ·intro w'
   go_simp
   with_reducible rfl
  rotate_left
  ·exact zn
  refine pure_ (i := 39) (N := some 2) (v := ?_) (a' := ?_) (zB 40 1099511627775) rfl rfl (any_of HT_.out (by kernel_rfl)) (fun _ _ _ h => h) (Or.inl ⟨by rfl, ?_⟩) ?_ ?_
  rotate_left
  ·intro w'
   go_simp
   with_reducible rfl
  rotate_left
  ·exact zn
  refine done_ (done_of HT_.out (by kernel_rfl)) ?_
  try go_wp2
  go_ret
  exact ⟨ze, zb HB.out⟩
 rw [if_pos c63] at H
 have c63b0 : (t424 == t425) = true := beq_iff_eq.mpr c63
 have c63b1 : (t424 != t425) = false := bne_eq_false_iff_eq.mpr c63
 (try rw [c63b0])
 (try rw [c63b1])
 clear c63
 replace H := Option.bind_eq_some_iff.mp H
 obtain ⟨t426, A640, H⟩ := H
 replace H : ((impl_TermDeep.f k t400 t403).bind fun t427 => (if t426 = t427 then ((impl_TermNames.f k t409 t412).bind fun t428 => ((impl_TermNames.f k t400 t403).bind fun t431 => ((laws_sameInts.f k t428 t431).bind fun t434 => (if t434 = true then (if t422 = t403 then (some ((t419.length : Int) == (t400.length : Int))) else (some false)) else (some false))))) else (some false))) = some r := H
 have A64 := Aside0.mk A640
 clear A640
 replace H := Option.bind_eq_some_iff.mp H
 obtain ⟨t427, A650, H⟩ := H
 replace H : (if t426 = t427 then ((impl_TermNames.f k t409 t412).bind fun t428 => ((impl_TermNames.f k t400 t403).bind fun t431 => ((laws_sameInts.f k t428 t431).bind fun t434 => (if t434 = true then (if t422 = t403 then (some ((t419.length : Int) == (t400.length : Int))) else (some false)) else (some false))))) else (some false)) = some r := H
 have A65 := Aside0.mk A650
 clear A650
 have HCh2_ := Aside0.mk H
 clear H
 refine pure_ (i := 9) (N := some 68) (v := ?_) (a' := ?_) (zB 40 767) rfl rfl (any_of HT_.out (by kernel_rfl)) (fun _ _ _ h => h) (Or.inl ⟨by rfl, ?_⟩) ?_ ?_
 rotate_left
 ·intro w'
  go_simp
  with_reducible rfl
 rotate_left
 ·exact zn
 refine pure_ (i := 12) (N := some 71) (v := ?_) (a' := ?_) (zB 40 4863) rfl rfl (any_of HT_.out (by kernel_rfl)) (fun _ _ _ h => h) (Or.inl ⟨by rfl, ?_⟩) ?_ ?_
 rotate_left
 ·intro w'
  go_simp
  with_reducible rfl
 rotate_left
 ·exact zn
 refine take_ (i := 8) (N := some 67) (v := ?_) (a' := ?_) (zB 40 5119) rfl rfl (take_ofW HT_.out HW_.out (by kernel_rfl)) (fun _ _ _ h => h) (Or.inl ⟨by rfl, ?_⟩) hHeld ?_ ?_
 rotate_left
 ·rintro w' ⟨s0, s1, s2⟩
  go_simp
  with_reducible rfl
 rotate_left
 ·exact zn
 refine take_ (i := 11) (N := some 70) (v := ?_) (a' := ?_) (zB 40 7167) rfl rfl (take_ofW HT_.out HW_.out (by kernel_rfl)) (fun _ _ _ h => h) (Or.inl ⟨by rfl, ?_⟩) hHeld ?_ ?_
 rotate_left
 ·rintro w' ⟨s0, s1, s2⟩
  go_simp
  with_reducible rfl
 rotate_left
 ·exact zn
 refine one_ (i := 10) (N := some 69) (zB 40 8191) rfl rfl (one_of HT_.out (by kernel_rfl)) (by decide) (fun K hK => ?_)
 refine goes_ Try.func21 (by kernel_rfl) rfl #[.agg #[.slice Ao82 t409.length co82], .int .i64 t412] (by rfl) rfl rfl zl ?_
 with_reducible refine (impl_TermDeep.calls k _ _ t409 t412 t426 _ ?side1 ?side2 A64.out).mono ?_
 (case side1 => exact zc (Kd.R_reads' HO411.out).2.2)
 (case side2 => exact (Kd.R_reads' HO411.out).2.1)
 rintro e w109 ⟨rfl, hb⟩
 refine ⟨_, rfl, ?_⟩
 have n0_ := Aside0.mk (Kd.R_below (zr HO402.out) hb)
 have n1_ := Aside0.mk (Kd.R_below (zr HO406.out) hb)
 have n2_ := Aside0.mk (Kd.R_below (zr HO411.out) hb)
 have n3_ := Aside0.mk (Kd.R_below (zr HO416.out) hb)
 have n4_ := Aside0.mk (Kd.R_below (zr HO421.out) hb)
 have n5_ := Aside0.mk (blk_below (zh BK407.out) hb)
 have n6_ := Aside0.mk (blk_below (zh BK408.out) hb)
 have n7_ := Aside0.mk (blk_below (zh BK413.out) hb)
 have n8_ := Aside0.mk (blk_below (zh BK418.out) hb)
 have n9_ := Aside0.mk (blk_below (zh BK423.out) hb)
 have n10_ := Aside0.mk (below_step (zb HB.out) hb)
 clear HO402 HO406 HO411 HO416 HO421 BK407 BK408 BK413 BK418 BK423 HB
 have HO402 := n0_
 have HO406 := n1_
 have HO411 := n2_
 have HO416 := n3_
 have HO421 := n4_
 have BK407 := n5_
 have BK408 := n6_
 have BK413 := n7_
 have BK418 := n8_
 have BK423 := n9_
 have HB := n10_
 clear n0_ n1_ n2_ n3_ n4_ n5_ n6_ n7_ n8_ n9_ n10_
 (try clear hb)
 (try clear hb2)
 (try clear hk)
 (try clear hi)
 refine hK.out _ _ ⟨(blk_cell BK413.out 0).trans rfl, (blk_cell BK407.out 0).trans rfl, (blk_cell BK423.out 0).trans rfl⟩ (fun hHeld => ?_)
 clear hK K
 refine norm_ (a' := ?_) ?_ ?_
 rotate_left
 ·exact zn (N := some 69)
 refine one_ (i := 13) (N := some 72) (zB 40 16383) rfl rfl (one_of HT_.out (by kernel_rfl)) (by decide) (fun K hK => ?_)
 refine goes_ Try.func21 (by kernel_rfl) rfl #[.agg #[.slice Ao75 t400.length co75], .int .i64 t403] (by rfl) rfl rfl zl ?_
 with_reducible refine (impl_TermDeep.calls k _ _ t400 t403 t427 _ ?side1 ?side2 A65.out).mono ?_
 (case side1 => exact zc (Kd.R_reads' HO402.out).2.2)
 (case side2 => exact (Kd.R_reads' HO402.out).2.1)
 rintro e w110 ⟨rfl, hb⟩
 refine ⟨_, rfl, ?_⟩
 have n0_ := Aside0.mk (Kd.R_below (zr HO402.out) hb)
 have n1_ := Aside0.mk (Kd.R_below (zr HO406.out) hb)
 have n2_ := Aside0.mk (Kd.R_below (zr HO411.out) hb)
 have n3_ := Aside0.mk (Kd.R_below (zr HO416.out) hb)
 have n4_ := Aside0.mk (Kd.R_below (zr HO421.out) hb)
 have n5_ := Aside0.mk (blk_below (zh BK407.out) hb)
 have n6_ := Aside0.mk (blk_below (zh BK408.out) hb)
 have n7_ := Aside0.mk (blk_below (zh BK413.out) hb)
 have n8_ := Aside0.mk (blk_below (zh BK418.out) hb)
 have n9_ := Aside0.mk (blk_below (zh BK423.out) hb)
 have n10_ := Aside0.mk (below_step (zb HB.out) hb)
 clear HO402 HO406 HO411 HO416 HO421 BK407 BK408 BK413 BK418 BK423 HB
 have HO402 := n0_
 have HO406 := n1_
 have HO411 := n2_
 have HO416 := n3_
 have HO421 := n4_
 have BK407 := n5_
 have BK408 := n6_
 have BK413 := n7_
 have BK418 := n8_
 have BK423 := n9_
 have HB := n10_
 clear n0_ n1_ n2_ n3_ n4_ n5_ n6_ n7_ n8_ n9_ n10_
 (try clear hb)
 (try clear hb2)
 (try clear hk)
 (try clear hi)
 refine hK.out _ _ ⟨(blk_cell BK413.out 0).trans rfl, (blk_cell BK407.out 0).trans rfl, (blk_cell BK423.out 0).trans rfl⟩ (fun hHeld => ?_)
 clear hK K
 refine norm_ (a' := ?_) ?_ ?_
 rotate_left
 ·exact zn (N := some 72)
 refine pure_ (i := 14) (N := some 73) (v := ?_) (a' := ?_) (zB 40 32767) rfl rfl (any_of HT_.out (by kernel_rfl)) (fun _ _ _ h => h) (Or.inl ⟨by rfl, ?_⟩) ?_ ?_
 rotate_left
 ·intro w'
  go_simp
  with_reducible rfl
 rotate_left
 ·exact zn
 refine pure_ (i := 15) (N := some 74) (v := ?_) (a' := ?_) (zB 40 65535) rfl rfl (any_of HT_.out (by kernel_rfl)) (fun _ _ _ h => h) (Or.inl ⟨by rfl, ?_⟩) ?_ ?_
 rotate_left
 ·intro w'
  go_simp
  with_reducible rfl
 rotate_left
 ·exact zn
 refine pure_ (i := 16) (N := some 75) (v := ?_) (a' := ?_) (zB 40 131071) rfl rfl (any_of HT_.out (by kernel_rfl)) (fun _ _ _ h => h) (Or.inl ⟨by rfl, ?_⟩) ?_ ?_
 rotate_left
 ·intro w'
  go_simp
  with_reducible rfl
 rotate_left
 ·exact zn
 have H := HCh2_.out
 clear HCh2_
 by_cases c66 : t426 = t427
 rotate_left
 ·rw [if_neg c66] at H
  have c66b0 : (t426 == t427) = false := beq_eq_false_iff_ne.mpr c66
  have c66b1 : (t426 != t427) = true := bne_iff_ne.mpr c66
  (try rw [c66b0])
  (try rw [c66b1])
  obtain rfl := Option.some.inj H
  refine pure_ (i := 17) (N := some 76) (v := undef) (a' := ?_) (zB 40 262143) rfl rfl (any_of HT_.out (by kernel_rfl)) (fun _ _ _ h => h) (Or.inr ⟨by rfl, rfl⟩) ?_ ?_
  rotate_left
  ·exact zn
  refine pure_ (i := 18) (N := some 77) (v := undef) (a' := ?_) (zB 40 524287) rfl rfl (any_of HT_.out (by kernel_rfl)) (fun _ _ _ h => h) (Or.inr ⟨by rfl, rfl⟩) ?_ ?_
  rotate_left
  ·exact zn
  refine pure_ (i := 19) (N := some 78) (v := undef) (a' := ?_) (zB 40 1048575) rfl rfl (any_of HT_.out (by kernel_rfl)) (fun _ _ _ h => h) (Or.inr ⟨by rfl, rfl⟩) ?_ ?_
  rotate_left
  ·exact zn
  refine pure_ (i := 20) (N := some 79) (v := undef) (a' := ?_) (zB 40 2097151) rfl rfl (any_of HT_.out (by kernel_rfl)) (fun _ _ _ h => h) (Or.inr ⟨by rfl, rfl⟩) ?_ ?_
  rotate_left
  ·exact zn
  refine pure_ (i := 21) (N := some 80) (v := undef) (a' := ?_) (zB 40 4194303) rfl rfl (any_of HT_.out (by kernel_rfl)) (fun _ _ _ h => h) (Or.inr ⟨by rfl, rfl⟩) ?_ ?_
  rotate_left
  ·exact zn
  refine pure_ (i := 22) (N := some 81) (v := undef) (a' := ?_) (zB 40 8388607) rfl rfl (any_of HT_.out (by kernel_rfl)) (fun _ _ _ h => h) (Or.inr ⟨by rfl, rfl⟩) ?_ ?_
  rotate_left
  ·exact zn
  refine pure_ (i := 23) (N := some 82) (v := undef) (a' := ?_) (zB 40 16777215) rfl rfl (any_of HT_.out (by kernel_rfl)) (fun _ _ _ h => h) (Or.inr ⟨by rfl, rfl⟩) ?_ ?_
  rotate_left
  ·exact zn
  refine pure_ (i := 24) (N := some 83) (v := ?_) (a' := ?_) (zB 40 33554431) rfl rfl (any_of HT_.out (by kernel_rfl)) (fun _ _ _ h => h) (Or.inl ⟨by rfl, ?_⟩) ?_ ?_
  rotate_left
  ·intro w'
   go_simp
   with_reducible rfl
  rotate_left
  ·exact zn
  refine pure_ (i := 25) (N := some 84) (v := ?_) (a' := ?_) (zB 40 67108863) rfl rfl (any_of HT_.out (by kernel_rfl)) (fun _ _ _ h => h) (Or.inl ⟨by rfl, ?_⟩) ?_ ?_
  rotate_left
  ·intro w'
   go_simp
   with_reducible rfl
  rotate_left
  ·exact zn
  refine pure_ (i := 26) (N := some 85) (v := undef) (a' := ?_) (zB 40 134217727) rfl rfl (any_of HT_.out (by kernel_rfl)) (fun _ _ _ h => h) (Or.inr ⟨by rfl, rfl⟩) ?_ ?_
  rotate_left
  ·exact zn
  refine pure_ (i := 27) (N := some 86) (v := undef) (a' := ?_) (zB 40 268435455) rfl rfl (any_of HT_.out (by kernel_rfl)) (fun _ _ _ h => h) (Or.inr ⟨by rfl, rfl⟩) ?_ ?_
  rotate_left
  ·exact zn
  refine pure_ (i := 28) (N := some 87) (v := undef) (a' := ?_) (zB 40 536870911) rfl rfl (any_of HT_.out (by kernel_rfl)) (fun _ _ _ h => h) (Or.inr ⟨by rfl, rfl⟩) ?_ ?_
  rotate_left
  ·exact zn
  refine pure_ (i := 29) (N := some 88) (v := ?_) (a' := ?_) (zB 40 1073741823) rfl rfl (any_of HT_.out (by kernel_rfl)) (fun _ _ _ h => h) (Or.inl ⟨by rfl, ?_⟩) ?_ ?_
  rotate_left
  ·intro w'
   go_simp
   with_reducible rfl
  rotate_left
  ·exact zn
  refine pure_ (i := 30) (N := some 89) (v := ?_) (a' := ?_) (zB 40 2147483647) rfl rfl (any_of HT_.out (by kernel_rfl)) (fun _ _ _ h => h) (Or.inl ⟨by rfl, ?_⟩) ?_ ?_
  rotate_left
  ·intro w'
   go_simp
   with_reducible rfl
  rotate_left
  ·exact zn
  refine pure_ (i := 31) (N := some 90) (v := undef) (a' := ?_) (zB 40 4294967295) rfl rfl (any_of HT_.out (by kernel_rfl)) (fun _ _ _ h => h) (Or.inr ⟨by rfl, rfl⟩) ?_ ?_
  rotate_left
  ·exact zn
  refine pure_ (i := 32) (N := some 91) (v := undef) (a' := ?_) (zB 40 8589934591) rfl rfl (any_of HT_.out (by kernel_rfl)) (fun _ _ _ h => h) (Or.inr ⟨by rfl, rfl⟩) ?_ ?_
  rotate_left
  ·exact zn
  refine pure_ (i := 33) (N := some 92) (v := undef) (a' := ?_) (zB 40 17179869183) rfl rfl (any_of HT_.out (by kernel_rfl)) (fun _ _ _ h => h) (Or.inr ⟨by rfl, rfl⟩) ?_ ?_
  rotate_left
  ·exact zn
  refine pure_ (i := 34) (N := some 93) (v := undef) (a' := ?_) (zB 40 34359738367) rfl rfl (any_of HT_.out (by kernel_rfl)) (fun _ _ _ h => h) (Or.inr ⟨by rfl, rfl⟩) ?_ ?_
  rotate_left
  ·exact zn
  refine pure_ (i := 35) (N := some 94) (v := undef) (a' := ?_) (zB 40 68719476735) rfl rfl (any_of HT_.out (by kernel_rfl)) (fun _ _ _ h => h) (Or.inr ⟨by rfl, rfl⟩) ?_ ?_
  rotate_left
  ·exact zn
  refine pure_ (i := 36) (N := some 95) (v := undef) (a' := ?_) (zB 40 137438953471) rfl rfl (any_of HT_.out (by kernel_rfl)) (fun _ _ _ h => h) (Or.inr ⟨by rfl, rfl⟩) ?_ ?_
  rotate_left
  ·exact zn
  refine pure_ (i := 37) (N := some 96) (v := undef) (a' := ?_) (zB 40 274877906943) rfl rfl (any_of HT_.out (by kernel_rfl)) (fun _ _ _ h => h) (Or.inr ⟨by rfl, rfl⟩) ?_ ?_
  rotate_left
  ·exact zn
  refine pure_ (i := 38) (N := some 97) (v := ?_) (a' := ?_) (zB 40 549755813887) rfl rfl (any_of HT_.out (by kernel_rfl)) (fun _ _ _ h => h) (Or.inl ⟨by rfl, ?_⟩) ?_ ?_
  rotate_left
  ·intro w'
   go_simp
   with_reducible rfl
  rotate_left
  ·exact zn
  refine pure_ (i := 39) (N := some 2) (v := ?_) (a' := ?_) (zB 40 1099511627775) rfl rfl (any_of HT_.out (by kernel_rfl)) (fun _ _ _ h => h) (Or.inl ⟨by rfl, ?_⟩) ?_ ?_
  rotate_left
  ·intro w'
   go_simp
   with_reducible rfl
  rotate_left
  ·exact zn
  refine done_ (done_of HT_.out (by kernel_rfl)) ?_
  try go_wp2
  go_ret
  exact ⟨ze, zb HB.out⟩
 rw [if_pos c66] at H
 have c66b0 : (t426 == t427) = true := beq_iff_eq.mpr c66
 have c66b1 : (t426 != t427) = false := bne_eq_false_iff_eq.mpr c66
 (try rw [c66b0])
 (try rw [c66b1])
 clear c66
 replace H := Option.bind_eq_some_iff.mp H
 obtain ⟨t428, A670, H⟩ := H
 replace H : ((impl_TermNames.f k t400 t403).bind fun t431 => ((laws_sameInts.f k t428 t431).bind fun t434 => (if t434 = true then (if t422 = t403 then (some ((t419.length : Int) == (t400.length : Int))) else (some false)) else (some false)))) = some r := H
 have A67 := Aside0.mk A670
 clear A670
 replace H := Option.bind_eq_some_iff.mp H
 obtain ⟨t431, A680, H⟩ := H
 replace H : ((laws_sameInts.f k t428 t431).bind fun t434 => (if t434 = true then (if t422 = t403 then (some ((t419.length : Int) == (t400.length : Int))) else (some false)) else (some false))) = some r := H
 have A68 := Aside0.mk A680
 clear A680
 replace H := Option.bind_eq_some_iff.mp H
 obtain ⟨t434, A690, H⟩ := H
 replace H : (if t434 = true then (if t422 = t403 then (some ((t419.length : Int) == (t400.length : Int))) else (some false)) else (some false)) = some r := H
 have A69 := Aside0.mk A690
 clear A690
 have HCh3_ := Aside0.mk H
 clear H
 refine pure_ (i := 18) (N := some 77) (v := ?_) (a' := ?_) (zB 40 393215) rfl rfl (any_of HT_.out (by kernel_rfl)) (fun _ _ _ h => h) (Or.inl ⟨by rfl, ?_⟩) ?_ ?_
 rotate_left
 ·intro w'
  go_simp
  with_reducible rfl
 rotate_left
 ·exact zn
 refine pure_ (i := 21) (N := some 80) (v := ?_) (a' := ?_) (zB 40 2490367) rfl rfl (any_of HT_.out (by kernel_rfl)) (fun _ _ _ h => h) (Or.inl ⟨by rfl, ?_⟩) ?_ ?_
 rotate_left
 ·intro w'
  go_simp
  with_reducible rfl
 rotate_left
 ·exact zn
 refine take_ (i := 17) (N := some 76) (v := ?_) (a' := ?_) (zB 40 2621439) rfl rfl (take_ofW HT_.out HW_.out (by kernel_rfl)) (fun _ _ _ h => h) (Or.inl ⟨by rfl, ?_⟩) hHeld ?_ ?_
 rotate_left
 ·rintro w' ⟨s0, s1, s2⟩
  go_simp
  with_reducible rfl
 rotate_left
 ·exact zn
 refine take_ (i := 20) (N := some 79) (v := ?_) (a' := ?_) (zB 40 3670015) rfl rfl (take_ofW HT_.out HW_.out (by kernel_rfl)) (fun _ _ _ h => h) (Or.inl ⟨by rfl, ?_⟩) hHeld ?_ ?_
 rotate_left
 ·rintro w' ⟨s0, s1, s2⟩
  go_simp
  with_reducible rfl
 rotate_left
 ·exact zn
 refine one_ (i := 19) (N := some 78) (zB 40 4194303) rfl rfl (one_of HT_.out (by kernel_rfl)) (by decide) (fun K hK => ?_)
 refine goes_ Try.func23 (by kernel_rfl) rfl #[.agg #[.slice Ao82 t409.length co82], .int .i64 t412] (by rfl) rfl rfl zl ?_
 with_reducible refine (impl_TermNames.calls k _ _ t409 t412 t428 _ ?side1 ?side2 A67.out).mono ?_
 (case side1 => exact zc (Kd.R_reads' HO411.out).2.2)
 (case side2 => exact (Kd.R_reads' HO411.out).2.1)
 rintro e w111 ⟨v429, rfl, ho0, hb⟩
 refine ⟨_, rfl, ?_⟩
 have n0_ := Aside0.mk (Kd.R_below (zr HO402.out) hb)
 have n1_ := Aside0.mk (Kd.R_below (zr HO406.out) hb)
 have n2_ := Aside0.mk (Kd.R_below (zr HO411.out) hb)
 have n3_ := Aside0.mk (Kd.R_below (zr HO416.out) hb)
 have n4_ := Aside0.mk (Kd.R_below (zr HO421.out) hb)
 have n5_ := Aside0.mk (Kd.R_lower ho0 (below_size (zb HB.out)))
 have n6_ := Aside0.mk (blk_below (zh BK407.out) hb)
 have n7_ := Aside0.mk (blk_below (zh BK408.out) hb)
 have n8_ := Aside0.mk (blk_below (zh BK413.out) hb)
 have n9_ := Aside0.mk (blk_below (zh BK418.out) hb)
 have n10_ := Aside0.mk (blk_below (zh BK423.out) hb)
 have n11_ := Aside0.mk (below_step (zb HB.out) hb)
 clear HO402 HO406 HO411 HO416 HO421 BK407 BK408 BK413 BK418 BK423 HB
 have HO402 := n0_
 have HO406 := n1_
 have HO411 := n2_
 have HO416 := n3_
 have HO421 := n4_
 have HO430 := n5_
 have BK407 := n6_
 have BK408 := n7_
 have BK413 := n8_
 have BK418 := n9_
 have BK423 := n10_
 have HB := n11_
 clear n0_ n1_ n2_ n3_ n4_ n5_ n6_ n7_ n8_ n9_ n10_ n11_
 (try clear hb)
 (try clear hb2)
 (try clear hk)
 (try clear hi)
 (try clear ho0)
 refine hK.out _ _ ⟨(blk_cell BK413.out 0).trans rfl, (blk_cell BK407.out 0).trans rfl, (blk_cell BK423.out 0).trans rfl⟩ (fun hHeld => ?_)
 clear hK K
 refine norm_ (a' := ?_) ?_ ?_
 rotate_left
 ·exact zn (N := some 78)
 refine one_ (i := 22) (N := some 81) (zB 40 8388607) rfl rfl (one_of HT_.out (by kernel_rfl)) (by decide) (fun K hK => ?_)
 refine goes_ Try.func23 (by kernel_rfl) rfl #[.agg #[.slice Ao75 t400.length co75], .int .i64 t403] (by rfl) rfl rfl zl ?_
 with_reducible refine (impl_TermNames.calls k _ _ t400 t403 t431 _ ?side1 ?side2 A68.out).mono ?_
 (case side1 => exact zc (Kd.R_reads' HO402.out).2.2)
 (case side2 => exact (Kd.R_reads' HO402.out).2.1)
 rintro e w112 ⟨v432, rfl, ho0, hb⟩
 refine ⟨_, rfl, ?_⟩
 have n0_ := Aside0.mk (Kd.R_below (zr HO402.out) hb)
 have n1_ := Aside0.mk (Kd.R_below (zr HO406.out) hb)
 have n2_ := Aside0.mk (Kd.R_below (zr HO411.out) hb)
 have n3_ := Aside0.mk (Kd.R_below (zr HO416.out) hb)
 have n4_ := Aside0.mk (Kd.R_below (zr HO421.out) hb)
 have n5_ := Aside0.mk (Kd.R_elder' (zr HO430.out) (Kd.R_base ho0) hb)
 have n6_ := Aside0.mk (Kd.R_lower (Kd.R_new' ho0 (Kd.R_lt (zr HO430.out))) (below_size (zb HB.out)))
 have n7_ := Aside0.mk (blk_below (zh BK407.out) hb)
 have n8_ := Aside0.mk (blk_below (zh BK408.out) hb)
 have n9_ := Aside0.mk (blk_below (zh BK413.out) hb)
 have n10_ := Aside0.mk (blk_below (zh BK418.out) hb)
 have n11_ := Aside0.mk (blk_below (zh BK423.out) hb)
 have n12_ := Aside0.mk (below_step (zb HB.out) hb)
 clear HO402 HO406 HO411 HO416 HO421 HO430 BK407 BK408 BK413 BK418 BK423 HB
 have HO402 := n0_
 have HO406 := n1_
 have HO411 := n2_
 have HO416 := n3_
 have HO421 := n4_
 have HO430 := n5_
 have HO433 := n6_
 have BK407 := n7_
 have BK408 := n8_
 have BK413 := n9_
 have BK418 := n10_
 have BK423 := n11_
 have HB := n12_
 clear n0_ n1_ n2_ n3_ n4_ n5_ n6_ n7_ n8_ n9_ n10_ n11_ n12_
 (try clear hb)
 (try clear hb2)
 (try clear hk)
 (try clear hi)
 (try clear ho0)
 obtain ⟨Ao113, co113, eo113⟩ := Kd.R_slice HO430.out
 (first | subst eo113 | (injection eo113 with f1_ f2_ f3_; have f4_ := f1_.symm; have f5_ := f3_.symm; clear f1_ f2_ f3_; subst f4_; subst f5_))
 obtain ⟨Ao114, co114, eo114⟩ := Kd.R_slice HO433.out
 (first | subst eo114 | (injection eo114 with f1_ f2_ f3_; have f4_ := f1_.symm; have f5_ := f3_.symm; clear f1_ f2_ f3_; subst f4_; subst f5_))
 refine hK.out _ _ ⟨(blk_cell BK413.out 0).trans rfl, (blk_cell BK407.out 0).trans rfl, (blk_cell BK423.out 0).trans rfl⟩ (fun hHeld => ?_)
 clear hK K
 refine norm_ (a' := ?_) ?_ ?_
 rotate_left
 ·exact zn (N := some 81)
 have H := HCh3_.out
 clear HCh3_
 by_cases c70 : t434 = true
 rotate_left
 ·replace c70 := Bool.eq_false_iff.mpr c70
  subst c70
  have H1 : (some false) = some r := by rw [if_neg (show ¬ (false = true) by decide)] at H; exact H
  clear H
  have H := H1
  clear H1
  obtain rfl := Option.some.inj H
  refine one_ (i := 23) (N := some 82) (zB 40 16777215) rfl rfl (one_of HT_.out (by kernel_rfl)) (by decide) (fun K hK => ?_)
  refine goes_ Try.func22 (by kernel_rfl) rfl #[.slice Ao113 t428.length co113, .slice Ao114 t431.length co114] (by rfl) rfl rfl zl ?_
  with_reducible refine (laws_sameInts.calls k _ _ t428 _ _ t431 false _ ?side1 ?side2 ?side3 ?side4 A69.out).mono ?_
  (case side1 => exact zc (Kd.R_reads' HO430.out).2.2)
  (case side2 => exact (Kd.R_reads' HO430.out).2.1)
  (case side3 => exact zc (Kd.R_reads' HO433.out).2.2)
  (case side4 => exact (Kd.R_reads' HO433.out).2.1)
  rintro e w' ⟨rfl, ⟨nd, rfl⟩⟩
  refine ⟨_, rfl, ?_⟩
  refine hK.out _ _ ⟨(blk_cell BK413.out 0).trans rfl, (blk_cell BK407.out 0).trans rfl, (blk_cell BK423.out 0).trans rfl⟩ (fun hHeld => ?_)
  clear hK K
  refine norm_ (a' := ?_) ?_ ?_
  rotate_left
  ·exact zn (N := some 82)
  refine pure_ (i := 24) (N := some 83) (v := ?_) (a' := ?_) (zB 40 33554431) rfl rfl (any_of HT_.out (by kernel_rfl)) (fun _ _ _ h => h) (Or.inl ⟨by rfl, ?_⟩) ?_ ?_
  rotate_left
  ·intro w'
   go_simp
   with_reducible rfl
  rotate_left
  ·exact zn
  refine pure_ (i := 25) (N := some 84) (v := ?_) (a' := ?_) (zB 40 67108863) rfl rfl (any_of HT_.out (by kernel_rfl)) (fun _ _ _ h => h) (Or.inl ⟨by rfl, ?_⟩) ?_ ?_
  rotate_left
  ·intro w'
   go_simp
   with_reducible rfl
  rotate_left
  ·exact zn
  refine pure_ (i := 26) (N := some 85) (v := undef) (a' := ?_) (zB 40 134217727) rfl rfl (any_of HT_.out (by kernel_rfl)) (fun _ _ _ h => h) (Or.inr ⟨by rfl, rfl⟩) ?_ ?_
  rotate_left
  ·exact zn
  refine pure_ (i := 27) (N := some 86) (v := undef) (a' := ?_) (zB 40 268435455) rfl rfl (any_of HT_.out (by kernel_rfl)) (fun _ _ _ h => h) (Or.inr ⟨by rfl, rfl⟩) ?_ ?_
  rotate_left
  ·exact zn
  refine pure_ (i := 28) (N := some 87) (v := undef) (a' := ?_) (zB 40 536870911) rfl rfl (any_of HT_.out (by kernel_rfl)) (fun _ _ _ h => h) (Or.inr ⟨by rfl, rfl⟩) ?_ ?_
  rotate_left
  ·exact zn
  refine pure_ (i := 29) (N := some 88) (v := ?_) (a' := ?_) (zB 40 1073741823) rfl rfl (any_of HT_.out (by kernel_rfl)) (fun _ _ _ h => h) (Or.inl ⟨by rfl, ?_⟩) ?_ ?_
  rotate_left
  ·intro w'
   go_simp
   with_reducible rfl
  rotate_left
  ·exact zn
  refine pure_ (i := 30) (N := some 89) (v := ?_) (a' := ?_) (zB 40 2147483647) rfl rfl (any_of HT_.out (by kernel_rfl)) (fun _ _ _ h => h) (Or.inl ⟨by rfl, ?_⟩) ?_ ?_
  rotate_left
  ·intro w'
   go_simp
   with_reducible rfl
  rotate_left
  ·exact zn
  refine pure_ (i := 31) (N := some 90) (v := undef) (a' := ?_) (zB 40 4294967295) rfl rfl (any_of HT_.out (by kernel_rfl)) (fun _ _ _ h => h) (Or.inr ⟨by rfl, rfl⟩) ?_ ?_
  rotate_left
  ·exact zn
  refine pure_ (i := 32) (N := some 91) (v := undef) (a' := ?_) (zB 40 8589934591) rfl rfl (any_of HT_.out (by kernel_rfl)) (fun _ _ _ h => h) (Or.inr ⟨by rfl, rfl⟩) ?_ ?_
  rotate_left
  ·exact zn
  refine pure_ (i := 33) (N := some 92) (v := undef) (a' := ?_) (zB 40 17179869183) rfl rfl (any_of HT_.out (by kernel_rfl)) (fun _ _ _ h => h) (Or.inr ⟨by rfl, rfl⟩) ?_ ?_
  rotate_left
  ·exact zn
  refine pure_ (i := 34) (N := some 93) (v := undef) (a' := ?_) (zB 40 34359738367) rfl rfl (any_of HT_.out (by kernel_rfl)) (fun _ _ _ h => h) (Or.inr ⟨by rfl, rfl⟩) ?_ ?_
  rotate_left
  ·exact zn
  refine pure_ (i := 35) (N := some 94) (v := undef) (a' := ?_) (zB 40 68719476735) rfl rfl (any_of HT_.out (by kernel_rfl)) (fun _ _ _ h => h) (Or.inr ⟨by rfl, rfl⟩) ?_ ?_
  rotate_left
  ·exact zn
  refine pure_ (i := 36) (N := some 95) (v := undef) (a' := ?_) (zB 40 137438953471) rfl rfl (any_of HT_.out (by kernel_rfl)) (fun _ _ _ h => h) (Or.inr ⟨by rfl, rfl⟩) ?_ ?_
  rotate_left
  ·exact zn
  refine pure_ (i := 37) (N := some 96) (v := undef) (a' := ?_) (zB 40 274877906943) rfl rfl (any_of HT_.out (by kernel_rfl)) (fun _ _ _ h => h) (Or.inr ⟨by rfl, rfl⟩) ?_ ?_
  rotate_left
  ·exact zn
  refine pure_ (i := 38) (N := some 97) (v := ?_) (a' := ?_) (zB 40 549755813887) rfl rfl (any_of HT_.out (by kernel_rfl)) (fun _ _ _ h => h) (Or.inl ⟨by rfl, ?_⟩) ?_ ?_
  rotate_left
  ·intro w'
   go_simp
   with_reducible rfl
  rotate_left
  ·exact zn
  refine pure_ (i := 39) (N := some 2) (v := ?_) (a' := ?_) (zB 40 1099511627775) rfl rfl (any_of HT_.out (by kernel_rfl)) (fun _ _ _ h => h) (Or.inl ⟨by rfl, ?_⟩) ?_ ?_
  rotate_left
  ·intro w'
   go_simp
   with_reducible rfl
  rotate_left
  ·exact zn
  refine done_ (done_of HT_.out (by kernel_rfl)) ?_
  try go_wp2
  go_ret
  exact ⟨ze, zb HB.out⟩
 subst c70
 have H1 : (if t422 = t403 then (some ((t419.length : Int) == (t400.length : Int))) else (some false)) = some r := by rw [if_pos rfl] at H; exact H
 clear H
 have H := H1
 clear H1
 have HCh4_ := Aside0.mk H
 clear H
 refine one_ (i := 23) (N := some 82) (zB 40 16777215) rfl rfl (one_of HT_.out (by kernel_rfl)) (by decide) (fun K hK => ?_)
 refine goes_ Try.func22 (by kernel_rfl) rfl #[.slice Ao113 t428.length co113, .slice Ao114 t431.length co114] (by rfl) rfl rfl zl ?_
 with_reducible refine (laws_sameInts.calls k _ _ t428 _ _ t431 true _ ?side1 ?side2 ?side3 ?side4 A69.out).mono ?_
 (case side1 => exact zc (Kd.R_reads' HO430.out).2.2)
 (case side2 => exact (Kd.R_reads' HO430.out).2.1)
 (case side3 => exact zc (Kd.R_reads' HO433.out).2.2)
 (case side4 => exact (Kd.R_reads' HO433.out).2.1)
 rintro e w' ⟨rfl, ⟨nd, rfl⟩⟩
 refine ⟨_, rfl, ?_⟩
 refine hK.out _ _ ⟨(blk_cell BK413.out 0).trans rfl, (blk_cell BK407.out 0).trans rfl, (blk_cell BK423.out 0).trans rfl⟩ (fun hHeld => ?_)
 clear hK K
 refine norm_ (a' := ?_) ?_ ?_
 rotate_left
 ·exact zn (N := some 82)
 refine pure_ (i := 24) (N := some 83) (v := ?_) (a' := ?_) (zB 40 33554431) rfl rfl (any_of HT_.out (by kernel_rfl)) (fun _ _ _ h => h) (Or.inl ⟨by rfl, ?_⟩) ?_ ?_
 rotate_left
 ·intro w'
  go_simp
  with_reducible rfl
 rotate_left
 ·exact zn
 refine pure_ (i := 25) (N := some 84) (v := ?_) (a' := ?_) (zB 40 67108863) rfl rfl (any_of HT_.out (by kernel_rfl)) (fun _ _ _ h => h) (Or.inl ⟨by rfl, ?_⟩) ?_ ?_
 rotate_left
 ·intro w'
  go_simp
  with_reducible rfl
 rotate_left
 ·exact zn
 refine pure_ (i := 26) (N := some 85) (v := ?_) (a' := ?_) (zB 40 134217727) rfl rfl (any_of HT_.out (by kernel_rfl)) (fun _ _ _ h => h) (Or.inl ⟨by rfl, ?_⟩) ?_ ?_
 rotate_left
 ·intro w'
  go_simp
  with_reducible rfl
 rotate_left
 ·exact zn
 refine pure_ (i := 27) (N := some 86) (v := ?_) (a' := ?_) (zB 40 268435455) rfl rfl (any_of HT_.out (by kernel_rfl)) (fun _ _ _ h => h) (Or.inl ⟨by rfl, ?_⟩) ?_ ?_
 rotate_left
 ·intro w'
  go_simp
  with_reducible rfl
 rotate_left
 ·exact zn
 refine pure_ (i := 28) (N := some 87) (v := ?_) (a' := ?_) (zB 40 536870911) rfl rfl (any_of HT_.out (by kernel_rfl)) (fun _ _ _ h => h) (Or.inl ⟨by rfl, ?_⟩) ?_ ?_
 rotate_left
 ·intro w'
  go_simp
  with_reducible rfl
 rotate_left
 ·exact zn
 refine pure_ (i := 29) (N := some 88) (v := ?_) (a' := ?_) (zB 40 1073741823) rfl rfl (any_of HT_.out (by kernel_rfl)) (fun _ _ _ h => h) (Or.inl ⟨by rfl, ?_⟩) ?_ ?_
 rotate_left
 ·intro w'
  go_simp
  with_reducible rfl
 rotate_left
 ·exact zn
 refine pure_ (i := 30) (N := some 89) (v := ?_) (a' := ?_) (zB 40 2147483647) rfl rfl (any_of HT_.out (by kernel_rfl)) (fun _ _ _ h => h) (Or.inl ⟨by rfl, ?_⟩) ?_ ?_
 rotate_left
 ·intro w'
  go_simp
  with_reducible rfl
 rotate_left
 ·exact zn
 have H := HCh4_.out
 clear HCh4_
 by_cases c71 : t422 = t403
 rotate_left
 ·rw [if_neg c71] at H
  have c71b0 : (t422 == t403) = false := beq_eq_false_iff_ne.mpr c71
  have c71b1 : (t422 != t403) = true := bne_iff_ne.mpr c71
  (try rw [c71b0])
  (try rw [c71b1])
  obtain rfl := Option.some.inj H
  refine pure_ (i := 31) (N := some 90) (v := undef) (a' := ?_) (zB 40 4294967295) rfl rfl (any_of HT_.out (by kernel_rfl)) (fun _ _ _ h => h) (Or.inr ⟨by rfl, rfl⟩) ?_ ?_
  rotate_left
  ·exact zn
  refine pure_ (i := 32) (N := some 91) (v := undef) (a' := ?_) (zB 40 8589934591) rfl rfl (any_of HT_.out (by kernel_rfl)) (fun _ _ _ h => h) (Or.inr ⟨by rfl, rfl⟩) ?_ ?_
  rotate_left
  ·exact zn
  refine pure_ (i := 33) (N := some 92) (v := undef) (a' := ?_) (zB 40 17179869183) rfl rfl (any_of HT_.out (by kernel_rfl)) (fun _ _ _ h => h) (Or.inr ⟨by rfl, rfl⟩) ?_ ?_
  rotate_left
  ·exact zn
  refine pure_ (i := 34) (N := some 93) (v := undef) (a' := ?_) (zB 40 34359738367) rfl rfl (any_of HT_.out (by kernel_rfl)) (fun _ _ _ h => h) (Or.inr ⟨by rfl, rfl⟩) ?_ ?_
  rotate_left
  ·exact zn
  refine pure_ (i := 35) (N := some 94) (v := undef) (a' := ?_) (zB 40 68719476735) rfl rfl (any_of HT_.out (by kernel_rfl)) (fun _ _ _ h => h) (Or.inr ⟨by rfl, rfl⟩) ?_ ?_
  rotate_left
  ·exact zn
  refine pure_ (i := 36) (N := some 95) (v := undef) (a' := ?_) (zB 40 137438953471) rfl rfl (any_of HT_.out (by kernel_rfl)) (fun _ _ _ h => h) (Or.inr ⟨by rfl, rfl⟩) ?_ ?_
  rotate_left
  ·exact zn
  refine pure_ (i := 37) (N := some 96) (v := undef) (a' := ?_) (zB 40 274877906943) rfl rfl (any_of HT_.out (by kernel_rfl)) (fun _ _ _ h => h) (Or.inr ⟨by rfl, rfl⟩) ?_ ?_
  rotate_left
  ·exact zn
  refine pure_ (i := 38) (N := some 97) (v := ?_) (a' := ?_) (zB 40 549755813887) rfl rfl (any_of HT_.out (by kernel_rfl)) (fun _ _ _ h => h) (Or.inl ⟨by rfl, ?_⟩) ?_ ?_
  rotate_left
  ·intro w'
   go_simp
   with_reducible rfl
  rotate_left
  ·exact zn
  refine pure_ (i := 39) (N := some 2) (v := ?_) (a' := ?_) (zB 40 1099511627775) rfl rfl (any_of HT_.out (by kernel_rfl)) (fun _ _ _ h => h) (Or.inl ⟨by rfl, ?_⟩) ?_ ?_
  rotate_left
  ·intro w'
   go_simp
   with_reducible rfl
  rotate_left
  ·exact zn
  refine done_ (done_of HT_.out (by kernel_rfl)) ?_
  try go_wp2
  go_ret
  exact ⟨ze, zb HB.out⟩
 rw [if_pos c71] at H
 have c71b0 : (t422 == t403) = true := beq_iff_eq.mpr c71
 have c71b1 : (t422 != t403) = false := bne_eq_false_iff_eq.mpr c71
 (try rw [c71b0])
 (try rw [c71b1])
 clear c71
 obtain rfl := Option.some.inj H
 refine pure_ (i := 31) (N := some 90) (v := ?_) (a' := ?_) (zB 40 4294967295) rfl rfl (any_of HT_.out (by kernel_rfl)) (fun _ _ _ h => h) (Or.inl ⟨by rfl, ?_⟩) ?_ ?_
 rotate_left
 ·intro w'
  go_simp
  with_reducible rfl
 rotate_left
 ·exact zn
 refine pure_ (i := 34) (N := some 93) (v := ?_) (a' := ?_) (zB 40 21474836479) rfl rfl (any_of HT_.out (by kernel_rfl)) (fun _ _ _ h => h) (Or.inl ⟨by rfl, ?_⟩) ?_ ?_
 rotate_left
 ·intro w'
  go_simp
  with_reducible rfl
 rotate_left
 ·exact zn
 refine take_ (i := 32) (N := some 91) (v := ?_) (a' := ?_) (zB 40 25769803775) rfl rfl (take_ofW HT_.out HW_.out (by kernel_rfl)) (fun _ _ _ h => h) (Or.inl ⟨by rfl, ?_⟩) hHeld ?_ ?_
 rotate_left
 ·rintro w' ⟨s0, s1, s2⟩
  go_simp
  with_reducible rfl
 rotate_left
 ·exact zn
 refine pure_ (i := 33) (N := some 92) (v := ?_) (a' := ?_) (zB 40 34359738367) rfl rfl (any_of HT_.out (by kernel_rfl)) (fun _ _ _ h => h) (Or.inl ⟨by rfl, ?_⟩) ?_ ?_
 rotate_left
 ·intro w'
  go_simp
  with_reducible rfl
 rotate_left
 ·exact zn
 refine take_ (i := 35) (N := some 94) (v := ?_) (a' := ?_) (zB 40 68719476735) rfl rfl (take_ofW HT_.out HW_.out (by kernel_rfl)) (fun _ _ _ h => h) (Or.inl ⟨by rfl, ?_⟩) hHeld ?_ ?_
 rotate_left
 ·rintro w' ⟨s0, s1, s2⟩
  go_simp
  with_reducible rfl
 rotate_left
 ·exact zn
 refine pure_ (i := 36) (N := some 95) (v := ?_) (a' := ?_) (zB 40 137438953471) rfl rfl (any_of HT_.out (by kernel_rfl)) (fun _ _ _ h => h) (Or.inl ⟨by rfl, ?_⟩) ?_ ?_
 rotate_left
 ·intro w'
  go_simp
  with_reducible rfl
 rotate_left
 ·exact zn
 refine pure_ (i := 37) (N := some 96) (v := ?_) (a' := ?_) (zB 40 274877906943) rfl rfl (any_of HT_.out (by kernel_rfl)) (fun _ _ _ h => h) (Or.inl ⟨by rfl, ?_⟩) ?_ ?_
 rotate_left
 ·intro w'
  go_simp
  with_reducible rfl
 rotate_left
 ·exact zn
 refine pure_ (i := 38) (N := some 97) (v := ?_) (a' := ?_) (zB 40 549755813887) rfl rfl (any_of HT_.out (by kernel_rfl)) (fun _ _ _ h => h) (Or.inl ⟨by rfl, ?_⟩) ?_ ?_
 rotate_left
 ·intro w'
  go_simp
  with_reducible rfl
 rotate_left
 ·exact zn
 refine pure_ (i := 39) (N := some 2) (v := ?_) (a' := ?_) (zB 40 1099511627775) rfl rfl (any_of HT_.out (by kernel_rfl)) (fun _ _ _ h => h) (Or.inl ⟨by rfl, ?_⟩) ?_ ?_
 rotate_left
 ·intro w'
  go_simp
  with_reducible rfl
 rotate_left
 ·exact zn
 refine done_ (done_of HT_.out (by kernel_rfl)) ?_
 try go_wp2
 go_ret
 exact ⟨ze, zb HB.out⟩
def laws_FnMoved.Pure : Prop := ∀ (l0 : List Int), l0.length ≤ maxLen → l0.length * 1 ≤ 140737488351232 → (∀ x ∈ l0, (Lit.int .u8 x).wf = true) → ∃ k, laws_FnMoved.f k l0 = some true
theorem laws_FnMoved.walk (P : laws_FnMoved.Pure) (a0 : Option Addr) (len0 cap0 : Nat) (z0 : List Int) (w : World) (w0 : (a0 = none ∧ len0 = 0 ∧ cap0 = 0 ∧ z0 = []) ∨ ∃ x, a0 = some x ∧ len0 ≤ cap0 ∧ cap0 ≤ maxLen ∧ z0.length = cap0 ∧ (∀ i, i < z0.length → w.cell? (x.add i) = some (.int .u8 (z0.getD i 0))) ∧ ∀ n ∈ z0, (Lit.int .u8 n).wf = true) (y0 : len0 * 1 ≤ 140737488351232) :
  Calls Try.prog 6 #[.slice a0 len0 cap0] w fun e w' => e = .returned (.bool true) ∧ Below w.heap.size w w' := by
 obtain ⟨l0, rfl, hr0, hm0, hw0, hc0⟩ := ReadsInt.ofRowC w0
 obtain ⟨k, h⟩ := P l0 hm0 y0 hw0
 refine (laws_FnMoved.calls k _ _ l0 true w (Kd.C_of_reads (d := (0 : Int)) (h1 := fun _ => rfl) hr0) hc0 h).mono ?_
 rintro e w' ⟨rfl, hd⟩
 exact ⟨rfl, hd⟩

end Go.Proofs.Ytobkledmbnacjaa.M
end
