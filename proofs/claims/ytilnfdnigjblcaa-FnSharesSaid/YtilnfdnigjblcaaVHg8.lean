import Derived.Test.YtilnfdnigjblcaaVH0
import Derived.Test.YtilnfdnigjblcaaVHg0
import Derived.Test.YtilnfdnigjblcaaVHg1
import Derived.Test.YtilnfdnigjblcaaVHg2
import Derived.Test.YtilnfdnigjblcaaVHg5
import Derived.Test.YtilnfdnigjblcaaVHg6
import Derived.Test.YtilnfdnigjblcaaVHg7
section
-- Written by this session's program (wip/tools/gprint.py over the kit's print) out of the translation; Lean checks it.
namespace Go.Proofs.Ytilnfdnigjblcaa.H
open Go.RowKit Go.Proofs.YtilnfdnigjblcaaW.PrintWords Go.Proofs.YtilnfdnigjblcaaW.PrintLast Go.Proofs.YtilnfdnigjblcaaW.PrintMore
attribute [local go_sem] max2_int min2_int max_two min_two max_three min_three max_four min_four   -- for this text's walks alone
set_option linter.unusedVariables false
set_option linter.unusedSimpArgs false
set_option maxRecDepth 100000

/-! ### laws_FnShares: function 5 -/
mutual
def laws_FnShares.j0 : Nat → List Int → Bool → List (S67) → Option (Bool)
 | 0, _, _, _ => none
 | k + 1, x4, x34, x477000 => if x34 = true then ((impl_MakesAll.f k x477000 x4).bind fun t478 => (if (t478.length : Int) = 0 then (some true) else (some (decide ((x477000.length : Int) > 0))))) else ((impl_NameOf.f k x477000 179).bind fun bt481 => ((spec_NameOf.f k x477000 179).bind fun bt486 => (if bt481.2 = bt486.2.1 then ((impl_KnowOk.f k bt486.2.2 x4).bind fun t492 => (laws_FnShares.j1 k x4 bt481.2 (!t492) bt486.2.2 bt481.1)) else (laws_FnShares.j1 k x4 bt481.2 true bt486.2.2 bt481.1))))
def laws_FnShares.j1 : Nat → List Int → Int → Bool → List (S67) → List (S67) → Option (Bool)
 | 0, _, _, _, _, _ => none
 | k + 1, x4, x6, x64, x477000, x486000 => if x64 = true then (some false) else ((impl_NameOf.f k x486000 180).bind fun bt493 => ((impl_MakePower.f k bt493.1 x6).bind fun bt497 => ((impl_MakePower.f k bt497.1 bt493.2).bind fun bt501 => ((impl_MakeShared.f k bt501.1 bt493.2 x6).bind fun bt505 => (if x6 < (x477000.length : Int) then (laws_FnShares.j2 k x4 x6 bt493.2 bt497.2 bt501.2 bt505.2 true bt505.1) else (if bt493.2 < (x477000.length : Int) then (laws_FnShares.j2 k x4 x6 bt493.2 bt497.2 bt501.2 bt505.2 true bt505.1) else (laws_FnShares.j2 k x4 x6 bt493.2 bt497.2 bt501.2 bt505.2 (decide (bt505.2 < 0)) bt505.1)))))))
def laws_FnShares.j2 : Nat → List Int → Int → Int → Int → Int → Int → Bool → List (S67) → Option (Bool)
 | 0, _, _, _, _, _, _, _, _ => none
 | k + 1, x4, x6, x9, x10, x11, x12, x104, x486000 => if x104 = true then (some true) else ((impl_KnowPut.f k x486000 x4 x10).bind fun bt509 => ((impl_KnowPut.f k x486000 bt509.1 x11).bind fun bt513 => ((impl_KnowPut.f k x486000 bt513.1 x9).bind fun bt517 => ((impl_KnowPut.f k x486000 bt513.1 x6).bind fun bt521 => ((impl_Makes.f k x486000 bt513.1 x12).bind fun t525 => (if t525 = true then (some false) else ((impl_Makes.f k x486000 bt517.1 x12).bind fun t526 => (if t526 = true then ((impl_Makes.f k x486000 bt521.1 x12).bind fun t527 => (if t527 = true then ((impl_Makes.f k x486000 bt513.1 x6).bind fun t528 => (some (!t528))) else (some false))) else (some false)))))))))
end
def laws_FnShares.f (k : Nat) (l0 : List Int) : Option (Bool) := (laws_big.f l0).bind fun t469 => (if t469 = true then (some true) else ((spec_DrawMakesAll.f k l0).bind fun bt470 => ((spec_KnowOk.f k bt470.1 bt470.2).bind fun t477 => (if t477 = true then (laws_FnShares.j0 k bt470.2 (decide ((bt470.2.length : Int) > 197)) bt470.1) else (laws_FnShares.j0 k bt470.2 true bt470.1)))))
theorem laws_FnShares.mono_l : ∀ k, (∀ y0 y1 y2, LeO (laws_FnShares.j0 k y0 y1 y2) (laws_FnShares.j0 (k + 1) y0 y1 y2)) ∧ (∀ y0 y1 y2 y3 y4, LeO (laws_FnShares.j1 k y0 y1 y2 y3 y4) (laws_FnShares.j1 (k + 1) y0 y1 y2 y3 y4)) ∧ (∀ y0 y1 y2 y3 y4 y5 y6 y7, LeO (laws_FnShares.j2 k y0 y1 y2 y3 y4 y5 y6 y7) (laws_FnShares.j2 (k + 1) y0 y1 y2 y3 y4 y5 y6 y7))
 | 0 => ⟨fun _ _ _ r h => by simp [laws_FnShares.j0] at h, fun _ _ _ _ _ r h => by simp [laws_FnShares.j1] at h, fun _ _ _ _ _ _ _ _ r h => by simp [laws_FnShares.j2] at h⟩
 | k + 1 => by
  obtain ⟨ih0, ih1, ih2⟩ := laws_FnShares.mono_l k
  refine ⟨?_, ?_, ?_⟩
  ·intro y0 y1 y2
   unfold laws_FnShares.j0
   repeat' first
   | (with_reducible exact ih0 _ _ _)
   | (with_reducible exact ih1 _ _ _ _ _)
   | (with_reducible exact ih2 _ _ _ _ _ _ _ _)
   | (with_reducible exact impl_KnowOk.mono _ _ _)
   | (with_reducible exact impl_KnowPut.mono _ _ _ _)
   | (with_reducible exact impl_MakePower.mono _ _ _)
   | (with_reducible exact impl_MakeShared.mono _ _ _ _)
   | (with_reducible exact impl_Makes.mono _ _ _ _)
   | (with_reducible exact impl_MakesAll.mono _ _ _)
   | (with_reducible exact impl_NameOf.mono _ _ _)
   | (with_reducible exact spec_DrawMakesAll.mono _ _)
   | (with_reducible exact spec_KnowOk.mono _ _ _)
   | (with_reducible exact spec_NameOf.mono _ _ _)
   | (with_reducible exact LeO.refl _)
   | (with_reducible exact LeO.none _)
   | (with_reducible refine LeO.ite ?_ ?_)
   | (with_reducible refine LeO.bind ?_ (fun _ => ?_))
   | exact ih0 _ _ _
   | exact ih1 _ _ _ _ _
   | exact ih2 _ _ _ _ _ _ _ _
   | exact impl_KnowOk.mono _ _ _
   | exact impl_KnowPut.mono _ _ _ _
   | exact impl_MakePower.mono _ _ _
   | exact impl_MakeShared.mono _ _ _ _
   | exact impl_Makes.mono _ _ _ _
   | exact impl_MakesAll.mono _ _ _
   | exact impl_NameOf.mono _ _ _
   | exact spec_DrawMakesAll.mono _ _
   | exact spec_KnowOk.mono _ _ _
   | exact spec_NameOf.mono _ _ _
   | exact LeO.none _
   | refine LeO.ite ?_ ?_
   | refine LeO.bind ?_ (fun _ => ?_)
  ·intro y0 y1 y2 y3 y4
   unfold laws_FnShares.j1
   repeat' first
   | (with_reducible exact ih0 _ _ _)
   | (with_reducible exact ih1 _ _ _ _ _)
   | (with_reducible exact ih2 _ _ _ _ _ _ _ _)
   | (with_reducible exact impl_KnowOk.mono _ _ _)
   | (with_reducible exact impl_KnowPut.mono _ _ _ _)
   | (with_reducible exact impl_MakePower.mono _ _ _)
   | (with_reducible exact impl_MakeShared.mono _ _ _ _)
   | (with_reducible exact impl_Makes.mono _ _ _ _)
   | (with_reducible exact impl_MakesAll.mono _ _ _)
   | (with_reducible exact impl_NameOf.mono _ _ _)
   | (with_reducible exact spec_DrawMakesAll.mono _ _)
   | (with_reducible exact spec_KnowOk.mono _ _ _)
   | (with_reducible exact spec_NameOf.mono _ _ _)
   | (with_reducible exact LeO.refl _)
   | (with_reducible exact LeO.none _)
   | (with_reducible refine LeO.ite ?_ ?_)
   | (with_reducible refine LeO.bind ?_ (fun _ => ?_))
   | exact ih0 _ _ _
   | exact ih1 _ _ _ _ _
   | exact ih2 _ _ _ _ _ _ _ _
   | exact impl_KnowOk.mono _ _ _
   | exact impl_KnowPut.mono _ _ _ _
   | exact impl_MakePower.mono _ _ _
   | exact impl_MakeShared.mono _ _ _ _
   | exact impl_Makes.mono _ _ _ _
   | exact impl_MakesAll.mono _ _ _
   | exact impl_NameOf.mono _ _ _
   | exact spec_DrawMakesAll.mono _ _
   | exact spec_KnowOk.mono _ _ _
   | exact spec_NameOf.mono _ _ _
   | exact LeO.none _
   | refine LeO.ite ?_ ?_
   | refine LeO.bind ?_ (fun _ => ?_)
  ·intro y0 y1 y2 y3 y4 y5 y6 y7
   unfold laws_FnShares.j2
   repeat' first
   | (with_reducible exact ih0 _ _ _)
   | (with_reducible exact ih1 _ _ _ _ _)
   | (with_reducible exact ih2 _ _ _ _ _ _ _ _)
   | (with_reducible exact impl_KnowOk.mono _ _ _)
   | (with_reducible exact impl_KnowPut.mono _ _ _ _)
   | (with_reducible exact impl_MakePower.mono _ _ _)
   | (with_reducible exact impl_MakeShared.mono _ _ _ _)
   | (with_reducible exact impl_Makes.mono _ _ _ _)
   | (with_reducible exact impl_MakesAll.mono _ _ _)
   | (with_reducible exact impl_NameOf.mono _ _ _)
   | (with_reducible exact spec_DrawMakesAll.mono _ _)
   | (with_reducible exact spec_KnowOk.mono _ _ _)
   | (with_reducible exact spec_NameOf.mono _ _ _)
   | (with_reducible exact LeO.refl _)
   | (with_reducible exact LeO.none _)
   | (with_reducible refine LeO.ite ?_ ?_)
   | (with_reducible refine LeO.bind ?_ (fun _ => ?_))
   | exact ih0 _ _ _
   | exact ih1 _ _ _ _ _
   | exact ih2 _ _ _ _ _ _ _ _
   | exact impl_KnowOk.mono _ _ _
   | exact impl_KnowPut.mono _ _ _ _
   | exact impl_MakePower.mono _ _ _
   | exact impl_MakeShared.mono _ _ _ _
   | exact impl_Makes.mono _ _ _ _
   | exact impl_MakesAll.mono _ _ _
   | exact impl_NameOf.mono _ _ _
   | exact spec_DrawMakesAll.mono _ _
   | exact spec_KnowOk.mono _ _ _
   | exact spec_NameOf.mono _ _ _
   | exact LeO.none _
   | refine LeO.ite ?_ ?_
   | refine LeO.bind ?_ (fun _ => ?_)
theorem laws_FnShares.mono : ∀ a0 k, LeO (laws_FnShares.f k a0) (laws_FnShares.f (k + 1) a0) := by
 intro a0 k
 obtain ⟨ih0, ih1, ih2⟩ := laws_FnShares.mono_l k
 unfold laws_FnShares.f
 repeat' first
   | (with_reducible exact ih0 _ _ _)
   | (with_reducible exact ih1 _ _ _ _ _)
   | (with_reducible exact ih2 _ _ _ _ _ _ _ _)
   | (with_reducible exact impl_KnowOk.mono _ _ _)
   | (with_reducible exact impl_KnowPut.mono _ _ _ _)
   | (with_reducible exact impl_MakePower.mono _ _ _)
   | (with_reducible exact impl_MakeShared.mono _ _ _ _)
   | (with_reducible exact impl_Makes.mono _ _ _ _)
   | (with_reducible exact impl_MakesAll.mono _ _ _)
   | (with_reducible exact impl_NameOf.mono _ _ _)
   | (with_reducible exact spec_DrawMakesAll.mono _ _)
   | (with_reducible exact spec_KnowOk.mono _ _ _)
   | (with_reducible exact spec_NameOf.mono _ _ _)
   | (with_reducible exact LeO.refl _)
   | (with_reducible exact LeO.none _)
   | (with_reducible refine LeO.ite ?_ ?_)
   | (with_reducible refine LeO.bind ?_ (fun _ => ?_))
   | exact ih0 _ _ _
   | exact ih1 _ _ _ _ _
   | exact ih2 _ _ _ _ _ _ _ _
   | exact impl_KnowOk.mono _ _ _
   | exact impl_KnowPut.mono _ _ _ _
   | exact impl_MakePower.mono _ _ _
   | exact impl_MakeShared.mono _ _ _ _
   | exact impl_Makes.mono _ _ _ _
   | exact impl_MakesAll.mono _ _ _
   | exact impl_NameOf.mono _ _ _
   | exact spec_DrawMakesAll.mono _ _
   | exact spec_KnowOk.mono _ _ _
   | exact spec_NameOf.mono _ _ _
   | exact LeO.none _
   | refine LeO.ite ?_ ?_
   | refine LeO.bind ?_ (fun _ => ?_)
set_option maxHeartbeats 8000000 in
set_option maxRecDepth 100000 in
theorem laws_FnShares.calls (k : Nat) (A0 : Option Addr) (c0 : Nat) (l0 : List Int) (r : Bool) (w : World) (hr0 : Kd.C (Kd.int .u8) w A0 l0.length l0) (hc0 : l0.length ≤ c0) (h : laws_FnShares.f k l0 = some r) :
  Calls Try.prog 5 #[.slice A0 l0.length c0] w fun e w' => e = .returned (.bool r) ∧ Below w.heap.size w w' := by
 have hu31 := Try.underlying31
 have HR0 := Aside0.mk hr0
 have HC0 := Aside0.mk hc0
 clear hr0 hc0
 have HB := Aside0.mk (Below.refl w.heap.size w)
 have H : ((laws_big.f l0).bind fun t469 => (if t469 = true then (some true) else ((spec_DrawMakesAll.f k l0).bind fun bt470 => ((spec_KnowOk.f k bt470.1 bt470.2).bind fun t477 => (if t477 = true then (laws_FnShares.j0 k bt470.2 (decide ((bt470.2.length : Int) > 197)) bt470.1) else (laws_FnShares.j0 k bt470.2 true bt470.1)))))) = some r := h
 clear h
 replace H := Option.bind_eq_some_iff.mp H
 obtain ⟨t469, A20, H⟩ := H
 replace H : (if t469 = true then (some true) else ((spec_DrawMakesAll.f k l0).bind fun bt470 => ((spec_KnowOk.f k bt470.1 bt470.2).bind fun t477 => (if t477 = true then (laws_FnShares.j0 k bt470.2 (decide ((bt470.2.length : Int) > 197)) bt470.1) else (laws_FnShares.j0 k bt470.2 true bt470.1))))) = some r := H
 have A2 := Aside0.mk A20
 clear A20
 by_cases c3 : t469 = true
 ·subst c3
  have H1 : (some true) = some r := by rw [if_pos rfl] at H; exact H
  clear H
  have H := H1
  clear H1
  obtain rfl := Option.some.inj H
  go_enter Try.func5, Try.ntmps5
  go_wp2_with (first | ((with_reducible refine gate_callee (f := 17) rfl ?_); refine goesL_ (some 20) rfl rfl Try.func17 (by kernel_rfl) rfl #[.slice A0 l0.length c0] rfl zl ?_; (with_reducible refine (laws_big.calls _ _ l0 true _ ?side1 ?side2 A2.out).mono ?_); (case side1 => exact zc HR0.out); (case side2 => exact HC0.out); rintro e w' ⟨rfl, ⟨nd, rfl⟩⟩; refine ⟨_, rfl, ?_⟩))
  go_ret
  exact ⟨ze, zb HB.out⟩
 ·replace c3 := Bool.eq_false_iff.mpr c3
  subst c3
  have H1 : ((spec_DrawMakesAll.f k l0).bind fun bt470 => ((spec_KnowOk.f k bt470.1 bt470.2).bind fun t477 => (if t477 = true then (laws_FnShares.j0 k bt470.2 (decide ((bt470.2.length : Int) > 197)) bt470.1) else (laws_FnShares.j0 k bt470.2 true bt470.1)))) = some r := by rw [if_neg (show ¬ (false = true) by decide)] at H; exact H
  clear H
  have H := H1
  clear H1
  replace H := Option.bind_eq_some_iff.mp H
  obtain ⟨⟨t470, t473⟩, A40, H⟩ := H
  replace H : ((spec_KnowOk.f k t470 t473).bind fun t477 => (if t477 = true then (laws_FnShares.j0 k t473 (decide ((t473.length : Int) > 197)) t470) else (laws_FnShares.j0 k t473 true t470))) = some r := H
  have A4 := Aside0.mk A40
  clear A40
  have HC5 := Aside0.mk H
  clear H
  go_enter Try.func5, Try.ntmps5
  go_upto_region 4 with (first | ((with_reducible refine gate_callee (f := 17) rfl ?_); refine goesL_ (some 20) rfl rfl Try.func17 (by kernel_rfl) rfl #[.slice A0 l0.length c0] rfl zl ?_; (with_reducible refine (laws_big.calls _ _ l0 false _ ?side1 ?side2 A2.out).mono ?_); (case side1 => exact zc HR0.out); (case side2 => exact HC0.out); rintro e w' ⟨rfl, ⟨nd, rfl⟩⟩; refine ⟨_, rfl, ?_⟩) | ((with_reducible refine gate_callee (f := 23) rfl ?_); refine goesL_ (some 23) rfl rfl Try.func23 (by kernel_rfl) rfl #[.slice A0 l0.length c0] rfl zl ?_; (with_reducible refine (spec_DrawMakesAll.calls k _ _ l0 t470 t473 _ ?side1 ?side2 A4.out).mono ?_); (case side1 => exact zc HR0.out); (case side2 => exact HC0.out); rintro e w6 ⟨v471, v474, rfl, ho0, ho1, hb⟩; refine ⟨_, rfl, ?_⟩; have n0_ := Aside0.mk (Kd.R_lower ho0 (below_size (zb HB.out))); have n1_ := Aside0.mk (Kd.R_lower ho1 (below_size (zb HB.out))); have n2_ := Aside0.mk (below_step (zb HB.out) hb); clear HB; have HO472 := n0_; have HO475 := n1_; have HB := n2_; clear n0_ n1_ n2_; (try clear hb); (try clear hb2); (try clear hk); (try clear hi); (try clear ho0); (try clear ho1)) | ((with_reducible refine gate_dst (N := 3) rfl ?_); (try (refine gate_guard (by rfl) ?_; dsimp only)); refine box_event ?hg (N := 3) ?hd (cs := #[.slice none 0 0]) (t := 31) ?hr ?_; (case hd => rfl); (case hg => rfl); (case hr => first | (go_simp; done) | (go_simp; rfl)); intro gb476 hg w7 hbox hb; have n0_ := Aside0.mk (Kd.R_below (zr HO472.out) hb); have n1_ := Aside0.mk (Kd.R_below (zr HO475.out) hb); have n2_ := Aside0.mk (below_step (zb HB.out) hb); have n3_ := Aside0.mk (hbox); have n4_ := Aside0.mk ((by rw [hg]; exact (below_size (zb HB.out)) : w.heap.size ≤ gb476)); have n5_ := Aside0.mk ((by rw [hg]; exact (below_size (zb HB.out)) : w.heap.size ≤ gb476)); clear HO472; clear HO475; clear HB; have HO472 := n0_; have HO475 := n1_; have HB := n2_; have BK476 := n3_; have GW476 := n4_; have GE476 := n5_; clear n0_ n1_ n2_ n3_ n4_ n5_; clear hb hbox hg; obtain ⟨Ao8, co8, eo8⟩ := Kd.R_slice HO472.out; subst eo8; have hcz9_0 : w7.cell? ⟨gb476, 0, none⟩ = some (.slice none 0 0) := (blk_cell BK476.out 0).trans rfl; have hfz9_0 := blk_frozen BK476.out 0))
  (try simp only [Act.put, List.setIfInBounds_toArray, List.set_cons_zero, List.set_cons_succ])
  go_cut [34] (fun v34 wc => ∃ (kq : Nat) (x34_4 : Bool), v34 = .bool x34_4 ∧ Aside0 (laws_FnShares.j0 kq t473 x34_4 t470 = some r) ∧ Aside0 (kq ≤ k) ∧ Aside0 (Kd.R (Kd.int .i64) 3 wc w.heap.size (fun _ => True) v474 t473) ∧ Aside0 (Kd.R k67 67 wc w.heap.size (fun _ => True) (.slice Ao8 t470.length co8) t470) ∧ Aside0 (wc.heap[gb476]? = some (.cells #[(.slice Ao8 t470.length co8)] 31 (0, 0))) ∧ Aside0 (Below w.heap.size w wc))
  case first =>
   have H := HC5.out
   clear HC5
   replace H := Option.bind_eq_some_iff.mp H
   obtain ⟨t477, A100, H⟩ := H
   replace H : (if t477 = true then (laws_FnShares.j0 k t473 (decide ((t473.length : Int) > 197)) t470) else (laws_FnShares.j0 k t473 true t470)) = some r := H
   have A10 := Aside0.mk A100
   clear A100
   by_cases c11 : t477 = true
   ·subst c11
    have H1 : (laws_FnShares.j0 k t473 (decide ((t473.length : Int) > 197)) t470) = some r := by rw [if_pos rfl] at H; exact H
    clear H
    have H := H1
    clear H1
    have H' := Aside0.mk H
    clear H
    have hcz12_0 : w7.cell? ⟨gb476, 0, none⟩ = some (.slice none 0 0) := (blk_cell BK476.out 0).trans rfl
    have hfz12_0 := blk_frozen BK476.out 0
    obtain ⟨Ao13, co13, eo13⟩ := Kd.R_slice HO475.out
    subst eo13
    go_wp2_with (first | ((with_reducible refine gate_callee (f := 19) rfl ?_); refine goesL_ (some 28) rfl rfl Try.func19 (by kernel_rfl) rfl #[.agg #[.slice Ao8 t470.length co8], .slice Ao13 t473.length co13] rfl zl ?_; (with_reducible refine (spec_KnowOk.calls k _ _ t470 _ _ t473 true _ ?side1 ?side2 ?side3 ?side4 A10.out).mono ?_); (case side1 => refine (Kd.R_reads' (e := 67) (base := w.heap.size) (ok := fun k_ => True) (n := t470.length) (c := co8) ?_).2.2; exact (by (with_reducible repeat (first | apply Kd.R_alloc | apply Kd.R_drewN | apply Kd.R_drew)); exact (Kd.R_mono (Kd.R_far (p := ⟨gb476, 0, none⟩) (Kd.R_types HO472.out BK476.out (by decide)) (fun _ hk => hk.2) (.slice Ao8 t470.length co8)) (fun _ h_ => h_.1)))); (case side2 => exact (Kd.R_reads' HO472.out).2.1); (case side3 => refine (Kd.R_reads' (e := 3) (base := w.heap.size) (ok := fun k_ => True) (n := t473.length) (c := co13) ?_).2.2; exact (by (with_reducible repeat (first | apply Kd.R_alloc | apply Kd.R_drewN | apply Kd.R_drew)); exact (Kd.R_mono (Kd.R_far (p := ⟨gb476, 0, none⟩) (Kd.R_types HO475.out BK476.out (by decide)) (fun _ hk => hk.2) (.slice Ao8 t470.length co8)) (fun _ h_ => h_.1)))); (case side4 => exact (Kd.R_reads' HO475.out).2.1); rintro e w14 ⟨rfl, hb⟩; refine ⟨_, rfl, ?_⟩; have n0_ := Aside0.mk (Kd.R_below (by (with_reducible repeat (first | apply Kd.R_alloc | apply Kd.R_drewN | apply Kd.R_drew)); exact (Kd.R_mono (Kd.R_far (p := ⟨gb476, 0, none⟩) (Kd.R_types HO472.out BK476.out (by decide)) (fun _ hk => hk.2) (.slice Ao8 t470.length co8)) (fun _ h_ => h_.1))) hb); have n1_ := Aside0.mk (Kd.R_below (by (with_reducible repeat (first | apply Kd.R_alloc | apply Kd.R_drewN | apply Kd.R_drew)); exact (Kd.R_mono (Kd.R_far (p := ⟨gb476, 0, none⟩) (Kd.R_types HO475.out BK476.out (by decide)) (fun _ hk => hk.2) (.slice Ao8 t470.length co8)) (fun _ h_ => h_.1))) hb); have n2_ := Aside0.mk (blk_below (g := gb476) (o := .cells #[.slice Ao8 t470.length co8] 31 (0, 0)) (by (with_reducible repeat (first | refine blk_drewN ?_ _ | refine blk_drew ?_ | refine blk_alloc ?_ _)); refine blk_put (cs := #[.slice none 0 0]) ?_ 0 _ rfl; (with_reducible repeat (first | refine blk_drewN ?_ _ | refine blk_drew ?_ | refine blk_alloc ?_ _)); exact BK476.out) hb); have n3_ := Aside0.mk (below_step (zb HB.out) hb); clear HO472; clear HO475; clear BK476; clear HB; have HO472 := n0_; have HO475 := n1_; have BK476 := n2_; have HB := n3_; clear n0_ n1_ n2_ n3_; (try clear hb); (try clear hb2); (try clear hk); (try clear hi)))
    go_meet
    case rel => exact ⟨_, (decide ((t473.length : Int) > 197)), (by first | rfl | (simp; done) | (simp [*]; done)), H', ⟨by first | omega | exact Nat.le_refl _⟩, ⟨zr HO475.out⟩, ⟨zr HO472.out⟩, ⟨zh BK476.out⟩, ⟨zb HB.out⟩⟩
   ·replace c11 := Bool.eq_false_iff.mpr c11
    subst c11
    have H1 : (laws_FnShares.j0 k t473 true t470) = some r := by rw [if_neg (show ¬ (false = true) by decide)] at H; exact H
    clear H
    have H := H1
    clear H1
    have H' := Aside0.mk H
    clear H
    have hcz15_0 : w7.cell? ⟨gb476, 0, none⟩ = some (.slice none 0 0) := (blk_cell BK476.out 0).trans rfl
    have hfz15_0 := blk_frozen BK476.out 0
    obtain ⟨Ao16, co16, eo16⟩ := Kd.R_slice HO475.out
    subst eo16
    go_wp2_with (first | ((with_reducible refine gate_callee (f := 19) rfl ?_); refine goesL_ (some 28) rfl rfl Try.func19 (by kernel_rfl) rfl #[.agg #[.slice Ao8 t470.length co8], .slice Ao16 t473.length co16] rfl zl ?_; (with_reducible refine (spec_KnowOk.calls k _ _ t470 _ _ t473 false _ ?side1 ?side2 ?side3 ?side4 A10.out).mono ?_); (case side1 => refine (Kd.R_reads' (e := 67) (base := w.heap.size) (ok := fun k_ => True) (n := t470.length) (c := co8) ?_).2.2; exact (by (with_reducible repeat (first | apply Kd.R_alloc | apply Kd.R_drewN | apply Kd.R_drew)); exact (Kd.R_mono (Kd.R_far (p := ⟨gb476, 0, none⟩) (Kd.R_types HO472.out BK476.out (by decide)) (fun _ hk => hk.2) (.slice Ao8 t470.length co8)) (fun _ h_ => h_.1)))); (case side2 => exact (Kd.R_reads' HO472.out).2.1); (case side3 => refine (Kd.R_reads' (e := 3) (base := w.heap.size) (ok := fun k_ => True) (n := t473.length) (c := co16) ?_).2.2; exact (by (with_reducible repeat (first | apply Kd.R_alloc | apply Kd.R_drewN | apply Kd.R_drew)); exact (Kd.R_mono (Kd.R_far (p := ⟨gb476, 0, none⟩) (Kd.R_types HO475.out BK476.out (by decide)) (fun _ hk => hk.2) (.slice Ao8 t470.length co8)) (fun _ h_ => h_.1)))); (case side4 => exact (Kd.R_reads' HO475.out).2.1); rintro e w17 ⟨rfl, hb⟩; refine ⟨_, rfl, ?_⟩; have n0_ := Aside0.mk (Kd.R_below (by (with_reducible repeat (first | apply Kd.R_alloc | apply Kd.R_drewN | apply Kd.R_drew)); exact (Kd.R_mono (Kd.R_far (p := ⟨gb476, 0, none⟩) (Kd.R_types HO472.out BK476.out (by decide)) (fun _ hk => hk.2) (.slice Ao8 t470.length co8)) (fun _ h_ => h_.1))) hb); have n1_ := Aside0.mk (Kd.R_below (by (with_reducible repeat (first | apply Kd.R_alloc | apply Kd.R_drewN | apply Kd.R_drew)); exact (Kd.R_mono (Kd.R_far (p := ⟨gb476, 0, none⟩) (Kd.R_types HO475.out BK476.out (by decide)) (fun _ hk => hk.2) (.slice Ao8 t470.length co8)) (fun _ h_ => h_.1))) hb); have n2_ := Aside0.mk (blk_below (g := gb476) (o := .cells #[.slice Ao8 t470.length co8] 31 (0, 0)) (by (with_reducible repeat (first | refine blk_drewN ?_ _ | refine blk_drew ?_ | refine blk_alloc ?_ _)); refine blk_put (cs := #[.slice none 0 0]) ?_ 0 _ rfl; (with_reducible repeat (first | refine blk_drewN ?_ _ | refine blk_drew ?_ | refine blk_alloc ?_ _)); exact BK476.out) hb); have n3_ := Aside0.mk (below_step (zb HB.out) hb); clear HO472; clear HO475; clear BK476; clear HB; have HO472 := n0_; have HO475 := n1_; have BK476 := n2_; have HB := n3_; clear n0_ n1_ n2_ n3_; (try clear hb); (try clear hb2); (try clear hk); (try clear hi)))
    go_meet
    case rel => exact ⟨_, (true), (by first | rfl | (simp; done) | (simp [*]; done)), H', ⟨by first | omega | exact Nat.le_refl _⟩, ⟨zr HO475.out⟩, ⟨zr HO472.out⟩, ⟨zh BK476.out⟩, ⟨zb HB.out⟩⟩
  case rest =>
   clear HC5
   try clear c1
   try clear c2
   try clear p2
   try clear c3
   try clear c5
   try clear c11
   try clear c17
   try clear hcz12_0
   try clear hcz15_0
   try clear hcz9_0
   try clear hfz12_0
   try clear hfz15_0
   try clear hfz9_0
   obtain ⟨kq, x34_4, rfl, HA, HJ4, HO_4, HO_477000, BK476, HB⟩ := hcut
   cases kq with
   | zero => exact absurd HA.out (by simp [laws_FnShares.j0])
   | succ kj4 =>
    have H := HA.out
    clear HA
    simp only [laws_FnShares.j0] at H
    by_cases c18 : x34_4 = true
    ·subst c18
     have H1 : ((impl_MakesAll.f kj4 t470 t473).bind fun t478 => (if (t478.length : Int) = 0 then (some true) else (some (decide ((t470.length : Int) > 0))))) = some r := by rw [if_pos rfl] at H; exact H
     clear H
     have H := H1
     clear H1
     replace H := Option.bind_eq_some_iff.mp H
     obtain ⟨t478, A190, H⟩ := H
     replace H : (if (t478.length : Int) = 0 then (some true) else (some (decide ((t470.length : Int) > 0)))) = some r := H
     have A19 := Aside0.mk A190
     clear A190
     by_cases c20 : (t478.length : Int) = 0
     ·rw [if_pos c20] at H
      have c20b0 : ((t478.length : Int) == 0) = true := beq_iff_eq.mpr c20
      have c20b1 : ((t478.length : Int) != 0) = false := bne_eq_false_iff_eq.mpr c20
      clear c20
      obtain rfl := Option.some.inj H
      have hcz21_0 : wc.cell? ⟨gb476, 0, none⟩ = some (.slice Ao8 t470.length co8) := (blk_cell BK476.out 0).trans rfl
      have hfz21_0 := blk_frozen BK476.out 0
      obtain ⟨Ao22, co22, eo22⟩ := Kd.R_slice HO_4.out
      subst eo22
      go_wp2_with (first | ((with_reducible refine gate_callee (f := 24) rfl ?_); refine goesL_ (some 37) rfl rfl Try.func24 (by kernel_rfl) rfl #[.agg #[.slice Ao8 t470.length co8], .slice Ao22 t473.length co22] rfl zl ?_; (with_reducible refine (impl_MakesAll.calls kj4 _ _ t470 _ _ t473 t478 _ ?side1 ?side2 ?side3 ?side4 A19.out).mono ?_); (case side1 => exact zc (Kd.R_reads' HO_477000.out).2.2); (case side2 => exact (Kd.R_reads' HO_477000.out).2.1); (case side3 => exact zc (Kd.R_reads' HO_4.out).2.2); (case side4 => exact (Kd.R_reads' HO_4.out).2.1); rintro e w23 ⟨v479, rfl, ho0, hb⟩; refine ⟨_, rfl, ?_⟩; have n0_ := Aside0.mk (Kd.R_below (zr HO_4.out) hb); have n1_ := Aside0.mk (Kd.R_below (zr HO_477000.out) hb); have n2_ := Aside0.mk (Kd.R_lower ho0 (below_size (zb HB.out))); have n3_ := Aside0.mk (blk_below (zh BK476.out) hb); have n4_ := Aside0.mk (below_step (zb HB.out) hb); clear HO_4; clear HO_477000; clear BK476; clear HB; have HO_4 := n0_; have HO_477000 := n1_; have HO480 := n2_; have BK476 := n3_; have HB := n4_; clear n0_ n1_ n2_ n3_ n4_; (try clear hb); (try clear hb2); (try clear hk); (try clear hi); (try clear ho0); obtain ⟨Ao24, co24, eo24⟩ := Kd.R_slice HO480.out; subst eo24))
      go_ret
      exact ⟨ze, zb HB.out⟩
     ·rw [if_neg c20] at H
      have c20b0 : ((t478.length : Int) == 0) = false := beq_eq_false_iff_ne.mpr c20
      have c20b1 : ((t478.length : Int) != 0) = true := bne_iff_ne.mpr c20
      have c20b2 : ¬ (t478 = []) := fun h_ => c20 (by rw [h_]; rfl)
      obtain rfl := Option.some.inj H
      have hcz25_0 : wc.cell? ⟨gb476, 0, none⟩ = some (.slice Ao8 t470.length co8) := (blk_cell BK476.out 0).trans rfl
      have hfz25_0 := blk_frozen BK476.out 0
      obtain ⟨Ao26, co26, eo26⟩ := Kd.R_slice HO_4.out
      subst eo26
      go_wp2_with (first | ((with_reducible refine gate_callee (f := 24) rfl ?_); refine goesL_ (some 37) rfl rfl Try.func24 (by kernel_rfl) rfl #[.agg #[.slice Ao8 t470.length co8], .slice Ao26 t473.length co26] rfl zl ?_; (with_reducible refine (impl_MakesAll.calls kj4 _ _ t470 _ _ t473 t478 _ ?side1 ?side2 ?side3 ?side4 A19.out).mono ?_); (case side1 => exact zc (Kd.R_reads' HO_477000.out).2.2); (case side2 => exact (Kd.R_reads' HO_477000.out).2.1); (case side3 => exact zc (Kd.R_reads' HO_4.out).2.2); (case side4 => exact (Kd.R_reads' HO_4.out).2.1); rintro e w27 ⟨v479, rfl, ho0, hb⟩; refine ⟨_, rfl, ?_⟩; have n0_ := Aside0.mk (Kd.R_below (zr HO_4.out) hb); have n1_ := Aside0.mk (Kd.R_below (zr HO_477000.out) hb); have n2_ := Aside0.mk (Kd.R_lower ho0 (below_size (zb HB.out))); have n3_ := Aside0.mk (blk_below (zh BK476.out) hb); have n4_ := Aside0.mk (below_step (zb HB.out) hb); clear HO_4; clear HO_477000; clear BK476; clear HB; have HO_4 := n0_; have HO_477000 := n1_; have HO480 := n2_; have BK476 := n3_; have HB := n4_; clear n0_ n1_ n2_ n3_ n4_; (try clear hb); (try clear hb2); (try clear hk); (try clear hi); (try clear ho0); obtain ⟨Ao28, co28, eo28⟩ := Kd.R_slice HO480.out; subst eo28; have hcz29_0 : w27.cell? ⟨gb476, 0, none⟩ = some (.slice Ao8 t470.length co8) := (blk_cell BK476.out 0).trans rfl; have hfz29_0 := blk_frozen BK476.out 0))
      go_ret
      exact ⟨ze, zb HB.out⟩
    ·replace c18 := Bool.eq_false_iff.mpr c18
     subst c18
     have H1 : ((impl_NameOf.f kj4 t470 179).bind fun bt481 => ((spec_NameOf.f kj4 t470 179).bind fun bt486 => (if bt481.2 = bt486.2.1 then ((impl_KnowOk.f kj4 bt486.2.2 t473).bind fun t492 => (laws_FnShares.j1 kj4 t473 bt481.2 (!t492) bt486.2.2 bt481.1)) else (laws_FnShares.j1 kj4 t473 bt481.2 true bt486.2.2 bt481.1)))) = some r := by rw [if_neg (show ¬ (false = true) by decide)] at H; exact H
     clear H
     have H := H1
     clear H1
     replace H := Option.bind_eq_some_iff.mp H
     obtain ⟨⟨t481, t484⟩, A300, H⟩ := H
     replace H : ((spec_NameOf.f kj4 t470 179).bind fun bt486 => (if t484 = bt486.2.1 then ((impl_KnowOk.f kj4 bt486.2.2 t473).bind fun t492 => (laws_FnShares.j1 kj4 t473 t484 (!t492) bt486.2.2 t481)) else (laws_FnShares.j1 kj4 t473 t484 true bt486.2.2 t481))) = some r := H
     have A30 := Aside0.mk A300
     clear A300
     replace H := Option.bind_eq_some_iff.mp H
     obtain ⟨⟨t486, t489, t490⟩, A310, H⟩ := H
     replace H : (if t484 = t489 then ((impl_KnowOk.f kj4 t490 t473).bind fun t492 => (laws_FnShares.j1 kj4 t473 t484 (!t492) t490 t481)) else (laws_FnShares.j1 kj4 t473 t484 true t490 t481)) = some r := H
     have A31 := Aside0.mk A310
     clear A310
     have HC32 := Aside0.mk H
     clear H
     have hcz33_0 : wc.cell? ⟨gb476, 0, none⟩ = some (.slice Ao8 t470.length co8) := (blk_cell BK476.out 0).trans rfl
     have hfz33_0 := blk_frozen BK476.out 0
     go_upto_region 8 with (first | ((with_reducible refine gate_callee (f := 25) rfl ?_); refine goesL_ (some 48) rfl rfl Try.func25 (by kernel_rfl) rfl #[.agg #[.slice Ao8 t470.length co8], .int .i64 179] rfl zl ?_; (with_reducible refine (impl_NameOf.calls kj4 _ _ t470 179 t481 t484 _ ?side1 ?side2 A30.out).mono ?_); (case side1 => exact zc (Kd.R_reads' HO_477000.out).2.2); (case side2 => exact (Kd.R_reads' HO_477000.out).2.1); rintro e w34 ⟨v482, rfl, ho0, hb⟩; refine ⟨_, rfl, ?_⟩; have n0_ := Aside0.mk (Kd.R_below (zr HO_4.out) hb); have n1_ := Aside0.mk (Kd.R_elder' (zr HO_477000.out) (Kd.R_base ho0) hb); have n2_ := Aside0.mk (Kd.R_lower (Kd.R_new' ho0 (Kd.R_lt (zr HO_477000.out))) (below_size (zb HB.out))); have n3_ := Aside0.mk (blk_below (zh BK476.out) hb); have n4_ := Aside0.mk (below_step (zb HB.out) hb); clear HO_4; clear HO_477000; clear BK476; clear HB; have HO_4 := n0_; have HO_477000 := n1_; have HO483 := n2_; have BK476 := n3_; have HB := n4_; clear n0_ n1_ n2_ n3_ n4_; (try clear hb); (try clear hb2); (try clear hk); (try clear hi); (try clear ho0)) | ((with_reducible refine gate_dst (N := 5) rfl ?_); (try (refine gate_guard (by rfl) ?_; dsimp only)); refine box_event ?hg (N := 5) ?hd (cs := #[.slice none 0 0]) (t := 31) ?hr ?_; (case hd => rfl); (case hg => rfl); (case hr => first | (go_simp; done) | (go_simp; rfl)); intro gb485 hg w35 hbox hb; have n0_ := Aside0.mk (Kd.R_below (zr HO_4.out) hb); have n1_ := Aside0.mk (Kd.R_below (zr HO_477000.out) hb); have n2_ := Aside0.mk (Kd.R_below (zr HO483.out) hb); have n3_ := Aside0.mk (blk_below (zh BK476.out) hb); have n4_ := Aside0.mk (below_step (zb HB.out) hb); have n5_ := Aside0.mk (hbox); have n6_ := Aside0.mk ((by rw [hg]; exact (below_size (zb HB.out)) : w.heap.size ≤ gb485)); have n7_ := Aside0.mk ((by rw [hg]; exact (below_size (zb HB.out)) : w.heap.size ≤ gb485)); have n8_ := Aside0.mk ((by rw [hg]; exact Nat.ne_of_lt (blk_lt (zh BK476.out)) : gb476 ≠ gb485)); have n9_ := Aside0.mk ((by rw [hg]; exact Nat.ne_of_gt (blk_lt (zh BK476.out)) : gb485 ≠ gb476)); clear HO_4; clear HO_477000; clear HO483; clear BK476; clear HB; have HO_4 := n0_; have HO_477000 := n1_; have HO483 := n2_; have BK476 := n3_; have HB := n4_; have BK485 := n5_; have GW485 := n6_; have GE485 := n7_; have NB476_485 := n8_; have NB485_476 := n9_; clear n0_ n1_ n2_ n3_ n4_ n5_ n6_ n7_ n8_ n9_; clear hb hbox hg; obtain ⟨Ao36, co36, eo36⟩ := Kd.R_slice HO483.out; subst eo36; have hnb37 := NB485_476.out; have hnc37 := NB476_485.out; have hcz38_0 : w35.cell? ⟨gb485, 0, none⟩ = some (.slice none 0 0) := (blk_cell BK485.out 0).trans rfl; have hfz38_0 := blk_frozen BK485.out 0) | ((with_reducible refine gate_store (t := 31) (p := 5) rfl ?_); refine store_event (t := 31) (p := 5) (v := ?vo_w39) (w1 := (w35.setCell ⟨gb485, 0, none⟩ (.slice Ao36 t481.length co36))) ?hg ?ho ?hn ?hr ?_; (case ho => rfl); (case hg => rfl); (case hn => rfl); (case hr => first | (go_simp; done) | (go_simp; rfl)); intro w39 hw; have n0_ : Aside0 (Kd.R (Kd.int .i64) 3 w39 w.heap.size (fun _ => True) v474 t473) := ⟨(by rw [hw]; exact (by (with_reducible repeat (first | apply Kd.R_alloc | apply Kd.R_drewN | apply Kd.R_drew)); exact Kd.R_mono (Kd.R_far (p := ⟨gb485, 0, none⟩) (Kd.R_types HO_4.out BK485.out (by decide)) (fun _ hk => hk.2) (.slice Ao36 t481.length co36)) (fun _ hk => trivial)))⟩; have n1_ : Aside0 (Kd.R k67 67 w39 w.heap.size (fun k_ => some k_ ≠ (.slice Ao36 t481.length co36 : Value).ownBlock) (.slice Ao8 t470.length co8) t470) := ⟨(by rw [hw]; exact (by (with_reducible repeat (first | apply Kd.R_alloc | apply Kd.R_drewN | apply Kd.R_drew)); exact Kd.R_mono (Kd.R_far (p := ⟨gb485, 0, none⟩) (Kd.R_types HO_477000.out BK485.out (by decide)) (fun _ hk => hk.2) (.slice Ao36 t481.length co36)) (fun _ hk => hk.1.2)))⟩; have n2_ : Aside0 (Kd.R k67 67 w39 w.heap.size (fun k_ => some k_ ≠ (.slice Ao8 t470.length co8 : Value).ownBlock) (.slice Ao36 t481.length co36) t481) := ⟨(by rw [hw]; exact (by (with_reducible repeat (first | apply Kd.R_alloc | apply Kd.R_drewN | apply Kd.R_drew)); exact Kd.R_mono (Kd.R_far (p := ⟨gb485, 0, none⟩) (Kd.R_types HO483.out BK485.out (by decide)) (fun _ hk => hk.2) (.slice Ao36 t481.length co36)) (fun _ hk => hk.1.2)))⟩; have n3_ : Aside0 (w39.heap[gb476]? = some (.cells #[.slice Ao8 t470.length co8] 31 (0, 0))) := ⟨(by rw [hw]; exact (zf BK476.out))⟩; have n4_ : Aside0 (w39.heap[gb485]? = some (.cells #[.slice Ao36 t481.length co36] 31 (0, 0))) := ⟨(by rw [hw]; exact (by (with_reducible repeat (first | refine blk_drewN ?_ _ | refine blk_drew ?_ | refine blk_alloc ?_ _)); refine blk_put (cs := #[.slice none 0 0]) ?_ 0 _ rfl; (with_reducible repeat (first | refine blk_drewN ?_ _ | refine blk_drew ?_ | refine blk_alloc ?_ _)); exact BK485.out))⟩; have n5_ : Aside0 (Below w.heap.size w w39) := ⟨(by rw [hw]; exact (zb HB.out))⟩; clear hw; clear HO_4; clear HO_477000; clear HO483; clear BK476; clear BK485; clear HB; have HO_4 := n0_; have HO_477000 := n1_; have HO483 := n2_; have BK476 := n3_; have BK485 := n4_; have HB := n5_; clear n0_ n1_ n2_ n3_ n4_ n5_; have hcz40_0 : w39.cell? ⟨gb476, 0, none⟩ = some (.slice Ao8 t470.length co8) := (blk_cell BK476.out 0).trans rfl; have hfz40_0 := blk_frozen BK476.out 0) | ((with_reducible refine gate_callee (f := 26) rfl ?_); refine goesL_ (some 53) rfl rfl Try.func26 (by kernel_rfl) rfl #[.agg #[.slice Ao8 t470.length co8], .int .i64 179] rfl zl ?_; (with_reducible refine (spec_NameOf.calls kj4 (fun k_ => some k_ = (.slice Ao8 t470.length co8 : Value).ownBlock) (.slice Ao8 t470.length co8) t470 179 t486 t489 t490 w _ ?side1 ?side2 A31.out).mono ?_); (case side1 => exact zb HB.out); (case side2 => exact Kd.R_tight rfl HO_477000.out); rintro e w41 ⟨v487, rfl, ho0, hy0, hb, hkp⟩; refine ⟨_, rfl, ?_⟩; have n0_ := Aside0.mk (Kd.R_mono (ok' := fun k_ => True) (Kd.R_keptB ((Kd.R_apart' HO_4.out (Kd.R_typed HO_477000.out) (by decide))) hkp (fun k_ hk_ hs_ => by first | exact (hk_.2) hs_ | (revert hk_; simp only [and_imp]; intros; exact absurd hs_ (by assumption)))) (fun k_ hk_ => trivial)); have n1_ := Aside0.mk (spec_PoolAdd.apart (u := v487) (Kd.R_reok rfl hy0 (fun k_ e_ => HO_477000.out.1 k_ e_)) (fun k_ e_ e2_ => (ho0.1 k_ e2_.symm).2 e_.symm)); have n2_ := Aside0.mk (blk_kept (zh BK476.out) hkp (fun hs_ => (fun e_ => (Kd.R_ne HO_477000.out BK476.out (by decide)) e_) hs_)); have n3_ := Aside0.mk (Kd.R_mono (ok' := fun k_ => some k_ ≠ (.slice Ao8 t470.length co8 : Value).ownBlock ∧ some k_ ≠ (v487 : Value).ownBlock) (Kd.R_keptB (HO483.out) hkp (fun k_ hk_ hs_ => by first | exact (hk_) hs_ | (revert hk_; simp only [and_imp]; intros; exact absurd hs_ (by assumption)))) (fun k_ hk_ => by first | exact ⟨hk_.1, fun e_ => Or.elim (ho0.1 k_ e_.symm).1 (fun hs_ => hk_.2.1 hs_) (fun hn_ => Nat.not_le.2 hk_.2.2 hn_)⟩ | (revert hk_; simp only [and_imp]; intros; and_intros <;> assumption))); have n4_ := Aside0.mk (blk_kept (zh BK485.out) hkp (fun hs_ => (fun e_ => (Kd.R_ne HO_477000.out BK485.out (by decide)) e_) hs_)); have n5_ := Aside0.mk (Kd.R_mono (ok' := fun k_ => some k_ ≠ (.slice Ao36 t481.length co36 : Value).ownBlock ∧ some k_ ≠ (.slice Ao8 t470.length co8 : Value).ownBlock) ho0 (fun k_ hk_ => by first | exact ⟨Or.elim hk_.1 (fun hs_ => fun e_ => (((HO483.out).1 k_ e_.symm)) hs_) (fun hn_ => (Kd.fresh' (Kd.R_lt (zr HO483.out)) k_ hn_)), hk_.2⟩ | (revert hk_; simp only [and_imp]; intros; and_intros <;> assumption))); have n6_ := Aside0.mk (hb); clear HO_4; clear HO_477000; clear BK476; clear HO483; clear BK485; clear HB; have HO_4 := n0_; have HO_477000 := n1_; have BK476 := n2_; have HO483 := n3_; have BK485 := n4_; have HO488 := n5_; have HB := n6_; clear n0_ n1_ n2_ n3_ n4_ n5_ n6_; (try clear hb); (try clear hkp); (try clear ho0); (try clear hy0)) | ((with_reducible refine gate_dst (N := 7) rfl ?_); (try (refine gate_guard (by rfl) ?_; dsimp only)); refine box_event ?hg (N := 7) ?hd (cs := #[.slice none 0 0]) (t := 31) ?hr ?_; (case hd => rfl); (case hg => rfl); (case hr => first | (go_simp; done) | (go_simp; rfl)); intro gb491 hg w42 hbox hb; have n0_ := Aside0.mk (Kd.R_below (zr HO_4.out) hb); have n1_ := Aside0.mk (Kd.R_below (zr HO_477000.out) hb); have n2_ := Aside0.mk (Kd.R_below (zr HO483.out) hb); have n3_ := Aside0.mk (Kd.R_below (zr HO488.out) hb); have n4_ := Aside0.mk (blk_below (zh BK476.out) hb); have n5_ := Aside0.mk (blk_below (zh BK485.out) hb); have n6_ := Aside0.mk (below_step (zb HB.out) hb); have n7_ := Aside0.mk (hbox); have n8_ := Aside0.mk ((by rw [hg]; exact (below_size (zb HB.out)) : w.heap.size ≤ gb491)); have n9_ := Aside0.mk ((by rw [hg]; exact (below_size (zb HB.out)) : w.heap.size ≤ gb491)); have n10_ := Aside0.mk ((by rw [hg]; exact Nat.ne_of_lt (blk_lt (zh BK476.out)) : gb476 ≠ gb491)); have n11_ := Aside0.mk ((by rw [hg]; exact Nat.ne_of_gt (blk_lt (zh BK476.out)) : gb491 ≠ gb476)); have n12_ := Aside0.mk ((by rw [hg]; exact Nat.ne_of_lt (blk_lt (zh BK485.out)) : gb485 ≠ gb491)); have n13_ := Aside0.mk ((by rw [hg]; exact Nat.ne_of_gt (blk_lt (zh BK485.out)) : gb491 ≠ gb485)); clear HO_4; clear HO_477000; clear HO483; clear HO488; clear BK476; clear BK485; clear HB; have HO_4 := n0_; have HO_477000 := n1_; have HO483 := n2_; have HO488 := n3_; have BK476 := n4_; have BK485 := n5_; have HB := n6_; have BK491 := n7_; have GW491 := n8_; have GE491 := n9_; have NB476_491 := n10_; have NB491_476 := n11_; have NB485_491 := n12_; have NB491_485 := n13_; clear n0_ n1_ n2_ n3_ n4_ n5_ n6_ n7_ n8_ n9_ n10_ n11_ n12_ n13_; clear hb hbox hg; obtain ⟨Ao43, co43, eo43⟩ := Kd.R_slice HO488.out; subst eo43; have hnb44 := NB491_476.out; have hnc44 := NB476_491.out; have hnb45 := NB491_485.out; have hnc45 := NB485_491.out; have hcz46_0 : w42.cell? ⟨gb491, 0, none⟩ = some (.slice none 0 0) := (blk_cell BK491.out 0).trans rfl; have hfz46_0 := blk_frozen BK491.out 0))
     (try simp only [Act.put, List.setIfInBounds_toArray, List.set_cons_zero, List.set_cons_succ])
     go_cut [64] (fun v64 wc => ∃ (kq : Nat) (x64_31 : Bool), v64 = .bool x64_31 ∧ Aside0 (laws_FnShares.j1 kq t473 t484 x64_31 t490 t481 = some r) ∧ Aside0 (kq ≤ kj4) ∧ Aside0 (Kd.R (Kd.int .i64) 3 wc w.heap.size (fun _ => True) v474 t473) ∧ Aside0 (Kd.R k67 67 wc w.heap.size (fun k_ => some k_ ≠ ((.slice Ao36 t481.length co36) : Value).ownBlock ∧ some k_ ≠ ((.slice Ao43 t486.length co43) : Value).ownBlock) (.slice Ao8 t470.length co8) t490) ∧ Aside0 (Kd.R k67 67 wc w.heap.size (fun k_ => some k_ ≠ ((.slice Ao8 t470.length co8) : Value).ownBlock ∧ some k_ ≠ ((.slice Ao43 t486.length co43) : Value).ownBlock) (.slice Ao36 t481.length co36) t481) ∧ Aside0 (Kd.R k67 67 wc w.heap.size (fun k_ => some k_ ≠ ((.slice Ao8 t470.length co8) : Value).ownBlock ∧ some k_ ≠ ((.slice Ao36 t481.length co36) : Value).ownBlock) (.slice Ao43 t486.length co43) t486) ∧ Aside0 (wc.heap[gb476]? = some (.cells #[(.slice Ao8 t470.length co8)] 31 (0, 0))) ∧ Aside0 (wc.heap[gb485]? = some (.cells #[(.slice Ao36 t481.length co36)] 31 (0, 0))) ∧ Aside0 (wc.heap[gb491]? = some (.cells #[(.slice Ao43 t486.length co43)] 31 (0, 0))) ∧ Aside0 (Below w.heap.size w wc))
     case first =>
      have H := HC32.out
      clear HC32
      by_cases c47 : t484 = t489
      ·rw [if_pos c47] at H
       have c47b0 : (t484 == t489) = true := beq_iff_eq.mpr c47
       have c47b1 : (t484 != t489) = false := bne_eq_false_iff_eq.mpr c47
       clear c47
       (first | rw [c47b0] | (simp only [i64_w, i32_w]; rw [c47b0]) | skip)
       replace H := Option.bind_eq_some_iff.mp H
       obtain ⟨t492, A480, H⟩ := H
       replace H : (laws_FnShares.j1 kj4 t473 t484 (!t492) t490 t481) = some r := H
       have A48 := Aside0.mk A480
       clear A480
       have H' := Aside0.mk H
       clear H
       have hnb49 := NB476_485.out
       have hnc49 := NB485_476.out
       have hnb50 := NB476_491.out
       have hnc50 := NB491_476.out
       have hcz51_0 : w42.cell? ⟨gb476, 0, none⟩ = some (.slice Ao8 t470.length co8) := (blk_cell BK476.out 0).trans rfl
       have hfz51_0 := blk_frozen BK476.out 0
       obtain ⟨Ao52, co52, eo52⟩ := Kd.R_slice HO_4.out
       subst eo52
       go_wp2_with (first | (go_at_call 22; refine calls_of_args (args' := #[.agg #[.slice Ao8 t490.length co8], .slice Ao52 t473.length co52]) (by first | (rw [show t490.length = t470.length from (Kd.R_reads' HO_477000.out).1.symm] <;> rfl) | rfl) ?_; (with_reducible refine (impl_KnowOk.calls kj4 _ _ t490 _ _ t473 t492 _ ?side1 ?side2 ?side3 ?side4 A48.out).mono ?_); (case side1 => refine (Kd.R_reads' (e := 67) (base := w.heap.size) (ok := fun k_ => (some k_ ≠ (.slice Ao36 t481.length co36 : Value).ownBlock ∧ some k_ ≠ (.slice Ao43 t486.length co43 : Value).ownBlock)) (n := t470.length) (c := co8) ?_).2.2; exact (by (with_reducible repeat (first | apply Kd.R_alloc | apply Kd.R_drewN | apply Kd.R_drew)); exact (Kd.R_mono (Kd.R_far (p := ⟨gb491, 0, none⟩) (Kd.R_types HO_477000.out BK491.out (by decide)) (fun _ hk => hk.2) (.slice Ao43 t486.length co43)) (fun _ h_ => h_.1)))); (case side2 => rw [show t490.length = t470.length from (Kd.R_reads' HO_477000.out).1.symm]; exact (Kd.R_reads' HO_477000.out).2.1); (case side3 => refine (Kd.R_reads' (e := 3) (base := w.heap.size) (ok := fun k_ => True) (n := t473.length) (c := co52) ?_).2.2; exact (by (with_reducible repeat (first | apply Kd.R_alloc | apply Kd.R_drewN | apply Kd.R_drew)); exact (Kd.R_mono (Kd.R_far (p := ⟨gb491, 0, none⟩) (Kd.R_types HO_4.out BK491.out (by decide)) (fun _ hk => hk.2) (.slice Ao43 t486.length co43)) (fun _ h_ => h_.1)))); (case side4 => exact (Kd.R_reads' HO_4.out).2.1); rintro e w53 ⟨rfl, hb⟩; have n0_ := Aside0.mk (Kd.R_below (by (with_reducible repeat (first | apply Kd.R_alloc | apply Kd.R_drewN | apply Kd.R_drew)); exact (Kd.R_mono (Kd.R_far (p := ⟨gb491, 0, none⟩) (Kd.R_types HO_4.out BK491.out (by decide)) (fun _ hk => hk.2) (.slice Ao43 t486.length co43)) (fun _ h_ => h_.1))) hb); have n1_ := Aside0.mk (Kd.R_below (by (with_reducible repeat (first | apply Kd.R_alloc | apply Kd.R_drewN | apply Kd.R_drew)); exact (Kd.R_mono (Kd.R_far (p := ⟨gb491, 0, none⟩) (Kd.R_types HO_477000.out BK491.out (by decide)) (fun _ hk => hk.2) (.slice Ao43 t486.length co43)) (fun _ h_ => h_.1))) hb); have n2_ := Aside0.mk (Kd.R_below (by (with_reducible repeat (first | apply Kd.R_alloc | apply Kd.R_drewN | apply Kd.R_drew)); exact (Kd.R_mono (Kd.R_far (p := ⟨gb491, 0, none⟩) (Kd.R_types HO483.out BK491.out (by decide)) (fun _ hk => hk.2) (.slice Ao43 t486.length co43)) (fun _ h_ => h_.1))) hb); have n3_ := Aside0.mk (Kd.R_below (by (with_reducible repeat (first | apply Kd.R_alloc | apply Kd.R_drewN | apply Kd.R_drew)); exact (Kd.R_mono (Kd.R_far (p := ⟨gb491, 0, none⟩) (Kd.R_types HO488.out BK491.out (by decide)) (fun _ hk => hk.2) (.slice Ao43 t486.length co43)) (fun _ h_ => h_.1))) hb); have n4_ := Aside0.mk (blk_below (g := gb476) (o := .cells #[.slice Ao8 t470.length co8] 31 (0, 0)) (zf BK476.out) hb); have n5_ := Aside0.mk (blk_below (g := gb485) (o := .cells #[.slice Ao36 t481.length co36] 31 (0, 0)) (zf BK485.out) hb); have n6_ := Aside0.mk (blk_below (g := gb491) (o := .cells #[.slice Ao43 t486.length co43] 31 (0, 0)) (by (with_reducible repeat (first | refine blk_drewN ?_ _ | refine blk_drew ?_ | refine blk_alloc ?_ _)); refine blk_put (cs := #[.slice none 0 0]) ?_ 0 _ rfl; (with_reducible repeat (first | refine blk_drewN ?_ _ | refine blk_drew ?_ | refine blk_alloc ?_ _)); exact BK491.out) hb); have n7_ := Aside0.mk (below_step (zb HB.out) hb); clear HO_4; clear HO_477000; clear HO483; clear HO488; clear BK476; clear BK485; clear BK491; clear HB; have HO_4 := n0_; have HO_477000 := n1_; have HO483 := n2_; have HO488 := n3_; have BK476 := n4_; have BK485 := n5_; have BK491 := n6_; have HB := n7_; clear n0_ n1_ n2_ n3_ n4_ n5_ n6_ n7_; (try clear hb); (try clear hb2); (try clear hk); (try clear hi)))
       go_meet
       case rel => exact ⟨_, (!t492), (by first | rfl | (simp; done) | (simp [*]; done)), H', ⟨by have := HJ4.out; first | omega | exact Nat.le_refl _⟩, ⟨zr HO_4.out⟩, ⟨zr HO_477000.out⟩, ⟨zr HO483.out⟩, ⟨zr (Kd.R_mono HO488.out (fun _ hk => ⟨hk.2, hk.1⟩))⟩, ⟨zh BK476.out⟩, ⟨zh BK485.out⟩, ⟨zh BK491.out⟩, ⟨zb HB.out⟩⟩
      ·rw [if_neg c47] at H
       have c47b0 : (t484 == t489) = false := beq_eq_false_iff_ne.mpr c47
       have c47b1 : (t484 != t489) = true := bne_iff_ne.mpr c47
       (first | rw [c47b0] | (simp only [i64_w, i32_w]; rw [c47b0]) | skip)
       have H' := Aside0.mk H
       clear H
       go_wp2
       go_meet
       case rel => exact ⟨_, (true), (by first | rfl | (simp; done) | (simp [*]; done)), H', ⟨by have := HJ4.out; first | omega | exact Nat.le_refl _⟩, ⟨zr (Kd.R_mono (Kd.R_far (p := ⟨gb491, 0, none⟩) (Kd.R_types HO_4.out BK491.out (by decide)) (fun _ hk => hk.2) (.slice Ao43 t486.length co43)) (fun _ hk => trivial))⟩, ⟨zr (Kd.R_mono (Kd.R_far (p := ⟨gb491, 0, none⟩) (Kd.R_types HO_477000.out BK491.out (by decide)) (fun _ hk => hk.2) (.slice Ao43 t486.length co43)) (fun _ hk => ⟨hk.1.1, hk.1.2⟩))⟩, ⟨zr (Kd.R_mono (Kd.R_far (p := ⟨gb491, 0, none⟩) (Kd.R_types HO483.out BK491.out (by decide)) (fun _ hk => hk.2) (.slice Ao43 t486.length co43)) (fun _ hk => ⟨hk.1.1, hk.1.2⟩))⟩, ⟨zr (Kd.R_mono (Kd.R_far (p := ⟨gb491, 0, none⟩) (Kd.R_types HO488.out BK491.out (by decide)) (fun _ hk => hk.2) (.slice Ao43 t486.length co43)) (fun _ hk => ⟨hk.1.2, hk.1.1⟩))⟩, ⟨zf BK476.out⟩, ⟨zf BK485.out⟩, ⟨by (with_reducible repeat (first | refine blk_drewN ?_ _ | refine blk_drew ?_ | refine blk_alloc ?_ _)); refine blk_put (cs := #[.slice none 0 0]) ?_ 0 _ rfl; (with_reducible repeat (first | refine blk_drewN ?_ _ | refine blk_drew ?_ | refine blk_alloc ?_ _)); exact BK491.out⟩, ⟨zb HB.out⟩⟩
     case rest =>
      clear HC32
      try clear c1
      try clear c2
      try clear p2
      try clear c3
      try clear c4
      try clear c5
      try clear c11
      try clear c17
      try clear c18
      try clear c19
      try clear c20
      try clear c20b0
      try clear c20b1
      try clear c20b2
      try clear c23
      try clear c24
      try clear c25
      try clear c26
      try clear c37
      try clear c44
      try clear c45
      try clear c47
      try clear c47b0
      try clear c47b1
      try clear c49
      try clear c50
      try clear hcz12_0
      try clear hcz15_0
      try clear hcz21_0
      try clear hcz25_0
      try clear hcz29_0
      try clear hcz33_0
      try clear hcz38_0
      try clear hcz40_0
      try clear hcz46_0
      try clear hcz51_0
      try clear hcz9_0
      try clear hfz12_0
      try clear hfz15_0
      try clear hfz21_0
      try clear hfz25_0
      try clear hfz29_0
      try clear hfz33_0
      try clear hfz38_0
      try clear hfz40_0
      try clear hfz46_0
      try clear hfz51_0
      try clear hfz9_0
      try clear p2
      obtain ⟨kq, x64_31, rfl, HA, HJ31, HO_4, HO_477000, HO_486000, HO_492000, BK476, BK485, BK491, HB⟩ := hcut
      have hl477000_31 := (Kd.R_reads' HO_477000.out).1
      rw [hl477000_31] at HO_477000
      (try simp only [hl477000_31])
      (try simp only [hl477000_31] at BK476)
      (try simp only [hl477000_31] at BK485)
      (try simp only [hl477000_31] at BK491)
      (try simp only [hl477000_31] at HO_4)
      (try simp only [hl477000_31] at HO_486000)
      (try simp only [hl477000_31] at HO_492000)
      cases kq with
      | zero => exact absurd HA.out (by simp [laws_FnShares.j1])
      | succ kj31 =>
       have H := HA.out
       clear HA
       simp only [laws_FnShares.j1] at H
       by_cases c54 : x64_31 = true
       ·subst c54
        have H1 : (some false) = some r := by rw [if_pos rfl] at H; exact H
        clear H
        have H := H1
        clear H1
        obtain rfl := Option.some.inj H
        go_wp2
        go_ret
        exact ⟨ze, zb HB.out⟩
       ·replace c54 := Bool.eq_false_iff.mpr c54
        subst c54
        have H1 : ((impl_NameOf.f kj31 t481 180).bind fun bt493 => ((impl_MakePower.f kj31 bt493.1 t484).bind fun bt497 => ((impl_MakePower.f kj31 bt497.1 bt493.2).bind fun bt501 => ((impl_MakeShared.f kj31 bt501.1 bt493.2 t484).bind fun bt505 => (if t484 < (t490.length : Int) then (laws_FnShares.j2 kj31 t473 t484 bt493.2 bt497.2 bt501.2 bt505.2 true bt505.1) else (if bt493.2 < (t490.length : Int) then (laws_FnShares.j2 kj31 t473 t484 bt493.2 bt497.2 bt501.2 bt505.2 true bt505.1) else (laws_FnShares.j2 kj31 t473 t484 bt493.2 bt497.2 bt501.2 bt505.2 (decide (bt505.2 < 0)) bt505.1))))))) = some r := by rw [if_neg (show ¬ (false = true) by decide)] at H; exact H
        clear H
        have H := H1
        clear H1
        replace H := Option.bind_eq_some_iff.mp H
        obtain ⟨⟨t493, t496⟩, A550, H⟩ := H
        replace H : ((impl_MakePower.f kj31 t493 t484).bind fun bt497 => ((impl_MakePower.f kj31 bt497.1 t496).bind fun bt501 => ((impl_MakeShared.f kj31 bt501.1 t496 t484).bind fun bt505 => (if t484 < (t490.length : Int) then (laws_FnShares.j2 kj31 t473 t484 t496 bt497.2 bt501.2 bt505.2 true bt505.1) else (if t496 < (t490.length : Int) then (laws_FnShares.j2 kj31 t473 t484 t496 bt497.2 bt501.2 bt505.2 true bt505.1) else (laws_FnShares.j2 kj31 t473 t484 t496 bt497.2 bt501.2 bt505.2 (decide (bt505.2 < 0)) bt505.1)))))) = some r := H
        have A55 := Aside0.mk A550
        clear A550
        replace H := Option.bind_eq_some_iff.mp H
        obtain ⟨⟨t497, t500⟩, A560, H⟩ := H
        replace H : ((impl_MakePower.f kj31 t497 t496).bind fun bt501 => ((impl_MakeShared.f kj31 bt501.1 t496 t484).bind fun bt505 => (if t484 < (t490.length : Int) then (laws_FnShares.j2 kj31 t473 t484 t496 t500 bt501.2 bt505.2 true bt505.1) else (if t496 < (t490.length : Int) then (laws_FnShares.j2 kj31 t473 t484 t496 t500 bt501.2 bt505.2 true bt505.1) else (laws_FnShares.j2 kj31 t473 t484 t496 t500 bt501.2 bt505.2 (decide (bt505.2 < 0)) bt505.1))))) = some r := H
        have A56 := Aside0.mk A560
        clear A560
        replace H := Option.bind_eq_some_iff.mp H
        obtain ⟨⟨t501, t504⟩, A570, H⟩ := H
        replace H : ((impl_MakeShared.f kj31 t501 t496 t484).bind fun bt505 => (if t484 < (t490.length : Int) then (laws_FnShares.j2 kj31 t473 t484 t496 t500 t504 bt505.2 true bt505.1) else (if t496 < (t490.length : Int) then (laws_FnShares.j2 kj31 t473 t484 t496 t500 t504 bt505.2 true bt505.1) else (laws_FnShares.j2 kj31 t473 t484 t496 t500 t504 bt505.2 (decide (bt505.2 < 0)) bt505.1)))) = some r := H
        have A57 := Aside0.mk A570
        clear A570
        replace H := Option.bind_eq_some_iff.mp H
        obtain ⟨⟨t505, t508⟩, A580, H⟩ := H
        replace H : (if t484 < (t490.length : Int) then (laws_FnShares.j2 kj31 t473 t484 t496 t500 t504 t508 true t505) else (if t496 < (t490.length : Int) then (laws_FnShares.j2 kj31 t473 t484 t496 t500 t504 t508 true t505) else (laws_FnShares.j2 kj31 t473 t484 t496 t500 t504 t508 (decide (t508 < 0)) t505))) = some r := H
        have A58 := Aside0.mk A580
        clear A580
        have HC59 := Aside0.mk H
        clear H
        have hnb60 := NB485_476.out
        have hnc60 := NB476_485.out
        have hnb61 := NB485_491.out
        have hnc61 := NB491_485.out
        have hcz62_0 : wc.cell? ⟨gb485, 0, none⟩ = some (.slice Ao36 t481.length co36) := (blk_cell BK485.out 0).trans rfl
        have hfz62_0 := blk_frozen BK485.out 0
        go_upto_region 14 with (first | ((with_reducible refine gate_callee (f := 25) rfl ?_); refine goesL_ (some 67) rfl rfl Try.func25 (by kernel_rfl) rfl #[.agg #[.slice Ao36 t481.length co36], .int .i64 180] rfl zl ?_; (with_reducible refine (impl_NameOf.calls kj31 _ _ t481 180 t493 t496 _ ?side1 ?side2 A55.out).mono ?_); (case side1 => exact zc (Kd.R_reads' HO_486000.out).2.2); (case side2 => exact (Kd.R_reads' HO_486000.out).2.1); rintro e w63 ⟨v494, rfl, ho0, hb⟩; refine ⟨_, rfl, ?_⟩; have n0_ := Aside0.mk (Kd.R_below (zr HO_4.out) hb); have n1_ := Aside0.mk (Kd.R_elder' (zr HO_477000.out) (Kd.R_base ho0) hb); have n2_ := Aside0.mk (Kd.R_elder' (zr HO_486000.out) (Kd.R_base ho0) hb); have n3_ := Aside0.mk (Kd.R_elder' (zr HO_492000.out) (Kd.R_base ho0) hb); have n4_ := Aside0.mk (Kd.R_lower (Kd.R_new' (Kd.R_new' (Kd.R_new' ho0 (Kd.R_lt (zr HO_477000.out))) (Kd.R_lt (zr HO_486000.out))) (Kd.R_lt (zr HO_492000.out))) (below_size (zb HB.out))); have n5_ := Aside0.mk (blk_below (zh BK476.out) hb); have n6_ := Aside0.mk (blk_below (zh BK485.out) hb); have n7_ := Aside0.mk (blk_below (zh BK491.out) hb); have n8_ := Aside0.mk (below_step (zb HB.out) hb); clear HO_4; clear HO_477000; clear HO_486000; clear HO_492000; clear BK476; clear BK485; clear BK491; clear HB; have HO_4 := n0_; have HO_477000 := n1_; have HO_486000 := n2_; have HO_492000 := n3_; have HO495 := n4_; have BK476 := n5_; have BK485 := n6_; have BK491 := n7_; have HB := n8_; clear n0_ n1_ n2_ n3_ n4_ n5_ n6_ n7_ n8_; (try clear hb); (try clear hb2); (try clear hk); (try clear hi); (try clear ho0); obtain ⟨Ao64, co64, eo64⟩ := Kd.R_slice HO495.out; subst eo64; have hcz65_0 : w63.cell? ⟨gb485, 0, none⟩ = some (.slice Ao36 t481.length co36) := (blk_cell BK485.out 0).trans rfl; have hfz65_0 := blk_frozen BK485.out 0) | ((with_reducible refine gate_callee (f := 27) rfl ?_); refine goesL_ (some 73) rfl rfl Try.func27 (by kernel_rfl) rfl #[.agg #[.slice Ao64 t493.length co64], .int .i64 t484] rfl zl ?_; (with_reducible refine (impl_MakePower.calls kj31 _ _ t493 t484 t497 t500 _ ?side1 ?side2 A56.out).mono ?_); (case side1 => refine (Kd.R_reads' (e := 67) (base := w.heap.size) (ok := fun k_ => (((True ∧ some k_ ≠ (.slice Ao8 t490.length co8 : Value).ownBlock) ∧ some k_ ≠ (.slice Ao36 t481.length co36 : Value).ownBlock) ∧ some k_ ≠ (.slice Ao43 t486.length co43 : Value).ownBlock)) (n := t493.length) (c := co64) ?_).2.2; exact (by (with_reducible repeat (first | apply Kd.R_alloc | apply Kd.R_drewN | apply Kd.R_drew)); exact (Kd.R_mono (Kd.R_far (p := ⟨gb485, 0, none⟩) (Kd.R_types HO495.out BK485.out (by decide)) (fun _ hk => hk.2) (.slice Ao64 t493.length co64)) (fun _ h_ => h_.1)))); (case side2 => exact (Kd.R_reads' HO495.out).2.1); rintro e w66 ⟨v498, rfl, ho0, hb⟩; refine ⟨_, rfl, ?_⟩; have n0_ := Aside0.mk (Kd.R_below (by (with_reducible repeat (first | apply Kd.R_alloc | apply Kd.R_drewN | apply Kd.R_drew)); exact (Kd.R_mono (Kd.R_far (p := ⟨gb485, 0, none⟩) (Kd.R_types HO_4.out BK485.out (by decide)) (fun _ hk => hk.2) (.slice Ao64 t493.length co64)) (fun _ h_ => h_.1))) hb); have n1_ := Aside0.mk (Kd.R_elder' (by (with_reducible repeat (first | apply Kd.R_alloc | apply Kd.R_drewN | apply Kd.R_drew)); exact (Kd.R_mono (Kd.R_far (p := ⟨gb485, 0, none⟩) (Kd.R_types HO_477000.out BK485.out (by decide)) (fun _ hk => hk.2) (.slice Ao64 t493.length co64)) (fun _ h_ => h_.1))) (Kd.R_base ho0) hb); have n2_ := Aside0.mk (Kd.R_elder' (by (with_reducible repeat (first | apply Kd.R_alloc | apply Kd.R_drewN | apply Kd.R_drew)); exact (Kd.R_mono (Kd.R_far (p := ⟨gb485, 0, none⟩) (Kd.R_types HO_486000.out BK485.out (by decide)) (fun _ hk => hk.2) (.slice Ao64 t493.length co64)) (fun _ h_ => h_.1))) (Kd.R_base ho0) hb); have n3_ := Aside0.mk (Kd.R_elder' (by (with_reducible repeat (first | apply Kd.R_alloc | apply Kd.R_drewN | apply Kd.R_drew)); exact (Kd.R_mono (Kd.R_far (p := ⟨gb485, 0, none⟩) (Kd.R_types HO_492000.out BK485.out (by decide)) (fun _ hk => hk.2) (.slice Ao64 t493.length co64)) (fun _ h_ => h_.1))) (Kd.R_base ho0) hb); have n4_ := Aside0.mk (Kd.R_elder' (by (with_reducible repeat (first | apply Kd.R_alloc | apply Kd.R_drewN | apply Kd.R_drew)); exact (Kd.R_mono (Kd.R_far (p := ⟨gb485, 0, none⟩) (Kd.R_types HO495.out BK485.out (by decide)) (fun _ hk => hk.2) (.slice Ao64 t493.length co64)) (fun _ h_ => h_.1))) (Kd.R_base ho0) hb); have n5_ := Aside0.mk (Kd.R_lower (Kd.R_new' (Kd.R_new' (Kd.R_new' (Kd.R_new' ho0 (Kd.R_lt (by (with_reducible repeat (first | apply Kd.R_alloc | apply Kd.R_drewN | apply Kd.R_drew)); exact (Kd.R_mono (Kd.R_far (p := ⟨gb485, 0, none⟩) (Kd.R_types HO_477000.out BK485.out (by decide)) (fun _ hk => hk.2) (.slice Ao64 t493.length co64)) (fun _ h_ => h_.1))))) (Kd.R_lt (by (with_reducible repeat (first | apply Kd.R_alloc | apply Kd.R_drewN | apply Kd.R_drew)); exact (Kd.R_mono (Kd.R_far (p := ⟨gb485, 0, none⟩) (Kd.R_types HO_486000.out BK485.out (by decide)) (fun _ hk => hk.2) (.slice Ao64 t493.length co64)) (fun _ h_ => h_.1))))) (Kd.R_lt (by (with_reducible repeat (first | apply Kd.R_alloc | apply Kd.R_drewN | apply Kd.R_drew)); exact (Kd.R_mono (Kd.R_far (p := ⟨gb485, 0, none⟩) (Kd.R_types HO_492000.out BK485.out (by decide)) (fun _ hk => hk.2) (.slice Ao64 t493.length co64)) (fun _ h_ => h_.1))))) (Kd.R_lt (by (with_reducible repeat (first | apply Kd.R_alloc | apply Kd.R_drewN | apply Kd.R_drew)); exact (Kd.R_mono (Kd.R_far (p := ⟨gb485, 0, none⟩) (Kd.R_types HO495.out BK485.out (by decide)) (fun _ hk => hk.2) (.slice Ao64 t493.length co64)) (fun _ h_ => h_.1))))) (below_size (zb HB.out))); have n6_ := Aside0.mk (blk_below (g := gb476) (o := .cells #[.slice Ao8 t490.length co8] 31 (0, 0)) (zf BK476.out) hb); have n7_ := Aside0.mk (blk_below (g := gb485) (o := .cells #[.slice Ao64 t493.length co64] 31 (0, 0)) (by (with_reducible repeat (first | refine blk_drewN ?_ _ | refine blk_drew ?_ | refine blk_alloc ?_ _)); refine blk_put (cs := #[.slice Ao36 t481.length co36]) ?_ 0 _ rfl; (with_reducible repeat (first | refine blk_drewN ?_ _ | refine blk_drew ?_ | refine blk_alloc ?_ _)); exact BK485.out) hb); have n8_ := Aside0.mk (blk_below (g := gb491) (o := .cells #[.slice Ao43 t486.length co43] 31 (0, 0)) (zf BK491.out) hb); have n9_ := Aside0.mk (below_step (zb HB.out) hb); clear HO_4; clear HO_477000; clear HO_486000; clear HO_492000; clear HO495; clear BK476; clear BK485; clear BK491; clear HB; have HO_4 := n0_; have HO_477000 := n1_; have HO_486000 := n2_; have HO_492000 := n3_; have HO495 := n4_; have HO499 := n5_; have BK476 := n6_; have BK485 := n7_; have BK491 := n8_; have HB := n9_; clear n0_ n1_ n2_ n3_ n4_ n5_ n6_ n7_ n8_ n9_; (try clear hb); (try clear hb2); (try clear hk); (try clear hi); (try clear ho0); obtain ⟨Ao67, co67, eo67⟩ := Kd.R_slice HO499.out; subst eo67; have hcz68_0 : w66.cell? ⟨gb485, 0, none⟩ = some (.slice Ao64 t493.length co64) := (blk_cell BK485.out 0).trans rfl; have hfz68_0 := blk_frozen BK485.out 0) | ((with_reducible refine gate_callee (f := 27) rfl ?_); refine goesL_ (some 79) rfl rfl Try.func27 (by kernel_rfl) rfl #[.agg #[.slice Ao67 t497.length co67], .int .i64 t496] rfl zl ?_; (with_reducible refine (impl_MakePower.calls kj31 _ _ t497 t496 t501 t504 _ ?side1 ?side2 A57.out).mono ?_); (case side1 => refine (Kd.R_reads' (e := 67) (base := w.heap.size) (ok := fun k_ => ((((True ∧ some k_ ≠ (.slice Ao8 t490.length co8 : Value).ownBlock) ∧ some k_ ≠ (.slice Ao36 t481.length co36 : Value).ownBlock) ∧ some k_ ≠ (.slice Ao43 t486.length co43 : Value).ownBlock) ∧ some k_ ≠ (.slice Ao64 t493.length co64 : Value).ownBlock)) (n := t497.length) (c := co67) ?_).2.2; exact (by (with_reducible repeat (first | apply Kd.R_alloc | apply Kd.R_drewN | apply Kd.R_drew)); exact (Kd.R_mono (Kd.R_far (p := ⟨gb485, 0, none⟩) (Kd.R_types HO499.out BK485.out (by decide)) (fun _ hk => hk.2) (.slice Ao67 t497.length co67)) (fun _ h_ => h_.1)))); (case side2 => exact (Kd.R_reads' HO499.out).2.1); rintro e w69 ⟨v502, rfl, ho0, hb⟩; refine ⟨_, rfl, ?_⟩; have n0_ := Aside0.mk (Kd.R_below (by (with_reducible repeat (first | apply Kd.R_alloc | apply Kd.R_drewN | apply Kd.R_drew)); exact (Kd.R_mono (Kd.R_far (p := ⟨gb485, 0, none⟩) (Kd.R_types HO_4.out BK485.out (by decide)) (fun _ hk => hk.2) (.slice Ao67 t497.length co67)) (fun _ h_ => h_.1))) hb); have n1_ := Aside0.mk (Kd.R_elder' (by (with_reducible repeat (first | apply Kd.R_alloc | apply Kd.R_drewN | apply Kd.R_drew)); exact (Kd.R_mono (Kd.R_far (p := ⟨gb485, 0, none⟩) (Kd.R_types HO_477000.out BK485.out (by decide)) (fun _ hk => hk.2) (.slice Ao67 t497.length co67)) (fun _ h_ => h_.1))) (Kd.R_base ho0) hb); have n2_ := Aside0.mk (Kd.R_elder' (by (with_reducible repeat (first | apply Kd.R_alloc | apply Kd.R_drewN | apply Kd.R_drew)); exact (Kd.R_mono (Kd.R_far (p := ⟨gb485, 0, none⟩) (Kd.R_types HO_486000.out BK485.out (by decide)) (fun _ hk => hk.2) (.slice Ao67 t497.length co67)) (fun _ h_ => h_.1))) (Kd.R_base ho0) hb); have n3_ := Aside0.mk (Kd.R_elder' (by (with_reducible repeat (first | apply Kd.R_alloc | apply Kd.R_drewN | apply Kd.R_drew)); exact (Kd.R_mono (Kd.R_far (p := ⟨gb485, 0, none⟩) (Kd.R_types HO_492000.out BK485.out (by decide)) (fun _ hk => hk.2) (.slice Ao67 t497.length co67)) (fun _ h_ => h_.1))) (Kd.R_base ho0) hb); have n4_ := Aside0.mk (Kd.R_elder' (by (with_reducible repeat (first | apply Kd.R_alloc | apply Kd.R_drewN | apply Kd.R_drew)); exact (Kd.R_mono (Kd.R_far (p := ⟨gb485, 0, none⟩) (Kd.R_types HO495.out BK485.out (by decide)) (fun _ hk => hk.2) (.slice Ao67 t497.length co67)) (fun _ h_ => h_.1))) (Kd.R_base ho0) hb); have n5_ := Aside0.mk (Kd.R_elder' (by (with_reducible repeat (first | apply Kd.R_alloc | apply Kd.R_drewN | apply Kd.R_drew)); exact (Kd.R_mono (Kd.R_far (p := ⟨gb485, 0, none⟩) (Kd.R_types HO499.out BK485.out (by decide)) (fun _ hk => hk.2) (.slice Ao67 t497.length co67)) (fun _ h_ => h_.1))) (Kd.R_base ho0) hb); have n6_ := Aside0.mk (Kd.R_lower (Kd.R_new' (Kd.R_new' (Kd.R_new' (Kd.R_new' (Kd.R_new' ho0 (Kd.R_lt (by (with_reducible repeat (first | apply Kd.R_alloc | apply Kd.R_drewN | apply Kd.R_drew)); exact (Kd.R_mono (Kd.R_far (p := ⟨gb485, 0, none⟩) (Kd.R_types HO_477000.out BK485.out (by decide)) (fun _ hk => hk.2) (.slice Ao67 t497.length co67)) (fun _ h_ => h_.1))))) (Kd.R_lt (by (with_reducible repeat (first | apply Kd.R_alloc | apply Kd.R_drewN | apply Kd.R_drew)); exact (Kd.R_mono (Kd.R_far (p := ⟨gb485, 0, none⟩) (Kd.R_types HO_486000.out BK485.out (by decide)) (fun _ hk => hk.2) (.slice Ao67 t497.length co67)) (fun _ h_ => h_.1))))) (Kd.R_lt (by (with_reducible repeat (first | apply Kd.R_alloc | apply Kd.R_drewN | apply Kd.R_drew)); exact (Kd.R_mono (Kd.R_far (p := ⟨gb485, 0, none⟩) (Kd.R_types HO_492000.out BK485.out (by decide)) (fun _ hk => hk.2) (.slice Ao67 t497.length co67)) (fun _ h_ => h_.1))))) (Kd.R_lt (by (with_reducible repeat (first | apply Kd.R_alloc | apply Kd.R_drewN | apply Kd.R_drew)); exact (Kd.R_mono (Kd.R_far (p := ⟨gb485, 0, none⟩) (Kd.R_types HO495.out BK485.out (by decide)) (fun _ hk => hk.2) (.slice Ao67 t497.length co67)) (fun _ h_ => h_.1))))) (Kd.R_lt (by (with_reducible repeat (first | apply Kd.R_alloc | apply Kd.R_drewN | apply Kd.R_drew)); exact (Kd.R_mono (Kd.R_far (p := ⟨gb485, 0, none⟩) (Kd.R_types HO499.out BK485.out (by decide)) (fun _ hk => hk.2) (.slice Ao67 t497.length co67)) (fun _ h_ => h_.1))))) (below_size (zb HB.out))); have n7_ := Aside0.mk (blk_below (g := gb476) (o := .cells #[.slice Ao8 t490.length co8] 31 (0, 0)) (zf BK476.out) hb); have n8_ := Aside0.mk (blk_below (g := gb485) (o := .cells #[.slice Ao67 t497.length co67] 31 (0, 0)) (by (with_reducible repeat (first | refine blk_drewN ?_ _ | refine blk_drew ?_ | refine blk_alloc ?_ _)); refine blk_put (cs := #[.slice Ao64 t493.length co64]) ?_ 0 _ rfl; (with_reducible repeat (first | refine blk_drewN ?_ _ | refine blk_drew ?_ | refine blk_alloc ?_ _)); exact BK485.out) hb); have n9_ := Aside0.mk (blk_below (g := gb491) (o := .cells #[.slice Ao43 t486.length co43] 31 (0, 0)) (zf BK491.out) hb); have n10_ := Aside0.mk (below_step (zb HB.out) hb); clear HO_4; clear HO_477000; clear HO_486000; clear HO_492000; clear HO495; clear HO499; clear BK476; clear BK485; clear BK491; clear HB; have HO_4 := n0_; have HO_477000 := n1_; have HO_486000 := n2_; have HO_492000 := n3_; have HO495 := n4_; have HO499 := n5_; have HO503 := n6_; have BK476 := n7_; have BK485 := n8_; have BK491 := n9_; have HB := n10_; clear n0_ n1_ n2_ n3_ n4_ n5_ n6_ n7_ n8_ n9_ n10_; (try clear hb); (try clear hb2); (try clear hk); (try clear hi); (try clear ho0); obtain ⟨Ao70, co70, eo70⟩ := Kd.R_slice HO503.out; subst eo70; have hcz71_0 : w69.cell? ⟨gb485, 0, none⟩ = some (.slice Ao67 t497.length co67) := (blk_cell BK485.out 0).trans rfl; have hfz71_0 := blk_frozen BK485.out 0) | ((with_reducible refine gate_callee (f := 28) rfl ?_); refine goesL_ (some 86) rfl rfl Try.func28 (by kernel_rfl) rfl #[.agg #[.slice Ao70 t501.length co70], .int .i64 t496, .int .i64 t484] rfl zl ?_; (with_reducible refine (impl_MakeShared.calls kj31 _ _ t501 t496 t484 t505 t508 _ ?side1 ?side2 A58.out).mono ?_); (case side1 => refine (Kd.R_reads' (e := 67) (base := w.heap.size) (ok := fun k_ => (((((True ∧ some k_ ≠ (.slice Ao8 t490.length co8 : Value).ownBlock) ∧ some k_ ≠ (.slice Ao36 t481.length co36 : Value).ownBlock) ∧ some k_ ≠ (.slice Ao43 t486.length co43 : Value).ownBlock) ∧ some k_ ≠ (.slice Ao64 t493.length co64 : Value).ownBlock) ∧ some k_ ≠ (.slice Ao67 t497.length co67 : Value).ownBlock)) (n := t501.length) (c := co70) ?_).2.2; exact (by (with_reducible repeat (first | apply Kd.R_alloc | apply Kd.R_drewN | apply Kd.R_drew)); exact (Kd.R_mono (Kd.R_far (p := ⟨gb485, 0, none⟩) (Kd.R_types HO503.out BK485.out (by decide)) (fun _ hk => hk.2) (.slice Ao70 t501.length co70)) (fun _ h_ => h_.1)))); (case side2 => exact (Kd.R_reads' HO503.out).2.1); rintro e w72 ⟨v506, rfl, ho0, hb⟩; refine ⟨_, rfl, ?_⟩; have n0_ := Aside0.mk (Kd.R_below (by (with_reducible repeat (first | apply Kd.R_alloc | apply Kd.R_drewN | apply Kd.R_drew)); exact (Kd.R_mono (Kd.R_far (p := ⟨gb485, 0, none⟩) (Kd.R_types HO_4.out BK485.out (by decide)) (fun _ hk => hk.2) (.slice Ao70 t501.length co70)) (fun _ h_ => h_.1))) hb); have n1_ := Aside0.mk (Kd.R_elder' (by (with_reducible repeat (first | apply Kd.R_alloc | apply Kd.R_drewN | apply Kd.R_drew)); exact (Kd.R_mono (Kd.R_far (p := ⟨gb485, 0, none⟩) (Kd.R_types HO_477000.out BK485.out (by decide)) (fun _ hk => hk.2) (.slice Ao70 t501.length co70)) (fun _ h_ => h_.1))) (Kd.R_base ho0) hb); have n2_ := Aside0.mk (Kd.R_elder' (by (with_reducible repeat (first | apply Kd.R_alloc | apply Kd.R_drewN | apply Kd.R_drew)); exact (Kd.R_mono (Kd.R_far (p := ⟨gb485, 0, none⟩) (Kd.R_types HO_486000.out BK485.out (by decide)) (fun _ hk => hk.2) (.slice Ao70 t501.length co70)) (fun _ h_ => h_.1))) (Kd.R_base ho0) hb); have n3_ := Aside0.mk (Kd.R_elder' (by (with_reducible repeat (first | apply Kd.R_alloc | apply Kd.R_drewN | apply Kd.R_drew)); exact (Kd.R_mono (Kd.R_far (p := ⟨gb485, 0, none⟩) (Kd.R_types HO_492000.out BK485.out (by decide)) (fun _ hk => hk.2) (.slice Ao70 t501.length co70)) (fun _ h_ => h_.1))) (Kd.R_base ho0) hb); have n4_ := Aside0.mk (Kd.R_elder' (by (with_reducible repeat (first | apply Kd.R_alloc | apply Kd.R_drewN | apply Kd.R_drew)); exact (Kd.R_mono (Kd.R_far (p := ⟨gb485, 0, none⟩) (Kd.R_types HO495.out BK485.out (by decide)) (fun _ hk => hk.2) (.slice Ao70 t501.length co70)) (fun _ h_ => h_.1))) (Kd.R_base ho0) hb); have n5_ := Aside0.mk (Kd.R_elder' (by (with_reducible repeat (first | apply Kd.R_alloc | apply Kd.R_drewN | apply Kd.R_drew)); exact (Kd.R_mono (Kd.R_far (p := ⟨gb485, 0, none⟩) (Kd.R_types HO499.out BK485.out (by decide)) (fun _ hk => hk.2) (.slice Ao70 t501.length co70)) (fun _ h_ => h_.1))) (Kd.R_base ho0) hb); have n6_ := Aside0.mk (Kd.R_elder' (by (with_reducible repeat (first | apply Kd.R_alloc | apply Kd.R_drewN | apply Kd.R_drew)); exact (Kd.R_mono (Kd.R_far (p := ⟨gb485, 0, none⟩) (Kd.R_types HO503.out BK485.out (by decide)) (fun _ hk => hk.2) (.slice Ao70 t501.length co70)) (fun _ h_ => h_.1))) (Kd.R_base ho0) hb); have n7_ := Aside0.mk (Kd.R_lower (Kd.R_new' (Kd.R_new' (Kd.R_new' (Kd.R_new' (Kd.R_new' (Kd.R_new' ho0 (Kd.R_lt (by (with_reducible repeat (first | apply Kd.R_alloc | apply Kd.R_drewN | apply Kd.R_drew)); exact (Kd.R_mono (Kd.R_far (p := ⟨gb485, 0, none⟩) (Kd.R_types HO_477000.out BK485.out (by decide)) (fun _ hk => hk.2) (.slice Ao70 t501.length co70)) (fun _ h_ => h_.1))))) (Kd.R_lt (by (with_reducible repeat (first | apply Kd.R_alloc | apply Kd.R_drewN | apply Kd.R_drew)); exact (Kd.R_mono (Kd.R_far (p := ⟨gb485, 0, none⟩) (Kd.R_types HO_486000.out BK485.out (by decide)) (fun _ hk => hk.2) (.slice Ao70 t501.length co70)) (fun _ h_ => h_.1))))) (Kd.R_lt (by (with_reducible repeat (first | apply Kd.R_alloc | apply Kd.R_drewN | apply Kd.R_drew)); exact (Kd.R_mono (Kd.R_far (p := ⟨gb485, 0, none⟩) (Kd.R_types HO_492000.out BK485.out (by decide)) (fun _ hk => hk.2) (.slice Ao70 t501.length co70)) (fun _ h_ => h_.1))))) (Kd.R_lt (by (with_reducible repeat (first | apply Kd.R_alloc | apply Kd.R_drewN | apply Kd.R_drew)); exact (Kd.R_mono (Kd.R_far (p := ⟨gb485, 0, none⟩) (Kd.R_types HO495.out BK485.out (by decide)) (fun _ hk => hk.2) (.slice Ao70 t501.length co70)) (fun _ h_ => h_.1))))) (Kd.R_lt (by (with_reducible repeat (first | apply Kd.R_alloc | apply Kd.R_drewN | apply Kd.R_drew)); exact (Kd.R_mono (Kd.R_far (p := ⟨gb485, 0, none⟩) (Kd.R_types HO499.out BK485.out (by decide)) (fun _ hk => hk.2) (.slice Ao70 t501.length co70)) (fun _ h_ => h_.1))))) (Kd.R_lt (by (with_reducible repeat (first | apply Kd.R_alloc | apply Kd.R_drewN | apply Kd.R_drew)); exact (Kd.R_mono (Kd.R_far (p := ⟨gb485, 0, none⟩) (Kd.R_types HO503.out BK485.out (by decide)) (fun _ hk => hk.2) (.slice Ao70 t501.length co70)) (fun _ h_ => h_.1))))) (below_size (zb HB.out))); have n8_ := Aside0.mk (blk_below (g := gb476) (o := .cells #[.slice Ao8 t490.length co8] 31 (0, 0)) (zf BK476.out) hb); have n9_ := Aside0.mk (blk_below (g := gb485) (o := .cells #[.slice Ao70 t501.length co70] 31 (0, 0)) (by (with_reducible repeat (first | refine blk_drewN ?_ _ | refine blk_drew ?_ | refine blk_alloc ?_ _)); refine blk_put (cs := #[.slice Ao67 t497.length co67]) ?_ 0 _ rfl; (with_reducible repeat (first | refine blk_drewN ?_ _ | refine blk_drew ?_ | refine blk_alloc ?_ _)); exact BK485.out) hb); have n10_ := Aside0.mk (blk_below (g := gb491) (o := .cells #[.slice Ao43 t486.length co43] 31 (0, 0)) (zf BK491.out) hb); have n11_ := Aside0.mk (below_step (zb HB.out) hb); clear HO_4; clear HO_477000; clear HO_486000; clear HO_492000; clear HO495; clear HO499; clear HO503; clear BK476; clear BK485; clear BK491; clear HB; have HO_4 := n0_; have HO_477000 := n1_; have HO_486000 := n2_; have HO_492000 := n3_; have HO495 := n4_; have HO499 := n5_; have HO503 := n6_; have HO507 := n7_; have BK476 := n8_; have BK485 := n9_; have BK491 := n10_; have HB := n11_; clear n0_ n1_ n2_ n3_ n4_ n5_ n6_ n7_ n8_ n9_ n10_ n11_; (try clear hb); (try clear hb2); (try clear hk); (try clear hi); (try clear ho0); obtain ⟨Ao73, co73, eo73⟩ := Kd.R_slice HO507.out; subst eo73; have hcz74_0 : w72.cell? ⟨gb485, 0, none⟩ = some (.slice Ao70 t501.length co70) := (blk_cell BK485.out 0).trans rfl; have hfz74_0 := blk_frozen BK485.out 0))
        (try simp only [Act.put, List.setIfInBounds_toArray, List.set_cons_zero, List.set_cons_succ])
        go_cut [104] (fun v104 wc => ∃ (kq : Nat) (x104_58 : Bool), v104 = .bool x104_58 ∧ Aside0 (laws_FnShares.j2 kq t473 t484 t496 t500 t504 t508 x104_58 t505 = some r) ∧ Aside0 (kq ≤ kj31) ∧ Aside0 (Kd.R (Kd.int .i64) 3 wc w.heap.size (fun _ => True) v474 t473) ∧ Aside0 (Kd.R k67 67 wc w.heap.size (fun k_ => some k_ ≠ ((.slice Ao73 t505.length co73) : Value).ownBlock ∧ some k_ ≠ ((.slice Ao43 t486.length co43) : Value).ownBlock) (.slice Ao8 t490.length co8) t490) ∧ Aside0 (Kd.R k67 67 wc w.heap.size (fun k_ => some k_ ≠ ((.slice Ao8 t490.length co8) : Value).ownBlock ∧ some k_ ≠ ((.slice Ao43 t486.length co43) : Value).ownBlock) (.slice Ao73 t505.length co73) t505) ∧ Aside0 (Kd.R k67 67 wc w.heap.size (fun k_ => some k_ ≠ ((.slice Ao8 t490.length co8) : Value).ownBlock ∧ some k_ ≠ ((.slice Ao73 t505.length co73) : Value).ownBlock) (.slice Ao43 t486.length co43) t486) ∧ Aside0 (wc.heap[gb476]? = some (.cells #[(.slice Ao8 t490.length co8)] 31 (0, 0))) ∧ Aside0 (wc.heap[gb485]? = some (.cells #[(.slice Ao73 t505.length co73)] 31 (0, 0))) ∧ Aside0 (wc.heap[gb491]? = some (.cells #[(.slice Ao43 t486.length co43)] 31 (0, 0))) ∧ Aside0 (Below w.heap.size w wc))
        case first =>
         have H := HC59.out
         clear HC59
         by_cases c75 : t484 < (t490.length : Int)
         ·rw [if_pos c75] at H
          have c75b0 : decide (t484 < (t490.length : Int)) = true := decide_eq_true c75
          (try (have c75b0h := c75b0; simp only [hl477000_31] at c75b0h))
          clear c75
          (first | rw [c75b0] | (simp only [i64_w, i32_w]; rw [c75b0]) | skip)
          have H' := Aside0.mk H
          clear H
          have hnb76 := NB476_485.out
          have hnc76 := NB485_476.out
          have hnb77 := NB476_491.out
          have hnc77 := NB491_476.out
          have hcz78_0 : w72.cell? ⟨gb476, 0, none⟩ = some (.slice Ao8 t490.length co8) := (blk_cell BK476.out 0).trans rfl
          have hfz78_0 := blk_frozen BK476.out 0
          go_wp2
          go_meet
          case rel => exact ⟨_, (true), (by first | rfl | (simp; done) | (simp [*]; done)), H', ⟨by have := HJ4.out; have := HJ31.out; first | omega | exact Nat.le_refl _⟩, ⟨by (try simp only [hl477000_31]); (with_reducible repeat (first | apply Kd.R_alloc | apply Kd.R_drewN | apply Kd.R_drew)); exact Kd.R_mono (Kd.R_far (p := ⟨gb485, 0, none⟩) (Kd.R_types HO_4.out BK485.out (by decide)) (fun _ hk => hk.2) (.slice Ao73 t505.length co73)) (fun _ hk => trivial)⟩, ⟨by (try simp only [hl477000_31]); (with_reducible repeat (first | apply Kd.R_alloc | apply Kd.R_drewN | apply Kd.R_drew)); exact Kd.R_mono (Kd.R_far (p := ⟨gb485, 0, none⟩) (Kd.R_types HO_477000.out BK485.out (by decide)) (fun _ hk => hk.2) (.slice Ao73 t505.length co73)) (fun _ hk => ⟨hk.1.2, hk.1.1.1.1.1.2⟩)⟩, ⟨by (try simp only [hl477000_31]); (with_reducible repeat (first | apply Kd.R_alloc | apply Kd.R_drewN | apply Kd.R_drew)); exact Kd.R_mono (Kd.R_far (p := ⟨gb485, 0, none⟩) (Kd.R_types HO507.out BK485.out (by decide)) (fun _ hk => hk.2) (.slice Ao73 t505.length co73)) (fun _ hk => ⟨hk.1.1.1.1.1.1.2, hk.1.1.1.1.2⟩)⟩, ⟨by (try simp only [hl477000_31]); (with_reducible repeat (first | apply Kd.R_alloc | apply Kd.R_drewN | apply Kd.R_drew)); exact Kd.R_mono (Kd.R_far (p := ⟨gb485, 0, none⟩) (Kd.R_types HO_492000.out BK485.out (by decide)) (fun _ hk => hk.2) (.slice Ao73 t505.length co73)) (fun _ hk => ⟨hk.1.1.1.1.1.1, hk.1.2⟩)⟩, ⟨by (try simp only [hl477000_31]); (with_reducible repeat (first | refine blk_drewN ?_ _ | refine blk_drew ?_ | refine blk_alloc ?_ _)); refine blk_far ?_ NB476_485.out _; (with_reducible repeat (first | refine blk_drewN ?_ _ | refine blk_drew ?_ | refine blk_alloc ?_ _)); exact BK476.out⟩, ⟨by (try simp only [hl477000_31]); (with_reducible repeat (first | refine blk_drewN ?_ _ | refine blk_drew ?_ | refine blk_alloc ?_ _)); refine blk_put (cs := #[.slice Ao70 t501.length co70]) ?_ 0 _ rfl; (with_reducible repeat (first | refine blk_drewN ?_ _ | refine blk_drew ?_ | refine blk_alloc ?_ _)); exact BK485.out⟩, ⟨by (try simp only [hl477000_31]); (with_reducible repeat (first | refine blk_drewN ?_ _ | refine blk_drew ?_ | refine blk_alloc ?_ _)); refine blk_far ?_ NB491_485.out _; (with_reducible repeat (first | refine blk_drewN ?_ _ | refine blk_drew ?_ | refine blk_alloc ?_ _)); exact BK491.out⟩, ⟨zb HB.out⟩⟩
         ·rw [if_neg c75] at H
          have c75b0 : decide (t484 < (t490.length : Int)) = false := decide_eq_false c75
          (try (have c75b0h := c75b0; simp only [hl477000_31] at c75b0h))
          clear c75
          (first | rw [c75b0] | (simp only [i64_w, i32_w]; rw [c75b0]) | skip)
          by_cases c79 : t496 < (t490.length : Int)
          ·rw [if_pos c79] at H
           have c79b0 : decide (t496 < (t490.length : Int)) = true := decide_eq_true c79
           (try (have c79b0h := c79b0; simp only [hl477000_31] at c79b0h))
           clear c79
           have H' := Aside0.mk H
           clear H
           have hnb80 := NB476_485.out
           have hnc80 := NB485_476.out
           have hnb81 := NB476_491.out
           have hnc81 := NB491_476.out
           have hcz82_0 : w72.cell? ⟨gb476, 0, none⟩ = some (.slice Ao8 t490.length co8) := (blk_cell BK476.out 0).trans rfl
           have hfz82_0 := blk_frozen BK476.out 0
           go_wp2
           go_meet
           case rel => exact ⟨_, (true), (by first | rfl | (simp; done) | (simp [*]; done)), H', ⟨by have := HJ4.out; have := HJ31.out; first | omega | exact Nat.le_refl _⟩, ⟨by (try simp only [hl477000_31]); (with_reducible repeat (first | apply Kd.R_alloc | apply Kd.R_drewN | apply Kd.R_drew)); exact Kd.R_mono (Kd.R_far (p := ⟨gb485, 0, none⟩) (Kd.R_types HO_4.out BK485.out (by decide)) (fun _ hk => hk.2) (.slice Ao73 t505.length co73)) (fun _ hk => trivial)⟩, ⟨by (try simp only [hl477000_31]); (with_reducible repeat (first | apply Kd.R_alloc | apply Kd.R_drewN | apply Kd.R_drew)); exact Kd.R_mono (Kd.R_far (p := ⟨gb485, 0, none⟩) (Kd.R_types HO_477000.out BK485.out (by decide)) (fun _ hk => hk.2) (.slice Ao73 t505.length co73)) (fun _ hk => ⟨hk.1.2, hk.1.1.1.1.1.2⟩)⟩, ⟨by (try simp only [hl477000_31]); (with_reducible repeat (first | apply Kd.R_alloc | apply Kd.R_drewN | apply Kd.R_drew)); exact Kd.R_mono (Kd.R_far (p := ⟨gb485, 0, none⟩) (Kd.R_types HO507.out BK485.out (by decide)) (fun _ hk => hk.2) (.slice Ao73 t505.length co73)) (fun _ hk => ⟨hk.1.1.1.1.1.1.2, hk.1.1.1.1.2⟩)⟩, ⟨by (try simp only [hl477000_31]); (with_reducible repeat (first | apply Kd.R_alloc | apply Kd.R_drewN | apply Kd.R_drew)); exact Kd.R_mono (Kd.R_far (p := ⟨gb485, 0, none⟩) (Kd.R_types HO_492000.out BK485.out (by decide)) (fun _ hk => hk.2) (.slice Ao73 t505.length co73)) (fun _ hk => ⟨hk.1.1.1.1.1.1, hk.1.2⟩)⟩, ⟨by (try simp only [hl477000_31]); (with_reducible repeat (first | refine blk_drewN ?_ _ | refine blk_drew ?_ | refine blk_alloc ?_ _)); refine blk_far ?_ NB476_485.out _; (with_reducible repeat (first | refine blk_drewN ?_ _ | refine blk_drew ?_ | refine blk_alloc ?_ _)); exact BK476.out⟩, ⟨by (try simp only [hl477000_31]); (with_reducible repeat (first | refine blk_drewN ?_ _ | refine blk_drew ?_ | refine blk_alloc ?_ _)); refine blk_put (cs := #[.slice Ao70 t501.length co70]) ?_ 0 _ rfl; (with_reducible repeat (first | refine blk_drewN ?_ _ | refine blk_drew ?_ | refine blk_alloc ?_ _)); exact BK485.out⟩, ⟨by (try simp only [hl477000_31]); (with_reducible repeat (first | refine blk_drewN ?_ _ | refine blk_drew ?_ | refine blk_alloc ?_ _)); refine blk_far ?_ NB491_485.out _; (with_reducible repeat (first | refine blk_drewN ?_ _ | refine blk_drew ?_ | refine blk_alloc ?_ _)); exact BK491.out⟩, ⟨zb HB.out⟩⟩
          ·rw [if_neg c79] at H
           have c79b0 : decide (t496 < (t490.length : Int)) = false := decide_eq_false c79
           (try (have c79b0h := c79b0; simp only [hl477000_31] at c79b0h))
           clear c79
           have H' := Aside0.mk H
           clear H
           have hnb83 := NB476_485.out
           have hnc83 := NB485_476.out
           have hnb84 := NB476_491.out
           have hnc84 := NB491_476.out
           have hcz85_0 : w72.cell? ⟨gb476, 0, none⟩ = some (.slice Ao8 t490.length co8) := (blk_cell BK476.out 0).trans rfl
           have hfz85_0 := blk_frozen BK476.out 0
           go_wp2
           go_meet
           case rel => exact ⟨_, (decide (t508 < 0)), (by first | rfl | (simp; done) | (simp [*]; done)), H', ⟨by have := HJ4.out; have := HJ31.out; first | omega | exact Nat.le_refl _⟩, ⟨by (try simp only [hl477000_31]); (with_reducible repeat (first | apply Kd.R_alloc | apply Kd.R_drewN | apply Kd.R_drew)); exact Kd.R_mono (Kd.R_far (p := ⟨gb485, 0, none⟩) (Kd.R_types HO_4.out BK485.out (by decide)) (fun _ hk => hk.2) (.slice Ao73 t505.length co73)) (fun _ hk => trivial)⟩, ⟨by (try simp only [hl477000_31]); (with_reducible repeat (first | apply Kd.R_alloc | apply Kd.R_drewN | apply Kd.R_drew)); exact Kd.R_mono (Kd.R_far (p := ⟨gb485, 0, none⟩) (Kd.R_types HO_477000.out BK485.out (by decide)) (fun _ hk => hk.2) (.slice Ao73 t505.length co73)) (fun _ hk => ⟨hk.1.2, hk.1.1.1.1.1.2⟩)⟩, ⟨by (try simp only [hl477000_31]); (with_reducible repeat (first | apply Kd.R_alloc | apply Kd.R_drewN | apply Kd.R_drew)); exact Kd.R_mono (Kd.R_far (p := ⟨gb485, 0, none⟩) (Kd.R_types HO507.out BK485.out (by decide)) (fun _ hk => hk.2) (.slice Ao73 t505.length co73)) (fun _ hk => ⟨hk.1.1.1.1.1.1.2, hk.1.1.1.1.2⟩)⟩, ⟨by (try simp only [hl477000_31]); (with_reducible repeat (first | apply Kd.R_alloc | apply Kd.R_drewN | apply Kd.R_drew)); exact Kd.R_mono (Kd.R_far (p := ⟨gb485, 0, none⟩) (Kd.R_types HO_492000.out BK485.out (by decide)) (fun _ hk => hk.2) (.slice Ao73 t505.length co73)) (fun _ hk => ⟨hk.1.1.1.1.1.1, hk.1.2⟩)⟩, ⟨by (try simp only [hl477000_31]); (with_reducible repeat (first | refine blk_drewN ?_ _ | refine blk_drew ?_ | refine blk_alloc ?_ _)); refine blk_far ?_ NB476_485.out _; (with_reducible repeat (first | refine blk_drewN ?_ _ | refine blk_drew ?_ | refine blk_alloc ?_ _)); exact BK476.out⟩, ⟨by (try simp only [hl477000_31]); (with_reducible repeat (first | refine blk_drewN ?_ _ | refine blk_drew ?_ | refine blk_alloc ?_ _)); refine blk_put (cs := #[.slice Ao70 t501.length co70]) ?_ 0 _ rfl; (with_reducible repeat (first | refine blk_drewN ?_ _ | refine blk_drew ?_ | refine blk_alloc ?_ _)); exact BK485.out⟩, ⟨by (try simp only [hl477000_31]); (with_reducible repeat (first | refine blk_drewN ?_ _ | refine blk_drew ?_ | refine blk_alloc ?_ _)); refine blk_far ?_ NB491_485.out _; (with_reducible repeat (first | refine blk_drewN ?_ _ | refine blk_drew ?_ | refine blk_alloc ?_ _)); exact BK491.out⟩, ⟨zb HB.out⟩⟩
        case rest =>
         clear HC59
         try clear c1
         try clear c2
         try clear p2
         try clear c3
         try clear c4
         try clear c5
         try clear c6
         try clear c7
         try clear c8
         try clear c11
         try clear c17
         try clear c18
         try clear c19
         try clear c20
         try clear c20b0
         try clear c20b1
         try clear c20b2
         try clear c23
         try clear c24
         try clear c25
         try clear c26
         try clear c27
         try clear c28
         try clear c37
         try clear c44
         try clear c45
         try clear c47
         try clear c47b0
         try clear c47b1
         try clear c49
         try clear c50
         try clear c54
         try clear c60
         try clear c61
         try clear c75
         try clear c75b0
         try clear c76
         try clear c77
         try clear c79
         try clear c79b0
         try clear c80
         try clear c81
         try clear c83
         try clear c84
         try clear hcz12_0
         try clear hcz15_0
         try clear hcz21_0
         try clear hcz25_0
         try clear hcz29_0
         try clear hcz33_0
         try clear hcz38_0
         try clear hcz40_0
         try clear hcz46_0
         try clear hcz51_0
         try clear hcz62_0
         try clear hcz65_0
         try clear hcz68_0
         try clear hcz71_0
         try clear hcz74_0
         try clear hcz78_0
         try clear hcz82_0
         try clear hcz85_0
         try clear hcz9_0
         try clear hfz12_0
         try clear hfz15_0
         try clear hfz21_0
         try clear hfz25_0
         try clear hfz29_0
         try clear hfz33_0
         try clear hfz38_0
         try clear hfz40_0
         try clear hfz46_0
         try clear hfz51_0
         try clear hfz62_0
         try clear hfz65_0
         try clear hfz68_0
         try clear hfz71_0
         try clear hfz74_0
         try clear hfz78_0
         try clear hfz82_0
         try clear hfz85_0
         try clear hfz9_0
         try clear p2
         obtain ⟨kq, x104_58, rfl, HA, HJ58, HO_4, HO_477000, HO_486000, HO_492000, BK476, BK485, BK491, HB⟩ := hcut
         cases kq with
         | zero => exact absurd HA.out (by simp [laws_FnShares.j2])
         | succ kj58 =>
          have H := HA.out
          clear HA
          simp only [laws_FnShares.j2] at H
          by_cases c86 : x104_58 = true
          ·subst c86
           have H1 : (some true) = some r := by rw [if_pos rfl] at H; exact H
           clear H
           have H := H1
           clear H1
           obtain rfl := Option.some.inj H
           go_wp2
           go_ret
           exact ⟨ze, zb HB.out⟩
          ·replace c86 := Bool.eq_false_iff.mpr c86
           subst c86
           have H1 : ((impl_KnowPut.f kj58 t505 t473 t500).bind fun bt509 => ((impl_KnowPut.f kj58 t505 bt509.1 t504).bind fun bt513 => ((impl_KnowPut.f kj58 t505 bt513.1 t496).bind fun bt517 => ((impl_KnowPut.f kj58 t505 bt513.1 t484).bind fun bt521 => ((impl_Makes.f kj58 t505 bt513.1 t508).bind fun t525 => (if t525 = true then (some false) else ((impl_Makes.f kj58 t505 bt517.1 t508).bind fun t526 => (if t526 = true then ((impl_Makes.f kj58 t505 bt521.1 t508).bind fun t527 => (if t527 = true then ((impl_Makes.f kj58 t505 bt513.1 t484).bind fun t528 => (some (!t528))) else (some false))) else (some false))))))))) = some r := by rw [if_neg (show ¬ (false = true) by decide)] at H; exact H
           clear H
           have H := H1
           clear H1
           replace H := Option.bind_eq_some_iff.mp H
           obtain ⟨⟨t509, t512⟩, A870, H⟩ := H
           replace H : ((impl_KnowPut.f kj58 t505 t509 t504).bind fun bt513 => ((impl_KnowPut.f kj58 t505 bt513.1 t496).bind fun bt517 => ((impl_KnowPut.f kj58 t505 bt513.1 t484).bind fun bt521 => ((impl_Makes.f kj58 t505 bt513.1 t508).bind fun t525 => (if t525 = true then (some false) else ((impl_Makes.f kj58 t505 bt517.1 t508).bind fun t526 => (if t526 = true then ((impl_Makes.f kj58 t505 bt521.1 t508).bind fun t527 => (if t527 = true then ((impl_Makes.f kj58 t505 bt513.1 t484).bind fun t528 => (some (!t528))) else (some false))) else (some false)))))))) = some r := H
           have A87 := Aside0.mk A870
           clear A870
           replace H := Option.bind_eq_some_iff.mp H
           obtain ⟨⟨t513, t516⟩, A880, H⟩ := H
           replace H : ((impl_KnowPut.f kj58 t505 t513 t496).bind fun bt517 => ((impl_KnowPut.f kj58 t505 t513 t484).bind fun bt521 => ((impl_Makes.f kj58 t505 t513 t508).bind fun t525 => (if t525 = true then (some false) else ((impl_Makes.f kj58 t505 bt517.1 t508).bind fun t526 => (if t526 = true then ((impl_Makes.f kj58 t505 bt521.1 t508).bind fun t527 => (if t527 = true then ((impl_Makes.f kj58 t505 t513 t484).bind fun t528 => (some (!t528))) else (some false))) else (some false))))))) = some r := H
           have A88 := Aside0.mk A880
           clear A880
           replace H := Option.bind_eq_some_iff.mp H
           obtain ⟨⟨t517, t520⟩, A890, H⟩ := H
           replace H : ((impl_KnowPut.f kj58 t505 t513 t484).bind fun bt521 => ((impl_Makes.f kj58 t505 t513 t508).bind fun t525 => (if t525 = true then (some false) else ((impl_Makes.f kj58 t505 t517 t508).bind fun t526 => (if t526 = true then ((impl_Makes.f kj58 t505 bt521.1 t508).bind fun t527 => (if t527 = true then ((impl_Makes.f kj58 t505 t513 t484).bind fun t528 => (some (!t528))) else (some false))) else (some false)))))) = some r := H
           have A89 := Aside0.mk A890
           clear A890
           replace H := Option.bind_eq_some_iff.mp H
           obtain ⟨⟨t521, t524⟩, A900, H⟩ := H
           replace H : ((impl_Makes.f kj58 t505 t513 t508).bind fun t525 => (if t525 = true then (some false) else ((impl_Makes.f kj58 t505 t517 t508).bind fun t526 => (if t526 = true then ((impl_Makes.f kj58 t505 t521 t508).bind fun t527 => (if t527 = true then ((impl_Makes.f kj58 t505 t513 t484).bind fun t528 => (some (!t528))) else (some false))) else (some false))))) = some r := H
           have A90 := Aside0.mk A900
           clear A900
           replace H := Option.bind_eq_some_iff.mp H
           obtain ⟨t525, A910, H⟩ := H
           replace H : (if t525 = true then (some false) else ((impl_Makes.f kj58 t505 t517 t508).bind fun t526 => (if t526 = true then ((impl_Makes.f kj58 t505 t521 t508).bind fun t527 => (if t527 = true then ((impl_Makes.f kj58 t505 t513 t484).bind fun t528 => (some (!t528))) else (some false))) else (some false)))) = some r := H
           have A91 := Aside0.mk A910
           clear A910
           by_cases c92 : t525 = true
           ·subst c92
            have H1 : (some false) = some r := by rw [if_pos rfl] at H; exact H
            clear H
            have H := H1
            clear H1
            obtain rfl := Option.some.inj H
            have hnb93 := NB485_476.out
            have hnc93 := NB476_485.out
            have hnb94 := NB485_491.out
            have hnc94 := NB491_485.out
            have hcz95_0 : wc.cell? ⟨gb485, 0, none⟩ = some (.slice Ao73 t505.length co73) := (blk_cell BK485.out 0).trans rfl
            have hfz95_0 := blk_frozen BK485.out 0
            obtain ⟨Ao96, co96, eo96⟩ := Kd.R_slice HO_4.out
            subst eo96
            go_wp2_with (first | ((with_reducible refine gate_callee (f := 11) rfl ?_); refine goesL_ (some 109) rfl rfl Try.func11 (by kernel_rfl) rfl #[.agg #[.slice Ao73 t505.length co73], .slice Ao96 t473.length co96, .int .i64 t500] rfl zl ?_; (with_reducible refine (impl_KnowPut.calls kj58 _ _ t505 _ _ t473 t500 t509 t512 _ ?side1 ?side2 ?side3 ?side4 A87.out).mono ?_); (case side1 => exact zc (Kd.R_reads' HO_486000.out).2.2); (case side2 => exact (Kd.R_reads' HO_486000.out).2.1); (case side3 => exact zc (Kd.R_reads' HO_4.out).2.2); (case side4 => exact (Kd.R_reads' HO_4.out).2.1); rintro e w97 ⟨v510, rfl, ho0, hb⟩; refine ⟨_, rfl, ?_⟩; have n0_ := Aside0.mk (Kd.R_elder' (zr HO_4.out) (Kd.R_base ho0) hb); have n1_ := Aside0.mk (Kd.R_below (zr HO_477000.out) hb); have n2_ := Aside0.mk (Kd.R_below (zr HO_486000.out) hb); have n3_ := Aside0.mk (Kd.R_below (zr HO_492000.out) hb); have n4_ := Aside0.mk (Kd.R_lower (Kd.R_new' ho0 (Kd.R_lt (zr HO_4.out))) (below_size (zb HB.out))); have n5_ := Aside0.mk (blk_below (zh BK476.out) hb); have n6_ := Aside0.mk (blk_below (zh BK485.out) hb); have n7_ := Aside0.mk (blk_below (zh BK491.out) hb); have n8_ := Aside0.mk (below_step (zb HB.out) hb); clear HO_4; clear HO_477000; clear HO_486000; clear HO_492000; clear BK476; clear BK485; clear BK491; clear HB; have HO_4 := n0_; have HO_477000 := n1_; have HO_486000 := n2_; have HO_492000 := n3_; have HO511 := n4_; have BK476 := n5_; have BK485 := n6_; have BK491 := n7_; have HB := n8_; clear n0_ n1_ n2_ n3_ n4_ n5_ n6_ n7_ n8_; (try clear hb); (try clear hb2); (try clear hk); (try clear hi); (try clear ho0); have hcz98_0 : w97.cell? ⟨gb485, 0, none⟩ = some (.slice Ao73 t505.length co73) := (blk_cell BK485.out 0).trans rfl; have hfz98_0 := blk_frozen BK485.out 0; obtain ⟨Ao99, co99, eo99⟩ := Kd.R_slice HO511.out; subst eo99) | ((with_reducible refine gate_callee (f := 11) rfl ?_); refine goesL_ (some 116) rfl rfl Try.func11 (by kernel_rfl) rfl #[.agg #[.slice Ao73 t505.length co73], .slice Ao99 t509.length co99, .int .i64 t504] rfl zl ?_; (with_reducible refine (impl_KnowPut.calls kj58 _ _ t505 _ _ t509 t504 t513 t516 _ ?side1 ?side2 ?side3 ?side4 A88.out).mono ?_); (case side1 => exact zc (Kd.R_reads' HO_486000.out).2.2); (case side2 => exact (Kd.R_reads' HO_486000.out).2.1); (case side3 => exact zc (Kd.R_reads' HO511.out).2.2); (case side4 => exact (Kd.R_reads' HO511.out).2.1); rintro e w100 ⟨v514, rfl, ho0, hb⟩; refine ⟨_, rfl, ?_⟩; have n0_ := Aside0.mk (Kd.R_elder' (zr HO_4.out) (Kd.R_base ho0) hb); have n1_ := Aside0.mk (Kd.R_below (zr HO_477000.out) hb); have n2_ := Aside0.mk (Kd.R_below (zr HO_486000.out) hb); have n3_ := Aside0.mk (Kd.R_below (zr HO_492000.out) hb); have n4_ := Aside0.mk (Kd.R_elder' (zr HO511.out) (Kd.R_base ho0) hb); have n5_ := Aside0.mk (Kd.R_lower (Kd.R_new' (Kd.R_new' ho0 (Kd.R_lt (zr HO_4.out))) (Kd.R_lt (zr HO511.out))) (below_size (zb HB.out))); have n6_ := Aside0.mk (blk_below (zh BK476.out) hb); have n7_ := Aside0.mk (blk_below (zh BK485.out) hb); have n8_ := Aside0.mk (blk_below (zh BK491.out) hb); have n9_ := Aside0.mk (below_step (zb HB.out) hb); clear HO_4; clear HO_477000; clear HO_486000; clear HO_492000; clear HO511; clear BK476; clear BK485; clear BK491; clear HB; have HO_4 := n0_; have HO_477000 := n1_; have HO_486000 := n2_; have HO_492000 := n3_; have HO511 := n4_; have HO515 := n5_; have BK476 := n6_; have BK485 := n7_; have BK491 := n8_; have HB := n9_; clear n0_ n1_ n2_ n3_ n4_ n5_ n6_ n7_ n8_ n9_; (try clear hb); (try clear hb2); (try clear hk); (try clear hi); (try clear ho0); have hcz101_0 : w100.cell? ⟨gb485, 0, none⟩ = some (.slice Ao73 t505.length co73) := (blk_cell BK485.out 0).trans rfl; have hfz101_0 := blk_frozen BK485.out 0; obtain ⟨Ao102, co102, eo102⟩ := Kd.R_slice HO515.out; subst eo102) | ((with_reducible refine gate_callee (f := 11) rfl ?_); refine goesL_ (some 123) rfl rfl Try.func11 (by kernel_rfl) rfl #[.agg #[.slice Ao73 t505.length co73], .slice Ao102 t513.length co102, .int .i64 t496] rfl zl ?_; (with_reducible refine (impl_KnowPut.calls kj58 _ _ t505 _ _ t513 t496 t517 t520 _ ?side1 ?side2 ?side3 ?side4 A89.out).mono ?_); (case side1 => exact zc (Kd.R_reads' HO_486000.out).2.2); (case side2 => exact (Kd.R_reads' HO_486000.out).2.1); (case side3 => exact zc (Kd.R_reads' HO515.out).2.2); (case side4 => exact (Kd.R_reads' HO515.out).2.1); rintro e w103 ⟨v518, rfl, ho0, hb⟩; refine ⟨_, rfl, ?_⟩; have n0_ := Aside0.mk (Kd.R_elder' (zr HO_4.out) (Kd.R_base ho0) hb); have n1_ := Aside0.mk (Kd.R_below (zr HO_477000.out) hb); have n2_ := Aside0.mk (Kd.R_below (zr HO_486000.out) hb); have n3_ := Aside0.mk (Kd.R_below (zr HO_492000.out) hb); have n4_ := Aside0.mk (Kd.R_elder' (zr HO511.out) (Kd.R_base ho0) hb); have n5_ := Aside0.mk (Kd.R_elder' (zr HO515.out) (Kd.R_base ho0) hb); have n6_ := Aside0.mk (Kd.R_lower (Kd.R_new' (Kd.R_new' (Kd.R_new' ho0 (Kd.R_lt (zr HO_4.out))) (Kd.R_lt (zr HO511.out))) (Kd.R_lt (zr HO515.out))) (below_size (zb HB.out))); have n7_ := Aside0.mk (blk_below (zh BK476.out) hb); have n8_ := Aside0.mk (blk_below (zh BK485.out) hb); have n9_ := Aside0.mk (blk_below (zh BK491.out) hb); have n10_ := Aside0.mk (below_step (zb HB.out) hb); clear HO_4; clear HO_477000; clear HO_486000; clear HO_492000; clear HO511; clear HO515; clear BK476; clear BK485; clear BK491; clear HB; have HO_4 := n0_; have HO_477000 := n1_; have HO_486000 := n2_; have HO_492000 := n3_; have HO511 := n4_; have HO515 := n5_; have HO519 := n6_; have BK476 := n7_; have BK485 := n8_; have BK491 := n9_; have HB := n10_; clear n0_ n1_ n2_ n3_ n4_ n5_ n6_ n7_ n8_ n9_ n10_; (try clear hb); (try clear hb2); (try clear hk); (try clear hi); (try clear ho0); have hcz104_0 : w103.cell? ⟨gb485, 0, none⟩ = some (.slice Ao73 t505.length co73) := (blk_cell BK485.out 0).trans rfl; have hfz104_0 := blk_frozen BK485.out 0) | ((with_reducible refine gate_callee (f := 11) rfl ?_); refine goesL_ (some 130) rfl rfl Try.func11 (by kernel_rfl) rfl #[.agg #[.slice Ao73 t505.length co73], .slice Ao102 t513.length co102, .int .i64 t484] rfl zl ?_; (with_reducible refine (impl_KnowPut.calls kj58 _ _ t505 _ _ t513 t484 t521 t524 _ ?side1 ?side2 ?side3 ?side4 A90.out).mono ?_); (case side1 => exact zc (Kd.R_reads' HO_486000.out).2.2); (case side2 => exact (Kd.R_reads' HO_486000.out).2.1); (case side3 => exact zc (Kd.R_reads' HO515.out).2.2); (case side4 => exact (Kd.R_reads' HO515.out).2.1); rintro e w105 ⟨v522, rfl, ho0, hb⟩; refine ⟨_, rfl, ?_⟩; have n0_ := Aside0.mk (Kd.R_elder' (zr HO_4.out) (Kd.R_base ho0) hb); have n1_ := Aside0.mk (Kd.R_below (zr HO_477000.out) hb); have n2_ := Aside0.mk (Kd.R_below (zr HO_486000.out) hb); have n3_ := Aside0.mk (Kd.R_below (zr HO_492000.out) hb); have n4_ := Aside0.mk (Kd.R_elder' (zr HO511.out) (Kd.R_base ho0) hb); have n5_ := Aside0.mk (Kd.R_elder' (zr HO515.out) (Kd.R_base ho0) hb); have n6_ := Aside0.mk (Kd.R_elder' (zr HO519.out) (Kd.R_base ho0) hb); have n7_ := Aside0.mk (Kd.R_lower (Kd.R_new' (Kd.R_new' (Kd.R_new' (Kd.R_new' ho0 (Kd.R_lt (zr HO_4.out))) (Kd.R_lt (zr HO511.out))) (Kd.R_lt (zr HO515.out))) (Kd.R_lt (zr HO519.out))) (below_size (zb HB.out))); have n8_ := Aside0.mk (blk_below (zh BK476.out) hb); have n9_ := Aside0.mk (blk_below (zh BK485.out) hb); have n10_ := Aside0.mk (blk_below (zh BK491.out) hb); have n11_ := Aside0.mk (below_step (zb HB.out) hb); clear HO_4; clear HO_477000; clear HO_486000; clear HO_492000; clear HO511; clear HO515; clear HO519; clear BK476; clear BK485; clear BK491; clear HB; have HO_4 := n0_; have HO_477000 := n1_; have HO_486000 := n2_; have HO_492000 := n3_; have HO511 := n4_; have HO515 := n5_; have HO519 := n6_; have HO523 := n7_; have BK476 := n8_; have BK485 := n9_; have BK491 := n10_; have HB := n11_; clear n0_ n1_ n2_ n3_ n4_ n5_ n6_ n7_ n8_ n9_ n10_ n11_; (try clear hb); (try clear hb2); (try clear hk); (try clear hi); (try clear ho0); have hcz106_0 : w105.cell? ⟨gb485, 0, none⟩ = some (.slice Ao73 t505.length co73) := (blk_cell BK485.out 0).trans rfl; have hfz106_0 := blk_frozen BK485.out 0) | ((with_reducible refine gate_callee (f := 29) rfl ?_); refine goesL_ (some 136) rfl rfl Try.func29 (by kernel_rfl) rfl #[.agg #[.slice Ao73 t505.length co73], .slice Ao102 t513.length co102, .int .i64 t508] rfl zl ?_; (with_reducible refine (impl_Makes.calls kj58 _ _ t505 _ _ t513 t508 true _ ?side1 ?side2 ?side3 ?side4 A91.out).mono ?_); (case side1 => exact zc (Kd.R_reads' HO_486000.out).2.2); (case side2 => exact (Kd.R_reads' HO_486000.out).2.1); (case side3 => exact zc (Kd.R_reads' HO515.out).2.2); (case side4 => exact (Kd.R_reads' HO515.out).2.1); rintro e w107 ⟨rfl, hb⟩; refine ⟨_, rfl, ?_⟩; have n0_ := Aside0.mk (Kd.R_below (zr HO_4.out) hb); have n1_ := Aside0.mk (Kd.R_below (zr HO_477000.out) hb); have n2_ := Aside0.mk (Kd.R_below (zr HO_486000.out) hb); have n3_ := Aside0.mk (Kd.R_below (zr HO_492000.out) hb); have n4_ := Aside0.mk (Kd.R_below (zr HO511.out) hb); have n5_ := Aside0.mk (Kd.R_below (zr HO515.out) hb); have n6_ := Aside0.mk (Kd.R_below (zr HO519.out) hb); have n7_ := Aside0.mk (Kd.R_below (zr HO523.out) hb); have n8_ := Aside0.mk (blk_below (zh BK476.out) hb); have n9_ := Aside0.mk (blk_below (zh BK485.out) hb); have n10_ := Aside0.mk (blk_below (zh BK491.out) hb); have n11_ := Aside0.mk (below_step (zb HB.out) hb); clear HO_4; clear HO_477000; clear HO_486000; clear HO_492000; clear HO511; clear HO515; clear HO519; clear HO523; clear BK476; clear BK485; clear BK491; clear HB; have HO_4 := n0_; have HO_477000 := n1_; have HO_486000 := n2_; have HO_492000 := n3_; have HO511 := n4_; have HO515 := n5_; have HO519 := n6_; have HO523 := n7_; have BK476 := n8_; have BK485 := n9_; have BK491 := n10_; have HB := n11_; clear n0_ n1_ n2_ n3_ n4_ n5_ n6_ n7_ n8_ n9_ n10_ n11_; (try clear hb); (try clear hb2); (try clear hk); (try clear hi)))
            go_ret
            exact ⟨ze, zb HB.out⟩
           ·replace c92 := Bool.eq_false_iff.mpr c92
            subst c92
            have H1 : ((impl_Makes.f kj58 t505 t517 t508).bind fun t526 => (if t526 = true then ((impl_Makes.f kj58 t505 t521 t508).bind fun t527 => (if t527 = true then ((impl_Makes.f kj58 t505 t513 t484).bind fun t528 => (some (!t528))) else (some false))) else (some false))) = some r := by rw [if_neg (show ¬ (false = true) by decide)] at H; exact H
            clear H
            have H := H1
            clear H1
            replace H := Option.bind_eq_some_iff.mp H
            obtain ⟨t526, A1080, H⟩ := H
            replace H : (if t526 = true then ((impl_Makes.f kj58 t505 t521 t508).bind fun t527 => (if t527 = true then ((impl_Makes.f kj58 t505 t513 t484).bind fun t528 => (some (!t528))) else (some false))) else (some false)) = some r := H
            have A108 := Aside0.mk A1080
            clear A1080
            by_cases c109 : t526 = true
            ·subst c109
             have H1 : ((impl_Makes.f kj58 t505 t521 t508).bind fun t527 => (if t527 = true then ((impl_Makes.f kj58 t505 t513 t484).bind fun t528 => (some (!t528))) else (some false))) = some r := by rw [if_pos rfl] at H; exact H
             clear H
             have H := H1
             clear H1
             replace H := Option.bind_eq_some_iff.mp H
             obtain ⟨t527, A1100, H⟩ := H
             replace H : (if t527 = true then ((impl_Makes.f kj58 t505 t513 t484).bind fun t528 => (some (!t528))) else (some false)) = some r := H
             have A110 := Aside0.mk A1100
             clear A1100
             by_cases c111 : t527 = true
             ·subst c111
              have H1 : ((impl_Makes.f kj58 t505 t513 t484).bind fun t528 => (some (!t528))) = some r := by rw [if_pos rfl] at H; exact H
              clear H
              have H := H1
              clear H1
              replace H := Option.bind_eq_some_iff.mp H
              obtain ⟨t528, A1120, H⟩ := H
              replace H : (some (!t528)) = some r := H
              have A112 := Aside0.mk A1120
              clear A1120
              obtain rfl := Option.some.inj H
              have hnb113 := NB485_476.out
              have hnc113 := NB476_485.out
              have hnb114 := NB485_491.out
              have hnc114 := NB491_485.out
              have hcz115_0 : wc.cell? ⟨gb485, 0, none⟩ = some (.slice Ao73 t505.length co73) := (blk_cell BK485.out 0).trans rfl
              have hfz115_0 := blk_frozen BK485.out 0
              obtain ⟨Ao116, co116, eo116⟩ := Kd.R_slice HO_4.out
              subst eo116
              go_wp2_with (first | ((with_reducible refine gate_callee (f := 11) rfl ?_); refine goesL_ (some 109) rfl rfl Try.func11 (by kernel_rfl) rfl #[.agg #[.slice Ao73 t505.length co73], .slice Ao116 t473.length co116, .int .i64 t500] rfl zl ?_; (with_reducible refine (impl_KnowPut.calls kj58 _ _ t505 _ _ t473 t500 t509 t512 _ ?side1 ?side2 ?side3 ?side4 A87.out).mono ?_); (case side1 => exact zc (Kd.R_reads' HO_486000.out).2.2); (case side2 => exact (Kd.R_reads' HO_486000.out).2.1); (case side3 => exact zc (Kd.R_reads' HO_4.out).2.2); (case side4 => exact (Kd.R_reads' HO_4.out).2.1); rintro e w117 ⟨v510, rfl, ho0, hb⟩; refine ⟨_, rfl, ?_⟩; have n0_ := Aside0.mk (Kd.R_elder' (zr HO_4.out) (Kd.R_base ho0) hb); have n1_ := Aside0.mk (Kd.R_below (zr HO_477000.out) hb); have n2_ := Aside0.mk (Kd.R_below (zr HO_486000.out) hb); have n3_ := Aside0.mk (Kd.R_below (zr HO_492000.out) hb); have n4_ := Aside0.mk (Kd.R_lower (Kd.R_new' ho0 (Kd.R_lt (zr HO_4.out))) (below_size (zb HB.out))); have n5_ := Aside0.mk (blk_below (zh BK476.out) hb); have n6_ := Aside0.mk (blk_below (zh BK485.out) hb); have n7_ := Aside0.mk (blk_below (zh BK491.out) hb); have n8_ := Aside0.mk (below_step (zb HB.out) hb); clear HO_4; clear HO_477000; clear HO_486000; clear HO_492000; clear BK476; clear BK485; clear BK491; clear HB; have HO_4 := n0_; have HO_477000 := n1_; have HO_486000 := n2_; have HO_492000 := n3_; have HO511 := n4_; have BK476 := n5_; have BK485 := n6_; have BK491 := n7_; have HB := n8_; clear n0_ n1_ n2_ n3_ n4_ n5_ n6_ n7_ n8_; (try clear hb); (try clear hb2); (try clear hk); (try clear hi); (try clear ho0); have hcz118_0 : w117.cell? ⟨gb485, 0, none⟩ = some (.slice Ao73 t505.length co73) := (blk_cell BK485.out 0).trans rfl; have hfz118_0 := blk_frozen BK485.out 0; obtain ⟨Ao119, co119, eo119⟩ := Kd.R_slice HO511.out; subst eo119) | ((with_reducible refine gate_callee (f := 11) rfl ?_); refine goesL_ (some 116) rfl rfl Try.func11 (by kernel_rfl) rfl #[.agg #[.slice Ao73 t505.length co73], .slice Ao119 t509.length co119, .int .i64 t504] rfl zl ?_; (with_reducible refine (impl_KnowPut.calls kj58 _ _ t505 _ _ t509 t504 t513 t516 _ ?side1 ?side2 ?side3 ?side4 A88.out).mono ?_); (case side1 => exact zc (Kd.R_reads' HO_486000.out).2.2); (case side2 => exact (Kd.R_reads' HO_486000.out).2.1); (case side3 => exact zc (Kd.R_reads' HO511.out).2.2); (case side4 => exact (Kd.R_reads' HO511.out).2.1); rintro e w120 ⟨v514, rfl, ho0, hb⟩; refine ⟨_, rfl, ?_⟩; have n0_ := Aside0.mk (Kd.R_elder' (zr HO_4.out) (Kd.R_base ho0) hb); have n1_ := Aside0.mk (Kd.R_below (zr HO_477000.out) hb); have n2_ := Aside0.mk (Kd.R_below (zr HO_486000.out) hb); have n3_ := Aside0.mk (Kd.R_below (zr HO_492000.out) hb); have n4_ := Aside0.mk (Kd.R_elder' (zr HO511.out) (Kd.R_base ho0) hb); have n5_ := Aside0.mk (Kd.R_lower (Kd.R_new' (Kd.R_new' ho0 (Kd.R_lt (zr HO_4.out))) (Kd.R_lt (zr HO511.out))) (below_size (zb HB.out))); have n6_ := Aside0.mk (blk_below (zh BK476.out) hb); have n7_ := Aside0.mk (blk_below (zh BK485.out) hb); have n8_ := Aside0.mk (blk_below (zh BK491.out) hb); have n9_ := Aside0.mk (below_step (zb HB.out) hb); clear HO_4; clear HO_477000; clear HO_486000; clear HO_492000; clear HO511; clear BK476; clear BK485; clear BK491; clear HB; have HO_4 := n0_; have HO_477000 := n1_; have HO_486000 := n2_; have HO_492000 := n3_; have HO511 := n4_; have HO515 := n5_; have BK476 := n6_; have BK485 := n7_; have BK491 := n8_; have HB := n9_; clear n0_ n1_ n2_ n3_ n4_ n5_ n6_ n7_ n8_ n9_; (try clear hb); (try clear hb2); (try clear hk); (try clear hi); (try clear ho0); have hcz121_0 : w120.cell? ⟨gb485, 0, none⟩ = some (.slice Ao73 t505.length co73) := (blk_cell BK485.out 0).trans rfl; have hfz121_0 := blk_frozen BK485.out 0; obtain ⟨Ao122, co122, eo122⟩ := Kd.R_slice HO515.out; subst eo122) | ((with_reducible refine gate_callee (f := 11) rfl ?_); refine goesL_ (some 123) rfl rfl Try.func11 (by kernel_rfl) rfl #[.agg #[.slice Ao73 t505.length co73], .slice Ao122 t513.length co122, .int .i64 t496] rfl zl ?_; (with_reducible refine (impl_KnowPut.calls kj58 _ _ t505 _ _ t513 t496 t517 t520 _ ?side1 ?side2 ?side3 ?side4 A89.out).mono ?_); (case side1 => exact zc (Kd.R_reads' HO_486000.out).2.2); (case side2 => exact (Kd.R_reads' HO_486000.out).2.1); (case side3 => exact zc (Kd.R_reads' HO515.out).2.2); (case side4 => exact (Kd.R_reads' HO515.out).2.1); rintro e w123 ⟨v518, rfl, ho0, hb⟩; refine ⟨_, rfl, ?_⟩; have n0_ := Aside0.mk (Kd.R_elder' (zr HO_4.out) (Kd.R_base ho0) hb); have n1_ := Aside0.mk (Kd.R_below (zr HO_477000.out) hb); have n2_ := Aside0.mk (Kd.R_below (zr HO_486000.out) hb); have n3_ := Aside0.mk (Kd.R_below (zr HO_492000.out) hb); have n4_ := Aside0.mk (Kd.R_elder' (zr HO511.out) (Kd.R_base ho0) hb); have n5_ := Aside0.mk (Kd.R_elder' (zr HO515.out) (Kd.R_base ho0) hb); have n6_ := Aside0.mk (Kd.R_lower (Kd.R_new' (Kd.R_new' (Kd.R_new' ho0 (Kd.R_lt (zr HO_4.out))) (Kd.R_lt (zr HO511.out))) (Kd.R_lt (zr HO515.out))) (below_size (zb HB.out))); have n7_ := Aside0.mk (blk_below (zh BK476.out) hb); have n8_ := Aside0.mk (blk_below (zh BK485.out) hb); have n9_ := Aside0.mk (blk_below (zh BK491.out) hb); have n10_ := Aside0.mk (below_step (zb HB.out) hb); clear HO_4; clear HO_477000; clear HO_486000; clear HO_492000; clear HO511; clear HO515; clear BK476; clear BK485; clear BK491; clear HB; have HO_4 := n0_; have HO_477000 := n1_; have HO_486000 := n2_; have HO_492000 := n3_; have HO511 := n4_; have HO515 := n5_; have HO519 := n6_; have BK476 := n7_; have BK485 := n8_; have BK491 := n9_; have HB := n10_; clear n0_ n1_ n2_ n3_ n4_ n5_ n6_ n7_ n8_ n9_ n10_; (try clear hb); (try clear hb2); (try clear hk); (try clear hi); (try clear ho0); have hcz124_0 : w123.cell? ⟨gb485, 0, none⟩ = some (.slice Ao73 t505.length co73) := (blk_cell BK485.out 0).trans rfl; have hfz124_0 := blk_frozen BK485.out 0) | ((with_reducible refine gate_callee (f := 11) rfl ?_); refine goesL_ (some 130) rfl rfl Try.func11 (by kernel_rfl) rfl #[.agg #[.slice Ao73 t505.length co73], .slice Ao122 t513.length co122, .int .i64 t484] rfl zl ?_; (with_reducible refine (impl_KnowPut.calls kj58 _ _ t505 _ _ t513 t484 t521 t524 _ ?side1 ?side2 ?side3 ?side4 A90.out).mono ?_); (case side1 => exact zc (Kd.R_reads' HO_486000.out).2.2); (case side2 => exact (Kd.R_reads' HO_486000.out).2.1); (case side3 => exact zc (Kd.R_reads' HO515.out).2.2); (case side4 => exact (Kd.R_reads' HO515.out).2.1); rintro e w125 ⟨v522, rfl, ho0, hb⟩; refine ⟨_, rfl, ?_⟩; have n0_ := Aside0.mk (Kd.R_elder' (zr HO_4.out) (Kd.R_base ho0) hb); have n1_ := Aside0.mk (Kd.R_below (zr HO_477000.out) hb); have n2_ := Aside0.mk (Kd.R_below (zr HO_486000.out) hb); have n3_ := Aside0.mk (Kd.R_below (zr HO_492000.out) hb); have n4_ := Aside0.mk (Kd.R_elder' (zr HO511.out) (Kd.R_base ho0) hb); have n5_ := Aside0.mk (Kd.R_elder' (zr HO515.out) (Kd.R_base ho0) hb); have n6_ := Aside0.mk (Kd.R_elder' (zr HO519.out) (Kd.R_base ho0) hb); have n7_ := Aside0.mk (Kd.R_lower (Kd.R_new' (Kd.R_new' (Kd.R_new' (Kd.R_new' ho0 (Kd.R_lt (zr HO_4.out))) (Kd.R_lt (zr HO511.out))) (Kd.R_lt (zr HO515.out))) (Kd.R_lt (zr HO519.out))) (below_size (zb HB.out))); have n8_ := Aside0.mk (blk_below (zh BK476.out) hb); have n9_ := Aside0.mk (blk_below (zh BK485.out) hb); have n10_ := Aside0.mk (blk_below (zh BK491.out) hb); have n11_ := Aside0.mk (below_step (zb HB.out) hb); clear HO_4; clear HO_477000; clear HO_486000; clear HO_492000; clear HO511; clear HO515; clear HO519; clear BK476; clear BK485; clear BK491; clear HB; have HO_4 := n0_; have HO_477000 := n1_; have HO_486000 := n2_; have HO_492000 := n3_; have HO511 := n4_; have HO515 := n5_; have HO519 := n6_; have HO523 := n7_; have BK476 := n8_; have BK485 := n9_; have BK491 := n10_; have HB := n11_; clear n0_ n1_ n2_ n3_ n4_ n5_ n6_ n7_ n8_ n9_ n10_ n11_; (try clear hb); (try clear hb2); (try clear hk); (try clear hi); (try clear ho0); have hcz126_0 : w125.cell? ⟨gb485, 0, none⟩ = some (.slice Ao73 t505.length co73) := (blk_cell BK485.out 0).trans rfl; have hfz126_0 := blk_frozen BK485.out 0) | ((with_reducible refine gate_callee (f := 29) rfl ?_); refine goesL_ (some 136) rfl rfl Try.func29 (by kernel_rfl) rfl #[.agg #[.slice Ao73 t505.length co73], .slice Ao122 t513.length co122, .int .i64 t508] rfl zl ?_; (with_reducible refine (impl_Makes.calls kj58 _ _ t505 _ _ t513 t508 false _ ?side1 ?side2 ?side3 ?side4 A91.out).mono ?_); (case side1 => exact zc (Kd.R_reads' HO_486000.out).2.2); (case side2 => exact (Kd.R_reads' HO_486000.out).2.1); (case side3 => exact zc (Kd.R_reads' HO515.out).2.2); (case side4 => exact (Kd.R_reads' HO515.out).2.1); rintro e w127 ⟨rfl, hb⟩; refine ⟨_, rfl, ?_⟩; have n0_ := Aside0.mk (Kd.R_below (zr HO_4.out) hb); have n1_ := Aside0.mk (Kd.R_below (zr HO_477000.out) hb); have n2_ := Aside0.mk (Kd.R_below (zr HO_486000.out) hb); have n3_ := Aside0.mk (Kd.R_below (zr HO_492000.out) hb); have n4_ := Aside0.mk (Kd.R_below (zr HO511.out) hb); have n5_ := Aside0.mk (Kd.R_below (zr HO515.out) hb); have n6_ := Aside0.mk (Kd.R_below (zr HO519.out) hb); have n7_ := Aside0.mk (Kd.R_below (zr HO523.out) hb); have n8_ := Aside0.mk (blk_below (zh BK476.out) hb); have n9_ := Aside0.mk (blk_below (zh BK485.out) hb); have n10_ := Aside0.mk (blk_below (zh BK491.out) hb); have n11_ := Aside0.mk (below_step (zb HB.out) hb); clear HO_4; clear HO_477000; clear HO_486000; clear HO_492000; clear HO511; clear HO515; clear HO519; clear HO523; clear BK476; clear BK485; clear BK491; clear HB; have HO_4 := n0_; have HO_477000 := n1_; have HO_486000 := n2_; have HO_492000 := n3_; have HO511 := n4_; have HO515 := n5_; have HO519 := n6_; have HO523 := n7_; have BK476 := n8_; have BK485 := n9_; have BK491 := n10_; have HB := n11_; clear n0_ n1_ n2_ n3_ n4_ n5_ n6_ n7_ n8_ n9_ n10_ n11_; (try clear hb); (try clear hb2); (try clear hk); (try clear hi); have hcz128_0 : w127.cell? ⟨gb485, 0, none⟩ = some (.slice Ao73 t505.length co73) := (blk_cell BK485.out 0).trans rfl; have hfz128_0 := blk_frozen BK485.out 0; obtain ⟨Ao129, co129, eo129⟩ := Kd.R_slice HO519.out; subst eo129) | (go_at_call 29; (with_reducible refine (impl_Makes.calls kj58 _ _ t505 _ _ t517 t508 true _ ?side1 ?side2 ?side3 ?side4 A108.out).mono ?_); (case side1 => exact zc (Kd.R_reads' HO_486000.out).2.2); (case side2 => exact (Kd.R_reads' HO_486000.out).2.1); (case side3 => exact zc (Kd.R_reads' HO519.out).2.2); (case side4 => exact (Kd.R_reads' HO519.out).2.1); rintro e w130 ⟨rfl, hb⟩; have n0_ := Aside0.mk (Kd.R_below (zr HO_4.out) hb); have n1_ := Aside0.mk (Kd.R_below (zr HO_477000.out) hb); have n2_ := Aside0.mk (Kd.R_below (zr HO_486000.out) hb); have n3_ := Aside0.mk (Kd.R_below (zr HO_492000.out) hb); have n4_ := Aside0.mk (Kd.R_below (zr HO511.out) hb); have n5_ := Aside0.mk (Kd.R_below (zr HO515.out) hb); have n6_ := Aside0.mk (Kd.R_below (zr HO519.out) hb); have n7_ := Aside0.mk (Kd.R_below (zr HO523.out) hb); have n8_ := Aside0.mk (blk_below (zh BK476.out) hb); have n9_ := Aside0.mk (blk_below (zh BK485.out) hb); have n10_ := Aside0.mk (blk_below (zh BK491.out) hb); have n11_ := Aside0.mk (below_step (zb HB.out) hb); clear HO_4; clear HO_477000; clear HO_486000; clear HO_492000; clear HO511; clear HO515; clear HO519; clear HO523; clear BK476; clear BK485; clear BK491; clear HB; have HO_4 := n0_; have HO_477000 := n1_; have HO_486000 := n2_; have HO_492000 := n3_; have HO511 := n4_; have HO515 := n5_; have HO519 := n6_; have HO523 := n7_; have BK476 := n8_; have BK485 := n9_; have BK491 := n10_; have HB := n11_; clear n0_ n1_ n2_ n3_ n4_ n5_ n6_ n7_ n8_ n9_ n10_ n11_; (try clear hb); (try clear hb2); (try clear hk); (try clear hi); have hcz131_0 : w130.cell? ⟨gb485, 0, none⟩ = some (.slice Ao73 t505.length co73) := (blk_cell BK485.out 0).trans rfl; have hfz131_0 := blk_frozen BK485.out 0; obtain ⟨Ao132, co132, eo132⟩ := Kd.R_slice HO523.out; subst eo132) | (go_at_call 29; (with_reducible refine (impl_Makes.calls kj58 _ _ t505 _ _ t521 t508 true _ ?side1 ?side2 ?side3 ?side4 A110.out).mono ?_); (case side1 => exact zc (Kd.R_reads' HO_486000.out).2.2); (case side2 => exact (Kd.R_reads' HO_486000.out).2.1); (case side3 => exact zc (Kd.R_reads' HO523.out).2.2); (case side4 => exact (Kd.R_reads' HO523.out).2.1); rintro e w133 ⟨rfl, hb⟩; have n0_ := Aside0.mk (Kd.R_below (zr HO_4.out) hb); have n1_ := Aside0.mk (Kd.R_below (zr HO_477000.out) hb); have n2_ := Aside0.mk (Kd.R_below (zr HO_486000.out) hb); have n3_ := Aside0.mk (Kd.R_below (zr HO_492000.out) hb); have n4_ := Aside0.mk (Kd.R_below (zr HO511.out) hb); have n5_ := Aside0.mk (Kd.R_below (zr HO515.out) hb); have n6_ := Aside0.mk (Kd.R_below (zr HO519.out) hb); have n7_ := Aside0.mk (Kd.R_below (zr HO523.out) hb); have n8_ := Aside0.mk (blk_below (zh BK476.out) hb); have n9_ := Aside0.mk (blk_below (zh BK485.out) hb); have n10_ := Aside0.mk (blk_below (zh BK491.out) hb); have n11_ := Aside0.mk (below_step (zb HB.out) hb); clear HO_4; clear HO_477000; clear HO_486000; clear HO_492000; clear HO511; clear HO515; clear HO519; clear HO523; clear BK476; clear BK485; clear BK491; clear HB; have HO_4 := n0_; have HO_477000 := n1_; have HO_486000 := n2_; have HO_492000 := n3_; have HO511 := n4_; have HO515 := n5_; have HO519 := n6_; have HO523 := n7_; have BK476 := n8_; have BK485 := n9_; have BK491 := n10_; have HB := n11_; clear n0_ n1_ n2_ n3_ n4_ n5_ n6_ n7_ n8_ n9_ n10_ n11_; (try clear hb); (try clear hb2); (try clear hk); (try clear hi); have hcz134_0 : w133.cell? ⟨gb485, 0, none⟩ = some (.slice Ao73 t505.length co73) := (blk_cell BK485.out 0).trans rfl; have hfz134_0 := blk_frozen BK485.out 0) | (go_at_call 29; (with_reducible refine (impl_Makes.calls kj58 _ _ t505 _ _ t513 t484 t528 _ ?side1 ?side2 ?side3 ?side4 A112.out).mono ?_); (case side1 => exact zc (Kd.R_reads' HO_486000.out).2.2); (case side2 => exact (Kd.R_reads' HO_486000.out).2.1); (case side3 => exact zc (Kd.R_reads' HO515.out).2.2); (case side4 => exact (Kd.R_reads' HO515.out).2.1); rintro e w135 ⟨rfl, hb⟩; have n0_ := Aside0.mk (Kd.R_below (zr HO_4.out) hb); have n1_ := Aside0.mk (Kd.R_below (zr HO_477000.out) hb); have n2_ := Aside0.mk (Kd.R_below (zr HO_486000.out) hb); have n3_ := Aside0.mk (Kd.R_below (zr HO_492000.out) hb); have n4_ := Aside0.mk (Kd.R_below (zr HO511.out) hb); have n5_ := Aside0.mk (Kd.R_below (zr HO515.out) hb); have n6_ := Aside0.mk (Kd.R_below (zr HO519.out) hb); have n7_ := Aside0.mk (Kd.R_below (zr HO523.out) hb); have n8_ := Aside0.mk (blk_below (zh BK476.out) hb); have n9_ := Aside0.mk (blk_below (zh BK485.out) hb); have n10_ := Aside0.mk (blk_below (zh BK491.out) hb); have n11_ := Aside0.mk (below_step (zb HB.out) hb); clear HO_4; clear HO_477000; clear HO_486000; clear HO_492000; clear HO511; clear HO515; clear HO519; clear HO523; clear BK476; clear BK485; clear BK491; clear HB; have HO_4 := n0_; have HO_477000 := n1_; have HO_486000 := n2_; have HO_492000 := n3_; have HO511 := n4_; have HO515 := n5_; have HO519 := n6_; have HO523 := n7_; have BK476 := n8_; have BK485 := n9_; have BK491 := n10_; have HB := n11_; clear n0_ n1_ n2_ n3_ n4_ n5_ n6_ n7_ n8_ n9_ n10_ n11_; (try clear hb); (try clear hb2); (try clear hk); (try clear hi)))
              go_ret
              exact ⟨ze, zb HB.out⟩
             ·replace c111 := Bool.eq_false_iff.mpr c111
              subst c111
              have H1 : (some false) = some r := by rw [if_neg (show ¬ (false = true) by decide)] at H; exact H
              clear H
              have H := H1
              clear H1
              obtain rfl := Option.some.inj H
              have hnb136 := NB485_476.out
              have hnc136 := NB476_485.out
              have hnb137 := NB485_491.out
              have hnc137 := NB491_485.out
              have hcz138_0 : wc.cell? ⟨gb485, 0, none⟩ = some (.slice Ao73 t505.length co73) := (blk_cell BK485.out 0).trans rfl
              have hfz138_0 := blk_frozen BK485.out 0
              obtain ⟨Ao139, co139, eo139⟩ := Kd.R_slice HO_4.out
              subst eo139
              go_wp2_with (first | ((with_reducible refine gate_callee (f := 11) rfl ?_); refine goesL_ (some 109) rfl rfl Try.func11 (by kernel_rfl) rfl #[.agg #[.slice Ao73 t505.length co73], .slice Ao139 t473.length co139, .int .i64 t500] rfl zl ?_; (with_reducible refine (impl_KnowPut.calls kj58 _ _ t505 _ _ t473 t500 t509 t512 _ ?side1 ?side2 ?side3 ?side4 A87.out).mono ?_); (case side1 => exact zc (Kd.R_reads' HO_486000.out).2.2); (case side2 => exact (Kd.R_reads' HO_486000.out).2.1); (case side3 => exact zc (Kd.R_reads' HO_4.out).2.2); (case side4 => exact (Kd.R_reads' HO_4.out).2.1); rintro e w140 ⟨v510, rfl, ho0, hb⟩; refine ⟨_, rfl, ?_⟩; have n0_ := Aside0.mk (Kd.R_elder' (zr HO_4.out) (Kd.R_base ho0) hb); have n1_ := Aside0.mk (Kd.R_below (zr HO_477000.out) hb); have n2_ := Aside0.mk (Kd.R_below (zr HO_486000.out) hb); have n3_ := Aside0.mk (Kd.R_below (zr HO_492000.out) hb); have n4_ := Aside0.mk (Kd.R_lower (Kd.R_new' ho0 (Kd.R_lt (zr HO_4.out))) (below_size (zb HB.out))); have n5_ := Aside0.mk (blk_below (zh BK476.out) hb); have n6_ := Aside0.mk (blk_below (zh BK485.out) hb); have n7_ := Aside0.mk (blk_below (zh BK491.out) hb); have n8_ := Aside0.mk (below_step (zb HB.out) hb); clear HO_4; clear HO_477000; clear HO_486000; clear HO_492000; clear BK476; clear BK485; clear BK491; clear HB; have HO_4 := n0_; have HO_477000 := n1_; have HO_486000 := n2_; have HO_492000 := n3_; have HO511 := n4_; have BK476 := n5_; have BK485 := n6_; have BK491 := n7_; have HB := n8_; clear n0_ n1_ n2_ n3_ n4_ n5_ n6_ n7_ n8_; (try clear hb); (try clear hb2); (try clear hk); (try clear hi); (try clear ho0); have hcz141_0 : w140.cell? ⟨gb485, 0, none⟩ = some (.slice Ao73 t505.length co73) := (blk_cell BK485.out 0).trans rfl; have hfz141_0 := blk_frozen BK485.out 0; obtain ⟨Ao142, co142, eo142⟩ := Kd.R_slice HO511.out; subst eo142) | ((with_reducible refine gate_callee (f := 11) rfl ?_); refine goesL_ (some 116) rfl rfl Try.func11 (by kernel_rfl) rfl #[.agg #[.slice Ao73 t505.length co73], .slice Ao142 t509.length co142, .int .i64 t504] rfl zl ?_; (with_reducible refine (impl_KnowPut.calls kj58 _ _ t505 _ _ t509 t504 t513 t516 _ ?side1 ?side2 ?side3 ?side4 A88.out).mono ?_); (case side1 => exact zc (Kd.R_reads' HO_486000.out).2.2); (case side2 => exact (Kd.R_reads' HO_486000.out).2.1); (case side3 => exact zc (Kd.R_reads' HO511.out).2.2); (case side4 => exact (Kd.R_reads' HO511.out).2.1); rintro e w143 ⟨v514, rfl, ho0, hb⟩; refine ⟨_, rfl, ?_⟩; have n0_ := Aside0.mk (Kd.R_elder' (zr HO_4.out) (Kd.R_base ho0) hb); have n1_ := Aside0.mk (Kd.R_below (zr HO_477000.out) hb); have n2_ := Aside0.mk (Kd.R_below (zr HO_486000.out) hb); have n3_ := Aside0.mk (Kd.R_below (zr HO_492000.out) hb); have n4_ := Aside0.mk (Kd.R_elder' (zr HO511.out) (Kd.R_base ho0) hb); have n5_ := Aside0.mk (Kd.R_lower (Kd.R_new' (Kd.R_new' ho0 (Kd.R_lt (zr HO_4.out))) (Kd.R_lt (zr HO511.out))) (below_size (zb HB.out))); have n6_ := Aside0.mk (blk_below (zh BK476.out) hb); have n7_ := Aside0.mk (blk_below (zh BK485.out) hb); have n8_ := Aside0.mk (blk_below (zh BK491.out) hb); have n9_ := Aside0.mk (below_step (zb HB.out) hb); clear HO_4; clear HO_477000; clear HO_486000; clear HO_492000; clear HO511; clear BK476; clear BK485; clear BK491; clear HB; have HO_4 := n0_; have HO_477000 := n1_; have HO_486000 := n2_; have HO_492000 := n3_; have HO511 := n4_; have HO515 := n5_; have BK476 := n6_; have BK485 := n7_; have BK491 := n8_; have HB := n9_; clear n0_ n1_ n2_ n3_ n4_ n5_ n6_ n7_ n8_ n9_; (try clear hb); (try clear hb2); (try clear hk); (try clear hi); (try clear ho0); have hcz144_0 : w143.cell? ⟨gb485, 0, none⟩ = some (.slice Ao73 t505.length co73) := (blk_cell BK485.out 0).trans rfl; have hfz144_0 := blk_frozen BK485.out 0; obtain ⟨Ao145, co145, eo145⟩ := Kd.R_slice HO515.out; subst eo145) | ((with_reducible refine gate_callee (f := 11) rfl ?_); refine goesL_ (some 123) rfl rfl Try.func11 (by kernel_rfl) rfl #[.agg #[.slice Ao73 t505.length co73], .slice Ao145 t513.length co145, .int .i64 t496] rfl zl ?_; (with_reducible refine (impl_KnowPut.calls kj58 _ _ t505 _ _ t513 t496 t517 t520 _ ?side1 ?side2 ?side3 ?side4 A89.out).mono ?_); (case side1 => exact zc (Kd.R_reads' HO_486000.out).2.2); (case side2 => exact (Kd.R_reads' HO_486000.out).2.1); (case side3 => exact zc (Kd.R_reads' HO515.out).2.2); (case side4 => exact (Kd.R_reads' HO515.out).2.1); rintro e w146 ⟨v518, rfl, ho0, hb⟩; refine ⟨_, rfl, ?_⟩; have n0_ := Aside0.mk (Kd.R_elder' (zr HO_4.out) (Kd.R_base ho0) hb); have n1_ := Aside0.mk (Kd.R_below (zr HO_477000.out) hb); have n2_ := Aside0.mk (Kd.R_below (zr HO_486000.out) hb); have n3_ := Aside0.mk (Kd.R_below (zr HO_492000.out) hb); have n4_ := Aside0.mk (Kd.R_elder' (zr HO511.out) (Kd.R_base ho0) hb); have n5_ := Aside0.mk (Kd.R_elder' (zr HO515.out) (Kd.R_base ho0) hb); have n6_ := Aside0.mk (Kd.R_lower (Kd.R_new' (Kd.R_new' (Kd.R_new' ho0 (Kd.R_lt (zr HO_4.out))) (Kd.R_lt (zr HO511.out))) (Kd.R_lt (zr HO515.out))) (below_size (zb HB.out))); have n7_ := Aside0.mk (blk_below (zh BK476.out) hb); have n8_ := Aside0.mk (blk_below (zh BK485.out) hb); have n9_ := Aside0.mk (blk_below (zh BK491.out) hb); have n10_ := Aside0.mk (below_step (zb HB.out) hb); clear HO_4; clear HO_477000; clear HO_486000; clear HO_492000; clear HO511; clear HO515; clear BK476; clear BK485; clear BK491; clear HB; have HO_4 := n0_; have HO_477000 := n1_; have HO_486000 := n2_; have HO_492000 := n3_; have HO511 := n4_; have HO515 := n5_; have HO519 := n6_; have BK476 := n7_; have BK485 := n8_; have BK491 := n9_; have HB := n10_; clear n0_ n1_ n2_ n3_ n4_ n5_ n6_ n7_ n8_ n9_ n10_; (try clear hb); (try clear hb2); (try clear hk); (try clear hi); (try clear ho0); have hcz147_0 : w146.cell? ⟨gb485, 0, none⟩ = some (.slice Ao73 t505.length co73) := (blk_cell BK485.out 0).trans rfl; have hfz147_0 := blk_frozen BK485.out 0) | ((with_reducible refine gate_callee (f := 11) rfl ?_); refine goesL_ (some 130) rfl rfl Try.func11 (by kernel_rfl) rfl #[.agg #[.slice Ao73 t505.length co73], .slice Ao145 t513.length co145, .int .i64 t484] rfl zl ?_; (with_reducible refine (impl_KnowPut.calls kj58 _ _ t505 _ _ t513 t484 t521 t524 _ ?side1 ?side2 ?side3 ?side4 A90.out).mono ?_); (case side1 => exact zc (Kd.R_reads' HO_486000.out).2.2); (case side2 => exact (Kd.R_reads' HO_486000.out).2.1); (case side3 => exact zc (Kd.R_reads' HO515.out).2.2); (case side4 => exact (Kd.R_reads' HO515.out).2.1); rintro e w148 ⟨v522, rfl, ho0, hb⟩; refine ⟨_, rfl, ?_⟩; have n0_ := Aside0.mk (Kd.R_elder' (zr HO_4.out) (Kd.R_base ho0) hb); have n1_ := Aside0.mk (Kd.R_below (zr HO_477000.out) hb); have n2_ := Aside0.mk (Kd.R_below (zr HO_486000.out) hb); have n3_ := Aside0.mk (Kd.R_below (zr HO_492000.out) hb); have n4_ := Aside0.mk (Kd.R_elder' (zr HO511.out) (Kd.R_base ho0) hb); have n5_ := Aside0.mk (Kd.R_elder' (zr HO515.out) (Kd.R_base ho0) hb); have n6_ := Aside0.mk (Kd.R_elder' (zr HO519.out) (Kd.R_base ho0) hb); have n7_ := Aside0.mk (Kd.R_lower (Kd.R_new' (Kd.R_new' (Kd.R_new' (Kd.R_new' ho0 (Kd.R_lt (zr HO_4.out))) (Kd.R_lt (zr HO511.out))) (Kd.R_lt (zr HO515.out))) (Kd.R_lt (zr HO519.out))) (below_size (zb HB.out))); have n8_ := Aside0.mk (blk_below (zh BK476.out) hb); have n9_ := Aside0.mk (blk_below (zh BK485.out) hb); have n10_ := Aside0.mk (blk_below (zh BK491.out) hb); have n11_ := Aside0.mk (below_step (zb HB.out) hb); clear HO_4; clear HO_477000; clear HO_486000; clear HO_492000; clear HO511; clear HO515; clear HO519; clear BK476; clear BK485; clear BK491; clear HB; have HO_4 := n0_; have HO_477000 := n1_; have HO_486000 := n2_; have HO_492000 := n3_; have HO511 := n4_; have HO515 := n5_; have HO519 := n6_; have HO523 := n7_; have BK476 := n8_; have BK485 := n9_; have BK491 := n10_; have HB := n11_; clear n0_ n1_ n2_ n3_ n4_ n5_ n6_ n7_ n8_ n9_ n10_ n11_; (try clear hb); (try clear hb2); (try clear hk); (try clear hi); (try clear ho0); have hcz149_0 : w148.cell? ⟨gb485, 0, none⟩ = some (.slice Ao73 t505.length co73) := (blk_cell BK485.out 0).trans rfl; have hfz149_0 := blk_frozen BK485.out 0) | ((with_reducible refine gate_callee (f := 29) rfl ?_); refine goesL_ (some 136) rfl rfl Try.func29 (by kernel_rfl) rfl #[.agg #[.slice Ao73 t505.length co73], .slice Ao145 t513.length co145, .int .i64 t508] rfl zl ?_; (with_reducible refine (impl_Makes.calls kj58 _ _ t505 _ _ t513 t508 false _ ?side1 ?side2 ?side3 ?side4 A91.out).mono ?_); (case side1 => exact zc (Kd.R_reads' HO_486000.out).2.2); (case side2 => exact (Kd.R_reads' HO_486000.out).2.1); (case side3 => exact zc (Kd.R_reads' HO515.out).2.2); (case side4 => exact (Kd.R_reads' HO515.out).2.1); rintro e w150 ⟨rfl, hb⟩; refine ⟨_, rfl, ?_⟩; have n0_ := Aside0.mk (Kd.R_below (zr HO_4.out) hb); have n1_ := Aside0.mk (Kd.R_below (zr HO_477000.out) hb); have n2_ := Aside0.mk (Kd.R_below (zr HO_486000.out) hb); have n3_ := Aside0.mk (Kd.R_below (zr HO_492000.out) hb); have n4_ := Aside0.mk (Kd.R_below (zr HO511.out) hb); have n5_ := Aside0.mk (Kd.R_below (zr HO515.out) hb); have n6_ := Aside0.mk (Kd.R_below (zr HO519.out) hb); have n7_ := Aside0.mk (Kd.R_below (zr HO523.out) hb); have n8_ := Aside0.mk (blk_below (zh BK476.out) hb); have n9_ := Aside0.mk (blk_below (zh BK485.out) hb); have n10_ := Aside0.mk (blk_below (zh BK491.out) hb); have n11_ := Aside0.mk (below_step (zb HB.out) hb); clear HO_4; clear HO_477000; clear HO_486000; clear HO_492000; clear HO511; clear HO515; clear HO519; clear HO523; clear BK476; clear BK485; clear BK491; clear HB; have HO_4 := n0_; have HO_477000 := n1_; have HO_486000 := n2_; have HO_492000 := n3_; have HO511 := n4_; have HO515 := n5_; have HO519 := n6_; have HO523 := n7_; have BK476 := n8_; have BK485 := n9_; have BK491 := n10_; have HB := n11_; clear n0_ n1_ n2_ n3_ n4_ n5_ n6_ n7_ n8_ n9_ n10_ n11_; (try clear hb); (try clear hb2); (try clear hk); (try clear hi); have hcz151_0 : w150.cell? ⟨gb485, 0, none⟩ = some (.slice Ao73 t505.length co73) := (blk_cell BK485.out 0).trans rfl; have hfz151_0 := blk_frozen BK485.out 0; obtain ⟨Ao152, co152, eo152⟩ := Kd.R_slice HO519.out; subst eo152) | (go_at_call 29; (with_reducible refine (impl_Makes.calls kj58 _ _ t505 _ _ t517 t508 true _ ?side1 ?side2 ?side3 ?side4 A108.out).mono ?_); (case side1 => exact zc (Kd.R_reads' HO_486000.out).2.2); (case side2 => exact (Kd.R_reads' HO_486000.out).2.1); (case side3 => exact zc (Kd.R_reads' HO519.out).2.2); (case side4 => exact (Kd.R_reads' HO519.out).2.1); rintro e w153 ⟨rfl, hb⟩; have n0_ := Aside0.mk (Kd.R_below (zr HO_4.out) hb); have n1_ := Aside0.mk (Kd.R_below (zr HO_477000.out) hb); have n2_ := Aside0.mk (Kd.R_below (zr HO_486000.out) hb); have n3_ := Aside0.mk (Kd.R_below (zr HO_492000.out) hb); have n4_ := Aside0.mk (Kd.R_below (zr HO511.out) hb); have n5_ := Aside0.mk (Kd.R_below (zr HO515.out) hb); have n6_ := Aside0.mk (Kd.R_below (zr HO519.out) hb); have n7_ := Aside0.mk (Kd.R_below (zr HO523.out) hb); have n8_ := Aside0.mk (blk_below (zh BK476.out) hb); have n9_ := Aside0.mk (blk_below (zh BK485.out) hb); have n10_ := Aside0.mk (blk_below (zh BK491.out) hb); have n11_ := Aside0.mk (below_step (zb HB.out) hb); clear HO_4; clear HO_477000; clear HO_486000; clear HO_492000; clear HO511; clear HO515; clear HO519; clear HO523; clear BK476; clear BK485; clear BK491; clear HB; have HO_4 := n0_; have HO_477000 := n1_; have HO_486000 := n2_; have HO_492000 := n3_; have HO511 := n4_; have HO515 := n5_; have HO519 := n6_; have HO523 := n7_; have BK476 := n8_; have BK485 := n9_; have BK491 := n10_; have HB := n11_; clear n0_ n1_ n2_ n3_ n4_ n5_ n6_ n7_ n8_ n9_ n10_ n11_; (try clear hb); (try clear hb2); (try clear hk); (try clear hi); have hcz154_0 : w153.cell? ⟨gb485, 0, none⟩ = some (.slice Ao73 t505.length co73) := (blk_cell BK485.out 0).trans rfl; have hfz154_0 := blk_frozen BK485.out 0; obtain ⟨Ao155, co155, eo155⟩ := Kd.R_slice HO523.out; subst eo155) | (go_at_call 29; (with_reducible refine (impl_Makes.calls kj58 _ _ t505 _ _ t521 t508 false _ ?side1 ?side2 ?side3 ?side4 A110.out).mono ?_); (case side1 => exact zc (Kd.R_reads' HO_486000.out).2.2); (case side2 => exact (Kd.R_reads' HO_486000.out).2.1); (case side3 => exact zc (Kd.R_reads' HO523.out).2.2); (case side4 => exact (Kd.R_reads' HO523.out).2.1); rintro e w156 ⟨rfl, hb⟩; have n0_ := Aside0.mk (Kd.R_below (zr HO_4.out) hb); have n1_ := Aside0.mk (Kd.R_below (zr HO_477000.out) hb); have n2_ := Aside0.mk (Kd.R_below (zr HO_486000.out) hb); have n3_ := Aside0.mk (Kd.R_below (zr HO_492000.out) hb); have n4_ := Aside0.mk (Kd.R_below (zr HO511.out) hb); have n5_ := Aside0.mk (Kd.R_below (zr HO515.out) hb); have n6_ := Aside0.mk (Kd.R_below (zr HO519.out) hb); have n7_ := Aside0.mk (Kd.R_below (zr HO523.out) hb); have n8_ := Aside0.mk (blk_below (zh BK476.out) hb); have n9_ := Aside0.mk (blk_below (zh BK485.out) hb); have n10_ := Aside0.mk (blk_below (zh BK491.out) hb); have n11_ := Aside0.mk (below_step (zb HB.out) hb); clear HO_4; clear HO_477000; clear HO_486000; clear HO_492000; clear HO511; clear HO515; clear HO519; clear HO523; clear BK476; clear BK485; clear BK491; clear HB; have HO_4 := n0_; have HO_477000 := n1_; have HO_486000 := n2_; have HO_492000 := n3_; have HO511 := n4_; have HO515 := n5_; have HO519 := n6_; have HO523 := n7_; have BK476 := n8_; have BK485 := n9_; have BK491 := n10_; have HB := n11_; clear n0_ n1_ n2_ n3_ n4_ n5_ n6_ n7_ n8_ n9_ n10_ n11_; (try clear hb); (try clear hb2); (try clear hk); (try clear hi)))
              go_ret
              exact ⟨ze, zb HB.out⟩
            ·replace c109 := Bool.eq_false_iff.mpr c109
             subst c109
             have H1 : (some false) = some r := by rw [if_neg (show ¬ (false = true) by decide)] at H; exact H
             clear H
             have H := H1
             clear H1
             obtain rfl := Option.some.inj H
             have hnb157 := NB485_476.out
             have hnc157 := NB476_485.out
             have hnb158 := NB485_491.out
             have hnc158 := NB491_485.out
             have hcz159_0 : wc.cell? ⟨gb485, 0, none⟩ = some (.slice Ao73 t505.length co73) := (blk_cell BK485.out 0).trans rfl
             have hfz159_0 := blk_frozen BK485.out 0
             obtain ⟨Ao160, co160, eo160⟩ := Kd.R_slice HO_4.out
             subst eo160
             go_wp2_with (first | ((with_reducible refine gate_callee (f := 11) rfl ?_); refine goesL_ (some 109) rfl rfl Try.func11 (by kernel_rfl) rfl #[.agg #[.slice Ao73 t505.length co73], .slice Ao160 t473.length co160, .int .i64 t500] rfl zl ?_; (with_reducible refine (impl_KnowPut.calls kj58 _ _ t505 _ _ t473 t500 t509 t512 _ ?side1 ?side2 ?side3 ?side4 A87.out).mono ?_); (case side1 => exact zc (Kd.R_reads' HO_486000.out).2.2); (case side2 => exact (Kd.R_reads' HO_486000.out).2.1); (case side3 => exact zc (Kd.R_reads' HO_4.out).2.2); (case side4 => exact (Kd.R_reads' HO_4.out).2.1); rintro e w161 ⟨v510, rfl, ho0, hb⟩; refine ⟨_, rfl, ?_⟩; have n0_ := Aside0.mk (Kd.R_elder' (zr HO_4.out) (Kd.R_base ho0) hb); have n1_ := Aside0.mk (Kd.R_below (zr HO_477000.out) hb); have n2_ := Aside0.mk (Kd.R_below (zr HO_486000.out) hb); have n3_ := Aside0.mk (Kd.R_below (zr HO_492000.out) hb); have n4_ := Aside0.mk (Kd.R_lower (Kd.R_new' ho0 (Kd.R_lt (zr HO_4.out))) (below_size (zb HB.out))); have n5_ := Aside0.mk (blk_below (zh BK476.out) hb); have n6_ := Aside0.mk (blk_below (zh BK485.out) hb); have n7_ := Aside0.mk (blk_below (zh BK491.out) hb); have n8_ := Aside0.mk (below_step (zb HB.out) hb); clear HO_4; clear HO_477000; clear HO_486000; clear HO_492000; clear BK476; clear BK485; clear BK491; clear HB; have HO_4 := n0_; have HO_477000 := n1_; have HO_486000 := n2_; have HO_492000 := n3_; have HO511 := n4_; have BK476 := n5_; have BK485 := n6_; have BK491 := n7_; have HB := n8_; clear n0_ n1_ n2_ n3_ n4_ n5_ n6_ n7_ n8_; (try clear hb); (try clear hb2); (try clear hk); (try clear hi); (try clear ho0); have hcz162_0 : w161.cell? ⟨gb485, 0, none⟩ = some (.slice Ao73 t505.length co73) := (blk_cell BK485.out 0).trans rfl; have hfz162_0 := blk_frozen BK485.out 0; obtain ⟨Ao163, co163, eo163⟩ := Kd.R_slice HO511.out; subst eo163) | ((with_reducible refine gate_callee (f := 11) rfl ?_); refine goesL_ (some 116) rfl rfl Try.func11 (by kernel_rfl) rfl #[.agg #[.slice Ao73 t505.length co73], .slice Ao163 t509.length co163, .int .i64 t504] rfl zl ?_; (with_reducible refine (impl_KnowPut.calls kj58 _ _ t505 _ _ t509 t504 t513 t516 _ ?side1 ?side2 ?side3 ?side4 A88.out).mono ?_); (case side1 => exact zc (Kd.R_reads' HO_486000.out).2.2); (case side2 => exact (Kd.R_reads' HO_486000.out).2.1); (case side3 => exact zc (Kd.R_reads' HO511.out).2.2); (case side4 => exact (Kd.R_reads' HO511.out).2.1); rintro e w164 ⟨v514, rfl, ho0, hb⟩; refine ⟨_, rfl, ?_⟩; have n0_ := Aside0.mk (Kd.R_elder' (zr HO_4.out) (Kd.R_base ho0) hb); have n1_ := Aside0.mk (Kd.R_below (zr HO_477000.out) hb); have n2_ := Aside0.mk (Kd.R_below (zr HO_486000.out) hb); have n3_ := Aside0.mk (Kd.R_below (zr HO_492000.out) hb); have n4_ := Aside0.mk (Kd.R_elder' (zr HO511.out) (Kd.R_base ho0) hb); have n5_ := Aside0.mk (Kd.R_lower (Kd.R_new' (Kd.R_new' ho0 (Kd.R_lt (zr HO_4.out))) (Kd.R_lt (zr HO511.out))) (below_size (zb HB.out))); have n6_ := Aside0.mk (blk_below (zh BK476.out) hb); have n7_ := Aside0.mk (blk_below (zh BK485.out) hb); have n8_ := Aside0.mk (blk_below (zh BK491.out) hb); have n9_ := Aside0.mk (below_step (zb HB.out) hb); clear HO_4; clear HO_477000; clear HO_486000; clear HO_492000; clear HO511; clear BK476; clear BK485; clear BK491; clear HB; have HO_4 := n0_; have HO_477000 := n1_; have HO_486000 := n2_; have HO_492000 := n3_; have HO511 := n4_; have HO515 := n5_; have BK476 := n6_; have BK485 := n7_; have BK491 := n8_; have HB := n9_; clear n0_ n1_ n2_ n3_ n4_ n5_ n6_ n7_ n8_ n9_; (try clear hb); (try clear hb2); (try clear hk); (try clear hi); (try clear ho0); have hcz165_0 : w164.cell? ⟨gb485, 0, none⟩ = some (.slice Ao73 t505.length co73) := (blk_cell BK485.out 0).trans rfl; have hfz165_0 := blk_frozen BK485.out 0; obtain ⟨Ao166, co166, eo166⟩ := Kd.R_slice HO515.out; subst eo166) | ((with_reducible refine gate_callee (f := 11) rfl ?_); refine goesL_ (some 123) rfl rfl Try.func11 (by kernel_rfl) rfl #[.agg #[.slice Ao73 t505.length co73], .slice Ao166 t513.length co166, .int .i64 t496] rfl zl ?_; (with_reducible refine (impl_KnowPut.calls kj58 _ _ t505 _ _ t513 t496 t517 t520 _ ?side1 ?side2 ?side3 ?side4 A89.out).mono ?_); (case side1 => exact zc (Kd.R_reads' HO_486000.out).2.2); (case side2 => exact (Kd.R_reads' HO_486000.out).2.1); (case side3 => exact zc (Kd.R_reads' HO515.out).2.2); (case side4 => exact (Kd.R_reads' HO515.out).2.1); rintro e w167 ⟨v518, rfl, ho0, hb⟩; refine ⟨_, rfl, ?_⟩; have n0_ := Aside0.mk (Kd.R_elder' (zr HO_4.out) (Kd.R_base ho0) hb); have n1_ := Aside0.mk (Kd.R_below (zr HO_477000.out) hb); have n2_ := Aside0.mk (Kd.R_below (zr HO_486000.out) hb); have n3_ := Aside0.mk (Kd.R_below (zr HO_492000.out) hb); have n4_ := Aside0.mk (Kd.R_elder' (zr HO511.out) (Kd.R_base ho0) hb); have n5_ := Aside0.mk (Kd.R_elder' (zr HO515.out) (Kd.R_base ho0) hb); have n6_ := Aside0.mk (Kd.R_lower (Kd.R_new' (Kd.R_new' (Kd.R_new' ho0 (Kd.R_lt (zr HO_4.out))) (Kd.R_lt (zr HO511.out))) (Kd.R_lt (zr HO515.out))) (below_size (zb HB.out))); have n7_ := Aside0.mk (blk_below (zh BK476.out) hb); have n8_ := Aside0.mk (blk_below (zh BK485.out) hb); have n9_ := Aside0.mk (blk_below (zh BK491.out) hb); have n10_ := Aside0.mk (below_step (zb HB.out) hb); clear HO_4; clear HO_477000; clear HO_486000; clear HO_492000; clear HO511; clear HO515; clear BK476; clear BK485; clear BK491; clear HB; have HO_4 := n0_; have HO_477000 := n1_; have HO_486000 := n2_; have HO_492000 := n3_; have HO511 := n4_; have HO515 := n5_; have HO519 := n6_; have BK476 := n7_; have BK485 := n8_; have BK491 := n9_; have HB := n10_; clear n0_ n1_ n2_ n3_ n4_ n5_ n6_ n7_ n8_ n9_ n10_; (try clear hb); (try clear hb2); (try clear hk); (try clear hi); (try clear ho0); have hcz168_0 : w167.cell? ⟨gb485, 0, none⟩ = some (.slice Ao73 t505.length co73) := (blk_cell BK485.out 0).trans rfl; have hfz168_0 := blk_frozen BK485.out 0) | ((with_reducible refine gate_callee (f := 11) rfl ?_); refine goesL_ (some 130) rfl rfl Try.func11 (by kernel_rfl) rfl #[.agg #[.slice Ao73 t505.length co73], .slice Ao166 t513.length co166, .int .i64 t484] rfl zl ?_; (with_reducible refine (impl_KnowPut.calls kj58 _ _ t505 _ _ t513 t484 t521 t524 _ ?side1 ?side2 ?side3 ?side4 A90.out).mono ?_); (case side1 => exact zc (Kd.R_reads' HO_486000.out).2.2); (case side2 => exact (Kd.R_reads' HO_486000.out).2.1); (case side3 => exact zc (Kd.R_reads' HO515.out).2.2); (case side4 => exact (Kd.R_reads' HO515.out).2.1); rintro e w169 ⟨v522, rfl, ho0, hb⟩; refine ⟨_, rfl, ?_⟩; have n0_ := Aside0.mk (Kd.R_elder' (zr HO_4.out) (Kd.R_base ho0) hb); have n1_ := Aside0.mk (Kd.R_below (zr HO_477000.out) hb); have n2_ := Aside0.mk (Kd.R_below (zr HO_486000.out) hb); have n3_ := Aside0.mk (Kd.R_below (zr HO_492000.out) hb); have n4_ := Aside0.mk (Kd.R_elder' (zr HO511.out) (Kd.R_base ho0) hb); have n5_ := Aside0.mk (Kd.R_elder' (zr HO515.out) (Kd.R_base ho0) hb); have n6_ := Aside0.mk (Kd.R_elder' (zr HO519.out) (Kd.R_base ho0) hb); have n7_ := Aside0.mk (Kd.R_lower (Kd.R_new' (Kd.R_new' (Kd.R_new' (Kd.R_new' ho0 (Kd.R_lt (zr HO_4.out))) (Kd.R_lt (zr HO511.out))) (Kd.R_lt (zr HO515.out))) (Kd.R_lt (zr HO519.out))) (below_size (zb HB.out))); have n8_ := Aside0.mk (blk_below (zh BK476.out) hb); have n9_ := Aside0.mk (blk_below (zh BK485.out) hb); have n10_ := Aside0.mk (blk_below (zh BK491.out) hb); have n11_ := Aside0.mk (below_step (zb HB.out) hb); clear HO_4; clear HO_477000; clear HO_486000; clear HO_492000; clear HO511; clear HO515; clear HO519; clear BK476; clear BK485; clear BK491; clear HB; have HO_4 := n0_; have HO_477000 := n1_; have HO_486000 := n2_; have HO_492000 := n3_; have HO511 := n4_; have HO515 := n5_; have HO519 := n6_; have HO523 := n7_; have BK476 := n8_; have BK485 := n9_; have BK491 := n10_; have HB := n11_; clear n0_ n1_ n2_ n3_ n4_ n5_ n6_ n7_ n8_ n9_ n10_ n11_; (try clear hb); (try clear hb2); (try clear hk); (try clear hi); (try clear ho0); have hcz170_0 : w169.cell? ⟨gb485, 0, none⟩ = some (.slice Ao73 t505.length co73) := (blk_cell BK485.out 0).trans rfl; have hfz170_0 := blk_frozen BK485.out 0) | ((with_reducible refine gate_callee (f := 29) rfl ?_); refine goesL_ (some 136) rfl rfl Try.func29 (by kernel_rfl) rfl #[.agg #[.slice Ao73 t505.length co73], .slice Ao166 t513.length co166, .int .i64 t508] rfl zl ?_; (with_reducible refine (impl_Makes.calls kj58 _ _ t505 _ _ t513 t508 false _ ?side1 ?side2 ?side3 ?side4 A91.out).mono ?_); (case side1 => exact zc (Kd.R_reads' HO_486000.out).2.2); (case side2 => exact (Kd.R_reads' HO_486000.out).2.1); (case side3 => exact zc (Kd.R_reads' HO515.out).2.2); (case side4 => exact (Kd.R_reads' HO515.out).2.1); rintro e w171 ⟨rfl, hb⟩; refine ⟨_, rfl, ?_⟩; have n0_ := Aside0.mk (Kd.R_below (zr HO_4.out) hb); have n1_ := Aside0.mk (Kd.R_below (zr HO_477000.out) hb); have n2_ := Aside0.mk (Kd.R_below (zr HO_486000.out) hb); have n3_ := Aside0.mk (Kd.R_below (zr HO_492000.out) hb); have n4_ := Aside0.mk (Kd.R_below (zr HO511.out) hb); have n5_ := Aside0.mk (Kd.R_below (zr HO515.out) hb); have n6_ := Aside0.mk (Kd.R_below (zr HO519.out) hb); have n7_ := Aside0.mk (Kd.R_below (zr HO523.out) hb); have n8_ := Aside0.mk (blk_below (zh BK476.out) hb); have n9_ := Aside0.mk (blk_below (zh BK485.out) hb); have n10_ := Aside0.mk (blk_below (zh BK491.out) hb); have n11_ := Aside0.mk (below_step (zb HB.out) hb); clear HO_4; clear HO_477000; clear HO_486000; clear HO_492000; clear HO511; clear HO515; clear HO519; clear HO523; clear BK476; clear BK485; clear BK491; clear HB; have HO_4 := n0_; have HO_477000 := n1_; have HO_486000 := n2_; have HO_492000 := n3_; have HO511 := n4_; have HO515 := n5_; have HO519 := n6_; have HO523 := n7_; have BK476 := n8_; have BK485 := n9_; have BK491 := n10_; have HB := n11_; clear n0_ n1_ n2_ n3_ n4_ n5_ n6_ n7_ n8_ n9_ n10_ n11_; (try clear hb); (try clear hb2); (try clear hk); (try clear hi); have hcz172_0 : w171.cell? ⟨gb485, 0, none⟩ = some (.slice Ao73 t505.length co73) := (blk_cell BK485.out 0).trans rfl; have hfz172_0 := blk_frozen BK485.out 0; obtain ⟨Ao173, co173, eo173⟩ := Kd.R_slice HO519.out; subst eo173) | (go_at_call 29; (with_reducible refine (impl_Makes.calls kj58 _ _ t505 _ _ t517 t508 false _ ?side1 ?side2 ?side3 ?side4 A108.out).mono ?_); (case side1 => exact zc (Kd.R_reads' HO_486000.out).2.2); (case side2 => exact (Kd.R_reads' HO_486000.out).2.1); (case side3 => exact zc (Kd.R_reads' HO519.out).2.2); (case side4 => exact (Kd.R_reads' HO519.out).2.1); rintro e w174 ⟨rfl, hb⟩; have n0_ := Aside0.mk (Kd.R_below (zr HO_4.out) hb); have n1_ := Aside0.mk (Kd.R_below (zr HO_477000.out) hb); have n2_ := Aside0.mk (Kd.R_below (zr HO_486000.out) hb); have n3_ := Aside0.mk (Kd.R_below (zr HO_492000.out) hb); have n4_ := Aside0.mk (Kd.R_below (zr HO511.out) hb); have n5_ := Aside0.mk (Kd.R_below (zr HO515.out) hb); have n6_ := Aside0.mk (Kd.R_below (zr HO519.out) hb); have n7_ := Aside0.mk (Kd.R_below (zr HO523.out) hb); have n8_ := Aside0.mk (blk_below (zh BK476.out) hb); have n9_ := Aside0.mk (blk_below (zh BK485.out) hb); have n10_ := Aside0.mk (blk_below (zh BK491.out) hb); have n11_ := Aside0.mk (below_step (zb HB.out) hb); clear HO_4; clear HO_477000; clear HO_486000; clear HO_492000; clear HO511; clear HO515; clear HO519; clear HO523; clear BK476; clear BK485; clear BK491; clear HB; have HO_4 := n0_; have HO_477000 := n1_; have HO_486000 := n2_; have HO_492000 := n3_; have HO511 := n4_; have HO515 := n5_; have HO519 := n6_; have HO523 := n7_; have BK476 := n8_; have BK485 := n9_; have BK491 := n10_; have HB := n11_; clear n0_ n1_ n2_ n3_ n4_ n5_ n6_ n7_ n8_ n9_ n10_ n11_; (try clear hb); (try clear hb2); (try clear hk); (try clear hi)))
             go_ret
             exact ⟨ze, zb HB.out⟩

def laws_FnShares.Pure : Prop := ∀ (l0 : List Int), l0.length ≤ maxLen → l0.length * 1 ≤ 140737488351232 → (∀ x ∈ l0, (Lit.int .u8 x).wf = true) → ∃ k, laws_FnShares.f k l0 = some true
theorem laws_FnShares.walk (P : laws_FnShares.Pure) (a0 : Option Addr) (len0 cap0 : Nat) (z0 : List Int) (w : World) (w0 : (a0 = none ∧ len0 = 0 ∧ cap0 = 0 ∧ z0 = []) ∨ ∃ x, a0 = some x ∧ len0 ≤ cap0 ∧ cap0 ≤ maxLen ∧ z0.length = cap0 ∧ (∀ i, i < z0.length → w.cell? (x.add i) = some (.int .u8 (z0.getD i 0))) ∧ ∀ n ∈ z0, (Lit.int .u8 n).wf = true) (y0 : len0 * 1 ≤ 140737488351232) :
  Calls Try.prog 5 #[.slice a0 len0 cap0] w fun e w' => e = .returned (.bool true) ∧ Below w.heap.size w w' := by
 obtain ⟨l0, rfl, hr0, hm0, hw0, hc0⟩ := ReadsInt.ofRowC w0
 obtain ⟨k, h⟩ := P l0 hm0 y0 hw0
 refine (laws_FnShares.calls k _ _ l0 true w (Kd.C_of_reads (d := (0 : Int)) (h1 := fun _ => rfl) hr0) hc0 h).mono ?_
 rintro e w' ⟨rfl, hd⟩
 exact ⟨rfl, hd⟩

end Go.Proofs.Ytilnfdnigjblcaa.H
end
