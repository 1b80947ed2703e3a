import Derived.Test.YtgohebghlgamiaaYP0
import Derived.Test.YtgohebghlgamiaaYPg2
import Derived.Test.YtgohebghlgamiaaYPg3
import Derived.Test.YtgohebghlgamiaaYPg4
import Derived.Test.YtgohebghlgamiaaYPg8
section
-- Written by this session's program (wip/tools/gprint.py over the kit's print) out of the translation; Lean checks it.
namespace Go.Proofs.Ytgohebghlgamiaa.P
open Go.RowKit Go.Proofs.YtgohebghlgamiaaW.PrintWords Go.Proofs.YtgohebghlgamiaaW.PrintLast Go.Proofs.YtgohebghlgamiaaW.PrintMore
attribute [local go_sem] max2_int min2_int max_two min_two max_three min_three max_four min_four   -- for this text's walks alone
set_option linter.unusedVariables false
set_option linter.unusedSimpArgs false
set_option maxRecDepth 100000

/-! ### laws_FnMakesParts: function 6 -/
mutual
def laws_FnMakesParts.l0 : Nat → List Int → List Bool → Int → List (S51) → Option (Bool)
 | 0, _, _, _, _ => none
 | k + 1, x4, x5, x6, x474000 => if x6 < (x5.length : Int) then ((impl_PartsOf.f k x474000 x6).bind fun t480 => (laws_FnMakesParts.l1 k x4 x5 x6 t480 (decide ((t480.length : Int) > 0)) 0 x474000)) else (some true)
def laws_FnMakesParts.l1 : Nat → List Int → List Bool → Int → List Int → Bool → Int → List (S51) → Option (Bool)
 | 0, _, _, _, _, _, _, _ => none
 | k + 1, x4, x5, x6, x7, x8, x9, x474000 => if x9 < (x7.length : Int) then (if x8 = true then (if 0 ≤ x9 then (if 0 ≤ (rd x7 x9) then (if (rd x7 x9) < (x5.length : Int) then (laws_FnMakesParts.l1 k x4 x5 x6 x7 (rdOf false x5 (rd x7 x9)) (wrap64 (x9 + 1)) x474000) else (none)) else (none)) else (none)) else (laws_FnMakesParts.l1 k x4 x5 x6 x7 false (wrap64 (x9 + 1)) x474000)) else (if x8 = true then (if 0 ≤ x6 then (if x6 < (x5.length : Int) then (laws_FnMakesParts.j2 k x4 x5 x6 x8 (!(rdOf false x5 x6)) x474000) else (none)) else (none)) else ((impl_KnowHas.f k x4 x6).bind fun t486 => (if t486 = true then (if 0 ≤ x6 then (if x6 < (x5.length : Int) then (laws_FnMakesParts.j2 k x4 x5 x6 x8 (!(rdOf false x5 x6)) x474000) else (none)) else (none)) else (laws_FnMakesParts.j2 k x4 x5 x6 x8 false x474000))))
def laws_FnMakesParts.j2 : Nat → List Int → List Bool → Int → Bool → Bool → List (S51) → Option (Bool)
 | 0, _, _, _, _, _, _ => none
 | k + 1, x4, x5, x6, x8, x67, x474000 => if x67 = true then (some false) else (if 0 ≤ x6 then (if x6 < (x474000.length : Int) then (if ((rd_T51 x474000 x6).f0) = 1 then (if x6 < (x5.length : Int) then ((impl_IsPublic.f ((rd_T51 x474000 x6).f1)).bind fun t491 => (if t491 = true then (laws_FnMakesParts.j3 k x4 x5 x6 x8 ((rdOf false x5 x6) != true) x474000) else ((impl_KnowHas.f k x4 x6).bind fun t492 => (laws_FnMakesParts.j3 k x4 x5 x6 x8 ((rdOf false x5 x6) != t492) x474000)))) else (none)) else (laws_FnMakesParts.j3 k x4 x5 x6 x8 false x474000)) else (none)) else (none))
def laws_FnMakesParts.j3 : Nat → List Int → List Bool → Int → Bool → Bool → List (S51) → Option (Bool)
 | 0, _, _, _, _, _, _ => none
 | k + 1, x4, x5, x6, x8, x93, x474000 => if x93 = true then (some false) else (if 0 ≤ x6 then (if x6 < (x5.length : Int) then (if rdOf false x5 x6 = true then (if x8 = true then (laws_FnMakesParts.l0 k x4 x5 (wrap64 (x6 + 1)) x474000) else ((impl_KnowHas.f k x4 x6).bind fun t494 => (if t494 = true then (laws_FnMakesParts.l0 k x4 x5 (wrap64 (x6 + 1)) x474000) else (if x6 < (x474000.length : Int) then (if ((rd_T51 x474000 x6).f0) = 1 then (laws_FnMakesParts.l0 k x4 x5 (wrap64 (x6 + 1)) x474000) else (if ((rd_T51 x474000 x6).f0) = 8 then (laws_FnMakesParts.l0 k x4 x5 (wrap64 (x6 + 1)) x474000) else (some false))) else (none))))) else (laws_FnMakesParts.l0 k x4 x5 (wrap64 (x6 + 1)) x474000)) else (none)) else (none))
end
def laws_FnMakesParts.f (k : Nat) (l0 : List Int) : Option (Bool) := (laws_big.f l0).bind fun t466 => (if t466 = true then (some true) else ((spec_DrawMakesAll.f k l0).bind fun bt467 => ((impl_MakesAll.f k bt467.1 bt467.2).bind fun t474 => ((spec_MakesAll.f k bt467.1 bt467.2).bind fun t477 => (if (t474.length : Int) = (t477.length : Int) then (laws_FnMakesParts.l0 k bt467.2 t474 0 bt467.1) else (some false))))))
theorem laws_FnMakesParts.mono_l : ∀ k, (∀ y0 y1 y2 y3, LeO (laws_FnMakesParts.l0 k y0 y1 y2 y3) (laws_FnMakesParts.l0 (k + 1) y0 y1 y2 y3)) ∧ (∀ y0 y1 y2 y3 y4 y5 y6, LeO (laws_FnMakesParts.l1 k y0 y1 y2 y3 y4 y5 y6) (laws_FnMakesParts.l1 (k + 1) y0 y1 y2 y3 y4 y5 y6)) ∧ (∀ y0 y1 y2 y3 y4 y5, LeO (laws_FnMakesParts.j2 k y0 y1 y2 y3 y4 y5) (laws_FnMakesParts.j2 (k + 1) y0 y1 y2 y3 y4 y5)) ∧ (∀ y0 y1 y2 y3 y4 y5, LeO (laws_FnMakesParts.j3 k y0 y1 y2 y3 y4 y5) (laws_FnMakesParts.j3 (k + 1) y0 y1 y2 y3 y4 y5))
 | 0 => ⟨fun _ _ _ _ r h => by simp [laws_FnMakesParts.l0] at h, fun _ _ _ _ _ _ _ r h => by simp [laws_FnMakesParts.l1] at h, fun _ _ _ _ _ _ r h => by simp [laws_FnMakesParts.j2] at h, fun _ _ _ _ _ _ r h => by simp [laws_FnMakesParts.j3] at h⟩
 | k + 1 => by
  obtain ⟨ih0, ih1, ih2, ih3⟩ := laws_FnMakesParts.mono_l k
  refine ⟨?_, ?_, ?_, ?_⟩
  ·intro y0 y1 y2 y3
   unfold laws_FnMakesParts.l0
   repeat' first
   | (with_reducible exact ih0 _ _ _ _)
   | (with_reducible exact ih1 _ _ _ _ _ _ _)
   | (with_reducible exact ih2 _ _ _ _ _ _)
   | (with_reducible exact ih3 _ _ _ _ _ _)
   | (with_reducible exact impl_KnowHas.mono _ _ _)
   | (with_reducible exact impl_MakesAll.mono _ _ _)
   | (with_reducible exact impl_PartsOf.mono _ _ _)
   | (with_reducible exact spec_DrawMakesAll.mono _ _)
   | (with_reducible exact spec_MakesAll.mono _ _ _)
   | (with_reducible exact LeO.refl _)
   | (with_reducible exact LeO.none _)
   | (with_reducible refine LeO.ite ?_ ?_)
   | (with_reducible refine LeO.bind ?_ (fun _ => ?_))
   | exact ih0 _ _ _ _
   | exact ih1 _ _ _ _ _ _ _
   | exact ih2 _ _ _ _ _ _
   | exact ih3 _ _ _ _ _ _
   | exact impl_KnowHas.mono _ _ _
   | exact impl_MakesAll.mono _ _ _
   | exact impl_PartsOf.mono _ _ _
   | exact spec_DrawMakesAll.mono _ _
   | exact spec_MakesAll.mono _ _ _
   | exact LeO.none _
   | refine LeO.ite ?_ ?_
   | refine LeO.bind ?_ (fun _ => ?_)
  ·intro y0 y1 y2 y3 y4 y5 y6
   unfold laws_FnMakesParts.l1
   repeat' first
   | (with_reducible exact ih0 _ _ _ _)
   | (with_reducible exact ih1 _ _ _ _ _ _ _)
   | (with_reducible exact ih2 _ _ _ _ _ _)
   | (with_reducible exact ih3 _ _ _ _ _ _)
   | (with_reducible exact impl_KnowHas.mono _ _ _)
   | (with_reducible exact impl_MakesAll.mono _ _ _)
   | (with_reducible exact impl_PartsOf.mono _ _ _)
   | (with_reducible exact spec_DrawMakesAll.mono _ _)
   | (with_reducible exact spec_MakesAll.mono _ _ _)
   | (with_reducible exact LeO.refl _)
   | (with_reducible exact LeO.none _)
   | (with_reducible refine LeO.ite ?_ ?_)
   | (with_reducible refine LeO.bind ?_ (fun _ => ?_))
   | exact ih0 _ _ _ _
   | exact ih1 _ _ _ _ _ _ _
   | exact ih2 _ _ _ _ _ _
   | exact ih3 _ _ _ _ _ _
   | exact impl_KnowHas.mono _ _ _
   | exact impl_MakesAll.mono _ _ _
   | exact impl_PartsOf.mono _ _ _
   | exact spec_DrawMakesAll.mono _ _
   | exact spec_MakesAll.mono _ _ _
   | exact LeO.none _
   | refine LeO.ite ?_ ?_
   | refine LeO.bind ?_ (fun _ => ?_)
  ·intro y0 y1 y2 y3 y4 y5
   unfold laws_FnMakesParts.j2
   repeat' first
   | (with_reducible exact ih0 _ _ _ _)
   | (with_reducible exact ih1 _ _ _ _ _ _ _)
   | (with_reducible exact ih2 _ _ _ _ _ _)
   | (with_reducible exact ih3 _ _ _ _ _ _)
   | (with_reducible exact impl_KnowHas.mono _ _ _)
   | (with_reducible exact impl_MakesAll.mono _ _ _)
   | (with_reducible exact impl_PartsOf.mono _ _ _)
   | (with_reducible exact spec_DrawMakesAll.mono _ _)
   | (with_reducible exact spec_MakesAll.mono _ _ _)
   | (with_reducible exact LeO.refl _)
   | (with_reducible exact LeO.none _)
   | (with_reducible refine LeO.ite ?_ ?_)
   | (with_reducible refine LeO.bind ?_ (fun _ => ?_))
   | exact ih0 _ _ _ _
   | exact ih1 _ _ _ _ _ _ _
   | exact ih2 _ _ _ _ _ _
   | exact ih3 _ _ _ _ _ _
   | exact impl_KnowHas.mono _ _ _
   | exact impl_MakesAll.mono _ _ _
   | exact impl_PartsOf.mono _ _ _
   | exact spec_DrawMakesAll.mono _ _
   | exact spec_MakesAll.mono _ _ _
   | exact LeO.none _
   | refine LeO.ite ?_ ?_
   | refine LeO.bind ?_ (fun _ => ?_)
  ·intro y0 y1 y2 y3 y4 y5
   unfold laws_FnMakesParts.j3
   repeat' first
   | (with_reducible exact ih0 _ _ _ _)
   | (with_reducible exact ih1 _ _ _ _ _ _ _)
   | (with_reducible exact ih2 _ _ _ _ _ _)
   | (with_reducible exact ih3 _ _ _ _ _ _)
   | (with_reducible exact impl_KnowHas.mono _ _ _)
   | (with_reducible exact impl_MakesAll.mono _ _ _)
   | (with_reducible exact impl_PartsOf.mono _ _ _)
   | (with_reducible exact spec_DrawMakesAll.mono _ _)
   | (with_reducible exact spec_MakesAll.mono _ _ _)
   | (with_reducible exact LeO.refl _)
   | (with_reducible exact LeO.none _)
   | (with_reducible refine LeO.ite ?_ ?_)
   | (with_reducible refine LeO.bind ?_ (fun _ => ?_))
   | exact ih0 _ _ _ _
   | exact ih1 _ _ _ _ _ _ _
   | exact ih2 _ _ _ _ _ _
   | exact ih3 _ _ _ _ _ _
   | exact impl_KnowHas.mono _ _ _
   | exact impl_MakesAll.mono _ _ _
   | exact impl_PartsOf.mono _ _ _
   | exact spec_DrawMakesAll.mono _ _
   | exact spec_MakesAll.mono _ _ _
   | exact LeO.none _
   | refine LeO.ite ?_ ?_
   | refine LeO.bind ?_ (fun _ => ?_)
theorem laws_FnMakesParts.mono : ∀ a0 k, LeO (laws_FnMakesParts.f k a0) (laws_FnMakesParts.f (k + 1) a0) := by
 intro a0 k
 obtain ⟨ih0, ih1, ih2, ih3⟩ := laws_FnMakesParts.mono_l k
 unfold laws_FnMakesParts.f
 repeat' first
   | (with_reducible exact ih0 _ _ _ _)
   | (with_reducible exact ih1 _ _ _ _ _ _ _)
   | (with_reducible exact ih2 _ _ _ _ _ _)
   | (with_reducible exact ih3 _ _ _ _ _ _)
   | (with_reducible exact impl_KnowHas.mono _ _ _)
   | (with_reducible exact impl_MakesAll.mono _ _ _)
   | (with_reducible exact impl_PartsOf.mono _ _ _)
   | (with_reducible exact spec_DrawMakesAll.mono _ _)
   | (with_reducible exact spec_MakesAll.mono _ _ _)
   | (with_reducible exact LeO.refl _)
   | (with_reducible exact LeO.none _)
   | (with_reducible refine LeO.ite ?_ ?_)
   | (with_reducible refine LeO.bind ?_ (fun _ => ?_))
   | exact ih0 _ _ _ _
   | exact ih1 _ _ _ _ _ _ _
   | exact ih2 _ _ _ _ _ _
   | exact ih3 _ _ _ _ _ _
   | exact impl_KnowHas.mono _ _ _
   | exact impl_MakesAll.mono _ _ _
   | exact impl_PartsOf.mono _ _ _
   | exact spec_DrawMakesAll.mono _ _
   | exact spec_MakesAll.mono _ _ _
   | exact LeO.none _
   | refine LeO.ite ?_ ?_
   | refine LeO.bind ?_ (fun _ => ?_)
set_option maxHeartbeats 8000000 in
set_option maxRecDepth 100000 in
theorem laws_FnMakesParts.calls (k : Nat) (A0 : Option Addr) (c0 : Nat) (l0 : List Int) (r : Bool) (w : World) (hr0 : Kd.C (Kd.int .u8) w A0 l0.length l0) (hc0 : l0.length ≤ c0) (h : laws_FnMakesParts.f k l0 = some r) :
  Calls Try.prog 6 #[.slice A0 l0.length c0] w fun e w' => e = .returned (.bool r) ∧ Below w.heap.size w w' := by
 have hu30 := Try.underlying30
 have HR0 := Aside0.mk hr0
 have HC0 := Aside0.mk hc0
 clear hr0 hc0
 have HB := Aside0.mk (Below.refl w.heap.size w)
 have H : ((laws_big.f l0).bind fun t466 => (if t466 = true then (some true) else ((spec_DrawMakesAll.f k l0).bind fun bt467 => ((impl_MakesAll.f k bt467.1 bt467.2).bind fun t474 => ((spec_MakesAll.f k bt467.1 bt467.2).bind fun t477 => (if (t474.length : Int) = (t477.length : Int) then (laws_FnMakesParts.l0 k bt467.2 t474 0 bt467.1) else (some false))))))) = some r := h
 clear h
 replace H := Option.bind_eq_some_iff.mp H
 obtain ⟨t466, A20, H⟩ := H
 replace H : (if t466 = true then (some true) else ((spec_DrawMakesAll.f k l0).bind fun bt467 => ((impl_MakesAll.f k bt467.1 bt467.2).bind fun t474 => ((spec_MakesAll.f k bt467.1 bt467.2).bind fun t477 => (if (t474.length : Int) = (t477.length : Int) then (laws_FnMakesParts.l0 k bt467.2 t474 0 bt467.1) else (some false)))))) = some r := H
 have A2 := Aside0.mk A20
 clear A20
 by_cases c3 : t466 = true
 ·subst c3
  have H1 : (some true) = some r := by rw [if_pos rfl] at H; exact H
  clear H
  have H := H1
  clear H1
  obtain rfl := Option.some.inj H
  go_enter Try.func6, Try.ntmps6
  go_wp2_with (first | (go_at_call 28; (with_reducible refine (laws_big.calls _ _ l0 true _ ?side1 ?side2 A2.out).mono ?_); (case side1 => exact zc HR0.out); (case side2 => exact HC0.out); rintro e w' ⟨rfl, ⟨nd, rfl⟩⟩; (try first | exact ⟨rfl, _, World.drewN_drewN _ _ _⟩ | exact ⟨rfl, _, Eq.trans (World.drewN_drewN _ _ _) (congrArg (World.drewN _) (Nat.add_assoc _ _ _))⟩)))
  repeat (go_quiet (first | (go_at_call 28; (with_reducible refine (laws_big.calls _ _ l0 true _ ?side1 ?side2 A2.out).mono ?_); (case side1 => exact zc HR0.out); (case side2 => exact HC0.out); rintro e w' ⟨rfl, ⟨nd, rfl⟩⟩; (try first | exact ⟨rfl, _, World.drewN_drewN _ _ _⟩ | exact ⟨rfl, _, Eq.trans (World.drewN_drewN _ _ _) (congrArg (World.drewN _) (Nat.add_assoc _ _ _))⟩))); try go_wp2_with (first | (go_at_call 28; (with_reducible refine (laws_big.calls _ _ l0 true _ ?side1 ?side2 A2.out).mono ?_); (case side1 => exact zc HR0.out); (case side2 => exact HC0.out); rintro e w' ⟨rfl, ⟨nd, rfl⟩⟩; (try first | exact ⟨rfl, _, World.drewN_drewN _ _ _⟩ | exact ⟨rfl, _, Eq.trans (World.drewN_drewN _ _ _) (congrArg (World.drewN _) (Nat.add_assoc _ _ _))⟩))))
  go_ret
  exact ⟨ze, zb HB.out⟩
 ·replace c3 := Bool.eq_false_iff.mpr c3
  subst c3
  have H1 : ((spec_DrawMakesAll.f k l0).bind fun bt467 => ((impl_MakesAll.f k bt467.1 bt467.2).bind fun t474 => ((spec_MakesAll.f k bt467.1 bt467.2).bind fun t477 => (if (t474.length : Int) = (t477.length : Int) then (laws_FnMakesParts.l0 k bt467.2 t474 0 bt467.1) else (some false))))) = some r := by rw [if_neg (show ¬ (false = true) by decide)] at H; exact H
  clear H
  have H := H1
  clear H1
  replace H := Option.bind_eq_some_iff.mp H
  obtain ⟨⟨t467, t470⟩, A40, H⟩ := H
  replace H : ((impl_MakesAll.f k t467 t470).bind fun t474 => ((spec_MakesAll.f k t467 t470).bind fun t477 => (if (t474.length : Int) = (t477.length : Int) then (laws_FnMakesParts.l0 k t470 t474 0 t467) else (some false)))) = some r := H
  have A4 := Aside0.mk A40
  clear A40
  replace H := Option.bind_eq_some_iff.mp H
  obtain ⟨t474, A50, H⟩ := H
  replace H : ((spec_MakesAll.f k t467 t470).bind fun t477 => (if (t474.length : Int) = (t477.length : Int) then (laws_FnMakesParts.l0 k t470 t474 0 t467) else (some false))) = some r := H
  have A5 := Aside0.mk A50
  clear A50
  replace H := Option.bind_eq_some_iff.mp H
  obtain ⟨t477, A60, H⟩ := H
  replace H : (if (t474.length : Int) = (t477.length : Int) then (laws_FnMakesParts.l0 k t470 t474 0 t467) else (some false)) = some r := H
  have A6 := Aside0.mk A60
  clear A60
  by_cases c7 : (t474.length : Int) = (t477.length : Int)
  ·rw [if_pos c7] at H
   have c7b0 : ((t474.length : Int) == (t477.length : Int)) = true := beq_iff_eq.mpr c7
   have c7b1 : ((t474.length : Int) != (t477.length : Int)) = false := bne_eq_false_iff_eq.mpr c7
   have c7b2 : (t474.length == t477.length) = true := by first | simpa using c7 | (simp at c7 ⊢; omega)
   clear c7
   have H' := Aside0.mk H
   clear H
   go_enter Try.func6, Try.ntmps6
   go_wp2_with (first | (go_at_call 28; (with_reducible refine (laws_big.calls _ _ l0 false _ ?side1 ?side2 A2.out).mono ?_); (case side1 => exact zc HR0.out); (case side2 => exact HC0.out); rintro e w' ⟨rfl, ⟨nd, rfl⟩⟩; (try first | exact ⟨rfl, _, World.drewN_drewN _ _ _⟩ | exact ⟨rfl, _, Eq.trans (World.drewN_drewN _ _ _) (congrArg (World.drewN _) (Nat.add_assoc _ _ _))⟩)) | (go_at_call 29; (with_reducible refine (spec_DrawMakesAll.calls k _ _ l0 t467 t470 _ ?side1 ?side2 A4.out).mono ?_); (case side1 => exact zc HR0.out); (case side2 => exact HC0.out); rintro e w8 ⟨v468, v471, rfl, ho0, ho1, hb⟩; have n0_ := Aside0.mk (Kd.R_lower ho0 (below_size (zb HB.out))); have n1_ := Aside0.mk (Kd.R_lower ho1 (below_size (zb HB.out))); have n2_ := Aside0.mk (below_step (zb HB.out) hb); clear HB; have HO469 := n0_; have HO472 := n1_; have HB := n2_; clear n0_ n1_ n2_; (try clear hb); (try clear hb2); (try clear hk); (try clear hi); (try clear ho0); (try clear ho1)) | ((with_reducible refine gate_dst (N := 3) rfl ?_); refine box_event ?hg (N := 3) ?hd (cs := #[.slice none 0 0]) (t := 30) ?hr ?_; (case hd => rfl); (case hg => rfl); (case hr => first | (go_simp; done) | (go_simp; rfl)); intro gb473 hg w9 hbox hb; have n0_ := Aside0.mk (Kd.R_below (zr HO469.out) hb); have n1_ := Aside0.mk (Kd.R_below (zr HO472.out) hb); have n2_ := Aside0.mk (below_step (zb HB.out) hb); have n3_ := Aside0.mk (hbox); have n4_ := Aside0.mk ((by rw [hg]; exact (below_size (zb HB.out)) : w.heap.size ≤ gb473)); have n5_ := Aside0.mk ((by rw [hg]; exact (below_size (zb HB.out)) : w.heap.size ≤ gb473)); clear HO469; clear HO472; clear HB; have HO469 := n0_; have HO472 := n1_; have HB := n2_; have BK473 := n3_; have GW473 := n4_; have GE473 := n5_; clear n0_ n1_ n2_ n3_ n4_ n5_; clear hb hbox hg; obtain ⟨Ao10, co10, eo10⟩ := Kd.R_slice HO469.out; subst eo10; have hcz11_0 : w9.cell? ⟨gb473, 0, none⟩ = some (.slice none 0 0) := (blk_cell BK473.out 0).trans rfl; have hfz11_0 := blk_frozen BK473.out 0; obtain ⟨Ao12, co12, eo12⟩ := Kd.R_slice HO472.out; subst eo12) | (go_at_call 19; (with_reducible refine (impl_MakesAll.calls k _ _ t467 _ _ t470 t474 _ ?side1 ?side2 ?side3 ?side4 A5.out).mono ?_); (case side1 => refine (Kd.R_reads' (e := 51) (base := w.heap.size) (ok := fun k_ => True) (n := t467.length) (c := co10) ?_).2.2; exact (by (with_reducible repeat (first | apply Kd.R_alloc | apply Kd.R_drewN | apply Kd.R_drew)); exact (Kd.R_mono (Kd.R_far (p := ⟨gb473, 0, none⟩) (Kd.R_types HO469.out BK473.out (by decide)) (fun _ hk => hk.2) (.slice Ao10 t467.length co10)) (fun _ h_ => h_.1)))); (case side2 => exact (Kd.R_reads' HO469.out).2.1); (case side3 => refine (Kd.R_reads' (e := 3) (base := w.heap.size) (ok := fun k_ => True) (n := t470.length) (c := co12) ?_).2.2; exact (by (with_reducible repeat (first | apply Kd.R_alloc | apply Kd.R_drewN | apply Kd.R_drew)); exact (Kd.R_mono (Kd.R_far (p := ⟨gb473, 0, none⟩) (Kd.R_types HO472.out BK473.out (by decide)) (fun _ hk => hk.2) (.slice Ao10 t467.length co10)) (fun _ h_ => h_.1)))); (case side4 => exact (Kd.R_reads' HO472.out).2.1); rintro e w13 ⟨v475, rfl, ho0, hb⟩; have n0_ := Aside0.mk (Kd.R_below (by (with_reducible repeat (first | apply Kd.R_alloc | apply Kd.R_drewN | apply Kd.R_drew)); exact (Kd.R_mono (Kd.R_far (p := ⟨gb473, 0, none⟩) (Kd.R_types HO469.out BK473.out (by decide)) (fun _ hk => hk.2) (.slice Ao10 t467.length co10)) (fun _ h_ => h_.1))) hb); have n1_ := Aside0.mk (Kd.R_below (by (with_reducible repeat (first | apply Kd.R_alloc | apply Kd.R_drewN | apply Kd.R_drew)); exact (Kd.R_mono (Kd.R_far (p := ⟨gb473, 0, none⟩) (Kd.R_types HO472.out BK473.out (by decide)) (fun _ hk => hk.2) (.slice Ao10 t467.length co10)) (fun _ h_ => h_.1))) hb); have n2_ := Aside0.mk (Kd.R_lower ho0 (below_size (zb HB.out))); have n3_ := Aside0.mk (blk_below (g := gb473) (o := .cells #[.slice Ao10 t467.length co10] 30 (0, 0)) (by (with_reducible repeat (first | refine blk_drewN ?_ _ | refine blk_drew ?_ | refine blk_alloc ?_ _)); refine blk_put (cs := #[.slice none 0 0]) ?_ 0 _ rfl; (with_reducible repeat (first | refine blk_drewN ?_ _ | refine blk_drew ?_ | refine blk_alloc ?_ _)); exact BK473.out) hb); have n4_ := Aside0.mk (below_step (zb HB.out) hb); clear HO469; clear HO472; clear BK473; clear HB; have HO469 := n0_; have HO472 := n1_; have HO476 := n2_; have BK473 := n3_; have HB := n4_; clear n0_ n1_ n2_ n3_ n4_; (try clear hb); (try clear hb2); (try clear hk); (try clear hi); (try clear ho0); obtain ⟨Ao14, co14, eo14⟩ := Kd.R_slice HO476.out; subst eo14; have hcz15_0 : w13.cell? ⟨gb473, 0, none⟩ = some (.slice Ao10 t467.length co10) := (blk_cell BK473.out 0).trans rfl; have hfz15_0 := blk_frozen BK473.out 0) | (go_at_call 18; (with_reducible refine (spec_MakesAll.calls k _ _ t467 _ _ t470 t477 _ ?side1 ?side2 ?side3 ?side4 A6.out).mono ?_); (case side1 => exact zc (Kd.R_reads' HO469.out).2.2); (case side2 => exact (Kd.R_reads' HO469.out).2.1); (case side3 => exact zc (Kd.R_reads' HO472.out).2.2); (case side4 => exact (Kd.R_reads' HO472.out).2.1); rintro e w16 ⟨v478, rfl, ho0, hb⟩; have n0_ := Aside0.mk (Kd.R_below (zr HO469.out) hb); have n1_ := Aside0.mk (Kd.R_below (zr HO472.out) hb); have n2_ := Aside0.mk (Kd.R_elder' (zr HO476.out) (Kd.R_base ho0) hb); have n3_ := Aside0.mk (Kd.R_lower (Kd.R_new' ho0 (Kd.R_lt (zr HO476.out))) (below_size (zb HB.out))); have n4_ := Aside0.mk (blk_below (zh BK473.out) hb); have n5_ := Aside0.mk (below_step (zb HB.out) hb); clear HO469; clear HO472; clear HO476; clear BK473; clear HB; have HO469 := n0_; have HO472 := n1_; have HO476 := n2_; have HO479 := n3_; have BK473 := n4_; have HB := n5_; clear n0_ n1_ n2_ n3_ n4_ n5_; (try clear hb); (try clear hb2); (try clear hk); (try clear hi); (try clear ho0); obtain ⟨Ao17, co17, eo17⟩ := Kd.R_slice HO479.out; subst eo17))
   repeat (go_quiet (first | (go_at_call 28; (with_reducible refine (laws_big.calls _ _ l0 false _ ?side1 ?side2 A2.out).mono ?_); (case side1 => exact zc HR0.out); (case side2 => exact HC0.out); rintro e w' ⟨rfl, ⟨nd, rfl⟩⟩; (try first | exact ⟨rfl, _, World.drewN_drewN _ _ _⟩ | exact ⟨rfl, _, Eq.trans (World.drewN_drewN _ _ _) (congrArg (World.drewN _) (Nat.add_assoc _ _ _))⟩)) | (go_at_call 29; (with_reducible refine (spec_DrawMakesAll.calls k _ _ l0 t467 t470 _ ?side1 ?side2 A4.out).mono ?_); (case side1 => exact zc HR0.out); (case side2 => exact HC0.out); rintro e w8 ⟨v468, v471, rfl, ho0, ho1, hb⟩; have n0_ := Aside0.mk (Kd.R_lower ho0 (below_size (zb HB.out))); have n1_ := Aside0.mk (Kd.R_lower ho1 (below_size (zb HB.out))); have n2_ := Aside0.mk (below_step (zb HB.out) hb); clear HB; have HO469 := n0_; have HO472 := n1_; have HB := n2_; clear n0_ n1_ n2_; (try clear hb); (try clear hb2); (try clear hk); (try clear hi); (try clear ho0); (try clear ho1)) | ((with_reducible refine gate_dst (N := 3) rfl ?_); refine box_event ?hg (N := 3) ?hd (cs := #[.slice none 0 0]) (t := 30) ?hr ?_; (case hd => rfl); (case hg => rfl); (case hr => first | (go_simp; done) | (go_simp; rfl)); intro gb473 hg w9 hbox hb; have n0_ := Aside0.mk (Kd.R_below (zr HO469.out) hb); have n1_ := Aside0.mk (Kd.R_below (zr HO472.out) hb); have n2_ := Aside0.mk (below_step (zb HB.out) hb); have n3_ := Aside0.mk (hbox); have n4_ := Aside0.mk ((by rw [hg]; exact (below_size (zb HB.out)) : w.heap.size ≤ gb473)); have n5_ := Aside0.mk ((by rw [hg]; exact (below_size (zb HB.out)) : w.heap.size ≤ gb473)); clear HO469; clear HO472; clear HB; have HO469 := n0_; have HO472 := n1_; have HB := n2_; have BK473 := n3_; have GW473 := n4_; have GE473 := n5_; clear n0_ n1_ n2_ n3_ n4_ n5_; clear hb hbox hg; obtain ⟨Ao10, co10, eo10⟩ := Kd.R_slice HO469.out; subst eo10; have hcz11_0 : w9.cell? ⟨gb473, 0, none⟩ = some (.slice none 0 0) := (blk_cell BK473.out 0).trans rfl; have hfz11_0 := blk_frozen BK473.out 0; obtain ⟨Ao12, co12, eo12⟩ := Kd.R_slice HO472.out; subst eo12) | (go_at_call 19; (with_reducible refine (impl_MakesAll.calls k _ _ t467 _ _ t470 t474 _ ?side1 ?side2 ?side3 ?side4 A5.out).mono ?_); (case side1 => refine (Kd.R_reads' (e := 51) (base := w.heap.size) (ok := fun k_ => True) (n := t467.length) (c := co10) ?_).2.2; exact (by (with_reducible repeat (first | apply Kd.R_alloc | apply Kd.R_drewN | apply Kd.R_drew)); exact (Kd.R_mono (Kd.R_far (p := ⟨gb473, 0, none⟩) (Kd.R_types HO469.out BK473.out (by decide)) (fun _ hk => hk.2) (.slice Ao10 t467.length co10)) (fun _ h_ => h_.1)))); (case side2 => exact (Kd.R_reads' HO469.out).2.1); (case side3 => refine (Kd.R_reads' (e := 3) (base := w.heap.size) (ok := fun k_ => True) (n := t470.length) (c := co12) ?_).2.2; exact (by (with_reducible repeat (first | apply Kd.R_alloc | apply Kd.R_drewN | apply Kd.R_drew)); exact (Kd.R_mono (Kd.R_far (p := ⟨gb473, 0, none⟩) (Kd.R_types HO472.out BK473.out (by decide)) (fun _ hk => hk.2) (.slice Ao10 t467.length co10)) (fun _ h_ => h_.1)))); (case side4 => exact (Kd.R_reads' HO472.out).2.1); rintro e w13 ⟨v475, rfl, ho0, hb⟩; have n0_ := Aside0.mk (Kd.R_below (by (with_reducible repeat (first | apply Kd.R_alloc | apply Kd.R_drewN | apply Kd.R_drew)); exact (Kd.R_mono (Kd.R_far (p := ⟨gb473, 0, none⟩) (Kd.R_types HO469.out BK473.out (by decide)) (fun _ hk => hk.2) (.slice Ao10 t467.length co10)) (fun _ h_ => h_.1))) hb); have n1_ := Aside0.mk (Kd.R_below (by (with_reducible repeat (first | apply Kd.R_alloc | apply Kd.R_drewN | apply Kd.R_drew)); exact (Kd.R_mono (Kd.R_far (p := ⟨gb473, 0, none⟩) (Kd.R_types HO472.out BK473.out (by decide)) (fun _ hk => hk.2) (.slice Ao10 t467.length co10)) (fun _ h_ => h_.1))) hb); have n2_ := Aside0.mk (Kd.R_lower ho0 (below_size (zb HB.out))); have n3_ := Aside0.mk (blk_below (g := gb473) (o := .cells #[.slice Ao10 t467.length co10] 30 (0, 0)) (by (with_reducible repeat (first | refine blk_drewN ?_ _ | refine blk_drew ?_ | refine blk_alloc ?_ _)); refine blk_put (cs := #[.slice none 0 0]) ?_ 0 _ rfl; (with_reducible repeat (first | refine blk_drewN ?_ _ | refine blk_drew ?_ | refine blk_alloc ?_ _)); exact BK473.out) hb); have n4_ := Aside0.mk (below_step (zb HB.out) hb); clear HO469; clear HO472; clear BK473; clear HB; have HO469 := n0_; have HO472 := n1_; have HO476 := n2_; have BK473 := n3_; have HB := n4_; clear n0_ n1_ n2_ n3_ n4_; (try clear hb); (try clear hb2); (try clear hk); (try clear hi); (try clear ho0); obtain ⟨Ao14, co14, eo14⟩ := Kd.R_slice HO476.out; subst eo14; have hcz15_0 : w13.cell? ⟨gb473, 0, none⟩ = some (.slice Ao10 t467.length co10) := (blk_cell BK473.out 0).trans rfl; have hfz15_0 := blk_frozen BK473.out 0) | (go_at_call 18; (with_reducible refine (spec_MakesAll.calls k _ _ t467 _ _ t470 t477 _ ?side1 ?side2 ?side3 ?side4 A6.out).mono ?_); (case side1 => exact zc (Kd.R_reads' HO469.out).2.2); (case side2 => exact (Kd.R_reads' HO469.out).2.1); (case side3 => exact zc (Kd.R_reads' HO472.out).2.2); (case side4 => exact (Kd.R_reads' HO472.out).2.1); rintro e w16 ⟨v478, rfl, ho0, hb⟩; have n0_ := Aside0.mk (Kd.R_below (zr HO469.out) hb); have n1_ := Aside0.mk (Kd.R_below (zr HO472.out) hb); have n2_ := Aside0.mk (Kd.R_elder' (zr HO476.out) (Kd.R_base ho0) hb); have n3_ := Aside0.mk (Kd.R_lower (Kd.R_new' ho0 (Kd.R_lt (zr HO476.out))) (below_size (zb HB.out))); have n4_ := Aside0.mk (blk_below (zh BK473.out) hb); have n5_ := Aside0.mk (below_step (zb HB.out) hb); clear HO469; clear HO472; clear HO476; clear BK473; clear HB; have HO469 := n0_; have HO472 := n1_; have HO476 := n2_; have HO479 := n3_; have BK473 := n4_; have HB := n5_; clear n0_ n1_ n2_ n3_ n4_ n5_; (try clear hb); (try clear hb2); (try clear hk); (try clear hi); (try clear ho0); obtain ⟨Ao17, co17, eo17⟩ := Kd.R_slice HO479.out; subst eo17)); try go_wp2_with (first | (go_at_call 28; (with_reducible refine (laws_big.calls _ _ l0 false _ ?side1 ?side2 A2.out).mono ?_); (case side1 => exact zc HR0.out); (case side2 => exact HC0.out); rintro e w' ⟨rfl, ⟨nd, rfl⟩⟩; (try first | exact ⟨rfl, _, World.drewN_drewN _ _ _⟩ | exact ⟨rfl, _, Eq.trans (World.drewN_drewN _ _ _) (congrArg (World.drewN _) (Nat.add_assoc _ _ _))⟩)) | (go_at_call 29; (with_reducible refine (spec_DrawMakesAll.calls k _ _ l0 t467 t470 _ ?side1 ?side2 A4.out).mono ?_); (case side1 => exact zc HR0.out); (case side2 => exact HC0.out); rintro e w8 ⟨v468, v471, rfl, ho0, ho1, hb⟩; have n0_ := Aside0.mk (Kd.R_lower ho0 (below_size (zb HB.out))); have n1_ := Aside0.mk (Kd.R_lower ho1 (below_size (zb HB.out))); have n2_ := Aside0.mk (below_step (zb HB.out) hb); clear HB; have HO469 := n0_; have HO472 := n1_; have HB := n2_; clear n0_ n1_ n2_; (try clear hb); (try clear hb2); (try clear hk); (try clear hi); (try clear ho0); (try clear ho1)) | ((with_reducible refine gate_dst (N := 3) rfl ?_); refine box_event ?hg (N := 3) ?hd (cs := #[.slice none 0 0]) (t := 30) ?hr ?_; (case hd => rfl); (case hg => rfl); (case hr => first | (go_simp; done) | (go_simp; rfl)); intro gb473 hg w9 hbox hb; have n0_ := Aside0.mk (Kd.R_below (zr HO469.out) hb); have n1_ := Aside0.mk (Kd.R_below (zr HO472.out) hb); have n2_ := Aside0.mk (below_step (zb HB.out) hb); have n3_ := Aside0.mk (hbox); have n4_ := Aside0.mk ((by rw [hg]; exact (below_size (zb HB.out)) : w.heap.size ≤ gb473)); have n5_ := Aside0.mk ((by rw [hg]; exact (below_size (zb HB.out)) : w.heap.size ≤ gb473)); clear HO469; clear HO472; clear HB; have HO469 := n0_; have HO472 := n1_; have HB := n2_; have BK473 := n3_; have GW473 := n4_; have GE473 := n5_; clear n0_ n1_ n2_ n3_ n4_ n5_; clear hb hbox hg; obtain ⟨Ao10, co10, eo10⟩ := Kd.R_slice HO469.out; subst eo10; have hcz11_0 : w9.cell? ⟨gb473, 0, none⟩ = some (.slice none 0 0) := (blk_cell BK473.out 0).trans rfl; have hfz11_0 := blk_frozen BK473.out 0; obtain ⟨Ao12, co12, eo12⟩ := Kd.R_slice HO472.out; subst eo12) | (go_at_call 19; (with_reducible refine (impl_MakesAll.calls k _ _ t467 _ _ t470 t474 _ ?side1 ?side2 ?side3 ?side4 A5.out).mono ?_); (case side1 => refine (Kd.R_reads' (e := 51) (base := w.heap.size) (ok := fun k_ => True) (n := t467.length) (c := co10) ?_).2.2; exact (by (with_reducible repeat (first | apply Kd.R_alloc | apply Kd.R_drewN | apply Kd.R_drew)); exact (Kd.R_mono (Kd.R_far (p := ⟨gb473, 0, none⟩) (Kd.R_types HO469.out BK473.out (by decide)) (fun _ hk => hk.2) (.slice Ao10 t467.length co10)) (fun _ h_ => h_.1)))); (case side2 => exact (Kd.R_reads' HO469.out).2.1); (case side3 => refine (Kd.R_reads' (e := 3) (base := w.heap.size) (ok := fun k_ => True) (n := t470.length) (c := co12) ?_).2.2; exact (by (with_reducible repeat (first | apply Kd.R_alloc | apply Kd.R_drewN | apply Kd.R_drew)); exact (Kd.R_mono (Kd.R_far (p := ⟨gb473, 0, none⟩) (Kd.R_types HO472.out BK473.out (by decide)) (fun _ hk => hk.2) (.slice Ao10 t467.length co10)) (fun _ h_ => h_.1)))); (case side4 => exact (Kd.R_reads' HO472.out).2.1); rintro e w13 ⟨v475, rfl, ho0, hb⟩; have n0_ := Aside0.mk (Kd.R_below (by (with_reducible repeat (first | apply Kd.R_alloc | apply Kd.R_drewN | apply Kd.R_drew)); exact (Kd.R_mono (Kd.R_far (p := ⟨gb473, 0, none⟩) (Kd.R_types HO469.out BK473.out (by decide)) (fun _ hk => hk.2) (.slice Ao10 t467.length co10)) (fun _ h_ => h_.1))) hb); have n1_ := Aside0.mk (Kd.R_below (by (with_reducible repeat (first | apply Kd.R_alloc | apply Kd.R_drewN | apply Kd.R_drew)); exact (Kd.R_mono (Kd.R_far (p := ⟨gb473, 0, none⟩) (Kd.R_types HO472.out BK473.out (by decide)) (fun _ hk => hk.2) (.slice Ao10 t467.length co10)) (fun _ h_ => h_.1))) hb); have n2_ := Aside0.mk (Kd.R_lower ho0 (below_size (zb HB.out))); have n3_ := Aside0.mk (blk_below (g := gb473) (o := .cells #[.slice Ao10 t467.length co10] 30 (0, 0)) (by (with_reducible repeat (first | refine blk_drewN ?_ _ | refine blk_drew ?_ | refine blk_alloc ?_ _)); refine blk_put (cs := #[.slice none 0 0]) ?_ 0 _ rfl; (with_reducible repeat (first | refine blk_drewN ?_ _ | refine blk_drew ?_ | refine blk_alloc ?_ _)); exact BK473.out) hb); have n4_ := Aside0.mk (below_step (zb HB.out) hb); clear HO469; clear HO472; clear BK473; clear HB; have HO469 := n0_; have HO472 := n1_; have HO476 := n2_; have BK473 := n3_; have HB := n4_; clear n0_ n1_ n2_ n3_ n4_; (try clear hb); (try clear hb2); (try clear hk); (try clear hi); (try clear ho0); obtain ⟨Ao14, co14, eo14⟩ := Kd.R_slice HO476.out; subst eo14; have hcz15_0 : w13.cell? ⟨gb473, 0, none⟩ = some (.slice Ao10 t467.length co10) := (blk_cell BK473.out 0).trans rfl; have hfz15_0 := blk_frozen BK473.out 0) | (go_at_call 18; (with_reducible refine (spec_MakesAll.calls k _ _ t467 _ _ t470 t477 _ ?side1 ?side2 ?side3 ?side4 A6.out).mono ?_); (case side1 => exact zc (Kd.R_reads' HO469.out).2.2); (case side2 => exact (Kd.R_reads' HO469.out).2.1); (case side3 => exact zc (Kd.R_reads' HO472.out).2.2); (case side4 => exact (Kd.R_reads' HO472.out).2.1); rintro e w16 ⟨v478, rfl, ho0, hb⟩; have n0_ := Aside0.mk (Kd.R_below (zr HO469.out) hb); have n1_ := Aside0.mk (Kd.R_below (zr HO472.out) hb); have n2_ := Aside0.mk (Kd.R_elder' (zr HO476.out) (Kd.R_base ho0) hb); have n3_ := Aside0.mk (Kd.R_lower (Kd.R_new' ho0 (Kd.R_lt (zr HO476.out))) (below_size (zb HB.out))); have n4_ := Aside0.mk (blk_below (zh BK473.out) hb); have n5_ := Aside0.mk (below_step (zb HB.out) hb); clear HO469; clear HO472; clear HO476; clear BK473; clear HB; have HO469 := n0_; have HO472 := n1_; have HO476 := n2_; have HO479 := n3_; have BK473 := n4_; have HB := n5_; clear n0_ n1_ n2_ n3_ n4_ n5_; (try clear hb); (try clear hb2); (try clear hk); (try clear hi); (try clear ho0); obtain ⟨Ao17, co17, eo17⟩ := Kd.R_slice HO479.out; subst eo17)))
   go_loopg [6] k (fun kq v6 w' => ∃ (x6_1 : Int), v6 = .int .i64 x6_1 ∧ Aside0 (laws_FnMakesParts.l0 kq t470 t474 x6_1 t467 = some r) ∧ Aside0 (kq ≤ k) ∧ Aside0 (Kd.R (Kd.int .i64) 3 w' w.heap.size (fun _ => True) (.slice Ao12 t470.length co12) t470) ∧ Aside0 (Kd.R Kd.bool 4 w' w.heap.size (fun _ => True) (.slice Ao14 t474.length co14) t474) ∧ Aside0 (Kd.R k51 51 w' w.heap.size (fun _ => True) (.slice Ao10 t467.length co10) t467) ∧ Aside0 (w'.heap[gb473]? = some (.cells #[(.slice Ao10 t467.length co10)] 30 (0, 0))) ∧ Aside0 (Below w.heap.size w w'))
   case atStart => exact ⟨(0), (by first | rfl | (simp; done) | (simp [*]; done)), H', ⟨Nat.le_refl _⟩, ⟨zr HO472.out⟩, ⟨zr (Kd.R_mono HO476.out (fun _ hk => trivial))⟩, ⟨zr HO469.out⟩, ⟨zh BK473.out⟩, ⟨zb HB.out⟩⟩
   case round =>
    clear H'
    try clear p2
    try clear c3
    try clear c6
    try clear c7
    try clear c7b0
    try clear c7b1
    try clear c7b2
    try clear hcz11_0
    try clear hcz15_0
    try clear hfz11_0
    try clear hfz15_0
    obtain ⟨x6_1, rfl, HA, HK1, HO_4, HO_5, HO_474000, BK473, HB⟩ := hrel
    cases gk with
    | zero => exact absurd HA.out (by simp [laws_FnMakesParts.l0])
    | succ k1 =>
     have H := HA.out
     clear HA
     simp only [laws_FnMakesParts.l0] at H
     by_cases c18 : x6_1 < (t474.length : Int)
     ·rw [if_pos c18] at H
      have c18b0 : decide (x6_1 < (t474.length : Int)) = true := decide_eq_true c18
      clear c18
      replace H := Option.bind_eq_some_iff.mp H
      obtain ⟨t480, A190, H⟩ := H
      replace H : (laws_FnMakesParts.l1 k1 t470 t474 x6_1 t480 (decide ((t480.length : Int) > 0)) 0 t467) = some r := H
      have A19 := Aside0.mk A190
      clear A190
      have H' := Aside0.mk H
      clear H
      have hcz20_0 : wr.cell? ⟨gb473, 0, none⟩ = some (.slice Ao10 t467.length co10) := (blk_cell BK473.out 0).trans rfl
      have hfz20_0 := blk_frozen BK473.out 0
      go_wp2_with (first | (go_at_call 30; (with_reducible refine (impl_PartsOf.calls k1 _ _ t467 x6_1 t480 _ ?side1 ?side2 A19.out).mono ?_); (case side1 => exact zc (Kd.R_reads' HO_474000.out).2.2); (case side2 => exact (Kd.R_reads' HO_474000.out).2.1); rintro e w21 ⟨v481, rfl, ho0, hb⟩; have n0_ := Aside0.mk (Kd.R_elder' (zr HO_4.out) (Kd.R_base ho0) hb); have n1_ := Aside0.mk (Kd.R_below (zr HO_5.out) hb); have n2_ := Aside0.mk (Kd.R_below (zr HO_474000.out) hb); have n3_ := Aside0.mk (Kd.R_lower (Kd.R_new' ho0 (Kd.R_lt (zr HO_4.out))) (below_size (zb HB.out))); have n4_ := Aside0.mk (blk_below (zh BK473.out) hb); have n5_ := Aside0.mk (below_step (zb HB.out) hb); clear HO_4; clear HO_5; clear HO_474000; clear BK473; clear HB; have HO_4 := n0_; have HO_5 := n1_; have HO_474000 := n2_; have HO482 := n3_; have BK473 := n4_; have HB := n5_; clear n0_ n1_ n2_ n3_ n4_ n5_; (try clear hb); (try clear hb2); (try clear hk); (try clear hi); (try clear ho0); obtain ⟨Ao22, co22, eo22⟩ := Kd.R_slice HO482.out; subst eo22))
      repeat (go_quiet (first | (go_at_call 30; (with_reducible refine (impl_PartsOf.calls k1 _ _ t467 x6_1 t480 _ ?side1 ?side2 A19.out).mono ?_); (case side1 => exact zc (Kd.R_reads' HO_474000.out).2.2); (case side2 => exact (Kd.R_reads' HO_474000.out).2.1); rintro e w21 ⟨v481, rfl, ho0, hb⟩; have n0_ := Aside0.mk (Kd.R_elder' (zr HO_4.out) (Kd.R_base ho0) hb); have n1_ := Aside0.mk (Kd.R_below (zr HO_5.out) hb); have n2_ := Aside0.mk (Kd.R_below (zr HO_474000.out) hb); have n3_ := Aside0.mk (Kd.R_lower (Kd.R_new' ho0 (Kd.R_lt (zr HO_4.out))) (below_size (zb HB.out))); have n4_ := Aside0.mk (blk_below (zh BK473.out) hb); have n5_ := Aside0.mk (below_step (zb HB.out) hb); clear HO_4; clear HO_5; clear HO_474000; clear BK473; clear HB; have HO_4 := n0_; have HO_5 := n1_; have HO_474000 := n2_; have HO482 := n3_; have BK473 := n4_; have HB := n5_; clear n0_ n1_ n2_ n3_ n4_ n5_; (try clear hb); (try clear hb2); (try clear hk); (try clear hi); (try clear ho0); obtain ⟨Ao22, co22, eo22⟩ := Kd.R_slice HO482.out; subst eo22)); try go_wp2_with (first | (go_at_call 30; (with_reducible refine (impl_PartsOf.calls k1 _ _ t467 x6_1 t480 _ ?side1 ?side2 A19.out).mono ?_); (case side1 => exact zc (Kd.R_reads' HO_474000.out).2.2); (case side2 => exact (Kd.R_reads' HO_474000.out).2.1); rintro e w21 ⟨v481, rfl, ho0, hb⟩; have n0_ := Aside0.mk (Kd.R_elder' (zr HO_4.out) (Kd.R_base ho0) hb); have n1_ := Aside0.mk (Kd.R_below (zr HO_5.out) hb); have n2_ := Aside0.mk (Kd.R_below (zr HO_474000.out) hb); have n3_ := Aside0.mk (Kd.R_lower (Kd.R_new' ho0 (Kd.R_lt (zr HO_4.out))) (below_size (zb HB.out))); have n4_ := Aside0.mk (blk_below (zh BK473.out) hb); have n5_ := Aside0.mk (below_step (zb HB.out) hb); clear HO_4; clear HO_5; clear HO_474000; clear BK473; clear HB; have HO_4 := n0_; have HO_5 := n1_; have HO_474000 := n2_; have HO482 := n3_; have BK473 := n4_; have HB := n5_; clear n0_ n1_ n2_ n3_ n4_ n5_; (try clear hb); (try clear hb2); (try clear hk); (try clear hi); (try clear ho0); obtain ⟨Ao22, co22, eo22⟩ := Kd.R_slice HO482.out; subst eo22)))
      go_loopg [8, 9] k1 (fun kq v8 v9 w' => ∃ (x8_2 : Bool) (x9_2 : Int), v8 = .bool x8_2 ∧ v9 = .int .i64 x9_2 ∧ Aside0 (laws_FnMakesParts.l1 kq t470 t474 x6_1 t480 x8_2 x9_2 t467 = some r) ∧ Aside0 (kq ≤ k1) ∧ Aside0 (Kd.R (Kd.int .i64) 3 w' w.heap.size (fun k_ => some k_ ≠ ((.slice Ao22 t480.length co22) : Value).ownBlock) (.slice Ao12 t470.length co12) t470) ∧ Aside0 (Kd.R Kd.bool 4 w' w.heap.size (fun _ => True) (.slice Ao14 t474.length co14) t474) ∧ Aside0 (Kd.R (Kd.int .i64) 3 w' w.heap.size (fun k_ => some k_ ≠ ((.slice Ao12 t470.length co12) : Value).ownBlock) (.slice Ao22 t480.length co22) t480) ∧ Aside0 (Kd.R k51 51 w' w.heap.size (fun _ => True) (.slice Ao10 t467.length co10) t467) ∧ Aside0 (w'.heap[gb473]? = some (.cells #[(.slice Ao10 t467.length co10)] 30 (0, 0))) ∧ Aside0 (Below w.heap.size w w'))
      case atStart => exact ⟨(decide ((t480.length : Int) > 0)), (0), (by first | rfl | (simp; done) | (simp [*]; done)), (by first | rfl | (simp; done) | (simp [*]; done)), H', ⟨Nat.le_refl _⟩, ⟨zr (Kd.R_mono HO_4.out (fun _ hk => hk.2))⟩, ⟨zr HO_5.out⟩, ⟨zr (Kd.R_mono HO482.out (fun _ hk => hk.2))⟩, ⟨zr HO_474000.out⟩, ⟨zh BK473.out⟩, ⟨zb HB.out⟩⟩
      case round =>
       clear H'
       try clear c1
       try clear p2
       try clear c3
       try clear c6
       try clear c7
       try clear c7b0
       try clear c7b1
       try clear c7b2
       try clear c18
       try clear c18b0
       try clear hcz11_0
       try clear hcz15_0
       try clear hcz20_0
       try clear hfz11_0
       try clear hfz15_0
       try clear hfz20_0
       try clear p2
       obtain ⟨x8_2, x9_2, rfl, rfl, HA, HK2, HO_4, HO_5, HO_7, HO_474000, BK473, HB⟩ := hrel
       cases gk with
       | zero => exact absurd HA.out (by simp [laws_FnMakesParts.l1])
       | succ k2 =>
        have H := HA.out
        clear HA
        simp only [laws_FnMakesParts.l1] at H
        by_cases c23 : x9_2 < (t480.length : Int)
        ·rw [if_pos c23] at H
         have c23b0 : decide (x9_2 < (t480.length : Int)) = true := decide_eq_true c23
         clear c23
         by_cases c24 : x8_2 = true
         ·subst c24
          have H1 : (if 0 ≤ x9_2 then (if 0 ≤ (rd t480 x9_2) then (if (rd t480 x9_2) < (t474.length : Int) then (laws_FnMakesParts.l1 k2 t470 t474 x6_1 t480 (rdOf false t474 (rd t480 x9_2)) (wrap64 (x9_2 + 1)) t467) else (none)) else (none)) else (none)) = some r := by rw [if_pos rfl] at H; exact H
          clear H
          have H := H1
          clear H1
          by_cases c25 : 0 ≤ x9_2
          ·rw [if_pos c25] at H
           have c25b0 : decide (0 ≤ x9_2) = true := decide_eq_true c25
           clear c25
           by_cases c26 : 0 ≤ (rd t480 x9_2)
           ·rw [if_pos c26] at H
            have c26b0 : decide (0 ≤ (rd t480 x9_2)) = true := decide_eq_true c26
            clear c26
            by_cases c27 : (rd t480 x9_2) < (t474.length : Int)
            ·rw [if_pos c27] at H
             have c27b0 : decide ((rd t480 x9_2) < (t474.length : Int)) = true := decide_eq_true c27
             clear c27
             have H' := Aside0.mk H
             clear H
             have p483 : 0 ≤ (x9_2 : Int) := of_decide_eq_true (by first | (with_reducible assumption) | assumption)
             have q483 : x9_2 < (t480.length : Int) := of_decide_eq_true (by first | (with_reducible assumption) | assumption)
             obtain ⟨ad483, e483, hx483_0⟩ := Kd.at_int (Kd.R_reads' HO_7.out).2.2 x9_2 p483 q483
             cases e483
             replace p483 := eq_true p483
             replace q483 := eq_true q483
             have p484 : 0 ≤ ((rd t480 x9_2) : Int) := of_decide_eq_true (by first | (with_reducible assumption) | assumption)
             have q484 : (rd t480 x9_2) < (t474.length : Int) := of_decide_eq_true (by first | (with_reducible assumption) | assumption)
             obtain ⟨ad484, e484, hx484_0⟩ := Kd.at_bool (Kd.R_reads' HO_5.out).2.2 (rd t480 x9_2) p484 q484
             cases e484
             replace p484 := eq_true p484
             replace q484 := eq_true q484
             go_wp2
             repeat (go_quiet (fail); try go_wp2)
             go_roundg k2
             case measure => have := HK1.out; have := HK2.out; omega
             case rel => exact ⟨(rdOf false t474 (rd t480 x9_2)), (wrap64 (x9_2 + 1)), (by first | rfl | (simp; done) | (simp [*]; done)), (by first | rfl | (simp; done) | (simp [*]; done)), H', ⟨by have := HK1.out; have := HK2.out; omega⟩, ⟨zr HO_4.out⟩, ⟨zr HO_5.out⟩, ⟨zr HO_7.out⟩, ⟨zr HO_474000.out⟩, ⟨zh BK473.out⟩, ⟨zb HB.out⟩⟩
            ·rw [if_neg c27] at H
             exact absurd H (by simp)
           ·rw [if_neg c26] at H
            exact absurd H (by simp)
          ·rw [if_neg c25] at H
           exact absurd H (by simp)
         ·replace c24 := Bool.eq_false_iff.mpr c24
          subst c24
          have H1 : (laws_FnMakesParts.l1 k2 t470 t474 x6_1 t480 false (wrap64 (x9_2 + 1)) t467) = some r := by rw [if_neg (show ¬ (false = true) by decide)] at H; exact H
          clear H
          have H := H1
          clear H1
          have H' := Aside0.mk H
          clear H
          go_wp2
          repeat (go_quiet (fail); try go_wp2)
          go_roundg k2
          case measure => have := HK1.out; have := HK2.out; omega
          case rel => exact ⟨(false), (wrap64 (x9_2 + 1)), (by first | rfl | (simp; done) | (simp [*]; done)), (by first | rfl | (simp; done) | (simp [*]; done)), H', ⟨by have := HK1.out; have := HK2.out; omega⟩, ⟨zr HO_4.out⟩, ⟨zr HO_5.out⟩, ⟨zr HO_7.out⟩, ⟨zr HO_474000.out⟩, ⟨zh BK473.out⟩, ⟨zb HB.out⟩⟩
        ·rw [if_neg c23] at H
         have c23b0 : decide (x9_2 < (t480.length : Int)) = false := decide_eq_false c23
         clear c23
         have HC28 := Aside0.mk H
         clear H
         go_upto_region 16 with (fail)
         repeat (go_quiet (fail); go_upto_region 16 with (fail))
         go_cut [67] (fun v67 wc => ∃ (kq : Nat) (x67_27 : Bool), v67 = .bool x67_27 ∧ Aside0 (laws_FnMakesParts.j2 kq t470 t474 x6_1 x8_2 x67_27 t467 = some r) ∧ Aside0 (kq ≤ k2) ∧ Aside0 (Kd.R (Kd.int .i64) 3 wc w.heap.size (fun _ => True) (.slice Ao12 t470.length co12) t470) ∧ Aside0 (Kd.R Kd.bool 4 wc w.heap.size (fun _ => True) (.slice Ao14 t474.length co14) t474) ∧ Aside0 (Kd.R k51 51 wc w.heap.size (fun _ => True) (.slice Ao10 t467.length co10) t467) ∧ Aside0 (wc.heap[gb473]? = some (.cells #[(.slice Ao10 t467.length co10)] 30 (0, 0))) ∧ Aside0 (Below w.heap.size w wc))
         case first =>
          have H := HC28.out
          clear HC28
          by_cases c29 : x8_2 = true
          ·subst c29
           have H1 : (if 0 ≤ x6_1 then (if x6_1 < (t474.length : Int) then (laws_FnMakesParts.j2 k2 t470 t474 x6_1 true (!(rdOf false t474 x6_1)) t467) else (none)) else (none)) = some r := by rw [if_pos rfl] at H; exact H
           clear H
           have H := H1
           clear H1
           by_cases c30 : 0 ≤ x6_1
           ·rw [if_pos c30] at H
            have c30b0 : decide (0 ≤ x6_1) = true := decide_eq_true c30
            clear c30
            (first | rw [c30b0] | (simp only [i64_w, i32_w]; rw [c30b0]) | skip)
            by_cases c31 : x6_1 < (t474.length : Int)
            ·rw [if_pos c31] at H
             have c31b0 : decide (x6_1 < (t474.length : Int)) = true := decide_eq_true c31
             clear c31
             have H' := Aside0.mk H
             clear H
             have p485 : 0 ≤ (x6_1 : Int) := of_decide_eq_true (by first | (with_reducible assumption) | assumption)
             have q485 : x6_1 < (t474.length : Int) := of_decide_eq_true (by first | (with_reducible assumption) | assumption)
             obtain ⟨ad485, e485, hx485_0⟩ := Kd.at_bool (Kd.R_reads' HO_5.out).2.2 x6_1 p485 q485
             cases e485
             replace p485 := eq_true p485
             replace q485 := eq_true q485
             go_wp2
             repeat (go_quiet (fail); try go_wp2)
             go_meet
             case rel => exact ⟨_, (!(rdOf false t474 x6_1)), (by first | rfl | (simp; done) | (simp [*]; done)), H', ⟨by have := HK1.out; have := HK2.out; first | omega | exact Nat.le_refl _⟩, ⟨zr (Kd.R_mono HO_4.out (fun _ hk => trivial))⟩, ⟨zr HO_5.out⟩, ⟨zr HO_474000.out⟩, ⟨zh BK473.out⟩, ⟨zb HB.out⟩⟩
            ·rw [if_neg c31] at H
             exact absurd H (by simp)
           ·rw [if_neg c30] at H
            exact absurd H (by simp)
          ·replace c29 := Bool.eq_false_iff.mpr c29
           subst c29
           have H1 : ((impl_KnowHas.f k2 t470 x6_1).bind fun t486 => (if t486 = true then (if 0 ≤ x6_1 then (if x6_1 < (t474.length : Int) then (laws_FnMakesParts.j2 k2 t470 t474 x6_1 false (!(rdOf false t474 x6_1)) t467) else (none)) else (none)) else (laws_FnMakesParts.j2 k2 t470 t474 x6_1 false false t467))) = some r := by rw [if_neg (show ¬ (false = true) by decide)] at H; exact H
           clear H
           have H := H1
           clear H1
           replace H := Option.bind_eq_some_iff.mp H
           obtain ⟨t486, A320, H⟩ := H
           replace H : (if t486 = true then (if 0 ≤ x6_1 then (if x6_1 < (t474.length : Int) then (laws_FnMakesParts.j2 k2 t470 t474 x6_1 false (!(rdOf false t474 x6_1)) t467) else (none)) else (none)) else (laws_FnMakesParts.j2 k2 t470 t474 x6_1 false false t467)) = some r := H
           have A32 := Aside0.mk A320
           clear A320
           by_cases c33 : t486 = true
           ·subst c33
            have H1 : (if 0 ≤ x6_1 then (if x6_1 < (t474.length : Int) then (laws_FnMakesParts.j2 k2 t470 t474 x6_1 false (!(rdOf false t474 x6_1)) t467) else (none)) else (none)) = some r := by rw [if_pos rfl] at H; exact H
            clear H
            have H := H1
            clear H1
            by_cases c34 : 0 ≤ x6_1
            ·rw [if_pos c34] at H
             have c34b0 : decide (0 ≤ x6_1) = true := decide_eq_true c34
             clear c34
             by_cases c35 : x6_1 < (t474.length : Int)
             ·rw [if_pos c35] at H
              have c35b0 : decide (x6_1 < (t474.length : Int)) = true := decide_eq_true c35
              clear c35
              have H' := Aside0.mk H
              clear H
              go_wp2_with (first | (go_at_call 31; (with_reducible refine (impl_KnowHas.calls k2 _ _ t470 x6_1 true _ ?side1 ?side2 A32.out).mono ?_); (case side1 => exact zc (Kd.R_reads' HO_4.out).2.2); (case side2 => exact (Kd.R_reads' HO_4.out).2.1); rintro e w' ⟨rfl, ⟨nd, rfl⟩⟩; (try first | exact ⟨rfl, _, World.drewN_drewN _ _ _⟩ | exact ⟨rfl, _, Eq.trans (World.drewN_drewN _ _ _) (congrArg (World.drewN _) (Nat.add_assoc _ _ _))⟩); have p487 : 0 ≤ (x6_1 : Int) := of_decide_eq_true (by first | (with_reducible assumption) | assumption); have q487 : x6_1 < (t474.length : Int) := of_decide_eq_true (by first | (with_reducible assumption) | assumption); obtain ⟨ad487, e487, hx487_0⟩ := Kd.at_bool (Kd.R_reads' HO_5.out).2.2 x6_1 p487 q487; cases e487; replace p487 := eq_true p487; replace q487 := eq_true q487))
              repeat (go_quiet (first | (go_at_call 31; (with_reducible refine (impl_KnowHas.calls k2 _ _ t470 x6_1 true _ ?side1 ?side2 A32.out).mono ?_); (case side1 => exact zc (Kd.R_reads' HO_4.out).2.2); (case side2 => exact (Kd.R_reads' HO_4.out).2.1); rintro e w' ⟨rfl, ⟨nd, rfl⟩⟩; (try first | exact ⟨rfl, _, World.drewN_drewN _ _ _⟩ | exact ⟨rfl, _, Eq.trans (World.drewN_drewN _ _ _) (congrArg (World.drewN _) (Nat.add_assoc _ _ _))⟩); have p487 : 0 ≤ (x6_1 : Int) := of_decide_eq_true (by first | (with_reducible assumption) | assumption); have q487 : x6_1 < (t474.length : Int) := of_decide_eq_true (by first | (with_reducible assumption) | assumption); obtain ⟨ad487, e487, hx487_0⟩ := Kd.at_bool (Kd.R_reads' HO_5.out).2.2 x6_1 p487 q487; cases e487; replace p487 := eq_true p487; replace q487 := eq_true q487)); try go_wp2_with (first | (go_at_call 31; (with_reducible refine (impl_KnowHas.calls k2 _ _ t470 x6_1 true _ ?side1 ?side2 A32.out).mono ?_); (case side1 => exact zc (Kd.R_reads' HO_4.out).2.2); (case side2 => exact (Kd.R_reads' HO_4.out).2.1); rintro e w' ⟨rfl, ⟨nd, rfl⟩⟩; (try first | exact ⟨rfl, _, World.drewN_drewN _ _ _⟩ | exact ⟨rfl, _, Eq.trans (World.drewN_drewN _ _ _) (congrArg (World.drewN _) (Nat.add_assoc _ _ _))⟩); have p487 : 0 ≤ (x6_1 : Int) := of_decide_eq_true (by first | (with_reducible assumption) | assumption); have q487 : x6_1 < (t474.length : Int) := of_decide_eq_true (by first | (with_reducible assumption) | assumption); obtain ⟨ad487, e487, hx487_0⟩ := Kd.at_bool (Kd.R_reads' HO_5.out).2.2 x6_1 p487 q487; cases e487; replace p487 := eq_true p487; replace q487 := eq_true q487)))
              go_meet
              case rel => exact ⟨_, (!(rdOf false t474 x6_1)), (by first | rfl | (simp; done) | (simp [*]; done)), H', ⟨by have := HK1.out; have := HK2.out; first | omega | exact Nat.le_refl _⟩, ⟨zr (Kd.R_mono HO_4.out (fun _ hk => trivial))⟩, ⟨zr HO_5.out⟩, ⟨zr HO_474000.out⟩, ⟨zh BK473.out⟩, ⟨zb HB.out⟩⟩
             ·rw [if_neg c35] at H
              exact absurd H (by simp)
            ·rw [if_neg c34] at H
             exact absurd H (by simp)
           ·replace c33 := Bool.eq_false_iff.mpr c33
            subst c33
            have H1 : (laws_FnMakesParts.j2 k2 t470 t474 x6_1 false false t467) = some r := by rw [if_neg (show ¬ (false = true) by decide)] at H; exact H
            clear H
            have H := H1
            clear H1
            have H' := Aside0.mk H
            clear H
            go_wp2_with (first | (go_at_call 31; (with_reducible refine (impl_KnowHas.calls k2 _ _ t470 x6_1 false _ ?side1 ?side2 A32.out).mono ?_); (case side1 => exact zc (Kd.R_reads' HO_4.out).2.2); (case side2 => exact (Kd.R_reads' HO_4.out).2.1); rintro e w' ⟨rfl, ⟨nd, rfl⟩⟩; (try first | exact ⟨rfl, _, World.drewN_drewN _ _ _⟩ | exact ⟨rfl, _, Eq.trans (World.drewN_drewN _ _ _) (congrArg (World.drewN _) (Nat.add_assoc _ _ _))⟩)))
            repeat (go_quiet (first | (go_at_call 31; (with_reducible refine (impl_KnowHas.calls k2 _ _ t470 x6_1 false _ ?side1 ?side2 A32.out).mono ?_); (case side1 => exact zc (Kd.R_reads' HO_4.out).2.2); (case side2 => exact (Kd.R_reads' HO_4.out).2.1); rintro e w' ⟨rfl, ⟨nd, rfl⟩⟩; (try first | exact ⟨rfl, _, World.drewN_drewN _ _ _⟩ | exact ⟨rfl, _, Eq.trans (World.drewN_drewN _ _ _) (congrArg (World.drewN _) (Nat.add_assoc _ _ _))⟩))); try go_wp2_with (first | (go_at_call 31; (with_reducible refine (impl_KnowHas.calls k2 _ _ t470 x6_1 false _ ?side1 ?side2 A32.out).mono ?_); (case side1 => exact zc (Kd.R_reads' HO_4.out).2.2); (case side2 => exact (Kd.R_reads' HO_4.out).2.1); rintro e w' ⟨rfl, ⟨nd, rfl⟩⟩; (try first | exact ⟨rfl, _, World.drewN_drewN _ _ _⟩ | exact ⟨rfl, _, Eq.trans (World.drewN_drewN _ _ _) (congrArg (World.drewN _) (Nat.add_assoc _ _ _))⟩))))
            go_meet
            case rel => exact ⟨_, (false), (by first | rfl | (simp; done) | (simp [*]; done)), H', ⟨by have := HK1.out; have := HK2.out; first | omega | exact Nat.le_refl _⟩, ⟨zr (Kd.R_mono HO_4.out (fun _ hk => trivial))⟩, ⟨zr HO_5.out⟩, ⟨zr HO_474000.out⟩, ⟨zh BK473.out⟩, ⟨zb HB.out⟩⟩
         case rest =>
          clear HC28
          try clear c1
          try clear c2
          try clear p2
          try clear c3
          try clear p4
          try clear q4
          try clear hx4
          try clear c6
          try clear p6
          try clear c7
          try clear c7b0
          try clear c7b1
          try clear c7b2
          try clear c18
          try clear c18b0
          try clear c23
          try clear c23b0
          try clear c24
          try clear c25
          try clear c25b0
          try clear c26
          try clear c26b0
          try clear c27
          try clear c27b0
          try clear c29
          try clear c30
          try clear c30b0
          try clear c31
          try clear c31b0
          try clear c33
          try clear c34
          try clear c34b0
          try clear c35
          try clear c35b0
          try clear hcz11_0
          try clear hcz15_0
          try clear hcz20_0
          try clear hfz11_0
          try clear hfz15_0
          try clear hfz20_0
          try clear hx483_0
          try clear hx484_0
          try clear hx485_0
          try clear hx487_0
          try clear p2
          try clear p483
          try clear p484
          try clear p485
          try clear p487
          try clear q483
          try clear q484
          try clear q485
          try clear q487
          obtain ⟨kq, x67_27, rfl, HA, HJ27, HO_4, HO_5, HO_474000, BK473, HB⟩ := hcut
          cases kq with
          | zero => exact absurd HA.out (by simp [laws_FnMakesParts.j2])
          | succ kj27 =>
           have H := HA.out
           clear HA
           simp only [laws_FnMakesParts.j2] at H
           by_cases c36 : x67_27 = true
           ·subst c36
            have H1 : (some false) = some r := by rw [if_pos rfl] at H; exact H
            clear H
            have H := H1
            clear H1
            obtain rfl := Option.some.inj H
            go_wp2
            repeat (go_quiet (fail); try go_wp2)
            go_ret
            exact ⟨ze, zb HB.out⟩
           ·replace c36 := Bool.eq_false_iff.mpr c36
            subst c36
            have H1 : (if 0 ≤ x6_1 then (if x6_1 < (t467.length : Int) then (if ((rd_T51 t467 x6_1).f0) = 1 then (if x6_1 < (t474.length : Int) then ((impl_IsPublic.f ((rd_T51 t467 x6_1).f1)).bind fun t491 => (if t491 = true then (laws_FnMakesParts.j3 kj27 t470 t474 x6_1 x8_2 ((rdOf false t474 x6_1) != true) t467) else ((impl_KnowHas.f kj27 t470 x6_1).bind fun t492 => (laws_FnMakesParts.j3 kj27 t470 t474 x6_1 x8_2 ((rdOf false t474 x6_1) != t492) t467)))) else (none)) else (laws_FnMakesParts.j3 kj27 t470 t474 x6_1 x8_2 false t467)) else (none)) else (none)) = some r := by rw [if_neg (show ¬ (false = true) by decide)] at H; exact H
            clear H
            have H := H1
            clear H1
            have HC37 := Aside0.mk H
            clear H
            go_upto_region 18 with (fail)
            repeat (go_quiet (fail); go_upto_region 18 with (fail))
            go_cut [93] (fun v93 wc => ∃ (kq : Nat) (x93_36 : Bool), v93 = .bool x93_36 ∧ Aside0 (laws_FnMakesParts.j3 kq t470 t474 x6_1 x8_2 x93_36 t467 = some r) ∧ Aside0 (kq ≤ kj27) ∧ Aside0 (Kd.R (Kd.int .i64) 3 wc w.heap.size (fun _ => True) (.slice Ao12 t470.length co12) t470) ∧ Aside0 (Kd.R Kd.bool 4 wc w.heap.size (fun _ => True) (.slice Ao14 t474.length co14) t474) ∧ Aside0 (Kd.R k51 51 wc w.heap.size (fun _ => True) (.slice Ao10 t467.length co10) t467) ∧ Aside0 (wc.heap[gb473]? = some (.cells #[(.slice Ao10 t467.length co10)] 30 (0, 0))) ∧ Aside0 (Below w.heap.size w wc))
            case first =>
             have H := HC37.out
             clear HC37
             by_cases c38 : 0 ≤ x6_1
             ·rw [if_pos c38] at H
              have c38b0 : decide (0 ≤ x6_1) = true := decide_eq_true c38
              clear c38
              (first | rw [c38b0] | (simp only [i64_w, i32_w]; rw [c38b0]) | skip)
              by_cases c39 : x6_1 < (t467.length : Int)
              ·rw [if_pos c39] at H
               have c39b0 : decide (x6_1 < (t467.length : Int)) = true := decide_eq_true c39
               clear c39
               by_cases c40 : ((rd_T51 t467 x6_1).f0) = 1
               ·rw [if_pos c40] at H
                have c40b0 : (((rd_T51 t467 x6_1).f0) == 1) = true := beq_iff_eq.mpr c40
                have c40b1 : (((rd_T51 t467 x6_1).f0) != 1) = false := bne_eq_false_iff_eq.mpr c40
                clear c40
                by_cases c41 : x6_1 < (t474.length : Int)
                ·rw [if_pos c41] at H
                 have c41b0 : decide (x6_1 < (t474.length : Int)) = true := decide_eq_true c41
                 clear c41
                 replace H := Option.bind_eq_some_iff.mp H
                 obtain ⟨t491, A420, H⟩ := H
                 replace H : (if t491 = true then (laws_FnMakesParts.j3 kj27 t470 t474 x6_1 x8_2 ((rdOf false t474 x6_1) != true) t467) else ((impl_KnowHas.f kj27 t470 x6_1).bind fun t492 => (laws_FnMakesParts.j3 kj27 t470 t474 x6_1 x8_2 ((rdOf false t474 x6_1) != t492) t467))) = some r := H
                 have A42 := Aside0.mk A420
                 clear A420
                 by_cases c43 : t491 = true
                 ·subst c43
                  have H1 : (laws_FnMakesParts.j3 kj27 t470 t474 x6_1 x8_2 ((rdOf false t474 x6_1) != true) t467) = some r := by rw [if_pos rfl] at H; exact H
                  clear H
                  have H := H1
                  clear H1
                  have H' := Aside0.mk H
                  clear H
                  have hcz44_0 : wc.cell? ⟨gb473, 0, none⟩ = some (.slice Ao10 t467.length co10) := (blk_cell BK473.out 0).trans rfl
                  have hfz44_0 := blk_frozen BK473.out 0
                  have p488 : 0 ≤ (x6_1 : Int) := of_decide_eq_true (by first | (with_reducible assumption) | assumption)
                  have q488 : x6_1 < (t467.length : Int) := of_decide_eq_true (by first | (with_reducible assumption) | assumption)
                  obtain ⟨ad488, e488, hx488_0, hx488_1, hx488_2⟩ := at_T51 (Kd.R_reads' HO_474000.out).2.2 x6_1 p488 q488
                  cases e488
                  replace p488 := eq_true p488
                  replace q488 := eq_true q488
                  have p489 : 0 ≤ (x6_1 : Int) := of_decide_eq_true (by first | (with_reducible assumption) | assumption)
                  have q489 : x6_1 < (t474.length : Int) := of_decide_eq_true (by first | (with_reducible assumption) | assumption)
                  obtain ⟨ad489, e489, hx489_0⟩ := Kd.at_bool (Kd.R_reads' HO_5.out).2.2 x6_1 p489 q489
                  cases e489
                  replace p489 := eq_true p489
                  replace q489 := eq_true q489
                  have p490 : 0 ≤ (x6_1 : Int) := of_decide_eq_true (by first | (with_reducible assumption) | assumption)
                  have q490 : x6_1 < (t467.length : Int) := of_decide_eq_true (by first | (with_reducible assumption) | assumption)
                  obtain ⟨ad490, e490, hx490_0, hx490_1, hx490_2⟩ := at_T51 (Kd.R_reads' HO_474000.out).2.2 x6_1 p490 q490
                  obtain rfl : ad488 = ad490 := (by injection e490)
                  replace p490 := eq_true p490
                  replace q490 := eq_true q490
                  go_wp2_with (first | (go_at_call 32; (with_reducible refine (impl_IsPublic.calls ((rd_T51 t467 x6_1).f1) true _ A42.out).mono ?_); rintro e w' ⟨rfl, ⟨nd, rfl⟩⟩; (try first | exact ⟨rfl, _, World.drewN_drewN _ _ _⟩ | exact ⟨rfl, _, Eq.trans (World.drewN_drewN _ _ _) (congrArg (World.drewN _) (Nat.add_assoc _ _ _))⟩)))
                  repeat (go_quiet (first | (go_at_call 32; (with_reducible refine (impl_IsPublic.calls ((rd_T51 t467 x6_1).f1) true _ A42.out).mono ?_); rintro e w' ⟨rfl, ⟨nd, rfl⟩⟩; (try first | exact ⟨rfl, _, World.drewN_drewN _ _ _⟩ | exact ⟨rfl, _, Eq.trans (World.drewN_drewN _ _ _) (congrArg (World.drewN _) (Nat.add_assoc _ _ _))⟩))); try go_wp2_with (first | (go_at_call 32; (with_reducible refine (impl_IsPublic.calls ((rd_T51 t467 x6_1).f1) true _ A42.out).mono ?_); rintro e w' ⟨rfl, ⟨nd, rfl⟩⟩; (try first | exact ⟨rfl, _, World.drewN_drewN _ _ _⟩ | exact ⟨rfl, _, Eq.trans (World.drewN_drewN _ _ _) (congrArg (World.drewN _) (Nat.add_assoc _ _ _))⟩))))
                  go_meet
                  case rel => exact ⟨_, (((rdOf false t474 x6_1) != true)), (by first | rfl | (simp; done) | (simp [*]; done)), H', ⟨by have := HK1.out; have := HK2.out; have := HJ27.out; first | omega | exact Nat.le_refl _⟩, ⟨zr HO_4.out⟩, ⟨zr HO_5.out⟩, ⟨zr HO_474000.out⟩, ⟨zh BK473.out⟩, ⟨zb HB.out⟩⟩
                 ·replace c43 := Bool.eq_false_iff.mpr c43
                  subst c43
                  have H1 : ((impl_KnowHas.f kj27 t470 x6_1).bind fun t492 => (laws_FnMakesParts.j3 kj27 t470 t474 x6_1 x8_2 ((rdOf false t474 x6_1) != t492) t467)) = some r := by rw [if_neg (show ¬ (false = true) by decide)] at H; exact H
                  clear H
                  have H := H1
                  clear H1
                  replace H := Option.bind_eq_some_iff.mp H
                  obtain ⟨t492, A450, H⟩ := H
                  replace H : (laws_FnMakesParts.j3 kj27 t470 t474 x6_1 x8_2 ((rdOf false t474 x6_1) != t492) t467) = some r := H
                  have A45 := Aside0.mk A450
                  clear A450
                  have H' := Aside0.mk H
                  clear H
                  have hcz46_0 : wc.cell? ⟨gb473, 0, none⟩ = some (.slice Ao10 t467.length co10) := (blk_cell BK473.out 0).trans rfl
                  have hfz46_0 := blk_frozen BK473.out 0
                  have p488 : 0 ≤ (x6_1 : Int) := of_decide_eq_true (by first | (with_reducible assumption) | assumption)
                  have q488 : x6_1 < (t467.length : Int) := of_decide_eq_true (by first | (with_reducible assumption) | assumption)
                  obtain ⟨ad488, e488, hx488_0, hx488_1, hx488_2⟩ := at_T51 (Kd.R_reads' HO_474000.out).2.2 x6_1 p488 q488
                  cases e488
                  replace p488 := eq_true p488
                  replace q488 := eq_true q488
                  have p489 : 0 ≤ (x6_1 : Int) := of_decide_eq_true (by first | (with_reducible assumption) | assumption)
                  have q489 : x6_1 < (t474.length : Int) := of_decide_eq_true (by first | (with_reducible assumption) | assumption)
                  obtain ⟨ad489, e489, hx489_0⟩ := Kd.at_bool (Kd.R_reads' HO_5.out).2.2 x6_1 p489 q489
                  cases e489
                  replace p489 := eq_true p489
                  replace q489 := eq_true q489
                  have p490 : 0 ≤ (x6_1 : Int) := of_decide_eq_true (by first | (with_reducible assumption) | assumption)
                  have q490 : x6_1 < (t467.length : Int) := of_decide_eq_true (by first | (with_reducible assumption) | assumption)
                  obtain ⟨ad490, e490, hx490_0, hx490_1, hx490_2⟩ := at_T51 (Kd.R_reads' HO_474000.out).2.2 x6_1 p490 q490
                  obtain rfl : ad488 = ad490 := (by injection e490)
                  replace p490 := eq_true p490
                  replace q490 := eq_true q490
                  go_wp2_with (first | (go_at_call 32; (with_reducible refine (impl_IsPublic.calls ((rd_T51 t467 x6_1).f1) false _ A42.out).mono ?_); rintro e w' ⟨rfl, ⟨nd, rfl⟩⟩; (try first | exact ⟨rfl, _, World.drewN_drewN _ _ _⟩ | exact ⟨rfl, _, Eq.trans (World.drewN_drewN _ _ _) (congrArg (World.drewN _) (Nat.add_assoc _ _ _))⟩)) | (go_at_call 31; (with_reducible refine (impl_KnowHas.calls kj27 _ _ t470 x6_1 t492 _ ?side1 ?side2 A45.out).mono ?_); (case side1 => exact zc (Kd.R_reads' HO_4.out).2.2); (case side2 => exact (Kd.R_reads' HO_4.out).2.1); rintro e w' ⟨rfl, ⟨nd, rfl⟩⟩; (try first | exact ⟨rfl, _, World.drewN_drewN _ _ _⟩ | exact ⟨rfl, _, Eq.trans (World.drewN_drewN _ _ _) (congrArg (World.drewN _) (Nat.add_assoc _ _ _))⟩)))
                  repeat (go_quiet (first | (go_at_call 32; (with_reducible refine (impl_IsPublic.calls ((rd_T51 t467 x6_1).f1) false _ A42.out).mono ?_); rintro e w' ⟨rfl, ⟨nd, rfl⟩⟩; (try first | exact ⟨rfl, _, World.drewN_drewN _ _ _⟩ | exact ⟨rfl, _, Eq.trans (World.drewN_drewN _ _ _) (congrArg (World.drewN _) (Nat.add_assoc _ _ _))⟩)) | (go_at_call 31; (with_reducible refine (impl_KnowHas.calls kj27 _ _ t470 x6_1 t492 _ ?side1 ?side2 A45.out).mono ?_); (case side1 => exact zc (Kd.R_reads' HO_4.out).2.2); (case side2 => exact (Kd.R_reads' HO_4.out).2.1); rintro e w' ⟨rfl, ⟨nd, rfl⟩⟩; (try first | exact ⟨rfl, _, World.drewN_drewN _ _ _⟩ | exact ⟨rfl, _, Eq.trans (World.drewN_drewN _ _ _) (congrArg (World.drewN _) (Nat.add_assoc _ _ _))⟩))); try go_wp2_with (first | (go_at_call 32; (with_reducible refine (impl_IsPublic.calls ((rd_T51 t467 x6_1).f1) false _ A42.out).mono ?_); rintro e w' ⟨rfl, ⟨nd, rfl⟩⟩; (try first | exact ⟨rfl, _, World.drewN_drewN _ _ _⟩ | exact ⟨rfl, _, Eq.trans (World.drewN_drewN _ _ _) (congrArg (World.drewN _) (Nat.add_assoc _ _ _))⟩)) | (go_at_call 31; (with_reducible refine (impl_KnowHas.calls kj27 _ _ t470 x6_1 t492 _ ?side1 ?side2 A45.out).mono ?_); (case side1 => exact zc (Kd.R_reads' HO_4.out).2.2); (case side2 => exact (Kd.R_reads' HO_4.out).2.1); rintro e w' ⟨rfl, ⟨nd, rfl⟩⟩; (try first | exact ⟨rfl, _, World.drewN_drewN _ _ _⟩ | exact ⟨rfl, _, Eq.trans (World.drewN_drewN _ _ _) (congrArg (World.drewN _) (Nat.add_assoc _ _ _))⟩))))
                  go_meet
                  case rel => exact ⟨_, (((rdOf false t474 x6_1) != t492)), (by first | rfl | (simp; done) | (simp [*]; done)), H', ⟨by have := HK1.out; have := HK2.out; have := HJ27.out; first | omega | exact Nat.le_refl _⟩, ⟨zr HO_4.out⟩, ⟨zr HO_5.out⟩, ⟨zr HO_474000.out⟩, ⟨zh BK473.out⟩, ⟨zb HB.out⟩⟩
                ·rw [if_neg c41] at H
                 exact absurd H (by simp)
               ·rw [if_neg c40] at H
                have c40b0 : (((rd_T51 t467 x6_1).f0) == 1) = false := beq_eq_false_iff_ne.mpr c40
                have c40b1 : (((rd_T51 t467 x6_1).f0) != 1) = true := bne_iff_ne.mpr c40
                have H' := Aside0.mk H
                clear H
                have hcz47_0 : wc.cell? ⟨gb473, 0, none⟩ = some (.slice Ao10 t467.length co10) := (blk_cell BK473.out 0).trans rfl
                have hfz47_0 := blk_frozen BK473.out 0
                have p488 : 0 ≤ (x6_1 : Int) := of_decide_eq_true (by first | (with_reducible assumption) | assumption)
                have q488 : x6_1 < (t467.length : Int) := of_decide_eq_true (by first | (with_reducible assumption) | assumption)
                obtain ⟨ad488, e488, hx488_0, hx488_1, hx488_2⟩ := at_T51 (Kd.R_reads' HO_474000.out).2.2 x6_1 p488 q488
                cases e488
                replace p488 := eq_true p488
                replace q488 := eq_true q488
                go_wp2
                repeat (go_quiet (fail); try go_wp2)
                go_meet
                case rel => exact ⟨_, (false), (by first | rfl | (simp; done) | (simp [*]; done)), H', ⟨by have := HK1.out; have := HK2.out; have := HJ27.out; first | omega | exact Nat.le_refl _⟩, ⟨zr HO_4.out⟩, ⟨zr HO_5.out⟩, ⟨zr HO_474000.out⟩, ⟨zh BK473.out⟩, ⟨zb HB.out⟩⟩
              ·rw [if_neg c39] at H
               exact absurd H (by simp)
             ·rw [if_neg c38] at H
              exact absurd H (by simp)
            case rest =>
             clear HC37
             try clear c1
             try clear c2
             try clear p2
             try clear c3
             try clear c4
             try clear p4
             try clear q4
             try clear hx4
             try clear c6
             try clear p6
             try clear c7
             try clear c7b0
             try clear c7b1
             try clear c7b2
             try clear c18
             try clear c18b0
             try clear c23
             try clear c23b0
             try clear c24
             try clear c25
             try clear c25b0
             try clear c26
             try clear c26b0
             try clear c27
             try clear c27b0
             try clear c29
             try clear c30
             try clear c30b0
             try clear c31
             try clear c31b0
             try clear c33
             try clear c34
             try clear c34b0
             try clear c35
             try clear c35b0
             try clear c36
             try clear c38
             try clear c38b0
             try clear c39
             try clear c39b0
             try clear c40
             try clear c40b0
             try clear c40b1
             try clear c41
             try clear c41b0
             try clear c43
             try clear hcz11_0
             try clear hcz15_0
             try clear hcz20_0
             try clear hcz44_0
             try clear hcz46_0
             try clear hcz47_0
             try clear hfz11_0
             try clear hfz15_0
             try clear hfz20_0
             try clear hfz44_0
             try clear hfz46_0
             try clear hfz47_0
             try clear hx483_0
             try clear hx484_0
             try clear hx485_0
             try clear hx487_0
             try clear hx488_0
             try clear hx488_1
             try clear hx488_2
             try clear hx489_0
             try clear hx490_0
             try clear hx490_1
             try clear hx490_2
             try clear p2
             try clear p4
             try clear p483
             try clear p484
             try clear p485
             try clear p487
             try clear p488
             try clear p489
             try clear p490
             try clear p6
             try clear q4
             try clear q483
             try clear q484
             try clear q485
             try clear q487
             try clear q488
             try clear q489
             try clear q490
             obtain ⟨kq, x93_36, rfl, HA, HJ36, HO_4, HO_5, HO_474000, BK473, HB⟩ := hcut
             cases kq with
             | zero => exact absurd HA.out (by simp [laws_FnMakesParts.j3])
             | succ kj36 =>
              have H := HA.out
              clear HA
              simp only [laws_FnMakesParts.j3] at H
              by_cases c48 : x93_36 = true
              ·subst c48
               have H1 : (some false) = some r := by rw [if_pos rfl] at H; exact H
               clear H
               have H := H1
               clear H1
               obtain rfl := Option.some.inj H
               go_wp2
               repeat (go_quiet (fail); try go_wp2)
               go_ret
               exact ⟨ze, zb HB.out⟩
              ·replace c48 := Bool.eq_false_iff.mpr c48
               subst c48
               have H1 : (if 0 ≤ x6_1 then (if x6_1 < (t474.length : Int) then (if rdOf false t474 x6_1 = true then (if x8_2 = true then (laws_FnMakesParts.l0 kj36 t470 t474 (wrap64 (x6_1 + 1)) t467) else ((impl_KnowHas.f kj36 t470 x6_1).bind fun t494 => (if t494 = true then (laws_FnMakesParts.l0 kj36 t470 t474 (wrap64 (x6_1 + 1)) t467) else (if x6_1 < (t467.length : Int) then (if ((rd_T51 t467 x6_1).f0) = 1 then (laws_FnMakesParts.l0 kj36 t470 t474 (wrap64 (x6_1 + 1)) t467) else (if ((rd_T51 t467 x6_1).f0) = 8 then (laws_FnMakesParts.l0 kj36 t470 t474 (wrap64 (x6_1 + 1)) t467) else (some false))) else (none))))) else (laws_FnMakesParts.l0 kj36 t470 t474 (wrap64 (x6_1 + 1)) t467)) else (none)) else (none)) = some r := by rw [if_neg (show ¬ (false = true) by decide)] at H; exact H
               clear H
               have H := H1
               clear H1
               by_cases c49 : 0 ≤ x6_1
               ·rw [if_pos c49] at H
                have c49b0 : decide (0 ≤ x6_1) = true := decide_eq_true c49
                clear c49
                by_cases c50 : x6_1 < (t474.length : Int)
                ·rw [if_pos c50] at H
                 have c50b0 : decide (x6_1 < (t474.length : Int)) = true := decide_eq_true c50
                 clear c50
                 obtain ⟨bq51, hbq51⟩ : ∃ b_ : Bool, b_ = (rdOf false t474 x6_1) := ⟨_, rfl⟩
                 replace H : (if bq51 = true then (if x8_2 = true then (laws_FnMakesParts.l0 kj36 t470 t474 (wrap64 (x6_1 + 1)) t467) else ((impl_KnowHas.f kj36 t470 x6_1).bind fun t494 => (if t494 = true then (laws_FnMakesParts.l0 kj36 t470 t474 (wrap64 (x6_1 + 1)) t467) else (if x6_1 < (t467.length : Int) then (if ((rd_T51 t467 x6_1).f0) = 1 then (laws_FnMakesParts.l0 kj36 t470 t474 (wrap64 (x6_1 + 1)) t467) else (if ((rd_T51 t467 x6_1).f0) = 8 then (laws_FnMakesParts.l0 kj36 t470 t474 (wrap64 (x6_1 + 1)) t467) else (some false))) else (none))))) else (laws_FnMakesParts.l0 kj36 t470 t474 (wrap64 (x6_1 + 1)) t467)) = some r := by rw [← hbq51] at H; exact H
                 have Nbq51 := Aside0.mk hbq51
                 clear hbq51
                 by_cases c52 : bq51 = true
                 ·subst c52
                  have H1 : (if x8_2 = true then (laws_FnMakesParts.l0 kj36 t470 t474 (wrap64 (x6_1 + 1)) t467) else ((impl_KnowHas.f kj36 t470 x6_1).bind fun t494 => (if t494 = true then (laws_FnMakesParts.l0 kj36 t470 t474 (wrap64 (x6_1 + 1)) t467) else (if x6_1 < (t467.length : Int) then (if ((rd_T51 t467 x6_1).f0) = 1 then (laws_FnMakesParts.l0 kj36 t470 t474 (wrap64 (x6_1 + 1)) t467) else (if ((rd_T51 t467 x6_1).f0) = 8 then (laws_FnMakesParts.l0 kj36 t470 t474 (wrap64 (x6_1 + 1)) t467) else (some false))) else (none))))) = some r := by rw [if_pos rfl] at H; exact H
                  clear H
                  have H := H1
                  clear H1
                  by_cases c53 : x8_2 = true
                  ·subst c53
                   have H1 : (laws_FnMakesParts.l0 kj36 t470 t474 (wrap64 (x6_1 + 1)) t467) = some r := by rw [if_pos rfl] at H; exact H
                   clear H
                   have H := H1
                   clear H1
                   have H' := Aside0.mk H
                   clear H
                   have p493 : 0 ≤ (x6_1 : Int) := of_decide_eq_true (by first | (with_reducible assumption) | assumption)
                   have q493 : x6_1 < (t474.length : Int) := of_decide_eq_true (by first | (with_reducible assumption) | assumption)
                   obtain ⟨ad493, e493, hx493_0⟩ := Kd.at_bool (Kd.R_reads' HO_5.out).2.2 x6_1 p493 q493
                   (try rw [← Nbq51.out] at hx493_0)
                   cases e493
                   replace p493 := eq_true p493
                   replace q493 := eq_true q493
                   go_wp2
                   repeat (go_quiet (fail); try go_wp2)
                   go_roundg kj36
                   case measure => have := HK1.out; have := HK2.out; have := HJ27.out; have := HJ36.out; omega
                   case rel => exact ⟨(wrap64 (x6_1 + 1)), (by first | rfl | (simp; done) | (simp [*]; done)), H', ⟨by have := HK1.out; have := HK2.out; have := HJ27.out; have := HJ36.out; omega⟩, ⟨zr HO_4.out⟩, ⟨zr HO_5.out⟩, ⟨zr HO_474000.out⟩, ⟨zh BK473.out⟩, ⟨zb HB.out⟩⟩
                  ·replace c53 := Bool.eq_false_iff.mpr c53
                   subst c53
                   have H1 : ((impl_KnowHas.f kj36 t470 x6_1).bind fun t494 => (if t494 = true then (laws_FnMakesParts.l0 kj36 t470 t474 (wrap64 (x6_1 + 1)) t467) else (if x6_1 < (t467.length : Int) then (if ((rd_T51 t467 x6_1).f0) = 1 then (laws_FnMakesParts.l0 kj36 t470 t474 (wrap64 (x6_1 + 1)) t467) else (if ((rd_T51 t467 x6_1).f0) = 8 then (laws_FnMakesParts.l0 kj36 t470 t474 (wrap64 (x6_1 + 1)) t467) else (some false))) else (none)))) = some r := by rw [if_neg (show ¬ (false = true) by decide)] at H; exact H
                   clear H
                   have H := H1
                   clear H1
                   replace H := Option.bind_eq_some_iff.mp H
                   obtain ⟨t494, A540, H⟩ := H
                   replace H : (if t494 = true then (laws_FnMakesParts.l0 kj36 t470 t474 (wrap64 (x6_1 + 1)) t467) else (if x6_1 < (t467.length : Int) then (if ((rd_T51 t467 x6_1).f0) = 1 then (laws_FnMakesParts.l0 kj36 t470 t474 (wrap64 (x6_1 + 1)) t467) else (if ((rd_T51 t467 x6_1).f0) = 8 then (laws_FnMakesParts.l0 kj36 t470 t474 (wrap64 (x6_1 + 1)) t467) else (some false))) else (none))) = some r := H
                   have A54 := Aside0.mk A540
                   clear A540
                   by_cases c55 : t494 = true
                   ·subst c55
                    have H1 : (laws_FnMakesParts.l0 kj36 t470 t474 (wrap64 (x6_1 + 1)) t467) = some r := by rw [if_pos rfl] at H; exact H
                    clear H
                    have H := H1
                    clear H1
                    have H' := Aside0.mk H
                    clear H
                    have p493 : 0 ≤ (x6_1 : Int) := of_decide_eq_true (by first | (with_reducible assumption) | assumption)
                    have q493 : x6_1 < (t474.length : Int) := of_decide_eq_true (by first | (with_reducible assumption) | assumption)
                    obtain ⟨ad493, e493, hx493_0⟩ := Kd.at_bool (Kd.R_reads' HO_5.out).2.2 x6_1 p493 q493
                    (try rw [← Nbq51.out] at hx493_0)
                    cases e493
                    replace p493 := eq_true p493
                    replace q493 := eq_true q493
                    go_wp2_with (first | (go_at_call 31; (with_reducible refine (impl_KnowHas.calls kj36 _ _ t470 x6_1 true _ ?side1 ?side2 A54.out).mono ?_); (case side1 => exact zc (Kd.R_reads' HO_4.out).2.2); (case side2 => exact (Kd.R_reads' HO_4.out).2.1); rintro e w' ⟨rfl, ⟨nd, rfl⟩⟩; (try first | exact ⟨rfl, _, World.drewN_drewN _ _ _⟩ | exact ⟨rfl, _, Eq.trans (World.drewN_drewN _ _ _) (congrArg (World.drewN _) (Nat.add_assoc _ _ _))⟩)))
                    repeat (go_quiet (first | (go_at_call 31; (with_reducible refine (impl_KnowHas.calls kj36 _ _ t470 x6_1 true _ ?side1 ?side2 A54.out).mono ?_); (case side1 => exact zc (Kd.R_reads' HO_4.out).2.2); (case side2 => exact (Kd.R_reads' HO_4.out).2.1); rintro e w' ⟨rfl, ⟨nd, rfl⟩⟩; (try first | exact ⟨rfl, _, World.drewN_drewN _ _ _⟩ | exact ⟨rfl, _, Eq.trans (World.drewN_drewN _ _ _) (congrArg (World.drewN _) (Nat.add_assoc _ _ _))⟩))); try go_wp2_with (first | (go_at_call 31; (with_reducible refine (impl_KnowHas.calls kj36 _ _ t470 x6_1 true _ ?side1 ?side2 A54.out).mono ?_); (case side1 => exact zc (Kd.R_reads' HO_4.out).2.2); (case side2 => exact (Kd.R_reads' HO_4.out).2.1); rintro e w' ⟨rfl, ⟨nd, rfl⟩⟩; (try first | exact ⟨rfl, _, World.drewN_drewN _ _ _⟩ | exact ⟨rfl, _, Eq.trans (World.drewN_drewN _ _ _) (congrArg (World.drewN _) (Nat.add_assoc _ _ _))⟩))))
                    go_roundg kj36
                    case measure => have := HK1.out; have := HK2.out; have := HJ27.out; have := HJ36.out; omega
                    case rel => exact ⟨(wrap64 (x6_1 + 1)), (by first | rfl | (simp; done) | (simp [*]; done)), H', ⟨by have := HK1.out; have := HK2.out; have := HJ27.out; have := HJ36.out; omega⟩, ⟨zr HO_4.out⟩, ⟨zr HO_5.out⟩, ⟨zr HO_474000.out⟩, ⟨zh BK473.out⟩, ⟨zb HB.out⟩⟩
                   ·replace c55 := Bool.eq_false_iff.mpr c55
                    subst c55
                    have H1 : (if x6_1 < (t467.length : Int) then (if ((rd_T51 t467 x6_1).f0) = 1 then (laws_FnMakesParts.l0 kj36 t470 t474 (wrap64 (x6_1 + 1)) t467) else (if ((rd_T51 t467 x6_1).f0) = 8 then (laws_FnMakesParts.l0 kj36 t470 t474 (wrap64 (x6_1 + 1)) t467) else (some false))) else (none)) = some r := by rw [if_neg (show ¬ (false = true) by decide)] at H; exact H
                    clear H
                    have H := H1
                    clear H1
                    by_cases c56 : x6_1 < (t467.length : Int)
                    ·rw [if_pos c56] at H
                     have c56b0 : decide (x6_1 < (t467.length : Int)) = true := decide_eq_true c56
                     clear c56
                     by_cases c57 : ((rd_T51 t467 x6_1).f0) = 1
                     ·rw [if_pos c57] at H
                      have c57b0 : (((rd_T51 t467 x6_1).f0) == 1) = true := beq_iff_eq.mpr c57
                      have c57b1 : (((rd_T51 t467 x6_1).f0) != 1) = false := bne_eq_false_iff_eq.mpr c57
                      clear c57
                      have H' := Aside0.mk H
                      clear H
                      have p493 : 0 ≤ (x6_1 : Int) := of_decide_eq_true (by first | (with_reducible assumption) | assumption)
                      have q493 : x6_1 < (t474.length : Int) := of_decide_eq_true (by first | (with_reducible assumption) | assumption)
                      obtain ⟨ad493, e493, hx493_0⟩ := Kd.at_bool (Kd.R_reads' HO_5.out).2.2 x6_1 p493 q493
                      (try rw [← Nbq51.out] at hx493_0)
                      cases e493
                      replace p493 := eq_true p493
                      replace q493 := eq_true q493
                      go_wp2_with (first | (go_at_call 31; (with_reducible refine (impl_KnowHas.calls kj36 _ _ t470 x6_1 false _ ?side1 ?side2 A54.out).mono ?_); (case side1 => exact zc (Kd.R_reads' HO_4.out).2.2); (case side2 => exact (Kd.R_reads' HO_4.out).2.1); rintro e w' ⟨rfl, ⟨nd, rfl⟩⟩; (try first | exact ⟨rfl, _, World.drewN_drewN _ _ _⟩ | exact ⟨rfl, _, Eq.trans (World.drewN_drewN _ _ _) (congrArg (World.drewN _) (Nat.add_assoc _ _ _))⟩); have hcz58_0 : wc.cell? ⟨gb473, 0, none⟩ = some (.slice Ao10 t467.length co10) := (blk_cell BK473.out 0).trans rfl; have hfz58_0 := blk_frozen BK473.out 0; have p495 : 0 ≤ (x6_1 : Int) := of_decide_eq_true (by first | (with_reducible assumption) | assumption); have q495 : x6_1 < (t467.length : Int) := of_decide_eq_true (by first | (with_reducible assumption) | assumption); obtain ⟨ad495, e495, hx495_0, hx495_1, hx495_2⟩ := at_T51 (Kd.R_reads' HO_474000.out).2.2 x6_1 p495 q495; cases e495; replace p495 := eq_true p495; replace q495 := eq_true q495))
                      repeat (go_quiet (first | (go_at_call 31; (with_reducible refine (impl_KnowHas.calls kj36 _ _ t470 x6_1 false _ ?side1 ?side2 A54.out).mono ?_); (case side1 => exact zc (Kd.R_reads' HO_4.out).2.2); (case side2 => exact (Kd.R_reads' HO_4.out).2.1); rintro e w' ⟨rfl, ⟨nd, rfl⟩⟩; (try first | exact ⟨rfl, _, World.drewN_drewN _ _ _⟩ | exact ⟨rfl, _, Eq.trans (World.drewN_drewN _ _ _) (congrArg (World.drewN _) (Nat.add_assoc _ _ _))⟩); have hcz58_0 : wc.cell? ⟨gb473, 0, none⟩ = some (.slice Ao10 t467.length co10) := (blk_cell BK473.out 0).trans rfl; have hfz58_0 := blk_frozen BK473.out 0; have p495 : 0 ≤ (x6_1 : Int) := of_decide_eq_true (by first | (with_reducible assumption) | assumption); have q495 : x6_1 < (t467.length : Int) := of_decide_eq_true (by first | (with_reducible assumption) | assumption); obtain ⟨ad495, e495, hx495_0, hx495_1, hx495_2⟩ := at_T51 (Kd.R_reads' HO_474000.out).2.2 x6_1 p495 q495; cases e495; replace p495 := eq_true p495; replace q495 := eq_true q495)); try go_wp2_with (first | (go_at_call 31; (with_reducible refine (impl_KnowHas.calls kj36 _ _ t470 x6_1 false _ ?side1 ?side2 A54.out).mono ?_); (case side1 => exact zc (Kd.R_reads' HO_4.out).2.2); (case side2 => exact (Kd.R_reads' HO_4.out).2.1); rintro e w' ⟨rfl, ⟨nd, rfl⟩⟩; (try first | exact ⟨rfl, _, World.drewN_drewN _ _ _⟩ | exact ⟨rfl, _, Eq.trans (World.drewN_drewN _ _ _) (congrArg (World.drewN _) (Nat.add_assoc _ _ _))⟩); have hcz58_0 : wc.cell? ⟨gb473, 0, none⟩ = some (.slice Ao10 t467.length co10) := (blk_cell BK473.out 0).trans rfl; have hfz58_0 := blk_frozen BK473.out 0; have p495 : 0 ≤ (x6_1 : Int) := of_decide_eq_true (by first | (with_reducible assumption) | assumption); have q495 : x6_1 < (t467.length : Int) := of_decide_eq_true (by first | (with_reducible assumption) | assumption); obtain ⟨ad495, e495, hx495_0, hx495_1, hx495_2⟩ := at_T51 (Kd.R_reads' HO_474000.out).2.2 x6_1 p495 q495; cases e495; replace p495 := eq_true p495; replace q495 := eq_true q495)))
                      go_roundg kj36
                      case measure => have := HK1.out; have := HK2.out; have := HJ27.out; have := HJ36.out; omega
                      case rel => exact ⟨(wrap64 (x6_1 + 1)), (by first | rfl | (simp; done) | (simp [*]; done)), H', ⟨by have := HK1.out; have := HK2.out; have := HJ27.out; have := HJ36.out; omega⟩, ⟨zr HO_4.out⟩, ⟨zr HO_5.out⟩, ⟨zr HO_474000.out⟩, ⟨zh BK473.out⟩, ⟨zb HB.out⟩⟩
                     ·rw [if_neg c57] at H
                      have c57b0 : (((rd_T51 t467 x6_1).f0) == 1) = false := beq_eq_false_iff_ne.mpr c57
                      have c57b1 : (((rd_T51 t467 x6_1).f0) != 1) = true := bne_iff_ne.mpr c57
                      by_cases c59 : ((rd_T51 t467 x6_1).f0) = 8
                      ·rw [if_pos c59] at H
                       have c59b0 : (((rd_T51 t467 x6_1).f0) == 8) = true := beq_iff_eq.mpr c59
                       have c59b1 : (((rd_T51 t467 x6_1).f0) != 8) = false := bne_eq_false_iff_eq.mpr c59
                       clear c59
                       have H' := Aside0.mk H
                       clear H
                       have p493 : 0 ≤ (x6_1 : Int) := of_decide_eq_true (by first | (with_reducible assumption) | assumption)
                       have q493 : x6_1 < (t474.length : Int) := of_decide_eq_true (by first | (with_reducible assumption) | assumption)
                       obtain ⟨ad493, e493, hx493_0⟩ := Kd.at_bool (Kd.R_reads' HO_5.out).2.2 x6_1 p493 q493
                       (try rw [← Nbq51.out] at hx493_0)
                       cases e493
                       replace p493 := eq_true p493
                       replace q493 := eq_true q493
                       go_wp2_with (first | (go_at_call 31; (with_reducible refine (impl_KnowHas.calls kj36 _ _ t470 x6_1 false _ ?side1 ?side2 A54.out).mono ?_); (case side1 => exact zc (Kd.R_reads' HO_4.out).2.2); (case side2 => exact (Kd.R_reads' HO_4.out).2.1); rintro e w' ⟨rfl, ⟨nd, rfl⟩⟩; (try first | exact ⟨rfl, _, World.drewN_drewN _ _ _⟩ | exact ⟨rfl, _, Eq.trans (World.drewN_drewN _ _ _) (congrArg (World.drewN _) (Nat.add_assoc _ _ _))⟩); have hcz60_0 : wc.cell? ⟨gb473, 0, none⟩ = some (.slice Ao10 t467.length co10) := (blk_cell BK473.out 0).trans rfl; have hfz60_0 := blk_frozen BK473.out 0; have p495 : 0 ≤ (x6_1 : Int) := of_decide_eq_true (by first | (with_reducible assumption) | assumption); have q495 : x6_1 < (t467.length : Int) := of_decide_eq_true (by first | (with_reducible assumption) | assumption); obtain ⟨ad495, e495, hx495_0, hx495_1, hx495_2⟩ := at_T51 (Kd.R_reads' HO_474000.out).2.2 x6_1 p495 q495; cases e495; replace p495 := eq_true p495; replace q495 := eq_true q495; have p496 : 0 ≤ (x6_1 : Int) := of_decide_eq_true (by first | (with_reducible assumption) | assumption); have q496 : x6_1 < (t467.length : Int) := of_decide_eq_true (by first | (with_reducible assumption) | assumption); obtain ⟨ad496, e496, hx496_0, hx496_1, hx496_2⟩ := at_T51 (Kd.R_reads' HO_474000.out).2.2 x6_1 p496 q496; obtain rfl : ad495 = ad496 := (by injection e496); replace p496 := eq_true p496; replace q496 := eq_true q496))
                       repeat (go_quiet (first | (go_at_call 31; (with_reducible refine (impl_KnowHas.calls kj36 _ _ t470 x6_1 false _ ?side1 ?side2 A54.out).mono ?_); (case side1 => exact zc (Kd.R_reads' HO_4.out).2.2); (case side2 => exact (Kd.R_reads' HO_4.out).2.1); rintro e w' ⟨rfl, ⟨nd, rfl⟩⟩; (try first | exact ⟨rfl, _, World.drewN_drewN _ _ _⟩ | exact ⟨rfl, _, Eq.trans (World.drewN_drewN _ _ _) (congrArg (World.drewN _) (Nat.add_assoc _ _ _))⟩); have hcz60_0 : wc.cell? ⟨gb473, 0, none⟩ = some (.slice Ao10 t467.length co10) := (blk_cell BK473.out 0).trans rfl; have hfz60_0 := blk_frozen BK473.out 0; have p495 : 0 ≤ (x6_1 : Int) := of_decide_eq_true (by first | (with_reducible assumption) | assumption); have q495 : x6_1 < (t467.length : Int) := of_decide_eq_true (by first | (with_reducible assumption) | assumption); obtain ⟨ad495, e495, hx495_0, hx495_1, hx495_2⟩ := at_T51 (Kd.R_reads' HO_474000.out).2.2 x6_1 p495 q495; cases e495; replace p495 := eq_true p495; replace q495 := eq_true q495; have p496 : 0 ≤ (x6_1 : Int) := of_decide_eq_true (by first | (with_reducible assumption) | assumption); have q496 : x6_1 < (t467.length : Int) := of_decide_eq_true (by first | (with_reducible assumption) | assumption); obtain ⟨ad496, e496, hx496_0, hx496_1, hx496_2⟩ := at_T51 (Kd.R_reads' HO_474000.out).2.2 x6_1 p496 q496; obtain rfl : ad495 = ad496 := (by injection e496); replace p496 := eq_true p496; replace q496 := eq_true q496)); try go_wp2_with (first | (go_at_call 31; (with_reducible refine (impl_KnowHas.calls kj36 _ _ t470 x6_1 false _ ?side1 ?side2 A54.out).mono ?_); (case side1 => exact zc (Kd.R_reads' HO_4.out).2.2); (case side2 => exact (Kd.R_reads' HO_4.out).2.1); rintro e w' ⟨rfl, ⟨nd, rfl⟩⟩; (try first | exact ⟨rfl, _, World.drewN_drewN _ _ _⟩ | exact ⟨rfl, _, Eq.trans (World.drewN_drewN _ _ _) (congrArg (World.drewN _) (Nat.add_assoc _ _ _))⟩); have hcz60_0 : wc.cell? ⟨gb473, 0, none⟩ = some (.slice Ao10 t467.length co10) := (blk_cell BK473.out 0).trans rfl; have hfz60_0 := blk_frozen BK473.out 0; have p495 : 0 ≤ (x6_1 : Int) := of_decide_eq_true (by first | (with_reducible assumption) | assumption); have q495 : x6_1 < (t467.length : Int) := of_decide_eq_true (by first | (with_reducible assumption) | assumption); obtain ⟨ad495, e495, hx495_0, hx495_1, hx495_2⟩ := at_T51 (Kd.R_reads' HO_474000.out).2.2 x6_1 p495 q495; cases e495; replace p495 := eq_true p495; replace q495 := eq_true q495; have p496 : 0 ≤ (x6_1 : Int) := of_decide_eq_true (by first | (with_reducible assumption) | assumption); have q496 : x6_1 < (t467.length : Int) := of_decide_eq_true (by first | (with_reducible assumption) | assumption); obtain ⟨ad496, e496, hx496_0, hx496_1, hx496_2⟩ := at_T51 (Kd.R_reads' HO_474000.out).2.2 x6_1 p496 q496; obtain rfl : ad495 = ad496 := (by injection e496); replace p496 := eq_true p496; replace q496 := eq_true q496)))
                       go_roundg kj36
                       case measure => have := HK1.out; have := HK2.out; have := HJ27.out; have := HJ36.out; omega
                       case rel => exact ⟨(wrap64 (x6_1 + 1)), (by first | rfl | (simp; done) | (simp [*]; done)), H', ⟨by have := HK1.out; have := HK2.out; have := HJ27.out; have := HJ36.out; omega⟩, ⟨zr HO_4.out⟩, ⟨zr HO_5.out⟩, ⟨zr HO_474000.out⟩, ⟨zh BK473.out⟩, ⟨zb HB.out⟩⟩
                      ·rw [if_neg c59] at H
                       have c59b0 : (((rd_T51 t467 x6_1).f0) == 8) = false := beq_eq_false_iff_ne.mpr c59
                       have c59b1 : (((rd_T51 t467 x6_1).f0) != 8) = true := bne_iff_ne.mpr c59
                       obtain rfl := Option.some.inj H
                       have p493 : 0 ≤ (x6_1 : Int) := of_decide_eq_true (by first | (with_reducible assumption) | assumption)
                       have q493 : x6_1 < (t474.length : Int) := of_decide_eq_true (by first | (with_reducible assumption) | assumption)
                       obtain ⟨ad493, e493, hx493_0⟩ := Kd.at_bool (Kd.R_reads' HO_5.out).2.2 x6_1 p493 q493
                       (try rw [← Nbq51.out] at hx493_0)
                       cases e493
                       replace p493 := eq_true p493
                       replace q493 := eq_true q493
                       go_wp2_with (first | (go_at_call 31; (with_reducible refine (impl_KnowHas.calls kj36 _ _ t470 x6_1 false _ ?side1 ?side2 A54.out).mono ?_); (case side1 => exact zc (Kd.R_reads' HO_4.out).2.2); (case side2 => exact (Kd.R_reads' HO_4.out).2.1); rintro e w' ⟨rfl, ⟨nd, rfl⟩⟩; (try first | exact ⟨rfl, _, World.drewN_drewN _ _ _⟩ | exact ⟨rfl, _, Eq.trans (World.drewN_drewN _ _ _) (congrArg (World.drewN _) (Nat.add_assoc _ _ _))⟩); have hcz61_0 : wc.cell? ⟨gb473, 0, none⟩ = some (.slice Ao10 t467.length co10) := (blk_cell BK473.out 0).trans rfl; have hfz61_0 := blk_frozen BK473.out 0; have p495 : 0 ≤ (x6_1 : Int) := of_decide_eq_true (by first | (with_reducible assumption) | assumption); have q495 : x6_1 < (t467.length : Int) := of_decide_eq_true (by first | (with_reducible assumption) | assumption); obtain ⟨ad495, e495, hx495_0, hx495_1, hx495_2⟩ := at_T51 (Kd.R_reads' HO_474000.out).2.2 x6_1 p495 q495; cases e495; replace p495 := eq_true p495; replace q495 := eq_true q495; have p496 : 0 ≤ (x6_1 : Int) := of_decide_eq_true (by first | (with_reducible assumption) | assumption); have q496 : x6_1 < (t467.length : Int) := of_decide_eq_true (by first | (with_reducible assumption) | assumption); obtain ⟨ad496, e496, hx496_0, hx496_1, hx496_2⟩ := at_T51 (Kd.R_reads' HO_474000.out).2.2 x6_1 p496 q496; obtain rfl : ad495 = ad496 := (by injection e496); replace p496 := eq_true p496; replace q496 := eq_true q496))
                       repeat (go_quiet (first | (go_at_call 31; (with_reducible refine (impl_KnowHas.calls kj36 _ _ t470 x6_1 false _ ?side1 ?side2 A54.out).mono ?_); (case side1 => exact zc (Kd.R_reads' HO_4.out).2.2); (case side2 => exact (Kd.R_reads' HO_4.out).2.1); rintro e w' ⟨rfl, ⟨nd, rfl⟩⟩; (try first | exact ⟨rfl, _, World.drewN_drewN _ _ _⟩ | exact ⟨rfl, _, Eq.trans (World.drewN_drewN _ _ _) (congrArg (World.drewN _) (Nat.add_assoc _ _ _))⟩); have hcz61_0 : wc.cell? ⟨gb473, 0, none⟩ = some (.slice Ao10 t467.length co10) := (blk_cell BK473.out 0).trans rfl; have hfz61_0 := blk_frozen BK473.out 0; have p495 : 0 ≤ (x6_1 : Int) := of_decide_eq_true (by first | (with_reducible assumption) | assumption); have q495 : x6_1 < (t467.length : Int) := of_decide_eq_true (by first | (with_reducible assumption) | assumption); obtain ⟨ad495, e495, hx495_0, hx495_1, hx495_2⟩ := at_T51 (Kd.R_reads' HO_474000.out).2.2 x6_1 p495 q495; cases e495; replace p495 := eq_true p495; replace q495 := eq_true q495; have p496 : 0 ≤ (x6_1 : Int) := of_decide_eq_true (by first | (with_reducible assumption) | assumption); have q496 : x6_1 < (t467.length : Int) := of_decide_eq_true (by first | (with_reducible assumption) | assumption); obtain ⟨ad496, e496, hx496_0, hx496_1, hx496_2⟩ := at_T51 (Kd.R_reads' HO_474000.out).2.2 x6_1 p496 q496; obtain rfl : ad495 = ad496 := (by injection e496); replace p496 := eq_true p496; replace q496 := eq_true q496)); try go_wp2_with (first | (go_at_call 31; (with_reducible refine (impl_KnowHas.calls kj36 _ _ t470 x6_1 false _ ?side1 ?side2 A54.out).mono ?_); (case side1 => exact zc (Kd.R_reads' HO_4.out).2.2); (case side2 => exact (Kd.R_reads' HO_4.out).2.1); rintro e w' ⟨rfl, ⟨nd, rfl⟩⟩; (try first | exact ⟨rfl, _, World.drewN_drewN _ _ _⟩ | exact ⟨rfl, _, Eq.trans (World.drewN_drewN _ _ _) (congrArg (World.drewN _) (Nat.add_assoc _ _ _))⟩); have hcz61_0 : wc.cell? ⟨gb473, 0, none⟩ = some (.slice Ao10 t467.length co10) := (blk_cell BK473.out 0).trans rfl; have hfz61_0 := blk_frozen BK473.out 0; have p495 : 0 ≤ (x6_1 : Int) := of_decide_eq_true (by first | (with_reducible assumption) | assumption); have q495 : x6_1 < (t467.length : Int) := of_decide_eq_true (by first | (with_reducible assumption) | assumption); obtain ⟨ad495, e495, hx495_0, hx495_1, hx495_2⟩ := at_T51 (Kd.R_reads' HO_474000.out).2.2 x6_1 p495 q495; cases e495; replace p495 := eq_true p495; replace q495 := eq_true q495; have p496 : 0 ≤ (x6_1 : Int) := of_decide_eq_true (by first | (with_reducible assumption) | assumption); have q496 : x6_1 < (t467.length : Int) := of_decide_eq_true (by first | (with_reducible assumption) | assumption); obtain ⟨ad496, e496, hx496_0, hx496_1, hx496_2⟩ := at_T51 (Kd.R_reads' HO_474000.out).2.2 x6_1 p496 q496; obtain rfl : ad495 = ad496 := (by injection e496); replace p496 := eq_true p496; replace q496 := eq_true q496)))
                       go_ret
                       exact ⟨ze, zb HB.out⟩
                    ·rw [if_neg c56] at H
                     exact absurd H (by simp)
                 ·replace c52 := Bool.eq_false_iff.mpr c52
                  subst c52
                  have H1 : (laws_FnMakesParts.l0 kj36 t470 t474 (wrap64 (x6_1 + 1)) t467) = some r := by rw [if_neg (show ¬ (false = true) by decide)] at H; exact H
                  clear H
                  have H := H1
                  clear H1
                  have H' := Aside0.mk H
                  clear H
                  have p493 : 0 ≤ (x6_1 : Int) := of_decide_eq_true (by first | (with_reducible assumption) | assumption)
                  have q493 : x6_1 < (t474.length : Int) := of_decide_eq_true (by first | (with_reducible assumption) | assumption)
                  obtain ⟨ad493, e493, hx493_0⟩ := Kd.at_bool (Kd.R_reads' HO_5.out).2.2 x6_1 p493 q493
                  (try rw [← Nbq51.out] at hx493_0)
                  cases e493
                  replace p493 := eq_true p493
                  replace q493 := eq_true q493
                  go_wp2
                  repeat (go_quiet (fail); try go_wp2)
                  go_roundg kj36
                  case measure => have := HK1.out; have := HK2.out; have := HJ27.out; have := HJ36.out; omega
                  case rel => exact ⟨(wrap64 (x6_1 + 1)), (by first | rfl | (simp; done) | (simp [*]; done)), H', ⟨by have := HK1.out; have := HK2.out; have := HJ27.out; have := HJ36.out; omega⟩, ⟨zr HO_4.out⟩, ⟨zr HO_5.out⟩, ⟨zr HO_474000.out⟩, ⟨zh BK473.out⟩, ⟨zb HB.out⟩⟩
                ·rw [if_neg c50] at H
                 exact absurd H (by simp)
               ·rw [if_neg c49] at H
                exact absurd H (by simp)
     ·rw [if_neg c18] at H
      have c18b0 : decide (x6_1 < (t474.length : Int)) = false := decide_eq_false c18
      clear c18
      obtain rfl := Option.some.inj H
      go_wp2
      repeat (go_quiet (fail); try go_wp2)
      go_ret
      exact ⟨ze, zb HB.out⟩
  ·rw [if_neg c7] at H
   have c7b0 : ((t474.length : Int) == (t477.length : Int)) = false := beq_eq_false_iff_ne.mpr c7
   have c7b1 : ((t474.length : Int) != (t477.length : Int)) = true := bne_iff_ne.mpr c7
   have c7b2 : (t474.length == t477.length) = false := by first | simpa using c7 | (simp at c7 ⊢; omega)
   obtain rfl := Option.some.inj H
   go_enter Try.func6, Try.ntmps6
   go_wp2_with (first | (go_at_call 28; (with_reducible refine (laws_big.calls _ _ l0 false _ ?side1 ?side2 A2.out).mono ?_); (case side1 => exact zc HR0.out); (case side2 => exact HC0.out); rintro e w' ⟨rfl, ⟨nd, rfl⟩⟩; (try first | exact ⟨rfl, _, World.drewN_drewN _ _ _⟩ | exact ⟨rfl, _, Eq.trans (World.drewN_drewN _ _ _) (congrArg (World.drewN _) (Nat.add_assoc _ _ _))⟩)) | (go_at_call 29; (with_reducible refine (spec_DrawMakesAll.calls k _ _ l0 t467 t470 _ ?side1 ?side2 A4.out).mono ?_); (case side1 => exact zc HR0.out); (case side2 => exact HC0.out); rintro e w62 ⟨v468, v471, rfl, ho0, ho1, hb⟩; have n0_ := Aside0.mk (Kd.R_lower ho0 (below_size (zb HB.out))); have n1_ := Aside0.mk (Kd.R_lower ho1 (below_size (zb HB.out))); have n2_ := Aside0.mk (below_step (zb HB.out) hb); clear HB; have HO469 := n0_; have HO472 := n1_; have HB := n2_; clear n0_ n1_ n2_; (try clear hb); (try clear hb2); (try clear hk); (try clear hi); (try clear ho0); (try clear ho1)) | ((with_reducible refine gate_dst (N := 3) rfl ?_); refine box_event ?hg (N := 3) ?hd (cs := #[.slice none 0 0]) (t := 30) ?hr ?_; (case hd => rfl); (case hg => rfl); (case hr => first | (go_simp; done) | (go_simp; rfl)); intro gb473 hg w63 hbox hb; have n0_ := Aside0.mk (Kd.R_below (zr HO469.out) hb); have n1_ := Aside0.mk (Kd.R_below (zr HO472.out) hb); have n2_ := Aside0.mk (below_step (zb HB.out) hb); have n3_ := Aside0.mk (hbox); have n4_ := Aside0.mk ((by rw [hg]; exact (below_size (zb HB.out)) : w.heap.size ≤ gb473)); have n5_ := Aside0.mk ((by rw [hg]; exact (below_size (zb HB.out)) : w.heap.size ≤ gb473)); clear HO469; clear HO472; clear HB; have HO469 := n0_; have HO472 := n1_; have HB := n2_; have BK473 := n3_; have GW473 := n4_; have GE473 := n5_; clear n0_ n1_ n2_ n3_ n4_ n5_; clear hb hbox hg; obtain ⟨Ao64, co64, eo64⟩ := Kd.R_slice HO469.out; subst eo64; have hcz65_0 : w63.cell? ⟨gb473, 0, none⟩ = some (.slice none 0 0) := (blk_cell BK473.out 0).trans rfl; have hfz65_0 := blk_frozen BK473.out 0; obtain ⟨Ao66, co66, eo66⟩ := Kd.R_slice HO472.out; subst eo66) | (go_at_call 19; (with_reducible refine (impl_MakesAll.calls k _ _ t467 _ _ t470 t474 _ ?side1 ?side2 ?side3 ?side4 A5.out).mono ?_); (case side1 => refine (Kd.R_reads' (e := 51) (base := w.heap.size) (ok := fun k_ => True) (n := t467.length) (c := co64) ?_).2.2; exact (by (with_reducible repeat (first | apply Kd.R_alloc | apply Kd.R_drewN | apply Kd.R_drew)); exact (Kd.R_mono (Kd.R_far (p := ⟨gb473, 0, none⟩) (Kd.R_types HO469.out BK473.out (by decide)) (fun _ hk => hk.2) (.slice Ao64 t467.length co64)) (fun _ h_ => h_.1)))); (case side2 => exact (Kd.R_reads' HO469.out).2.1); (case side3 => refine (Kd.R_reads' (e := 3) (base := w.heap.size) (ok := fun k_ => True) (n := t470.length) (c := co66) ?_).2.2; exact (by (with_reducible repeat (first | apply Kd.R_alloc | apply Kd.R_drewN | apply Kd.R_drew)); exact (Kd.R_mono (Kd.R_far (p := ⟨gb473, 0, none⟩) (Kd.R_types HO472.out BK473.out (by decide)) (fun _ hk => hk.2) (.slice Ao64 t467.length co64)) (fun _ h_ => h_.1)))); (case side4 => exact (Kd.R_reads' HO472.out).2.1); rintro e w67 ⟨v475, rfl, ho0, hb⟩; have n0_ := Aside0.mk (Kd.R_below (by (with_reducible repeat (first | apply Kd.R_alloc | apply Kd.R_drewN | apply Kd.R_drew)); exact (Kd.R_mono (Kd.R_far (p := ⟨gb473, 0, none⟩) (Kd.R_types HO469.out BK473.out (by decide)) (fun _ hk => hk.2) (.slice Ao64 t467.length co64)) (fun _ h_ => h_.1))) hb); have n1_ := Aside0.mk (Kd.R_below (by (with_reducible repeat (first | apply Kd.R_alloc | apply Kd.R_drewN | apply Kd.R_drew)); exact (Kd.R_mono (Kd.R_far (p := ⟨gb473, 0, none⟩) (Kd.R_types HO472.out BK473.out (by decide)) (fun _ hk => hk.2) (.slice Ao64 t467.length co64)) (fun _ h_ => h_.1))) hb); have n2_ := Aside0.mk (Kd.R_lower ho0 (below_size (zb HB.out))); have n3_ := Aside0.mk (blk_below (g := gb473) (o := .cells #[.slice Ao64 t467.length co64] 30 (0, 0)) (by (with_reducible repeat (first | refine blk_drewN ?_ _ | refine blk_drew ?_ | refine blk_alloc ?_ _)); refine blk_put (cs := #[.slice none 0 0]) ?_ 0 _ rfl; (with_reducible repeat (first | refine blk_drewN ?_ _ | refine blk_drew ?_ | refine blk_alloc ?_ _)); exact BK473.out) hb); have n4_ := Aside0.mk (below_step (zb HB.out) hb); clear HO469; clear HO472; clear BK473; clear HB; have HO469 := n0_; have HO472 := n1_; have HO476 := n2_; have BK473 := n3_; have HB := n4_; clear n0_ n1_ n2_ n3_ n4_; (try clear hb); (try clear hb2); (try clear hk); (try clear hi); (try clear ho0); obtain ⟨Ao68, co68, eo68⟩ := Kd.R_slice HO476.out; subst eo68; have hcz69_0 : w67.cell? ⟨gb473, 0, none⟩ = some (.slice Ao64 t467.length co64) := (blk_cell BK473.out 0).trans rfl; have hfz69_0 := blk_frozen BK473.out 0) | (go_at_call 18; (with_reducible refine (spec_MakesAll.calls k _ _ t467 _ _ t470 t477 _ ?side1 ?side2 ?side3 ?side4 A6.out).mono ?_); (case side1 => exact zc (Kd.R_reads' HO469.out).2.2); (case side2 => exact (Kd.R_reads' HO469.out).2.1); (case side3 => exact zc (Kd.R_reads' HO472.out).2.2); (case side4 => exact (Kd.R_reads' HO472.out).2.1); rintro e w70 ⟨v478, rfl, ho0, hb⟩; have n0_ := Aside0.mk (Kd.R_below (zr HO469.out) hb); have n1_ := Aside0.mk (Kd.R_below (zr HO472.out) hb); have n2_ := Aside0.mk (Kd.R_elder' (zr HO476.out) (Kd.R_base ho0) hb); have n3_ := Aside0.mk (Kd.R_lower (Kd.R_new' ho0 (Kd.R_lt (zr HO476.out))) (below_size (zb HB.out))); have n4_ := Aside0.mk (blk_below (zh BK473.out) hb); have n5_ := Aside0.mk (below_step (zb HB.out) hb); clear HO469; clear HO472; clear HO476; clear BK473; clear HB; have HO469 := n0_; have HO472 := n1_; have HO476 := n2_; have HO479 := n3_; have BK473 := n4_; have HB := n5_; clear n0_ n1_ n2_ n3_ n4_ n5_; (try clear hb); (try clear hb2); (try clear hk); (try clear hi); (try clear ho0); obtain ⟨Ao71, co71, eo71⟩ := Kd.R_slice HO479.out; subst eo71))
   repeat (go_quiet (first | (go_at_call 28; (with_reducible refine (laws_big.calls _ _ l0 false _ ?side1 ?side2 A2.out).mono ?_); (case side1 => exact zc HR0.out); (case side2 => exact HC0.out); rintro e w' ⟨rfl, ⟨nd, rfl⟩⟩; (try first | exact ⟨rfl, _, World.drewN_drewN _ _ _⟩ | exact ⟨rfl, _, Eq.trans (World.drewN_drewN _ _ _) (congrArg (World.drewN _) (Nat.add_assoc _ _ _))⟩)) | (go_at_call 29; (with_reducible refine (spec_DrawMakesAll.calls k _ _ l0 t467 t470 _ ?side1 ?side2 A4.out).mono ?_); (case side1 => exact zc HR0.out); (case side2 => exact HC0.out); rintro e w62 ⟨v468, v471, rfl, ho0, ho1, hb⟩; have n0_ := Aside0.mk (Kd.R_lower ho0 (below_size (zb HB.out))); have n1_ := Aside0.mk (Kd.R_lower ho1 (below_size (zb HB.out))); have n2_ := Aside0.mk (below_step (zb HB.out) hb); clear HB; have HO469 := n0_; have HO472 := n1_; have HB := n2_; clear n0_ n1_ n2_; (try clear hb); (try clear hb2); (try clear hk); (try clear hi); (try clear ho0); (try clear ho1)) | ((with_reducible refine gate_dst (N := 3) rfl ?_); refine box_event ?hg (N := 3) ?hd (cs := #[.slice none 0 0]) (t := 30) ?hr ?_; (case hd => rfl); (case hg => rfl); (case hr => first | (go_simp; done) | (go_simp; rfl)); intro gb473 hg w63 hbox hb; have n0_ := Aside0.mk (Kd.R_below (zr HO469.out) hb); have n1_ := Aside0.mk (Kd.R_below (zr HO472.out) hb); have n2_ := Aside0.mk (below_step (zb HB.out) hb); have n3_ := Aside0.mk (hbox); have n4_ := Aside0.mk ((by rw [hg]; exact (below_size (zb HB.out)) : w.heap.size ≤ gb473)); have n5_ := Aside0.mk ((by rw [hg]; exact (below_size (zb HB.out)) : w.heap.size ≤ gb473)); clear HO469; clear HO472; clear HB; have HO469 := n0_; have HO472 := n1_; have HB := n2_; have BK473 := n3_; have GW473 := n4_; have GE473 := n5_; clear n0_ n1_ n2_ n3_ n4_ n5_; clear hb hbox hg; obtain ⟨Ao64, co64, eo64⟩ := Kd.R_slice HO469.out; subst eo64; have hcz65_0 : w63.cell? ⟨gb473, 0, none⟩ = some (.slice none 0 0) := (blk_cell BK473.out 0).trans rfl; have hfz65_0 := blk_frozen BK473.out 0; obtain ⟨Ao66, co66, eo66⟩ := Kd.R_slice HO472.out; subst eo66) | (go_at_call 19; (with_reducible refine (impl_MakesAll.calls k _ _ t467 _ _ t470 t474 _ ?side1 ?side2 ?side3 ?side4 A5.out).mono ?_); (case side1 => refine (Kd.R_reads' (e := 51) (base := w.heap.size) (ok := fun k_ => True) (n := t467.length) (c := co64) ?_).2.2; exact (by (with_reducible repeat (first | apply Kd.R_alloc | apply Kd.R_drewN | apply Kd.R_drew)); exact (Kd.R_mono (Kd.R_far (p := ⟨gb473, 0, none⟩) (Kd.R_types HO469.out BK473.out (by decide)) (fun _ hk => hk.2) (.slice Ao64 t467.length co64)) (fun _ h_ => h_.1)))); (case side2 => exact (Kd.R_reads' HO469.out).2.1); (case side3 => refine (Kd.R_reads' (e := 3) (base := w.heap.size) (ok := fun k_ => True) (n := t470.length) (c := co66) ?_).2.2; exact (by (with_reducible repeat (first | apply Kd.R_alloc | apply Kd.R_drewN | apply Kd.R_drew)); exact (Kd.R_mono (Kd.R_far (p := ⟨gb473, 0, none⟩) (Kd.R_types HO472.out BK473.out (by decide)) (fun _ hk => hk.2) (.slice Ao64 t467.length co64)) (fun _ h_ => h_.1)))); (case side4 => exact (Kd.R_reads' HO472.out).2.1); rintro e w67 ⟨v475, rfl, ho0, hb⟩; have n0_ := Aside0.mk (Kd.R_below (by (with_reducible repeat (first | apply Kd.R_alloc | apply Kd.R_drewN | apply Kd.R_drew)); exact (Kd.R_mono (Kd.R_far (p := ⟨gb473, 0, none⟩) (Kd.R_types HO469.out BK473.out (by decide)) (fun _ hk => hk.2) (.slice Ao64 t467.length co64)) (fun _ h_ => h_.1))) hb); have n1_ := Aside0.mk (Kd.R_below (by (with_reducible repeat (first | apply Kd.R_alloc | apply Kd.R_drewN | apply Kd.R_drew)); exact (Kd.R_mono (Kd.R_far (p := ⟨gb473, 0, none⟩) (Kd.R_types HO472.out BK473.out (by decide)) (fun _ hk => hk.2) (.slice Ao64 t467.length co64)) (fun _ h_ => h_.1))) hb); have n2_ := Aside0.mk (Kd.R_lower ho0 (below_size (zb HB.out))); have n3_ := Aside0.mk (blk_below (g := gb473) (o := .cells #[.slice Ao64 t467.length co64] 30 (0, 0)) (by (with_reducible repeat (first | refine blk_drewN ?_ _ | refine blk_drew ?_ | refine blk_alloc ?_ _)); refine blk_put (cs := #[.slice none 0 0]) ?_ 0 _ rfl; (with_reducible repeat (first | refine blk_drewN ?_ _ | refine blk_drew ?_ | refine blk_alloc ?_ _)); exact BK473.out) hb); have n4_ := Aside0.mk (below_step (zb HB.out) hb); clear HO469; clear HO472; clear BK473; clear HB; have HO469 := n0_; have HO472 := n1_; have HO476 := n2_; have BK473 := n3_; have HB := n4_; clear n0_ n1_ n2_ n3_ n4_; (try clear hb); (try clear hb2); (try clear hk); (try clear hi); (try clear ho0); obtain ⟨Ao68, co68, eo68⟩ := Kd.R_slice HO476.out; subst eo68; have hcz69_0 : w67.cell? ⟨gb473, 0, none⟩ = some (.slice Ao64 t467.length co64) := (blk_cell BK473.out 0).trans rfl; have hfz69_0 := blk_frozen BK473.out 0) | (go_at_call 18; (with_reducible refine (spec_MakesAll.calls k _ _ t467 _ _ t470 t477 _ ?side1 ?side2 ?side3 ?side4 A6.out).mono ?_); (case side1 => exact zc (Kd.R_reads' HO469.out).2.2); (case side2 => exact (Kd.R_reads' HO469.out).2.1); (case side3 => exact zc (Kd.R_reads' HO472.out).2.2); (case side4 => exact (Kd.R_reads' HO472.out).2.1); rintro e w70 ⟨v478, rfl, ho0, hb⟩; have n0_ := Aside0.mk (Kd.R_below (zr HO469.out) hb); have n1_ := Aside0.mk (Kd.R_below (zr HO472.out) hb); have n2_ := Aside0.mk (Kd.R_elder' (zr HO476.out) (Kd.R_base ho0) hb); have n3_ := Aside0.mk (Kd.R_lower (Kd.R_new' ho0 (Kd.R_lt (zr HO476.out))) (below_size (zb HB.out))); have n4_ := Aside0.mk (blk_below (zh BK473.out) hb); have n5_ := Aside0.mk (below_step (zb HB.out) hb); clear HO469; clear HO472; clear HO476; clear BK473; clear HB; have HO469 := n0_; have HO472 := n1_; have HO476 := n2_; have HO479 := n3_; have BK473 := n4_; have HB := n5_; clear n0_ n1_ n2_ n3_ n4_ n5_; (try clear hb); (try clear hb2); (try clear hk); (try clear hi); (try clear ho0); obtain ⟨Ao71, co71, eo71⟩ := Kd.R_slice HO479.out; subst eo71)); try go_wp2_with (first | (go_at_call 28; (with_reducible refine (laws_big.calls _ _ l0 false _ ?side1 ?side2 A2.out).mono ?_); (case side1 => exact zc HR0.out); (case side2 => exact HC0.out); rintro e w' ⟨rfl, ⟨nd, rfl⟩⟩; (try first | exact ⟨rfl, _, World.drewN_drewN _ _ _⟩ | exact ⟨rfl, _, Eq.trans (World.drewN_drewN _ _ _) (congrArg (World.drewN _) (Nat.add_assoc _ _ _))⟩)) | (go_at_call 29; (with_reducible refine (spec_DrawMakesAll.calls k _ _ l0 t467 t470 _ ?side1 ?side2 A4.out).mono ?_); (case side1 => exact zc HR0.out); (case side2 => exact HC0.out); rintro e w62 ⟨v468, v471, rfl, ho0, ho1, hb⟩; have n0_ := Aside0.mk (Kd.R_lower ho0 (below_size (zb HB.out))); have n1_ := Aside0.mk (Kd.R_lower ho1 (below_size (zb HB.out))); have n2_ := Aside0.mk (below_step (zb HB.out) hb); clear HB; have HO469 := n0_; have HO472 := n1_; have HB := n2_; clear n0_ n1_ n2_; (try clear hb); (try clear hb2); (try clear hk); (try clear hi); (try clear ho0); (try clear ho1)) | ((with_reducible refine gate_dst (N := 3) rfl ?_); refine box_event ?hg (N := 3) ?hd (cs := #[.slice none 0 0]) (t := 30) ?hr ?_; (case hd => rfl); (case hg => rfl); (case hr => first | (go_simp; done) | (go_simp; rfl)); intro gb473 hg w63 hbox hb; have n0_ := Aside0.mk (Kd.R_below (zr HO469.out) hb); have n1_ := Aside0.mk (Kd.R_below (zr HO472.out) hb); have n2_ := Aside0.mk (below_step (zb HB.out) hb); have n3_ := Aside0.mk (hbox); have n4_ := Aside0.mk ((by rw [hg]; exact (below_size (zb HB.out)) : w.heap.size ≤ gb473)); have n5_ := Aside0.mk ((by rw [hg]; exact (below_size (zb HB.out)) : w.heap.size ≤ gb473)); clear HO469; clear HO472; clear HB; have HO469 := n0_; have HO472 := n1_; have HB := n2_; have BK473 := n3_; have GW473 := n4_; have GE473 := n5_; clear n0_ n1_ n2_ n3_ n4_ n5_; clear hb hbox hg; obtain ⟨Ao64, co64, eo64⟩ := Kd.R_slice HO469.out; subst eo64; have hcz65_0 : w63.cell? ⟨gb473, 0, none⟩ = some (.slice none 0 0) := (blk_cell BK473.out 0).trans rfl; have hfz65_0 := blk_frozen BK473.out 0; obtain ⟨Ao66, co66, eo66⟩ := Kd.R_slice HO472.out; subst eo66) | (go_at_call 19; (with_reducible refine (impl_MakesAll.calls k _ _ t467 _ _ t470 t474 _ ?side1 ?side2 ?side3 ?side4 A5.out).mono ?_); (case side1 => refine (Kd.R_reads' (e := 51) (base := w.heap.size) (ok := fun k_ => True) (n := t467.length) (c := co64) ?_).2.2; exact (by (with_reducible repeat (first | apply Kd.R_alloc | apply Kd.R_drewN | apply Kd.R_drew)); exact (Kd.R_mono (Kd.R_far (p := ⟨gb473, 0, none⟩) (Kd.R_types HO469.out BK473.out (by decide)) (fun _ hk => hk.2) (.slice Ao64 t467.length co64)) (fun _ h_ => h_.1)))); (case side2 => exact (Kd.R_reads' HO469.out).2.1); (case side3 => refine (Kd.R_reads' (e := 3) (base := w.heap.size) (ok := fun k_ => True) (n := t470.length) (c := co66) ?_).2.2; exact (by (with_reducible repeat (first | apply Kd.R_alloc | apply Kd.R_drewN | apply Kd.R_drew)); exact (Kd.R_mono (Kd.R_far (p := ⟨gb473, 0, none⟩) (Kd.R_types HO472.out BK473.out (by decide)) (fun _ hk => hk.2) (.slice Ao64 t467.length co64)) (fun _ h_ => h_.1)))); (case side4 => exact (Kd.R_reads' HO472.out).2.1); rintro e w67 ⟨v475, rfl, ho0, hb⟩; have n0_ := Aside0.mk (Kd.R_below (by (with_reducible repeat (first | apply Kd.R_alloc | apply Kd.R_drewN | apply Kd.R_drew)); exact (Kd.R_mono (Kd.R_far (p := ⟨gb473, 0, none⟩) (Kd.R_types HO469.out BK473.out (by decide)) (fun _ hk => hk.2) (.slice Ao64 t467.length co64)) (fun _ h_ => h_.1))) hb); have n1_ := Aside0.mk (Kd.R_below (by (with_reducible repeat (first | apply Kd.R_alloc | apply Kd.R_drewN | apply Kd.R_drew)); exact (Kd.R_mono (Kd.R_far (p := ⟨gb473, 0, none⟩) (Kd.R_types HO472.out BK473.out (by decide)) (fun _ hk => hk.2) (.slice Ao64 t467.length co64)) (fun _ h_ => h_.1))) hb); have n2_ := Aside0.mk (Kd.R_lower ho0 (below_size (zb HB.out))); have n3_ := Aside0.mk (blk_below (g := gb473) (o := .cells #[.slice Ao64 t467.length co64] 30 (0, 0)) (by (with_reducible repeat (first | refine blk_drewN ?_ _ | refine blk_drew ?_ | refine blk_alloc ?_ _)); refine blk_put (cs := #[.slice none 0 0]) ?_ 0 _ rfl; (with_reducible repeat (first | refine blk_drewN ?_ _ | refine blk_drew ?_ | refine blk_alloc ?_ _)); exact BK473.out) hb); have n4_ := Aside0.mk (below_step (zb HB.out) hb); clear HO469; clear HO472; clear BK473; clear HB; have HO469 := n0_; have HO472 := n1_; have HO476 := n2_; have BK473 := n3_; have HB := n4_; clear n0_ n1_ n2_ n3_ n4_; (try clear hb); (try clear hb2); (try clear hk); (try clear hi); (try clear ho0); obtain ⟨Ao68, co68, eo68⟩ := Kd.R_slice HO476.out; subst eo68; have hcz69_0 : w67.cell? ⟨gb473, 0, none⟩ = some (.slice Ao64 t467.length co64) := (blk_cell BK473.out 0).trans rfl; have hfz69_0 := blk_frozen BK473.out 0) | (go_at_call 18; (with_reducible refine (spec_MakesAll.calls k _ _ t467 _ _ t470 t477 _ ?side1 ?side2 ?side3 ?side4 A6.out).mono ?_); (case side1 => exact zc (Kd.R_reads' HO469.out).2.2); (case side2 => exact (Kd.R_reads' HO469.out).2.1); (case side3 => exact zc (Kd.R_reads' HO472.out).2.2); (case side4 => exact (Kd.R_reads' HO472.out).2.1); rintro e w70 ⟨v478, rfl, ho0, hb⟩; have n0_ := Aside0.mk (Kd.R_below (zr HO469.out) hb); have n1_ := Aside0.mk (Kd.R_below (zr HO472.out) hb); have n2_ := Aside0.mk (Kd.R_elder' (zr HO476.out) (Kd.R_base ho0) hb); have n3_ := Aside0.mk (Kd.R_lower (Kd.R_new' ho0 (Kd.R_lt (zr HO476.out))) (below_size (zb HB.out))); have n4_ := Aside0.mk (blk_below (zh BK473.out) hb); have n5_ := Aside0.mk (below_step (zb HB.out) hb); clear HO469; clear HO472; clear HO476; clear BK473; clear HB; have HO469 := n0_; have HO472 := n1_; have HO476 := n2_; have HO479 := n3_; have BK473 := n4_; have HB := n5_; clear n0_ n1_ n2_ n3_ n4_ n5_; (try clear hb); (try clear hb2); (try clear hk); (try clear hi); (try clear ho0); obtain ⟨Ao71, co71, eo71⟩ := Kd.R_slice HO479.out; subst eo71)))
   go_ret
   exact ⟨ze, zb HB.out⟩

def laws_FnMakesParts.Pure : Prop := ∀ (l0 : List Int), l0.length ≤ maxLen → l0.length * 1 ≤ 140737488351232 → (∀ x ∈ l0, (Lit.int .u8 x).wf = true) → ∃ k, laws_FnMakesParts.f k l0 = some true
theorem laws_FnMakesParts.walk (P : laws_FnMakesParts.Pure) (a0 : Option Addr) (len0 cap0 : Nat) (z0 : List Int) (w : World) (w0 : (a0 = none ∧ len0 = 0 ∧ cap0 = 0 ∧ z0 = []) ∨ ∃ x, a0 = some x ∧ len0 ≤ cap0 ∧ cap0 ≤ maxLen ∧ z0.length = cap0 ∧ (∀ i, i < z0.length → w.cell? (x.add i) = some (.int .u8 (z0.getD i 0))) ∧ ∀ n ∈ z0, (Lit.int .u8 n).wf = true) (y0 : len0 * 1 ≤ 140737488351232) :
  Calls Try.prog 6 #[.slice a0 len0 cap0] w fun e w' => e = .returned (.bool true) ∧ Below w.heap.size w w' := by
 obtain ⟨l0, rfl, hr0, hm0, hw0, hc0⟩ := ReadsInt.ofRowC w0
 obtain ⟨k, h⟩ := P l0 hm0 y0 hw0
 refine (laws_FnMakesParts.calls k _ _ l0 true w (Kd.C_of_reads (d := (0 : Int)) (h1 := fun _ => rfl) hr0) hc0 h).mono ?_
 rintro e w' ⟨rfl, hd⟩
 exact ⟨rfl, hd⟩

end Go.Proofs.Ytgohebghlgamiaa.P
end
