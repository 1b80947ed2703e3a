import Derived.Test.YtdgahpigcaejbaaZA0
import Derived.Test.YtdgahpigcaejbaaZAg0
import Derived.Test.YtdgahpigcaejbaaZAg3
import Derived.Test.YtdgahpigcaejbaaZAg5
section
-- Written by this session's program (wip/tools/gprint.py over the kit's print) out of the translation; Lean checks it.
namespace Go.Proofs.Ytdgahpigcaejbaa.A
open Go.RowKit Go.Proofs.YtdgahpigcaejbaaW.PrintWords Go.Proofs.YtdgahpigcaejbaaW.PrintLast Go.Proofs.YtdgahpigcaejbaaW.PrintMore
attribute [local go_sem] max2_int min2_int max_two min_two max_three min_three max_four min_four   -- for this text's walks alone
set_option linter.unusedVariables false
set_option linter.unusedSimpArgs false
set_option maxRecDepth 100000

/-! ### laws_FnExactTermNames: function 3 -/
def laws_FnExactTermNames.j0 : Nat → Int → List Int → List Int → Bool → List (S83) → Option (Bool)
 | 0, _, _, _, _, _ => none
 | k + 1, x1, x6, x8, x46, x256000 => if x46 = true then (some false) else ((laws_markIntS.f k x8 1).bind fun bt278 => ((laws_heldIntS.f k bt278.2 1).bind fun t280 => (if t280 < 0 then (some false) else (if t280 = bt278.1 then ((laws_toPool.f k x256000).bind fun t281 => ((impl_TermNames.f k t281 x1).bind fun t284 => ((laws_eqIntS.f k t284 x6).bind fun t287 => (if t287 = true then ((laws_heldIntS.f k bt278.2 1).bind fun t288 => (if t288 < 0 then (some false) else (if t288 = bt278.1 then (some true) else (some false)))) else (some false))))) else (some false)))))
def laws_FnExactTermNames.f (k : Nat) (l0_0 : List (S83)) (a1 : Int) : Option (Bool) := (laws_szPool.f l0_0 1048576).bind fun t256 => (if t256 < 0 then (some true) else ((laws_toPool.f k l0_0).bind fun t257 => ((spec_TermNames.f k t257 a1).bind fun t260 => ((laws_toPool.f k l0_0).bind fun t263 => ((impl_TermNames.f k t263 a1).bind fun t267 => ((laws_eqIntS.f k t267 t260).bind fun t270 => (if t270 = true then ((laws_toPool.f k l0_0).bind fun t271 => ((laws_eqPool.f k t263 t271).bind fun t274 => (if t274 = true then ((laws_markPool.f k t263 1).bind fun bt275 => (if bt275.1 < 0 then (laws_FnExactTermNames.j0 k a1 t260 t267 true l0_0) else ((laws_eqIntS.f k t267 t260).bind fun t277 => (laws_FnExactTermNames.j0 k a1 t260 t267 (!t277) l0_0)))) else (some false)))) else (some false))))))))
theorem laws_FnExactTermNames.mono_l : ∀ k, (∀ y0 y1 y2 y3 y4, LeO (laws_FnExactTermNames.j0 k y0 y1 y2 y3 y4) (laws_FnExactTermNames.j0 (k + 1) y0 y1 y2 y3 y4))
 | 0 => fun _ _ _ _ _ r h => by simp [laws_FnExactTermNames.j0] at h
 | k + 1 => by
  have ih0 := laws_FnExactTermNames.mono_l k
  ·intro y0 y1 y2 y3 y4
   unfold laws_FnExactTermNames.j0
   repeat' first
   | (with_reducible exact ih0 _ _ _ _ _)
   | (with_reducible exact impl_TermNames.mono _ _ _)
   | (with_reducible exact laws_eqIntS.mono _ _ _)
   | (with_reducible exact laws_eqPool.mono _ _ _)
   | (with_reducible exact laws_heldIntS.mono _ _ _)
   | (with_reducible exact laws_markIntS.mono _ _ _)
   | (with_reducible exact laws_markPool.mono _ _ _)
   | (with_reducible exact laws_toPool.mono _ _)
   | (with_reducible exact spec_TermNames.mono _ _ _)
   | (with_reducible exact LeO.refl _)
   | (with_reducible exact LeO.none _)
   | (with_reducible refine LeO.ite ?_ ?_)
   | (with_reducible refine LeO.bind ?_ (fun _ => ?_))
   | exact ih0 _ _ _ _ _
   | exact impl_TermNames.mono _ _ _
   | exact laws_eqIntS.mono _ _ _
   | exact laws_eqPool.mono _ _ _
   | exact laws_heldIntS.mono _ _ _
   | exact laws_markIntS.mono _ _ _
   | exact laws_markPool.mono _ _ _
   | exact laws_toPool.mono _ _
   | exact spec_TermNames.mono _ _ _
   | exact LeO.none _
   | refine LeO.ite ?_ ?_
   | refine LeO.bind ?_ (fun _ => ?_)
theorem laws_FnExactTermNames.mono : ∀ a0 a1 k, LeO (laws_FnExactTermNames.f k a0 a1) (laws_FnExactTermNames.f (k + 1) a0 a1) := by
 intro a0 a1 k
 have ih0 := laws_FnExactTermNames.mono_l k
 unfold laws_FnExactTermNames.f
 repeat' first
   | (with_reducible exact ih0 _ _ _ _ _)
   | (with_reducible exact impl_TermNames.mono _ _ _)
   | (with_reducible exact laws_eqIntS.mono _ _ _)
   | (with_reducible exact laws_eqPool.mono _ _ _)
   | (with_reducible exact laws_heldIntS.mono _ _ _)
   | (with_reducible exact laws_markIntS.mono _ _ _)
   | (with_reducible exact laws_markPool.mono _ _ _)
   | (with_reducible exact laws_toPool.mono _ _)
   | (with_reducible exact spec_TermNames.mono _ _ _)
   | (with_reducible exact LeO.refl _)
   | (with_reducible exact LeO.none _)
   | (with_reducible refine LeO.ite ?_ ?_)
   | (with_reducible refine LeO.bind ?_ (fun _ => ?_))
   | exact ih0 _ _ _ _ _
   | exact impl_TermNames.mono _ _ _
   | exact laws_eqIntS.mono _ _ _
   | exact laws_eqPool.mono _ _ _
   | exact laws_heldIntS.mono _ _ _
   | exact laws_markIntS.mono _ _ _
   | exact laws_markPool.mono _ _ _
   | exact laws_toPool.mono _ _
   | exact spec_TermNames.mono _ _ _
   | exact LeO.none _
   | refine LeO.ite ?_ ?_
   | refine LeO.bind ?_ (fun _ => ?_)
set_option maxHeartbeats 8000000 in
set_option maxRecDepth 100000 in
theorem laws_FnExactTermNames.calls (k : Nat) (A0_0 : Option Addr) (c0_0 : Nat) (l0_0 : List (S83)) (a1 : Int) (r : Bool) (w : World) (hr0_0 : Kd.C k83 w A0_0 l0_0.length l0_0) (hc0_0 : l0_0.length ≤ c0_0) (h : laws_FnExactTermNames.f k l0_0 a1 = some r) :
  Calls Try.prog 3 #[.agg #[.slice A0_0 l0_0.length c0_0], .int .i64 a1] w fun e w' => e = .returned (.bool r) ∧ Below w.heap.size w w' := by
 have hu24 := Try.underlying24
 have hu30 := Try.underlying30
 have HR0_0 := Aside0.mk hr0_0
 have HC0_0 := Aside0.mk hc0_0
 clear hr0_0 hc0_0
 have HB := Aside0.mk (Below.refl w.heap.size w)
 have H : ((laws_szPool.f l0_0 1048576).bind fun t256 => (if t256 < 0 then (some true) else ((laws_toPool.f k l0_0).bind fun t257 => ((spec_TermNames.f k t257 a1).bind fun t260 => ((laws_toPool.f k l0_0).bind fun t263 => ((impl_TermNames.f k t263 a1).bind fun t267 => ((laws_eqIntS.f k t267 t260).bind fun t270 => (if t270 = true then ((laws_toPool.f k l0_0).bind fun t271 => ((laws_eqPool.f k t263 t271).bind fun t274 => (if t274 = true then ((laws_markPool.f k t263 1).bind fun bt275 => (if bt275.1 < 0 then (laws_FnExactTermNames.j0 k a1 t260 t267 true l0_0) else ((laws_eqIntS.f k t267 t260).bind fun t277 => (laws_FnExactTermNames.j0 k a1 t260 t267 (!t277) l0_0)))) else (some false)))) else (some false))))))))) = some r := h
 clear h
 replace H := Option.bind_eq_some_iff.mp H
 obtain ⟨t256, A30, H⟩ := H
 replace H : (if t256 < 0 then (some true) else ((laws_toPool.f k l0_0).bind fun t257 => ((spec_TermNames.f k t257 a1).bind fun t260 => ((laws_toPool.f k l0_0).bind fun t263 => ((impl_TermNames.f k t263 a1).bind fun t267 => ((laws_eqIntS.f k t267 t260).bind fun t270 => (if t270 = true then ((laws_toPool.f k l0_0).bind fun t271 => ((laws_eqPool.f k t263 t271).bind fun t274 => (if t274 = true then ((laws_markPool.f k t263 1).bind fun bt275 => (if bt275.1 < 0 then (laws_FnExactTermNames.j0 k a1 t260 t267 true l0_0) else ((laws_eqIntS.f k t267 t260).bind fun t277 => (laws_FnExactTermNames.j0 k a1 t260 t267 (!t277) l0_0)))) else (some false)))) else (some false)))))))) = some r := H
 have A3 := Aside0.mk A30
 clear A30
 by_cases c4 : t256 < 0
 ·rw [if_pos c4] at H
  have c4b0 : decide (t256 < 0) = true := decide_eq_true c4
  clear c4
  obtain rfl := Option.some.inj H
  go_enter Try.func3, Try.ntmps3
  go_wp2_with (first | ((with_reducible refine gate_dst (N := 2) rfl ?_); refine box_event ?hg (N := 2) ?hd (cs := #[.slice A0_0 l0_0.length c0_0]) (t := 24) ?hr ?_; (case hd => rfl); (case hg => rfl); (case hr => first | (go_simp; done) | (go_simp; rfl)); intro gb255 hg w5 hbox hb; have n0_ := Aside0.mk (below_step (zb HB.out) hb); have n1_ := Aside0.mk (hbox); have n2_ := Aside0.mk ((by rw [hg]; exact (below_size (zb HB.out)) : w.heap.size ≤ gb255)); have n3_ := Aside0.mk ((by rw [hg]; exact (below_size (zb HB.out)) : w.heap.size ≤ gb255)); clear HB; have HB := n0_; have BK255 := n1_; have GW255 := n2_; have GE255 := n3_; clear n0_ n1_ n2_ n3_; clear hb hbox hg; have hcz6_0 : w5.cell? ⟨gb255, 0, none⟩ = some (.slice A0_0 l0_0.length c0_0) := (blk_cell BK255.out 0).trans rfl; have hfz6_0 := blk_frozen BK255.out 0) | ((with_reducible refine gate_callee (f := 9) rfl ?_); refine goesL_ (some 15) rfl rfl Try.func9 (by kernel_rfl) rfl #[.agg #[.slice A0_0 l0_0.length c0_0], .int .i64 1048576] rfl zl ?_; (with_reducible refine (laws_szPool.calls _ _ l0_0 1048576 t256 _ ?side1 ?side2 A3.out).mono ?_); (case side1 => exact zc (Kd.C_below HR0_0.out HB.out)); (case side2 => exact HC0_0.out); rintro e w7 ⟨rfl, hb⟩; refine ⟨_, rfl, ?_⟩; have n0_ := Aside0.mk (blk_below (zh BK255.out) hb); have n1_ := Aside0.mk (below_step (zb HB.out) hb); clear BK255; clear HB; have BK255 := n0_; have HB := n1_; clear n0_ n1_; (try clear hb); (try clear hb2); (try clear hk); (try clear hi)))
  go_ret
  exact ⟨ze, zb HB.out⟩
 ·rw [if_neg c4] at H
  have c4b0 : decide (t256 < 0) = false := decide_eq_false c4
  clear c4
  replace H := Option.bind_eq_some_iff.mp H
  obtain ⟨t257, A80, H⟩ := H
  replace H : ((spec_TermNames.f k t257 a1).bind fun t260 => ((laws_toPool.f k l0_0).bind fun t263 => ((impl_TermNames.f k t263 a1).bind fun t267 => ((laws_eqIntS.f k t267 t260).bind fun t270 => (if t270 = true then ((laws_toPool.f k l0_0).bind fun t271 => ((laws_eqPool.f k t263 t271).bind fun t274 => (if t274 = true then ((laws_markPool.f k t263 1).bind fun bt275 => (if bt275.1 < 0 then (laws_FnExactTermNames.j0 k a1 t260 t267 true l0_0) else ((laws_eqIntS.f k t267 t260).bind fun t277 => (laws_FnExactTermNames.j0 k a1 t260 t267 (!t277) l0_0)))) else (some false)))) else (some false)))))) = some r := H
  have A8 := Aside0.mk A80
  clear A80
  replace H := Option.bind_eq_some_iff.mp H
  obtain ⟨t260, A90, H⟩ := H
  replace H : ((laws_toPool.f k l0_0).bind fun t263 => ((impl_TermNames.f k t263 a1).bind fun t267 => ((laws_eqIntS.f k t267 t260).bind fun t270 => (if t270 = true then ((laws_toPool.f k l0_0).bind fun t271 => ((laws_eqPool.f k t263 t271).bind fun t274 => (if t274 = true then ((laws_markPool.f k t263 1).bind fun bt275 => (if bt275.1 < 0 then (laws_FnExactTermNames.j0 k a1 t260 t267 true l0_0) else ((laws_eqIntS.f k t267 t260).bind fun t277 => (laws_FnExactTermNames.j0 k a1 t260 t267 (!t277) l0_0)))) else (some false)))) else (some false))))) = some r := H
  have A9 := Aside0.mk A90
  clear A90
  replace H := Option.bind_eq_some_iff.mp H
  obtain ⟨t263, A100, H⟩ := H
  replace H : ((impl_TermNames.f k t263 a1).bind fun t267 => ((laws_eqIntS.f k t267 t260).bind fun t270 => (if t270 = true then ((laws_toPool.f k l0_0).bind fun t271 => ((laws_eqPool.f k t263 t271).bind fun t274 => (if t274 = true then ((laws_markPool.f k t263 1).bind fun bt275 => (if bt275.1 < 0 then (laws_FnExactTermNames.j0 k a1 t260 t267 true l0_0) else ((laws_eqIntS.f k t267 t260).bind fun t277 => (laws_FnExactTermNames.j0 k a1 t260 t267 (!t277) l0_0)))) else (some false)))) else (some false)))) = some r := H
  have A10 := Aside0.mk A100
  clear A100
  replace H := Option.bind_eq_some_iff.mp H
  obtain ⟨t267, A110, H⟩ := H
  replace H : ((laws_eqIntS.f k t267 t260).bind fun t270 => (if t270 = true then ((laws_toPool.f k l0_0).bind fun t271 => ((laws_eqPool.f k t263 t271).bind fun t274 => (if t274 = true then ((laws_markPool.f k t263 1).bind fun bt275 => (if bt275.1 < 0 then (laws_FnExactTermNames.j0 k a1 t260 t267 true l0_0) else ((laws_eqIntS.f k t267 t260).bind fun t277 => (laws_FnExactTermNames.j0 k a1 t260 t267 (!t277) l0_0)))) else (some false)))) else (some false))) = some r := H
  have A11 := Aside0.mk A110
  clear A110
  replace H := Option.bind_eq_some_iff.mp H
  obtain ⟨t270, A120, H⟩ := H
  replace H : (if t270 = true then ((laws_toPool.f k l0_0).bind fun t271 => ((laws_eqPool.f k t263 t271).bind fun t274 => (if t274 = true then ((laws_markPool.f k t263 1).bind fun bt275 => (if bt275.1 < 0 then (laws_FnExactTermNames.j0 k a1 t260 t267 true l0_0) else ((laws_eqIntS.f k t267 t260).bind fun t277 => (laws_FnExactTermNames.j0 k a1 t260 t267 (!t277) l0_0)))) else (some false)))) else (some false)) = some r := H
  have A12 := Aside0.mk A120
  clear A120
  by_cases c13 : t270 = true
  ·subst c13
   have H1 : ((laws_toPool.f k l0_0).bind fun t271 => ((laws_eqPool.f k t263 t271).bind fun t274 => (if t274 = true then ((laws_markPool.f k t263 1).bind fun bt275 => (if bt275.1 < 0 then (laws_FnExactTermNames.j0 k a1 t260 t267 true l0_0) else ((laws_eqIntS.f k t267 t260).bind fun t277 => (laws_FnExactTermNames.j0 k a1 t260 t267 (!t277) l0_0)))) else (some false)))) = some r := by rw [if_pos rfl] at H; exact H
   clear H
   have H := H1
   clear H1
   replace H := Option.bind_eq_some_iff.mp H
   obtain ⟨t271, A140, H⟩ := H
   replace H : ((laws_eqPool.f k t263 t271).bind fun t274 => (if t274 = true then ((laws_markPool.f k t263 1).bind fun bt275 => (if bt275.1 < 0 then (laws_FnExactTermNames.j0 k a1 t260 t267 true l0_0) else ((laws_eqIntS.f k t267 t260).bind fun t277 => (laws_FnExactTermNames.j0 k a1 t260 t267 (!t277) l0_0)))) else (some false))) = some r := H
   have A14 := Aside0.mk A140
   clear A140
   replace H := Option.bind_eq_some_iff.mp H
   obtain ⟨t274, A150, H⟩ := H
   replace H : (if t274 = true then ((laws_markPool.f k t263 1).bind fun bt275 => (if bt275.1 < 0 then (laws_FnExactTermNames.j0 k a1 t260 t267 true l0_0) else ((laws_eqIntS.f k t267 t260).bind fun t277 => (laws_FnExactTermNames.j0 k a1 t260 t267 (!t277) l0_0)))) else (some false)) = some r := H
   have A15 := Aside0.mk A150
   clear A150
   by_cases c16 : t274 = true
   ·subst c16
    have H1 : ((laws_markPool.f k t263 1).bind fun bt275 => (if bt275.1 < 0 then (laws_FnExactTermNames.j0 k a1 t260 t267 true l0_0) else ((laws_eqIntS.f k t267 t260).bind fun t277 => (laws_FnExactTermNames.j0 k a1 t260 t267 (!t277) l0_0)))) = some r := by rw [if_pos rfl] at H; exact H
    clear H
    have H := H1
    clear H1
    replace H := Option.bind_eq_some_iff.mp H
    obtain ⟨⟨t275, t276⟩, A170, H⟩ := H
    replace H : (if t275 < 0 then (laws_FnExactTermNames.j0 k a1 t260 t267 true l0_0) else ((laws_eqIntS.f k t267 t260).bind fun t277 => (laws_FnExactTermNames.j0 k a1 t260 t267 (!t277) l0_0))) = some r := H
    have A17 := Aside0.mk A170
    clear A170
    have HC18 := Aside0.mk H
    clear H
    go_enter Try.func3, Try.ntmps3
    try go_wp2_with (first | ((with_reducible refine gate_dst (N := 2) rfl ?_); refine box_event ?hg (N := 2) ?hd (cs := #[.slice A0_0 l0_0.length c0_0]) (t := 24) ?hr ?_; (case hd => rfl); (case hg => rfl); (case hr => first | (go_simp; done) | (go_simp; rfl)); intro gb255 hg w19 hbox hb; have n0_ := Aside0.mk (below_step (zb HB.out) hb); have n1_ := Aside0.mk (hbox); have n2_ := Aside0.mk ((by rw [hg]; exact (below_size (zb HB.out)) : w.heap.size ≤ gb255)); have n3_ := Aside0.mk ((by rw [hg]; exact (below_size (zb HB.out)) : w.heap.size ≤ gb255)); clear HB; have HB := n0_; have BK255 := n1_; have GW255 := n2_; have GE255 := n3_; clear n0_ n1_ n2_ n3_; clear hb hbox hg; have hcz20_0 : w19.cell? ⟨gb255, 0, none⟩ = some (.slice A0_0 l0_0.length c0_0) := (blk_cell BK255.out 0).trans rfl; have hfz20_0 := blk_frozen BK255.out 0) | ((with_reducible refine gate_callee (f := 9) rfl ?_); refine goesL_ (some 15) rfl rfl Try.func9 (by kernel_rfl) rfl #[.agg #[.slice A0_0 l0_0.length c0_0], .int .i64 1048576] rfl zl ?_; (with_reducible refine (laws_szPool.calls _ _ l0_0 1048576 t256 _ ?side1 ?side2 A3.out).mono ?_); (case side1 => exact zc (Kd.C_below HR0_0.out HB.out)); (case side2 => exact HC0_0.out); rintro e w21 ⟨rfl, hb⟩; refine ⟨_, rfl, ?_⟩; have n0_ := Aside0.mk (blk_below (zh BK255.out) hb); have n1_ := Aside0.mk (below_step (zb HB.out) hb); clear BK255; clear HB; have BK255 := n0_; have HB := n1_; clear n0_ n1_; (try clear hb); (try clear hb2); (try clear hk); (try clear hi); have hcz22_0 : w21.cell? ⟨gb255, 0, none⟩ = some (.slice A0_0 l0_0.length c0_0) := (blk_cell BK255.out 0).trans rfl; have hfz22_0 := blk_frozen BK255.out 0) | ((with_reducible refine gate_callee (f := 11) rfl ?_); refine goesL_ (some 19) rfl rfl Try.func11 (by kernel_rfl) rfl #[.agg #[.slice A0_0 l0_0.length c0_0]] rfl zl ?_; (with_reducible refine (laws_toPool.calls k _ _ l0_0 t257 _ ?side1 ?side2 A8.out).mono ?_); (case side1 => exact zc (Kd.C_below HR0_0.out HB.out)); (case side2 => exact HC0_0.out); rintro e w23 ⟨v258, rfl, ho0, hb⟩; refine ⟨_, rfl, ?_⟩; have n0_ := Aside0.mk (Kd.R_lower ho0 (below_size (zb HB.out))); have n1_ := Aside0.mk (blk_below (zh BK255.out) hb); have n2_ := Aside0.mk (below_step (zb HB.out) hb); clear BK255; clear HB; have HO259 := n0_; have BK255 := n1_; have HB := n2_; clear n0_ n1_ n2_; (try clear hb); (try clear hb2); (try clear hk); (try clear hi); (try clear ho0); obtain ⟨Ao24, co24, eo24⟩ := Kd.R_slice HO259.out; subst eo24) | ((with_reducible refine gate_callee (f := 10) rfl ?_); refine goesL_ (some 21) rfl rfl Try.func10 (by kernel_rfl) rfl #[.agg #[.slice Ao24 t257.length co24], .int .i64 a1] rfl zl ?_; (with_reducible refine (spec_TermNames.calls k _ _ t257 a1 t260 _ ?side1 ?side2 A9.out).mono ?_); (case side1 => exact zc (Kd.R_reads' HO259.out).2.2); (case side2 => exact (Kd.R_reads' HO259.out).2.1); rintro e w25 ⟨v261, rfl, ho0, hb⟩; refine ⟨_, rfl, ?_⟩; have n0_ := Aside0.mk (Kd.R_below (zr HO259.out) hb); have n1_ := Aside0.mk (Kd.R_lower ho0 (below_size (zb HB.out))); have n2_ := Aside0.mk (blk_below (zh BK255.out) hb); have n3_ := Aside0.mk (below_step (zb HB.out) hb); clear HO259; clear BK255; clear HB; have HO259 := n0_; have HO262 := n1_; have BK255 := n2_; have HB := n3_; clear n0_ n1_ n2_ n3_; (try clear hb); (try clear hb2); (try clear hk); (try clear hi); (try clear ho0); have hcz26_0 : w25.cell? ⟨gb255, 0, none⟩ = some (.slice A0_0 l0_0.length c0_0) := (blk_cell BK255.out 0).trans rfl; have hfz26_0 := blk_frozen BK255.out 0) | ((with_reducible refine gate_callee (f := 11) rfl ?_); refine goesL_ (some 23) rfl rfl Try.func11 (by kernel_rfl) rfl #[.agg #[.slice A0_0 l0_0.length c0_0]] rfl zl ?_; (with_reducible refine (laws_toPool.calls k _ _ l0_0 t263 _ ?side1 ?side2 A10.out).mono ?_); (case side1 => exact zc (Kd.C_below HR0_0.out HB.out)); (case side2 => exact HC0_0.out); rintro e w27 ⟨v264, rfl, ho0, hb⟩; refine ⟨_, rfl, ?_⟩; have n0_ := Aside0.mk (Kd.R_elder' (zr HO259.out) (Kd.R_base ho0) hb); have n1_ := Aside0.mk (Kd.R_below (zr HO262.out) hb); have n2_ := Aside0.mk (Kd.R_lower (Kd.R_new' ho0 (Kd.R_lt (zr HO259.out))) (below_size (zb HB.out))); have n3_ := Aside0.mk (blk_below (zh BK255.out) hb); have n4_ := Aside0.mk (below_step (zb HB.out) hb); clear HO259; clear HO262; clear BK255; clear HB; have HO259 := n0_; have HO262 := n1_; have HO265 := n2_; have BK255 := n3_; have HB := n4_; clear n0_ n1_ n2_ n3_ n4_; (try clear hb); (try clear hb2); (try clear hk); (try clear hi); (try clear ho0)) | ((with_reducible refine gate_dst (N := 7) rfl ?_); refine box_event ?hg (N := 7) ?hd (cs := #[.slice none 0 0]) (t := 30) ?hr ?_; (case hd => rfl); (case hg => rfl); (case hr => first | (go_simp; done) | (go_simp; rfl)); intro gb266 hg w28 hbox hb; have n0_ := Aside0.mk (Kd.R_below (zr HO259.out) hb); have n1_ := Aside0.mk (Kd.R_below (zr HO262.out) hb); have n2_ := Aside0.mk (Kd.R_below (zr HO265.out) hb); have n3_ := Aside0.mk (blk_below (zh BK255.out) hb); have n4_ := Aside0.mk (below_step (zb HB.out) hb); have n5_ := Aside0.mk (hbox); have n6_ := Aside0.mk ((by rw [hg]; exact (below_size (zb HB.out)) : w.heap.size ≤ gb266)); have n7_ := Aside0.mk ((by rw [hg]; exact (below_size (zb HB.out)) : w.heap.size ≤ gb266)); have n8_ := Aside0.mk ((by rw [hg]; exact Nat.ne_of_lt (blk_lt (zh BK255.out)) : gb255 ≠ gb266)); have n9_ := Aside0.mk ((by rw [hg]; exact Nat.ne_of_gt (blk_lt (zh BK255.out)) : gb266 ≠ gb255)); clear HO259; clear HO262; clear HO265; clear BK255; clear HB; have HO259 := n0_; have HO262 := n1_; have HO265 := n2_; have BK255 := n3_; have HB := n4_; have BK266 := n5_; have GW266 := n6_; have GE266 := n7_; have NB255_266 := n8_; have NB266_255 := n9_; clear n0_ n1_ n2_ n3_ n4_ n5_ n6_ n7_ n8_ n9_; clear hb hbox hg; obtain ⟨Ao29, co29, eo29⟩ := Kd.R_slice HO265.out; subst eo29; have hnb30 := NB266_255.out; have hnc30 := NB255_266.out; have hcz31_0 : w28.cell? ⟨gb266, 0, none⟩ = some (.slice none 0 0) := (blk_cell BK266.out 0).trans rfl; have hfz31_0 := blk_frozen BK266.out 0) | ((with_reducible refine gate_callee (f := 12) rfl ?_); refine goesL_ (some 26) rfl rfl Try.func12 (by kernel_rfl) rfl #[.agg #[.slice Ao29 t263.length co29], .int .i64 a1] rfl zl ?_; (with_reducible refine (impl_TermNames.calls k _ _ t263 a1 t267 _ ?side1 ?side2 A11.out).mono ?_); (case side1 => refine (Kd.R_reads' (e := 44) (base := w.heap.size) (ok := fun k_ => (True ∧ some k_ ≠ (.slice Ao24 t257.length co24 : Value).ownBlock)) (n := t263.length) (c := co29) ?_).2.2; exact (by (with_reducible repeat (first | apply Kd.R_alloc | apply Kd.R_drewN | apply Kd.R_drew)); exact (Kd.R_mono (Kd.R_far (p := ⟨gb266, 0, none⟩) (Kd.R_types HO265.out BK266.out (by decide)) (fun _ hk => hk.2) (.slice Ao29 t263.length co29)) (fun _ h_ => h_.1)))); (case side2 => exact (Kd.R_reads' HO265.out).2.1); rintro e w32 ⟨v268, rfl, ho0, hb⟩; refine ⟨_, rfl, ?_⟩; have n0_ := Aside0.mk (Kd.R_below (by (with_reducible repeat (first | apply Kd.R_alloc | apply Kd.R_drewN | apply Kd.R_drew)); exact (Kd.R_mono (Kd.R_far (p := ⟨gb266, 0, none⟩) (Kd.R_types HO259.out BK266.out (by decide)) (fun _ hk => hk.2) (.slice Ao29 t263.length co29)) (fun _ h_ => h_.1))) hb); have n1_ := Aside0.mk (Kd.R_elder' (by (with_reducible repeat (first | apply Kd.R_alloc | apply Kd.R_drewN | apply Kd.R_drew)); exact (Kd.R_mono (Kd.R_far (p := ⟨gb266, 0, none⟩) (Kd.R_types HO262.out BK266.out (by decide)) (fun _ hk => hk.2) (.slice Ao29 t263.length co29)) (fun _ h_ => h_.1))) (Kd.R_base ho0) hb); have n2_ := Aside0.mk (Kd.R_below (by (with_reducible repeat (first | apply Kd.R_alloc | apply Kd.R_drewN | apply Kd.R_drew)); exact (Kd.R_mono (Kd.R_far (p := ⟨gb266, 0, none⟩) (Kd.R_types HO265.out BK266.out (by decide)) (fun _ hk => hk.2) (.slice Ao29 t263.length co29)) (fun _ h_ => h_.1))) hb); have n3_ := Aside0.mk (Kd.R_lower (Kd.R_new' ho0 (Kd.R_lt (by (with_reducible repeat (first | apply Kd.R_alloc | apply Kd.R_drewN | apply Kd.R_drew)); exact (Kd.R_mono (Kd.R_far (p := ⟨gb266, 0, none⟩) (Kd.R_types HO262.out BK266.out (by decide)) (fun _ hk => hk.2) (.slice Ao29 t263.length co29)) (fun _ h_ => h_.1))))) (below_size (zb HB.out))); have n4_ := Aside0.mk (blk_below (g := gb255) (o := .cells #[.slice A0_0 l0_0.length c0_0] 24 (0, 0)) (zf BK255.out) hb); have n5_ := Aside0.mk (blk_below (g := gb266) (o := .cells #[.slice Ao29 t263.length co29] 30 (0, 0)) (by (with_reducible repeat (first | refine blk_drewN ?_ _ | refine blk_drew ?_ | refine blk_alloc ?_ _)); refine blk_put (cs := #[.slice none 0 0]) ?_ 0 _ rfl; (with_reducible repeat (first | refine blk_drewN ?_ _ | refine blk_drew ?_ | refine blk_alloc ?_ _)); exact BK266.out) hb); have n6_ := Aside0.mk (below_step (zb HB.out) hb); clear HO259; clear HO262; clear HO265; clear BK255; clear BK266; clear HB; have HO259 := n0_; have HO262 := n1_; have HO265 := n2_; have HO269 := n3_; have BK255 := n4_; have BK266 := n5_; have HB := n6_; clear n0_ n1_ n2_ n3_ n4_ n5_ n6_; (try clear hb); (try clear hb2); (try clear hk); (try clear hi); (try clear ho0); obtain ⟨Ao33, co33, eo33⟩ := Kd.R_slice HO269.out; subst eo33; obtain ⟨Ao34, co34, eo34⟩ := Kd.R_slice HO262.out; subst eo34) | ((with_reducible refine gate_callee (f := 13) rfl ?_); refine goesL_ (some 29) rfl rfl Try.func13 (by kernel_rfl) rfl #[.slice Ao33 t267.length co33, .slice Ao34 t260.length co34] rfl zl ?_; (with_reducible refine (laws_eqIntS.calls k _ _ t267 _ _ t260 true _ ?side1 ?side2 ?side3 ?side4 A12.out).mono ?_); (case side1 => exact zc (Kd.R_reads' HO269.out).2.2); (case side2 => exact (Kd.R_reads' HO269.out).2.1); (case side3 => exact zc (Kd.R_reads' HO262.out).2.2); (case side4 => exact (Kd.R_reads' HO262.out).2.1); rintro e w' ⟨rfl, ⟨nd, rfl⟩⟩; refine ⟨_, rfl, ?_⟩))
    (try (rw [drewN_self w32]; generalize hq_ : World.drewN w32 _ = w32; have n0_ : Aside0 (Kd.R k44 44 w32 w.heap.size (fun k_ => some k_ ≠ (.slice Ao29 t263.length co29 : Value).ownBlock) (.slice Ao24 t257.length co24) t257) := ⟨by rw [← hq_]; exact (by (with_reducible repeat (first | apply Kd.R_alloc | apply Kd.R_drewN | apply Kd.R_drew)); exact Kd.R_mono HO259.out (fun _ hk => hk.2))⟩; have n1_ : Aside0 (Kd.R (Kd.int .i64) 3 w32 w.heap.size (fun k_ => some k_ ≠ (.slice Ao33 t267.length co33 : Value).ownBlock) (.slice Ao34 t260.length co34) t260) := ⟨by rw [← hq_]; exact (by (with_reducible repeat (first | apply Kd.R_alloc | apply Kd.R_drewN | apply Kd.R_drew)); exact Kd.R_mono HO262.out (fun _ hk => hk.2))⟩; have n2_ : Aside0 (Kd.R k44 44 w32 w.heap.size (fun k_ => some k_ ≠ (.slice Ao24 t257.length co24 : Value).ownBlock) (.slice Ao29 t263.length co29) t263) := ⟨by rw [← hq_]; exact (by (with_reducible repeat (first | apply Kd.R_alloc | apply Kd.R_drewN | apply Kd.R_drew)); exact Kd.R_mono HO265.out (fun _ hk => hk.2))⟩; have n3_ : Aside0 (Kd.R (Kd.int .i64) 3 w32 w.heap.size (fun k_ => some k_ ≠ (.slice Ao34 t260.length co34 : Value).ownBlock) (.slice Ao33 t267.length co33) t267) := ⟨by rw [← hq_]; exact (by (with_reducible repeat (first | apply Kd.R_alloc | apply Kd.R_drewN | apply Kd.R_drew)); exact Kd.R_mono HO269.out (fun _ hk => hk.2))⟩; have n4_ : Aside0 (w32.heap[gb255]? = some (.cells #[.slice A0_0 l0_0.length c0_0] 24 (0, 0))) := ⟨by rw [← hq_]; exact (zh BK255.out)⟩; have n5_ : Aside0 (w32.heap[gb266]? = some (.cells #[.slice Ao29 t263.length co29] 30 (0, 0))) := ⟨by rw [← hq_]; exact (zh BK266.out)⟩; have n6_ : Aside0 (Below w.heap.size w w32) := ⟨by rw [← hq_]; exact (zb HB.out)⟩; clear HO259 HO262 HO265 HO269 BK255 BK266 HB hq_; have HO259 := n0_; have HO262 := n1_; have HO265 := n2_; have HO269 := n3_; have BK255 := n4_; have BK266 := n5_; have HB := n6_; clear n0_ n1_ n2_ n3_ n4_ n5_ n6_))
    have n0_ := Aside0.mk (Kd.R_drew HO259.out)
    have n1_ := Aside0.mk (Kd.R_drew HO262.out)
    have n2_ := Aside0.mk (Kd.R_drew HO265.out)
    have n3_ := Aside0.mk (Kd.R_drew HO269.out)
    have n4_ := Aside0.mk (blk_drew BK255.out)
    have n5_ := Aside0.mk (blk_drew BK266.out)
    have n6_ := Aside0.mk (below_drew1 HB.out)
    clear HO259
    clear HO262
    clear HO265
    clear HO269
    clear BK255
    clear BK266
    clear HB
    have HO259 := n0_
    have HO262 := n1_
    have HO265 := n2_
    have HO269 := n3_
    have BK255 := n4_
    have BK266 := n5_
    have HB := n6_
    clear n0_ n1_ n2_ n3_ n4_ n5_ n6_
    refine start_ (n := 5) (S := fun w' => w'.cell? ⟨gb266, 0, none⟩ = some (.slice Ao29 t263.length co29) ∧ w'.cell? ⟨gb255, 0, none⟩ = some (.slice A0_0 l0_0.length c0_0)) (ds := []) #[false, false, false, false, false] (by kernel_rfl) rfl rfl ⟨(blk_cell BK266.out 0).trans rfl, (blk_cell BK255.out 0).trans rfl⟩ (fun hHeld => ?_)
    generalize w32.drew = w35 at HO259 HO262 HO265 HO269 BK255 BK266 HB hHeld ⊢
    refine take_ (i := 0) (N := some 31) (v := ?_) (a' := ?_) #[true, false, false, false, false] rfl rfl (by kernel_rfl) (fun _ _ _ h => h) (Or.inl ⟨by rfl, ?_⟩) hHeld ?_ ?_
    rotate_left
    ·rintro w' ⟨s0, s1⟩
     go_simp
     with_reducible rfl
    rotate_left
    ·simp only [Act.put, List.setIfInBounds_toArray, List.set_cons_zero, List.set_cons_succ, i64_w, i32_w]
     rfl
    refine take_ (i := 1) (N := some 32) (v := ?_) (a' := ?_) #[true, true, false, false, false] rfl rfl (by kernel_rfl) (fun _ _ _ h => h) (Or.inl ⟨by rfl, ?_⟩) hHeld ?_ ?_
    rotate_left
    ·rintro w' ⟨s0, s1⟩
     go_simp
     with_reducible rfl
    rotate_left
    ·simp only [Act.put, List.setIfInBounds_toArray, List.set_cons_zero, List.set_cons_succ, i64_w, i32_w]
     rfl
    refine one_ (i := 2) (N := some 33) #[true, true, true, false, false] rfl rfl (by kernel_rfl) (by decide) (fun K hK => ?_)
    refine goes_ Try.func11 (by kernel_rfl) rfl #[.agg #[.slice A0_0 l0_0.length c0_0]] (by rfl) rfl rfl zl ?_
    with_reducible refine (laws_toPool.calls k _ _ l0_0 t271 _ ?side1 ?side2 A14.out).mono ?_
    (case side1 => exact zc (Kd.C_below HR0_0.out HB.out))
    (case side2 => exact HC0_0.out)
    rintro e w36 ⟨v272, rfl, ho0, hb⟩
    refine ⟨_, rfl, ?_⟩
    have n0_ := Aside0.mk (Kd.R_elder' (zr HO259.out) (Kd.R_base ho0) hb)
    have n1_ := Aside0.mk (Kd.R_below (zr HO262.out) hb)
    have n2_ := Aside0.mk (Kd.R_elder' (zr HO265.out) (Kd.R_base ho0) hb)
    have n3_ := Aside0.mk (Kd.R_below (zr HO269.out) hb)
    have n4_ := Aside0.mk (Kd.R_lower (Kd.R_new' (Kd.R_new' ho0 (Kd.R_lt (zr HO259.out))) (Kd.R_lt (zr HO265.out))) (below_size (zb HB.out)))
    have n5_ := Aside0.mk (blk_below (zh BK255.out) hb)
    have n6_ := Aside0.mk (blk_below (zh BK266.out) hb)
    have n7_ := Aside0.mk (below_step (zb HB.out) hb)
    clear HO259
    clear HO262
    clear HO265
    clear HO269
    clear BK255
    clear BK266
    clear HB
    have HO259 := n0_
    have HO262 := n1_
    have HO265 := n2_
    have HO269 := n3_
    have HO273 := n4_
    have BK255 := n5_
    have BK266 := n6_
    have HB := n7_
    clear n0_ n1_ n2_ n3_ n4_ n5_ n6_ n7_
    (try clear hb)
    (try clear hb2)
    (try clear hk)
    (try clear hi)
    (try clear ho0)
    obtain ⟨Ao37, co37, eo37⟩ := Kd.R_slice HO273.out
    (first | subst eo37 | (injection eo37 with f1_ f2_ f3_; have f4_ := f1_.symm; have f5_ := f3_.symm; clear f1_ f2_ f3_; subst f4_; subst f5_))
    refine hK.out _ _ ⟨(blk_cell BK266.out 0).trans rfl, (blk_cell BK255.out 0).trans rfl⟩ (fun hHeld => ?_)
    clear hK K
    refine norm_ (a' := ?_) ?_ ?_
    rotate_left
    ·show Act.put _ (some 33) _ = _
     simp only [Act.put, List.setIfInBounds_toArray, List.set_cons_zero, List.set_cons_succ, i64_w, i32_w]
     rfl
    refine one_ (i := 3) (N := some 34) #[true, true, true, true, false] rfl rfl (by kernel_rfl) (by decide) (fun K hK => ?_)
    refine goes_ Try.func14 (by kernel_rfl) rfl #[.agg #[.slice Ao29 t263.length co29], .agg #[.slice Ao37 t271.length co37]] (by rfl) rfl rfl zl ?_
    with_reducible refine (laws_eqPool.calls k _ _ t263 _ _ t271 true _ ?side1 ?side2 ?side3 ?side4 A15.out).mono ?_
    (case side1 => exact zc (Kd.R_reads' HO265.out).2.2)
    (case side2 => exact (Kd.R_reads' HO265.out).2.1)
    (case side3 => exact zc (Kd.R_reads' HO273.out).2.2)
    (case side4 => exact (Kd.R_reads' HO273.out).2.1)
    rintro e w38 ⟨rfl, hb⟩
    refine ⟨_, rfl, ?_⟩
    have n0_ := Aside0.mk (Kd.R_below (zr HO259.out) hb)
    have n1_ := Aside0.mk (Kd.R_below (zr HO262.out) hb)
    have n2_ := Aside0.mk (Kd.R_below (zr HO265.out) hb)
    have n3_ := Aside0.mk (Kd.R_below (zr HO269.out) hb)
    have n4_ := Aside0.mk (Kd.R_below (zr HO273.out) hb)
    have n5_ := Aside0.mk (blk_below (zh BK255.out) hb)
    have n6_ := Aside0.mk (blk_below (zh BK266.out) hb)
    have n7_ := Aside0.mk (below_step (zb HB.out) hb)
    clear HO259
    clear HO262
    clear HO265
    clear HO269
    clear HO273
    clear BK255
    clear BK266
    clear HB
    have HO259 := n0_
    have HO262 := n1_
    have HO265 := n2_
    have HO269 := n3_
    have HO273 := n4_
    have BK255 := n5_
    have BK266 := n6_
    have HB := n7_
    clear n0_ n1_ n2_ n3_ n4_ n5_ n6_ n7_
    (try clear hb)
    (try clear hb2)
    (try clear hk)
    (try clear hi)
    refine hK.out _ _ ⟨(blk_cell BK266.out 0).trans rfl, (blk_cell BK255.out 0).trans rfl⟩ (fun hHeld => ?_)
    clear hK K
    refine norm_ (a' := ?_) ?_ ?_
    rotate_left
    ·show Act.put _ (some 34) _ = _
     simp only [Act.put, List.setIfInBounds_toArray, List.set_cons_zero, List.set_cons_succ, i64_w, i32_w]
     rfl
    refine pure_ (i := 4) (N := some 35) (v := ?_) (a' := ?_) #[true, true, true, true, true] rfl rfl (by kernel_rfl) (fun _ _ _ h => h) (Or.inl ⟨by rfl, ?_⟩) ?_ ?_
    rotate_left
    ·intro w'
     go_simp
     with_reducible rfl
    rotate_left
    ·simp only [Act.put, List.setIfInBounds_toArray, List.set_cons_zero, List.set_cons_succ, i64_w, i32_w]
     rfl
    refine done_ (by kernel_rfl) ?_
    have hcz39_0 : w38.cell? ⟨gb266, 0, none⟩ = some (.slice Ao29 t263.length co29) := (blk_cell BK266.out 0).trans rfl
    have hfz39_0 := blk_frozen BK266.out 0
    go_upto_region 14 with (first | ((with_reducible refine gate_callee (f := 15) rfl ?_); refine goesL_ (some 38) rfl rfl Try.func15 (by kernel_rfl) rfl #[.agg #[.slice Ao29 t263.length co29], .int .i64 1] rfl zl ?_; (with_reducible refine (laws_markPool.calls k (fun k_ => some k_ = (.slice Ao29 t263.length co29 : Value).ownBlock) (.slice Ao29 t263.length co29) t263 1 t275 t276 w _ ?side1 ?side2 A17.out).mono ?_); (case side1 => repeat (first | (with_reducible first | exact HB.out | apply below_alloc | apply pw_below_drewN | apply below_drew1 | refine below_set ?_ GE255.out | refine below_set ?_ GE266.out) | exact HB.out)); (case side2 => exact Kd.R_tight rfl HO265.out); rintro e w40 ⟨rfl, hy0, hb, hkp⟩; refine ⟨_, rfl, ?_⟩; have n0_ := Aside0.mk (blk_kept (zh BK255.out) hkp (fun hs_ => (fun e_ => (Kd.R_ne HO265.out BK255.out (by decide)) e_) hs_)); have n1_ := Aside0.mk (Kd.R_mono (ok' := fun k_ => some k_ ≠ (.slice Ao29 t263.length co29 : Value).ownBlock ∧ some k_ ≠ (.slice Ao37 t271.length co37 : Value).ownBlock) (Kd.R_keptB (HO259.out) hkp (fun k_ hk_ hs_ => by first | exact (hk_.1.2) hs_ | (revert hk_; simp only [and_imp]; intros; exact absurd hs_ (by assumption)))) (fun k_ hk_ => by first | exact ⟨hk_.1.1.2, hk_.1.2⟩ | (revert hk_; simp only [and_imp]; intros; and_intros <;> assumption))); have n2_ := Aside0.mk (Kd.R_mono (ok' := fun k_ => some k_ ≠ (.slice Ao33 t267.length co33 : Value).ownBlock) (Kd.R_keptB ((Kd.R_apart' HO262.out (Kd.R_typed HO265.out) (by decide))) hkp (fun k_ hk_ hs_ => by first | exact (hk_.2) hs_ | (revert hk_; simp only [and_imp]; intros; exact absurd hs_ (by assumption)))) (fun k_ hk_ => by first | exact hk_.1.1.2 | (revert hk_; simp only [and_imp]; intros; and_intros <;> assumption))); have n3_ := Aside0.mk (Kd.R_reok rfl hy0 (fun k_ e_ => HO265.out.1 k_ e_)); have n4_ := Aside0.mk (blk_kept (zh BK266.out) hkp (fun hs_ => (fun e_ => (Kd.R_ne HO265.out BK266.out (by decide)) e_) hs_)); have n5_ := Aside0.mk (Kd.R_mono (ok' := fun k_ => some k_ ≠ (.slice Ao34 t260.length co34 : Value).ownBlock) (Kd.R_keptB ((Kd.R_apart' HO269.out (Kd.R_typed HO265.out) (by decide))) hkp (fun k_ hk_ hs_ => by first | exact (hk_.2) hs_ | (revert hk_; simp only [and_imp]; intros; exact absurd hs_ (by assumption)))) (fun k_ hk_ => by first | exact hk_.1.1.2 | (revert hk_; simp only [and_imp]; intros; and_intros <;> assumption))); have n6_ := Aside0.mk (Kd.R_mono (ok' := fun k_ => some k_ ≠ (.slice Ao24 t257.length co24 : Value).ownBlock ∧ some k_ ≠ (.slice Ao29 t263.length co29 : Value).ownBlock) (Kd.R_keptB (HO273.out) hkp (fun k_ hk_ hs_ => by first | exact (hk_.2) hs_ | (revert hk_; simp only [and_imp]; intros; exact absurd hs_ (by assumption)))) (fun k_ hk_ => by first | exact ⟨hk_.1.1.2, hk_.1.2⟩ | (revert hk_; simp only [and_imp]; intros; and_intros <;> assumption))); have n7_ := Aside0.mk (hb); clear BK255; clear HO259; clear HO262; clear HO265; clear BK266; clear HO269; clear HO273; clear HB; have BK255 := n0_; have HO259 := n1_; have HO262 := n2_; have HO265 := n3_; have BK266 := n4_; have HO269 := n5_; have HO273 := n6_; have HB := n7_; clear n0_ n1_ n2_ n3_ n4_ n5_ n6_ n7_; (try clear hb); (try clear hkp); (try clear hy0)))
    (try simp only [Act.put, List.setIfInBounds_toArray, List.set_cons_zero, List.set_cons_succ])
    go_cut [46] (fun v46 wc => ∃ (kq : Nat) (x46_17 : Bool), v46 = .bool x46_17 ∧ Aside0 (laws_FnExactTermNames.j0 kq a1 t260 t267 x46_17 l0_0 = some r) ∧ Aside0 (kq ≤ k) ∧ Aside0 (Kd.R (Kd.int .i64) 3 wc w.heap.size (fun k_ => some k_ ≠ ((.slice Ao33 t267.length co33) : Value).ownBlock) (.slice Ao34 t260.length co34) t260) ∧ Aside0 (Kd.R (Kd.int .i64) 3 wc w.heap.size (fun k_ => some k_ ≠ ((.slice Ao34 t260.length co34) : Value).ownBlock) (.slice Ao33 t267.length co33) t267) ∧ Aside0 (Kd.R k44 44 wc w.heap.size (fun _ => True) (.slice Ao29 t263.length co29) t276) ∧ Aside0 (wc.heap[gb255]? = some (.cells #[(.slice A0_0 l0_0.length c0_0)] 24 (0, 0))) ∧ Aside0 (wc.heap[gb266]? = some (.cells #[(.slice Ao29 t263.length co29)] 30 (0, 0))) ∧ Aside0 (Below w.heap.size w wc))
    case first =>
     have H := HC18.out
     clear HC18
     by_cases c41 : t275 < 0
     ·rw [if_pos c41] at H
      have c41b0 : decide (t275 < 0) = true := decide_eq_true c41
      clear c41
      (first | rw [c41b0] | (simp only [i64_w, i32_w]; rw [c41b0]) | skip)
      have H' := Aside0.mk H
      clear H
      go_wp2
      go_meet
      case rel => exact ⟨_, (true), (by first | rfl | (simp; done) | (simp [*]; done)), H', ⟨by first | omega | exact Nat.le_refl _⟩, ⟨zr HO262.out⟩, ⟨zr HO269.out⟩, ⟨zr (Kd.R_mono HO265.out (fun _ hk => trivial))⟩, ⟨zh BK255.out⟩, ⟨zh BK266.out⟩, ⟨zb HB.out⟩⟩
     ·rw [if_neg c41] at H
      have c41b0 : decide (t275 < 0) = false := decide_eq_false c41
      clear c41
      (first | rw [c41b0] | (simp only [i64_w, i32_w]; rw [c41b0]) | skip)
      replace H := Option.bind_eq_some_iff.mp H
      obtain ⟨t277, A420, H⟩ := H
      replace H : (laws_FnExactTermNames.j0 k a1 t260 t267 (!t277) l0_0) = some r := H
      have A42 := Aside0.mk A420
      clear A420
      have H' := Aside0.mk H
      clear H
      go_wp2_with (first | (go_at_call 13; (with_reducible refine (laws_eqIntS.calls k _ _ t267 _ _ t260 t277 _ ?side1 ?side2 ?side3 ?side4 A42.out).mono ?_); (case side1 => exact zc (Kd.R_reads' HO269.out).2.2); (case side2 => exact (Kd.R_reads' HO269.out).2.1); (case side3 => exact zc (Kd.R_reads' HO262.out).2.2); (case side4 => exact (Kd.R_reads' HO262.out).2.1); rintro e w' ⟨rfl, ⟨nd, rfl⟩⟩))
      go_meet
      case rel => exact ⟨_, (!t277), (by first | rfl | (simp; done) | (simp [*]; done)), H', ⟨by first | omega | exact Nat.le_refl _⟩, ⟨zr HO262.out⟩, ⟨zr HO269.out⟩, ⟨zr (Kd.R_mono HO265.out (fun _ hk => trivial))⟩, ⟨zh BK255.out⟩, ⟨zh BK266.out⟩, ⟨zb HB.out⟩⟩
    case rest =>
     clear HC18
     try clear c1
     try clear p2
     try clear c3
     try clear c4
     try clear c4b0
     try clear c9
     try clear c10
     try clear c11
     try clear c12
     try clear c13
     try clear c14
     try clear c15
     try clear c16
     try clear c30
     try clear c41
     try clear c41b0
     try clear hcz20_0
     try clear hcz22_0
     try clear hcz26_0
     try clear hcz31_0
     try clear hcz39_0
     try clear hcz6_0
     try clear hfz20_0
     try clear hfz22_0
     try clear hfz26_0
     try clear hfz31_0
     try clear hfz39_0
     try clear hfz6_0
     obtain ⟨kq, x46_17, rfl, HA, HJ17, HO_6, HO_8, HO_267000, BK255, BK266, HB⟩ := hcut
     have hl267000_17 := (Kd.R_reads' HO_267000.out).1
     rw [hl267000_17] at HO_267000
     (try simp only [hl267000_17])
     (try simp only [hl267000_17] at BK255)
     (try simp only [hl267000_17] at BK266)
     (try simp only [hl267000_17] at HO_6)
     (try simp only [hl267000_17] at HO_8)
     cases kq with
     | zero => exact absurd HA.out (by simp [laws_FnExactTermNames.j0])
     | succ kj17 =>
      have H := HA.out
      clear HA
      simp only [laws_FnExactTermNames.j0] at H
      by_cases c43 : x46_17 = true
      ·subst c43
       have H1 : (some false) = some r := by rw [if_pos rfl] at H; exact H
       clear H
       have H := H1
       clear H1
       obtain rfl := Option.some.inj H
       go_wp2
       go_ret
       exact ⟨ze, zb HB.out⟩
      ·replace c43 := Bool.eq_false_iff.mpr c43
       subst c43
       have H1 : ((laws_markIntS.f kj17 t267 1).bind fun bt278 => ((laws_heldIntS.f kj17 bt278.2 1).bind fun t280 => (if t280 < 0 then (some false) else (if t280 = bt278.1 then ((laws_toPool.f kj17 l0_0).bind fun t281 => ((impl_TermNames.f kj17 t281 a1).bind fun t284 => ((laws_eqIntS.f kj17 t284 t260).bind fun t287 => (if t287 = true then ((laws_heldIntS.f kj17 bt278.2 1).bind fun t288 => (if t288 < 0 then (some false) else (if t288 = bt278.1 then (some true) else (some false)))) else (some false))))) else (some false))))) = some r := by rw [if_neg (show ¬ (false = true) by decide)] at H; exact H
       clear H
       have H := H1
       clear H1
       replace H := Option.bind_eq_some_iff.mp H
       obtain ⟨⟨t278, t279⟩, A440, H⟩ := H
       replace H : ((laws_heldIntS.f kj17 t279 1).bind fun t280 => (if t280 < 0 then (some false) else (if t280 = t278 then ((laws_toPool.f kj17 l0_0).bind fun t281 => ((impl_TermNames.f kj17 t281 a1).bind fun t284 => ((laws_eqIntS.f kj17 t284 t260).bind fun t287 => (if t287 = true then ((laws_heldIntS.f kj17 t279 1).bind fun t288 => (if t288 < 0 then (some false) else (if t288 = t278 then (some true) else (some false)))) else (some false))))) else (some false)))) = some r := H
       have A44 := Aside0.mk A440
       clear A440
       replace H := Option.bind_eq_some_iff.mp H
       obtain ⟨t280, A450, H⟩ := H
       replace H : (if t280 < 0 then (some false) else (if t280 = t278 then ((laws_toPool.f kj17 l0_0).bind fun t281 => ((impl_TermNames.f kj17 t281 a1).bind fun t284 => ((laws_eqIntS.f kj17 t284 t260).bind fun t287 => (if t287 = true then ((laws_heldIntS.f kj17 t279 1).bind fun t288 => (if t288 < 0 then (some false) else (if t288 = t278 then (some true) else (some false)))) else (some false))))) else (some false))) = some r := H
       have A45 := Aside0.mk A450
       clear A450
       by_cases c46 : t280 < 0
       ·rw [if_pos c46] at H
        have c46b0 : decide (t280 < 0) = true := decide_eq_true c46
        clear c46
        obtain rfl := Option.some.inj H
        go_wp2_with (first | ((with_reducible refine gate_callee (f := 16) rfl ?_); refine goesL_ (some 49) rfl rfl Try.func16 (by kernel_rfl) rfl #[.slice Ao33 t267.length co33, .int .i64 1] rfl zl ?_; (with_reducible refine (laws_markIntS.calls kj17 (fun k_ => some k_ = (.slice Ao33 t267.length co33 : Value).ownBlock) (.slice Ao33 t267.length co33) t267 1 t278 t279 w _ ?side1 ?side2 A44.out).mono ?_); (case side1 => repeat (first | (with_reducible first | exact HB.out | apply below_alloc | apply pw_below_drewN | apply below_drew1 | refine below_set ?_ GE255.out | refine below_set ?_ GE266.out) | exact HB.out)); (case side2 => exact Kd.R_tight rfl HO_8.out); rintro e w47 ⟨rfl, hy0, hb, hkp⟩; refine ⟨_, rfl, ?_⟩; have n0_ := Aside0.mk (Kd.R_mono (ok' := fun k_ => some k_ ≠ (.slice Ao33 t267.length co33 : Value).ownBlock) (Kd.R_keptB (HO_6.out) hkp (fun k_ hk_ hs_ => by first | exact (hk_) hs_ | (revert hk_; simp only [and_imp]; intros; exact absurd hs_ (by assumption)))) (fun k_ hk_ => by first | exact hk_.1 | (revert hk_; simp only [and_imp]; intros; and_intros <;> assumption))); have n1_ := Aside0.mk (Kd.R_reok rfl hy0 (fun k_ e_ => HO_8.out.1 k_ e_)); have n2_ := Aside0.mk (Kd.R_mono (ok' := fun k_ => True) (Kd.R_keptB ((Kd.R_apart' HO_267000.out (Kd.R_typed HO_8.out) (by decide))) hkp (fun k_ hk_ hs_ => by first | exact (hk_.2) hs_ | (revert hk_; simp only [and_imp]; intros; exact absurd hs_ (by assumption)))) (fun k_ hk_ => trivial)); have n3_ := Aside0.mk (blk_kept (zh BK255.out) hkp (fun hs_ => (fun e_ => (Kd.R_ne HO_8.out BK255.out (by decide)) e_) hs_)); have n4_ := Aside0.mk (blk_kept (zh BK266.out) hkp (fun hs_ => (fun e_ => (Kd.R_ne HO_8.out BK266.out (by decide)) e_) hs_)); have n5_ := Aside0.mk (hb); clear HO_6; clear HO_8; clear HO_267000; clear BK255; clear BK266; clear HB; have HO_6 := n0_; have HO_8 := n1_; have HO_267000 := n2_; have BK255 := n3_; have BK266 := n4_; have HB := n5_; clear n0_ n1_ n2_ n3_ n4_ n5_; (try clear hb); (try clear hkp); (try clear hy0)) | ((with_reducible refine gate_callee (f := 17) rfl ?_); refine goesL_ (some 52) rfl rfl Try.func17 (by kernel_rfl) rfl #[.slice Ao33 t279.length co33, .int .i64 1] rfl (by (try simp only [List.map_toArray, List.map_cons, List.map_nil]); first | done | (rw [show t279.length = t267.length from (Kd.R_reads' HO_8.out).1.symm] <;> rfl) | rfl | (simp only [List.length_drop, List.length_take]; rfl)) ?_; (with_reducible refine (laws_heldIntS.calls kj17 _ _ t279 1 t280 _ ?side1 ?side2 A45.out).mono ?_); (case side1 => exact zc (Kd.R_reads' HO_8.out).2.2); (case side2 => rw [show t279.length = t267.length from (Kd.R_reads' HO_8.out).1.symm]; exact (Kd.R_reads' HO_8.out).2.1); rintro e w' ⟨rfl, ⟨nd, rfl⟩⟩; refine ⟨_, rfl, ?_⟩))
        go_ret
        exact ⟨ze, zb HB.out⟩
       ·rw [if_neg c46] at H
        have c46b0 : decide (t280 < 0) = false := decide_eq_false c46
        clear c46
        by_cases c48 : t280 = t278
        ·rw [if_pos c48] at H
         have c48b0 : (t280 == t278) = true := beq_iff_eq.mpr c48
         have c48b1 : (t280 != t278) = false := bne_eq_false_iff_eq.mpr c48
         clear c48
         replace H := Option.bind_eq_some_iff.mp H
         obtain ⟨t281, A490, H⟩ := H
         replace H : ((impl_TermNames.f kj17 t281 a1).bind fun t284 => ((laws_eqIntS.f kj17 t284 t260).bind fun t287 => (if t287 = true then ((laws_heldIntS.f kj17 t279 1).bind fun t288 => (if t288 < 0 then (some false) else (if t288 = t278 then (some true) else (some false)))) else (some false)))) = some r := H
         have A49 := Aside0.mk A490
         clear A490
         replace H := Option.bind_eq_some_iff.mp H
         obtain ⟨t284, A500, H⟩ := H
         replace H : ((laws_eqIntS.f kj17 t284 t260).bind fun t287 => (if t287 = true then ((laws_heldIntS.f kj17 t279 1).bind fun t288 => (if t288 < 0 then (some false) else (if t288 = t278 then (some true) else (some false)))) else (some false))) = some r := H
         have A50 := Aside0.mk A500
         clear A500
         replace H := Option.bind_eq_some_iff.mp H
         obtain ⟨t287, A510, H⟩ := H
         replace H : (if t287 = true then ((laws_heldIntS.f kj17 t279 1).bind fun t288 => (if t288 < 0 then (some false) else (if t288 = t278 then (some true) else (some false)))) else (some false)) = some r := H
         have A51 := Aside0.mk A510
         clear A510
         by_cases c52 : t287 = true
         ·subst c52
          have H1 : ((laws_heldIntS.f kj17 t279 1).bind fun t288 => (if t288 < 0 then (some false) else (if t288 = t278 then (some true) else (some false)))) = some r := by rw [if_pos rfl] at H; exact H
          clear H
          have H := H1
          clear H1
          replace H := Option.bind_eq_some_iff.mp H
          obtain ⟨t288, A530, H⟩ := H
          replace H : (if t288 < 0 then (some false) else (if t288 = t278 then (some true) else (some false))) = some r := H
          have A53 := Aside0.mk A530
          clear A530
          by_cases c54 : t288 < 0
          ·rw [if_pos c54] at H
           have c54b0 : decide (t288 < 0) = true := decide_eq_true c54
           clear c54
           obtain rfl := Option.some.inj H
           go_wp2_with (first | ((with_reducible refine gate_callee (f := 16) rfl ?_); refine goesL_ (some 49) rfl rfl Try.func16 (by kernel_rfl) rfl #[.slice Ao33 t267.length co33, .int .i64 1] rfl zl ?_; (with_reducible refine (laws_markIntS.calls kj17 (fun k_ => some k_ = (.slice Ao33 t267.length co33 : Value).ownBlock) (.slice Ao33 t267.length co33) t267 1 t278 t279 w _ ?side1 ?side2 A44.out).mono ?_); (case side1 => repeat (first | (with_reducible first | exact HB.out | apply below_alloc | apply pw_below_drewN | apply below_drew1 | refine below_set ?_ GE255.out | refine below_set ?_ GE266.out) | exact HB.out)); (case side2 => exact Kd.R_tight rfl HO_8.out); rintro e w55 ⟨rfl, hy0, hb, hkp⟩; refine ⟨_, rfl, ?_⟩; have n0_ := Aside0.mk (Kd.R_mono (ok' := fun k_ => some k_ ≠ (.slice Ao33 t267.length co33 : Value).ownBlock) (Kd.R_keptB (HO_6.out) hkp (fun k_ hk_ hs_ => by first | exact (hk_) hs_ | (revert hk_; simp only [and_imp]; intros; exact absurd hs_ (by assumption)))) (fun k_ hk_ => by first | exact hk_.1 | (revert hk_; simp only [and_imp]; intros; and_intros <;> assumption))); have n1_ := Aside0.mk (Kd.R_reok rfl hy0 (fun k_ e_ => HO_8.out.1 k_ e_)); have n2_ := Aside0.mk (Kd.R_mono (ok' := fun k_ => True) (Kd.R_keptB ((Kd.R_apart' HO_267000.out (Kd.R_typed HO_8.out) (by decide))) hkp (fun k_ hk_ hs_ => by first | exact (hk_.2) hs_ | (revert hk_; simp only [and_imp]; intros; exact absurd hs_ (by assumption)))) (fun k_ hk_ => trivial)); have n3_ := Aside0.mk (blk_kept (zh BK255.out) hkp (fun hs_ => (fun e_ => (Kd.R_ne HO_8.out BK255.out (by decide)) e_) hs_)); have n4_ := Aside0.mk (blk_kept (zh BK266.out) hkp (fun hs_ => (fun e_ => (Kd.R_ne HO_8.out BK266.out (by decide)) e_) hs_)); have n5_ := Aside0.mk (hb); clear HO_6; clear HO_8; clear HO_267000; clear BK255; clear BK266; clear HB; have HO_6 := n0_; have HO_8 := n1_; have HO_267000 := n2_; have BK255 := n3_; have BK266 := n4_; have HB := n5_; clear n0_ n1_ n2_ n3_ n4_ n5_; (try clear hb); (try clear hkp); (try clear hy0)) | ((with_reducible refine gate_callee (f := 17) rfl ?_); refine goesL_ (some 52) rfl rfl Try.func17 (by kernel_rfl) rfl #[.slice Ao33 t279.length co33, .int .i64 1] rfl (by (try simp only [List.map_toArray, List.map_cons, List.map_nil]); first | done | (rw [show t279.length = t267.length from (Kd.R_reads' HO_8.out).1.symm] <;> rfl) | rfl | (simp only [List.length_drop, List.length_take]; rfl)) ?_; (with_reducible refine (laws_heldIntS.calls kj17 _ _ t279 1 t280 _ ?side1 ?side2 A45.out).mono ?_); (case side1 => exact zc (Kd.R_reads' HO_8.out).2.2); (case side2 => rw [show t279.length = t267.length from (Kd.R_reads' HO_8.out).1.symm]; exact (Kd.R_reads' HO_8.out).2.1); rintro e w' ⟨rfl, ⟨nd, rfl⟩⟩; refine ⟨_, rfl, ?_⟩; have hnb56 := NB255_266.out; have hnc56 := NB266_255.out; have hcz57_0 : w55.cell? ⟨gb255, 0, none⟩ = some (.slice A0_0 l0_0.length c0_0) := (blk_cell BK255.out 0).trans rfl; have hfz57_0 := blk_frozen BK255.out 0) | ((with_reducible refine gate_callee (f := 11) rfl ?_); refine goesL_ (some 59) rfl rfl Try.func11 (by kernel_rfl) rfl #[.agg #[.slice A0_0 l0_0.length c0_0]] rfl zl ?_; (with_reducible refine (laws_toPool.calls kj17 _ _ l0_0 t281 _ ?side1 ?side2 A49.out).mono ?_); (case side1 => exact zc (Kd.C_below HR0_0.out (zb HB.out))); (case side2 => exact HC0_0.out); rintro e w58 ⟨v282, rfl, ho0, hb⟩; refine ⟨_, rfl, ?_⟩; have n0_ := Aside0.mk (Kd.R_below (zr HO_6.out) hb); have n1_ := Aside0.mk (Kd.R_below (zr HO_8.out) hb); have n2_ := Aside0.mk (Kd.R_elder' (zr HO_267000.out) (Kd.R_base ho0) hb); have n3_ := Aside0.mk (Kd.R_lower (Kd.R_new' ho0 (Kd.R_lt (zr HO_267000.out))) (below_size (zb HB.out))); have n4_ := Aside0.mk (blk_below (zh BK255.out) hb); have n5_ := Aside0.mk (blk_below (zh BK266.out) hb); have n6_ := Aside0.mk (below_step (zb HB.out) hb); clear HO_6; clear HO_8; clear HO_267000; clear BK255; clear BK266; clear HB; have HO_6 := n0_; have HO_8 := n1_; have HO_267000 := n2_; have HO283 := n3_; have BK255 := n4_; have BK266 := n5_; have HB := n6_; clear n0_ n1_ n2_ n3_ n4_ n5_ n6_; (try clear hb); (try clear hb2); (try clear hk); (try clear hi); (try clear ho0); obtain ⟨Ao59, co59, eo59⟩ := Kd.R_slice HO283.out; subst eo59) | ((with_reducible refine gate_callee (f := 12) rfl ?_); refine goesL_ (some 61) rfl rfl Try.func12 (by kernel_rfl) rfl #[.agg #[.slice Ao59 t281.length co59], .int .i64 a1] rfl zl ?_; (with_reducible refine (impl_TermNames.calls kj17 _ _ t281 a1 t284 _ ?side1 ?side2 A50.out).mono ?_); (case side1 => exact zc (Kd.R_reads' HO283.out).2.2); (case side2 => exact (Kd.R_reads' HO283.out).2.1); rintro e w60 ⟨v285, rfl, ho0, hb⟩; refine ⟨_, rfl, ?_⟩; have n0_ := Aside0.mk (Kd.R_elder' (zr HO_6.out) (Kd.R_base ho0) hb); have n1_ := Aside0.mk (Kd.R_elder' (zr HO_8.out) (Kd.R_base ho0) hb); have n2_ := Aside0.mk (Kd.R_below (zr HO_267000.out) hb); have n3_ := Aside0.mk (Kd.R_below (zr HO283.out) hb); have n4_ := Aside0.mk (Kd.R_lower (Kd.R_new' (Kd.R_new' ho0 (Kd.R_lt (zr HO_6.out))) (Kd.R_lt (zr HO_8.out))) (below_size (zb HB.out))); have n5_ := Aside0.mk (blk_below (zh BK255.out) hb); have n6_ := Aside0.mk (blk_below (zh BK266.out) hb); have n7_ := Aside0.mk (below_step (zb HB.out) hb); clear HO_6; clear HO_8; clear HO_267000; clear HO283; clear BK255; clear BK266; clear HB; have HO_6 := n0_; have HO_8 := n1_; have HO_267000 := n2_; have HO283 := n3_; have HO286 := n4_; have BK255 := n5_; have BK266 := n6_; have HB := n7_; clear n0_ n1_ n2_ n3_ n4_ n5_ n6_ n7_; (try clear hb); (try clear hb2); (try clear hk); (try clear hi); (try clear ho0); obtain ⟨Ao61, co61, eo61⟩ := Kd.R_slice HO286.out; subst eo61) | ((with_reducible refine gate_callee (f := 13) rfl ?_); refine goesL_ (some 64) rfl rfl Try.func13 (by kernel_rfl) rfl #[.slice Ao61 t284.length co61, .slice Ao34 t260.length co34] rfl zl ?_; (with_reducible refine (laws_eqIntS.calls kj17 _ _ t284 _ _ t260 true _ ?side1 ?side2 ?side3 ?side4 A51.out).mono ?_); (case side1 => exact zc (Kd.R_reads' HO286.out).2.2); (case side2 => exact (Kd.R_reads' HO286.out).2.1); (case side3 => exact zc (Kd.R_reads' HO_6.out).2.2); (case side4 => exact (Kd.R_reads' HO_6.out).2.1); rintro e w' ⟨rfl, ⟨nd, rfl⟩⟩; refine ⟨_, rfl, ?_⟩) | ((with_reducible refine gate_callee (f := 17) rfl ?_); refine goesL_ (some 68) rfl rfl Try.func17 (by kernel_rfl) rfl #[.slice Ao33 t279.length co33, .int .i64 1] rfl (by (try simp only [List.map_toArray, List.map_cons, List.map_nil]); first | done | (rw [show t279.length = t267.length from (Kd.R_reads' HO_8.out).1.symm] <;> rfl) | rfl | (simp only [List.length_drop, List.length_take]; rfl)) ?_; (with_reducible refine (laws_heldIntS.calls kj17 _ _ t279 1 t288 _ ?side1 ?side2 A53.out).mono ?_); (case side1 => exact zc (Kd.R_reads' HO_8.out).2.2); (case side2 => rw [show t279.length = t267.length from (Kd.R_reads' HO_8.out).1.symm]; exact (Kd.R_reads' HO_8.out).2.1); rintro e w' ⟨rfl, ⟨nd, rfl⟩⟩; refine ⟨_, rfl, ?_⟩))
           go_ret
           exact ⟨ze, zb HB.out⟩
          ·rw [if_neg c54] at H
           have c54b0 : decide (t288 < 0) = false := decide_eq_false c54
           clear c54
           by_cases c62 : t288 = t278
           ·rw [if_pos c62] at H
            have c62b0 : (t288 == t278) = true := beq_iff_eq.mpr c62
            have c62b1 : (t288 != t278) = false := bne_eq_false_iff_eq.mpr c62
            clear c62
            obtain rfl := Option.some.inj H
            go_wp2_with (first | ((with_reducible refine gate_callee (f := 16) rfl ?_); refine goesL_ (some 49) rfl rfl Try.func16 (by kernel_rfl) rfl #[.slice Ao33 t267.length co33, .int .i64 1] rfl zl ?_; (with_reducible refine (laws_markIntS.calls kj17 (fun k_ => some k_ = (.slice Ao33 t267.length co33 : Value).ownBlock) (.slice Ao33 t267.length co33) t267 1 t278 t279 w _ ?side1 ?side2 A44.out).mono ?_); (case side1 => repeat (first | (with_reducible first | exact HB.out | apply below_alloc | apply pw_below_drewN | apply below_drew1 | refine below_set ?_ GE255.out | refine below_set ?_ GE266.out) | exact HB.out)); (case side2 => exact Kd.R_tight rfl HO_8.out); rintro e w63 ⟨rfl, hy0, hb, hkp⟩; refine ⟨_, rfl, ?_⟩; have n0_ := Aside0.mk (Kd.R_mono (ok' := fun k_ => some k_ ≠ (.slice Ao33 t267.length co33 : Value).ownBlock) (Kd.R_keptB (HO_6.out) hkp (fun k_ hk_ hs_ => by first | exact (hk_) hs_ | (revert hk_; simp only [and_imp]; intros; exact absurd hs_ (by assumption)))) (fun k_ hk_ => by first | exact hk_.1 | (revert hk_; simp only [and_imp]; intros; and_intros <;> assumption))); have n1_ := Aside0.mk (Kd.R_reok rfl hy0 (fun k_ e_ => HO_8.out.1 k_ e_)); have n2_ := Aside0.mk (Kd.R_mono (ok' := fun k_ => True) (Kd.R_keptB ((Kd.R_apart' HO_267000.out (Kd.R_typed HO_8.out) (by decide))) hkp (fun k_ hk_ hs_ => by first | exact (hk_.2) hs_ | (revert hk_; simp only [and_imp]; intros; exact absurd hs_ (by assumption)))) (fun k_ hk_ => trivial)); have n3_ := Aside0.mk (blk_kept (zh BK255.out) hkp (fun hs_ => (fun e_ => (Kd.R_ne HO_8.out BK255.out (by decide)) e_) hs_)); have n4_ := Aside0.mk (blk_kept (zh BK266.out) hkp (fun hs_ => (fun e_ => (Kd.R_ne HO_8.out BK266.out (by decide)) e_) hs_)); have n5_ := Aside0.mk (hb); clear HO_6; clear HO_8; clear HO_267000; clear BK255; clear BK266; clear HB; have HO_6 := n0_; have HO_8 := n1_; have HO_267000 := n2_; have BK255 := n3_; have BK266 := n4_; have HB := n5_; clear n0_ n1_ n2_ n3_ n4_ n5_; (try clear hb); (try clear hkp); (try clear hy0)) | ((with_reducible refine gate_callee (f := 17) rfl ?_); refine goesL_ (some 52) rfl rfl Try.func17 (by kernel_rfl) rfl #[.slice Ao33 t279.length co33, .int .i64 1] rfl (by (try simp only [List.map_toArray, List.map_cons, List.map_nil]); first | done | (rw [show t279.length = t267.length from (Kd.R_reads' HO_8.out).1.symm] <;> rfl) | rfl | (simp only [List.length_drop, List.length_take]; rfl)) ?_; (with_reducible refine (laws_heldIntS.calls kj17 _ _ t279 1 t280 _ ?side1 ?side2 A45.out).mono ?_); (case side1 => exact zc (Kd.R_reads' HO_8.out).2.2); (case side2 => rw [show t279.length = t267.length from (Kd.R_reads' HO_8.out).1.symm]; exact (Kd.R_reads' HO_8.out).2.1); rintro e w' ⟨rfl, ⟨nd, rfl⟩⟩; refine ⟨_, rfl, ?_⟩; have hnb64 := NB255_266.out; have hnc64 := NB266_255.out; have hcz65_0 : w63.cell? ⟨gb255, 0, none⟩ = some (.slice A0_0 l0_0.length c0_0) := (blk_cell BK255.out 0).trans rfl; have hfz65_0 := blk_frozen BK255.out 0) | ((with_reducible refine gate_callee (f := 11) rfl ?_); refine goesL_ (some 59) rfl rfl Try.func11 (by kernel_rfl) rfl #[.agg #[.slice A0_0 l0_0.length c0_0]] rfl zl ?_; (with_reducible refine (laws_toPool.calls kj17 _ _ l0_0 t281 _ ?side1 ?side2 A49.out).mono ?_); (case side1 => exact zc (Kd.C_below HR0_0.out (zb HB.out))); (case side2 => exact HC0_0.out); rintro e w66 ⟨v282, rfl, ho0, hb⟩; refine ⟨_, rfl, ?_⟩; have n0_ := Aside0.mk (Kd.R_below (zr HO_6.out) hb); have n1_ := Aside0.mk (Kd.R_below (zr HO_8.out) hb); have n2_ := Aside0.mk (Kd.R_elder' (zr HO_267000.out) (Kd.R_base ho0) hb); have n3_ := Aside0.mk (Kd.R_lower (Kd.R_new' ho0 (Kd.R_lt (zr HO_267000.out))) (below_size (zb HB.out))); have n4_ := Aside0.mk (blk_below (zh BK255.out) hb); have n5_ := Aside0.mk (blk_below (zh BK266.out) hb); have n6_ := Aside0.mk (below_step (zb HB.out) hb); clear HO_6; clear HO_8; clear HO_267000; clear BK255; clear BK266; clear HB; have HO_6 := n0_; have HO_8 := n1_; have HO_267000 := n2_; have HO283 := n3_; have BK255 := n4_; have BK266 := n5_; have HB := n6_; clear n0_ n1_ n2_ n3_ n4_ n5_ n6_; (try clear hb); (try clear hb2); (try clear hk); (try clear hi); (try clear ho0); obtain ⟨Ao67, co67, eo67⟩ := Kd.R_slice HO283.out; subst eo67) | ((with_reducible refine gate_callee (f := 12) rfl ?_); refine goesL_ (some 61) rfl rfl Try.func12 (by kernel_rfl) rfl #[.agg #[.slice Ao67 t281.length co67], .int .i64 a1] rfl zl ?_; (with_reducible refine (impl_TermNames.calls kj17 _ _ t281 a1 t284 _ ?side1 ?side2 A50.out).mono ?_); (case side1 => exact zc (Kd.R_reads' HO283.out).2.2); (case side2 => exact (Kd.R_reads' HO283.out).2.1); rintro e w68 ⟨v285, rfl, ho0, hb⟩; refine ⟨_, rfl, ?_⟩; have n0_ := Aside0.mk (Kd.R_elder' (zr HO_6.out) (Kd.R_base ho0) hb); have n1_ := Aside0.mk (Kd.R_elder' (zr HO_8.out) (Kd.R_base ho0) hb); have n2_ := Aside0.mk (Kd.R_below (zr HO_267000.out) hb); have n3_ := Aside0.mk (Kd.R_below (zr HO283.out) hb); have n4_ := Aside0.mk (Kd.R_lower (Kd.R_new' (Kd.R_new' ho0 (Kd.R_lt (zr HO_6.out))) (Kd.R_lt (zr HO_8.out))) (below_size (zb HB.out))); have n5_ := Aside0.mk (blk_below (zh BK255.out) hb); have n6_ := Aside0.mk (blk_below (zh BK266.out) hb); have n7_ := Aside0.mk (below_step (zb HB.out) hb); clear HO_6; clear HO_8; clear HO_267000; clear HO283; clear BK255; clear BK266; clear HB; have HO_6 := n0_; have HO_8 := n1_; have HO_267000 := n2_; have HO283 := n3_; have HO286 := n4_; have BK255 := n5_; have BK266 := n6_; have HB := n7_; clear n0_ n1_ n2_ n3_ n4_ n5_ n6_ n7_; (try clear hb); (try clear hb2); (try clear hk); (try clear hi); (try clear ho0); obtain ⟨Ao69, co69, eo69⟩ := Kd.R_slice HO286.out; subst eo69) | ((with_reducible refine gate_callee (f := 13) rfl ?_); refine goesL_ (some 64) rfl rfl Try.func13 (by kernel_rfl) rfl #[.slice Ao69 t284.length co69, .slice Ao34 t260.length co34] rfl zl ?_; (with_reducible refine (laws_eqIntS.calls kj17 _ _ t284 _ _ t260 true _ ?side1 ?side2 ?side3 ?side4 A51.out).mono ?_); (case side1 => exact zc (Kd.R_reads' HO286.out).2.2); (case side2 => exact (Kd.R_reads' HO286.out).2.1); (case side3 => exact zc (Kd.R_reads' HO_6.out).2.2); (case side4 => exact (Kd.R_reads' HO_6.out).2.1); rintro e w' ⟨rfl, ⟨nd, rfl⟩⟩; refine ⟨_, rfl, ?_⟩) | ((with_reducible refine gate_callee (f := 17) rfl ?_); refine goesL_ (some 68) rfl rfl Try.func17 (by kernel_rfl) rfl #[.slice Ao33 t279.length co33, .int .i64 1] rfl (by (try simp only [List.map_toArray, List.map_cons, List.map_nil]); first | done | (rw [show t279.length = t267.length from (Kd.R_reads' HO_8.out).1.symm] <;> rfl) | rfl | (simp only [List.length_drop, List.length_take]; rfl)) ?_; (with_reducible refine (laws_heldIntS.calls kj17 _ _ t279 1 t288 _ ?side1 ?side2 A53.out).mono ?_); (case side1 => exact zc (Kd.R_reads' HO_8.out).2.2); (case side2 => rw [show t279.length = t267.length from (Kd.R_reads' HO_8.out).1.symm]; exact (Kd.R_reads' HO_8.out).2.1); rintro e w' ⟨rfl, ⟨nd, rfl⟩⟩; refine ⟨_, rfl, ?_⟩))
            go_ret
            exact ⟨ze, zb HB.out⟩
           ·rw [if_neg c62] at H
            have c62b0 : (t288 == t278) = false := beq_eq_false_iff_ne.mpr c62
            have c62b1 : (t288 != t278) = true := bne_iff_ne.mpr c62
            obtain rfl := Option.some.inj H
            go_wp2_with (first | ((with_reducible refine gate_callee (f := 16) rfl ?_); refine goesL_ (some 49) rfl rfl Try.func16 (by kernel_rfl) rfl #[.slice Ao33 t267.length co33, .int .i64 1] rfl zl ?_; (with_reducible refine (laws_markIntS.calls kj17 (fun k_ => some k_ = (.slice Ao33 t267.length co33 : Value).ownBlock) (.slice Ao33 t267.length co33) t267 1 t278 t279 w _ ?side1 ?side2 A44.out).mono ?_); (case side1 => repeat (first | (with_reducible first | exact HB.out | apply below_alloc | apply pw_below_drewN | apply below_drew1 | refine below_set ?_ GE255.out | refine below_set ?_ GE266.out) | exact HB.out)); (case side2 => exact Kd.R_tight rfl HO_8.out); rintro e w70 ⟨rfl, hy0, hb, hkp⟩; refine ⟨_, rfl, ?_⟩; have n0_ := Aside0.mk (Kd.R_mono (ok' := fun k_ => some k_ ≠ (.slice Ao33 t267.length co33 : Value).ownBlock) (Kd.R_keptB (HO_6.out) hkp (fun k_ hk_ hs_ => by first | exact (hk_) hs_ | (revert hk_; simp only [and_imp]; intros; exact absurd hs_ (by assumption)))) (fun k_ hk_ => by first | exact hk_.1 | (revert hk_; simp only [and_imp]; intros; and_intros <;> assumption))); have n1_ := Aside0.mk (Kd.R_reok rfl hy0 (fun k_ e_ => HO_8.out.1 k_ e_)); have n2_ := Aside0.mk (Kd.R_mono (ok' := fun k_ => True) (Kd.R_keptB ((Kd.R_apart' HO_267000.out (Kd.R_typed HO_8.out) (by decide))) hkp (fun k_ hk_ hs_ => by first | exact (hk_.2) hs_ | (revert hk_; simp only [and_imp]; intros; exact absurd hs_ (by assumption)))) (fun k_ hk_ => trivial)); have n3_ := Aside0.mk (blk_kept (zh BK255.out) hkp (fun hs_ => (fun e_ => (Kd.R_ne HO_8.out BK255.out (by decide)) e_) hs_)); have n4_ := Aside0.mk (blk_kept (zh BK266.out) hkp (fun hs_ => (fun e_ => (Kd.R_ne HO_8.out BK266.out (by decide)) e_) hs_)); have n5_ := Aside0.mk (hb); clear HO_6; clear HO_8; clear HO_267000; clear BK255; clear BK266; clear HB; have HO_6 := n0_; have HO_8 := n1_; have HO_267000 := n2_; have BK255 := n3_; have BK266 := n4_; have HB := n5_; clear n0_ n1_ n2_ n3_ n4_ n5_; (try clear hb); (try clear hkp); (try clear hy0)) | ((with_reducible refine gate_callee (f := 17) rfl ?_); refine goesL_ (some 52) rfl rfl Try.func17 (by kernel_rfl) rfl #[.slice Ao33 t279.length co33, .int .i64 1] rfl (by (try simp only [List.map_toArray, List.map_cons, List.map_nil]); first | done | (rw [show t279.length = t267.length from (Kd.R_reads' HO_8.out).1.symm] <;> rfl) | rfl | (simp only [List.length_drop, List.length_take]; rfl)) ?_; (with_reducible refine (laws_heldIntS.calls kj17 _ _ t279 1 t280 _ ?side1 ?side2 A45.out).mono ?_); (case side1 => exact zc (Kd.R_reads' HO_8.out).2.2); (case side2 => rw [show t279.length = t267.length from (Kd.R_reads' HO_8.out).1.symm]; exact (Kd.R_reads' HO_8.out).2.1); rintro e w' ⟨rfl, ⟨nd, rfl⟩⟩; refine ⟨_, rfl, ?_⟩; have hnb71 := NB255_266.out; have hnc71 := NB266_255.out; have hcz72_0 : w70.cell? ⟨gb255, 0, none⟩ = some (.slice A0_0 l0_0.length c0_0) := (blk_cell BK255.out 0).trans rfl; have hfz72_0 := blk_frozen BK255.out 0) | ((with_reducible refine gate_callee (f := 11) rfl ?_); refine goesL_ (some 59) rfl rfl Try.func11 (by kernel_rfl) rfl #[.agg #[.slice A0_0 l0_0.length c0_0]] rfl zl ?_; (with_reducible refine (laws_toPool.calls kj17 _ _ l0_0 t281 _ ?side1 ?side2 A49.out).mono ?_); (case side1 => exact zc (Kd.C_below HR0_0.out (zb HB.out))); (case side2 => exact HC0_0.out); rintro e w73 ⟨v282, rfl, ho0, hb⟩; refine ⟨_, rfl, ?_⟩; have n0_ := Aside0.mk (Kd.R_below (zr HO_6.out) hb); have n1_ := Aside0.mk (Kd.R_below (zr HO_8.out) hb); have n2_ := Aside0.mk (Kd.R_elder' (zr HO_267000.out) (Kd.R_base ho0) hb); have n3_ := Aside0.mk (Kd.R_lower (Kd.R_new' ho0 (Kd.R_lt (zr HO_267000.out))) (below_size (zb HB.out))); have n4_ := Aside0.mk (blk_below (zh BK255.out) hb); have n5_ := Aside0.mk (blk_below (zh BK266.out) hb); have n6_ := Aside0.mk (below_step (zb HB.out) hb); clear HO_6; clear HO_8; clear HO_267000; clear BK255; clear BK266; clear HB; have HO_6 := n0_; have HO_8 := n1_; have HO_267000 := n2_; have HO283 := n3_; have BK255 := n4_; have BK266 := n5_; have HB := n6_; clear n0_ n1_ n2_ n3_ n4_ n5_ n6_; (try clear hb); (try clear hb2); (try clear hk); (try clear hi); (try clear ho0); obtain ⟨Ao74, co74, eo74⟩ := Kd.R_slice HO283.out; subst eo74) | ((with_reducible refine gate_callee (f := 12) rfl ?_); refine goesL_ (some 61) rfl rfl Try.func12 (by kernel_rfl) rfl #[.agg #[.slice Ao74 t281.length co74], .int .i64 a1] rfl zl ?_; (with_reducible refine (impl_TermNames.calls kj17 _ _ t281 a1 t284 _ ?side1 ?side2 A50.out).mono ?_); (case side1 => exact zc (Kd.R_reads' HO283.out).2.2); (case side2 => exact (Kd.R_reads' HO283.out).2.1); rintro e w75 ⟨v285, rfl, ho0, hb⟩; refine ⟨_, rfl, ?_⟩; have n0_ := Aside0.mk (Kd.R_elder' (zr HO_6.out) (Kd.R_base ho0) hb); have n1_ := Aside0.mk (Kd.R_elder' (zr HO_8.out) (Kd.R_base ho0) hb); have n2_ := Aside0.mk (Kd.R_below (zr HO_267000.out) hb); have n3_ := Aside0.mk (Kd.R_below (zr HO283.out) hb); have n4_ := Aside0.mk (Kd.R_lower (Kd.R_new' (Kd.R_new' ho0 (Kd.R_lt (zr HO_6.out))) (Kd.R_lt (zr HO_8.out))) (below_size (zb HB.out))); have n5_ := Aside0.mk (blk_below (zh BK255.out) hb); have n6_ := Aside0.mk (blk_below (zh BK266.out) hb); have n7_ := Aside0.mk (below_step (zb HB.out) hb); clear HO_6; clear HO_8; clear HO_267000; clear HO283; clear BK255; clear BK266; clear HB; have HO_6 := n0_; have HO_8 := n1_; have HO_267000 := n2_; have HO283 := n3_; have HO286 := n4_; have BK255 := n5_; have BK266 := n6_; have HB := n7_; clear n0_ n1_ n2_ n3_ n4_ n5_ n6_ n7_; (try clear hb); (try clear hb2); (try clear hk); (try clear hi); (try clear ho0); obtain ⟨Ao76, co76, eo76⟩ := Kd.R_slice HO286.out; subst eo76) | ((with_reducible refine gate_callee (f := 13) rfl ?_); refine goesL_ (some 64) rfl rfl Try.func13 (by kernel_rfl) rfl #[.slice Ao76 t284.length co76, .slice Ao34 t260.length co34] rfl zl ?_; (with_reducible refine (laws_eqIntS.calls kj17 _ _ t284 _ _ t260 true _ ?side1 ?side2 ?side3 ?side4 A51.out).mono ?_); (case side1 => exact zc (Kd.R_reads' HO286.out).2.2); (case side2 => exact (Kd.R_reads' HO286.out).2.1); (case side3 => exact zc (Kd.R_reads' HO_6.out).2.2); (case side4 => exact (Kd.R_reads' HO_6.out).2.1); rintro e w' ⟨rfl, ⟨nd, rfl⟩⟩; refine ⟨_, rfl, ?_⟩) | ((with_reducible refine gate_callee (f := 17) rfl ?_); refine goesL_ (some 68) rfl rfl Try.func17 (by kernel_rfl) rfl #[.slice Ao33 t279.length co33, .int .i64 1] rfl (by (try simp only [List.map_toArray, List.map_cons, List.map_nil]); first | done | (rw [show t279.length = t267.length from (Kd.R_reads' HO_8.out).1.symm] <;> rfl) | rfl | (simp only [List.length_drop, List.length_take]; rfl)) ?_; (with_reducible refine (laws_heldIntS.calls kj17 _ _ t279 1 t288 _ ?side1 ?side2 A53.out).mono ?_); (case side1 => exact zc (Kd.R_reads' HO_8.out).2.2); (case side2 => rw [show t279.length = t267.length from (Kd.R_reads' HO_8.out).1.symm]; exact (Kd.R_reads' HO_8.out).2.1); rintro e w' ⟨rfl, ⟨nd, rfl⟩⟩; refine ⟨_, rfl, ?_⟩))
            go_ret
            exact ⟨ze, zb HB.out⟩
         ·replace c52 := Bool.eq_false_iff.mpr c52
          subst c52
          have H1 : (some false) = some r := by rw [if_neg (show ¬ (false = true) by decide)] at H; exact H
          clear H
          have H := H1
          clear H1
          obtain rfl := Option.some.inj H
          go_wp2_with (first | ((with_reducible refine gate_callee (f := 16) rfl ?_); refine goesL_ (some 49) rfl rfl Try.func16 (by kernel_rfl) rfl #[.slice Ao33 t267.length co33, .int .i64 1] rfl zl ?_; (with_reducible refine (laws_markIntS.calls kj17 (fun k_ => some k_ = (.slice Ao33 t267.length co33 : Value).ownBlock) (.slice Ao33 t267.length co33) t267 1 t278 t279 w _ ?side1 ?side2 A44.out).mono ?_); (case side1 => repeat (first | (with_reducible first | exact HB.out | apply below_alloc | apply pw_below_drewN | apply below_drew1 | refine below_set ?_ GE255.out | refine below_set ?_ GE266.out) | exact HB.out)); (case side2 => exact Kd.R_tight rfl HO_8.out); rintro e w77 ⟨rfl, hy0, hb, hkp⟩; refine ⟨_, rfl, ?_⟩; have n0_ := Aside0.mk (Kd.R_mono (ok' := fun k_ => some k_ ≠ (.slice Ao33 t267.length co33 : Value).ownBlock) (Kd.R_keptB (HO_6.out) hkp (fun k_ hk_ hs_ => by first | exact (hk_) hs_ | (revert hk_; simp only [and_imp]; intros; exact absurd hs_ (by assumption)))) (fun k_ hk_ => by first | exact hk_.1 | (revert hk_; simp only [and_imp]; intros; and_intros <;> assumption))); have n1_ := Aside0.mk (Kd.R_reok rfl hy0 (fun k_ e_ => HO_8.out.1 k_ e_)); have n2_ := Aside0.mk (Kd.R_mono (ok' := fun k_ => True) (Kd.R_keptB ((Kd.R_apart' HO_267000.out (Kd.R_typed HO_8.out) (by decide))) hkp (fun k_ hk_ hs_ => by first | exact (hk_.2) hs_ | (revert hk_; simp only [and_imp]; intros; exact absurd hs_ (by assumption)))) (fun k_ hk_ => trivial)); have n3_ := Aside0.mk (blk_kept (zh BK255.out) hkp (fun hs_ => (fun e_ => (Kd.R_ne HO_8.out BK255.out (by decide)) e_) hs_)); have n4_ := Aside0.mk (blk_kept (zh BK266.out) hkp (fun hs_ => (fun e_ => (Kd.R_ne HO_8.out BK266.out (by decide)) e_) hs_)); have n5_ := Aside0.mk (hb); clear HO_6; clear HO_8; clear HO_267000; clear BK255; clear BK266; clear HB; have HO_6 := n0_; have HO_8 := n1_; have HO_267000 := n2_; have BK255 := n3_; have BK266 := n4_; have HB := n5_; clear n0_ n1_ n2_ n3_ n4_ n5_; (try clear hb); (try clear hkp); (try clear hy0)) | ((with_reducible refine gate_callee (f := 17) rfl ?_); refine goesL_ (some 52) rfl rfl Try.func17 (by kernel_rfl) rfl #[.slice Ao33 t279.length co33, .int .i64 1] rfl (by (try simp only [List.map_toArray, List.map_cons, List.map_nil]); first | done | (rw [show t279.length = t267.length from (Kd.R_reads' HO_8.out).1.symm] <;> rfl) | rfl | (simp only [List.length_drop, List.length_take]; rfl)) ?_; (with_reducible refine (laws_heldIntS.calls kj17 _ _ t279 1 t280 _ ?side1 ?side2 A45.out).mono ?_); (case side1 => exact zc (Kd.R_reads' HO_8.out).2.2); (case side2 => rw [show t279.length = t267.length from (Kd.R_reads' HO_8.out).1.symm]; exact (Kd.R_reads' HO_8.out).2.1); rintro e w' ⟨rfl, ⟨nd, rfl⟩⟩; refine ⟨_, rfl, ?_⟩; have hnb78 := NB255_266.out; have hnc78 := NB266_255.out; have hcz79_0 : w77.cell? ⟨gb255, 0, none⟩ = some (.slice A0_0 l0_0.length c0_0) := (blk_cell BK255.out 0).trans rfl; have hfz79_0 := blk_frozen BK255.out 0) | ((with_reducible refine gate_callee (f := 11) rfl ?_); refine goesL_ (some 59) rfl rfl Try.func11 (by kernel_rfl) rfl #[.agg #[.slice A0_0 l0_0.length c0_0]] rfl zl ?_; (with_reducible refine (laws_toPool.calls kj17 _ _ l0_0 t281 _ ?side1 ?side2 A49.out).mono ?_); (case side1 => exact zc (Kd.C_below HR0_0.out (zb HB.out))); (case side2 => exact HC0_0.out); rintro e w80 ⟨v282, rfl, ho0, hb⟩; refine ⟨_, rfl, ?_⟩; have n0_ := Aside0.mk (Kd.R_below (zr HO_6.out) hb); have n1_ := Aside0.mk (Kd.R_below (zr HO_8.out) hb); have n2_ := Aside0.mk (Kd.R_elder' (zr HO_267000.out) (Kd.R_base ho0) hb); have n3_ := Aside0.mk (Kd.R_lower (Kd.R_new' ho0 (Kd.R_lt (zr HO_267000.out))) (below_size (zb HB.out))); have n4_ := Aside0.mk (blk_below (zh BK255.out) hb); have n5_ := Aside0.mk (blk_below (zh BK266.out) hb); have n6_ := Aside0.mk (below_step (zb HB.out) hb); clear HO_6; clear HO_8; clear HO_267000; clear BK255; clear BK266; clear HB; have HO_6 := n0_; have HO_8 := n1_; have HO_267000 := n2_; have HO283 := n3_; have BK255 := n4_; have BK266 := n5_; have HB := n6_; clear n0_ n1_ n2_ n3_ n4_ n5_ n6_; (try clear hb); (try clear hb2); (try clear hk); (try clear hi); (try clear ho0); obtain ⟨Ao81, co81, eo81⟩ := Kd.R_slice HO283.out; subst eo81) | ((with_reducible refine gate_callee (f := 12) rfl ?_); refine goesL_ (some 61) rfl rfl Try.func12 (by kernel_rfl) rfl #[.agg #[.slice Ao81 t281.length co81], .int .i64 a1] rfl zl ?_; (with_reducible refine (impl_TermNames.calls kj17 _ _ t281 a1 t284 _ ?side1 ?side2 A50.out).mono ?_); (case side1 => exact zc (Kd.R_reads' HO283.out).2.2); (case side2 => exact (Kd.R_reads' HO283.out).2.1); rintro e w82 ⟨v285, rfl, ho0, hb⟩; refine ⟨_, rfl, ?_⟩; have n0_ := Aside0.mk (Kd.R_elder' (zr HO_6.out) (Kd.R_base ho0) hb); have n1_ := Aside0.mk (Kd.R_elder' (zr HO_8.out) (Kd.R_base ho0) hb); have n2_ := Aside0.mk (Kd.R_below (zr HO_267000.out) hb); have n3_ := Aside0.mk (Kd.R_below (zr HO283.out) hb); have n4_ := Aside0.mk (Kd.R_lower (Kd.R_new' (Kd.R_new' ho0 (Kd.R_lt (zr HO_6.out))) (Kd.R_lt (zr HO_8.out))) (below_size (zb HB.out))); have n5_ := Aside0.mk (blk_below (zh BK255.out) hb); have n6_ := Aside0.mk (blk_below (zh BK266.out) hb); have n7_ := Aside0.mk (below_step (zb HB.out) hb); clear HO_6; clear HO_8; clear HO_267000; clear HO283; clear BK255; clear BK266; clear HB; have HO_6 := n0_; have HO_8 := n1_; have HO_267000 := n2_; have HO283 := n3_; have HO286 := n4_; have BK255 := n5_; have BK266 := n6_; have HB := n7_; clear n0_ n1_ n2_ n3_ n4_ n5_ n6_ n7_; (try clear hb); (try clear hb2); (try clear hk); (try clear hi); (try clear ho0); obtain ⟨Ao83, co83, eo83⟩ := Kd.R_slice HO286.out; subst eo83) | ((with_reducible refine gate_callee (f := 13) rfl ?_); refine goesL_ (some 64) rfl rfl Try.func13 (by kernel_rfl) rfl #[.slice Ao83 t284.length co83, .slice Ao34 t260.length co34] rfl zl ?_; (with_reducible refine (laws_eqIntS.calls kj17 _ _ t284 _ _ t260 false _ ?side1 ?side2 ?side3 ?side4 A51.out).mono ?_); (case side1 => exact zc (Kd.R_reads' HO286.out).2.2); (case side2 => exact (Kd.R_reads' HO286.out).2.1); (case side3 => exact zc (Kd.R_reads' HO_6.out).2.2); (case side4 => exact (Kd.R_reads' HO_6.out).2.1); rintro e w' ⟨rfl, ⟨nd, rfl⟩⟩; refine ⟨_, rfl, ?_⟩))
          go_ret
          exact ⟨ze, zb HB.out⟩
        ·rw [if_neg c48] at H
         have c48b0 : (t280 == t278) = false := beq_eq_false_iff_ne.mpr c48
         have c48b1 : (t280 != t278) = true := bne_iff_ne.mpr c48
         obtain rfl := Option.some.inj H
         go_wp2_with (first | ((with_reducible refine gate_callee (f := 16) rfl ?_); refine goesL_ (some 49) rfl rfl Try.func16 (by kernel_rfl) rfl #[.slice Ao33 t267.length co33, .int .i64 1] rfl zl ?_; (with_reducible refine (laws_markIntS.calls kj17 (fun k_ => some k_ = (.slice Ao33 t267.length co33 : Value).ownBlock) (.slice Ao33 t267.length co33) t267 1 t278 t279 w _ ?side1 ?side2 A44.out).mono ?_); (case side1 => repeat (first | (with_reducible first | exact HB.out | apply below_alloc | apply pw_below_drewN | apply below_drew1 | refine below_set ?_ GE255.out | refine below_set ?_ GE266.out) | exact HB.out)); (case side2 => exact Kd.R_tight rfl HO_8.out); rintro e w84 ⟨rfl, hy0, hb, hkp⟩; refine ⟨_, rfl, ?_⟩; have n0_ := Aside0.mk (Kd.R_mono (ok' := fun k_ => some k_ ≠ (.slice Ao33 t267.length co33 : Value).ownBlock) (Kd.R_keptB (HO_6.out) hkp (fun k_ hk_ hs_ => by first | exact (hk_) hs_ | (revert hk_; simp only [and_imp]; intros; exact absurd hs_ (by assumption)))) (fun k_ hk_ => by first | exact hk_.1 | (revert hk_; simp only [and_imp]; intros; and_intros <;> assumption))); have n1_ := Aside0.mk (Kd.R_reok rfl hy0 (fun k_ e_ => HO_8.out.1 k_ e_)); have n2_ := Aside0.mk (Kd.R_mono (ok' := fun k_ => True) (Kd.R_keptB ((Kd.R_apart' HO_267000.out (Kd.R_typed HO_8.out) (by decide))) hkp (fun k_ hk_ hs_ => by first | exact (hk_.2) hs_ | (revert hk_; simp only [and_imp]; intros; exact absurd hs_ (by assumption)))) (fun k_ hk_ => trivial)); have n3_ := Aside0.mk (blk_kept (zh BK255.out) hkp (fun hs_ => (fun e_ => (Kd.R_ne HO_8.out BK255.out (by decide)) e_) hs_)); have n4_ := Aside0.mk (blk_kept (zh BK266.out) hkp (fun hs_ => (fun e_ => (Kd.R_ne HO_8.out BK266.out (by decide)) e_) hs_)); have n5_ := Aside0.mk (hb); clear HO_6; clear HO_8; clear HO_267000; clear BK255; clear BK266; clear HB; have HO_6 := n0_; have HO_8 := n1_; have HO_267000 := n2_; have BK255 := n3_; have BK266 := n4_; have HB := n5_; clear n0_ n1_ n2_ n3_ n4_ n5_; (try clear hb); (try clear hkp); (try clear hy0)) | ((with_reducible refine gate_callee (f := 17) rfl ?_); refine goesL_ (some 52) rfl rfl Try.func17 (by kernel_rfl) rfl #[.slice Ao33 t279.length co33, .int .i64 1] rfl (by (try simp only [List.map_toArray, List.map_cons, List.map_nil]); first | done | (rw [show t279.length = t267.length from (Kd.R_reads' HO_8.out).1.symm] <;> rfl) | rfl | (simp only [List.length_drop, List.length_take]; rfl)) ?_; (with_reducible refine (laws_heldIntS.calls kj17 _ _ t279 1 t280 _ ?side1 ?side2 A45.out).mono ?_); (case side1 => exact zc (Kd.R_reads' HO_8.out).2.2); (case side2 => rw [show t279.length = t267.length from (Kd.R_reads' HO_8.out).1.symm]; exact (Kd.R_reads' HO_8.out).2.1); rintro e w' ⟨rfl, ⟨nd, rfl⟩⟩; refine ⟨_, rfl, ?_⟩))
         go_ret
         exact ⟨ze, zb HB.out⟩
   ·replace c16 := Bool.eq_false_iff.mpr c16
    subst c16
    have H1 : (some false) = some r := by rw [if_neg (show ¬ (false = true) by decide)] at H; exact H
    clear H
    have H := H1
    clear H1
    obtain rfl := Option.some.inj H
    go_enter Try.func3, Try.ntmps3
    try go_wp2_with (first | ((with_reducible refine gate_dst (N := 2) rfl ?_); refine box_event ?hg (N := 2) ?hd (cs := #[.slice A0_0 l0_0.length c0_0]) (t := 24) ?hr ?_; (case hd => rfl); (case hg => rfl); (case hr => first | (go_simp; done) | (go_simp; rfl)); intro gb255 hg w85 hbox hb; have n0_ := Aside0.mk (below_step (zb HB.out) hb); have n1_ := Aside0.mk (hbox); have n2_ := Aside0.mk ((by rw [hg]; exact (below_size (zb HB.out)) : w.heap.size ≤ gb255)); have n3_ := Aside0.mk ((by rw [hg]; exact (below_size (zb HB.out)) : w.heap.size ≤ gb255)); clear HB; have HB := n0_; have BK255 := n1_; have GW255 := n2_; have GE255 := n3_; clear n0_ n1_ n2_ n3_; clear hb hbox hg; have hcz86_0 : w85.cell? ⟨gb255, 0, none⟩ = some (.slice A0_0 l0_0.length c0_0) := (blk_cell BK255.out 0).trans rfl; have hfz86_0 := blk_frozen BK255.out 0) | ((with_reducible refine gate_callee (f := 9) rfl ?_); refine goesL_ (some 15) rfl rfl Try.func9 (by kernel_rfl) rfl #[.agg #[.slice A0_0 l0_0.length c0_0], .int .i64 1048576] rfl zl ?_; (with_reducible refine (laws_szPool.calls _ _ l0_0 1048576 t256 _ ?side1 ?side2 A3.out).mono ?_); (case side1 => exact zc (Kd.C_below HR0_0.out HB.out)); (case side2 => exact HC0_0.out); rintro e w87 ⟨rfl, hb⟩; refine ⟨_, rfl, ?_⟩; have n0_ := Aside0.mk (blk_below (zh BK255.out) hb); have n1_ := Aside0.mk (below_step (zb HB.out) hb); clear BK255; clear HB; have BK255 := n0_; have HB := n1_; clear n0_ n1_; (try clear hb); (try clear hb2); (try clear hk); (try clear hi); have hcz88_0 : w87.cell? ⟨gb255, 0, none⟩ = some (.slice A0_0 l0_0.length c0_0) := (blk_cell BK255.out 0).trans rfl; have hfz88_0 := blk_frozen BK255.out 0) | ((with_reducible refine gate_callee (f := 11) rfl ?_); refine goesL_ (some 19) rfl rfl Try.func11 (by kernel_rfl) rfl #[.agg #[.slice A0_0 l0_0.length c0_0]] rfl zl ?_; (with_reducible refine (laws_toPool.calls k _ _ l0_0 t257 _ ?side1 ?side2 A8.out).mono ?_); (case side1 => exact zc (Kd.C_below HR0_0.out HB.out)); (case side2 => exact HC0_0.out); rintro e w89 ⟨v258, rfl, ho0, hb⟩; refine ⟨_, rfl, ?_⟩; have n0_ := Aside0.mk (Kd.R_lower ho0 (below_size (zb HB.out))); have n1_ := Aside0.mk (blk_below (zh BK255.out) hb); have n2_ := Aside0.mk (below_step (zb HB.out) hb); clear BK255; clear HB; have HO259 := n0_; have BK255 := n1_; have HB := n2_; clear n0_ n1_ n2_; (try clear hb); (try clear hb2); (try clear hk); (try clear hi); (try clear ho0); obtain ⟨Ao90, co90, eo90⟩ := Kd.R_slice HO259.out; subst eo90) | ((with_reducible refine gate_callee (f := 10) rfl ?_); refine goesL_ (some 21) rfl rfl Try.func10 (by kernel_rfl) rfl #[.agg #[.slice Ao90 t257.length co90], .int .i64 a1] rfl zl ?_; (with_reducible refine (spec_TermNames.calls k _ _ t257 a1 t260 _ ?side1 ?side2 A9.out).mono ?_); (case side1 => exact zc (Kd.R_reads' HO259.out).2.2); (case side2 => exact (Kd.R_reads' HO259.out).2.1); rintro e w91 ⟨v261, rfl, ho0, hb⟩; refine ⟨_, rfl, ?_⟩; have n0_ := Aside0.mk (Kd.R_below (zr HO259.out) hb); have n1_ := Aside0.mk (Kd.R_lower ho0 (below_size (zb HB.out))); have n2_ := Aside0.mk (blk_below (zh BK255.out) hb); have n3_ := Aside0.mk (below_step (zb HB.out) hb); clear HO259; clear BK255; clear HB; have HO259 := n0_; have HO262 := n1_; have BK255 := n2_; have HB := n3_; clear n0_ n1_ n2_ n3_; (try clear hb); (try clear hb2); (try clear hk); (try clear hi); (try clear ho0); have hcz92_0 : w91.cell? ⟨gb255, 0, none⟩ = some (.slice A0_0 l0_0.length c0_0) := (blk_cell BK255.out 0).trans rfl; have hfz92_0 := blk_frozen BK255.out 0) | ((with_reducible refine gate_callee (f := 11) rfl ?_); refine goesL_ (some 23) rfl rfl Try.func11 (by kernel_rfl) rfl #[.agg #[.slice A0_0 l0_0.length c0_0]] rfl zl ?_; (with_reducible refine (laws_toPool.calls k _ _ l0_0 t263 _ ?side1 ?side2 A10.out).mono ?_); (case side1 => exact zc (Kd.C_below HR0_0.out HB.out)); (case side2 => exact HC0_0.out); rintro e w93 ⟨v264, rfl, ho0, hb⟩; refine ⟨_, rfl, ?_⟩; have n0_ := Aside0.mk (Kd.R_elder' (zr HO259.out) (Kd.R_base ho0) hb); have n1_ := Aside0.mk (Kd.R_below (zr HO262.out) hb); have n2_ := Aside0.mk (Kd.R_lower (Kd.R_new' ho0 (Kd.R_lt (zr HO259.out))) (below_size (zb HB.out))); have n3_ := Aside0.mk (blk_below (zh BK255.out) hb); have n4_ := Aside0.mk (below_step (zb HB.out) hb); clear HO259; clear HO262; clear BK255; clear HB; have HO259 := n0_; have HO262 := n1_; have HO265 := n2_; have BK255 := n3_; have HB := n4_; clear n0_ n1_ n2_ n3_ n4_; (try clear hb); (try clear hb2); (try clear hk); (try clear hi); (try clear ho0)) | ((with_reducible refine gate_dst (N := 7) rfl ?_); refine box_event ?hg (N := 7) ?hd (cs := #[.slice none 0 0]) (t := 30) ?hr ?_; (case hd => rfl); (case hg => rfl); (case hr => first | (go_simp; done) | (go_simp; rfl)); intro gb266 hg w94 hbox hb; have n0_ := Aside0.mk (Kd.R_below (zr HO259.out) hb); have n1_ := Aside0.mk (Kd.R_below (zr HO262.out) hb); have n2_ := Aside0.mk (Kd.R_below (zr HO265.out) hb); have n3_ := Aside0.mk (blk_below (zh BK255.out) hb); have n4_ := Aside0.mk (below_step (zb HB.out) hb); have n5_ := Aside0.mk (hbox); have n6_ := Aside0.mk ((by rw [hg]; exact (below_size (zb HB.out)) : w.heap.size ≤ gb266)); have n7_ := Aside0.mk ((by rw [hg]; exact (below_size (zb HB.out)) : w.heap.size ≤ gb266)); have n8_ := Aside0.mk ((by rw [hg]; exact Nat.ne_of_lt (blk_lt (zh BK255.out)) : gb255 ≠ gb266)); have n9_ := Aside0.mk ((by rw [hg]; exact Nat.ne_of_gt (blk_lt (zh BK255.out)) : gb266 ≠ gb255)); clear HO259; clear HO262; clear HO265; clear BK255; clear HB; have HO259 := n0_; have HO262 := n1_; have HO265 := n2_; have BK255 := n3_; have HB := n4_; have BK266 := n5_; have GW266 := n6_; have GE266 := n7_; have NB255_266 := n8_; have NB266_255 := n9_; clear n0_ n1_ n2_ n3_ n4_ n5_ n6_ n7_ n8_ n9_; clear hb hbox hg; obtain ⟨Ao95, co95, eo95⟩ := Kd.R_slice HO265.out; subst eo95; have hnb96 := NB266_255.out; have hnc96 := NB255_266.out; have hcz97_0 : w94.cell? ⟨gb266, 0, none⟩ = some (.slice none 0 0) := (blk_cell BK266.out 0).trans rfl; have hfz97_0 := blk_frozen BK266.out 0) | ((with_reducible refine gate_callee (f := 12) rfl ?_); refine goesL_ (some 26) rfl rfl Try.func12 (by kernel_rfl) rfl #[.agg #[.slice Ao95 t263.length co95], .int .i64 a1] rfl zl ?_; (with_reducible refine (impl_TermNames.calls k _ _ t263 a1 t267 _ ?side1 ?side2 A11.out).mono ?_); (case side1 => refine (Kd.R_reads' (e := 44) (base := w.heap.size) (ok := fun k_ => (True ∧ some k_ ≠ (.slice Ao90 t257.length co90 : Value).ownBlock)) (n := t263.length) (c := co95) ?_).2.2; exact (by (with_reducible repeat (first | apply Kd.R_alloc | apply Kd.R_drewN | apply Kd.R_drew)); exact (Kd.R_mono (Kd.R_far (p := ⟨gb266, 0, none⟩) (Kd.R_types HO265.out BK266.out (by decide)) (fun _ hk => hk.2) (.slice Ao95 t263.length co95)) (fun _ h_ => h_.1)))); (case side2 => exact (Kd.R_reads' HO265.out).2.1); rintro e w98 ⟨v268, rfl, ho0, hb⟩; refine ⟨_, rfl, ?_⟩; have n0_ := Aside0.mk (Kd.R_below (by (with_reducible repeat (first | apply Kd.R_alloc | apply Kd.R_drewN | apply Kd.R_drew)); exact (Kd.R_mono (Kd.R_far (p := ⟨gb266, 0, none⟩) (Kd.R_types HO259.out BK266.out (by decide)) (fun _ hk => hk.2) (.slice Ao95 t263.length co95)) (fun _ h_ => h_.1))) hb); have n1_ := Aside0.mk (Kd.R_elder' (by (with_reducible repeat (first | apply Kd.R_alloc | apply Kd.R_drewN | apply Kd.R_drew)); exact (Kd.R_mono (Kd.R_far (p := ⟨gb266, 0, none⟩) (Kd.R_types HO262.out BK266.out (by decide)) (fun _ hk => hk.2) (.slice Ao95 t263.length co95)) (fun _ h_ => h_.1))) (Kd.R_base ho0) hb); have n2_ := Aside0.mk (Kd.R_below (by (with_reducible repeat (first | apply Kd.R_alloc | apply Kd.R_drewN | apply Kd.R_drew)); exact (Kd.R_mono (Kd.R_far (p := ⟨gb266, 0, none⟩) (Kd.R_types HO265.out BK266.out (by decide)) (fun _ hk => hk.2) (.slice Ao95 t263.length co95)) (fun _ h_ => h_.1))) hb); have n3_ := Aside0.mk (Kd.R_lower (Kd.R_new' ho0 (Kd.R_lt (by (with_reducible repeat (first | apply Kd.R_alloc | apply Kd.R_drewN | apply Kd.R_drew)); exact (Kd.R_mono (Kd.R_far (p := ⟨gb266, 0, none⟩) (Kd.R_types HO262.out BK266.out (by decide)) (fun _ hk => hk.2) (.slice Ao95 t263.length co95)) (fun _ h_ => h_.1))))) (below_size (zb HB.out))); have n4_ := Aside0.mk (blk_below (g := gb255) (o := .cells #[.slice A0_0 l0_0.length c0_0] 24 (0, 0)) (zf BK255.out) hb); have n5_ := Aside0.mk (blk_below (g := gb266) (o := .cells #[.slice Ao95 t263.length co95] 30 (0, 0)) (by (with_reducible repeat (first | refine blk_drewN ?_ _ | refine blk_drew ?_ | refine blk_alloc ?_ _)); refine blk_put (cs := #[.slice none 0 0]) ?_ 0 _ rfl; (with_reducible repeat (first | refine blk_drewN ?_ _ | refine blk_drew ?_ | refine blk_alloc ?_ _)); exact BK266.out) hb); have n6_ := Aside0.mk (below_step (zb HB.out) hb); clear HO259; clear HO262; clear HO265; clear BK255; clear BK266; clear HB; have HO259 := n0_; have HO262 := n1_; have HO265 := n2_; have HO269 := n3_; have BK255 := n4_; have BK266 := n5_; have HB := n6_; clear n0_ n1_ n2_ n3_ n4_ n5_ n6_; (try clear hb); (try clear hb2); (try clear hk); (try clear hi); (try clear ho0); obtain ⟨Ao99, co99, eo99⟩ := Kd.R_slice HO269.out; subst eo99; obtain ⟨Ao100, co100, eo100⟩ := Kd.R_slice HO262.out; subst eo100) | ((with_reducible refine gate_callee (f := 13) rfl ?_); refine goesL_ (some 29) rfl rfl Try.func13 (by kernel_rfl) rfl #[.slice Ao99 t267.length co99, .slice Ao100 t260.length co100] rfl zl ?_; (with_reducible refine (laws_eqIntS.calls k _ _ t267 _ _ t260 true _ ?side1 ?side2 ?side3 ?side4 A12.out).mono ?_); (case side1 => exact zc (Kd.R_reads' HO269.out).2.2); (case side2 => exact (Kd.R_reads' HO269.out).2.1); (case side3 => exact zc (Kd.R_reads' HO262.out).2.2); (case side4 => exact (Kd.R_reads' HO262.out).2.1); rintro e w' ⟨rfl, ⟨nd, rfl⟩⟩; refine ⟨_, rfl, ?_⟩))
    (try (rw [drewN_self w98]; generalize hq_ : World.drewN w98 _ = w98; have n0_ : Aside0 (Kd.R k44 44 w98 w.heap.size (fun k_ => some k_ ≠ (.slice Ao95 t263.length co95 : Value).ownBlock) (.slice Ao90 t257.length co90) t257) := ⟨by rw [← hq_]; exact (by (with_reducible repeat (first | apply Kd.R_alloc | apply Kd.R_drewN | apply Kd.R_drew)); exact Kd.R_mono HO259.out (fun _ hk => hk.2))⟩; have n1_ : Aside0 (Kd.R (Kd.int .i64) 3 w98 w.heap.size (fun k_ => some k_ ≠ (.slice Ao99 t267.length co99 : Value).ownBlock) (.slice Ao100 t260.length co100) t260) := ⟨by rw [← hq_]; exact (by (with_reducible repeat (first | apply Kd.R_alloc | apply Kd.R_drewN | apply Kd.R_drew)); exact Kd.R_mono HO262.out (fun _ hk => hk.2))⟩; have n2_ : Aside0 (Kd.R k44 44 w98 w.heap.size (fun k_ => some k_ ≠ (.slice Ao90 t257.length co90 : Value).ownBlock) (.slice Ao95 t263.length co95) t263) := ⟨by rw [← hq_]; exact (by (with_reducible repeat (first | apply Kd.R_alloc | apply Kd.R_drewN | apply Kd.R_drew)); exact Kd.R_mono HO265.out (fun _ hk => hk.2))⟩; have n3_ : Aside0 (Kd.R (Kd.int .i64) 3 w98 w.heap.size (fun k_ => some k_ ≠ (.slice Ao100 t260.length co100 : Value).ownBlock) (.slice Ao99 t267.length co99) t267) := ⟨by rw [← hq_]; exact (by (with_reducible repeat (first | apply Kd.R_alloc | apply Kd.R_drewN | apply Kd.R_drew)); exact Kd.R_mono HO269.out (fun _ hk => hk.2))⟩; have n4_ : Aside0 (w98.heap[gb255]? = some (.cells #[.slice A0_0 l0_0.length c0_0] 24 (0, 0))) := ⟨by rw [← hq_]; exact (zh BK255.out)⟩; have n5_ : Aside0 (w98.heap[gb266]? = some (.cells #[.slice Ao95 t263.length co95] 30 (0, 0))) := ⟨by rw [← hq_]; exact (zh BK266.out)⟩; have n6_ : Aside0 (Below w.heap.size w w98) := ⟨by rw [← hq_]; exact (zb HB.out)⟩; clear HO259 HO262 HO265 HO269 BK255 BK266 HB hq_; have HO259 := n0_; have HO262 := n1_; have HO265 := n2_; have HO269 := n3_; have BK255 := n4_; have BK266 := n5_; have HB := n6_; clear n0_ n1_ n2_ n3_ n4_ n5_ n6_))
    have n0_ := Aside0.mk (Kd.R_drew HO259.out)
    have n1_ := Aside0.mk (Kd.R_drew HO262.out)
    have n2_ := Aside0.mk (Kd.R_drew HO265.out)
    have n3_ := Aside0.mk (Kd.R_drew HO269.out)
    have n4_ := Aside0.mk (blk_drew BK255.out)
    have n5_ := Aside0.mk (blk_drew BK266.out)
    have n6_ := Aside0.mk (below_drew1 HB.out)
    clear HO259
    clear HO262
    clear HO265
    clear HO269
    clear BK255
    clear BK266
    clear HB
    have HO259 := n0_
    have HO262 := n1_
    have HO265 := n2_
    have HO269 := n3_
    have BK255 := n4_
    have BK266 := n5_
    have HB := n6_
    clear n0_ n1_ n2_ n3_ n4_ n5_ n6_
    refine start_ (n := 5) (S := fun w' => w'.cell? ⟨gb266, 0, none⟩ = some (.slice Ao95 t263.length co95) ∧ w'.cell? ⟨gb255, 0, none⟩ = some (.slice A0_0 l0_0.length c0_0)) (ds := []) #[false, false, false, false, false] (by kernel_rfl) rfl rfl ⟨(blk_cell BK266.out 0).trans rfl, (blk_cell BK255.out 0).trans rfl⟩ (fun hHeld => ?_)
    generalize w98.drew = w101 at HO259 HO262 HO265 HO269 BK255 BK266 HB hHeld ⊢
    refine take_ (i := 0) (N := some 31) (v := ?_) (a' := ?_) #[true, false, false, false, false] rfl rfl (by kernel_rfl) (fun _ _ _ h => h) (Or.inl ⟨by rfl, ?_⟩) hHeld ?_ ?_
    rotate_left
    ·rintro w' ⟨s0, s1⟩
     go_simp
     with_reducible rfl
    rotate_left
    ·simp only [Act.put, List.setIfInBounds_toArray, List.set_cons_zero, List.set_cons_succ, i64_w, i32_w]
     rfl
    refine take_ (i := 1) (N := some 32) (v := ?_) (a' := ?_) #[true, true, false, false, false] rfl rfl (by kernel_rfl) (fun _ _ _ h => h) (Or.inl ⟨by rfl, ?_⟩) hHeld ?_ ?_
    rotate_left
    ·rintro w' ⟨s0, s1⟩
     go_simp
     with_reducible rfl
    rotate_left
    ·simp only [Act.put, List.setIfInBounds_toArray, List.set_cons_zero, List.set_cons_succ, i64_w, i32_w]
     rfl
    refine one_ (i := 2) (N := some 33) #[true, true, true, false, false] rfl rfl (by kernel_rfl) (by decide) (fun K hK => ?_)
    refine goes_ Try.func11 (by kernel_rfl) rfl #[.agg #[.slice A0_0 l0_0.length c0_0]] (by rfl) rfl rfl zl ?_
    with_reducible refine (laws_toPool.calls k _ _ l0_0 t271 _ ?side1 ?side2 A14.out).mono ?_
    (case side1 => exact zc (Kd.C_below HR0_0.out HB.out))
    (case side2 => exact HC0_0.out)
    rintro e w102 ⟨v272, rfl, ho0, hb⟩
    refine ⟨_, rfl, ?_⟩
    have n0_ := Aside0.mk (Kd.R_elder' (zr HO259.out) (Kd.R_base ho0) hb)
    have n1_ := Aside0.mk (Kd.R_below (zr HO262.out) hb)
    have n2_ := Aside0.mk (Kd.R_elder' (zr HO265.out) (Kd.R_base ho0) hb)
    have n3_ := Aside0.mk (Kd.R_below (zr HO269.out) hb)
    have n4_ := Aside0.mk (Kd.R_lower (Kd.R_new' (Kd.R_new' ho0 (Kd.R_lt (zr HO259.out))) (Kd.R_lt (zr HO265.out))) (below_size (zb HB.out)))
    have n5_ := Aside0.mk (blk_below (zh BK255.out) hb)
    have n6_ := Aside0.mk (blk_below (zh BK266.out) hb)
    have n7_ := Aside0.mk (below_step (zb HB.out) hb)
    clear HO259
    clear HO262
    clear HO265
    clear HO269
    clear BK255
    clear BK266
    clear HB
    have HO259 := n0_
    have HO262 := n1_
    have HO265 := n2_
    have HO269 := n3_
    have HO273 := n4_
    have BK255 := n5_
    have BK266 := n6_
    have HB := n7_
    clear n0_ n1_ n2_ n3_ n4_ n5_ n6_ n7_
    (try clear hb)
    (try clear hb2)
    (try clear hk)
    (try clear hi)
    (try clear ho0)
    obtain ⟨Ao103, co103, eo103⟩ := Kd.R_slice HO273.out
    (first | subst eo103 | (injection eo103 with f1_ f2_ f3_; have f4_ := f1_.symm; have f5_ := f3_.symm; clear f1_ f2_ f3_; subst f4_; subst f5_))
    refine hK.out _ _ ⟨(blk_cell BK266.out 0).trans rfl, (blk_cell BK255.out 0).trans rfl⟩ (fun hHeld => ?_)
    clear hK K
    refine norm_ (a' := ?_) ?_ ?_
    rotate_left
    ·show Act.put _ (some 33) _ = _
     simp only [Act.put, List.setIfInBounds_toArray, List.set_cons_zero, List.set_cons_succ, i64_w, i32_w]
     rfl
    refine one_ (i := 3) (N := some 34) #[true, true, true, true, false] rfl rfl (by kernel_rfl) (by decide) (fun K hK => ?_)
    refine goes_ Try.func14 (by kernel_rfl) rfl #[.agg #[.slice Ao95 t263.length co95], .agg #[.slice Ao103 t271.length co103]] (by rfl) rfl rfl zl ?_
    with_reducible refine (laws_eqPool.calls k _ _ t263 _ _ t271 false _ ?side1 ?side2 ?side3 ?side4 A15.out).mono ?_
    (case side1 => exact zc (Kd.R_reads' HO265.out).2.2)
    (case side2 => exact (Kd.R_reads' HO265.out).2.1)
    (case side3 => exact zc (Kd.R_reads' HO273.out).2.2)
    (case side4 => exact (Kd.R_reads' HO273.out).2.1)
    rintro e w104 ⟨rfl, hb⟩
    refine ⟨_, rfl, ?_⟩
    have n0_ := Aside0.mk (Kd.R_below (zr HO259.out) hb)
    have n1_ := Aside0.mk (Kd.R_below (zr HO262.out) hb)
    have n2_ := Aside0.mk (Kd.R_below (zr HO265.out) hb)
    have n3_ := Aside0.mk (Kd.R_below (zr HO269.out) hb)
    have n4_ := Aside0.mk (Kd.R_below (zr HO273.out) hb)
    have n5_ := Aside0.mk (blk_below (zh BK255.out) hb)
    have n6_ := Aside0.mk (blk_below (zh BK266.out) hb)
    have n7_ := Aside0.mk (below_step (zb HB.out) hb)
    clear HO259
    clear HO262
    clear HO265
    clear HO269
    clear HO273
    clear BK255
    clear BK266
    clear HB
    have HO259 := n0_
    have HO262 := n1_
    have HO265 := n2_
    have HO269 := n3_
    have HO273 := n4_
    have BK255 := n5_
    have BK266 := n6_
    have HB := n7_
    clear n0_ n1_ n2_ n3_ n4_ n5_ n6_ n7_
    (try clear hb)
    (try clear hb2)
    (try clear hk)
    (try clear hi)
    refine hK.out _ _ ⟨(blk_cell BK266.out 0).trans rfl, (blk_cell BK255.out 0).trans rfl⟩ (fun hHeld => ?_)
    clear hK K
    refine norm_ (a' := ?_) ?_ ?_
    rotate_left
    ·show Act.put _ (some 34) _ = _
     simp only [Act.put, List.setIfInBounds_toArray, List.set_cons_zero, List.set_cons_succ, i64_w, i32_w]
     rfl
    refine pure_ (i := 4) (N := some 35) (v := ?_) (a' := ?_) #[true, true, true, true, true] rfl rfl (by kernel_rfl) (fun _ _ _ h => h) (Or.inl ⟨by rfl, ?_⟩) ?_ ?_
    rotate_left
    ·intro w'
     go_simp
     with_reducible rfl
    rotate_left
    ·simp only [Act.put, List.setIfInBounds_toArray, List.set_cons_zero, List.set_cons_succ, i64_w, i32_w]
     rfl
    refine done_ (by kernel_rfl) ?_
    try go_wp2
    go_ret
    exact ⟨ze, zb HB.out⟩
  ·replace c13 := Bool.eq_false_iff.mpr c13
   subst c13
   have H1 : (some false) = some r := by rw [if_neg (show ¬ (false = true) by decide)] at H; exact H
   clear H
   have H := H1
   clear H1
   obtain rfl := Option.some.inj H
   go_enter Try.func3, Try.ntmps3
   go_wp2_with (first | ((with_reducible refine gate_dst (N := 2) rfl ?_); refine box_event ?hg (N := 2) ?hd (cs := #[.slice A0_0 l0_0.length c0_0]) (t := 24) ?hr ?_; (case hd => rfl); (case hg => rfl); (case hr => first | (go_simp; done) | (go_simp; rfl)); intro gb255 hg w105 hbox hb; have n0_ := Aside0.mk (below_step (zb HB.out) hb); have n1_ := Aside0.mk (hbox); have n2_ := Aside0.mk ((by rw [hg]; exact (below_size (zb HB.out)) : w.heap.size ≤ gb255)); have n3_ := Aside0.mk ((by rw [hg]; exact (below_size (zb HB.out)) : w.heap.size ≤ gb255)); clear HB; have HB := n0_; have BK255 := n1_; have GW255 := n2_; have GE255 := n3_; clear n0_ n1_ n2_ n3_; clear hb hbox hg; have hcz106_0 : w105.cell? ⟨gb255, 0, none⟩ = some (.slice A0_0 l0_0.length c0_0) := (blk_cell BK255.out 0).trans rfl; have hfz106_0 := blk_frozen BK255.out 0) | ((with_reducible refine gate_callee (f := 9) rfl ?_); refine goesL_ (some 15) rfl rfl Try.func9 (by kernel_rfl) rfl #[.agg #[.slice A0_0 l0_0.length c0_0], .int .i64 1048576] rfl zl ?_; (with_reducible refine (laws_szPool.calls _ _ l0_0 1048576 t256 _ ?side1 ?side2 A3.out).mono ?_); (case side1 => exact zc (Kd.C_below HR0_0.out HB.out)); (case side2 => exact HC0_0.out); rintro e w107 ⟨rfl, hb⟩; refine ⟨_, rfl, ?_⟩; have n0_ := Aside0.mk (blk_below (zh BK255.out) hb); have n1_ := Aside0.mk (below_step (zb HB.out) hb); clear BK255; clear HB; have BK255 := n0_; have HB := n1_; clear n0_ n1_; (try clear hb); (try clear hb2); (try clear hk); (try clear hi); have hcz108_0 : w107.cell? ⟨gb255, 0, none⟩ = some (.slice A0_0 l0_0.length c0_0) := (blk_cell BK255.out 0).trans rfl; have hfz108_0 := blk_frozen BK255.out 0) | ((with_reducible refine gate_callee (f := 11) rfl ?_); refine goesL_ (some 19) rfl rfl Try.func11 (by kernel_rfl) rfl #[.agg #[.slice A0_0 l0_0.length c0_0]] rfl zl ?_; (with_reducible refine (laws_toPool.calls k _ _ l0_0 t257 _ ?side1 ?side2 A8.out).mono ?_); (case side1 => exact zc (Kd.C_below HR0_0.out HB.out)); (case side2 => exact HC0_0.out); rintro e w109 ⟨v258, rfl, ho0, hb⟩; refine ⟨_, rfl, ?_⟩; have n0_ := Aside0.mk (Kd.R_lower ho0 (below_size (zb HB.out))); have n1_ := Aside0.mk (blk_below (zh BK255.out) hb); have n2_ := Aside0.mk (below_step (zb HB.out) hb); clear BK255; clear HB; have HO259 := n0_; have BK255 := n1_; have HB := n2_; clear n0_ n1_ n2_; (try clear hb); (try clear hb2); (try clear hk); (try clear hi); (try clear ho0); obtain ⟨Ao110, co110, eo110⟩ := Kd.R_slice HO259.out; subst eo110) | ((with_reducible refine gate_callee (f := 10) rfl ?_); refine goesL_ (some 21) rfl rfl Try.func10 (by kernel_rfl) rfl #[.agg #[.slice Ao110 t257.length co110], .int .i64 a1] rfl zl ?_; (with_reducible refine (spec_TermNames.calls k _ _ t257 a1 t260 _ ?side1 ?side2 A9.out).mono ?_); (case side1 => exact zc (Kd.R_reads' HO259.out).2.2); (case side2 => exact (Kd.R_reads' HO259.out).2.1); rintro e w111 ⟨v261, rfl, ho0, hb⟩; refine ⟨_, rfl, ?_⟩; have n0_ := Aside0.mk (Kd.R_below (zr HO259.out) hb); have n1_ := Aside0.mk (Kd.R_lower ho0 (below_size (zb HB.out))); have n2_ := Aside0.mk (blk_below (zh BK255.out) hb); have n3_ := Aside0.mk (below_step (zb HB.out) hb); clear HO259; clear BK255; clear HB; have HO259 := n0_; have HO262 := n1_; have BK255 := n2_; have HB := n3_; clear n0_ n1_ n2_ n3_; (try clear hb); (try clear hb2); (try clear hk); (try clear hi); (try clear ho0); have hcz112_0 : w111.cell? ⟨gb255, 0, none⟩ = some (.slice A0_0 l0_0.length c0_0) := (blk_cell BK255.out 0).trans rfl; have hfz112_0 := blk_frozen BK255.out 0) | ((with_reducible refine gate_callee (f := 11) rfl ?_); refine goesL_ (some 23) rfl rfl Try.func11 (by kernel_rfl) rfl #[.agg #[.slice A0_0 l0_0.length c0_0]] rfl zl ?_; (with_reducible refine (laws_toPool.calls k _ _ l0_0 t263 _ ?side1 ?side2 A10.out).mono ?_); (case side1 => exact zc (Kd.C_below HR0_0.out HB.out)); (case side2 => exact HC0_0.out); rintro e w113 ⟨v264, rfl, ho0, hb⟩; refine ⟨_, rfl, ?_⟩; have n0_ := Aside0.mk (Kd.R_elder' (zr HO259.out) (Kd.R_base ho0) hb); have n1_ := Aside0.mk (Kd.R_below (zr HO262.out) hb); have n2_ := Aside0.mk (Kd.R_lower (Kd.R_new' ho0 (Kd.R_lt (zr HO259.out))) (below_size (zb HB.out))); have n3_ := Aside0.mk (blk_below (zh BK255.out) hb); have n4_ := Aside0.mk (below_step (zb HB.out) hb); clear HO259; clear HO262; clear BK255; clear HB; have HO259 := n0_; have HO262 := n1_; have HO265 := n2_; have BK255 := n3_; have HB := n4_; clear n0_ n1_ n2_ n3_ n4_; (try clear hb); (try clear hb2); (try clear hk); (try clear hi); (try clear ho0)) | ((with_reducible refine gate_dst (N := 7) rfl ?_); refine box_event ?hg (N := 7) ?hd (cs := #[.slice none 0 0]) (t := 30) ?hr ?_; (case hd => rfl); (case hg => rfl); (case hr => first | (go_simp; done) | (go_simp; rfl)); intro gb266 hg w114 hbox hb; have n0_ := Aside0.mk (Kd.R_below (zr HO259.out) hb); have n1_ := Aside0.mk (Kd.R_below (zr HO262.out) hb); have n2_ := Aside0.mk (Kd.R_below (zr HO265.out) hb); have n3_ := Aside0.mk (blk_below (zh BK255.out) hb); have n4_ := Aside0.mk (below_step (zb HB.out) hb); have n5_ := Aside0.mk (hbox); have n6_ := Aside0.mk ((by rw [hg]; exact (below_size (zb HB.out)) : w.heap.size ≤ gb266)); have n7_ := Aside0.mk ((by rw [hg]; exact (below_size (zb HB.out)) : w.heap.size ≤ gb266)); have n8_ := Aside0.mk ((by rw [hg]; exact Nat.ne_of_lt (blk_lt (zh BK255.out)) : gb255 ≠ gb266)); have n9_ := Aside0.mk ((by rw [hg]; exact Nat.ne_of_gt (blk_lt (zh BK255.out)) : gb266 ≠ gb255)); clear HO259; clear HO262; clear HO265; clear BK255; clear HB; have HO259 := n0_; have HO262 := n1_; have HO265 := n2_; have BK255 := n3_; have HB := n4_; have BK266 := n5_; have GW266 := n6_; have GE266 := n7_; have NB255_266 := n8_; have NB266_255 := n9_; clear n0_ n1_ n2_ n3_ n4_ n5_ n6_ n7_ n8_ n9_; clear hb hbox hg; obtain ⟨Ao115, co115, eo115⟩ := Kd.R_slice HO265.out; subst eo115; have hnb116 := NB266_255.out; have hnc116 := NB255_266.out; have hcz117_0 : w114.cell? ⟨gb266, 0, none⟩ = some (.slice none 0 0) := (blk_cell BK266.out 0).trans rfl; have hfz117_0 := blk_frozen BK266.out 0) | ((with_reducible refine gate_callee (f := 12) rfl ?_); refine goesL_ (some 26) rfl rfl Try.func12 (by kernel_rfl) rfl #[.agg #[.slice Ao115 t263.length co115], .int .i64 a1] rfl zl ?_; (with_reducible refine (impl_TermNames.calls k _ _ t263 a1 t267 _ ?side1 ?side2 A11.out).mono ?_); (case side1 => refine (Kd.R_reads' (e := 44) (base := w.heap.size) (ok := fun k_ => (True ∧ some k_ ≠ (.slice Ao110 t257.length co110 : Value).ownBlock)) (n := t263.length) (c := co115) ?_).2.2; exact (by (with_reducible repeat (first | apply Kd.R_alloc | apply Kd.R_drewN | apply Kd.R_drew)); exact (Kd.R_mono (Kd.R_far (p := ⟨gb266, 0, none⟩) (Kd.R_types HO265.out BK266.out (by decide)) (fun _ hk => hk.2) (.slice Ao115 t263.length co115)) (fun _ h_ => h_.1)))); (case side2 => exact (Kd.R_reads' HO265.out).2.1); rintro e w118 ⟨v268, rfl, ho0, hb⟩; refine ⟨_, rfl, ?_⟩; have n0_ := Aside0.mk (Kd.R_below (by (with_reducible repeat (first | apply Kd.R_alloc | apply Kd.R_drewN | apply Kd.R_drew)); exact (Kd.R_mono (Kd.R_far (p := ⟨gb266, 0, none⟩) (Kd.R_types HO259.out BK266.out (by decide)) (fun _ hk => hk.2) (.slice Ao115 t263.length co115)) (fun _ h_ => h_.1))) hb); have n1_ := Aside0.mk (Kd.R_elder' (by (with_reducible repeat (first | apply Kd.R_alloc | apply Kd.R_drewN | apply Kd.R_drew)); exact (Kd.R_mono (Kd.R_far (p := ⟨gb266, 0, none⟩) (Kd.R_types HO262.out BK266.out (by decide)) (fun _ hk => hk.2) (.slice Ao115 t263.length co115)) (fun _ h_ => h_.1))) (Kd.R_base ho0) hb); have n2_ := Aside0.mk (Kd.R_below (by (with_reducible repeat (first | apply Kd.R_alloc | apply Kd.R_drewN | apply Kd.R_drew)); exact (Kd.R_mono (Kd.R_far (p := ⟨gb266, 0, none⟩) (Kd.R_types HO265.out BK266.out (by decide)) (fun _ hk => hk.2) (.slice Ao115 t263.length co115)) (fun _ h_ => h_.1))) hb); have n3_ := Aside0.mk (Kd.R_lower (Kd.R_new' ho0 (Kd.R_lt (by (with_reducible repeat (first | apply Kd.R_alloc | apply Kd.R_drewN | apply Kd.R_drew)); exact (Kd.R_mono (Kd.R_far (p := ⟨gb266, 0, none⟩) (Kd.R_types HO262.out BK266.out (by decide)) (fun _ hk => hk.2) (.slice Ao115 t263.length co115)) (fun _ h_ => h_.1))))) (below_size (zb HB.out))); have n4_ := Aside0.mk (blk_below (g := gb255) (o := .cells #[.slice A0_0 l0_0.length c0_0] 24 (0, 0)) (zf BK255.out) hb); have n5_ := Aside0.mk (blk_below (g := gb266) (o := .cells #[.slice Ao115 t263.length co115] 30 (0, 0)) (by (with_reducible repeat (first | refine blk_drewN ?_ _ | refine blk_drew ?_ | refine blk_alloc ?_ _)); refine blk_put (cs := #[.slice none 0 0]) ?_ 0 _ rfl; (with_reducible repeat (first | refine blk_drewN ?_ _ | refine blk_drew ?_ | refine blk_alloc ?_ _)); exact BK266.out) hb); have n6_ := Aside0.mk (below_step (zb HB.out) hb); clear HO259; clear HO262; clear HO265; clear BK255; clear BK266; clear HB; have HO259 := n0_; have HO262 := n1_; have HO265 := n2_; have HO269 := n3_; have BK255 := n4_; have BK266 := n5_; have HB := n6_; clear n0_ n1_ n2_ n3_ n4_ n5_ n6_; (try clear hb); (try clear hb2); (try clear hk); (try clear hi); (try clear ho0); obtain ⟨Ao119, co119, eo119⟩ := Kd.R_slice HO269.out; subst eo119; obtain ⟨Ao120, co120, eo120⟩ := Kd.R_slice HO262.out; subst eo120) | ((with_reducible refine gate_callee (f := 13) rfl ?_); refine goesL_ (some 29) rfl rfl Try.func13 (by kernel_rfl) rfl #[.slice Ao119 t267.length co119, .slice Ao120 t260.length co120] rfl zl ?_; (with_reducible refine (laws_eqIntS.calls k _ _ t267 _ _ t260 false _ ?side1 ?side2 ?side3 ?side4 A12.out).mono ?_); (case side1 => exact zc (Kd.R_reads' HO269.out).2.2); (case side2 => exact (Kd.R_reads' HO269.out).2.1); (case side3 => exact zc (Kd.R_reads' HO262.out).2.2); (case side4 => exact (Kd.R_reads' HO262.out).2.1); rintro e w' ⟨rfl, ⟨nd, rfl⟩⟩; refine ⟨_, rfl, ?_⟩))
   go_ret
   exact ⟨ze, zb HB.out⟩

end Go.Proofs.Ytdgahpigcaejbaa.A
end
