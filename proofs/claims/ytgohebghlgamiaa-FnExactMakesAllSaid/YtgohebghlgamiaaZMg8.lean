import Derived.Test.YtgohebghlgamiaaZM0
import Derived.Test.YtgohebghlgamiaaZMg0
import Derived.Test.YtgohebghlgamiaaZMg2
import Derived.Test.YtgohebghlgamiaaZMg4
import Derived.Test.YtgohebghlgamiaaZMg6
import Derived.Test.YtgohebghlgamiaaZMg7
section
-- Written by this session's program (wip/tools/gprint.py over the kit's print) out of the translation; Lean checks it.
namespace Go.Proofs.Ytgohebghlgamiaa.M
open Go.RowKit Go.Proofs.YtgohebghlgamiaaW.PrintWords Go.Proofs.YtgohebghlgamiaaW.PrintLast Go.Proofs.YtgohebghlgamiaaW.PrintMore
attribute [local go_sem] max2_int min2_int max_two min_two max_three min_three max_four min_four   -- for this text's walks alone
set_option linter.unusedVariables false
set_option linter.unusedSimpArgs false
set_option maxRecDepth 100000

/-! ### laws_FnExactMakes: function 3 -/
def laws_FnExactMakes.f (k : Nat) (l0_0 : List (S77)) (l1 : List Int) (a2 : Int) : Option (Bool) := if (l1.length : Int) > 1048576 then (some true) else ((laws_szPool.f l0_0 1048576).bind fun t257 => (if t257 < 0 then (some true) else ((laws_toPool.f k l0_0).bind fun t258 => ((laws_toIntS.f k l1).bind fun t261 => ((spec_Makes.f k t258 t261 a2).bind fun t264 => ((laws_toPool.f k l0_0).bind fun t265 => ((laws_toIntS.f k l1).bind fun t269 => ((impl_Makes.f k t265 t269 a2).bind fun t272 => (if (t272 != t264) = true then (some false) else ((laws_toPool.f k l0_0).bind fun t273 => ((laws_eqPool.f k t265 t273).bind fun t276 => (if t276 = true then ((laws_toIntS.f k l1).bind fun t277 => ((laws_eqIntS.f k t269 t277).bind fun t280 => (if t280 = true then (some true) else (some false)))) else (some false)))))))))))))
theorem laws_FnExactMakes.mono : ∀ a0 a1 a2 k, LeO (laws_FnExactMakes.f k a0 a1 a2) (laws_FnExactMakes.f (k + 1) a0 a1 a2) := by
 intro a0 a1 a2 k
 unfold laws_FnExactMakes.f
 repeat' first
   | (with_reducible exact impl_Makes.mono _ _ _ _)
   | (with_reducible exact laws_eqIntS.mono _ _ _)
   | (with_reducible exact laws_eqPool.mono _ _ _)
   | (with_reducible exact laws_toIntS.mono _ _)
   | (with_reducible exact laws_toPool.mono _ _)
   | (with_reducible exact spec_Makes.mono _ _ _ _)
   | (with_reducible exact LeO.refl _)
   | (with_reducible exact LeO.none _)
   | (with_reducible refine LeO.ite ?_ ?_)
   | (with_reducible refine LeO.bind ?_ (fun _ => ?_))
   | exact impl_Makes.mono _ _ _ _
   | exact laws_eqIntS.mono _ _ _
   | exact laws_eqPool.mono _ _ _
   | exact laws_toIntS.mono _ _
   | exact laws_toPool.mono _ _
   | exact spec_Makes.mono _ _ _ _
   | exact LeO.none _
   | refine LeO.ite ?_ ?_
   | refine LeO.bind ?_ (fun _ => ?_)
set_option maxHeartbeats 8000000 in
set_option maxRecDepth 100000 in
theorem laws_FnExactMakes.calls (k : Nat) (A0_0 : Option Addr) (c0_0 : Nat) (l0_0 : List (S77)) (A1 : Option Addr) (c1 : Nat) (l1 : List Int) (a2 : Int) (r : Bool) (w : World) (hr0_0 : Kd.C k77 w A0_0 l0_0.length l0_0) (hc0_0 : l0_0.length ≤ c0_0) (hr1 : Kd.C (Kd.int .i64) w A1 l1.length l1) (hc1 : l1.length ≤ c1) (h : laws_FnExactMakes.f k l0_0 l1 a2 = some r) :
  Calls Try.prog 3 #[.agg #[.slice A0_0 l0_0.length c0_0], .slice A1 l1.length c1, .int .i64 a2] w fun e w' => e = .returned (.bool r) ∧ Below w.heap.size w w' := by
 have hu24 := Try.underlying24
 have hu30 := Try.underlying30
 have HR0_0 := Aside0.mk hr0_0
 have HC0_0 := Aside0.mk hc0_0
 clear hr0_0 hc0_0
 have HR1 := Aside0.mk hr1
 have HC1 := Aside0.mk hc1
 clear hr1 hc1
 have HB := Aside0.mk (Below.refl w.heap.size w)
 have H : (if (l1.length : Int) > 1048576 then (some true) else ((laws_szPool.f l0_0 1048576).bind fun t257 => (if t257 < 0 then (some true) else ((laws_toPool.f k l0_0).bind fun t258 => ((laws_toIntS.f k l1).bind fun t261 => ((spec_Makes.f k t258 t261 a2).bind fun t264 => ((laws_toPool.f k l0_0).bind fun t265 => ((laws_toIntS.f k l1).bind fun t269 => ((impl_Makes.f k t265 t269 a2).bind fun t272 => (if (t272 != t264) = true then (some false) else ((laws_toPool.f k l0_0).bind fun t273 => ((laws_eqPool.f k t265 t273).bind fun t276 => (if t276 = true then ((laws_toIntS.f k l1).bind fun t277 => ((laws_eqIntS.f k t269 t277).bind fun t280 => (if t280 = true then (some true) else (some false)))) else (some false)))))))))))))) = some r := h
 clear h
 by_cases c4 : (l1.length : Int) > 1048576
 ·rw [if_pos c4] at H
  have c4b0 : decide (1048576 < (l1.length : Int)) = true := decide_eq_true c4
  have c4b1 : decide (1048576 < l1.length) = true := decide_eq_true (by omega)
  clear c4
  obtain rfl := Option.some.inj H
  go_enter Try.func3, Try.ntmps3
  go_wp2_with (first | ((with_reducible refine gate_dst (N := 3) rfl ?_); refine box_event ?hg (N := 3) ?hd (cs := #[.slice A0_0 l0_0.length c0_0]) (t := 24) ?hr ?_; (case hd => rfl); (case hg => rfl); (case hr => first | (go_simp; done) | (go_simp; rfl)); intro gb256 hg w5 hbox hb; have n0_ := Aside0.mk (below_step (zb HB.out) hb); have n1_ := Aside0.mk (hbox); have n2_ := Aside0.mk ((by rw [hg]; exact (below_size (zb HB.out)) : w.heap.size ≤ gb256)); have n3_ := Aside0.mk ((by rw [hg]; exact (below_size (zb HB.out)) : w.heap.size ≤ gb256)); clear HB; have HB := n0_; have BK256 := n1_; have GW256 := n2_; have GE256 := n3_; clear n0_ n1_ n2_ n3_; clear hb hbox hg))
  go_ret
  exact ⟨ze, zb HB.out⟩
 ·rw [if_neg c4] at H
  have c4b0 : decide (1048576 < (l1.length : Int)) = false := decide_eq_false c4
  have c4b1 : decide (1048576 < l1.length) = false := decide_eq_false (by omega)
  clear c4
  replace H := Option.bind_eq_some_iff.mp H
  obtain ⟨t257, A60, H⟩ := H
  replace H : (if t257 < 0 then (some true) else ((laws_toPool.f k l0_0).bind fun t258 => ((laws_toIntS.f k l1).bind fun t261 => ((spec_Makes.f k t258 t261 a2).bind fun t264 => ((laws_toPool.f k l0_0).bind fun t265 => ((laws_toIntS.f k l1).bind fun t269 => ((impl_Makes.f k t265 t269 a2).bind fun t272 => (if (t272 != t264) = true then (some false) else ((laws_toPool.f k l0_0).bind fun t273 => ((laws_eqPool.f k t265 t273).bind fun t276 => (if t276 = true then ((laws_toIntS.f k l1).bind fun t277 => ((laws_eqIntS.f k t269 t277).bind fun t280 => (if t280 = true then (some true) else (some false)))) else (some false)))))))))))) = some r := H
  have A6 := Aside0.mk A60
  clear A60
  by_cases c7 : t257 < 0
  ·rw [if_pos c7] at H
   have c7b0 : decide (t257 < 0) = true := decide_eq_true c7
   clear c7
   obtain rfl := Option.some.inj H
   go_enter Try.func3, Try.ntmps3
   go_wp2_with (first | ((with_reducible refine gate_dst (N := 3) rfl ?_); refine box_event ?hg (N := 3) ?hd (cs := #[.slice A0_0 l0_0.length c0_0]) (t := 24) ?hr ?_; (case hd => rfl); (case hg => rfl); (case hr => first | (go_simp; done) | (go_simp; rfl)); intro gb256 hg w8 hbox hb; have n0_ := Aside0.mk (below_step (zb HB.out) hb); have n1_ := Aside0.mk (hbox); have n2_ := Aside0.mk ((by rw [hg]; exact (below_size (zb HB.out)) : w.heap.size ≤ gb256)); have n3_ := Aside0.mk ((by rw [hg]; exact (below_size (zb HB.out)) : w.heap.size ≤ gb256)); clear HB; have HB := n0_; have BK256 := n1_; have GW256 := n2_; have GE256 := n3_; clear n0_ n1_ n2_ n3_; clear hb hbox hg; have hcz9_0 : w8.cell? ⟨gb256, 0, none⟩ = some (.slice A0_0 l0_0.length c0_0) := (blk_cell BK256.out 0).trans rfl; have hfz9_0 := blk_frozen BK256.out 0) | ((with_reducible refine gate_callee (f := 11) rfl ?_); refine goesL_ (some 17) rfl rfl Try.func11 (by kernel_rfl) rfl #[.agg #[.slice A0_0 l0_0.length c0_0], .int .i64 1048576] rfl zl ?_; (with_reducible refine (laws_szPool.calls _ _ l0_0 1048576 t257 _ ?side1 ?side2 A6.out).mono ?_); (case side1 => exact zc (Kd.C_below HR0_0.out HB.out)); (case side2 => exact HC0_0.out); rintro e w10 ⟨rfl, hb⟩; refine ⟨_, rfl, ?_⟩; have n0_ := Aside0.mk (blk_below (zh BK256.out) hb); have n1_ := Aside0.mk (below_step (zb HB.out) hb); clear BK256; clear HB; have BK256 := n0_; have HB := n1_; clear n0_ n1_; (try clear hb); (try clear hb2); (try clear hk); (try clear hi)))
   go_ret
   exact ⟨ze, zb HB.out⟩
  ·rw [if_neg c7] at H
   have c7b0 : decide (t257 < 0) = false := decide_eq_false c7
   clear c7
   replace H := Option.bind_eq_some_iff.mp H
   obtain ⟨t258, A110, H⟩ := H
   replace H : ((laws_toIntS.f k l1).bind fun t261 => ((spec_Makes.f k t258 t261 a2).bind fun t264 => ((laws_toPool.f k l0_0).bind fun t265 => ((laws_toIntS.f k l1).bind fun t269 => ((impl_Makes.f k t265 t269 a2).bind fun t272 => (if (t272 != t264) = true then (some false) else ((laws_toPool.f k l0_0).bind fun t273 => ((laws_eqPool.f k t265 t273).bind fun t276 => (if t276 = true then ((laws_toIntS.f k l1).bind fun t277 => ((laws_eqIntS.f k t269 t277).bind fun t280 => (if t280 = true then (some true) else (some false)))) else (some false)))))))))) = some r := H
   have A11 := Aside0.mk A110
   clear A110
   replace H := Option.bind_eq_some_iff.mp H
   obtain ⟨t261, A120, H⟩ := H
   replace H : ((spec_Makes.f k t258 t261 a2).bind fun t264 => ((laws_toPool.f k l0_0).bind fun t265 => ((laws_toIntS.f k l1).bind fun t269 => ((impl_Makes.f k t265 t269 a2).bind fun t272 => (if (t272 != t264) = true then (some false) else ((laws_toPool.f k l0_0).bind fun t273 => ((laws_eqPool.f k t265 t273).bind fun t276 => (if t276 = true then ((laws_toIntS.f k l1).bind fun t277 => ((laws_eqIntS.f k t269 t277).bind fun t280 => (if t280 = true then (some true) else (some false)))) else (some false))))))))) = some r := H
   have A12 := Aside0.mk A120
   clear A120
   replace H := Option.bind_eq_some_iff.mp H
   obtain ⟨t264, A130, H⟩ := H
   replace H : ((laws_toPool.f k l0_0).bind fun t265 => ((laws_toIntS.f k l1).bind fun t269 => ((impl_Makes.f k t265 t269 a2).bind fun t272 => (if (t272 != t264) = true then (some false) else ((laws_toPool.f k l0_0).bind fun t273 => ((laws_eqPool.f k t265 t273).bind fun t276 => (if t276 = true then ((laws_toIntS.f k l1).bind fun t277 => ((laws_eqIntS.f k t269 t277).bind fun t280 => (if t280 = true then (some true) else (some false)))) else (some false)))))))) = some r := H
   have A13 := Aside0.mk A130
   clear A130
   replace H := Option.bind_eq_some_iff.mp H
   obtain ⟨t265, A140, H⟩ := H
   replace H : ((laws_toIntS.f k l1).bind fun t269 => ((impl_Makes.f k t265 t269 a2).bind fun t272 => (if (t272 != t264) = true then (some false) else ((laws_toPool.f k l0_0).bind fun t273 => ((laws_eqPool.f k t265 t273).bind fun t276 => (if t276 = true then ((laws_toIntS.f k l1).bind fun t277 => ((laws_eqIntS.f k t269 t277).bind fun t280 => (if t280 = true then (some true) else (some false)))) else (some false))))))) = some r := H
   have A14 := Aside0.mk A140
   clear A140
   replace H := Option.bind_eq_some_iff.mp H
   obtain ⟨t269, A150, H⟩ := H
   replace H : ((impl_Makes.f k t265 t269 a2).bind fun t272 => (if (t272 != t264) = true then (some false) else ((laws_toPool.f k l0_0).bind fun t273 => ((laws_eqPool.f k t265 t273).bind fun t276 => (if t276 = true then ((laws_toIntS.f k l1).bind fun t277 => ((laws_eqIntS.f k t269 t277).bind fun t280 => (if t280 = true then (some true) else (some false)))) else (some false)))))) = some r := H
   have A15 := Aside0.mk A150
   clear A150
   replace H := Option.bind_eq_some_iff.mp H
   obtain ⟨t272, A160, H⟩ := H
   replace H : (if (t272 != t264) = true then (some false) else ((laws_toPool.f k l0_0).bind fun t273 => ((laws_eqPool.f k t265 t273).bind fun t276 => (if t276 = true then ((laws_toIntS.f k l1).bind fun t277 => ((laws_eqIntS.f k t269 t277).bind fun t280 => (if t280 = true then (some true) else (some false)))) else (some false))))) = some r := H
   have A16 := Aside0.mk A160
   clear A160
   by_cases c17 : (t272 != t264) = true
   ·rw [if_pos c17] at H
    have c17b0 : (t272 != t264) = true := c17
    (try (have c17b1 : decide (t272 = t264) = false := by simpa using c17))
    (try (have c17b2 : (t272 == t264) = false := by simpa using c17))
    (try (have c17b3 : ¬ (t272 = t264) := by simpa using c17))
    clear c17
    obtain rfl := Option.some.inj H
    go_enter Try.func3, Try.ntmps3
    go_wp2_with (first | ((with_reducible refine gate_dst (N := 3) rfl ?_); refine box_event ?hg (N := 3) ?hd (cs := #[.slice A0_0 l0_0.length c0_0]) (t := 24) ?hr ?_; (case hd => rfl); (case hg => rfl); (case hr => first | (go_simp; done) | (go_simp; rfl)); intro gb256 hg w18 hbox hb; have n0_ := Aside0.mk (below_step (zb HB.out) hb); have n1_ := Aside0.mk (hbox); have n2_ := Aside0.mk ((by rw [hg]; exact (below_size (zb HB.out)) : w.heap.size ≤ gb256)); have n3_ := Aside0.mk ((by rw [hg]; exact (below_size (zb HB.out)) : w.heap.size ≤ gb256)); clear HB; have HB := n0_; have BK256 := n1_; have GW256 := n2_; have GE256 := n3_; clear n0_ n1_ n2_ n3_; clear hb hbox hg; have hcz19_0 : w18.cell? ⟨gb256, 0, none⟩ = some (.slice A0_0 l0_0.length c0_0) := (blk_cell BK256.out 0).trans rfl; have hfz19_0 := blk_frozen BK256.out 0) | ((with_reducible refine gate_callee (f := 11) rfl ?_); refine goesL_ (some 17) rfl rfl Try.func11 (by kernel_rfl) rfl #[.agg #[.slice A0_0 l0_0.length c0_0], .int .i64 1048576] rfl zl ?_; (with_reducible refine (laws_szPool.calls _ _ l0_0 1048576 t257 _ ?side1 ?side2 A6.out).mono ?_); (case side1 => exact zc (Kd.C_below HR0_0.out HB.out)); (case side2 => exact HC0_0.out); rintro e w20 ⟨rfl, hb⟩; refine ⟨_, rfl, ?_⟩; have n0_ := Aside0.mk (blk_below (zh BK256.out) hb); have n1_ := Aside0.mk (below_step (zb HB.out) hb); clear BK256; clear HB; have BK256 := n0_; have HB := n1_; clear n0_ n1_; (try clear hb); (try clear hb2); (try clear hk); (try clear hi); have hcz21_0 : w20.cell? ⟨gb256, 0, none⟩ = some (.slice A0_0 l0_0.length c0_0) := (blk_cell BK256.out 0).trans rfl; have hfz21_0 := blk_frozen BK256.out 0) | ((with_reducible refine gate_callee (f := 13) rfl ?_); refine goesL_ (some 21) rfl rfl Try.func13 (by kernel_rfl) rfl #[.agg #[.slice A0_0 l0_0.length c0_0]] rfl zl ?_; (with_reducible refine (laws_toPool.calls k _ _ l0_0 t258 _ ?side1 ?side2 A11.out).mono ?_); (case side1 => exact zc (Kd.C_below HR0_0.out HB.out)); (case side2 => exact HC0_0.out); rintro e w22 ⟨v259, rfl, ho0, hb⟩; refine ⟨_, rfl, ?_⟩; have n0_ := Aside0.mk (Kd.R_lower ho0 (below_size (zb HB.out))); have n1_ := Aside0.mk (blk_below (zh BK256.out) hb); have n2_ := Aside0.mk (below_step (zb HB.out) hb); clear BK256; clear HB; have HO260 := n0_; have BK256 := n1_; have HB := n2_; clear n0_ n1_ n2_; (try clear hb); (try clear hb2); (try clear hk); (try clear hi); (try clear ho0)) | ((with_reducible refine gate_callee (f := 14) rfl ?_); refine goesL_ (some 23) rfl rfl Try.func14 (by kernel_rfl) rfl #[.slice A1 l1.length c1] rfl zl ?_; (with_reducible refine (laws_toIntS.calls k _ _ l1 t261 _ ?side1 ?side2 A12.out).mono ?_); (case side1 => exact zc (Kd.C_below HR1.out HB.out)); (case side2 => exact HC1.out); rintro e w23 ⟨v262, rfl, ho0, hb⟩; refine ⟨_, rfl, ?_⟩; have n0_ := Aside0.mk (Kd.R_below (zr HO260.out) hb); have n1_ := Aside0.mk (Kd.R_lower ho0 (below_size (zb HB.out))); have n2_ := Aside0.mk (blk_below (zh BK256.out) hb); have n3_ := Aside0.mk (below_step (zb HB.out) hb); clear HO260; clear BK256; clear HB; have HO260 := n0_; have HO263 := n1_; have BK256 := n2_; have HB := n3_; clear n0_ n1_ n2_ n3_; (try clear hb); (try clear hb2); (try clear hk); (try clear hi); (try clear ho0); obtain ⟨Ao24, co24, eo24⟩ := Kd.R_slice HO260.out; subst eo24; obtain ⟨Ao25, co25, eo25⟩ := Kd.R_slice HO263.out; subst eo25) | ((with_reducible refine gate_callee (f := 12) rfl ?_); refine goesL_ (some 25) rfl rfl Try.func12 (by kernel_rfl) rfl #[.agg #[.slice Ao24 t258.length co24], .slice Ao25 t261.length co25, .int .i64 a2] rfl zl ?_; (with_reducible refine (spec_Makes.calls k _ _ t258 _ _ t261 a2 t264 _ ?side1 ?side2 ?side3 ?side4 A13.out).mono ?_); (case side1 => exact zc (Kd.R_reads' HO260.out).2.2); (case side2 => exact (Kd.R_reads' HO260.out).2.1); (case side3 => exact zc (Kd.R_reads' HO263.out).2.2); (case side4 => exact (Kd.R_reads' HO263.out).2.1); rintro e w26 ⟨rfl, hb⟩; refine ⟨_, rfl, ?_⟩; have n0_ := Aside0.mk (Kd.R_below (zr HO260.out) hb); have n1_ := Aside0.mk (Kd.R_below (zr HO263.out) hb); have n2_ := Aside0.mk (blk_below (zh BK256.out) hb); have n3_ := Aside0.mk (below_step (zb HB.out) hb); clear HO260; clear HO263; clear BK256; clear HB; have HO260 := n0_; have HO263 := n1_; have BK256 := n2_; have HB := n3_; clear n0_ n1_ n2_ n3_; (try clear hb); (try clear hb2); (try clear hk); (try clear hi); have hcz27_0 : w26.cell? ⟨gb256, 0, none⟩ = some (.slice A0_0 l0_0.length c0_0) := (blk_cell BK256.out 0).trans rfl; have hfz27_0 := blk_frozen BK256.out 0) | ((with_reducible refine gate_callee (f := 13) rfl ?_); refine goesL_ (some 27) rfl rfl Try.func13 (by kernel_rfl) rfl #[.agg #[.slice A0_0 l0_0.length c0_0]] rfl zl ?_; (with_reducible refine (laws_toPool.calls k _ _ l0_0 t265 _ ?side1 ?side2 A14.out).mono ?_); (case side1 => exact zc (Kd.C_below HR0_0.out HB.out)); (case side2 => exact HC0_0.out); rintro e w28 ⟨v266, rfl, ho0, hb⟩; refine ⟨_, rfl, ?_⟩; have n0_ := Aside0.mk (Kd.R_elder' (zr HO260.out) (Kd.R_base ho0) hb); have n1_ := Aside0.mk (Kd.R_below (zr HO263.out) hb); have n2_ := Aside0.mk (Kd.R_lower (Kd.R_new' ho0 (Kd.R_lt (zr HO260.out))) (below_size (zb HB.out))); have n3_ := Aside0.mk (blk_below (zh BK256.out) hb); have n4_ := Aside0.mk (below_step (zb HB.out) hb); clear HO260; clear HO263; clear BK256; clear HB; have HO260 := n0_; have HO263 := n1_; have HO267 := n2_; have BK256 := n3_; have HB := n4_; clear n0_ n1_ n2_ n3_ n4_; (try clear hb); (try clear hb2); (try clear hk); (try clear hi); (try clear ho0)) | ((with_reducible refine gate_dst (N := 9) rfl ?_); refine box_event ?hg (N := 9) ?hd (cs := #[.slice none 0 0]) (t := 30) ?hr ?_; (case hd => rfl); (case hg => rfl); (case hr => first | (go_simp; done) | (go_simp; rfl)); intro gb268 hg w29 hbox hb; have n0_ := Aside0.mk (Kd.R_below (zr HO260.out) hb); have n1_ := Aside0.mk (Kd.R_below (zr HO263.out) hb); have n2_ := Aside0.mk (Kd.R_below (zr HO267.out) hb); have n3_ := Aside0.mk (blk_below (zh BK256.out) hb); have n4_ := Aside0.mk (below_step (zb HB.out) hb); have n5_ := Aside0.mk (hbox); have n6_ := Aside0.mk ((by rw [hg]; exact (below_size (zb HB.out)) : w.heap.size ≤ gb268)); have n7_ := Aside0.mk ((by rw [hg]; exact (below_size (zb HB.out)) : w.heap.size ≤ gb268)); have n8_ := Aside0.mk ((by rw [hg]; exact Nat.ne_of_lt (blk_lt (zh BK256.out)) : gb256 ≠ gb268)); have n9_ := Aside0.mk ((by rw [hg]; exact Nat.ne_of_gt (blk_lt (zh BK256.out)) : gb268 ≠ gb256)); clear HO260; clear HO263; clear HO267; clear BK256; clear HB; have HO260 := n0_; have HO263 := n1_; have HO267 := n2_; have BK256 := n3_; have HB := n4_; have BK268 := n5_; have GW268 := n6_; have GE268 := n7_; have NB256_268 := n8_; have NB268_256 := n9_; clear n0_ n1_ n2_ n3_ n4_ n5_ n6_ n7_ n8_ n9_; clear hb hbox hg; obtain ⟨Ao30, co30, eo30⟩ := Kd.R_slice HO267.out; subst eo30; have hnb31 := NB268_256.out; have hnc31 := NB256_268.out; have hcz32_0 : w29.cell? ⟨gb268, 0, none⟩ = some (.slice none 0 0) := (blk_cell BK268.out 0).trans rfl; have hfz32_0 := blk_frozen BK268.out 0) | ((with_reducible refine gate_callee (f := 14) rfl ?_); refine goesL_ (some 29) rfl rfl Try.func14 (by kernel_rfl) rfl #[.slice A1 l1.length c1] rfl zl ?_; (with_reducible refine (laws_toIntS.calls k _ _ l1 t269 _ ?side1 ?side2 A15.out).mono ?_); (case side1 => exact Kd.C_below HR1.out (zb HB.out)); (case side2 => exact HC1.out); rintro e w33 ⟨v270, rfl, ho0, hb⟩; refine ⟨_, rfl, ?_⟩; have n0_ := Aside0.mk (Kd.R_below (by (with_reducible repeat (first | apply Kd.R_alloc | apply Kd.R_drewN | apply Kd.R_drew)); exact (Kd.R_mono (Kd.R_far (p := ⟨gb268, 0, none⟩) (Kd.R_types HO260.out BK268.out (by decide)) (fun _ hk => hk.2) (.slice Ao30 t265.length co30)) (fun _ h_ => h_.1))) hb); have n1_ := Aside0.mk (Kd.R_elder' (by (with_reducible repeat (first | apply Kd.R_alloc | apply Kd.R_drewN | apply Kd.R_drew)); exact (Kd.R_mono (Kd.R_far (p := ⟨gb268, 0, none⟩) (Kd.R_types HO263.out BK268.out (by decide)) (fun _ hk => hk.2) (.slice Ao30 t265.length co30)) (fun _ h_ => h_.1))) (Kd.R_base ho0) hb); have n2_ := Aside0.mk (Kd.R_below (by (with_reducible repeat (first | apply Kd.R_alloc | apply Kd.R_drewN | apply Kd.R_drew)); exact (Kd.R_mono (Kd.R_far (p := ⟨gb268, 0, none⟩) (Kd.R_types HO267.out BK268.out (by decide)) (fun _ hk => hk.2) (.slice Ao30 t265.length co30)) (fun _ h_ => h_.1))) hb); have n3_ := Aside0.mk (Kd.R_lower (Kd.R_new' ho0 (Kd.R_lt (by (with_reducible repeat (first | apply Kd.R_alloc | apply Kd.R_drewN | apply Kd.R_drew)); exact (Kd.R_mono (Kd.R_far (p := ⟨gb268, 0, none⟩) (Kd.R_types HO263.out BK268.out (by decide)) (fun _ hk => hk.2) (.slice Ao30 t265.length co30)) (fun _ h_ => h_.1))))) (below_size (zb HB.out))); have n4_ := Aside0.mk (blk_below (g := gb256) (o := .cells #[.slice A0_0 l0_0.length c0_0] 24 (0, 0)) (zf BK256.out) hb); have n5_ := Aside0.mk (blk_below (g := gb268) (o := .cells #[.slice Ao30 t265.length co30] 30 (0, 0)) (by (with_reducible repeat (first | refine blk_drewN ?_ _ | refine blk_drew ?_ | refine blk_alloc ?_ _)); refine blk_put (cs := #[.slice none 0 0]) ?_ 0 _ rfl; (with_reducible repeat (first | refine blk_drewN ?_ _ | refine blk_drew ?_ | refine blk_alloc ?_ _)); exact BK268.out) hb); have n6_ := Aside0.mk (below_step (zb HB.out) hb); clear HO260; clear HO263; clear HO267; clear BK256; clear BK268; clear HB; have HO260 := n0_; have HO263 := n1_; have HO267 := n2_; have HO271 := n3_; have BK256 := n4_; have BK268 := n5_; have HB := n6_; clear n0_ n1_ n2_ n3_ n4_ n5_ n6_; (try clear hb); (try clear hb2); (try clear hk); (try clear hi); (try clear ho0); have hcz34_0 : w33.cell? ⟨gb268, 0, none⟩ = some (.slice Ao30 t265.length co30) := (blk_cell BK268.out 0).trans rfl; have hfz34_0 := blk_frozen BK268.out 0; obtain ⟨Ao35, co35, eo35⟩ := Kd.R_slice HO271.out; subst eo35) | ((with_reducible refine gate_callee (f := 15) rfl ?_); refine goesL_ (some 33) rfl rfl Try.func15 (by kernel_rfl) rfl #[.agg #[.slice Ao30 t265.length co30], .slice Ao35 t269.length co35, .int .i64 a2] rfl zl ?_; (with_reducible refine (impl_Makes.calls k _ _ t265 _ _ t269 a2 t272 _ ?side1 ?side2 ?side3 ?side4 A16.out).mono ?_); (case side1 => exact zc (Kd.R_reads' HO267.out).2.2); (case side2 => exact (Kd.R_reads' HO267.out).2.1); (case side3 => exact zc (Kd.R_reads' HO271.out).2.2); (case side4 => exact (Kd.R_reads' HO271.out).2.1); rintro e w36 ⟨rfl, hb⟩; refine ⟨_, rfl, ?_⟩; have n0_ := Aside0.mk (Kd.R_below (zr HO260.out) hb); have n1_ := Aside0.mk (Kd.R_below (zr HO263.out) hb); have n2_ := Aside0.mk (Kd.R_below (zr HO267.out) hb); have n3_ := Aside0.mk (Kd.R_below (zr HO271.out) hb); have n4_ := Aside0.mk (blk_below (zh BK256.out) hb); have n5_ := Aside0.mk (blk_below (zh BK268.out) hb); have n6_ := Aside0.mk (below_step (zb HB.out) hb); clear HO260; clear HO263; clear HO267; clear HO271; clear BK256; clear BK268; clear HB; have HO260 := n0_; have HO263 := n1_; have HO267 := n2_; have HO271 := n3_; have BK256 := n4_; have BK268 := n5_; have HB := n6_; clear n0_ n1_ n2_ n3_ n4_ n5_ n6_; (try clear hb); (try clear hb2); (try clear hk); (try clear hi)))
    go_ret
    exact ⟨ze, zb HB.out⟩
   ·rw [if_neg c17] at H
    have c17b0 : (t272 != t264) = false := by simpa using c17
    (try (have c17b1 : decide (t272 = t264) = true := by simpa using c17))
    (try (have c17b2 : (t272 == t264) = true := by simpa using c17))
    clear c17
    replace H := Option.bind_eq_some_iff.mp H
    obtain ⟨t273, A370, H⟩ := H
    replace H : ((laws_eqPool.f k t265 t273).bind fun t276 => (if t276 = true then ((laws_toIntS.f k l1).bind fun t277 => ((laws_eqIntS.f k t269 t277).bind fun t280 => (if t280 = true then (some true) else (some false)))) else (some false))) = some r := H
    have A37 := Aside0.mk A370
    clear A370
    replace H := Option.bind_eq_some_iff.mp H
    obtain ⟨t276, A380, H⟩ := H
    replace H : (if t276 = true then ((laws_toIntS.f k l1).bind fun t277 => ((laws_eqIntS.f k t269 t277).bind fun t280 => (if t280 = true then (some true) else (some false)))) else (some false)) = some r := H
    have A38 := Aside0.mk A380
    clear A380
    by_cases c39 : t276 = true
    ·subst c39
     have H1 : ((laws_toIntS.f k l1).bind fun t277 => ((laws_eqIntS.f k t269 t277).bind fun t280 => (if t280 = true then (some true) else (some false)))) = some r := by rw [if_pos rfl] at H; exact H
     clear H
     have H := H1
     clear H1
     replace H := Option.bind_eq_some_iff.mp H
     obtain ⟨t277, A400, H⟩ := H
     replace H : ((laws_eqIntS.f k t269 t277).bind fun t280 => (if t280 = true then (some true) else (some false))) = some r := H
     have A40 := Aside0.mk A400
     clear A400
     replace H := Option.bind_eq_some_iff.mp H
     obtain ⟨t280, A410, H⟩ := H
     replace H : (if t280 = true then (some true) else (some false)) = some r := H
     have A41 := Aside0.mk A410
     clear A410
     by_cases c42 : t280 = true
     ·subst c42
      have H1 : (some true) = some r := by rw [if_pos rfl] at H; exact H
      clear H
      have H := H1
      clear H1
      obtain rfl := Option.some.inj H
      go_enter Try.func3, Try.ntmps3
      try go_wp2_with (first | ((with_reducible refine gate_dst (N := 3) rfl ?_); refine box_event ?hg (N := 3) ?hd (cs := #[.slice A0_0 l0_0.length c0_0]) (t := 24) ?hr ?_; (case hd => rfl); (case hg => rfl); (case hr => first | (go_simp; done) | (go_simp; rfl)); intro gb256 hg w43 hbox hb; have n0_ := Aside0.mk (below_step (zb HB.out) hb); have n1_ := Aside0.mk (hbox); have n2_ := Aside0.mk ((by rw [hg]; exact (below_size (zb HB.out)) : w.heap.size ≤ gb256)); have n3_ := Aside0.mk ((by rw [hg]; exact (below_size (zb HB.out)) : w.heap.size ≤ gb256)); clear HB; have HB := n0_; have BK256 := n1_; have GW256 := n2_; have GE256 := n3_; clear n0_ n1_ n2_ n3_; clear hb hbox hg; have hcz44_0 : w43.cell? ⟨gb256, 0, none⟩ = some (.slice A0_0 l0_0.length c0_0) := (blk_cell BK256.out 0).trans rfl; have hfz44_0 := blk_frozen BK256.out 0) | ((with_reducible refine gate_callee (f := 11) rfl ?_); refine goesL_ (some 17) rfl rfl Try.func11 (by kernel_rfl) rfl #[.agg #[.slice A0_0 l0_0.length c0_0], .int .i64 1048576] rfl zl ?_; (with_reducible refine (laws_szPool.calls _ _ l0_0 1048576 t257 _ ?side1 ?side2 A6.out).mono ?_); (case side1 => exact zc (Kd.C_below HR0_0.out HB.out)); (case side2 => exact HC0_0.out); rintro e w45 ⟨rfl, hb⟩; refine ⟨_, rfl, ?_⟩; have n0_ := Aside0.mk (blk_below (zh BK256.out) hb); have n1_ := Aside0.mk (below_step (zb HB.out) hb); clear BK256; clear HB; have BK256 := n0_; have HB := n1_; clear n0_ n1_; (try clear hb); (try clear hb2); (try clear hk); (try clear hi); have hcz46_0 : w45.cell? ⟨gb256, 0, none⟩ = some (.slice A0_0 l0_0.length c0_0) := (blk_cell BK256.out 0).trans rfl; have hfz46_0 := blk_frozen BK256.out 0) | ((with_reducible refine gate_callee (f := 13) rfl ?_); refine goesL_ (some 21) rfl rfl Try.func13 (by kernel_rfl) rfl #[.agg #[.slice A0_0 l0_0.length c0_0]] rfl zl ?_; (with_reducible refine (laws_toPool.calls k _ _ l0_0 t258 _ ?side1 ?side2 A11.out).mono ?_); (case side1 => exact zc (Kd.C_below HR0_0.out HB.out)); (case side2 => exact HC0_0.out); rintro e w47 ⟨v259, rfl, ho0, hb⟩; refine ⟨_, rfl, ?_⟩; have n0_ := Aside0.mk (Kd.R_lower ho0 (below_size (zb HB.out))); have n1_ := Aside0.mk (blk_below (zh BK256.out) hb); have n2_ := Aside0.mk (below_step (zb HB.out) hb); clear BK256; clear HB; have HO260 := n0_; have BK256 := n1_; have HB := n2_; clear n0_ n1_ n2_; (try clear hb); (try clear hb2); (try clear hk); (try clear hi); (try clear ho0)) | ((with_reducible refine gate_callee (f := 14) rfl ?_); refine goesL_ (some 23) rfl rfl Try.func14 (by kernel_rfl) rfl #[.slice A1 l1.length c1] rfl zl ?_; (with_reducible refine (laws_toIntS.calls k _ _ l1 t261 _ ?side1 ?side2 A12.out).mono ?_); (case side1 => exact zc (Kd.C_below HR1.out HB.out)); (case side2 => exact HC1.out); rintro e w48 ⟨v262, rfl, ho0, hb⟩; refine ⟨_, rfl, ?_⟩; have n0_ := Aside0.mk (Kd.R_below (zr HO260.out) hb); have n1_ := Aside0.mk (Kd.R_lower ho0 (below_size (zb HB.out))); have n2_ := Aside0.mk (blk_below (zh BK256.out) hb); have n3_ := Aside0.mk (below_step (zb HB.out) hb); clear HO260; clear BK256; clear HB; have HO260 := n0_; have HO263 := n1_; have BK256 := n2_; have HB := n3_; clear n0_ n1_ n2_ n3_; (try clear hb); (try clear hb2); (try clear hk); (try clear hi); (try clear ho0); obtain ⟨Ao49, co49, eo49⟩ := Kd.R_slice HO260.out; subst eo49; obtain ⟨Ao50, co50, eo50⟩ := Kd.R_slice HO263.out; subst eo50) | ((with_reducible refine gate_callee (f := 12) rfl ?_); refine goesL_ (some 25) rfl rfl Try.func12 (by kernel_rfl) rfl #[.agg #[.slice Ao49 t258.length co49], .slice Ao50 t261.length co50, .int .i64 a2] rfl zl ?_; (with_reducible refine (spec_Makes.calls k _ _ t258 _ _ t261 a2 t264 _ ?side1 ?side2 ?side3 ?side4 A13.out).mono ?_); (case side1 => exact zc (Kd.R_reads' HO260.out).2.2); (case side2 => exact (Kd.R_reads' HO260.out).2.1); (case side3 => exact zc (Kd.R_reads' HO263.out).2.2); (case side4 => exact (Kd.R_reads' HO263.out).2.1); rintro e w51 ⟨rfl, hb⟩; refine ⟨_, rfl, ?_⟩; have n0_ := Aside0.mk (Kd.R_below (zr HO260.out) hb); have n1_ := Aside0.mk (Kd.R_below (zr HO263.out) hb); have n2_ := Aside0.mk (blk_below (zh BK256.out) hb); have n3_ := Aside0.mk (below_step (zb HB.out) hb); clear HO260; clear HO263; clear BK256; clear HB; have HO260 := n0_; have HO263 := n1_; have BK256 := n2_; have HB := n3_; clear n0_ n1_ n2_ n3_; (try clear hb); (try clear hb2); (try clear hk); (try clear hi); have hcz52_0 : w51.cell? ⟨gb256, 0, none⟩ = some (.slice A0_0 l0_0.length c0_0) := (blk_cell BK256.out 0).trans rfl; have hfz52_0 := blk_frozen BK256.out 0) | ((with_reducible refine gate_callee (f := 13) rfl ?_); refine goesL_ (some 27) rfl rfl Try.func13 (by kernel_rfl) rfl #[.agg #[.slice A0_0 l0_0.length c0_0]] rfl zl ?_; (with_reducible refine (laws_toPool.calls k _ _ l0_0 t265 _ ?side1 ?side2 A14.out).mono ?_); (case side1 => exact zc (Kd.C_below HR0_0.out HB.out)); (case side2 => exact HC0_0.out); rintro e w53 ⟨v266, rfl, ho0, hb⟩; refine ⟨_, rfl, ?_⟩; have n0_ := Aside0.mk (Kd.R_elder' (zr HO260.out) (Kd.R_base ho0) hb); have n1_ := Aside0.mk (Kd.R_below (zr HO263.out) hb); have n2_ := Aside0.mk (Kd.R_lower (Kd.R_new' ho0 (Kd.R_lt (zr HO260.out))) (below_size (zb HB.out))); have n3_ := Aside0.mk (blk_below (zh BK256.out) hb); have n4_ := Aside0.mk (below_step (zb HB.out) hb); clear HO260; clear HO263; clear BK256; clear HB; have HO260 := n0_; have HO263 := n1_; have HO267 := n2_; have BK256 := n3_; have HB := n4_; clear n0_ n1_ n2_ n3_ n4_; (try clear hb); (try clear hb2); (try clear hk); (try clear hi); (try clear ho0)) | ((with_reducible refine gate_dst (N := 9) rfl ?_); refine box_event ?hg (N := 9) ?hd (cs := #[.slice none 0 0]) (t := 30) ?hr ?_; (case hd => rfl); (case hg => rfl); (case hr => first | (go_simp; done) | (go_simp; rfl)); intro gb268 hg w54 hbox hb; have n0_ := Aside0.mk (Kd.R_below (zr HO260.out) hb); have n1_ := Aside0.mk (Kd.R_below (zr HO263.out) hb); have n2_ := Aside0.mk (Kd.R_below (zr HO267.out) hb); have n3_ := Aside0.mk (blk_below (zh BK256.out) hb); have n4_ := Aside0.mk (below_step (zb HB.out) hb); have n5_ := Aside0.mk (hbox); have n6_ := Aside0.mk ((by rw [hg]; exact (below_size (zb HB.out)) : w.heap.size ≤ gb268)); have n7_ := Aside0.mk ((by rw [hg]; exact (below_size (zb HB.out)) : w.heap.size ≤ gb268)); have n8_ := Aside0.mk ((by rw [hg]; exact Nat.ne_of_lt (blk_lt (zh BK256.out)) : gb256 ≠ gb268)); have n9_ := Aside0.mk ((by rw [hg]; exact Nat.ne_of_gt (blk_lt (zh BK256.out)) : gb268 ≠ gb256)); clear HO260; clear HO263; clear HO267; clear BK256; clear HB; have HO260 := n0_; have HO263 := n1_; have HO267 := n2_; have BK256 := n3_; have HB := n4_; have BK268 := n5_; have GW268 := n6_; have GE268 := n7_; have NB256_268 := n8_; have NB268_256 := n9_; clear n0_ n1_ n2_ n3_ n4_ n5_ n6_ n7_ n8_ n9_; clear hb hbox hg; obtain ⟨Ao55, co55, eo55⟩ := Kd.R_slice HO267.out; subst eo55; have hnb56 := NB268_256.out; have hnc56 := NB256_268.out; have hcz57_0 : w54.cell? ⟨gb268, 0, none⟩ = some (.slice none 0 0) := (blk_cell BK268.out 0).trans rfl; have hfz57_0 := blk_frozen BK268.out 0) | ((with_reducible refine gate_callee (f := 14) rfl ?_); refine goesL_ (some 29) rfl rfl Try.func14 (by kernel_rfl) rfl #[.slice A1 l1.length c1] rfl zl ?_; (with_reducible refine (laws_toIntS.calls k _ _ l1 t269 _ ?side1 ?side2 A15.out).mono ?_); (case side1 => exact Kd.C_below HR1.out (zb HB.out)); (case side2 => exact HC1.out); rintro e w58 ⟨v270, rfl, ho0, hb⟩; refine ⟨_, rfl, ?_⟩; have n0_ := Aside0.mk (Kd.R_below (by (with_reducible repeat (first | apply Kd.R_alloc | apply Kd.R_drewN | apply Kd.R_drew)); exact (Kd.R_mono (Kd.R_far (p := ⟨gb268, 0, none⟩) (Kd.R_types HO260.out BK268.out (by decide)) (fun _ hk => hk.2) (.slice Ao55 t265.length co55)) (fun _ h_ => h_.1))) hb); have n1_ := Aside0.mk (Kd.R_elder' (by (with_reducible repeat (first | apply Kd.R_alloc | apply Kd.R_drewN | apply Kd.R_drew)); exact (Kd.R_mono (Kd.R_far (p := ⟨gb268, 0, none⟩) (Kd.R_types HO263.out BK268.out (by decide)) (fun _ hk => hk.2) (.slice Ao55 t265.length co55)) (fun _ h_ => h_.1))) (Kd.R_base ho0) hb); have n2_ := Aside0.mk (Kd.R_below (by (with_reducible repeat (first | apply Kd.R_alloc | apply Kd.R_drewN | apply Kd.R_drew)); exact (Kd.R_mono (Kd.R_far (p := ⟨gb268, 0, none⟩) (Kd.R_types HO267.out BK268.out (by decide)) (fun _ hk => hk.2) (.slice Ao55 t265.length co55)) (fun _ h_ => h_.1))) hb); have n3_ := Aside0.mk (Kd.R_lower (Kd.R_new' ho0 (Kd.R_lt (by (with_reducible repeat (first | apply Kd.R_alloc | apply Kd.R_drewN | apply Kd.R_drew)); exact (Kd.R_mono (Kd.R_far (p := ⟨gb268, 0, none⟩) (Kd.R_types HO263.out BK268.out (by decide)) (fun _ hk => hk.2) (.slice Ao55 t265.length co55)) (fun _ h_ => h_.1))))) (below_size (zb HB.out))); have n4_ := Aside0.mk (blk_below (g := gb256) (o := .cells #[.slice A0_0 l0_0.length c0_0] 24 (0, 0)) (zf BK256.out) hb); have n5_ := Aside0.mk (blk_below (g := gb268) (o := .cells #[.slice Ao55 t265.length co55] 30 (0, 0)) (by (with_reducible repeat (first | refine blk_drewN ?_ _ | refine blk_drew ?_ | refine blk_alloc ?_ _)); refine blk_put (cs := #[.slice none 0 0]) ?_ 0 _ rfl; (with_reducible repeat (first | refine blk_drewN ?_ _ | refine blk_drew ?_ | refine blk_alloc ?_ _)); exact BK268.out) hb); have n6_ := Aside0.mk (below_step (zb HB.out) hb); clear HO260; clear HO263; clear HO267; clear BK256; clear BK268; clear HB; have HO260 := n0_; have HO263 := n1_; have HO267 := n2_; have HO271 := n3_; have BK256 := n4_; have BK268 := n5_; have HB := n6_; clear n0_ n1_ n2_ n3_ n4_ n5_ n6_; (try clear hb); (try clear hb2); (try clear hk); (try clear hi); (try clear ho0); have hcz59_0 : w58.cell? ⟨gb268, 0, none⟩ = some (.slice Ao55 t265.length co55) := (blk_cell BK268.out 0).trans rfl; have hfz59_0 := blk_frozen BK268.out 0; obtain ⟨Ao60, co60, eo60⟩ := Kd.R_slice HO271.out; subst eo60) | ((with_reducible refine gate_callee (f := 15) rfl ?_); refine goesL_ (some 33) rfl rfl Try.func15 (by kernel_rfl) rfl #[.agg #[.slice Ao55 t265.length co55], .slice Ao60 t269.length co60, .int .i64 a2] rfl zl ?_; (with_reducible refine (impl_Makes.calls k _ _ t265 _ _ t269 a2 t272 _ ?side1 ?side2 ?side3 ?side4 A16.out).mono ?_); (case side1 => exact zc (Kd.R_reads' HO267.out).2.2); (case side2 => exact (Kd.R_reads' HO267.out).2.1); (case side3 => exact zc (Kd.R_reads' HO271.out).2.2); (case side4 => exact (Kd.R_reads' HO271.out).2.1); rintro e w61 ⟨rfl, hb⟩; refine ⟨_, rfl, ?_⟩; have n0_ := Aside0.mk (Kd.R_below (zr HO260.out) hb); have n1_ := Aside0.mk (Kd.R_below (zr HO263.out) hb); have n2_ := Aside0.mk (Kd.R_below (zr HO267.out) hb); have n3_ := Aside0.mk (Kd.R_below (zr HO271.out) hb); have n4_ := Aside0.mk (blk_below (zh BK256.out) hb); have n5_ := Aside0.mk (blk_below (zh BK268.out) hb); have n6_ := Aside0.mk (below_step (zb HB.out) hb); clear HO260; clear HO263; clear HO267; clear HO271; clear BK256; clear BK268; clear HB; have HO260 := n0_; have HO263 := n1_; have HO267 := n2_; have HO271 := n3_; have BK256 := n4_; have BK268 := n5_; have HB := n6_; clear n0_ n1_ n2_ n3_ n4_ n5_ n6_; (try clear hb); (try clear hb2); (try clear hk); (try clear hi)))
      have n0_ := Aside0.mk (Kd.R_drew HO260.out)
      have n1_ := Aside0.mk (Kd.R_drew HO263.out)
      have n2_ := Aside0.mk (Kd.R_drew HO267.out)
      have n3_ := Aside0.mk (Kd.R_drew HO271.out)
      have n4_ := Aside0.mk (blk_drew BK256.out)
      have n5_ := Aside0.mk (blk_drew BK268.out)
      have n6_ := Aside0.mk (below_drew1 HB.out)
      clear HO260
      clear HO263
      clear HO267
      clear HO271
      clear BK256
      clear BK268
      clear HB
      have HO260 := n0_
      have HO263 := n1_
      have HO267 := n2_
      have HO271 := n3_
      have BK256 := n4_
      have BK268 := n5_
      have HB := n6_
      clear n0_ n1_ n2_ n3_ n4_ n5_ n6_
      refine start_ (n := 5) (S := fun w' => w'.cell? ⟨gb268, 0, none⟩ = some (.slice Ao55 t265.length co55) ∧ w'.cell? ⟨gb256, 0, none⟩ = some (.slice A0_0 l0_0.length c0_0)) (ds := []) #[false, false, false, false, false] (by kernel_rfl) rfl rfl ⟨(blk_cell BK268.out 0).trans rfl, (blk_cell BK256.out 0).trans rfl⟩ (fun hHeld => ?_)
      generalize w61.drew = w62 at HO260 HO263 HO267 HO271 BK256 BK268 HB hHeld ⊢
      refine take_ (i := 0) (N := some 37) (v := ?_) (a' := ?_) #[true, false, false, false, false] rfl rfl (by kernel_rfl) (fun _ _ _ h => h) (Or.inl ⟨by rfl, ?_⟩) hHeld ?_ ?_
      rotate_left
      ·rintro w' ⟨s0, s1⟩
       go_simp
       with_reducible rfl
      rotate_left
      ·simp only [Act.put, List.setIfInBounds_toArray, List.set_cons_zero, List.set_cons_succ, i64_w, i32_w]
       rfl
      refine take_ (i := 1) (N := some 38) (v := ?_) (a' := ?_) #[true, true, false, false, false] rfl rfl (by kernel_rfl) (fun _ _ _ h => h) (Or.inl ⟨by rfl, ?_⟩) hHeld ?_ ?_
      rotate_left
      ·rintro w' ⟨s0, s1⟩
       go_simp
       with_reducible rfl
      rotate_left
      ·simp only [Act.put, List.setIfInBounds_toArray, List.set_cons_zero, List.set_cons_succ, i64_w, i32_w]
       rfl
      refine one_ (i := 2) (N := some 39) #[true, true, true, false, false] rfl rfl (by kernel_rfl) (by decide) (fun K hK => ?_)
      refine goes_ Try.func13 (by kernel_rfl) rfl #[.agg #[.slice A0_0 l0_0.length c0_0]] (by rfl) rfl rfl zl ?_
      with_reducible refine (laws_toPool.calls k _ _ l0_0 t273 _ ?side1 ?side2 A37.out).mono ?_
      (case side1 => exact zc (Kd.C_below HR0_0.out HB.out))
      (case side2 => exact HC0_0.out)
      rintro e w63 ⟨v274, rfl, ho0, hb⟩
      refine ⟨_, rfl, ?_⟩
      have n0_ := Aside0.mk (Kd.R_elder' (zr HO260.out) (Kd.R_base ho0) hb)
      have n1_ := Aside0.mk (Kd.R_below (zr HO263.out) hb)
      have n2_ := Aside0.mk (Kd.R_elder' (zr HO267.out) (Kd.R_base ho0) hb)
      have n3_ := Aside0.mk (Kd.R_below (zr HO271.out) hb)
      have n4_ := Aside0.mk (Kd.R_lower (Kd.R_new' (Kd.R_new' ho0 (Kd.R_lt (zr HO260.out))) (Kd.R_lt (zr HO267.out))) (below_size (zb HB.out)))
      have n5_ := Aside0.mk (blk_below (zh BK256.out) hb)
      have n6_ := Aside0.mk (blk_below (zh BK268.out) hb)
      have n7_ := Aside0.mk (below_step (zb HB.out) hb)
      clear HO260
      clear HO263
      clear HO267
      clear HO271
      clear BK256
      clear BK268
      clear HB
      have HO260 := n0_
      have HO263 := n1_
      have HO267 := n2_
      have HO271 := n3_
      have HO275 := n4_
      have BK256 := n5_
      have BK268 := n6_
      have HB := n7_
      clear n0_ n1_ n2_ n3_ n4_ n5_ n6_ n7_
      (try clear hb)
      (try clear hb2)
      (try clear hk)
      (try clear hi)
      (try clear ho0)
      obtain ⟨Ao64, co64, eo64⟩ := Kd.R_slice HO275.out
      (first | subst eo64 | (injection eo64 with f1_ f2_ f3_; have f4_ := f1_.symm; have f5_ := f3_.symm; clear f1_ f2_ f3_; subst f4_; subst f5_))
      refine hK.out _ _ ⟨(blk_cell BK268.out 0).trans rfl, (blk_cell BK256.out 0).trans rfl⟩ (fun hHeld => ?_)
      clear hK K
      refine norm_ (a' := ?_) ?_ ?_
      rotate_left
      ·show Act.put _ (some 39) _ = _
       simp only [Act.put, List.setIfInBounds_toArray, List.set_cons_zero, List.set_cons_succ, i64_w, i32_w]
       rfl
      refine one_ (i := 3) (N := some 40) #[true, true, true, true, false] rfl rfl (by kernel_rfl) (by decide) (fun K hK => ?_)
      refine goes_ Try.func16 (by kernel_rfl) rfl #[.agg #[.slice Ao55 t265.length co55], .agg #[.slice Ao64 t273.length co64]] (by rfl) rfl rfl zl ?_
      with_reducible refine (laws_eqPool.calls k _ _ t265 _ _ t273 true _ ?side1 ?side2 ?side3 ?side4 A38.out).mono ?_
      (case side1 => exact zc (Kd.R_reads' HO267.out).2.2)
      (case side2 => exact (Kd.R_reads' HO267.out).2.1)
      (case side3 => exact zc (Kd.R_reads' HO275.out).2.2)
      (case side4 => exact (Kd.R_reads' HO275.out).2.1)
      rintro e w65 ⟨rfl, hb⟩
      refine ⟨_, rfl, ?_⟩
      have n0_ := Aside0.mk (Kd.R_below (zr HO260.out) hb)
      have n1_ := Aside0.mk (Kd.R_below (zr HO263.out) hb)
      have n2_ := Aside0.mk (Kd.R_below (zr HO267.out) hb)
      have n3_ := Aside0.mk (Kd.R_below (zr HO271.out) hb)
      have n4_ := Aside0.mk (Kd.R_below (zr HO275.out) hb)
      have n5_ := Aside0.mk (blk_below (zh BK256.out) hb)
      have n6_ := Aside0.mk (blk_below (zh BK268.out) hb)
      have n7_ := Aside0.mk (below_step (zb HB.out) hb)
      clear HO260
      clear HO263
      clear HO267
      clear HO271
      clear HO275
      clear BK256
      clear BK268
      clear HB
      have HO260 := n0_
      have HO263 := n1_
      have HO267 := n2_
      have HO271 := n3_
      have HO275 := n4_
      have BK256 := n5_
      have BK268 := n6_
      have HB := n7_
      clear n0_ n1_ n2_ n3_ n4_ n5_ n6_ n7_
      (try clear hb)
      (try clear hb2)
      (try clear hk)
      (try clear hi)
      refine hK.out _ _ ⟨(blk_cell BK268.out 0).trans rfl, (blk_cell BK256.out 0).trans rfl⟩ (fun hHeld => ?_)
      clear hK K
      refine norm_ (a' := ?_) ?_ ?_
      rotate_left
      ·show Act.put _ (some 40) _ = _
       simp only [Act.put, List.setIfInBounds_toArray, List.set_cons_zero, List.set_cons_succ, i64_w, i32_w]
       rfl
      refine pure_ (i := 4) (N := some 41) (v := ?_) (a' := ?_) #[true, true, true, true, true] rfl rfl (by kernel_rfl) (fun _ _ _ h => h) (Or.inl ⟨by rfl, ?_⟩) ?_ ?_
      rotate_left
      ·intro w'
       go_simp
       with_reducible rfl
      rotate_left
      ·simp only [Act.put, List.setIfInBounds_toArray, List.set_cons_zero, List.set_cons_succ, i64_w, i32_w]
       rfl
      refine done_ (by kernel_rfl) ?_
      try go_wp2_with (first | ((with_reducible refine gate_callee (f := 14) rfl ?_); refine goesL_ (some 44) rfl rfl Try.func14 (by kernel_rfl) rfl #[.slice A1 l1.length c1] rfl zl ?_; (with_reducible refine (laws_toIntS.calls k _ _ l1 t277 _ ?side1 ?side2 A40.out).mono ?_); (case side1 => exact zc (Kd.C_below HR1.out HB.out)); (case side2 => exact HC1.out); rintro e w66 ⟨v278, rfl, ho0, hb⟩; refine ⟨_, rfl, ?_⟩; have n0_ := Aside0.mk (Kd.R_below (zr HO260.out) hb); have n1_ := Aside0.mk (Kd.R_elder' (zr HO263.out) (Kd.R_base ho0) hb); have n2_ := Aside0.mk (Kd.R_below (zr HO267.out) hb); have n3_ := Aside0.mk (Kd.R_elder' (zr HO271.out) (Kd.R_base ho0) hb); have n4_ := Aside0.mk (Kd.R_below (zr HO275.out) hb); have n5_ := Aside0.mk (Kd.R_lower (Kd.R_new' (Kd.R_new' ho0 (Kd.R_lt (zr HO263.out))) (Kd.R_lt (zr HO271.out))) (below_size (zb HB.out))); have n6_ := Aside0.mk (blk_below (zh BK256.out) hb); have n7_ := Aside0.mk (blk_below (zh BK268.out) hb); have n8_ := Aside0.mk (below_step (zb HB.out) hb); clear HO260; clear HO263; clear HO267; clear HO271; clear HO275; clear BK256; clear BK268; clear HB; have HO260 := n0_; have HO263 := n1_; have HO267 := n2_; have HO271 := n3_; have HO275 := n4_; have HO279 := n5_; have BK256 := n6_; have BK268 := n7_; have HB := n8_; clear n0_ n1_ n2_ n3_ n4_ n5_ n6_ n7_ n8_; (try clear hb); (try clear hb2); (try clear hk); (try clear hi); (try clear ho0); obtain ⟨Ao67, co67, eo67⟩ := Kd.R_slice HO279.out; subst eo67) | ((with_reducible refine gate_callee (f := 17) rfl ?_); refine goesL_ (some 45) rfl rfl Try.func17 (by kernel_rfl) rfl #[.slice Ao60 t269.length co60, .slice Ao67 t277.length co67] rfl zl ?_; (with_reducible refine (laws_eqIntS.calls k _ _ t269 _ _ t277 true _ ?side1 ?side2 ?side3 ?side4 A41.out).mono ?_); (case side1 => exact zc (Kd.R_reads' HO271.out).2.2); (case side2 => exact (Kd.R_reads' HO271.out).2.1); (case side3 => exact zc (Kd.R_reads' HO279.out).2.2); (case side4 => exact (Kd.R_reads' HO279.out).2.1); rintro e w' ⟨rfl, ⟨nd, rfl⟩⟩; refine ⟨_, rfl, ?_⟩))
      go_ret
      exact ⟨ze, zb HB.out⟩
     ·replace c42 := Bool.eq_false_iff.mpr c42
      subst c42
      have H1 : (some false) = some r := by rw [if_neg (show ¬ (false = true) by decide)] at H; exact H
      clear H
      have H := H1
      clear H1
      obtain rfl := Option.some.inj H
      go_enter Try.func3, Try.ntmps3
      try go_wp2_with (first | ((with_reducible refine gate_dst (N := 3) rfl ?_); refine box_event ?hg (N := 3) ?hd (cs := #[.slice A0_0 l0_0.length c0_0]) (t := 24) ?hr ?_; (case hd => rfl); (case hg => rfl); (case hr => first | (go_simp; done) | (go_simp; rfl)); intro gb256 hg w68 hbox hb; have n0_ := Aside0.mk (below_step (zb HB.out) hb); have n1_ := Aside0.mk (hbox); have n2_ := Aside0.mk ((by rw [hg]; exact (below_size (zb HB.out)) : w.heap.size ≤ gb256)); have n3_ := Aside0.mk ((by rw [hg]; exact (below_size (zb HB.out)) : w.heap.size ≤ gb256)); clear HB; have HB := n0_; have BK256 := n1_; have GW256 := n2_; have GE256 := n3_; clear n0_ n1_ n2_ n3_; clear hb hbox hg; have hcz69_0 : w68.cell? ⟨gb256, 0, none⟩ = some (.slice A0_0 l0_0.length c0_0) := (blk_cell BK256.out 0).trans rfl; have hfz69_0 := blk_frozen BK256.out 0) | ((with_reducible refine gate_callee (f := 11) rfl ?_); refine goesL_ (some 17) rfl rfl Try.func11 (by kernel_rfl) rfl #[.agg #[.slice A0_0 l0_0.length c0_0], .int .i64 1048576] rfl zl ?_; (with_reducible refine (laws_szPool.calls _ _ l0_0 1048576 t257 _ ?side1 ?side2 A6.out).mono ?_); (case side1 => exact zc (Kd.C_below HR0_0.out HB.out)); (case side2 => exact HC0_0.out); rintro e w70 ⟨rfl, hb⟩; refine ⟨_, rfl, ?_⟩; have n0_ := Aside0.mk (blk_below (zh BK256.out) hb); have n1_ := Aside0.mk (below_step (zb HB.out) hb); clear BK256; clear HB; have BK256 := n0_; have HB := n1_; clear n0_ n1_; (try clear hb); (try clear hb2); (try clear hk); (try clear hi); have hcz71_0 : w70.cell? ⟨gb256, 0, none⟩ = some (.slice A0_0 l0_0.length c0_0) := (blk_cell BK256.out 0).trans rfl; have hfz71_0 := blk_frozen BK256.out 0) | ((with_reducible refine gate_callee (f := 13) rfl ?_); refine goesL_ (some 21) rfl rfl Try.func13 (by kernel_rfl) rfl #[.agg #[.slice A0_0 l0_0.length c0_0]] rfl zl ?_; (with_reducible refine (laws_toPool.calls k _ _ l0_0 t258 _ ?side1 ?side2 A11.out).mono ?_); (case side1 => exact zc (Kd.C_below HR0_0.out HB.out)); (case side2 => exact HC0_0.out); rintro e w72 ⟨v259, rfl, ho0, hb⟩; refine ⟨_, rfl, ?_⟩; have n0_ := Aside0.mk (Kd.R_lower ho0 (below_size (zb HB.out))); have n1_ := Aside0.mk (blk_below (zh BK256.out) hb); have n2_ := Aside0.mk (below_step (zb HB.out) hb); clear BK256; clear HB; have HO260 := n0_; have BK256 := n1_; have HB := n2_; clear n0_ n1_ n2_; (try clear hb); (try clear hb2); (try clear hk); (try clear hi); (try clear ho0)) | ((with_reducible refine gate_callee (f := 14) rfl ?_); refine goesL_ (some 23) rfl rfl Try.func14 (by kernel_rfl) rfl #[.slice A1 l1.length c1] rfl zl ?_; (with_reducible refine (laws_toIntS.calls k _ _ l1 t261 _ ?side1 ?side2 A12.out).mono ?_); (case side1 => exact zc (Kd.C_below HR1.out HB.out)); (case side2 => exact HC1.out); rintro e w73 ⟨v262, rfl, ho0, hb⟩; refine ⟨_, rfl, ?_⟩; have n0_ := Aside0.mk (Kd.R_below (zr HO260.out) hb); have n1_ := Aside0.mk (Kd.R_lower ho0 (below_size (zb HB.out))); have n2_ := Aside0.mk (blk_below (zh BK256.out) hb); have n3_ := Aside0.mk (below_step (zb HB.out) hb); clear HO260; clear BK256; clear HB; have HO260 := n0_; have HO263 := n1_; have BK256 := n2_; have HB := n3_; clear n0_ n1_ n2_ n3_; (try clear hb); (try clear hb2); (try clear hk); (try clear hi); (try clear ho0); obtain ⟨Ao74, co74, eo74⟩ := Kd.R_slice HO260.out; subst eo74; obtain ⟨Ao75, co75, eo75⟩ := Kd.R_slice HO263.out; subst eo75) | ((with_reducible refine gate_callee (f := 12) rfl ?_); refine goesL_ (some 25) rfl rfl Try.func12 (by kernel_rfl) rfl #[.agg #[.slice Ao74 t258.length co74], .slice Ao75 t261.length co75, .int .i64 a2] rfl zl ?_; (with_reducible refine (spec_Makes.calls k _ _ t258 _ _ t261 a2 t264 _ ?side1 ?side2 ?side3 ?side4 A13.out).mono ?_); (case side1 => exact zc (Kd.R_reads' HO260.out).2.2); (case side2 => exact (Kd.R_reads' HO260.out).2.1); (case side3 => exact zc (Kd.R_reads' HO263.out).2.2); (case side4 => exact (Kd.R_reads' HO263.out).2.1); rintro e w76 ⟨rfl, hb⟩; refine ⟨_, rfl, ?_⟩; have n0_ := Aside0.mk (Kd.R_below (zr HO260.out) hb); have n1_ := Aside0.mk (Kd.R_below (zr HO263.out) hb); have n2_ := Aside0.mk (blk_below (zh BK256.out) hb); have n3_ := Aside0.mk (below_step (zb HB.out) hb); clear HO260; clear HO263; clear BK256; clear HB; have HO260 := n0_; have HO263 := n1_; have BK256 := n2_; have HB := n3_; clear n0_ n1_ n2_ n3_; (try clear hb); (try clear hb2); (try clear hk); (try clear hi); have hcz77_0 : w76.cell? ⟨gb256, 0, none⟩ = some (.slice A0_0 l0_0.length c0_0) := (blk_cell BK256.out 0).trans rfl; have hfz77_0 := blk_frozen BK256.out 0) | ((with_reducible refine gate_callee (f := 13) rfl ?_); refine goesL_ (some 27) rfl rfl Try.func13 (by kernel_rfl) rfl #[.agg #[.slice A0_0 l0_0.length c0_0]] rfl zl ?_; (with_reducible refine (laws_toPool.calls k _ _ l0_0 t265 _ ?side1 ?side2 A14.out).mono ?_); (case side1 => exact zc (Kd.C_below HR0_0.out HB.out)); (case side2 => exact HC0_0.out); rintro e w78 ⟨v266, rfl, ho0, hb⟩; refine ⟨_, rfl, ?_⟩; have n0_ := Aside0.mk (Kd.R_elder' (zr HO260.out) (Kd.R_base ho0) hb); have n1_ := Aside0.mk (Kd.R_below (zr HO263.out) hb); have n2_ := Aside0.mk (Kd.R_lower (Kd.R_new' ho0 (Kd.R_lt (zr HO260.out))) (below_size (zb HB.out))); have n3_ := Aside0.mk (blk_below (zh BK256.out) hb); have n4_ := Aside0.mk (below_step (zb HB.out) hb); clear HO260; clear HO263; clear BK256; clear HB; have HO260 := n0_; have HO263 := n1_; have HO267 := n2_; have BK256 := n3_; have HB := n4_; clear n0_ n1_ n2_ n3_ n4_; (try clear hb); (try clear hb2); (try clear hk); (try clear hi); (try clear ho0)) | ((with_reducible refine gate_dst (N := 9) rfl ?_); refine box_event ?hg (N := 9) ?hd (cs := #[.slice none 0 0]) (t := 30) ?hr ?_; (case hd => rfl); (case hg => rfl); (case hr => first | (go_simp; done) | (go_simp; rfl)); intro gb268 hg w79 hbox hb; have n0_ := Aside0.mk (Kd.R_below (zr HO260.out) hb); have n1_ := Aside0.mk (Kd.R_below (zr HO263.out) hb); have n2_ := Aside0.mk (Kd.R_below (zr HO267.out) hb); have n3_ := Aside0.mk (blk_below (zh BK256.out) hb); have n4_ := Aside0.mk (below_step (zb HB.out) hb); have n5_ := Aside0.mk (hbox); have n6_ := Aside0.mk ((by rw [hg]; exact (below_size (zb HB.out)) : w.heap.size ≤ gb268)); have n7_ := Aside0.mk ((by rw [hg]; exact (below_size (zb HB.out)) : w.heap.size ≤ gb268)); have n8_ := Aside0.mk ((by rw [hg]; exact Nat.ne_of_lt (blk_lt (zh BK256.out)) : gb256 ≠ gb268)); have n9_ := Aside0.mk ((by rw [hg]; exact Nat.ne_of_gt (blk_lt (zh BK256.out)) : gb268 ≠ gb256)); clear HO260; clear HO263; clear HO267; clear BK256; clear HB; have HO260 := n0_; have HO263 := n1_; have HO267 := n2_; have BK256 := n3_; have HB := n4_; have BK268 := n5_; have GW268 := n6_; have GE268 := n7_; have NB256_268 := n8_; have NB268_256 := n9_; clear n0_ n1_ n2_ n3_ n4_ n5_ n6_ n7_ n8_ n9_; clear hb hbox hg; obtain ⟨Ao80, co80, eo80⟩ := Kd.R_slice HO267.out; subst eo80; have hnb81 := NB268_256.out; have hnc81 := NB256_268.out; have hcz82_0 : w79.cell? ⟨gb268, 0, none⟩ = some (.slice none 0 0) := (blk_cell BK268.out 0).trans rfl; have hfz82_0 := blk_frozen BK268.out 0) | ((with_reducible refine gate_callee (f := 14) rfl ?_); refine goesL_ (some 29) rfl rfl Try.func14 (by kernel_rfl) rfl #[.slice A1 l1.length c1] rfl zl ?_; (with_reducible refine (laws_toIntS.calls k _ _ l1 t269 _ ?side1 ?side2 A15.out).mono ?_); (case side1 => exact Kd.C_below HR1.out (zb HB.out)); (case side2 => exact HC1.out); rintro e w83 ⟨v270, rfl, ho0, hb⟩; refine ⟨_, rfl, ?_⟩; have n0_ := Aside0.mk (Kd.R_below (by (with_reducible repeat (first | apply Kd.R_alloc | apply Kd.R_drewN | apply Kd.R_drew)); exact (Kd.R_mono (Kd.R_far (p := ⟨gb268, 0, none⟩) (Kd.R_types HO260.out BK268.out (by decide)) (fun _ hk => hk.2) (.slice Ao80 t265.length co80)) (fun _ h_ => h_.1))) hb); have n1_ := Aside0.mk (Kd.R_elder' (by (with_reducible repeat (first | apply Kd.R_alloc | apply Kd.R_drewN | apply Kd.R_drew)); exact (Kd.R_mono (Kd.R_far (p := ⟨gb268, 0, none⟩) (Kd.R_types HO263.out BK268.out (by decide)) (fun _ hk => hk.2) (.slice Ao80 t265.length co80)) (fun _ h_ => h_.1))) (Kd.R_base ho0) hb); have n2_ := Aside0.mk (Kd.R_below (by (with_reducible repeat (first | apply Kd.R_alloc | apply Kd.R_drewN | apply Kd.R_drew)); exact (Kd.R_mono (Kd.R_far (p := ⟨gb268, 0, none⟩) (Kd.R_types HO267.out BK268.out (by decide)) (fun _ hk => hk.2) (.slice Ao80 t265.length co80)) (fun _ h_ => h_.1))) hb); have n3_ := Aside0.mk (Kd.R_lower (Kd.R_new' ho0 (Kd.R_lt (by (with_reducible repeat (first | apply Kd.R_alloc | apply Kd.R_drewN | apply Kd.R_drew)); exact (Kd.R_mono (Kd.R_far (p := ⟨gb268, 0, none⟩) (Kd.R_types HO263.out BK268.out (by decide)) (fun _ hk => hk.2) (.slice Ao80 t265.length co80)) (fun _ h_ => h_.1))))) (below_size (zb HB.out))); have n4_ := Aside0.mk (blk_below (g := gb256) (o := .cells #[.slice A0_0 l0_0.length c0_0] 24 (0, 0)) (zf BK256.out) hb); have n5_ := Aside0.mk (blk_below (g := gb268) (o := .cells #[.slice Ao80 t265.length co80] 30 (0, 0)) (by (with_reducible repeat (first | refine blk_drewN ?_ _ | refine blk_drew ?_ | refine blk_alloc ?_ _)); refine blk_put (cs := #[.slice none 0 0]) ?_ 0 _ rfl; (with_reducible repeat (first | refine blk_drewN ?_ _ | refine blk_drew ?_ | refine blk_alloc ?_ _)); exact BK268.out) hb); have n6_ := Aside0.mk (below_step (zb HB.out) hb); clear HO260; clear HO263; clear HO267; clear BK256; clear BK268; clear HB; have HO260 := n0_; have HO263 := n1_; have HO267 := n2_; have HO271 := n3_; have BK256 := n4_; have BK268 := n5_; have HB := n6_; clear n0_ n1_ n2_ n3_ n4_ n5_ n6_; (try clear hb); (try clear hb2); (try clear hk); (try clear hi); (try clear ho0); have hcz84_0 : w83.cell? ⟨gb268, 0, none⟩ = some (.slice Ao80 t265.length co80) := (blk_cell BK268.out 0).trans rfl; have hfz84_0 := blk_frozen BK268.out 0; obtain ⟨Ao85, co85, eo85⟩ := Kd.R_slice HO271.out; subst eo85) | ((with_reducible refine gate_callee (f := 15) rfl ?_); refine goesL_ (some 33) rfl rfl Try.func15 (by kernel_rfl) rfl #[.agg #[.slice Ao80 t265.length co80], .slice Ao85 t269.length co85, .int .i64 a2] rfl zl ?_; (with_reducible refine (impl_Makes.calls k _ _ t265 _ _ t269 a2 t272 _ ?side1 ?side2 ?side3 ?side4 A16.out).mono ?_); (case side1 => exact zc (Kd.R_reads' HO267.out).2.2); (case side2 => exact (Kd.R_reads' HO267.out).2.1); (case side3 => exact zc (Kd.R_reads' HO271.out).2.2); (case side4 => exact (Kd.R_reads' HO271.out).2.1); rintro e w86 ⟨rfl, hb⟩; refine ⟨_, rfl, ?_⟩; have n0_ := Aside0.mk (Kd.R_below (zr HO260.out) hb); have n1_ := Aside0.mk (Kd.R_below (zr HO263.out) hb); have n2_ := Aside0.mk (Kd.R_below (zr HO267.out) hb); have n3_ := Aside0.mk (Kd.R_below (zr HO271.out) hb); have n4_ := Aside0.mk (blk_below (zh BK256.out) hb); have n5_ := Aside0.mk (blk_below (zh BK268.out) hb); have n6_ := Aside0.mk (below_step (zb HB.out) hb); clear HO260; clear HO263; clear HO267; clear HO271; clear BK256; clear BK268; clear HB; have HO260 := n0_; have HO263 := n1_; have HO267 := n2_; have HO271 := n3_; have BK256 := n4_; have BK268 := n5_; have HB := n6_; clear n0_ n1_ n2_ n3_ n4_ n5_ n6_; (try clear hb); (try clear hb2); (try clear hk); (try clear hi)))
      have n0_ := Aside0.mk (Kd.R_drew HO260.out)
      have n1_ := Aside0.mk (Kd.R_drew HO263.out)
      have n2_ := Aside0.mk (Kd.R_drew HO267.out)
      have n3_ := Aside0.mk (Kd.R_drew HO271.out)
      have n4_ := Aside0.mk (blk_drew BK256.out)
      have n5_ := Aside0.mk (blk_drew BK268.out)
      have n6_ := Aside0.mk (below_drew1 HB.out)
      clear HO260
      clear HO263
      clear HO267
      clear HO271
      clear BK256
      clear BK268
      clear HB
      have HO260 := n0_
      have HO263 := n1_
      have HO267 := n2_
      have HO271 := n3_
      have BK256 := n4_
      have BK268 := n5_
      have HB := n6_
      clear n0_ n1_ n2_ n3_ n4_ n5_ n6_
      refine start_ (n := 5) (S := fun w' => w'.cell? ⟨gb268, 0, none⟩ = some (.slice Ao80 t265.length co80) ∧ w'.cell? ⟨gb256, 0, none⟩ = some (.slice A0_0 l0_0.length c0_0)) (ds := []) #[false, false, false, false, false] (by kernel_rfl) rfl rfl ⟨(blk_cell BK268.out 0).trans rfl, (blk_cell BK256.out 0).trans rfl⟩ (fun hHeld => ?_)
      generalize w86.drew = w87 at HO260 HO263 HO267 HO271 BK256 BK268 HB hHeld ⊢
      refine take_ (i := 0) (N := some 37) (v := ?_) (a' := ?_) #[true, false, false, false, false] rfl rfl (by kernel_rfl) (fun _ _ _ h => h) (Or.inl ⟨by rfl, ?_⟩) hHeld ?_ ?_
      rotate_left
      ·rintro w' ⟨s0, s1⟩
       go_simp
       with_reducible rfl
      rotate_left
      ·simp only [Act.put, List.setIfInBounds_toArray, List.set_cons_zero, List.set_cons_succ, i64_w, i32_w]
       rfl
      refine take_ (i := 1) (N := some 38) (v := ?_) (a' := ?_) #[true, true, false, false, false] rfl rfl (by kernel_rfl) (fun _ _ _ h => h) (Or.inl ⟨by rfl, ?_⟩) hHeld ?_ ?_
      rotate_left
      ·rintro w' ⟨s0, s1⟩
       go_simp
       with_reducible rfl
      rotate_left
      ·simp only [Act.put, List.setIfInBounds_toArray, List.set_cons_zero, List.set_cons_succ, i64_w, i32_w]
       rfl
      refine one_ (i := 2) (N := some 39) #[true, true, true, false, false] rfl rfl (by kernel_rfl) (by decide) (fun K hK => ?_)
      refine goes_ Try.func13 (by kernel_rfl) rfl #[.agg #[.slice A0_0 l0_0.length c0_0]] (by rfl) rfl rfl zl ?_
      with_reducible refine (laws_toPool.calls k _ _ l0_0 t273 _ ?side1 ?side2 A37.out).mono ?_
      (case side1 => exact zc (Kd.C_below HR0_0.out HB.out))
      (case side2 => exact HC0_0.out)
      rintro e w88 ⟨v274, rfl, ho0, hb⟩
      refine ⟨_, rfl, ?_⟩
      have n0_ := Aside0.mk (Kd.R_elder' (zr HO260.out) (Kd.R_base ho0) hb)
      have n1_ := Aside0.mk (Kd.R_below (zr HO263.out) hb)
      have n2_ := Aside0.mk (Kd.R_elder' (zr HO267.out) (Kd.R_base ho0) hb)
      have n3_ := Aside0.mk (Kd.R_below (zr HO271.out) hb)
      have n4_ := Aside0.mk (Kd.R_lower (Kd.R_new' (Kd.R_new' ho0 (Kd.R_lt (zr HO260.out))) (Kd.R_lt (zr HO267.out))) (below_size (zb HB.out)))
      have n5_ := Aside0.mk (blk_below (zh BK256.out) hb)
      have n6_ := Aside0.mk (blk_below (zh BK268.out) hb)
      have n7_ := Aside0.mk (below_step (zb HB.out) hb)
      clear HO260
      clear HO263
      clear HO267
      clear HO271
      clear BK256
      clear BK268
      clear HB
      have HO260 := n0_
      have HO263 := n1_
      have HO267 := n2_
      have HO271 := n3_
      have HO275 := n4_
      have BK256 := n5_
      have BK268 := n6_
      have HB := n7_
      clear n0_ n1_ n2_ n3_ n4_ n5_ n6_ n7_
      (try clear hb)
      (try clear hb2)
      (try clear hk)
      (try clear hi)
      (try clear ho0)
      obtain ⟨Ao89, co89, eo89⟩ := Kd.R_slice HO275.out
      (first | subst eo89 | (injection eo89 with f1_ f2_ f3_; have f4_ := f1_.symm; have f5_ := f3_.symm; clear f1_ f2_ f3_; subst f4_; subst f5_))
      refine hK.out _ _ ⟨(blk_cell BK268.out 0).trans rfl, (blk_cell BK256.out 0).trans rfl⟩ (fun hHeld => ?_)
      clear hK K
      refine norm_ (a' := ?_) ?_ ?_
      rotate_left
      ·show Act.put _ (some 39) _ = _
       simp only [Act.put, List.setIfInBounds_toArray, List.set_cons_zero, List.set_cons_succ, i64_w, i32_w]
       rfl
      refine one_ (i := 3) (N := some 40) #[true, true, true, true, false] rfl rfl (by kernel_rfl) (by decide) (fun K hK => ?_)
      refine goes_ Try.func16 (by kernel_rfl) rfl #[.agg #[.slice Ao80 t265.length co80], .agg #[.slice Ao89 t273.length co89]] (by rfl) rfl rfl zl ?_
      with_reducible refine (laws_eqPool.calls k _ _ t265 _ _ t273 true _ ?side1 ?side2 ?side3 ?side4 A38.out).mono ?_
      (case side1 => exact zc (Kd.R_reads' HO267.out).2.2)
      (case side2 => exact (Kd.R_reads' HO267.out).2.1)
      (case side3 => exact zc (Kd.R_reads' HO275.out).2.2)
      (case side4 => exact (Kd.R_reads' HO275.out).2.1)
      rintro e w90 ⟨rfl, hb⟩
      refine ⟨_, rfl, ?_⟩
      have n0_ := Aside0.mk (Kd.R_below (zr HO260.out) hb)
      have n1_ := Aside0.mk (Kd.R_below (zr HO263.out) hb)
      have n2_ := Aside0.mk (Kd.R_below (zr HO267.out) hb)
      have n3_ := Aside0.mk (Kd.R_below (zr HO271.out) hb)
      have n4_ := Aside0.mk (Kd.R_below (zr HO275.out) hb)
      have n5_ := Aside0.mk (blk_below (zh BK256.out) hb)
      have n6_ := Aside0.mk (blk_below (zh BK268.out) hb)
      have n7_ := Aside0.mk (below_step (zb HB.out) hb)
      clear HO260
      clear HO263
      clear HO267
      clear HO271
      clear HO275
      clear BK256
      clear BK268
      clear HB
      have HO260 := n0_
      have HO263 := n1_
      have HO267 := n2_
      have HO271 := n3_
      have HO275 := n4_
      have BK256 := n5_
      have BK268 := n6_
      have HB := n7_
      clear n0_ n1_ n2_ n3_ n4_ n5_ n6_ n7_
      (try clear hb)
      (try clear hb2)
      (try clear hk)
      (try clear hi)
      refine hK.out _ _ ⟨(blk_cell BK268.out 0).trans rfl, (blk_cell BK256.out 0).trans rfl⟩ (fun hHeld => ?_)
      clear hK K
      refine norm_ (a' := ?_) ?_ ?_
      rotate_left
      ·show Act.put _ (some 40) _ = _
       simp only [Act.put, List.setIfInBounds_toArray, List.set_cons_zero, List.set_cons_succ, i64_w, i32_w]
       rfl
      refine pure_ (i := 4) (N := some 41) (v := ?_) (a' := ?_) #[true, true, true, true, true] rfl rfl (by kernel_rfl) (fun _ _ _ h => h) (Or.inl ⟨by rfl, ?_⟩) ?_ ?_
      rotate_left
      ·intro w'
       go_simp
       with_reducible rfl
      rotate_left
      ·simp only [Act.put, List.setIfInBounds_toArray, List.set_cons_zero, List.set_cons_succ, i64_w, i32_w]
       rfl
      refine done_ (by kernel_rfl) ?_
      try go_wp2_with (first | ((with_reducible refine gate_callee (f := 14) rfl ?_); refine goesL_ (some 44) rfl rfl Try.func14 (by kernel_rfl) rfl #[.slice A1 l1.length c1] rfl zl ?_; (with_reducible refine (laws_toIntS.calls k _ _ l1 t277 _ ?side1 ?side2 A40.out).mono ?_); (case side1 => exact zc (Kd.C_below HR1.out HB.out)); (case side2 => exact HC1.out); rintro e w91 ⟨v278, rfl, ho0, hb⟩; refine ⟨_, rfl, ?_⟩; have n0_ := Aside0.mk (Kd.R_below (zr HO260.out) hb); have n1_ := Aside0.mk (Kd.R_elder' (zr HO263.out) (Kd.R_base ho0) hb); have n2_ := Aside0.mk (Kd.R_below (zr HO267.out) hb); have n3_ := Aside0.mk (Kd.R_elder' (zr HO271.out) (Kd.R_base ho0) hb); have n4_ := Aside0.mk (Kd.R_below (zr HO275.out) hb); have n5_ := Aside0.mk (Kd.R_lower (Kd.R_new' (Kd.R_new' ho0 (Kd.R_lt (zr HO263.out))) (Kd.R_lt (zr HO271.out))) (below_size (zb HB.out))); have n6_ := Aside0.mk (blk_below (zh BK256.out) hb); have n7_ := Aside0.mk (blk_below (zh BK268.out) hb); have n8_ := Aside0.mk (below_step (zb HB.out) hb); clear HO260; clear HO263; clear HO267; clear HO271; clear HO275; clear BK256; clear BK268; clear HB; have HO260 := n0_; have HO263 := n1_; have HO267 := n2_; have HO271 := n3_; have HO275 := n4_; have HO279 := n5_; have BK256 := n6_; have BK268 := n7_; have HB := n8_; clear n0_ n1_ n2_ n3_ n4_ n5_ n6_ n7_ n8_; (try clear hb); (try clear hb2); (try clear hk); (try clear hi); (try clear ho0); obtain ⟨Ao92, co92, eo92⟩ := Kd.R_slice HO279.out; subst eo92) | ((with_reducible refine gate_callee (f := 17) rfl ?_); refine goesL_ (some 45) rfl rfl Try.func17 (by kernel_rfl) rfl #[.slice Ao85 t269.length co85, .slice Ao92 t277.length co92] rfl zl ?_; (with_reducible refine (laws_eqIntS.calls k _ _ t269 _ _ t277 false _ ?side1 ?side2 ?side3 ?side4 A41.out).mono ?_); (case side1 => exact zc (Kd.R_reads' HO271.out).2.2); (case side2 => exact (Kd.R_reads' HO271.out).2.1); (case side3 => exact zc (Kd.R_reads' HO279.out).2.2); (case side4 => exact (Kd.R_reads' HO279.out).2.1); rintro e w' ⟨rfl, ⟨nd, rfl⟩⟩; refine ⟨_, rfl, ?_⟩))
      go_ret
      exact ⟨ze, zb HB.out⟩
    ·replace c39 := Bool.eq_false_iff.mpr c39
     subst c39
     have H1 : (some false) = some r := by rw [if_neg (show ¬ (false = true) by decide)] at H; exact H
     clear H
     have H := H1
     clear H1
     obtain rfl := Option.some.inj H
     go_enter Try.func3, Try.ntmps3
     try go_wp2_with (first | ((with_reducible refine gate_dst (N := 3) rfl ?_); refine box_event ?hg (N := 3) ?hd (cs := #[.slice A0_0 l0_0.length c0_0]) (t := 24) ?hr ?_; (case hd => rfl); (case hg => rfl); (case hr => first | (go_simp; done) | (go_simp; rfl)); intro gb256 hg w93 hbox hb; have n0_ := Aside0.mk (below_step (zb HB.out) hb); have n1_ := Aside0.mk (hbox); have n2_ := Aside0.mk ((by rw [hg]; exact (below_size (zb HB.out)) : w.heap.size ≤ gb256)); have n3_ := Aside0.mk ((by rw [hg]; exact (below_size (zb HB.out)) : w.heap.size ≤ gb256)); clear HB; have HB := n0_; have BK256 := n1_; have GW256 := n2_; have GE256 := n3_; clear n0_ n1_ n2_ n3_; clear hb hbox hg; have hcz94_0 : w93.cell? ⟨gb256, 0, none⟩ = some (.slice A0_0 l0_0.length c0_0) := (blk_cell BK256.out 0).trans rfl; have hfz94_0 := blk_frozen BK256.out 0) | ((with_reducible refine gate_callee (f := 11) rfl ?_); refine goesL_ (some 17) rfl rfl Try.func11 (by kernel_rfl) rfl #[.agg #[.slice A0_0 l0_0.length c0_0], .int .i64 1048576] rfl zl ?_; (with_reducible refine (laws_szPool.calls _ _ l0_0 1048576 t257 _ ?side1 ?side2 A6.out).mono ?_); (case side1 => exact zc (Kd.C_below HR0_0.out HB.out)); (case side2 => exact HC0_0.out); rintro e w95 ⟨rfl, hb⟩; refine ⟨_, rfl, ?_⟩; have n0_ := Aside0.mk (blk_below (zh BK256.out) hb); have n1_ := Aside0.mk (below_step (zb HB.out) hb); clear BK256; clear HB; have BK256 := n0_; have HB := n1_; clear n0_ n1_; (try clear hb); (try clear hb2); (try clear hk); (try clear hi); have hcz96_0 : w95.cell? ⟨gb256, 0, none⟩ = some (.slice A0_0 l0_0.length c0_0) := (blk_cell BK256.out 0).trans rfl; have hfz96_0 := blk_frozen BK256.out 0) | ((with_reducible refine gate_callee (f := 13) rfl ?_); refine goesL_ (some 21) rfl rfl Try.func13 (by kernel_rfl) rfl #[.agg #[.slice A0_0 l0_0.length c0_0]] rfl zl ?_; (with_reducible refine (laws_toPool.calls k _ _ l0_0 t258 _ ?side1 ?side2 A11.out).mono ?_); (case side1 => exact zc (Kd.C_below HR0_0.out HB.out)); (case side2 => exact HC0_0.out); rintro e w97 ⟨v259, rfl, ho0, hb⟩; refine ⟨_, rfl, ?_⟩; have n0_ := Aside0.mk (Kd.R_lower ho0 (below_size (zb HB.out))); have n1_ := Aside0.mk (blk_below (zh BK256.out) hb); have n2_ := Aside0.mk (below_step (zb HB.out) hb); clear BK256; clear HB; have HO260 := n0_; have BK256 := n1_; have HB := n2_; clear n0_ n1_ n2_; (try clear hb); (try clear hb2); (try clear hk); (try clear hi); (try clear ho0)) | ((with_reducible refine gate_callee (f := 14) rfl ?_); refine goesL_ (some 23) rfl rfl Try.func14 (by kernel_rfl) rfl #[.slice A1 l1.length c1] rfl zl ?_; (with_reducible refine (laws_toIntS.calls k _ _ l1 t261 _ ?side1 ?side2 A12.out).mono ?_); (case side1 => exact zc (Kd.C_below HR1.out HB.out)); (case side2 => exact HC1.out); rintro e w98 ⟨v262, rfl, ho0, hb⟩; refine ⟨_, rfl, ?_⟩; have n0_ := Aside0.mk (Kd.R_below (zr HO260.out) hb); have n1_ := Aside0.mk (Kd.R_lower ho0 (below_size (zb HB.out))); have n2_ := Aside0.mk (blk_below (zh BK256.out) hb); have n3_ := Aside0.mk (below_step (zb HB.out) hb); clear HO260; clear BK256; clear HB; have HO260 := n0_; have HO263 := n1_; have BK256 := n2_; have HB := n3_; clear n0_ n1_ n2_ n3_; (try clear hb); (try clear hb2); (try clear hk); (try clear hi); (try clear ho0); obtain ⟨Ao99, co99, eo99⟩ := Kd.R_slice HO260.out; subst eo99; obtain ⟨Ao100, co100, eo100⟩ := Kd.R_slice HO263.out; subst eo100) | ((with_reducible refine gate_callee (f := 12) rfl ?_); refine goesL_ (some 25) rfl rfl Try.func12 (by kernel_rfl) rfl #[.agg #[.slice Ao99 t258.length co99], .slice Ao100 t261.length co100, .int .i64 a2] rfl zl ?_; (with_reducible refine (spec_Makes.calls k _ _ t258 _ _ t261 a2 t264 _ ?side1 ?side2 ?side3 ?side4 A13.out).mono ?_); (case side1 => exact zc (Kd.R_reads' HO260.out).2.2); (case side2 => exact (Kd.R_reads' HO260.out).2.1); (case side3 => exact zc (Kd.R_reads' HO263.out).2.2); (case side4 => exact (Kd.R_reads' HO263.out).2.1); rintro e w101 ⟨rfl, hb⟩; refine ⟨_, rfl, ?_⟩; have n0_ := Aside0.mk (Kd.R_below (zr HO260.out) hb); have n1_ := Aside0.mk (Kd.R_below (zr HO263.out) hb); have n2_ := Aside0.mk (blk_below (zh BK256.out) hb); have n3_ := Aside0.mk (below_step (zb HB.out) hb); clear HO260; clear HO263; clear BK256; clear HB; have HO260 := n0_; have HO263 := n1_; have BK256 := n2_; have HB := n3_; clear n0_ n1_ n2_ n3_; (try clear hb); (try clear hb2); (try clear hk); (try clear hi); have hcz102_0 : w101.cell? ⟨gb256, 0, none⟩ = some (.slice A0_0 l0_0.length c0_0) := (blk_cell BK256.out 0).trans rfl; have hfz102_0 := blk_frozen BK256.out 0) | ((with_reducible refine gate_callee (f := 13) rfl ?_); refine goesL_ (some 27) rfl rfl Try.func13 (by kernel_rfl) rfl #[.agg #[.slice A0_0 l0_0.length c0_0]] rfl zl ?_; (with_reducible refine (laws_toPool.calls k _ _ l0_0 t265 _ ?side1 ?side2 A14.out).mono ?_); (case side1 => exact zc (Kd.C_below HR0_0.out HB.out)); (case side2 => exact HC0_0.out); rintro e w103 ⟨v266, rfl, ho0, hb⟩; refine ⟨_, rfl, ?_⟩; have n0_ := Aside0.mk (Kd.R_elder' (zr HO260.out) (Kd.R_base ho0) hb); have n1_ := Aside0.mk (Kd.R_below (zr HO263.out) hb); have n2_ := Aside0.mk (Kd.R_lower (Kd.R_new' ho0 (Kd.R_lt (zr HO260.out))) (below_size (zb HB.out))); have n3_ := Aside0.mk (blk_below (zh BK256.out) hb); have n4_ := Aside0.mk (below_step (zb HB.out) hb); clear HO260; clear HO263; clear BK256; clear HB; have HO260 := n0_; have HO263 := n1_; have HO267 := n2_; have BK256 := n3_; have HB := n4_; clear n0_ n1_ n2_ n3_ n4_; (try clear hb); (try clear hb2); (try clear hk); (try clear hi); (try clear ho0)) | ((with_reducible refine gate_dst (N := 9) rfl ?_); refine box_event ?hg (N := 9) ?hd (cs := #[.slice none 0 0]) (t := 30) ?hr ?_; (case hd => rfl); (case hg => rfl); (case hr => first | (go_simp; done) | (go_simp; rfl)); intro gb268 hg w104 hbox hb; have n0_ := Aside0.mk (Kd.R_below (zr HO260.out) hb); have n1_ := Aside0.mk (Kd.R_below (zr HO263.out) hb); have n2_ := Aside0.mk (Kd.R_below (zr HO267.out) hb); have n3_ := Aside0.mk (blk_below (zh BK256.out) hb); have n4_ := Aside0.mk (below_step (zb HB.out) hb); have n5_ := Aside0.mk (hbox); have n6_ := Aside0.mk ((by rw [hg]; exact (below_size (zb HB.out)) : w.heap.size ≤ gb268)); have n7_ := Aside0.mk ((by rw [hg]; exact (below_size (zb HB.out)) : w.heap.size ≤ gb268)); have n8_ := Aside0.mk ((by rw [hg]; exact Nat.ne_of_lt (blk_lt (zh BK256.out)) : gb256 ≠ gb268)); have n9_ := Aside0.mk ((by rw [hg]; exact Nat.ne_of_gt (blk_lt (zh BK256.out)) : gb268 ≠ gb256)); clear HO260; clear HO263; clear HO267; clear BK256; clear HB; have HO260 := n0_; have HO263 := n1_; have HO267 := n2_; have BK256 := n3_; have HB := n4_; have BK268 := n5_; have GW268 := n6_; have GE268 := n7_; have NB256_268 := n8_; have NB268_256 := n9_; clear n0_ n1_ n2_ n3_ n4_ n5_ n6_ n7_ n8_ n9_; clear hb hbox hg; obtain ⟨Ao105, co105, eo105⟩ := Kd.R_slice HO267.out; subst eo105; have hnb106 := NB268_256.out; have hnc106 := NB256_268.out; have hcz107_0 : w104.cell? ⟨gb268, 0, none⟩ = some (.slice none 0 0) := (blk_cell BK268.out 0).trans rfl; have hfz107_0 := blk_frozen BK268.out 0) | ((with_reducible refine gate_callee (f := 14) rfl ?_); refine goesL_ (some 29) rfl rfl Try.func14 (by kernel_rfl) rfl #[.slice A1 l1.length c1] rfl zl ?_; (with_reducible refine (laws_toIntS.calls k _ _ l1 t269 _ ?side1 ?side2 A15.out).mono ?_); (case side1 => exact Kd.C_below HR1.out (zb HB.out)); (case side2 => exact HC1.out); rintro e w108 ⟨v270, rfl, ho0, hb⟩; refine ⟨_, rfl, ?_⟩; have n0_ := Aside0.mk (Kd.R_below (by (with_reducible repeat (first | apply Kd.R_alloc | apply Kd.R_drewN | apply Kd.R_drew)); exact (Kd.R_mono (Kd.R_far (p := ⟨gb268, 0, none⟩) (Kd.R_types HO260.out BK268.out (by decide)) (fun _ hk => hk.2) (.slice Ao105 t265.length co105)) (fun _ h_ => h_.1))) hb); have n1_ := Aside0.mk (Kd.R_elder' (by (with_reducible repeat (first | apply Kd.R_alloc | apply Kd.R_drewN | apply Kd.R_drew)); exact (Kd.R_mono (Kd.R_far (p := ⟨gb268, 0, none⟩) (Kd.R_types HO263.out BK268.out (by decide)) (fun _ hk => hk.2) (.slice Ao105 t265.length co105)) (fun _ h_ => h_.1))) (Kd.R_base ho0) hb); have n2_ := Aside0.mk (Kd.R_below (by (with_reducible repeat (first | apply Kd.R_alloc | apply Kd.R_drewN | apply Kd.R_drew)); exact (Kd.R_mono (Kd.R_far (p := ⟨gb268, 0, none⟩) (Kd.R_types HO267.out BK268.out (by decide)) (fun _ hk => hk.2) (.slice Ao105 t265.length co105)) (fun _ h_ => h_.1))) hb); have n3_ := Aside0.mk (Kd.R_lower (Kd.R_new' ho0 (Kd.R_lt (by (with_reducible repeat (first | apply Kd.R_alloc | apply Kd.R_drewN | apply Kd.R_drew)); exact (Kd.R_mono (Kd.R_far (p := ⟨gb268, 0, none⟩) (Kd.R_types HO263.out BK268.out (by decide)) (fun _ hk => hk.2) (.slice Ao105 t265.length co105)) (fun _ h_ => h_.1))))) (below_size (zb HB.out))); have n4_ := Aside0.mk (blk_below (g := gb256) (o := .cells #[.slice A0_0 l0_0.length c0_0] 24 (0, 0)) (zf BK256.out) hb); have n5_ := Aside0.mk (blk_below (g := gb268) (o := .cells #[.slice Ao105 t265.length co105] 30 (0, 0)) (by (with_reducible repeat (first | refine blk_drewN ?_ _ | refine blk_drew ?_ | refine blk_alloc ?_ _)); refine blk_put (cs := #[.slice none 0 0]) ?_ 0 _ rfl; (with_reducible repeat (first | refine blk_drewN ?_ _ | refine blk_drew ?_ | refine blk_alloc ?_ _)); exact BK268.out) hb); have n6_ := Aside0.mk (below_step (zb HB.out) hb); clear HO260; clear HO263; clear HO267; clear BK256; clear BK268; clear HB; have HO260 := n0_; have HO263 := n1_; have HO267 := n2_; have HO271 := n3_; have BK256 := n4_; have BK268 := n5_; have HB := n6_; clear n0_ n1_ n2_ n3_ n4_ n5_ n6_; (try clear hb); (try clear hb2); (try clear hk); (try clear hi); (try clear ho0); have hcz109_0 : w108.cell? ⟨gb268, 0, none⟩ = some (.slice Ao105 t265.length co105) := (blk_cell BK268.out 0).trans rfl; have hfz109_0 := blk_frozen BK268.out 0; obtain ⟨Ao110, co110, eo110⟩ := Kd.R_slice HO271.out; subst eo110) | ((with_reducible refine gate_callee (f := 15) rfl ?_); refine goesL_ (some 33) rfl rfl Try.func15 (by kernel_rfl) rfl #[.agg #[.slice Ao105 t265.length co105], .slice Ao110 t269.length co110, .int .i64 a2] rfl zl ?_; (with_reducible refine (impl_Makes.calls k _ _ t265 _ _ t269 a2 t272 _ ?side1 ?side2 ?side3 ?side4 A16.out).mono ?_); (case side1 => exact zc (Kd.R_reads' HO267.out).2.2); (case side2 => exact (Kd.R_reads' HO267.out).2.1); (case side3 => exact zc (Kd.R_reads' HO271.out).2.2); (case side4 => exact (Kd.R_reads' HO271.out).2.1); rintro e w111 ⟨rfl, hb⟩; refine ⟨_, rfl, ?_⟩; have n0_ := Aside0.mk (Kd.R_below (zr HO260.out) hb); have n1_ := Aside0.mk (Kd.R_below (zr HO263.out) hb); have n2_ := Aside0.mk (Kd.R_below (zr HO267.out) hb); have n3_ := Aside0.mk (Kd.R_below (zr HO271.out) hb); have n4_ := Aside0.mk (blk_below (zh BK256.out) hb); have n5_ := Aside0.mk (blk_below (zh BK268.out) hb); have n6_ := Aside0.mk (below_step (zb HB.out) hb); clear HO260; clear HO263; clear HO267; clear HO271; clear BK256; clear BK268; clear HB; have HO260 := n0_; have HO263 := n1_; have HO267 := n2_; have HO271 := n3_; have BK256 := n4_; have BK268 := n5_; have HB := n6_; clear n0_ n1_ n2_ n3_ n4_ n5_ n6_; (try clear hb); (try clear hb2); (try clear hk); (try clear hi)))
     have n0_ := Aside0.mk (Kd.R_drew HO260.out)
     have n1_ := Aside0.mk (Kd.R_drew HO263.out)
     have n2_ := Aside0.mk (Kd.R_drew HO267.out)
     have n3_ := Aside0.mk (Kd.R_drew HO271.out)
     have n4_ := Aside0.mk (blk_drew BK256.out)
     have n5_ := Aside0.mk (blk_drew BK268.out)
     have n6_ := Aside0.mk (below_drew1 HB.out)
     clear HO260
     clear HO263
     clear HO267
     clear HO271
     clear BK256
     clear BK268
     clear HB
     have HO260 := n0_
     have HO263 := n1_
     have HO267 := n2_
     have HO271 := n3_
     have BK256 := n4_
     have BK268 := n5_
     have HB := n6_
     clear n0_ n1_ n2_ n3_ n4_ n5_ n6_
     refine start_ (n := 5) (S := fun w' => w'.cell? ⟨gb268, 0, none⟩ = some (.slice Ao105 t265.length co105) ∧ w'.cell? ⟨gb256, 0, none⟩ = some (.slice A0_0 l0_0.length c0_0)) (ds := []) #[false, false, false, false, false] (by kernel_rfl) rfl rfl ⟨(blk_cell BK268.out 0).trans rfl, (blk_cell BK256.out 0).trans rfl⟩ (fun hHeld => ?_)
     generalize w111.drew = w112 at HO260 HO263 HO267 HO271 BK256 BK268 HB hHeld ⊢
     refine take_ (i := 0) (N := some 37) (v := ?_) (a' := ?_) #[true, false, false, false, false] rfl rfl (by kernel_rfl) (fun _ _ _ h => h) (Or.inl ⟨by rfl, ?_⟩) hHeld ?_ ?_
     rotate_left
     ·rintro w' ⟨s0, s1⟩
      go_simp
      with_reducible rfl
     rotate_left
     ·simp only [Act.put, List.setIfInBounds_toArray, List.set_cons_zero, List.set_cons_succ, i64_w, i32_w]
      rfl
     refine take_ (i := 1) (N := some 38) (v := ?_) (a' := ?_) #[true, true, false, false, false] rfl rfl (by kernel_rfl) (fun _ _ _ h => h) (Or.inl ⟨by rfl, ?_⟩) hHeld ?_ ?_
     rotate_left
     ·rintro w' ⟨s0, s1⟩
      go_simp
      with_reducible rfl
     rotate_left
     ·simp only [Act.put, List.setIfInBounds_toArray, List.set_cons_zero, List.set_cons_succ, i64_w, i32_w]
      rfl
     refine one_ (i := 2) (N := some 39) #[true, true, true, false, false] rfl rfl (by kernel_rfl) (by decide) (fun K hK => ?_)
     refine goes_ Try.func13 (by kernel_rfl) rfl #[.agg #[.slice A0_0 l0_0.length c0_0]] (by rfl) rfl rfl zl ?_
     with_reducible refine (laws_toPool.calls k _ _ l0_0 t273 _ ?side1 ?side2 A37.out).mono ?_
     (case side1 => exact zc (Kd.C_below HR0_0.out HB.out))
     (case side2 => exact HC0_0.out)
     rintro e w113 ⟨v274, rfl, ho0, hb⟩
     refine ⟨_, rfl, ?_⟩
     have n0_ := Aside0.mk (Kd.R_elder' (zr HO260.out) (Kd.R_base ho0) hb)
     have n1_ := Aside0.mk (Kd.R_below (zr HO263.out) hb)
     have n2_ := Aside0.mk (Kd.R_elder' (zr HO267.out) (Kd.R_base ho0) hb)
     have n3_ := Aside0.mk (Kd.R_below (zr HO271.out) hb)
     have n4_ := Aside0.mk (Kd.R_lower (Kd.R_new' (Kd.R_new' ho0 (Kd.R_lt (zr HO260.out))) (Kd.R_lt (zr HO267.out))) (below_size (zb HB.out)))
     have n5_ := Aside0.mk (blk_below (zh BK256.out) hb)
     have n6_ := Aside0.mk (blk_below (zh BK268.out) hb)
     have n7_ := Aside0.mk (below_step (zb HB.out) hb)
     clear HO260
     clear HO263
     clear HO267
     clear HO271
     clear BK256
     clear BK268
     clear HB
     have HO260 := n0_
     have HO263 := n1_
     have HO267 := n2_
     have HO271 := n3_
     have HO275 := n4_
     have BK256 := n5_
     have BK268 := n6_
     have HB := n7_
     clear n0_ n1_ n2_ n3_ n4_ n5_ n6_ n7_
     (try clear hb)
     (try clear hb2)
     (try clear hk)
     (try clear hi)
     (try clear ho0)
     obtain ⟨Ao114, co114, eo114⟩ := Kd.R_slice HO275.out
     (first | subst eo114 | (injection eo114 with f1_ f2_ f3_; have f4_ := f1_.symm; have f5_ := f3_.symm; clear f1_ f2_ f3_; subst f4_; subst f5_))
     refine hK.out _ _ ⟨(blk_cell BK268.out 0).trans rfl, (blk_cell BK256.out 0).trans rfl⟩ (fun hHeld => ?_)
     clear hK K
     refine norm_ (a' := ?_) ?_ ?_
     rotate_left
     ·show Act.put _ (some 39) _ = _
      simp only [Act.put, List.setIfInBounds_toArray, List.set_cons_zero, List.set_cons_succ, i64_w, i32_w]
      rfl
     refine one_ (i := 3) (N := some 40) #[true, true, true, true, false] rfl rfl (by kernel_rfl) (by decide) (fun K hK => ?_)
     refine goes_ Try.func16 (by kernel_rfl) rfl #[.agg #[.slice Ao105 t265.length co105], .agg #[.slice Ao114 t273.length co114]] (by rfl) rfl rfl zl ?_
     with_reducible refine (laws_eqPool.calls k _ _ t265 _ _ t273 false _ ?side1 ?side2 ?side3 ?side4 A38.out).mono ?_
     (case side1 => exact zc (Kd.R_reads' HO267.out).2.2)
     (case side2 => exact (Kd.R_reads' HO267.out).2.1)
     (case side3 => exact zc (Kd.R_reads' HO275.out).2.2)
     (case side4 => exact (Kd.R_reads' HO275.out).2.1)
     rintro e w115 ⟨rfl, hb⟩
     refine ⟨_, rfl, ?_⟩
     have n0_ := Aside0.mk (Kd.R_below (zr HO260.out) hb)
     have n1_ := Aside0.mk (Kd.R_below (zr HO263.out) hb)
     have n2_ := Aside0.mk (Kd.R_below (zr HO267.out) hb)
     have n3_ := Aside0.mk (Kd.R_below (zr HO271.out) hb)
     have n4_ := Aside0.mk (Kd.R_below (zr HO275.out) hb)
     have n5_ := Aside0.mk (blk_below (zh BK256.out) hb)
     have n6_ := Aside0.mk (blk_below (zh BK268.out) hb)
     have n7_ := Aside0.mk (below_step (zb HB.out) hb)
     clear HO260
     clear HO263
     clear HO267
     clear HO271
     clear HO275
     clear BK256
     clear BK268
     clear HB
     have HO260 := n0_
     have HO263 := n1_
     have HO267 := n2_
     have HO271 := n3_
     have HO275 := n4_
     have BK256 := n5_
     have BK268 := n6_
     have HB := n7_
     clear n0_ n1_ n2_ n3_ n4_ n5_ n6_ n7_
     (try clear hb)
     (try clear hb2)
     (try clear hk)
     (try clear hi)
     refine hK.out _ _ ⟨(blk_cell BK268.out 0).trans rfl, (blk_cell BK256.out 0).trans rfl⟩ (fun hHeld => ?_)
     clear hK K
     refine norm_ (a' := ?_) ?_ ?_
     rotate_left
     ·show Act.put _ (some 40) _ = _
      simp only [Act.put, List.setIfInBounds_toArray, List.set_cons_zero, List.set_cons_succ, i64_w, i32_w]
      rfl
     refine pure_ (i := 4) (N := some 41) (v := ?_) (a' := ?_) #[true, true, true, true, true] rfl rfl (by kernel_rfl) (fun _ _ _ h => h) (Or.inl ⟨by rfl, ?_⟩) ?_ ?_
     rotate_left
     ·intro w'
      go_simp
      with_reducible rfl
     rotate_left
     ·simp only [Act.put, List.setIfInBounds_toArray, List.set_cons_zero, List.set_cons_succ, i64_w, i32_w]
      rfl
     refine done_ (by kernel_rfl) ?_
     try go_wp2
     go_ret
     exact ⟨ze, zb HB.out⟩

/-! ### spec_MakesAll: function 18 -/
def spec_MakesAll.f (k : Nat) (l0_0 : List (S51)) (l1 : List Int) : Option (List Bool) := (spec_KnowOk.f k l0_0 l1).bind fun t282 => (if t282 = true then ((spec_l7All.f k l0_0 l1).bind fun t283 => (some t283)) else (some (([] : List Bool))))
theorem spec_MakesAll.mono : ∀ a0 a1 k, LeO (spec_MakesAll.f k a0 a1) (spec_MakesAll.f (k + 1) a0 a1) := by
 intro a0 a1 k
 unfold spec_MakesAll.f
 repeat' first
   | (with_reducible exact spec_KnowOk.mono _ _ _)
   | (with_reducible exact spec_l7All.mono _ _ _)
   | (with_reducible exact LeO.refl _)
   | (with_reducible exact LeO.none _)
   | (with_reducible refine LeO.ite ?_ ?_)
   | (with_reducible refine LeO.bind ?_ (fun _ => ?_))
   | exact spec_KnowOk.mono _ _ _
   | exact spec_l7All.mono _ _ _
   | exact LeO.none _
   | refine LeO.ite ?_ ?_
   | refine LeO.bind ?_ (fun _ => ?_)
set_option maxHeartbeats 8000000 in
set_option maxRecDepth 100000 in
theorem spec_MakesAll.calls (k : Nat) (A0_0 : Option Addr) (c0_0 : Nat) (l0_0 : List (S51)) (A1 : Option Addr) (c1 : Nat) (l1 : List Int) (r : List Bool) (w : World) (hr0_0 : Kd.C k51 w A0_0 l0_0.length l0_0) (hc0_0 : l0_0.length ≤ c0_0) (hr1 : Kd.C (Kd.int .i64) w A1 l1.length l1) (hc1 : l1.length ≤ c1) (h : spec_MakesAll.f k l0_0 l1 = some r) :
  Calls Try.prog 18 #[.agg #[.slice A0_0 l0_0.length c0_0], .slice A1 l1.length c1] w fun e w' => ∃ v0_ : Value, e = .returned (v0_) ∧ Kd.R Kd.bool 4 w' w.heap.size (fun _ => True) v0_ r ∧ Below w.heap.size w w' := by
 have hu30 := Try.underlying30
 have HR0_0 := Aside0.mk hr0_0
 have HC0_0 := Aside0.mk hc0_0
 clear hr0_0 hc0_0
 have HR1 := Aside0.mk hr1
 have HC1 := Aside0.mk hc1
 clear hr1 hc1
 have HB := Aside0.mk (Below.refl w.heap.size w)
 have H : ((spec_KnowOk.f k l0_0 l1).bind fun t282 => (if t282 = true then ((spec_l7All.f k l0_0 l1).bind fun t283 => (some t283)) else (some (([] : List Bool))))) = some r := h
 clear h
 replace H := Option.bind_eq_some_iff.mp H
 obtain ⟨t282, A30, H⟩ := H
 replace H : (if t282 = true then ((spec_l7All.f k l0_0 l1).bind fun t283 => (some t283)) else (some (([] : List Bool)))) = some r := H
 have A3 := Aside0.mk A30
 clear A30
 by_cases c4 : t282 = true
 ·subst c4
  have H1 : ((spec_l7All.f k l0_0 l1).bind fun t283 => (some t283)) = some r := by rw [if_pos rfl] at H; exact H
  clear H
  have H := H1
  clear H1
  replace H := Option.bind_eq_some_iff.mp H
  obtain ⟨t283, A50, H⟩ := H
  replace H : (some t283) = some r := H
  have A5 := Aside0.mk A50
  clear A50
  obtain rfl := Option.some.inj H
  go_enter Try.func18, Try.ntmps18
  go_wp2_with (first | ((with_reducible refine gate_dst (N := 2) rfl ?_); refine box_event ?hg (N := 2) ?hd (cs := #[.slice A0_0 l0_0.length c0_0]) (t := 30) ?hr ?_; (case hd => rfl); (case hg => rfl); (case hr => first | (go_simp; done) | (go_simp; rfl)); intro gb281 hg w6 hbox hb; have n0_ := Aside0.mk (below_step (zb HB.out) hb); have n1_ := Aside0.mk (hbox); have n2_ := Aside0.mk ((by rw [hg]; exact (below_size (zb HB.out)) : w.heap.size ≤ gb281)); have n3_ := Aside0.mk ((by rw [hg]; exact (below_size (zb HB.out)) : w.heap.size ≤ gb281)); clear HB; have HB := n0_; have BK281 := n1_; have GW281 := n2_; have GE281 := n3_; clear n0_ n1_ n2_ n3_; clear hb hbox hg; have hcz7_0 : w6.cell? ⟨gb281, 0, none⟩ = some (.slice A0_0 l0_0.length c0_0) := (blk_cell BK281.out 0).trans rfl; have hfz7_0 := blk_frozen BK281.out 0) | ((with_reducible refine gate_callee (f := 36) rfl ?_); refine goesL_ (some 7) rfl rfl Try.func36 (by kernel_rfl) rfl #[.agg #[.slice A0_0 l0_0.length c0_0], .slice A1 l1.length c1] rfl zl ?_; (with_reducible refine (spec_KnowOk.calls k _ _ l0_0 _ _ l1 true _ ?side1 ?side2 ?side3 ?side4 A3.out).mono ?_); (case side1 => exact zc (Kd.C_below HR0_0.out HB.out)); (case side2 => exact HC0_0.out); (case side3 => exact zc (Kd.C_below HR1.out HB.out)); (case side4 => exact HC1.out); rintro e w8 ⟨rfl, hb⟩; refine ⟨_, rfl, ?_⟩; have n0_ := Aside0.mk (blk_below (zh BK281.out) hb); have n1_ := Aside0.mk (below_step (zb HB.out) hb); clear BK281; clear HB; have BK281 := n0_; have HB := n1_; clear n0_ n1_; (try clear hb); (try clear hb2); (try clear hk); (try clear hi); have hcz9_0 : w8.cell? ⟨gb281, 0, none⟩ = some (.slice A0_0 l0_0.length c0_0) := (blk_cell BK281.out 0).trans rfl; have hfz9_0 := blk_frozen BK281.out 0) | ((with_reducible refine gate_callee (f := 48) rfl ?_); refine goesL_ (some 12) rfl rfl Try.func48 (by kernel_rfl) rfl #[.agg #[.slice A0_0 l0_0.length c0_0], .slice A1 l1.length c1] rfl zl ?_; (with_reducible refine (spec_l7All.calls k _ _ l0_0 _ _ l1 t283 _ ?side1 ?side2 ?side3 ?side4 A5.out).mono ?_); (case side1 => exact zc (Kd.C_below HR0_0.out HB.out)); (case side2 => exact HC0_0.out); (case side3 => exact zc (Kd.C_below HR1.out HB.out)); (case side4 => exact HC1.out); rintro e w10 ⟨v284, rfl, ho0, hb⟩; refine ⟨_, rfl, ?_⟩; have n0_ := Aside0.mk (Kd.R_lower ho0 (below_size (zb HB.out))); have n1_ := Aside0.mk (blk_below (zh BK281.out) hb); have n2_ := Aside0.mk (below_step (zb HB.out) hb); clear BK281; clear HB; have HO285 := n0_; have BK281 := n1_; have HB := n2_; clear n0_ n1_ n2_; (try clear hb); (try clear hb2); (try clear hk); (try clear hi); (try clear ho0)))
  go_ret
  exact ⟨_, ze, zr HO285.out, zb HB.out⟩
 ·replace c4 := Bool.eq_false_iff.mpr c4
  subst c4
  have H1 : (some (([] : List Bool))) = some r := by rw [if_neg (show ¬ (false = true) by decide)] at H; exact H
  clear H
  have H := H1
  clear H1
  obtain ⟨y286, hy286⟩ : ∃ y_ : List Bool, y_ = (([] : List Bool)) := ⟨_, rfl⟩
  replace H : (some y286) = some r := by first | (rw [hy286]; with_reducible exact H) | (have H2_ := (Option.bind_some _ _).symm.trans H; rw [hy286]; with_reducible exact H2_) | (have H2_ := (Option.bind_some _ _).symm.trans H; with_reducible exact H2_) | with_reducible exact H | (rw [hy286]; exact H) | exact H
  have Ny286 := Aside0.mk hy286
  clear hy286
  obtain rfl := Option.some.inj H
  go_enter Try.func18, Try.ntmps18
  go_wp2_with (first | ((with_reducible refine gate_dst (N := 2) rfl ?_); refine box_event ?hg (N := 2) ?hd (cs := #[.slice A0_0 l0_0.length c0_0]) (t := 30) ?hr ?_; (case hd => rfl); (case hg => rfl); (case hr => first | (go_simp; done) | (go_simp; rfl)); intro gb281 hg w11 hbox hb; have n0_ := Aside0.mk (below_step (zb HB.out) hb); have n1_ := Aside0.mk (hbox); have n2_ := Aside0.mk ((by rw [hg]; exact (below_size (zb HB.out)) : w.heap.size ≤ gb281)); have n3_ := Aside0.mk ((by rw [hg]; exact (below_size (zb HB.out)) : w.heap.size ≤ gb281)); clear HB; have HB := n0_; have BK281 := n1_; have GW281 := n2_; have GE281 := n3_; clear n0_ n1_ n2_ n3_; clear hb hbox hg; have hcz12_0 : w11.cell? ⟨gb281, 0, none⟩ = some (.slice A0_0 l0_0.length c0_0) := (blk_cell BK281.out 0).trans rfl; have hfz12_0 := blk_frozen BK281.out 0) | ((with_reducible refine gate_callee (f := 36) rfl ?_); refine goesL_ (some 7) rfl rfl Try.func36 (by kernel_rfl) rfl #[.agg #[.slice A0_0 l0_0.length c0_0], .slice A1 l1.length c1] rfl zl ?_; (with_reducible refine (spec_KnowOk.calls k _ _ l0_0 _ _ l1 false _ ?side1 ?side2 ?side3 ?side4 A3.out).mono ?_); (case side1 => exact zc (Kd.C_below HR0_0.out HB.out)); (case side2 => exact HC0_0.out); (case side3 => exact zc (Kd.C_below HR1.out HB.out)); (case side4 => exact HC1.out); rintro e w13 ⟨rfl, hb⟩; refine ⟨_, rfl, ?_⟩; have n0_ := Aside0.mk (blk_below (zh BK281.out) hb); have n1_ := Aside0.mk (below_step (zb HB.out) hb); clear BK281; clear HB; have BK281 := n0_; have HB := n1_; clear n0_ n1_; (try clear hb); (try clear hb2); (try clear hk); (try clear hi)) | ((with_reducible refine gate_dst (N := 9) rfl ?_); refine Kd.R_lit Kd.bool _ 4 ?hg (N := 9) ?hd (xs := ([] : List Bool)) (inner := []) (ok := fun _ => True) (okp := fun _ => True) ?hr ?hp (fun _ hk => hk) trivial (Below.refl _ _) (Nat.le_refl _) (by simp) ?_; (case hd => rfl); (case hg => rfl); (case hr => first | (go_simp; done) | (go_simp; rfl)); (case hp => exact (Reps.none _ _)); intro v287 w14 ho15 hb hg_ hnew_; clear hg_ hnew_; (first | rw [← Ny286.out] at ho15 | (simp only [Int.reduceToNat] at ho15; rw [← Ny286.out] at ho15)); have n0_ := Aside0.mk (Kd.R_lower ho15 (below_size (zb HB.out))); have n1_ := Aside0.mk (blk_below (zh BK281.out) hb); have n2_ := Aside0.mk (below_step (zb HB.out) hb); clear BK281; clear HB; have HO288 := n0_; have BK281 := n1_; have HB := n2_; clear n0_ n1_ n2_; clear hb ho15))
  go_ret
  exact ⟨_, ze, zr HO288.out, zb HB.out⟩

end Go.Proofs.Ytgohebghlgamiaa.M
end
