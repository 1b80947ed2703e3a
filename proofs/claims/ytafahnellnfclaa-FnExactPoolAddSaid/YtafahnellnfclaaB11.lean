-- Written by this session's program (wip/tools/gprint.py over the kit's print) out of the translation; Lean checks it.
import Derived.Test.YtafahnellnfclaaB0
import Derived.Test.YtafahnellnfclaaB2
import Derived.Test.YtafahnellnfclaaB4
import Derived.Test.YtafahnellnfclaaB5
import Derived.Test.YtafahnellnfclaaB9
import Derived.Test.YtafahnellnfclaaB10
namespace Go.Proofs.Ytafahnellnfclaa.B
open Go.RowKit Go.Proofs.YtafahnellnfclaaW.PrintWords Go.Proofs.YtafahnellnfclaaW.PrintLast Go.Proofs.YtafahnellnfclaaW.PrintMore
attribute [local go_sem] max2_int min2_int max_two min_two max_three min_three max_four min_four   -- for this text's walks alone
set_option linter.unusedVariables false
set_option linter.unusedSimpArgs false
set_option maxRecDepth 100000

/-! ### laws_FnExactPoolAdd: function 3 -/
mutual
def laws_FnExactPoolAdd.j0 : Nat → Int → Int → Bool → List (S26) → Int → Int → Int → List (S34) → List (S34) → List (S34) → Option (Bool)
 | 0, _, _, _, _, _, _, _, _, _, _ => none
 | k + 1, x7, x10, x46, x201000, x202000, x202001, x202002, x214000, x218000, x226000 => if x46 = true then (some false) else ((laws_toPool.f k x201000).bind fun t227 => ((laws_eqPool.f k x218000 t227).bind fun t230 => (if t230 = true then ((laws_markPool.f k x218000 1).bind fun bt231 => (if bt231.1 < 0 then (laws_FnExactPoolAdd.j1 k x7 true x201000 x202000 x202001 x202002 x214000 x226000) else ((laws_eqPool.f k x226000 x214000).bind fun t233 => (if t233 = true then (laws_FnExactPoolAdd.j1 k x7 (x10 != x7) x201000 x202000 x202001 x202002 x214000 x226000) else (laws_FnExactPoolAdd.j1 k x7 true x201000 x202000 x202001 x202002 x214000 x226000))))) else (some false))))
def laws_FnExactPoolAdd.j1 : Nat → Int → Bool → List (S26) → Int → Int → Int → List (S34) → List (S34) → Option (Bool)
 | 0, _, _, _, _, _, _, _, _ => none
 | k + 1, x7, x67, x201000, x202000, x202001, x202002, x214000, x226000 => if x67 = true then (some false) else ((laws_markPool.f k x226000 1).bind fun bt234 => ((laws_heldPool.f k bt234.2 1).bind fun t236 => (if t236 < 0 then (some false) else (if t236 = bt234.1 then ((laws_toPool.f k x201000).bind fun t237 => ((laws_toNode.f x202000 x202001 x202002).bind fun bt240 => ((impl_PoolAdd.f k t237 bt240.1 bt240.2.1 bt240.2.2).bind fun bt243 => ((laws_eqPool.f k bt243.1 x214000).bind fun t248 => (if t248 = true then (laws_FnExactPoolAdd.j2 k bt234.1 (bt243.2 != x7) bt234.2) else (laws_FnExactPoolAdd.j2 k bt234.1 true bt234.2)))))) else (some false)))))
def laws_FnExactPoolAdd.j2 : Nat → Int → Bool → List (S34) → Option (Bool)
 | 0, _, _, _ => none
 | k + 1, x12, x95, x226000 => if x95 = true then (some false) else ((laws_heldPool.f k x226000 1).bind fun t249 => (if t249 < 0 then (some false) else (if t249 = x12 then (some true) else (some false))))
end
def laws_FnExactPoolAdd.f (k : Nat) (l0_0 : List (S26)) (a1_0 : Int) (a1_1 : Int) (a1_2 : Int) : Option (Bool) := (laws_szPool.f l0_0 1048576).bind fun t202 => (if t202 < 0 then (some true) else ((laws_toPool.f k l0_0).bind fun t203 => ((laws_toNode.f a1_0 a1_1 a1_2).bind fun bt206 => ((spec_PoolAdd.f k t203 bt206.1 bt206.2.1 bt206.2.2).bind fun bt209 => ((laws_toPool.f k l0_0).bind fun t214 => ((laws_toNode.f a1_0 a1_1 a1_2).bind fun bt218 => ((impl_PoolAdd.f k t214 bt218.1 bt218.2.1 bt218.2.2).bind fun bt221 => ((laws_eqPool.f k bt221.1 bt209.1).bind fun t226 => (if t226 = true then (laws_FnExactPoolAdd.j0 k bt209.2 bt221.2 (bt221.2 != bt209.2) l0_0 a1_0 a1_1 a1_2 bt209.1 t214 bt221.1) else (laws_FnExactPoolAdd.j0 k bt209.2 bt221.2 true l0_0 a1_0 a1_1 a1_2 bt209.1 t214 bt221.1))))))))))
theorem laws_FnExactPoolAdd.mono_l : ∀ k, (∀ y0 y1 y2 y3 y4 y5 y6 y7 y8 y9, LeO (laws_FnExactPoolAdd.j0 k y0 y1 y2 y3 y4 y5 y6 y7 y8 y9) (laws_FnExactPoolAdd.j0 (k + 1) y0 y1 y2 y3 y4 y5 y6 y7 y8 y9)) ∧ (∀ y0 y1 y2 y3 y4 y5 y6 y7, LeO (laws_FnExactPoolAdd.j1 k y0 y1 y2 y3 y4 y5 y6 y7) (laws_FnExactPoolAdd.j1 (k + 1) y0 y1 y2 y3 y4 y5 y6 y7)) ∧ (∀ y0 y1 y2, LeO (laws_FnExactPoolAdd.j2 k y0 y1 y2) (laws_FnExactPoolAdd.j2 (k + 1) y0 y1 y2))
 | 0 => ⟨fun _ _ _ _ _ _ _ _ _ _ r h => by simp [laws_FnExactPoolAdd.j0] at h, fun _ _ _ _ _ _ _ _ r h => by simp [laws_FnExactPoolAdd.j1] at h, fun _ _ _ r h => by simp [laws_FnExactPoolAdd.j2] at h⟩
 | k + 1 => by
  obtain ⟨ih0, ih1, ih2⟩ := laws_FnExactPoolAdd.mono_l k
  refine ⟨?_, ?_, ?_⟩
  ·intro y0 y1 y2 y3 y4 y5 y6 y7 y8 y9
   unfold laws_FnExactPoolAdd.j0
   repeat' first
   | (with_reducible exact ih0 _ _ _ _ _ _ _ _ _ _)
   | (with_reducible exact ih1 _ _ _ _ _ _ _ _)
   | (with_reducible exact ih2 _ _ _)
   | (with_reducible exact impl_PoolAdd.mono _ _ _ _ _)
   | (with_reducible exact laws_eqPool.mono _ _ _)
   | (with_reducible exact laws_heldPool.mono _ _ _)
   | (with_reducible exact laws_markPool.mono _ _ _)
   | (with_reducible exact laws_toPool.mono _ _)
   | (with_reducible exact spec_PoolAdd.mono _ _ _ _ _)
   | (with_reducible exact LeO.refl _)
   | (with_reducible exact LeO.none _)
   | (with_reducible refine LeO.ite ?_ ?_)
   | (with_reducible refine LeO.bind ?_ (fun _ => ?_))
   | exact ih0 _ _ _ _ _ _ _ _ _ _
   | exact ih1 _ _ _ _ _ _ _ _
   | exact ih2 _ _ _
   | exact impl_PoolAdd.mono _ _ _ _ _
   | exact laws_eqPool.mono _ _ _
   | exact laws_heldPool.mono _ _ _
   | exact laws_markPool.mono _ _ _
   | exact laws_toPool.mono _ _
   | exact spec_PoolAdd.mono _ _ _ _ _
   | exact LeO.none _
   | refine LeO.ite ?_ ?_
   | refine LeO.bind ?_ (fun _ => ?_)
  ·intro y0 y1 y2 y3 y4 y5 y6 y7
   unfold laws_FnExactPoolAdd.j1
   repeat' first
   | (with_reducible exact ih0 _ _ _ _ _ _ _ _ _ _)
   | (with_reducible exact ih1 _ _ _ _ _ _ _ _)
   | (with_reducible exact ih2 _ _ _)
   | (with_reducible exact impl_PoolAdd.mono _ _ _ _ _)
   | (with_reducible exact laws_eqPool.mono _ _ _)
   | (with_reducible exact laws_heldPool.mono _ _ _)
   | (with_reducible exact laws_markPool.mono _ _ _)
   | (with_reducible exact laws_toPool.mono _ _)
   | (with_reducible exact spec_PoolAdd.mono _ _ _ _ _)
   | (with_reducible exact LeO.refl _)
   | (with_reducible exact LeO.none _)
   | (with_reducible refine LeO.ite ?_ ?_)
   | (with_reducible refine LeO.bind ?_ (fun _ => ?_))
   | exact ih0 _ _ _ _ _ _ _ _ _ _
   | exact ih1 _ _ _ _ _ _ _ _
   | exact ih2 _ _ _
   | exact impl_PoolAdd.mono _ _ _ _ _
   | exact laws_eqPool.mono _ _ _
   | exact laws_heldPool.mono _ _ _
   | exact laws_markPool.mono _ _ _
   | exact laws_toPool.mono _ _
   | exact spec_PoolAdd.mono _ _ _ _ _
   | exact LeO.none _
   | refine LeO.ite ?_ ?_
   | refine LeO.bind ?_ (fun _ => ?_)
  ·intro y0 y1 y2
   unfold laws_FnExactPoolAdd.j2
   repeat' first
   | (with_reducible exact ih0 _ _ _ _ _ _ _ _ _ _)
   | (with_reducible exact ih1 _ _ _ _ _ _ _ _)
   | (with_reducible exact ih2 _ _ _)
   | (with_reducible exact impl_PoolAdd.mono _ _ _ _ _)
   | (with_reducible exact laws_eqPool.mono _ _ _)
   | (with_reducible exact laws_heldPool.mono _ _ _)
   | (with_reducible exact laws_markPool.mono _ _ _)
   | (with_reducible exact laws_toPool.mono _ _)
   | (with_reducible exact spec_PoolAdd.mono _ _ _ _ _)
   | (with_reducible exact LeO.refl _)
   | (with_reducible exact LeO.none _)
   | (with_reducible refine LeO.ite ?_ ?_)
   | (with_reducible refine LeO.bind ?_ (fun _ => ?_))
   | exact ih0 _ _ _ _ _ _ _ _ _ _
   | exact ih1 _ _ _ _ _ _ _ _
   | exact ih2 _ _ _
   | exact impl_PoolAdd.mono _ _ _ _ _
   | exact laws_eqPool.mono _ _ _
   | exact laws_heldPool.mono _ _ _
   | exact laws_markPool.mono _ _ _
   | exact laws_toPool.mono _ _
   | exact spec_PoolAdd.mono _ _ _ _ _
   | exact LeO.none _
   | refine LeO.ite ?_ ?_
   | refine LeO.bind ?_ (fun _ => ?_)
theorem laws_FnExactPoolAdd.mono : ∀ a0 a1 a2 a3 k, LeO (laws_FnExactPoolAdd.f k a0 a1 a2 a3) (laws_FnExactPoolAdd.f (k + 1) a0 a1 a2 a3) := by
 intro a0 a1 a2 a3 k
 obtain ⟨ih0, ih1, ih2⟩ := laws_FnExactPoolAdd.mono_l k
 unfold laws_FnExactPoolAdd.f
 repeat' first
   | (with_reducible exact ih0 _ _ _ _ _ _ _ _ _ _)
   | (with_reducible exact ih1 _ _ _ _ _ _ _ _)
   | (with_reducible exact ih2 _ _ _)
   | (with_reducible exact impl_PoolAdd.mono _ _ _ _ _)
   | (with_reducible exact laws_eqPool.mono _ _ _)
   | (with_reducible exact laws_heldPool.mono _ _ _)
   | (with_reducible exact laws_markPool.mono _ _ _)
   | (with_reducible exact laws_toPool.mono _ _)
   | (with_reducible exact spec_PoolAdd.mono _ _ _ _ _)
   | (with_reducible exact LeO.refl _)
   | (with_reducible exact LeO.none _)
   | (with_reducible refine LeO.ite ?_ ?_)
   | (with_reducible refine LeO.bind ?_ (fun _ => ?_))
   | exact ih0 _ _ _ _ _ _ _ _ _ _
   | exact ih1 _ _ _ _ _ _ _ _
   | exact ih2 _ _ _
   | exact impl_PoolAdd.mono _ _ _ _ _
   | exact laws_eqPool.mono _ _ _
   | exact laws_heldPool.mono _ _ _
   | exact laws_markPool.mono _ _ _
   | exact laws_toPool.mono _ _
   | exact spec_PoolAdd.mono _ _ _ _ _
   | exact LeO.none _
   | refine LeO.ite ?_ ?_
   | refine LeO.bind ?_ (fun _ => ?_)
def laws_FnExactPoolAdd.T5 : Bool × List (List Nat × List Nat) := (true, [([], []), ([0], [0]), ([], []), ([2, 1], [2]), ([1, 3, 3], [1, 3]), ([4], [4]), ([5], [5]), ([5], [5]), ([], []), ([8, 6, 4, 0, 1, 2, 3, 4, 5, 6, 8], [6, 8]), ([7, 9, 0, 1, 2, 3, 4, 5, 6, 7, 8, 9], [7])])
def laws_FnExactPoolAdd.B5 : List Nat := [0, 1, 0, 7, 15, 31, 63, 63, 0, 383, 1023]
theorem laws_FnExactPoolAdd.tab5 : rtab .any (opsOf Try.f3 5) = laws_FnExactPoolAdd.T5 := by kernel_rfl
theorem laws_FnExactPoolAdd.bits5 : waitsOk laws_FnExactPoolAdd.T5.2 laws_FnExactPoolAdd.B5 = true := by kernel_rfl
def laws_FnExactPoolAdd.T7 : Bool × List (List Nat × List Nat) := (true, [([], []), ([], []), ([1], [1]), ([0, 2, 2], [0, 2]), ([3], [3]), ([4], [4]), ([4], [4]), ([], []), ([7, 5, 3, 0, 1, 2, 3, 4, 5, 7], [5, 7]), ([6, 8, 0, 1, 2, 3, 4, 5, 6, 7, 8], [6])])
def laws_FnExactPoolAdd.B7 : List Nat := [0, 0, 2, 7, 15, 31, 31, 0, 191, 511]
theorem laws_FnExactPoolAdd.tab7 : rtab .any (opsOf Try.f3 7) = laws_FnExactPoolAdd.T7 := by kernel_rfl
theorem laws_FnExactPoolAdd.bits7 : waitsOk laws_FnExactPoolAdd.T7.2 laws_FnExactPoolAdd.B7 = true := by kernel_rfl
def laws_FnExactPoolAdd.T24 : Bool × List (List Nat × List Nat) := (true, [([], []), ([0], [0]), ([], []), ([2, 1], [2]), ([1, 3, 3], [1, 3]), ([4], [4]), ([5], [5]), ([5], [5]), ([], []), ([8, 6, 4, 0, 1, 2, 3, 4, 5, 6, 8], [6, 8]), ([7, 9, 0, 1, 2, 3, 4, 5, 6, 7, 8, 9], [7])])
def laws_FnExactPoolAdd.B24 : List Nat := [0, 1, 0, 7, 15, 31, 63, 63, 0, 383, 1023]
theorem laws_FnExactPoolAdd.tab24 : rtab .any (opsOf Try.f3 24) = laws_FnExactPoolAdd.T24 := by kernel_rfl
theorem laws_FnExactPoolAdd.bits24 : waitsOk laws_FnExactPoolAdd.T24.2 laws_FnExactPoolAdd.B24 = true := by kernel_rfl
set_option maxHeartbeats 8000000 in
set_option maxRecDepth 100000 in
theorem laws_FnExactPoolAdd.calls (k : Nat) (A0_0 : Option Addr) (c0_0 : Nat) (l0_0 : List (S26)) (a1_0 : Int) (a1_1 : Int) (a1_2 : Int) (r : Bool) (w : World) (hr0_0 : Kd.C k26 w A0_0 l0_0.length l0_0) (hc0_0 : l0_0.length ≤ c0_0) (h : laws_FnExactPoolAdd.f k l0_0 a1_0 a1_1 a1_2 = some r) :
  Calls Try.prog 3 #[.agg #[.slice A0_0 l0_0.length c0_0], .agg #[.int .i64 a1_0, .int .i64 a1_1, .int .i64 a1_2]] w fun e w' => e = .returned (.bool r) ∧ Below w.heap.size w w' := by
 have hu24 := Try.underlying24
 have hu26 := Try.underlying26
 have hu30 := Try.underlying30
 have HR0_0 := Aside0.mk hr0_0
 have HC0_0 := Aside0.mk hc0_0
 clear hr0_0 hc0_0
 have HB := Aside0.mk (Below.refl w.heap.size w)
 have H : ((laws_szPool.f l0_0 1048576).bind fun t202 => (if t202 < 0 then (some true) else ((laws_toPool.f k l0_0).bind fun t203 => ((laws_toNode.f a1_0 a1_1 a1_2).bind fun bt206 => ((spec_PoolAdd.f k t203 bt206.1 bt206.2.1 bt206.2.2).bind fun bt209 => ((laws_toPool.f k l0_0).bind fun t214 => ((laws_toNode.f a1_0 a1_1 a1_2).bind fun bt218 => ((impl_PoolAdd.f k t214 bt218.1 bt218.2.1 bt218.2.2).bind fun bt221 => ((laws_eqPool.f k bt221.1 bt209.1).bind fun t226 => (if t226 = true then (laws_FnExactPoolAdd.j0 k bt209.2 bt221.2 (bt221.2 != bt209.2) l0_0 a1_0 a1_1 a1_2 bt209.1 t214 bt221.1) else (laws_FnExactPoolAdd.j0 k bt209.2 bt221.2 true l0_0 a1_0 a1_1 a1_2 bt209.1 t214 bt221.1))))))))))) = some r := h
 clear h
 replace H := Option.bind_eq_some_iff.mp H
 obtain ⟨t202, A30, H⟩ := H
 replace H : (if t202 < 0 then (some true) else ((laws_toPool.f k l0_0).bind fun t203 => ((laws_toNode.f a1_0 a1_1 a1_2).bind fun bt206 => ((spec_PoolAdd.f k t203 bt206.1 bt206.2.1 bt206.2.2).bind fun bt209 => ((laws_toPool.f k l0_0).bind fun t214 => ((laws_toNode.f a1_0 a1_1 a1_2).bind fun bt218 => ((impl_PoolAdd.f k t214 bt218.1 bt218.2.1 bt218.2.2).bind fun bt221 => ((laws_eqPool.f k bt221.1 bt209.1).bind fun t226 => (if t226 = true then (laws_FnExactPoolAdd.j0 k bt209.2 bt221.2 (bt221.2 != bt209.2) l0_0 a1_0 a1_1 a1_2 bt209.1 t214 bt221.1) else (laws_FnExactPoolAdd.j0 k bt209.2 bt221.2 true l0_0 a1_0 a1_1 a1_2 bt209.1 t214 bt221.1)))))))))) = some r := H
 have A3 := Aside0.mk A30
 clear A30
 by_cases c4 : t202 < 0
 ·rw [if_pos c4] at H
  have c4b0 : decide (t202 < 0) = true := decide_eq_true c4
  clear c4
  obtain rfl := Option.some.inj H
  go_enter Try.func3, Try.ntmps3
  go_wp2_with (first | ((with_reducible refine gate_dst (N := 2) rfl ?_); refine box_event ?hg (N := 2) ?hd (cs := #[.slice A0_0 l0_0.length c0_0]) (t := 24) ?hr ?_; (case hd => rfl); (case hg => rfl); (case hr => first | (go_simp; done) | (go_simp; rfl)); intro gb200 hg w5 hbox hb; have n0_ := Aside0.mk (below_step (zb HB.out) hb); have n1_ := Aside0.mk (hbox); have n2_ := Aside0.mk ((by rw [hg]; exact (below_size (zb HB.out)) : w.heap.size ≤ gb200)); have n3_ := Aside0.mk ((by rw [hg]; exact (below_size (zb HB.out)) : w.heap.size ≤ gb200)); clear HB; have HB := n0_; have BK200 := n1_; have GW200 := n2_; have GE200 := n3_; clear n0_ n1_ n2_ n3_; clear hb hbox hg) | ((with_reducible refine gate_dst (N := 3) rfl ?_); refine box_event ?hg (N := 3) ?hd (cs := #[.int .i64 a1_0, .int .i64 a1_1, .int .i64 a1_2]) (t := 26) ?hr ?_; (case hd => rfl); (case hg => rfl); (case hr => first | (go_simp; done) | (go_simp; rfl)); intro gb201 hg w6 hbox hb; have n0_ := Aside0.mk (blk_below (zh BK200.out) hb); have n1_ := Aside0.mk (below_step (zb HB.out) hb); have n2_ := Aside0.mk (hbox); have n3_ := Aside0.mk ((by rw [hg]; exact (below_size (zb HB.out)) : w.heap.size ≤ gb201)); have n4_ := Aside0.mk ((by rw [hg]; exact (below_size (zb HB.out)) : w.heap.size ≤ gb201)); have n5_ := Aside0.mk ((by rw [hg]; exact Nat.ne_of_lt (blk_lt (zh BK200.out)) : gb200 ≠ gb201)); have n6_ := Aside0.mk ((by rw [hg]; exact Nat.ne_of_gt (blk_lt (zh BK200.out)) : gb201 ≠ gb200)); clear BK200; clear HB; have BK200 := n0_; have HB := n1_; have BK201 := n2_; have GW201 := n3_; have GE201 := n4_; have NB200_201 := n5_; have NB201_200 := n6_; clear n0_ n1_ n2_ n3_ n4_ n5_ n6_; clear hb hbox hg; have hnb7 := NB200_201.out; have hnc7 := NB201_200.out; have hcz8_0 : w6.cell? ⟨gb200, 0, none⟩ = some (.slice A0_0 l0_0.length c0_0) := (blk_cell BK200.out 0).trans rfl; have hfz8_0 := blk_frozen BK200.out 0) | ((with_reducible refine gate_callee (f := 15) rfl ?_); refine goesL_ (some 18) rfl rfl Try.func15 (by kernel_rfl) rfl #[.agg #[.slice A0_0 l0_0.length c0_0], .int .i64 1048576] rfl zl ?_; (with_reducible refine (laws_szPool.calls _ _ l0_0 1048576 t202 _ ?side1 ?side2 A3.out).mono ?_); (case side1 => exact zc (Kd.C_below HR0_0.out HB.out)); (case side2 => exact HC0_0.out); rintro e w9 ⟨rfl, hb⟩; refine ⟨_, rfl, ?_⟩; have n0_ := Aside0.mk (blk_below (zh BK200.out) hb); have n1_ := Aside0.mk (blk_below (zh BK201.out) hb); have n2_ := Aside0.mk (below_step (zb HB.out) hb); clear BK200; clear BK201; clear HB; have BK200 := n0_; have BK201 := n1_; have HB := n2_; clear n0_ n1_ n2_; (try clear hb); (try clear hb2); (try clear hk); (try clear hi)))
  go_ret
  exact ⟨ze, zb HB.out⟩
 ·rw [if_neg c4] at H
  have c4b0 : decide (t202 < 0) = false := decide_eq_false c4
  clear c4
  replace H := Option.bind_eq_some_iff.mp H
  obtain ⟨t203, A100, H⟩ := H
  replace H : ((laws_toNode.f a1_0 a1_1 a1_2).bind fun bt206 => ((spec_PoolAdd.f k t203 bt206.1 bt206.2.1 bt206.2.2).bind fun bt209 => ((laws_toPool.f k l0_0).bind fun t214 => ((laws_toNode.f a1_0 a1_1 a1_2).bind fun bt218 => ((impl_PoolAdd.f k t214 bt218.1 bt218.2.1 bt218.2.2).bind fun bt221 => ((laws_eqPool.f k bt221.1 bt209.1).bind fun t226 => (if t226 = true then (laws_FnExactPoolAdd.j0 k bt209.2 bt221.2 (bt221.2 != bt209.2) l0_0 a1_0 a1_1 a1_2 bt209.1 t214 bt221.1) else (laws_FnExactPoolAdd.j0 k bt209.2 bt221.2 true l0_0 a1_0 a1_1 a1_2 bt209.1 t214 bt221.1)))))))) = some r := H
  have A10 := Aside0.mk A100
  clear A100
  replace H := Option.bind_eq_some_iff.mp H
  obtain ⟨⟨t206, t207, t208⟩, A110, H⟩ := H
  replace H : ((spec_PoolAdd.f k t203 t206 t207 t208).bind fun bt209 => ((laws_toPool.f k l0_0).bind fun t214 => ((laws_toNode.f a1_0 a1_1 a1_2).bind fun bt218 => ((impl_PoolAdd.f k t214 bt218.1 bt218.2.1 bt218.2.2).bind fun bt221 => ((laws_eqPool.f k bt221.1 bt209.1).bind fun t226 => (if t226 = true then (laws_FnExactPoolAdd.j0 k bt209.2 bt221.2 (bt221.2 != bt209.2) l0_0 a1_0 a1_1 a1_2 bt209.1 t214 bt221.1) else (laws_FnExactPoolAdd.j0 k bt209.2 bt221.2 true l0_0 a1_0 a1_1 a1_2 bt209.1 t214 bt221.1))))))) = some r := H
  have A11 := Aside0.mk A110
  clear A110
  replace H := Option.bind_eq_some_iff.mp H
  obtain ⟨⟨t209, t212⟩, A120, H⟩ := H
  replace H : ((laws_toPool.f k l0_0).bind fun t214 => ((laws_toNode.f a1_0 a1_1 a1_2).bind fun bt218 => ((impl_PoolAdd.f k t214 bt218.1 bt218.2.1 bt218.2.2).bind fun bt221 => ((laws_eqPool.f k bt221.1 t209).bind fun t226 => (if t226 = true then (laws_FnExactPoolAdd.j0 k t212 bt221.2 (bt221.2 != t212) l0_0 a1_0 a1_1 a1_2 t209 t214 bt221.1) else (laws_FnExactPoolAdd.j0 k t212 bt221.2 true l0_0 a1_0 a1_1 a1_2 t209 t214 bt221.1)))))) = some r := H
  have A12 := Aside0.mk A120
  clear A120
  replace H := Option.bind_eq_some_iff.mp H
  obtain ⟨t214, A130, H⟩ := H
  replace H : ((laws_toNode.f a1_0 a1_1 a1_2).bind fun bt218 => ((impl_PoolAdd.f k t214 bt218.1 bt218.2.1 bt218.2.2).bind fun bt221 => ((laws_eqPool.f k bt221.1 t209).bind fun t226 => (if t226 = true then (laws_FnExactPoolAdd.j0 k t212 bt221.2 (bt221.2 != t212) l0_0 a1_0 a1_1 a1_2 t209 t214 bt221.1) else (laws_FnExactPoolAdd.j0 k t212 bt221.2 true l0_0 a1_0 a1_1 a1_2 t209 t214 bt221.1))))) = some r := H
  have A13 := Aside0.mk A130
  clear A130
  replace H := Option.bind_eq_some_iff.mp H
  obtain ⟨⟨t218, t219, t220⟩, A140, H⟩ := H
  replace H : ((impl_PoolAdd.f k t214 t218 t219 t220).bind fun bt221 => ((laws_eqPool.f k bt221.1 t209).bind fun t226 => (if t226 = true then (laws_FnExactPoolAdd.j0 k t212 bt221.2 (bt221.2 != t212) l0_0 a1_0 a1_1 a1_2 t209 t214 bt221.1) else (laws_FnExactPoolAdd.j0 k t212 bt221.2 true l0_0 a1_0 a1_1 a1_2 t209 t214 bt221.1)))) = some r := H
  have A14 := Aside0.mk A140
  clear A140
  replace H := Option.bind_eq_some_iff.mp H
  obtain ⟨⟨t221, t224⟩, A150, H⟩ := H
  replace H : ((laws_eqPool.f k t221 t209).bind fun t226 => (if t226 = true then (laws_FnExactPoolAdd.j0 k t212 t224 (t224 != t212) l0_0 a1_0 a1_1 a1_2 t209 t214 t221) else (laws_FnExactPoolAdd.j0 k t212 t224 true l0_0 a1_0 a1_1 a1_2 t209 t214 t221))) = some r := H
  have A15 := Aside0.mk A150
  clear A150
  have HC16 := Aside0.mk H
  clear H
  go_enter Try.func3, Try.ntmps3
  try go_wp2_with (first | ((with_reducible refine gate_dst (N := 2) rfl ?_); refine box_event ?hg (N := 2) ?hd (cs := #[.slice A0_0 l0_0.length c0_0]) (t := 24) ?hr ?_; (case hd => rfl); (case hg => rfl); (case hr => first | (go_simp; done) | (go_simp; rfl)); intro gb200 hg w17 hbox hb; have n0_ := Aside0.mk (below_step (zb HB.out) hb); have n1_ := Aside0.mk (hbox); have n2_ := Aside0.mk ((by rw [hg]; exact (below_size (zb HB.out)) : w.heap.size ≤ gb200)); have n3_ := Aside0.mk ((by rw [hg]; exact (below_size (zb HB.out)) : w.heap.size ≤ gb200)); clear HB; have HB := n0_; have BK200 := n1_; have GW200 := n2_; have GE200 := n3_; clear n0_ n1_ n2_ n3_; clear hb hbox hg) | ((with_reducible refine gate_dst (N := 3) rfl ?_); refine box_event ?hg (N := 3) ?hd (cs := #[.int .i64 a1_0, .int .i64 a1_1, .int .i64 a1_2]) (t := 26) ?hr ?_; (case hd => rfl); (case hg => rfl); (case hr => first | (go_simp; done) | (go_simp; rfl)); intro gb201 hg w18 hbox hb; have n0_ := Aside0.mk (blk_below (zh BK200.out) hb); have n1_ := Aside0.mk (below_step (zb HB.out) hb); have n2_ := Aside0.mk (hbox); have n3_ := Aside0.mk ((by rw [hg]; exact (below_size (zb HB.out)) : w.heap.size ≤ gb201)); have n4_ := Aside0.mk ((by rw [hg]; exact (below_size (zb HB.out)) : w.heap.size ≤ gb201)); have n5_ := Aside0.mk ((by rw [hg]; exact Nat.ne_of_lt (blk_lt (zh BK200.out)) : gb200 ≠ gb201)); have n6_ := Aside0.mk ((by rw [hg]; exact Nat.ne_of_gt (blk_lt (zh BK200.out)) : gb201 ≠ gb200)); clear BK200; clear HB; have BK200 := n0_; have HB := n1_; have BK201 := n2_; have GW201 := n3_; have GE201 := n4_; have NB200_201 := n5_; have NB201_200 := n6_; clear n0_ n1_ n2_ n3_ n4_ n5_ n6_; clear hb hbox hg; have hnb19 := NB200_201.out; have hnc19 := NB201_200.out; have hcz20_0 : w18.cell? ⟨gb200, 0, none⟩ = some (.slice A0_0 l0_0.length c0_0) := (blk_cell BK200.out 0).trans rfl; have hfz20_0 := blk_frozen BK200.out 0) | ((with_reducible refine gate_callee (f := 15) rfl ?_); refine goesL_ (some 18) rfl rfl Try.func15 (by kernel_rfl) rfl #[.agg #[.slice A0_0 l0_0.length c0_0], .int .i64 1048576] rfl zl ?_; (with_reducible refine (laws_szPool.calls _ _ l0_0 1048576 t202 _ ?side1 ?side2 A3.out).mono ?_); (case side1 => exact zc (Kd.C_below HR0_0.out HB.out)); (case side2 => exact HC0_0.out); rintro e w21 ⟨rfl, hb⟩; refine ⟨_, rfl, ?_⟩; have n0_ := Aside0.mk (blk_below (zh BK200.out) hb); have n1_ := Aside0.mk (blk_below (zh BK201.out) hb); have n2_ := Aside0.mk (below_step (zb HB.out) hb); clear BK200; clear BK201; clear HB; have BK200 := n0_; have BK201 := n1_; have HB := n2_; clear n0_ n1_ n2_; (try clear hb); (try clear hb2); (try clear hk); (try clear hi)))
  have n0_ := Aside0.mk (blk_drew BK200.out)
  have n1_ := Aside0.mk (blk_drew BK201.out)
  have n2_ := Aside0.mk (below_drew1 HB.out)
  clear BK200
  clear BK201
  clear HB
  have BK200 := n0_
  have BK201 := n1_
  have HB := n2_
  clear n0_ n1_ n2_
  refine start_ (n := 11) (S := fun w' => w'.cell? ⟨gb200, 0, none⟩ = some (.slice A0_0 l0_0.length c0_0) ∧ w'.cell? ⟨gb201, 0, none⟩ = some (.int .i64 a1_0) ∧ w'.cell? ⟨gb201, 1, none⟩ = some (.int .i64 a1_1) ∧ w'.cell? ⟨gb201, 2, none⟩ = some (.int .i64 a1_2)) (ds := []) #[false, false, false, false, false, false, false, false, false, false, false] (by kernel_rfl) rfl rfl ⟨(blk_cell BK200.out 0).trans rfl, (blk_cell BK201.out 0).trans rfl, (blk_cell BK201.out 1).trans rfl, (blk_cell BK201.out 2).trans rfl⟩ (fun hHeld => ?_); refine with_tabW laws_FnExactPoolAdd.tab5 laws_FnExactPoolAdd.bits5 (fun HT_ HW_ => ?_)
  generalize w21.drew = w22 at BK200 BK201 HB hHeld ⊢
  refine take_ (i := 0) (N := some 22) (v := ?_) (a' := ?_) #[true, false, false, false, false, false, false, false, false, false, false] rfl rfl (take_ofW HT_.out HW_.out (by kernel_rfl)) (fun _ _ _ h => h) (Or.inl ⟨by rfl, ?_⟩) hHeld ?_ ?_
  rotate_left
  ·rintro w' ⟨s0, s1, s2, s3⟩
   go_simp
   with_reducible rfl
  rotate_left
  ·simp only [Act.put, List.setIfInBounds_toArray, List.set_cons_zero, List.set_cons_succ, i64_w, i32_w]
   rfl
  refine take_ (i := 2) (N := some 24) (v := ?_) (a' := ?_) #[true, false, true, false, false, false, false, false, false, false, false] rfl rfl (take_ofW HT_.out HW_.out (by kernel_rfl)) (fun _ _ _ h => h) (Or.inl ⟨by rfl, ?_⟩) hHeld ?_ ?_
  rotate_left
  ·rintro w' ⟨s0, s1, s2, s3⟩
   go_simp
   with_reducible rfl
  rotate_left
  ·simp only [Act.put, List.setIfInBounds_toArray, List.set_cons_zero, List.set_cons_succ, i64_w, i32_w]
   rfl
  refine join_ (σ := Value × Value × Nat) 2 #[true, true, true, true, true, true, true, true, true, false, false] (fun s_ => [(23, .agg #[s_.1]), (25, .agg #[.int .i64 t206, .int .i64 t207, .int .i64 t208]), (26, .tuple #[.agg #[s_.2.1], .int .i64 t212]), (6, .pointer (some ⟨s_.2.2, 0, none⟩)), (21, .tuple #[.agg #[s_.2.1], .int .i64 t212]), (27, .agg #[s_.2.1]), (28, .int .i64 t212)]) (fun s_ w' => (w'.cell? ⟨gb200, 0, none⟩ = some (.slice A0_0 l0_0.length c0_0) ∧ w'.cell? ⟨gb201, 0, none⟩ = some (.int .i64 a1_0) ∧ w'.cell? ⟨gb201, 1, none⟩ = some (.int .i64 a1_1) ∧ w'.cell? ⟨gb201, 2, none⟩ = some (.int .i64 a1_2)) ∧ (Kd.R k34 34 w' w.heap.size (fun _ => True) s_.2.1 t209) ∧ (w'.heap[gb200]? = some (.cells #[.slice A0_0 l0_0.length c0_0] 24 (0, 0))) ∧ (w'.heap[gb201]? = some (.cells #[.int .i64 a1_0, .int .i64 a1_1, .int .i64 a1_2] 26 (0, 0))) ∧ (w'.heap[s_.2.2]? = some (.cells #[.slice none 0 0] 30 (0, 0))) ∧ (w.heap.size ≤ s_.2.2) ∧ (w.heap.size ≤ s_.2.2) ∧ (gb200 ≠ s_.2.2) ∧ (s_.2.2 ≠ gb200) ∧ (gb201 ≠ s_.2.2) ∧ (s_.2.2 ≠ gb201) ∧ (Below w.heap.size w w')) ?_ ?_
  rotate_left
  ·intro hCont
   refine two_ (i := 1) (j := 8) (Ni := some 23) (Nj := some 6) #[true, true, true, false, false, false, false, false, false, false, false] #[true, false, true, false, false, false, false, false, true, false, false] rfl rfl rfl rfl (two_of HT_.out (by kernel_rfl)) (by decide) (by decide) (fun K hK => ?_) (fun K hK => ?_)
   ·skip
    refine goes_ Try.func17 (by kernel_rfl) rfl #[.agg #[.slice A0_0 l0_0.length c0_0]] (by rfl) rfl rfl zl ?_
    with_reducible refine (laws_toPool.calls k _ _ l0_0 t203 _ ?side1 ?side2 A10.out).mono ?_
    (case side1 => exact zc (Kd.C_below HR0_0.out HB.out))
    (case side2 => exact HC0_0.out)
    rintro e w23 ⟨v204, rfl, ho0, hb⟩
    refine ⟨_, rfl, ?_⟩
    have n0_ := Aside0.mk (Kd.R_lower ho0 (below_size (zb HB.out)))
    have n1_ := Aside0.mk (blk_below (zh BK200.out) hb)
    have n2_ := Aside0.mk (blk_below (zh BK201.out) hb)
    have n3_ := Aside0.mk (below_step (zb HB.out) hb)
    clear BK200
    clear BK201
    clear HB
    have HO205 := n0_
    have BK200 := n1_
    have BK201 := n2_
    have HB := n3_
    clear n0_ n1_ n2_ n3_
    (try clear hb)
    (try clear hb2)
    (try clear hk)
    (try clear hi)
    (try clear ho0)
    refine hK.out _ _ ⟨(blk_cell BK200.out 0).trans rfl, (blk_cell BK201.out 0).trans rfl, (blk_cell BK201.out 1).trans rfl, (blk_cell BK201.out 2).trans rfl⟩ (fun hHeld => ?_)
    clear hK K
    refine norm_ (a' := ?_) ?_ ?_
    rotate_left
    ·show Act.put _ (some 23) _ = _
     simp only [Act.put, List.setIfInBounds_toArray, List.set_cons_zero, List.set_cons_succ, i64_w, i32_w]
     rfl
    refine two_ (i := 3) (j := 8) (Ni := some 25) (Nj := some 6) #[true, true, true, true, false, false, false, false, false, false, false] #[true, true, true, false, false, false, false, false, true, false, false] rfl rfl rfl rfl (two_of HT_.out (by kernel_rfl)) (by decide) (by decide) (fun K hK => ?_) (fun K hK => ?_)
    ·skip
     refine goes_ Try.func18 (by kernel_rfl) rfl #[.agg #[.int .i64 a1_0, .int .i64 a1_1, .int .i64 a1_2]] (by rfl) rfl rfl zl ?_
     with_reducible refine (laws_toNode.calls a1_0 a1_1 a1_2 t206 t207 t208 _ A11.out).mono ?_
     rintro e w24 ⟨rfl, hb⟩
     refine ⟨_, rfl, ?_⟩
     have n0_ := Aside0.mk (Kd.R_below (zr HO205.out) hb)
     have n1_ := Aside0.mk (blk_below (zh BK200.out) hb)
     have n2_ := Aside0.mk (blk_below (zh BK201.out) hb)
     have n3_ := Aside0.mk (below_step (zb HB.out) hb)
     clear HO205
     clear BK200
     clear BK201
     clear HB
     have HO205 := n0_
     have BK200 := n1_
     have BK201 := n2_
     have HB := n3_
     clear n0_ n1_ n2_ n3_
     (try clear hb)
     (try clear hb2)
     (try clear hk)
     (try clear hi)
     obtain ⟨Ao25, co25, eo25⟩ := Kd.R_slice HO205.out
     (first | subst eo25 | (injection eo25 with f1_ f2_ f3_; have f4_ := f1_.symm; have f5_ := f3_.symm; clear f1_ f2_ f3_; subst f4_; subst f5_))
     refine hK.out _ _ ⟨(blk_cell BK200.out 0).trans rfl, (blk_cell BK201.out 0).trans rfl, (blk_cell BK201.out 1).trans rfl, (blk_cell BK201.out 2).trans rfl⟩ (fun hHeld => ?_)
     clear hK K
     refine norm_ (a' := ?_) ?_ ?_
     rotate_left
     ·show Act.put _ (some 25) _ = _
      simp only [Act.put, List.setIfInBounds_toArray, List.set_cons_zero, List.set_cons_succ, i64_w, i32_w]
      rfl
     refine two_ (i := 4) (j := 8) (Ni := some 26) (Nj := some 6) #[true, true, true, true, true, false, false, false, false, false, false] #[true, true, true, true, false, false, false, false, true, false, false] rfl rfl rfl rfl (two_of HT_.out (by kernel_rfl)) (by decide) (by decide) (fun K hK => ?_) (fun K hK => ?_)
     ·skip
      refine goes_ Try.func16 (by kernel_rfl) rfl #[.agg #[.slice Ao25 t203.length co25], .agg #[.int .i64 t206, .int .i64 t207, .int .i64 t208]] (by rfl) rfl rfl zl ?_
      with_reducible refine (spec_PoolAdd.calls k (fun k_ => some k_ = (.slice Ao25 t203.length co25 : Value).ownBlock) (.slice Ao25 t203.length co25) t203 t206 t207 t208 t209 t212 w _ ?side1 ?side2 A12.out).mono ?_
      (case side1 => repeat (first | (with_reducible first | exact HB.out | apply below_alloc | apply pw_below_drewN | apply below_drew1 | refine below_set ?_ GE200.out | refine below_set ?_ GE201.out) | exact HB.out))
      (case side2 => exact Kd.R_tight rfl HO205.out)
      rintro e w26 ⟨v210, rfl, ho0, hb, hkp⟩
      refine ⟨_, rfl, ?_⟩
      have n0_ := Aside0.mk (blk_kept (zh BK200.out) hkp (fun hs_ => (fun e_ => (Kd.R_ne HO205.out BK200.out (by decide)) e_) hs_))
      have n1_ := Aside0.mk (blk_kept (zh BK201.out) hkp (fun hs_ => (fun e_ => (Kd.R_ne HO205.out BK201.out (by decide)) e_) hs_))
      have n2_ := Aside0.mk (Kd.R_mono (ok' := fun k_ => True) ho0 (fun k_ hk_ => trivial))
      have n3_ := Aside0.mk (hb)
      clear BK200
      clear BK201
      clear HB
      clear HO205
      have BK200 := n0_
      have BK201 := n1_
      have HO211 := n2_
      have HB := n3_
      clear n0_ n1_ n2_ n3_
      (try clear hb)
      (try clear hkp)
      (try clear ho0)
      refine hK.out _ _ ⟨(blk_cell BK200.out 0).trans rfl, (blk_cell BK201.out 0).trans rfl, (blk_cell BK201.out 1).trans rfl, (blk_cell BK201.out 2).trans rfl⟩ (fun hHeld => ?_)
      clear hK K
      refine norm_ (a' := ?_) ?_ ?_
      rotate_left
      ·show Act.put _ (some 26) _ = _
       simp only [Act.put, List.setIfInBounds_toArray, List.set_cons_zero, List.set_cons_succ, i64_w, i32_w]
       rfl
      refine pure_ (i := 5) (N := some 21) (v := ?_) (a' := ?_) #[true, true, true, true, true, true, false, false, false, false, false] rfl rfl (any_of HT_.out (by kernel_rfl)) (fun _ _ _ h => h) (Or.inl ⟨by rfl, ?_⟩) ?_ ?_
      rotate_left
      ·intro w'
       go_simp
       with_reducible rfl
      rotate_left
      ·simp only [Act.put, List.setIfInBounds_toArray, List.set_cons_zero, List.set_cons_succ, i64_w, i32_w]
       rfl
      refine pure_ (i := 6) (N := some 27) (v := ?_) (a' := ?_) #[true, true, true, true, true, true, true, false, false, false, false] rfl rfl (any_of HT_.out (by kernel_rfl)) (fun _ _ _ h => h) (Or.inl ⟨by rfl, ?_⟩) ?_ ?_
      rotate_left
      ·intro w'
       go_simp
       with_reducible rfl
      rotate_left
      ·simp only [Act.put, List.setIfInBounds_toArray, List.set_cons_zero, List.set_cons_succ, i64_w, i32_w]
       rfl
      refine pure_ (i := 7) (N := some 28) (v := ?_) (a' := ?_) #[true, true, true, true, true, true, true, true, false, false, false] rfl rfl (any_of HT_.out (by kernel_rfl)) (fun _ _ _ h => h) (Or.inl ⟨by rfl, ?_⟩) ?_ ?_
      rotate_left
      ·intro w'
       go_simp
       with_reducible rfl
      rotate_left
      ·simp only [Act.put, List.setIfInBounds_toArray, List.set_cons_zero, List.set_cons_succ, i64_w, i32_w]
       rfl
      refine one_ (i := 8) (N := some 6) #[true, true, true, true, true, true, true, true, true, false, false] rfl rfl (one_of HT_.out (by kernel_rfl)) (by decide) (fun K hK => ?_)
      refine box_step ?hg (N := 6) ?hd (cs := #[.slice none 0 0]) (t := 30) ?hr ?_; (case hd => rfl); (case hg => rfl); (case hr => first | (go_simp; done) | (go_simp; rfl))
      intro gb213 hg w27 hbox hb
      have n0_ := Aside0.mk (Kd.R_below (zr HO211.out) hb)
      have n1_ := Aside0.mk (blk_below (zh BK200.out) hb)
      have n2_ := Aside0.mk (blk_below (zh BK201.out) hb)
      have n3_ := Aside0.mk (below_step (zb HB.out) hb)
      have n4_ := Aside0.mk (hbox)
      have n5_ := Aside0.mk ((by rw [hg]; exact (below_size (zb HB.out)) : w.heap.size ≤ gb213))
      have n6_ := Aside0.mk ((by rw [hg]; exact (below_size (zb HB.out)) : w.heap.size ≤ gb213))
      have n7_ := Aside0.mk ((by rw [hg]; exact Nat.ne_of_lt (blk_lt (zh BK200.out)) : gb200 ≠ gb213))
      have n8_ := Aside0.mk ((by rw [hg]; exact Nat.ne_of_gt (blk_lt (zh BK200.out)) : gb213 ≠ gb200))
      have n9_ := Aside0.mk ((by rw [hg]; exact Nat.ne_of_lt (blk_lt (zh BK201.out)) : gb201 ≠ gb213))
      have n10_ := Aside0.mk ((by rw [hg]; exact Nat.ne_of_gt (blk_lt (zh BK201.out)) : gb213 ≠ gb201))
      clear HO211
      clear BK200
      clear BK201
      clear HB
      have HO211 := n0_
      have BK200 := n1_
      have BK201 := n2_
      have HB := n3_
      have BK213 := n4_
      have GW213 := n5_
      have GE213 := n6_
      have NB200_213 := n7_
      have NB213_200 := n8_
      have NB201_213 := n9_
      have NB213_201 := n10_
      clear n0_ n1_ n2_ n3_ n4_ n5_ n6_ n7_ n8_ n9_ n10_
      clear hb hbox hg
      refine hK.out _ _ ⟨(blk_cell BK200.out 0).trans rfl, (blk_cell BK201.out 0).trans rfl, (blk_cell BK201.out 1).trans rfl, (blk_cell BK201.out 2).trans rfl⟩ (fun hHeld => ?_)
      clear hK K
      refine norm_ (a' := ?_) ?_ ?_
      rotate_left
      ·show Act.put _ (some 6) _ = _
       simp only [Act.put, List.setIfInBounds_toArray, List.set_cons_zero, List.set_cons_succ, i64_w, i32_w]
       rfl
      exact norm_ (by simp only [putAll, Act.put, List.setIfInBounds_toArray, List.set_cons_zero, List.set_cons_succ]) (hCont (.slice Ao25 t203.length co25, v210, gb213) _ ⟨hHeld, (zr HO211.out), (zh BK200.out), (zh BK201.out), (zh BK213.out), GW213.out, GE213.out, NB200_213.out, NB213_200.out, NB201_213.out, NB213_201.out, (zb HB.out)⟩)
     ·skip
      refine box_step ?hg (N := 6) ?hd (cs := #[.slice none 0 0]) (t := 30) ?hr ?_; (case hd => rfl); (case hg => rfl); (case hr => first | (go_simp; done) | (go_simp; rfl))
      intro gb213 hg w25 hbox hb
      have n0_ := Aside0.mk (Kd.R_below (zr HO205.out) hb)
      have n1_ := Aside0.mk (blk_below (zh BK200.out) hb)
      have n2_ := Aside0.mk (blk_below (zh BK201.out) hb)
      have n3_ := Aside0.mk (below_step (zb HB.out) hb)
      have n4_ := Aside0.mk (hbox)
      have n5_ := Aside0.mk ((by rw [hg]; exact (below_size (zb HB.out)) : w.heap.size ≤ gb213))
      have n6_ := Aside0.mk ((by rw [hg]; exact (below_size (zb HB.out)) : w.heap.size ≤ gb213))
      have n7_ := Aside0.mk ((by rw [hg]; exact Nat.ne_of_lt (blk_lt (zh BK200.out)) : gb200 ≠ gb213))
      have n8_ := Aside0.mk ((by rw [hg]; exact Nat.ne_of_gt (blk_lt (zh BK200.out)) : gb213 ≠ gb200))
      have n9_ := Aside0.mk ((by rw [hg]; exact Nat.ne_of_lt (blk_lt (zh BK201.out)) : gb201 ≠ gb213))
      have n10_ := Aside0.mk ((by rw [hg]; exact Nat.ne_of_gt (blk_lt (zh BK201.out)) : gb213 ≠ gb201))
      clear HO205
      clear BK200
      clear BK201
      clear HB
      have HO205 := n0_
      have BK200 := n1_
      have BK201 := n2_
      have HB := n3_
      have BK213 := n4_
      have GW213 := n5_
      have GE213 := n6_
      have NB200_213 := n7_
      have NB213_200 := n8_
      have NB201_213 := n9_
      have NB213_201 := n10_
      clear n0_ n1_ n2_ n3_ n4_ n5_ n6_ n7_ n8_ n9_ n10_
      clear hb hbox hg
      obtain ⟨Ao26, co26, eo26⟩ := Kd.R_slice HO205.out
      (first | subst eo26 | (injection eo26 with f1_ f2_ f3_; have f4_ := f1_.symm; have f5_ := f3_.symm; clear f1_ f2_ f3_; subst f4_; subst f5_))
      refine hK.out _ _ ⟨(blk_cell BK200.out 0).trans rfl, (blk_cell BK201.out 0).trans rfl, (blk_cell BK201.out 1).trans rfl, (blk_cell BK201.out 2).trans rfl⟩ (fun hHeld => ?_)
      clear hK K
      refine norm_ (a' := ?_) ?_ ?_
      rotate_left
      ·show Act.put _ (some 6) _ = _
       simp only [Act.put, List.setIfInBounds_toArray, List.set_cons_zero, List.set_cons_succ, i64_w, i32_w]
       rfl
      refine one_ (i := 4) (N := some 26) #[true, true, true, true, true, false, false, false, true, false, false] rfl rfl (one_of HT_.out (by kernel_rfl)) (by decide) (fun K hK => ?_)
      refine goes_ Try.func16 (by kernel_rfl) rfl #[.agg #[.slice Ao26 t203.length co26], .agg #[.int .i64 t206, .int .i64 t207, .int .i64 t208]] (by rfl) rfl rfl zl ?_
      with_reducible refine (spec_PoolAdd.calls k (fun k_ => some k_ = (.slice Ao26 t203.length co26 : Value).ownBlock) (.slice Ao26 t203.length co26) t203 t206 t207 t208 t209 t212 w _ ?side1 ?side2 A12.out).mono ?_
      (case side1 => repeat (first | (with_reducible first | exact HB.out | apply below_alloc | apply pw_below_drewN | apply below_drew1 | refine below_set ?_ GE200.out | refine below_set ?_ GE201.out | refine below_set ?_ GE213.out) | exact HB.out))
      (case side2 => exact Kd.R_tight rfl HO205.out)
      rintro e w27 ⟨v210, rfl, ho0, hb, hkp⟩
      refine ⟨_, rfl, ?_⟩
      have n0_ := Aside0.mk (blk_kept (zh BK200.out) hkp (fun hs_ => (fun e_ => (Kd.R_ne HO205.out BK200.out (by decide)) e_) hs_))
      have n1_ := Aside0.mk (blk_kept (zh BK201.out) hkp (fun hs_ => (fun e_ => (Kd.R_ne HO205.out BK201.out (by decide)) e_) hs_))
      have n2_ := Aside0.mk (blk_kept (zh BK213.out) hkp (fun hs_ => (fun e_ => (Kd.R_ne HO205.out BK213.out (by decide)) e_) hs_))
      have n3_ := Aside0.mk (Kd.R_mono (ok' := fun k_ => True) ho0 (fun k_ hk_ => trivial))
      have n4_ := Aside0.mk (hb)
      clear BK200
      clear BK201
      clear BK213
      clear HB
      clear HO205
      have BK200 := n0_
      have BK201 := n1_
      have BK213 := n2_
      have HO211 := n3_
      have HB := n4_
      clear n0_ n1_ n2_ n3_ n4_
      (try clear hb)
      (try clear hkp)
      (try clear ho0)
      refine hK.out _ _ ⟨(blk_cell BK200.out 0).trans rfl, (blk_cell BK201.out 0).trans rfl, (blk_cell BK201.out 1).trans rfl, (blk_cell BK201.out 2).trans rfl⟩ (fun hHeld => ?_)
      clear hK K
      refine norm_ (a' := ?_) ?_ ?_
      rotate_left
      ·show Act.put _ (some 26) _ = _
       simp only [Act.put, List.setIfInBounds_toArray, List.set_cons_zero, List.set_cons_succ, i64_w, i32_w]
       rfl
      refine pure_ (i := 5) (N := some 21) (v := ?_) (a' := ?_) #[true, true, true, true, true, true, false, false, true, false, false] rfl rfl (any_of HT_.out (by kernel_rfl)) (fun _ _ _ h => h) (Or.inl ⟨by rfl, ?_⟩) ?_ ?_
      rotate_left
      ·intro w'
       go_simp
       with_reducible rfl
      rotate_left
      ·simp only [Act.put, List.setIfInBounds_toArray, List.set_cons_zero, List.set_cons_succ, i64_w, i32_w]
       rfl
      refine pure_ (i := 6) (N := some 27) (v := ?_) (a' := ?_) #[true, true, true, true, true, true, true, false, true, false, false] rfl rfl (any_of HT_.out (by kernel_rfl)) (fun _ _ _ h => h) (Or.inl ⟨by rfl, ?_⟩) ?_ ?_
      rotate_left
      ·intro w'
       go_simp
       with_reducible rfl
      rotate_left
      ·simp only [Act.put, List.setIfInBounds_toArray, List.set_cons_zero, List.set_cons_succ, i64_w, i32_w]
       rfl
      refine pure_ (i := 7) (N := some 28) (v := ?_) (a' := ?_) #[true, true, true, true, true, true, true, true, true, false, false] rfl rfl (any_of HT_.out (by kernel_rfl)) (fun _ _ _ h => h) (Or.inl ⟨by rfl, ?_⟩) ?_ ?_
      rotate_left
      ·intro w'
       go_simp
       with_reducible rfl
      rotate_left
      ·simp only [Act.put, List.setIfInBounds_toArray, List.set_cons_zero, List.set_cons_succ, i64_w, i32_w]
       rfl
      exact norm_ (by simp only [putAll, Act.put, List.setIfInBounds_toArray, List.set_cons_zero, List.set_cons_succ]) (hCont (.slice Ao26 t203.length co26, v210, gb213) _ ⟨hHeld, (zr HO211.out), (zh BK200.out), (zh BK201.out), (zh BK213.out), GW213.out, GE213.out, NB200_213.out, NB213_200.out, NB201_213.out, NB213_201.out, (zb HB.out)⟩)
    ·skip
     refine box_step ?hg (N := 6) ?hd (cs := #[.slice none 0 0]) (t := 30) ?hr ?_; (case hd => rfl); (case hg => rfl); (case hr => first | (go_simp; done) | (go_simp; rfl))
     intro gb213 hg w24 hbox hb
     have n0_ := Aside0.mk (Kd.R_below (zr HO205.out) hb)
     have n1_ := Aside0.mk (blk_below (zh BK200.out) hb)
     have n2_ := Aside0.mk (blk_below (zh BK201.out) hb)
     have n3_ := Aside0.mk (below_step (zb HB.out) hb)
     have n4_ := Aside0.mk (hbox)
     have n5_ := Aside0.mk ((by rw [hg]; exact (below_size (zb HB.out)) : w.heap.size ≤ gb213))
     have n6_ := Aside0.mk ((by rw [hg]; exact (below_size (zb HB.out)) : w.heap.size ≤ gb213))
     have n7_ := Aside0.mk ((by rw [hg]; exact Nat.ne_of_lt (blk_lt (zh BK200.out)) : gb200 ≠ gb213))
     have n8_ := Aside0.mk ((by rw [hg]; exact Nat.ne_of_gt (blk_lt (zh BK200.out)) : gb213 ≠ gb200))
     have n9_ := Aside0.mk ((by rw [hg]; exact Nat.ne_of_lt (blk_lt (zh BK201.out)) : gb201 ≠ gb213))
     have n10_ := Aside0.mk ((by rw [hg]; exact Nat.ne_of_gt (blk_lt (zh BK201.out)) : gb213 ≠ gb201))
     clear HO205
     clear BK200
     clear BK201
     clear HB
     have HO205 := n0_
     have BK200 := n1_
     have BK201 := n2_
     have HB := n3_
     have BK213 := n4_
     have GW213 := n5_
     have GE213 := n6_
     have NB200_213 := n7_
     have NB213_200 := n8_
     have NB201_213 := n9_
     have NB213_201 := n10_
     clear n0_ n1_ n2_ n3_ n4_ n5_ n6_ n7_ n8_ n9_ n10_
     clear hb hbox hg
     refine hK.out _ _ ⟨(blk_cell BK200.out 0).trans rfl, (blk_cell BK201.out 0).trans rfl, (blk_cell BK201.out 1).trans rfl, (blk_cell BK201.out 2).trans rfl⟩ (fun hHeld => ?_)
     clear hK K
     refine norm_ (a' := ?_) ?_ ?_
     rotate_left
     ·show Act.put _ (some 6) _ = _
      simp only [Act.put, List.setIfInBounds_toArray, List.set_cons_zero, List.set_cons_succ, i64_w, i32_w]
      rfl
     refine one_ (i := 3) (N := some 25) #[true, true, true, true, false, false, false, false, true, false, false] rfl rfl (one_of HT_.out (by kernel_rfl)) (by decide) (fun K hK => ?_)
     refine goes_ Try.func18 (by kernel_rfl) rfl #[.agg #[.int .i64 a1_0, .int .i64 a1_1, .int .i64 a1_2]] (by rfl) rfl rfl zl ?_
     with_reducible refine (laws_toNode.calls a1_0 a1_1 a1_2 t206 t207 t208 _ A11.out).mono ?_
     rintro e w25 ⟨rfl, hb⟩
     refine ⟨_, rfl, ?_⟩
     have n0_ := Aside0.mk (Kd.R_below (zr HO205.out) hb)
     have n1_ := Aside0.mk (blk_below (zh BK200.out) hb)
     have n2_ := Aside0.mk (blk_below (zh BK201.out) hb)
     have n3_ := Aside0.mk (blk_below (zh BK213.out) hb)
     have n4_ := Aside0.mk (below_step (zb HB.out) hb)
     clear HO205
     clear BK200
     clear BK201
     clear BK213
     clear HB
     have HO205 := n0_
     have BK200 := n1_
     have BK201 := n2_
     have BK213 := n3_
     have HB := n4_
     clear n0_ n1_ n2_ n3_ n4_
     (try clear hb)
     (try clear hb2)
     (try clear hk)
     (try clear hi)
     obtain ⟨Ao26, co26, eo26⟩ := Kd.R_slice HO205.out
     (first | subst eo26 | (injection eo26 with f1_ f2_ f3_; have f4_ := f1_.symm; have f5_ := f3_.symm; clear f1_ f2_ f3_; subst f4_; subst f5_))
     refine hK.out _ _ ⟨(blk_cell BK200.out 0).trans rfl, (blk_cell BK201.out 0).trans rfl, (blk_cell BK201.out 1).trans rfl, (blk_cell BK201.out 2).trans rfl⟩ (fun hHeld => ?_)
     clear hK K
     refine norm_ (a' := ?_) ?_ ?_
     rotate_left
     ·show Act.put _ (some 25) _ = _
      simp only [Act.put, List.setIfInBounds_toArray, List.set_cons_zero, List.set_cons_succ, i64_w, i32_w]
      rfl
     refine one_ (i := 4) (N := some 26) #[true, true, true, true, true, false, false, false, true, false, false] rfl rfl (one_of HT_.out (by kernel_rfl)) (by decide) (fun K hK => ?_)
     refine goes_ Try.func16 (by kernel_rfl) rfl #[.agg #[.slice Ao26 t203.length co26], .agg #[.int .i64 t206, .int .i64 t207, .int .i64 t208]] (by rfl) rfl rfl zl ?_
     with_reducible refine (spec_PoolAdd.calls k (fun k_ => some k_ = (.slice Ao26 t203.length co26 : Value).ownBlock) (.slice Ao26 t203.length co26) t203 t206 t207 t208 t209 t212 w _ ?side1 ?side2 A12.out).mono ?_
     (case side1 => repeat (first | (with_reducible first | exact HB.out | apply below_alloc | apply pw_below_drewN | apply below_drew1 | refine below_set ?_ GE200.out | refine below_set ?_ GE201.out | refine below_set ?_ GE213.out) | exact HB.out))
     (case side2 => exact Kd.R_tight rfl HO205.out)
     rintro e w27 ⟨v210, rfl, ho0, hb, hkp⟩
     refine ⟨_, rfl, ?_⟩
     have n0_ := Aside0.mk (blk_kept (zh BK200.out) hkp (fun hs_ => (fun e_ => (Kd.R_ne HO205.out BK200.out (by decide)) e_) hs_))
     have n1_ := Aside0.mk (blk_kept (zh BK201.out) hkp (fun hs_ => (fun e_ => (Kd.R_ne HO205.out BK201.out (by decide)) e_) hs_))
     have n2_ := Aside0.mk (blk_kept (zh BK213.out) hkp (fun hs_ => (fun e_ => (Kd.R_ne HO205.out BK213.out (by decide)) e_) hs_))
     have n3_ := Aside0.mk (Kd.R_mono (ok' := fun k_ => True) ho0 (fun k_ hk_ => trivial))
     have n4_ := Aside0.mk (hb)
     clear BK200
     clear BK201
     clear BK213
     clear HB
     clear HO205
     have BK200 := n0_
     have BK201 := n1_
     have BK213 := n2_
     have HO211 := n3_
     have HB := n4_
     clear n0_ n1_ n2_ n3_ n4_
     (try clear hb)
     (try clear hkp)
     (try clear ho0)
     refine hK.out _ _ ⟨(blk_cell BK200.out 0).trans rfl, (blk_cell BK201.out 0).trans rfl, (blk_cell BK201.out 1).trans rfl, (blk_cell BK201.out 2).trans rfl⟩ (fun hHeld => ?_)
     clear hK K
     refine norm_ (a' := ?_) ?_ ?_
     rotate_left
     ·show Act.put _ (some 26) _ = _
      simp only [Act.put, List.setIfInBounds_toArray, List.set_cons_zero, List.set_cons_succ, i64_w, i32_w]
      rfl
     refine pure_ (i := 5) (N := some 21) (v := ?_) (a' := ?_) #[true, true, true, true, true, true, false, false, true, false, false] rfl rfl (any_of HT_.out (by kernel_rfl)) (fun _ _ _ h => h) (Or.inl ⟨by rfl, ?_⟩) ?_ ?_
     rotate_left
     ·intro w'
      go_simp
      with_reducible rfl
     rotate_left
     ·simp only [Act.put, List.setIfInBounds_toArray, List.set_cons_zero, List.set_cons_succ, i64_w, i32_w]
      rfl
     refine pure_ (i := 6) (N := some 27) (v := ?_) (a' := ?_) #[true, true, true, true, true, true, true, false, true, false, false] rfl rfl (any_of HT_.out (by kernel_rfl)) (fun _ _ _ h => h) (Or.inl ⟨by rfl, ?_⟩) ?_ ?_
     rotate_left
     ·intro w'
      go_simp
      with_reducible rfl
     rotate_left
     ·simp only [Act.put, List.setIfInBounds_toArray, List.set_cons_zero, List.set_cons_succ, i64_w, i32_w]
      rfl
     refine pure_ (i := 7) (N := some 28) (v := ?_) (a' := ?_) #[true, true, true, true, true, true, true, true, true, false, false] rfl rfl (any_of HT_.out (by kernel_rfl)) (fun _ _ _ h => h) (Or.inl ⟨by rfl, ?_⟩) ?_ ?_
     rotate_left
     ·intro w'
      go_simp
      with_reducible rfl
     rotate_left
     ·simp only [Act.put, List.setIfInBounds_toArray, List.set_cons_zero, List.set_cons_succ, i64_w, i32_w]
      rfl
     exact norm_ (by simp only [putAll, Act.put, List.setIfInBounds_toArray, List.set_cons_zero, List.set_cons_succ]) (hCont (.slice Ao26 t203.length co26, v210, gb213) _ ⟨hHeld, (zr HO211.out), (zh BK200.out), (zh BK201.out), (zh BK213.out), GW213.out, GE213.out, NB200_213.out, NB213_200.out, NB201_213.out, NB213_201.out, (zb HB.out)⟩)
   ·skip
    refine box_step ?hg (N := 6) ?hd (cs := #[.slice none 0 0]) (t := 30) ?hr ?_; (case hd => rfl); (case hg => rfl); (case hr => first | (go_simp; done) | (go_simp; rfl))
    intro gb213 hg w23 hbox hb
    have n0_ := Aside0.mk (blk_below (zh BK200.out) hb)
    have n1_ := Aside0.mk (blk_below (zh BK201.out) hb)
    have n2_ := Aside0.mk (below_step (zb HB.out) hb)
    have n3_ := Aside0.mk (hbox)
    have n4_ := Aside0.mk ((by rw [hg]; exact (below_size (zb HB.out)) : w.heap.size ≤ gb213))
    have n5_ := Aside0.mk ((by rw [hg]; exact (below_size (zb HB.out)) : w.heap.size ≤ gb213))
    have n6_ := Aside0.mk ((by rw [hg]; exact Nat.ne_of_lt (blk_lt (zh BK200.out)) : gb200 ≠ gb213))
    have n7_ := Aside0.mk ((by rw [hg]; exact Nat.ne_of_gt (blk_lt (zh BK200.out)) : gb213 ≠ gb200))
    have n8_ := Aside0.mk ((by rw [hg]; exact Nat.ne_of_lt (blk_lt (zh BK201.out)) : gb201 ≠ gb213))
    have n9_ := Aside0.mk ((by rw [hg]; exact Nat.ne_of_gt (blk_lt (zh BK201.out)) : gb213 ≠ gb201))
    clear BK200
    clear BK201
    clear HB
    have BK200 := n0_
    have BK201 := n1_
    have HB := n2_
    have BK213 := n3_
    have GW213 := n4_
    have GE213 := n5_
    have NB200_213 := n6_
    have NB213_200 := n7_
    have NB201_213 := n8_
    have NB213_201 := n9_
    clear n0_ n1_ n2_ n3_ n4_ n5_ n6_ n7_ n8_ n9_
    clear hb hbox hg
    refine hK.out _ _ ⟨(blk_cell BK200.out 0).trans rfl, (blk_cell BK201.out 0).trans rfl, (blk_cell BK201.out 1).trans rfl, (blk_cell BK201.out 2).trans rfl⟩ (fun hHeld => ?_)
    clear hK K
    refine norm_ (a' := ?_) ?_ ?_
    rotate_left
    ·show Act.put _ (some 6) _ = _
     simp only [Act.put, List.setIfInBounds_toArray, List.set_cons_zero, List.set_cons_succ, i64_w, i32_w]
     rfl
    refine one_ (i := 1) (N := some 23) #[true, true, true, false, false, false, false, false, true, false, false] rfl rfl (one_of HT_.out (by kernel_rfl)) (by decide) (fun K hK => ?_)
    refine goes_ Try.func17 (by kernel_rfl) rfl #[.agg #[.slice A0_0 l0_0.length c0_0]] (by rfl) rfl rfl zl ?_
    with_reducible refine (laws_toPool.calls k _ _ l0_0 t203 _ ?side1 ?side2 A10.out).mono ?_
    (case side1 => exact zc (Kd.C_below HR0_0.out HB.out))
    (case side2 => exact HC0_0.out)
    rintro e w24 ⟨v204, rfl, ho0, hb⟩
    refine ⟨_, rfl, ?_⟩
    have n0_ := Aside0.mk (Kd.R_lower ho0 (below_size (zb HB.out)))
    have n1_ := Aside0.mk (blk_below (zh BK200.out) hb)
    have n2_ := Aside0.mk (blk_below (zh BK201.out) hb)
    have n3_ := Aside0.mk (blk_below (zh BK213.out) hb)
    have n4_ := Aside0.mk (below_step (zb HB.out) hb)
    clear BK200
    clear BK201
    clear BK213
    clear HB
    have HO205 := n0_
    have BK200 := n1_
    have BK201 := n2_
    have BK213 := n3_
    have HB := n4_
    clear n0_ n1_ n2_ n3_ n4_
    (try clear hb)
    (try clear hb2)
    (try clear hk)
    (try clear hi)
    (try clear ho0)
    refine hK.out _ _ ⟨(blk_cell BK200.out 0).trans rfl, (blk_cell BK201.out 0).trans rfl, (blk_cell BK201.out 1).trans rfl, (blk_cell BK201.out 2).trans rfl⟩ (fun hHeld => ?_)
    clear hK K
    refine norm_ (a' := ?_) ?_ ?_
    rotate_left
    ·show Act.put _ (some 23) _ = _
     simp only [Act.put, List.setIfInBounds_toArray, List.set_cons_zero, List.set_cons_succ, i64_w, i32_w]
     rfl
    refine one_ (i := 3) (N := some 25) #[true, true, true, true, false, false, false, false, true, false, false] rfl rfl (one_of HT_.out (by kernel_rfl)) (by decide) (fun K hK => ?_)
    refine goes_ Try.func18 (by kernel_rfl) rfl #[.agg #[.int .i64 a1_0, .int .i64 a1_1, .int .i64 a1_2]] (by rfl) rfl rfl zl ?_
    with_reducible refine (laws_toNode.calls a1_0 a1_1 a1_2 t206 t207 t208 _ A11.out).mono ?_
    rintro e w25 ⟨rfl, hb⟩
    refine ⟨_, rfl, ?_⟩
    have n0_ := Aside0.mk (Kd.R_below (zr HO205.out) hb)
    have n1_ := Aside0.mk (blk_below (zh BK200.out) hb)
    have n2_ := Aside0.mk (blk_below (zh BK201.out) hb)
    have n3_ := Aside0.mk (blk_below (zh BK213.out) hb)
    have n4_ := Aside0.mk (below_step (zb HB.out) hb)
    clear HO205
    clear BK200
    clear BK201
    clear BK213
    clear HB
    have HO205 := n0_
    have BK200 := n1_
    have BK201 := n2_
    have BK213 := n3_
    have HB := n4_
    clear n0_ n1_ n2_ n3_ n4_
    (try clear hb)
    (try clear hb2)
    (try clear hk)
    (try clear hi)
    obtain ⟨Ao26, co26, eo26⟩ := Kd.R_slice HO205.out
    (first | subst eo26 | (injection eo26 with f1_ f2_ f3_; have f4_ := f1_.symm; have f5_ := f3_.symm; clear f1_ f2_ f3_; subst f4_; subst f5_))
    refine hK.out _ _ ⟨(blk_cell BK200.out 0).trans rfl, (blk_cell BK201.out 0).trans rfl, (blk_cell BK201.out 1).trans rfl, (blk_cell BK201.out 2).trans rfl⟩ (fun hHeld => ?_)
    clear hK K
    refine norm_ (a' := ?_) ?_ ?_
    rotate_left
    ·show Act.put _ (some 25) _ = _
     simp only [Act.put, List.setIfInBounds_toArray, List.set_cons_zero, List.set_cons_succ, i64_w, i32_w]
     rfl
    refine one_ (i := 4) (N := some 26) #[true, true, true, true, true, false, false, false, true, false, false] rfl rfl (one_of HT_.out (by kernel_rfl)) (by decide) (fun K hK => ?_)
    refine goes_ Try.func16 (by kernel_rfl) rfl #[.agg #[.slice Ao26 t203.length co26], .agg #[.int .i64 t206, .int .i64 t207, .int .i64 t208]] (by rfl) rfl rfl zl ?_
    with_reducible refine (spec_PoolAdd.calls k (fun k_ => some k_ = (.slice Ao26 t203.length co26 : Value).ownBlock) (.slice Ao26 t203.length co26) t203 t206 t207 t208 t209 t212 w _ ?side1 ?side2 A12.out).mono ?_
    (case side1 => repeat (first | (with_reducible first | exact HB.out | apply below_alloc | apply pw_below_drewN | apply below_drew1 | refine below_set ?_ GE200.out | refine below_set ?_ GE201.out | refine below_set ?_ GE213.out) | exact HB.out))
    (case side2 => exact Kd.R_tight rfl HO205.out)
    rintro e w27 ⟨v210, rfl, ho0, hb, hkp⟩
    refine ⟨_, rfl, ?_⟩
    have n0_ := Aside0.mk (blk_kept (zh BK200.out) hkp (fun hs_ => (fun e_ => (Kd.R_ne HO205.out BK200.out (by decide)) e_) hs_))
    have n1_ := Aside0.mk (blk_kept (zh BK201.out) hkp (fun hs_ => (fun e_ => (Kd.R_ne HO205.out BK201.out (by decide)) e_) hs_))
    have n2_ := Aside0.mk (blk_kept (zh BK213.out) hkp (fun hs_ => (fun e_ => (Kd.R_ne HO205.out BK213.out (by decide)) e_) hs_))
    have n3_ := Aside0.mk (Kd.R_mono (ok' := fun k_ => True) ho0 (fun k_ hk_ => trivial))
    have n4_ := Aside0.mk (hb)
    clear BK200
    clear BK201
    clear BK213
    clear HB
    clear HO205
    have BK200 := n0_
    have BK201 := n1_
    have BK213 := n2_
    have HO211 := n3_
    have HB := n4_
    clear n0_ n1_ n2_ n3_ n4_
    (try clear hb)
    (try clear hkp)
    (try clear ho0)
    refine hK.out _ _ ⟨(blk_cell BK200.out 0).trans rfl, (blk_cell BK201.out 0).trans rfl, (blk_cell BK201.out 1).trans rfl, (blk_cell BK201.out 2).trans rfl⟩ (fun hHeld => ?_)
    clear hK K
    refine norm_ (a' := ?_) ?_ ?_
    rotate_left
    ·show Act.put _ (some 26) _ = _
     simp only [Act.put, List.setIfInBounds_toArray, List.set_cons_zero, List.set_cons_succ, i64_w, i32_w]
     rfl
    refine pure_ (i := 5) (N := some 21) (v := ?_) (a' := ?_) #[true, true, true, true, true, true, false, false, true, false, false] rfl rfl (any_of HT_.out (by kernel_rfl)) (fun _ _ _ h => h) (Or.inl ⟨by rfl, ?_⟩) ?_ ?_
    rotate_left
    ·intro w'
     go_simp
     with_reducible rfl
    rotate_left
    ·simp only [Act.put, List.setIfInBounds_toArray, List.set_cons_zero, List.set_cons_succ, i64_w, i32_w]
     rfl
    refine pure_ (i := 6) (N := some 27) (v := ?_) (a' := ?_) #[true, true, true, true, true, true, true, false, true, false, false] rfl rfl (any_of HT_.out (by kernel_rfl)) (fun _ _ _ h => h) (Or.inl ⟨by rfl, ?_⟩) ?_ ?_
    rotate_left
    ·intro w'
     go_simp
     with_reducible rfl
    rotate_left
    ·simp only [Act.put, List.setIfInBounds_toArray, List.set_cons_zero, List.set_cons_succ, i64_w, i32_w]
     rfl
    refine pure_ (i := 7) (N := some 28) (v := ?_) (a' := ?_) #[true, true, true, true, true, true, true, true, true, false, false] rfl rfl (any_of HT_.out (by kernel_rfl)) (fun _ _ _ h => h) (Or.inl ⟨by rfl, ?_⟩) ?_ ?_
    rotate_left
    ·intro w'
     go_simp
     with_reducible rfl
    rotate_left
    ·simp only [Act.put, List.setIfInBounds_toArray, List.set_cons_zero, List.set_cons_succ, i64_w, i32_w]
     rfl
    exact norm_ (by simp only [putAll, Act.put, List.setIfInBounds_toArray, List.set_cons_zero, List.set_cons_succ]) (hCont (.slice Ao26 t203.length co26, v210, gb213) _ ⟨hHeld, (zr HO211.out), (zh BK200.out), (zh BK201.out), (zh BK213.out), GW213.out, GE213.out, NB200_213.out, NB213_200.out, NB201_213.out, NB213_201.out, (zb HB.out)⟩)
  rintro ⟨v204, v210, gb213⟩ w28 ⟨hS_, h0_, h1_, h2_, h3_, h4_, h5_, h6_, h7_, h8_, h9_, h10_⟩
  have n0_ : Aside0 (Kd.R k34 34 w28 w.heap.size (fun _ => True) v210 t209) := ⟨h0_⟩
  have n1_ : Aside0 (w28.heap[gb200]? = some (.cells #[.slice A0_0 l0_0.length c0_0] 24 (0, 0))) := ⟨h1_⟩
  have n2_ : Aside0 (w28.heap[gb201]? = some (.cells #[.int .i64 a1_0, .int .i64 a1_1, .int .i64 a1_2] 26 (0, 0))) := ⟨h2_⟩
  have n3_ : Aside0 (w28.heap[gb213]? = some (.cells #[.slice none 0 0] 30 (0, 0))) := ⟨h3_⟩
  have n4_ : Aside0 (w.heap.size ≤ gb213) := ⟨h4_⟩
  have n5_ : Aside0 (w.heap.size ≤ gb213) := ⟨h5_⟩
  have n6_ : Aside0 (gb200 ≠ gb213) := ⟨h6_⟩
  have n7_ : Aside0 (gb213 ≠ gb200) := ⟨h7_⟩
  have n8_ : Aside0 (gb201 ≠ gb213) := ⟨h8_⟩
  have n9_ : Aside0 (gb213 ≠ gb201) := ⟨h9_⟩
  have n10_ : Aside0 (Below w.heap.size w w28) := ⟨h10_⟩
  clear BK200
  clear BK201
  clear HB
  clear h0_ h1_ h2_ h3_ h4_ h5_ h6_ h7_ h8_ h9_ h10_
  have HO211 := n0_
  have BK200 := n1_
  have BK201 := n2_
  have BK213 := n3_
  have GW213 := n4_
  have GE213 := n5_
  have NB200_213 := n6_
  have NB213_200 := n7_
  have NB201_213 := n8_
  have NB213_201 := n9_
  have HB := n10_
  clear n0_ n1_ n2_ n3_ n4_ n5_ n6_ n7_ n8_ n9_ n10_
  have hHeld : w28.cell? ⟨gb200, 0, none⟩ = some (.slice A0_0 l0_0.length c0_0) ∧ w28.cell? ⟨gb201, 0, none⟩ = some (.int .i64 a1_0) ∧ w28.cell? ⟨gb201, 1, none⟩ = some (.int .i64 a1_1) ∧ w28.cell? ⟨gb201, 2, none⟩ = some (.int .i64 a1_2) := hS_
  obtain ⟨Ao29, co29, eo29⟩ := Kd.R_slice HO211.out
  (first | subst eo29 | (injection eo29 with f1_ f2_ f3_; have f4_ := f1_.symm; have f5_ := f3_.symm; clear f1_ f2_ f3_; subst f4_; subst f5_))
  refine norm_ (a' := ?_) ?_ ?_
  rotate_left
  ·simp only [putAll, Act.put, List.setIfInBounds_toArray, List.set_cons_zero, List.set_cons_succ]
   rfl
  refine one_ (i := 9) (N := none) #[true, true, true, true, true, true, true, true, true, true, false] rfl rfl (one_of HT_.out (by kernel_rfl)) (by decide) (fun K hK => ?_)
  have hs30 : w28.cell? ⟨gb213, 0, none⟩ = some (.slice none 0 0) := (blk_cell BK213.out 0).trans rfl
  have hfs30 := blk_frozen BK213.out 0
  have hns30_0 := NB200_213.out
  have hns30_1 := NB201_213.out
  have hms30_0 := NB213_200.out
  have hms30_1 := NB213_201.out
  refine skip_ (w1 := ?_) (by rfl) rfl ?_ ?_
  rotate_left
  ·go_simp
   rfl
  refine hK.out _ _ ⟨((cell_far (p := ⟨gb213, _, none⟩) NB200_213.out _).trans (hHeld.1)), ((cell_far (p := ⟨gb213, _, none⟩) NB201_213.out _).trans (hHeld.2.1)), ((cell_far (p := ⟨gb213, _, none⟩) NB201_213.out _).trans (hHeld.2.2.1)), ((cell_far (p := ⟨gb213, _, none⟩) NB201_213.out _).trans (hHeld.2.2.2))⟩ (fun hHeld => ?_)
  clear hK K
  refine pure_ (i := 10) (N := some 7) (v := ?_) (a' := ?_) #[true, true, true, true, true, true, true, true, true, true, true] rfl rfl (any_of HT_.out (by kernel_rfl)) (fun _ _ _ h => h) (Or.inl ⟨by rfl, ?_⟩) ?_ ?_
  rotate_left
  ·intro w'
   go_simp
   with_reducible rfl
  rotate_left
  ·simp only [Act.put, List.setIfInBounds_toArray, List.set_cons_zero, List.set_cons_succ, i64_w, i32_w]
   rfl
  refine done_ (done_of HT_.out (by kernel_rfl)) ?_
  have hnb31 := NB200_213.out
  have hnc31 := NB213_200.out
  have hcz32_0 : w28.cell? ⟨gb200, 0, none⟩ = some (.slice A0_0 l0_0.length c0_0) := (blk_cell BK200.out 0).trans rfl
  have hfz32_0 := blk_frozen BK200.out 0
  try go_wp2_with (first | ((with_reducible refine gate_callee (f := 17) rfl ?_); refine goesL_ (some 30) rfl rfl Try.func17 (by kernel_rfl) rfl #[.agg #[.slice A0_0 l0_0.length c0_0]] rfl zl ?_; (with_reducible refine (laws_toPool.calls k _ _ l0_0 t214 _ ?side1 ?side2 A13.out).mono ?_); (case side1 => exact Kd.C_below HR0_0.out (zb HB.out)); (case side2 => exact HC0_0.out); rintro e w33 ⟨v215, rfl, ho0, hb⟩; refine ⟨_, rfl, ?_⟩; have n0_ := Aside0.mk (Kd.R_elder' (by (with_reducible repeat (first | apply Kd.R_alloc | apply Kd.R_drewN | apply Kd.R_drew)); exact (Kd.R_mono (Kd.R_far (p := ⟨gb213, 0, none⟩) (Kd.R_types HO211.out BK213.out (by decide)) (fun _ hk => hk.2) (.slice Ao29 t209.length co29)) (fun _ h_ => h_.1))) (Kd.R_base ho0) hb); have n1_ := Aside0.mk (Kd.R_lower (Kd.R_new' ho0 (Kd.R_lt (by (with_reducible repeat (first | apply Kd.R_alloc | apply Kd.R_drewN | apply Kd.R_drew)); exact (Kd.R_mono (Kd.R_far (p := ⟨gb213, 0, none⟩) (Kd.R_types HO211.out BK213.out (by decide)) (fun _ hk => hk.2) (.slice Ao29 t209.length co29)) (fun _ h_ => h_.1))))) (below_size (zb HB.out))); have n2_ := Aside0.mk (blk_below (g := gb200) (o := .cells #[.slice A0_0 l0_0.length c0_0] 24 (0, 0)) (zf BK200.out) hb); have n3_ := Aside0.mk (blk_below (g := gb201) (o := .cells #[.int .i64 a1_0, .int .i64 a1_1, .int .i64 a1_2] 26 (0, 0)) (zf BK201.out) hb); have n4_ := Aside0.mk (blk_below (g := gb213) (o := .cells #[.slice Ao29 t209.length co29] 30 (0, 0)) (by (with_reducible repeat (first | refine blk_drewN ?_ _ | refine blk_drew ?_ | refine blk_alloc ?_ _)); refine blk_put (cs := #[.slice none 0 0]) ?_ 0 _ rfl; (with_reducible repeat (first | refine blk_drewN ?_ _ | refine blk_drew ?_ | refine blk_alloc ?_ _)); exact BK213.out) hb); have n5_ := Aside0.mk (below_step (zb HB.out) hb); clear HO211; clear BK200; clear BK201; clear BK213; clear HB; have HO211 := n0_; have HO216 := n1_; have BK200 := n2_; have BK201 := n3_; have BK213 := n4_; have HB := n5_; clear n0_ n1_ n2_ n3_ n4_ n5_; (try clear hb); (try clear hb2); (try clear hk); (try clear hi); (try clear ho0)) | ((with_reducible refine gate_dst (N := 8) rfl ?_); refine box_event ?hg (N := 8) ?hd (cs := #[.slice none 0 0]) (t := 30) ?hr ?_; (case hd => rfl); (case hg => rfl); (case hr => first | (go_simp; done) | (go_simp; rfl)); intro gb217 hg w34 hbox hb; have n0_ := Aside0.mk (Kd.R_below (zr HO211.out) hb); have n1_ := Aside0.mk (Kd.R_below (zr HO216.out) hb); have n2_ := Aside0.mk (blk_below (zh BK200.out) hb); have n3_ := Aside0.mk (blk_below (zh BK201.out) hb); have n4_ := Aside0.mk (blk_below (zh BK213.out) hb); have n5_ := Aside0.mk (below_step (zb HB.out) hb); have n6_ := Aside0.mk (hbox); have n7_ := Aside0.mk ((by rw [hg]; exact (below_size (zb HB.out)) : w.heap.size ≤ gb217)); have n8_ := Aside0.mk ((by rw [hg]; exact (below_size (zb HB.out)) : w.heap.size ≤ gb217)); have n9_ := Aside0.mk ((by rw [hg]; exact Nat.ne_of_lt (blk_lt (zh BK200.out)) : gb200 ≠ gb217)); have n10_ := Aside0.mk ((by rw [hg]; exact Nat.ne_of_gt (blk_lt (zh BK200.out)) : gb217 ≠ gb200)); have n11_ := Aside0.mk ((by rw [hg]; exact Nat.ne_of_lt (blk_lt (zh BK201.out)) : gb201 ≠ gb217)); have n12_ := Aside0.mk ((by rw [hg]; exact Nat.ne_of_gt (blk_lt (zh BK201.out)) : gb217 ≠ gb201)); have n13_ := Aside0.mk ((by rw [hg]; exact Nat.ne_of_lt (blk_lt (zh BK213.out)) : gb213 ≠ gb217)); have n14_ := Aside0.mk ((by rw [hg]; exact Nat.ne_of_gt (blk_lt (zh BK213.out)) : gb217 ≠ gb213)); clear HO211; clear HO216; clear BK200; clear BK201; clear BK213; clear HB; have HO211 := n0_; have HO216 := n1_; have BK200 := n2_; have BK201 := n3_; have BK213 := n4_; have HB := n5_; have BK217 := n6_; have GW217 := n7_; have GE217 := n8_; have NB200_217 := n9_; have NB217_200 := n10_; have NB201_217 := n11_; have NB217_201 := n12_; have NB213_217 := n13_; have NB217_213 := n14_; clear n0_ n1_ n2_ n3_ n4_ n5_ n6_ n7_ n8_ n9_ n10_ n11_ n12_ n13_ n14_; clear hb hbox hg; obtain ⟨Ao35, co35, eo35⟩ := Kd.R_slice HO216.out; subst eo35; have hnb36 := NB217_200.out; have hnc36 := NB200_217.out; have hnb37 := NB217_201.out; have hnc37 := NB201_217.out; have hnb38 := NB217_213.out; have hnc38 := NB213_217.out; have hcz39_0 : w34.cell? ⟨gb217, 0, none⟩ = some (.slice none 0 0) := (blk_cell BK217.out 0).trans rfl; have hfz39_0 := blk_frozen BK217.out 0))
  have n0_ : Aside0 (Kd.R k34 34 (w34.setCell ⟨gb217, 0, none⟩ (.slice Ao35 t214.length co35)) w.heap.size (fun k_ => some k_ ≠ (.slice Ao35 t214.length co35 : Value).ownBlock) (.slice Ao29 t209.length co29) t209) := ⟨by (with_reducible repeat (first | apply Kd.R_alloc | apply Kd.R_drewN | apply Kd.R_drew)); exact Kd.R_mono (Kd.R_far (p := ⟨gb217, 0, none⟩) (Kd.R_types HO211.out BK217.out (by decide)) (fun _ hk => hk.2) (.slice Ao35 t214.length co35)) (fun _ hk => hk.1.2)⟩
  have n1_ : Aside0 (Kd.R k34 34 (w34.setCell ⟨gb217, 0, none⟩ (.slice Ao35 t214.length co35)) w.heap.size (fun k_ => some k_ ≠ (.slice Ao29 t209.length co29 : Value).ownBlock) (.slice Ao35 t214.length co35) t214) := ⟨by (with_reducible repeat (first | apply Kd.R_alloc | apply Kd.R_drewN | apply Kd.R_drew)); exact Kd.R_mono (Kd.R_far (p := ⟨gb217, 0, none⟩) (Kd.R_types HO216.out BK217.out (by decide)) (fun _ hk => hk.2) (.slice Ao35 t214.length co35)) (fun _ hk => hk.1.2)⟩
  have n2_ : Aside0 ((w34.setCell ⟨gb217, 0, none⟩ (.slice Ao35 t214.length co35)).heap[gb200]? = some (.cells #[.slice A0_0 l0_0.length c0_0] 24 (0, 0))) := ⟨zf BK200.out⟩
  have n3_ : Aside0 ((w34.setCell ⟨gb217, 0, none⟩ (.slice Ao35 t214.length co35)).heap[gb201]? = some (.cells #[.int .i64 a1_0, .int .i64 a1_1, .int .i64 a1_2] 26 (0, 0))) := ⟨zf BK201.out⟩
  have n4_ : Aside0 ((w34.setCell ⟨gb217, 0, none⟩ (.slice Ao35 t214.length co35)).heap[gb213]? = some (.cells #[.slice Ao29 t209.length co29] 30 (0, 0))) := ⟨zf BK213.out⟩
  have n5_ : Aside0 ((w34.setCell ⟨gb217, 0, none⟩ (.slice Ao35 t214.length co35)).heap[gb217]? = some (.cells #[.slice Ao35 t214.length co35] 30 (0, 0))) := ⟨by (with_reducible repeat (first | refine blk_drewN ?_ _ | refine blk_drew ?_ | refine blk_alloc ?_ _)); refine blk_put (cs := #[.slice none 0 0]) ?_ 0 _ rfl; (with_reducible repeat (first | refine blk_drewN ?_ _ | refine blk_drew ?_ | refine blk_alloc ?_ _)); exact BK217.out⟩
  have n6_ : Aside0 (Below w.heap.size w (w34.setCell ⟨gb217, 0, none⟩ (.slice Ao35 t214.length co35))) := ⟨zb HB.out⟩
  (try clear HO211)
  (try clear HO216)
  (try clear BK200)
  (try clear BK201)
  (try clear BK213)
  (try clear BK217)
  (try clear HB)
  generalize (w34.setCell ⟨gb217, 0, none⟩ (.slice Ao35 t214.length co35)) = w40 at n0_ n1_ n2_ n3_ n4_ n5_ n6_ ⊢
  have HO211 := n0_
  have HO216 := n1_
  have BK200 := n2_
  have BK201 := n3_
  have BK213 := n4_
  have BK217 := n5_
  have HB := n6_
  clear n0_ n1_ n2_ n3_ n4_ n5_ n6_
  have n0_ := Aside0.mk (Kd.R_drew HO211.out)
  have n1_ := Aside0.mk (Kd.R_drew HO216.out)
  have n2_ := Aside0.mk (blk_drew BK200.out)
  have n3_ := Aside0.mk (blk_drew BK201.out)
  have n4_ := Aside0.mk (blk_drew BK213.out)
  have n5_ := Aside0.mk (blk_drew BK217.out)
  have n6_ := Aside0.mk (below_drew1 HB.out)
  clear HO211
  clear HO216
  clear BK200
  clear BK201
  clear BK213
  clear BK217
  clear HB
  have HO211 := n0_
  have HO216 := n1_
  have BK200 := n2_
  have BK201 := n3_
  have BK213 := n4_
  have BK217 := n5_
  have HB := n6_
  clear n0_ n1_ n2_ n3_ n4_ n5_ n6_
  refine start_ (n := 10) (S := fun w' => w'.cell? ⟨gb217, 0, none⟩ = some (.slice Ao35 t214.length co35) ∧ w'.cell? ⟨gb201, 0, none⟩ = some (.int .i64 a1_0) ∧ w'.cell? ⟨gb201, 1, none⟩ = some (.int .i64 a1_1) ∧ w'.cell? ⟨gb201, 2, none⟩ = some (.int .i64 a1_2)) (ds := []) #[false, false, false, false, false, false, false, false, false, false] (by kernel_rfl) rfl rfl ⟨(blk_cell BK217.out 0).trans rfl, (blk_cell BK201.out 0).trans rfl, (blk_cell BK201.out 1).trans rfl, (blk_cell BK201.out 2).trans rfl⟩ (fun hHeld => ?_); refine with_tabW laws_FnExactPoolAdd.tab7 laws_FnExactPoolAdd.bits7 (fun HT_ HW_ => ?_)
  generalize w40.drew = w41 at HO211 HO216 BK200 BK201 BK213 BK217 HB hHeld ⊢
  refine take_ (i := 0) (N := some 32) (v := ?_) (a' := ?_) #[true, false, false, false, false, false, false, false, false, false] rfl rfl (take_ofW HT_.out HW_.out (by kernel_rfl)) (fun _ _ _ h => h) (Or.inl ⟨by rfl, ?_⟩) hHeld ?_ ?_
  rotate_left
  ·rintro w' ⟨s0, s1, s2, s3⟩
   go_simp
   with_reducible rfl
  rotate_left
  ·simp only [Act.put, List.setIfInBounds_toArray, List.set_cons_zero, List.set_cons_succ, i64_w, i32_w]
   rfl
  refine take_ (i := 1) (N := some 33) (v := ?_) (a' := ?_) #[true, true, false, false, false, false, false, false, false, false] rfl rfl (take_ofW HT_.out HW_.out (by kernel_rfl)) (fun _ _ _ h => h) (Or.inl ⟨by rfl, ?_⟩) hHeld ?_ ?_
  rotate_left
  ·rintro w' ⟨s0, s1, s2, s3⟩
   go_simp
   with_reducible rfl
  rotate_left
  ·simp only [Act.put, List.setIfInBounds_toArray, List.set_cons_zero, List.set_cons_succ, i64_w, i32_w]
   rfl
  refine join_ (σ := Value × Nat) 2 #[true, true, true, true, true, true, true, true, false, false] (fun s_ => [(34, .agg #[.int .i64 t218, .int .i64 t219, .int .i64 t220]), (35, .tuple #[.agg #[s_.1], .int .i64 t224]), (9, .pointer (some ⟨s_.2, 0, none⟩)), (31, .tuple #[.agg #[s_.1], .int .i64 t224]), (36, .agg #[s_.1]), (37, .int .i64 t224)]) (fun s_ w' => (w'.cell? ⟨gb217, 0, none⟩ = some (.slice Ao35 t214.length co35) ∧ w'.cell? ⟨gb201, 0, none⟩ = some (.int .i64 a1_0) ∧ w'.cell? ⟨gb201, 1, none⟩ = some (.int .i64 a1_1) ∧ w'.cell? ⟨gb201, 2, none⟩ = some (.int .i64 a1_2)) ∧ (Kd.R k34 34 w' w.heap.size (fun k_ => some k_ ≠ (.slice Ao35 t214.length co35 : Value).ownBlock ∧ some k_ ≠ (s_.1 : Value).ownBlock) (.slice Ao29 t209.length co29) t209) ∧ (Kd.R k34 34 w' w.heap.size (fun k_ => some k_ ≠ (.slice Ao29 t209.length co29 : Value).ownBlock ∧ some k_ ≠ (s_.1 : Value).ownBlock) (.slice Ao35 t214.length co35) t214) ∧ (Kd.R k34 34 w' w.heap.size (fun k_ => some k_ ≠ (.slice Ao29 t209.length co29 : Value).ownBlock ∧ some k_ ≠ (.slice Ao35 t214.length co35 : Value).ownBlock) s_.1 t221) ∧ (w'.heap[gb200]? = some (.cells #[.slice A0_0 l0_0.length c0_0] 24 (0, 0))) ∧ (w'.heap[gb201]? = some (.cells #[.int .i64 a1_0, .int .i64 a1_1, .int .i64 a1_2] 26 (0, 0))) ∧ (w'.heap[gb213]? = some (.cells #[.slice Ao29 t209.length co29] 30 (0, 0))) ∧ (w'.heap[gb217]? = some (.cells #[.slice Ao35 t214.length co35] 30 (0, 0))) ∧ (w'.heap[s_.2]? = some (.cells #[.slice none 0 0] 30 (0, 0))) ∧ (w.heap.size ≤ s_.2) ∧ (w.heap.size ≤ s_.2) ∧ (gb200 ≠ s_.2) ∧ (s_.2 ≠ gb200) ∧ (gb201 ≠ s_.2) ∧ (s_.2 ≠ gb201) ∧ (gb213 ≠ s_.2) ∧ (s_.2 ≠ gb213) ∧ (gb217 ≠ s_.2) ∧ (s_.2 ≠ gb217) ∧ (Below w.heap.size w w')) ?_ ?_
  rotate_left
  ·intro hCont
   refine two_ (i := 2) (j := 7) (Ni := some 34) (Nj := some 9) #[true, true, true, false, false, false, false, false, false, false] #[true, true, false, false, false, false, false, true, false, false] rfl rfl rfl rfl (two_of HT_.out (by kernel_rfl)) (by decide) (by decide) (fun K hK => ?_) (fun K hK => ?_)
   ·skip
    refine goes_ Try.func18 (by kernel_rfl) rfl #[.agg #[.int .i64 a1_0, .int .i64 a1_1, .int .i64 a1_2]] (by rfl) rfl rfl zl ?_
    with_reducible refine (laws_toNode.calls a1_0 a1_1 a1_2 t218 t219 t220 _ A14.out).mono ?_
    rintro e w42 ⟨rfl, hb⟩
    refine ⟨_, rfl, ?_⟩
    have n0_ := Aside0.mk (Kd.R_below (zr HO211.out) hb)
    have n1_ := Aside0.mk (Kd.R_below (zr HO216.out) hb)
    have n2_ := Aside0.mk (blk_below (zh BK200.out) hb)
    have n3_ := Aside0.mk (blk_below (zh BK201.out) hb)
    have n4_ := Aside0.mk (blk_below (zh BK213.out) hb)
    have n5_ := Aside0.mk (blk_below (zh BK217.out) hb)
    have n6_ := Aside0.mk (below_step (zb HB.out) hb)
    clear HO211
    clear HO216
    clear BK200
    clear BK201
    clear BK213
    clear BK217
    clear HB
    have HO211 := n0_
    have HO216 := n1_
    have BK200 := n2_
    have BK201 := n3_
    have BK213 := n4_
    have BK217 := n5_
    have HB := n6_
    clear n0_ n1_ n2_ n3_ n4_ n5_ n6_
    (try clear hb)
    (try clear hb2)
    (try clear hk)
    (try clear hi)
    refine hK.out _ _ ⟨(blk_cell BK217.out 0).trans rfl, (blk_cell BK201.out 0).trans rfl, (blk_cell BK201.out 1).trans rfl, (blk_cell BK201.out 2).trans rfl⟩ (fun hHeld => ?_)
    clear hK K
    refine norm_ (a' := ?_) ?_ ?_
    rotate_left
    ·show Act.put _ (some 34) _ = _
     simp only [Act.put, List.setIfInBounds_toArray, List.set_cons_zero, List.set_cons_succ, i64_w, i32_w]
     rfl
    refine two_ (i := 3) (j := 7) (Ni := some 35) (Nj := some 9) #[true, true, true, true, false, false, false, false, false, false] #[true, true, true, false, false, false, false, true, false, false] rfl rfl rfl rfl (two_of HT_.out (by kernel_rfl)) (by decide) (by decide) (fun K hK => ?_) (fun K hK => ?_)
    ·skip
     refine goes_ Try.func19 (by kernel_rfl) rfl #[.agg #[.slice Ao35 t214.length co35], .agg #[.int .i64 t218, .int .i64 t219, .int .i64 t220]] (by rfl) rfl rfl zl ?_
     with_reducible refine (impl_PoolAdd.calls k _ _ t214 t218 t219 t220 t221 t224 _ ?side1 ?side2 A15.out).mono ?_
     (case side1 => exact zc (Kd.R_reads' HO216.out).2.2)
     (case side2 => exact (Kd.R_reads' HO216.out).2.1)
     rintro e w43 ⟨v222, rfl, ho0, hb⟩
     refine ⟨_, rfl, ?_⟩
     have n0_ := Aside0.mk (Kd.R_elder' (zr HO211.out) (Kd.R_base ho0) hb)
     have n1_ := Aside0.mk (Kd.R_elder' (zr HO216.out) (Kd.R_base ho0) hb)
     have n2_ := Aside0.mk (Kd.R_lower (Kd.R_new' (Kd.R_new' ho0 (Kd.R_lt (zr HO211.out))) (Kd.R_lt (zr HO216.out))) (below_size (zb HB.out)))
     have n3_ := Aside0.mk (blk_below (zh BK200.out) hb)
     have n4_ := Aside0.mk (blk_below (zh BK201.out) hb)
     have n5_ := Aside0.mk (blk_below (zh BK213.out) hb)
     have n6_ := Aside0.mk (blk_below (zh BK217.out) hb)
     have n7_ := Aside0.mk (below_step (zb HB.out) hb)
     clear HO211
     clear HO216
     clear BK200
     clear BK201
     clear BK213
     clear BK217
     clear HB
     have HO211 := n0_
     have HO216 := n1_
     have HO223 := n2_
     have BK200 := n3_
     have BK201 := n4_
     have BK213 := n5_
     have BK217 := n6_
     have HB := n7_
     clear n0_ n1_ n2_ n3_ n4_ n5_ n6_ n7_
     (try clear hb)
     (try clear hb2)
     (try clear hk)
     (try clear hi)
     (try clear ho0)
     refine hK.out _ _ ⟨(blk_cell BK217.out 0).trans rfl, (blk_cell BK201.out 0).trans rfl, (blk_cell BK201.out 1).trans rfl, (blk_cell BK201.out 2).trans rfl⟩ (fun hHeld => ?_)
     clear hK K
     refine norm_ (a' := ?_) ?_ ?_
     rotate_left
     ·show Act.put _ (some 35) _ = _
      simp only [Act.put, List.setIfInBounds_toArray, List.set_cons_zero, List.set_cons_succ, i64_w, i32_w]
      rfl
     refine pure_ (i := 4) (N := some 31) (v := ?_) (a' := ?_) #[true, true, true, true, true, false, false, false, false, false] rfl rfl (any_of HT_.out (by kernel_rfl)) (fun _ _ _ h => h) (Or.inl ⟨by rfl, ?_⟩) ?_ ?_
     rotate_left
     ·intro w'
      go_simp
      with_reducible rfl
     rotate_left
     ·simp only [Act.put, List.setIfInBounds_toArray, List.set_cons_zero, List.set_cons_succ, i64_w, i32_w]
      rfl
     refine pure_ (i := 5) (N := some 36) (v := ?_) (a' := ?_) #[true, true, true, true, true, true, false, false, false, false] rfl rfl (any_of HT_.out (by kernel_rfl)) (fun _ _ _ h => h) (Or.inl ⟨by rfl, ?_⟩) ?_ ?_
     rotate_left
     ·intro w'
      go_simp
      with_reducible rfl
     rotate_left
     ·simp only [Act.put, List.setIfInBounds_toArray, List.set_cons_zero, List.set_cons_succ, i64_w, i32_w]
      rfl
     refine pure_ (i := 6) (N := some 37) (v := ?_) (a' := ?_) #[true, true, true, true, true, true, true, false, false, false] rfl rfl (any_of HT_.out (by kernel_rfl)) (fun _ _ _ h => h) (Or.inl ⟨by rfl, ?_⟩) ?_ ?_
     rotate_left
     ·intro w'
      go_simp
      with_reducible rfl
     rotate_left
     ·simp only [Act.put, List.setIfInBounds_toArray, List.set_cons_zero, List.set_cons_succ, i64_w, i32_w]
      rfl
     refine one_ (i := 7) (N := some 9) #[true, true, true, true, true, true, true, true, false, false] rfl rfl (one_of HT_.out (by kernel_rfl)) (by decide) (fun K hK => ?_)
     refine box_step ?hg (N := 9) ?hd (cs := #[.slice none 0 0]) (t := 30) ?hr ?_; (case hd => rfl); (case hg => rfl); (case hr => first | (go_simp; done) | (go_simp; rfl))
     intro gb225 hg w44 hbox hb
     have n0_ := Aside0.mk (Kd.R_below (zr HO211.out) hb)
     have n1_ := Aside0.mk (Kd.R_below (zr HO216.out) hb)
     have n2_ := Aside0.mk (Kd.R_below (zr HO223.out) hb)
     have n3_ := Aside0.mk (blk_below (zh BK200.out) hb)
     have n4_ := Aside0.mk (blk_below (zh BK201.out) hb)
     have n5_ := Aside0.mk (blk_below (zh BK213.out) hb)
     have n6_ := Aside0.mk (blk_below (zh BK217.out) hb)
     have n7_ := Aside0.mk (below_step (zb HB.out) hb)
     have n8_ := Aside0.mk (hbox)
     have n9_ := Aside0.mk ((by rw [hg]; exact (below_size (zb HB.out)) : w.heap.size ≤ gb225))
     have n10_ := Aside0.mk ((by rw [hg]; exact (below_size (zb HB.out)) : w.heap.size ≤ gb225))
     have n11_ := Aside0.mk ((by rw [hg]; exact Nat.ne_of_lt (blk_lt (zh BK200.out)) : gb200 ≠ gb225))
     have n12_ := Aside0.mk ((by rw [hg]; exact Nat.ne_of_gt (blk_lt (zh BK200.out)) : gb225 ≠ gb200))
     have n13_ := Aside0.mk ((by rw [hg]; exact Nat.ne_of_lt (blk_lt (zh BK201.out)) : gb201 ≠ gb225))
     have n14_ := Aside0.mk ((by rw [hg]; exact Nat.ne_of_gt (blk_lt (zh BK201.out)) : gb225 ≠ gb201))
     have n15_ := Aside0.mk ((by rw [hg]; exact Nat.ne_of_lt (blk_lt (zh BK213.out)) : gb213 ≠ gb225))
     have n16_ := Aside0.mk ((by rw [hg]; exact Nat.ne_of_gt (blk_lt (zh BK213.out)) : gb225 ≠ gb213))
     have n17_ := Aside0.mk ((by rw [hg]; exact Nat.ne_of_lt (blk_lt (zh BK217.out)) : gb217 ≠ gb225))
     have n18_ := Aside0.mk ((by rw [hg]; exact Nat.ne_of_gt (blk_lt (zh BK217.out)) : gb225 ≠ gb217))
     clear HO211
     clear HO216
     clear HO223
     clear BK200
     clear BK201
     clear BK213
     clear BK217
     clear HB
     have HO211 := n0_
     have HO216 := n1_
     have HO223 := n2_
     have BK200 := n3_
     have BK201 := n4_
     have BK213 := n5_
     have BK217 := n6_
     have HB := n7_
     have BK225 := n8_
     have GW225 := n9_
     have GE225 := n10_
     have NB200_225 := n11_
     have NB225_200 := n12_
     have NB201_225 := n13_
     have NB225_201 := n14_
     have NB213_225 := n15_
     have NB225_213 := n16_
     have NB217_225 := n17_
     have NB225_217 := n18_
     clear n0_ n1_ n2_ n3_ n4_ n5_ n6_ n7_ n8_ n9_ n10_ n11_ n12_ n13_ n14_ n15_ n16_ n17_ n18_
     clear hb hbox hg
     refine hK.out _ _ ⟨(blk_cell BK217.out 0).trans rfl, (blk_cell BK201.out 0).trans rfl, (blk_cell BK201.out 1).trans rfl, (blk_cell BK201.out 2).trans rfl⟩ (fun hHeld => ?_)
     clear hK K
     refine norm_ (a' := ?_) ?_ ?_
     rotate_left
     ·show Act.put _ (some 9) _ = _
      simp only [Act.put, List.setIfInBounds_toArray, List.set_cons_zero, List.set_cons_succ, i64_w, i32_w]
      rfl
     exact norm_ (by simp only [putAll, Act.put, List.setIfInBounds_toArray, List.set_cons_zero, List.set_cons_succ]) (hCont (v222, gb225) _ ⟨hHeld, (zr HO211.out), (zr HO216.out), (by (with_reducible repeat (first | apply Kd.R_alloc | apply Kd.R_drewN | apply Kd.R_drew)); exact Kd.R_mono HO223.out (fun _ hk => ⟨hk.1.2, hk.2⟩)), (zh BK200.out), (zh BK201.out), (zh BK213.out), (zh BK217.out), (zh BK225.out), GW225.out, GE225.out, NB200_225.out, NB225_200.out, NB201_225.out, NB225_201.out, NB213_225.out, NB225_213.out, NB217_225.out, NB225_217.out, (zb HB.out)⟩)
    ·skip
     refine box_step ?hg (N := 9) ?hd (cs := #[.slice none 0 0]) (t := 30) ?hr ?_; (case hd => rfl); (case hg => rfl); (case hr => first | (go_simp; done) | (go_simp; rfl))
     intro gb225 hg w43 hbox hb
     have n0_ := Aside0.mk (Kd.R_below (zr HO211.out) hb)
     have n1_ := Aside0.mk (Kd.R_below (zr HO216.out) hb)
     have n2_ := Aside0.mk (blk_below (zh BK200.out) hb)
     have n3_ := Aside0.mk (blk_below (zh BK201.out) hb)
     have n4_ := Aside0.mk (blk_below (zh BK213.out) hb)
     have n5_ := Aside0.mk (blk_below (zh BK217.out) hb)
     have n6_ := Aside0.mk (below_step (zb HB.out) hb)
     have n7_ := Aside0.mk (hbox)
     have n8_ := Aside0.mk ((by rw [hg]; exact (below_size (zb HB.out)) : w.heap.size ≤ gb225))
     have n9_ := Aside0.mk ((by rw [hg]; exact (below_size (zb HB.out)) : w.heap.size ≤ gb225))
     have n10_ := Aside0.mk ((by rw [hg]; exact Nat.ne_of_lt (blk_lt (zh BK200.out)) : gb200 ≠ gb225))
     have n11_ := Aside0.mk ((by rw [hg]; exact Nat.ne_of_gt (blk_lt (zh BK200.out)) : gb225 ≠ gb200))
     have n12_ := Aside0.mk ((by rw [hg]; exact Nat.ne_of_lt (blk_lt (zh BK201.out)) : gb201 ≠ gb225))
     have n13_ := Aside0.mk ((by rw [hg]; exact Nat.ne_of_gt (blk_lt (zh BK201.out)) : gb225 ≠ gb201))
     have n14_ := Aside0.mk ((by rw [hg]; exact Nat.ne_of_lt (blk_lt (zh BK213.out)) : gb213 ≠ gb225))
     have n15_ := Aside0.mk ((by rw [hg]; exact Nat.ne_of_gt (blk_lt (zh BK213.out)) : gb225 ≠ gb213))
     have n16_ := Aside0.mk ((by rw [hg]; exact Nat.ne_of_lt (blk_lt (zh BK217.out)) : gb217 ≠ gb225))
     have n17_ := Aside0.mk ((by rw [hg]; exact Nat.ne_of_gt (blk_lt (zh BK217.out)) : gb225 ≠ gb217))
     clear HO211
     clear HO216
     clear BK200
     clear BK201
     clear BK213
     clear BK217
     clear HB
     have HO211 := n0_
     have HO216 := n1_
     have BK200 := n2_
     have BK201 := n3_
     have BK213 := n4_
     have BK217 := n5_
     have HB := n6_
     have BK225 := n7_
     have GW225 := n8_
     have GE225 := n9_
     have NB200_225 := n10_
     have NB225_200 := n11_
     have NB201_225 := n12_
     have NB225_201 := n13_
     have NB213_225 := n14_
     have NB225_213 := n15_
     have NB217_225 := n16_
     have NB225_217 := n17_
     clear n0_ n1_ n2_ n3_ n4_ n5_ n6_ n7_ n8_ n9_ n10_ n11_ n12_ n13_ n14_ n15_ n16_ n17_
     clear hb hbox hg
     refine hK.out _ _ ⟨(blk_cell BK217.out 0).trans rfl, (blk_cell BK201.out 0).trans rfl, (blk_cell BK201.out 1).trans rfl, (blk_cell BK201.out 2).trans rfl⟩ (fun hHeld => ?_)
     clear hK K
     refine norm_ (a' := ?_) ?_ ?_
     rotate_left
     ·show Act.put _ (some 9) _ = _
      simp only [Act.put, List.setIfInBounds_toArray, List.set_cons_zero, List.set_cons_succ, i64_w, i32_w]
      rfl
     refine one_ (i := 3) (N := some 35) #[true, true, true, true, false, false, false, true, false, false] rfl rfl (one_of HT_.out (by kernel_rfl)) (by decide) (fun K hK => ?_)
     refine goes_ Try.func19 (by kernel_rfl) rfl #[.agg #[.slice Ao35 t214.length co35], .agg #[.int .i64 t218, .int .i64 t219, .int .i64 t220]] (by rfl) rfl rfl zl ?_
     with_reducible refine (impl_PoolAdd.calls k _ _ t214 t218 t219 t220 t221 t224 _ ?side1 ?side2 A15.out).mono ?_
     (case side1 => exact zc (Kd.R_reads' HO216.out).2.2)
     (case side2 => exact (Kd.R_reads' HO216.out).2.1)
     rintro e w44 ⟨v222, rfl, ho0, hb⟩
     refine ⟨_, rfl, ?_⟩
     have n0_ := Aside0.mk (Kd.R_elder' (zr HO211.out) (Kd.R_base ho0) hb)
     have n1_ := Aside0.mk (Kd.R_elder' (zr HO216.out) (Kd.R_base ho0) hb)
     have n2_ := Aside0.mk (Kd.R_lower (Kd.R_new' (Kd.R_new' ho0 (Kd.R_lt (zr HO211.out))) (Kd.R_lt (zr HO216.out))) (below_size (zb HB.out)))
     have n3_ := Aside0.mk (blk_below (zh BK200.out) hb)
     have n4_ := Aside0.mk (blk_below (zh BK201.out) hb)
     have n5_ := Aside0.mk (blk_below (zh BK213.out) hb)
     have n6_ := Aside0.mk (blk_below (zh BK217.out) hb)
     have n7_ := Aside0.mk (blk_below (zh BK225.out) hb)
     have n8_ := Aside0.mk (below_step (zb HB.out) hb)
     clear HO211
     clear HO216
     clear BK200
     clear BK201
     clear BK213
     clear BK217
     clear BK225
     clear HB
     have HO211 := n0_
     have HO216 := n1_
     have HO223 := n2_
     have BK200 := n3_
     have BK201 := n4_
     have BK213 := n5_
     have BK217 := n6_
     have BK225 := n7_
     have HB := n8_
     clear n0_ n1_ n2_ n3_ n4_ n5_ n6_ n7_ n8_
     (try clear hb)
     (try clear hb2)
     (try clear hk)
     (try clear hi)
     (try clear ho0)
     refine hK.out _ _ ⟨(blk_cell BK217.out 0).trans rfl, (blk_cell BK201.out 0).trans rfl, (blk_cell BK201.out 1).trans rfl, (blk_cell BK201.out 2).trans rfl⟩ (fun hHeld => ?_)
     clear hK K
     refine norm_ (a' := ?_) ?_ ?_
     rotate_left
     ·show Act.put _ (some 35) _ = _
      simp only [Act.put, List.setIfInBounds_toArray, List.set_cons_zero, List.set_cons_succ, i64_w, i32_w]
      rfl
     refine pure_ (i := 4) (N := some 31) (v := ?_) (a' := ?_) #[true, true, true, true, true, false, false, true, false, false] rfl rfl (any_of HT_.out (by kernel_rfl)) (fun _ _ _ h => h) (Or.inl ⟨by rfl, ?_⟩) ?_ ?_
     rotate_left
     ·intro w'
      go_simp
      with_reducible rfl
     rotate_left
     ·simp only [Act.put, List.setIfInBounds_toArray, List.set_cons_zero, List.set_cons_succ, i64_w, i32_w]
      rfl
     refine pure_ (i := 5) (N := some 36) (v := ?_) (a' := ?_) #[true, true, true, true, true, true, false, true, false, false] rfl rfl (any_of HT_.out (by kernel_rfl)) (fun _ _ _ h => h) (Or.inl ⟨by rfl, ?_⟩) ?_ ?_
     rotate_left
     ·intro w'
      go_simp
      with_reducible rfl
     rotate_left
     ·simp only [Act.put, List.setIfInBounds_toArray, List.set_cons_zero, List.set_cons_succ, i64_w, i32_w]
      rfl
     refine pure_ (i := 6) (N := some 37) (v := ?_) (a' := ?_) #[true, true, true, true, true, true, true, true, false, false] rfl rfl (any_of HT_.out (by kernel_rfl)) (fun _ _ _ h => h) (Or.inl ⟨by rfl, ?_⟩) ?_ ?_
     rotate_left
     ·intro w'
      go_simp
      with_reducible rfl
     rotate_left
     ·simp only [Act.put, List.setIfInBounds_toArray, List.set_cons_zero, List.set_cons_succ, i64_w, i32_w]
      rfl
     exact norm_ (by simp only [putAll, Act.put, List.setIfInBounds_toArray, List.set_cons_zero, List.set_cons_succ]) (hCont (v222, gb225) _ ⟨hHeld, (zr HO211.out), (zr HO216.out), (by (with_reducible repeat (first | apply Kd.R_alloc | apply Kd.R_drewN | apply Kd.R_drew)); exact Kd.R_mono HO223.out (fun _ hk => ⟨hk.1.2, hk.2⟩)), (zh BK200.out), (zh BK201.out), (zh BK213.out), (zh BK217.out), (zh BK225.out), GW225.out, GE225.out, NB200_225.out, NB225_200.out, NB201_225.out, NB225_201.out, NB213_225.out, NB225_213.out, NB217_225.out, NB225_217.out, (zb HB.out)⟩)
   ·skip
    refine box_step ?hg (N := 9) ?hd (cs := #[.slice none 0 0]) (t := 30) ?hr ?_; (case hd => rfl); (case hg => rfl); (case hr => first | (go_simp; done) | (go_simp; rfl))
    intro gb225 hg w42 hbox hb
    have n0_ := Aside0.mk (Kd.R_below (zr HO211.out) hb)
    have n1_ := Aside0.mk (Kd.R_below (zr HO216.out) hb)
    have n2_ := Aside0.mk (blk_below (zh BK200.out) hb)
    have n3_ := Aside0.mk (blk_below (zh BK201.out) hb)
    have n4_ := Aside0.mk (blk_below (zh BK213.out) hb)
    have n5_ := Aside0.mk (blk_below (zh BK217.out) hb)
    have n6_ := Aside0.mk (below_step (zb HB.out) hb)
    have n7_ := Aside0.mk (hbox)
    have n8_ := Aside0.mk ((by rw [hg]; exact (below_size (zb HB.out)) : w.heap.size ≤ gb225))
    have n9_ := Aside0.mk ((by rw [hg]; exact (below_size (zb HB.out)) : w.heap.size ≤ gb225))
    have n10_ := Aside0.mk ((by rw [hg]; exact Nat.ne_of_lt (blk_lt (zh BK200.out)) : gb200 ≠ gb225))
    have n11_ := Aside0.mk ((by rw [hg]; exact Nat.ne_of_gt (blk_lt (zh BK200.out)) : gb225 ≠ gb200))
    have n12_ := Aside0.mk ((by rw [hg]; exact Nat.ne_of_lt (blk_lt (zh BK201.out)) : gb201 ≠ gb225))
    have n13_ := Aside0.mk ((by rw [hg]; exact Nat.ne_of_gt (blk_lt (zh BK201.out)) : gb225 ≠ gb201))
    have n14_ := Aside0.mk ((by rw [hg]; exact Nat.ne_of_lt (blk_lt (zh BK213.out)) : gb213 ≠ gb225))
    have n15_ := Aside0.mk ((by rw [hg]; exact Nat.ne_of_gt (blk_lt (zh BK213.out)) : gb225 ≠ gb213))
    have n16_ := Aside0.mk ((by rw [hg]; exact Nat.ne_of_lt (blk_lt (zh BK217.out)) : gb217 ≠ gb225))
    have n17_ := Aside0.mk ((by rw [hg]; exact Nat.ne_of_gt (blk_lt (zh BK217.out)) : gb225 ≠ gb217))
    clear HO211
    clear HO216
    clear BK200
    clear BK201
    clear BK213
    clear BK217
    clear HB
    have HO211 := n0_
    have HO216 := n1_
    have BK200 := n2_
    have BK201 := n3_
    have BK213 := n4_
    have BK217 := n5_
    have HB := n6_
    have BK225 := n7_
    have GW225 := n8_
    have GE225 := n9_
    have NB200_225 := n10_
    have NB225_200 := n11_
    have NB201_225 := n12_
    have NB225_201 := n13_
    have NB213_225 := n14_
    have NB225_213 := n15_
    have NB217_225 := n16_
    have NB225_217 := n17_
    clear n0_ n1_ n2_ n3_ n4_ n5_ n6_ n7_ n8_ n9_ n10_ n11_ n12_ n13_ n14_ n15_ n16_ n17_
    clear hb hbox hg
    refine hK.out _ _ ⟨(blk_cell BK217.out 0).trans rfl, (blk_cell BK201.out 0).trans rfl, (blk_cell BK201.out 1).trans rfl, (blk_cell BK201.out 2).trans rfl⟩ (fun hHeld => ?_)
    clear hK K
    refine norm_ (a' := ?_) ?_ ?_
    rotate_left
    ·show Act.put _ (some 9) _ = _
     simp only [Act.put, List.setIfInBounds_toArray, List.set_cons_zero, List.set_cons_succ, i64_w, i32_w]
     rfl
    refine one_ (i := 2) (N := some 34) #[true, true, true, false, false, false, false, true, false, false] rfl rfl (one_of HT_.out (by kernel_rfl)) (by decide) (fun K hK => ?_)
    refine goes_ Try.func18 (by kernel_rfl) rfl #[.agg #[.int .i64 a1_0, .int .i64 a1_1, .int .i64 a1_2]] (by rfl) rfl rfl zl ?_
    with_reducible refine (laws_toNode.calls a1_0 a1_1 a1_2 t218 t219 t220 _ A14.out).mono ?_
    rintro e w43 ⟨rfl, hb⟩
    refine ⟨_, rfl, ?_⟩
    have n0_ := Aside0.mk (Kd.R_below (zr HO211.out) hb)
    have n1_ := Aside0.mk (Kd.R_below (zr HO216.out) hb)
    have n2_ := Aside0.mk (blk_below (zh BK200.out) hb)
    have n3_ := Aside0.mk (blk_below (zh BK201.out) hb)
    have n4_ := Aside0.mk (blk_below (zh BK213.out) hb)
    have n5_ := Aside0.mk (blk_below (zh BK217.out) hb)
    have n6_ := Aside0.mk (blk_below (zh BK225.out) hb)
    have n7_ := Aside0.mk (below_step (zb HB.out) hb)
    clear HO211
    clear HO216
    clear BK200
    clear BK201
    clear BK213
    clear BK217
    clear BK225
    clear HB
    have HO211 := n0_
    have HO216 := n1_
    have BK200 := n2_
    have BK201 := n3_
    have BK213 := n4_
    have BK217 := n5_
    have BK225 := n6_
    have HB := n7_
    clear n0_ n1_ n2_ n3_ n4_ n5_ n6_ n7_
    (try clear hb)
    (try clear hb2)
    (try clear hk)
    (try clear hi)
    refine hK.out _ _ ⟨(blk_cell BK217.out 0).trans rfl, (blk_cell BK201.out 0).trans rfl, (blk_cell BK201.out 1).trans rfl, (blk_cell BK201.out 2).trans rfl⟩ (fun hHeld => ?_)
    clear hK K
    refine norm_ (a' := ?_) ?_ ?_
    rotate_left
    ·show Act.put _ (some 34) _ = _
     simp only [Act.put, List.setIfInBounds_toArray, List.set_cons_zero, List.set_cons_succ, i64_w, i32_w]
     rfl
    refine one_ (i := 3) (N := some 35) #[true, true, true, true, false, false, false, true, false, false] rfl rfl (one_of HT_.out (by kernel_rfl)) (by decide) (fun K hK => ?_)
    refine goes_ Try.func19 (by kernel_rfl) rfl #[.agg #[.slice Ao35 t214.length co35], .agg #[.int .i64 t218, .int .i64 t219, .int .i64 t220]] (by rfl) rfl rfl zl ?_
    with_reducible refine (impl_PoolAdd.calls k _ _ t214 t218 t219 t220 t221 t224 _ ?side1 ?side2 A15.out).mono ?_
    (case side1 => exact zc (Kd.R_reads' HO216.out).2.2)
    (case side2 => exact (Kd.R_reads' HO216.out).2.1)
    rintro e w44 ⟨v222, rfl, ho0, hb⟩
    refine ⟨_, rfl, ?_⟩
    have n0_ := Aside0.mk (Kd.R_elder' (zr HO211.out) (Kd.R_base ho0) hb)
    have n1_ := Aside0.mk (Kd.R_elder' (zr HO216.out) (Kd.R_base ho0) hb)
    have n2_ := Aside0.mk (Kd.R_lower (Kd.R_new' (Kd.R_new' ho0 (Kd.R_lt (zr HO211.out))) (Kd.R_lt (zr HO216.out))) (below_size (zb HB.out)))
    have n3_ := Aside0.mk (blk_below (zh BK200.out) hb)
    have n4_ := Aside0.mk (blk_below (zh BK201.out) hb)
    have n5_ := Aside0.mk (blk_below (zh BK213.out) hb)
    have n6_ := Aside0.mk (blk_below (zh BK217.out) hb)
    have n7_ := Aside0.mk (blk_below (zh BK225.out) hb)
    have n8_ := Aside0.mk (below_step (zb HB.out) hb)
    clear HO211
    clear HO216
    clear BK200
    clear BK201
    clear BK213
    clear BK217
    clear BK225
    clear HB
    have HO211 := n0_
    have HO216 := n1_
    have HO223 := n2_
    have BK200 := n3_
    have BK201 := n4_
    have BK213 := n5_
    have BK217 := n6_
    have BK225 := n7_
    have HB := n8_
    clear n0_ n1_ n2_ n3_ n4_ n5_ n6_ n7_ n8_
    (try clear hb)
    (try clear hb2)
    (try clear hk)
    (try clear hi)
    (try clear ho0)
    refine hK.out _ _ ⟨(blk_cell BK217.out 0).trans rfl, (blk_cell BK201.out 0).trans rfl, (blk_cell BK201.out 1).trans rfl, (blk_cell BK201.out 2).trans rfl⟩ (fun hHeld => ?_)
    clear hK K
    refine norm_ (a' := ?_) ?_ ?_
    rotate_left
    ·show Act.put _ (some 35) _ = _
     simp only [Act.put, List.setIfInBounds_toArray, List.set_cons_zero, List.set_cons_succ, i64_w, i32_w]
     rfl
    refine pure_ (i := 4) (N := some 31) (v := ?_) (a' := ?_) #[true, true, true, true, true, false, false, true, false, false] rfl rfl (any_of HT_.out (by kernel_rfl)) (fun _ _ _ h => h) (Or.inl ⟨by rfl, ?_⟩) ?_ ?_
    rotate_left
    ·intro w'
     go_simp
     with_reducible rfl
    rotate_left
    ·simp only [Act.put, List.setIfInBounds_toArray, List.set_cons_zero, List.set_cons_succ, i64_w, i32_w]
     rfl
    refine pure_ (i := 5) (N := some 36) (v := ?_) (a' := ?_) #[true, true, true, true, true, true, false, true, false, false] rfl rfl (any_of HT_.out (by kernel_rfl)) (fun _ _ _ h => h) (Or.inl ⟨by rfl, ?_⟩) ?_ ?_
    rotate_left
    ·intro w'
     go_simp
     with_reducible rfl
    rotate_left
    ·simp only [Act.put, List.setIfInBounds_toArray, List.set_cons_zero, List.set_cons_succ, i64_w, i32_w]
     rfl
    refine pure_ (i := 6) (N := some 37) (v := ?_) (a' := ?_) #[true, true, true, true, true, true, true, true, false, false] rfl rfl (any_of HT_.out (by kernel_rfl)) (fun _ _ _ h => h) (Or.inl ⟨by rfl, ?_⟩) ?_ ?_
    rotate_left
    ·intro w'
     go_simp
     with_reducible rfl
    rotate_left
    ·simp only [Act.put, List.setIfInBounds_toArray, List.set_cons_zero, List.set_cons_succ, i64_w, i32_w]
     rfl
    exact norm_ (by simp only [putAll, Act.put, List.setIfInBounds_toArray, List.set_cons_zero, List.set_cons_succ]) (hCont (v222, gb225) _ ⟨hHeld, (zr HO211.out), (zr HO216.out), (by (with_reducible repeat (first | apply Kd.R_alloc | apply Kd.R_drewN | apply Kd.R_drew)); exact Kd.R_mono HO223.out (fun _ hk => ⟨hk.1.2, hk.2⟩)), (zh BK200.out), (zh BK201.out), (zh BK213.out), (zh BK217.out), (zh BK225.out), GW225.out, GE225.out, NB200_225.out, NB225_200.out, NB201_225.out, NB225_201.out, NB213_225.out, NB225_213.out, NB217_225.out, NB225_217.out, (zb HB.out)⟩)
  rintro ⟨v222, gb225⟩ w45 ⟨hS_, h0_, h1_, h2_, h3_, h4_, h5_, h6_, h7_, h8_, h9_, h10_, h11_, h12_, h13_, h14_, h15_, h16_, h17_, h18_⟩
  have n0_ : Aside0 (Kd.R k34 34 w45 w.heap.size (fun k_ => some k_ ≠ (.slice Ao35 t214.length co35 : Value).ownBlock ∧ some k_ ≠ (v222 : Value).ownBlock) (.slice Ao29 t209.length co29) t209) := ⟨h0_⟩
  have n1_ : Aside0 (Kd.R k34 34 w45 w.heap.size (fun k_ => some k_ ≠ (.slice Ao29 t209.length co29 : Value).ownBlock ∧ some k_ ≠ (v222 : Value).ownBlock) (.slice Ao35 t214.length co35) t214) := ⟨h1_⟩
  have n2_ : Aside0 (Kd.R k34 34 w45 w.heap.size (fun k_ => some k_ ≠ (.slice Ao29 t209.length co29 : Value).ownBlock ∧ some k_ ≠ (.slice Ao35 t214.length co35 : Value).ownBlock) v222 t221) := ⟨h2_⟩
  have n3_ : Aside0 (w45.heap[gb200]? = some (.cells #[.slice A0_0 l0_0.length c0_0] 24 (0, 0))) := ⟨h3_⟩
  have n4_ : Aside0 (w45.heap[gb201]? = some (.cells #[.int .i64 a1_0, .int .i64 a1_1, .int .i64 a1_2] 26 (0, 0))) := ⟨h4_⟩
  have n5_ : Aside0 (w45.heap[gb213]? = some (.cells #[.slice Ao29 t209.length co29] 30 (0, 0))) := ⟨h5_⟩
  have n6_ : Aside0 (w45.heap[gb217]? = some (.cells #[.slice Ao35 t214.length co35] 30 (0, 0))) := ⟨h6_⟩
  have n7_ : Aside0 (w45.heap[gb225]? = some (.cells #[.slice none 0 0] 30 (0, 0))) := ⟨h7_⟩
  have n8_ : Aside0 (w.heap.size ≤ gb225) := ⟨h8_⟩
  have n9_ : Aside0 (w.heap.size ≤ gb225) := ⟨h9_⟩
  have n10_ : Aside0 (gb200 ≠ gb225) := ⟨h10_⟩
  have n11_ : Aside0 (gb225 ≠ gb200) := ⟨h11_⟩
  have n12_ : Aside0 (gb201 ≠ gb225) := ⟨h12_⟩
  have n13_ : Aside0 (gb225 ≠ gb201) := ⟨h13_⟩
  have n14_ : Aside0 (gb213 ≠ gb225) := ⟨h14_⟩
  have n15_ : Aside0 (gb225 ≠ gb213) := ⟨h15_⟩
  have n16_ : Aside0 (gb217 ≠ gb225) := ⟨h16_⟩
  have n17_ : Aside0 (gb225 ≠ gb217) := ⟨h17_⟩
  have n18_ : Aside0 (Below w.heap.size w w45) := ⟨h18_⟩
  clear HO211
  clear HO216
  clear BK200
  clear BK201
  clear BK213
  clear BK217
  clear HB
  clear h0_ h1_ h2_ h3_ h4_ h5_ h6_ h7_ h8_ h9_ h10_ h11_ h12_ h13_ h14_ h15_ h16_ h17_ h18_
  have HO211 := n0_
  have HO216 := n1_
  have HO223 := n2_
  have BK200 := n3_
  have BK201 := n4_
  have BK213 := n5_
  have BK217 := n6_
  have BK225 := n7_
  have GW225 := n8_
  have GE225 := n9_
  have NB200_225 := n10_
  have NB225_200 := n11_
  have NB201_225 := n12_
  have NB225_201 := n13_
  have NB213_225 := n14_
  have NB225_213 := n15_
  have NB217_225 := n16_
  have NB225_217 := n17_
  have HB := n18_
  clear n0_ n1_ n2_ n3_ n4_ n5_ n6_ n7_ n8_ n9_ n10_ n11_ n12_ n13_ n14_ n15_ n16_ n17_ n18_
  have hHeld : w45.cell? ⟨gb217, 0, none⟩ = some (.slice Ao35 t214.length co35) ∧ w45.cell? ⟨gb201, 0, none⟩ = some (.int .i64 a1_0) ∧ w45.cell? ⟨gb201, 1, none⟩ = some (.int .i64 a1_1) ∧ w45.cell? ⟨gb201, 2, none⟩ = some (.int .i64 a1_2) := hS_
  obtain ⟨Ao46, co46, eo46⟩ := Kd.R_slice HO223.out
  (first | subst eo46 | (injection eo46 with f1_ f2_ f3_; have f4_ := f1_.symm; have f5_ := f3_.symm; clear f1_ f2_ f3_; subst f4_; subst f5_))
  refine norm_ (a' := ?_) ?_ ?_
  rotate_left
  ·simp only [putAll, Act.put, List.setIfInBounds_toArray, List.set_cons_zero, List.set_cons_succ]
   rfl
  refine one_ (i := 8) (N := none) #[true, true, true, true, true, true, true, true, true, false] rfl rfl (one_of HT_.out (by kernel_rfl)) (by decide) (fun K hK => ?_)
  have hs47 : w45.cell? ⟨gb225, 0, none⟩ = some (.slice none 0 0) := (blk_cell BK225.out 0).trans rfl
  have hfs47 := blk_frozen BK225.out 0
  have hns47_0 := NB200_225.out
  have hns47_1 := NB201_225.out
  have hns47_2 := NB213_225.out
  have hns47_3 := NB217_225.out
  have hms47_0 := NB225_200.out
  have hms47_1 := NB225_201.out
  have hms47_2 := NB225_213.out
  have hms47_3 := NB225_217.out
  refine skip_ (w1 := ?_) (by rfl) rfl ?_ ?_
  rotate_left
  ·go_simp
   rfl
  refine hK.out _ _ ⟨((cell_far (p := ⟨gb225, _, none⟩) NB217_225.out _).trans (hHeld.1)), ((cell_far (p := ⟨gb225, _, none⟩) NB201_225.out _).trans (hHeld.2.1)), ((cell_far (p := ⟨gb225, _, none⟩) NB201_225.out _).trans (hHeld.2.2.1)), ((cell_far (p := ⟨gb225, _, none⟩) NB201_225.out _).trans (hHeld.2.2.2))⟩ (fun hHeld => ?_)
  clear hK K
  refine pure_ (i := 9) (N := some 10) (v := ?_) (a' := ?_) #[true, true, true, true, true, true, true, true, true, true] rfl rfl (any_of HT_.out (by kernel_rfl)) (fun _ _ _ h => h) (Or.inl ⟨by rfl, ?_⟩) ?_ ?_
  rotate_left
  ·intro w'
   go_simp
   with_reducible rfl
  rotate_left
  ·simp only [Act.put, List.setIfInBounds_toArray, List.set_cons_zero, List.set_cons_succ, i64_w, i32_w]
   rfl
  refine done_ (done_of HT_.out (by kernel_rfl)) ?_
  go_upto_region 8 with (fail)
  go_cut [46] (fun v46 wc => ∃ (kq : Nat) (x46_15 : Bool), v46 = .bool x46_15 ∧ Aside0 (laws_FnExactPoolAdd.j0 kq t212 t224 x46_15 l0_0 a1_0 a1_1 a1_2 t209 t214 t221 = some r) ∧ Aside0 (kq ≤ k) ∧ Aside0 (Kd.R k34 34 wc w.heap.size (fun k_ => some k_ ≠ ((.slice Ao35 t214.length co35) : Value).ownBlock ∧ some k_ ≠ ((.slice Ao46 t221.length co46) : Value).ownBlock) (.slice Ao29 t209.length co29) t209) ∧ Aside0 (Kd.R k34 34 wc w.heap.size (fun k_ => some k_ ≠ ((.slice Ao29 t209.length co29) : Value).ownBlock ∧ some k_ ≠ ((.slice Ao46 t221.length co46) : Value).ownBlock) (.slice Ao35 t214.length co35) t214) ∧ Aside0 (Kd.R k34 34 wc w.heap.size (fun k_ => some k_ ≠ ((.slice Ao29 t209.length co29) : Value).ownBlock ∧ some k_ ≠ ((.slice Ao35 t214.length co35) : Value).ownBlock) (.slice Ao46 t221.length co46) t221) ∧ Aside0 (wc.heap[gb200]? = some (.cells #[(.slice A0_0 l0_0.length c0_0)] 24 (0, 0))) ∧ Aside0 (wc.heap[gb201]? = some (.cells #[.int .i64 a1_0, .int .i64 a1_1, .int .i64 a1_2] 26 (0, 0))) ∧ Aside0 (wc.heap[gb213]? = some (.cells #[(.slice Ao29 t209.length co29)] 30 (0, 0))) ∧ Aside0 (wc.heap[gb217]? = some (.cells #[(.slice Ao35 t214.length co35)] 30 (0, 0))) ∧ Aside0 (wc.heap[gb225]? = some (.cells #[(.slice Ao46 t221.length co46)] 30 (0, 0))) ∧ Aside0 (Below w.heap.size w wc))
  case first =>
   have H := HC16.out
   clear HC16
   replace H := Option.bind_eq_some_iff.mp H
   obtain ⟨t226, A480, H⟩ := H
   replace H : (if t226 = true then (laws_FnExactPoolAdd.j0 k t212 t224 (t224 != t212) l0_0 a1_0 a1_1 a1_2 t209 t214 t221) else (laws_FnExactPoolAdd.j0 k t212 t224 true l0_0 a1_0 a1_1 a1_2 t209 t214 t221)) = some r := H
   have A48 := Aside0.mk A480
   clear A480
   by_cases c49 : t226 = true
   ·subst c49
    have H1 : (laws_FnExactPoolAdd.j0 k t212 t224 (t224 != t212) l0_0 a1_0 a1_1 a1_2 t209 t214 t221) = some r := by rw [if_pos rfl] at H; exact H
    clear H
    have H := H1
    clear H1
    have H' := Aside0.mk H
    clear H
    have hnb50 := NB225_200.out
    have hnc50 := NB200_225.out
    have hnb51 := NB225_201.out
    have hnc51 := NB201_225.out
    have hnb52 := NB225_213.out
    have hnc52 := NB213_225.out
    have hnb53 := NB225_217.out
    have hnc53 := NB217_225.out
    have hcz54_0 : w45.cell? ⟨gb225, 0, none⟩ = some (.slice none 0 0) := (blk_cell BK225.out 0).trans rfl
    have hfz54_0 := blk_frozen BK225.out 0
    have hnb55 := NB213_200.out
    have hnc55 := NB200_213.out
    have hnb56 := NB213_201.out
    have hnc56 := NB201_213.out
    have hnb57 := NB213_217.out
    have hnc57 := NB217_213.out
    have hcz58_0 : w45.cell? ⟨gb213, 0, none⟩ = some (.slice Ao29 t209.length co29) := (blk_cell BK213.out 0).trans rfl
    have hfz58_0 := blk_frozen BK213.out 0
    go_wp2_with (first | ((with_reducible refine gate_callee (f := 20) rfl ?_); refine goesL_ (some 40) rfl rfl Try.func20 (by kernel_rfl) rfl #[.agg #[.slice Ao46 t221.length co46], .agg #[.slice Ao29 t209.length co29]] rfl zl ?_; (with_reducible refine (laws_eqPool.calls k _ _ t221 _ _ t209 true _ ?side1 ?side2 ?side3 ?side4 A48.out).mono ?_); (case side1 => refine (Kd.R_reads' (e := 34) (base := w.heap.size) (ok := fun k_ => (some k_ ≠ (.slice Ao29 t209.length co29 : Value).ownBlock ∧ some k_ ≠ (.slice Ao35 t214.length co35 : Value).ownBlock)) (n := t221.length) (c := co46) ?_).2.2; exact (by (with_reducible repeat (first | apply Kd.R_alloc | apply Kd.R_drewN | apply Kd.R_drew)); exact (Kd.R_mono (Kd.R_far (p := ⟨gb225, 0, none⟩) (Kd.R_types HO223.out BK225.out (by decide)) (fun _ hk => hk.2) (.slice Ao46 t221.length co46)) (fun _ h_ => h_.1)))); (case side2 => exact (Kd.R_reads' HO223.out).2.1); (case side3 => refine (Kd.R_reads' (e := 34) (base := w.heap.size) (ok := fun k_ => (some k_ ≠ (.slice Ao35 t214.length co35 : Value).ownBlock ∧ some k_ ≠ (.slice Ao46 t221.length co46 : Value).ownBlock)) (n := t209.length) (c := co29) ?_).2.2; exact (by (with_reducible repeat (first | apply Kd.R_alloc | apply Kd.R_drewN | apply Kd.R_drew)); exact (Kd.R_mono (Kd.R_far (p := ⟨gb225, 0, none⟩) (Kd.R_types HO211.out BK225.out (by decide)) (fun _ hk => hk.2) (.slice Ao46 t221.length co46)) (fun _ h_ => h_.1)))); (case side4 => exact (Kd.R_reads' HO211.out).2.1); rintro e w59 ⟨rfl, hb⟩; refine ⟨_, rfl, ?_⟩; have n0_ := Aside0.mk (Kd.R_below (by (with_reducible repeat (first | apply Kd.R_alloc | apply Kd.R_drewN | apply Kd.R_drew)); exact (Kd.R_mono (Kd.R_far (p := ⟨gb225, 0, none⟩) (Kd.R_types HO211.out BK225.out (by decide)) (fun _ hk => hk.2) (.slice Ao46 t221.length co46)) (fun _ h_ => h_.1))) hb); have n1_ := Aside0.mk (Kd.R_below (by (with_reducible repeat (first | apply Kd.R_alloc | apply Kd.R_drewN | apply Kd.R_drew)); exact (Kd.R_mono (Kd.R_far (p := ⟨gb225, 0, none⟩) (Kd.R_types HO216.out BK225.out (by decide)) (fun _ hk => hk.2) (.slice Ao46 t221.length co46)) (fun _ h_ => h_.1))) hb); have n2_ := Aside0.mk (Kd.R_below (by (with_reducible repeat (first | apply Kd.R_alloc | apply Kd.R_drewN | apply Kd.R_drew)); exact (Kd.R_mono (Kd.R_far (p := ⟨gb225, 0, none⟩) (Kd.R_types HO223.out BK225.out (by decide)) (fun _ hk => hk.2) (.slice Ao46 t221.length co46)) (fun _ h_ => h_.1))) hb); have n3_ := Aside0.mk (blk_below (g := gb200) (o := .cells #[.slice A0_0 l0_0.length c0_0] 24 (0, 0)) (zf BK200.out) hb); have n4_ := Aside0.mk (blk_below (g := gb201) (o := .cells #[.int .i64 a1_0, .int .i64 a1_1, .int .i64 a1_2] 26 (0, 0)) (zf BK201.out) hb); have n5_ := Aside0.mk (blk_below (g := gb213) (o := .cells #[.slice Ao29 t209.length co29] 30 (0, 0)) (zf BK213.out) hb); have n6_ := Aside0.mk (blk_below (g := gb217) (o := .cells #[.slice Ao35 t214.length co35] 30 (0, 0)) (zf BK217.out) hb); have n7_ := Aside0.mk (blk_below (g := gb225) (o := .cells #[.slice Ao46 t221.length co46] 30 (0, 0)) (by (with_reducible repeat (first | refine blk_drewN ?_ _ | refine blk_drew ?_ | refine blk_alloc ?_ _)); refine blk_put (cs := #[.slice none 0 0]) ?_ 0 _ rfl; (with_reducible repeat (first | refine blk_drewN ?_ _ | refine blk_drew ?_ | refine blk_alloc ?_ _)); exact BK225.out) hb); have n8_ := Aside0.mk (below_step (zb HB.out) hb); clear HO211; clear HO216; clear HO223; clear BK200; clear BK201; clear BK213; clear BK217; clear BK225; clear HB; have HO211 := n0_; have HO216 := n1_; have HO223 := n2_; have BK200 := n3_; have BK201 := n4_; have BK213 := n5_; have BK217 := n6_; have BK225 := n7_; have HB := n8_; clear n0_ n1_ n2_ n3_ n4_ n5_ n6_ n7_ n8_; (try clear hb); (try clear hb2); (try clear hk); (try clear hi)))
    go_meet
    case rel => exact ⟨_, ((t224 != t212)), (by first | rfl | (simp; done) | (simp [*]; done)), H', ⟨by first | omega | exact Nat.le_refl _⟩, ⟨zr HO211.out⟩, ⟨zr HO216.out⟩, ⟨zr HO223.out⟩, ⟨zh BK200.out⟩, ⟨zh BK201.out⟩, ⟨zh BK213.out⟩, ⟨zh BK217.out⟩, ⟨zh BK225.out⟩, ⟨zb HB.out⟩⟩
   ·replace c49 := Bool.eq_false_iff.mpr c49
    subst c49
    have H1 : (laws_FnExactPoolAdd.j0 k t212 t224 true l0_0 a1_0 a1_1 a1_2 t209 t214 t221) = some r := by rw [if_neg (show ¬ (false = true) by decide)] at H; exact H
    clear H
    have H := H1
    clear H1
    have H' := Aside0.mk H
    clear H
    have hnb60 := NB225_200.out
    have hnc60 := NB200_225.out
    have hnb61 := NB225_201.out
    have hnc61 := NB201_225.out
    have hnb62 := NB225_213.out
    have hnc62 := NB213_225.out
    have hnb63 := NB225_217.out
    have hnc63 := NB217_225.out
    have hcz64_0 : w45.cell? ⟨gb225, 0, none⟩ = some (.slice none 0 0) := (blk_cell BK225.out 0).trans rfl
    have hfz64_0 := blk_frozen BK225.out 0
    have hnb65 := NB213_200.out
    have hnc65 := NB200_213.out
    have hnb66 := NB213_201.out
    have hnc66 := NB201_213.out
    have hnb67 := NB213_217.out
    have hnc67 := NB217_213.out
    have hcz68_0 : w45.cell? ⟨gb213, 0, none⟩ = some (.slice Ao29 t209.length co29) := (blk_cell BK213.out 0).trans rfl
    have hfz68_0 := blk_frozen BK213.out 0
    go_wp2_with (first | ((with_reducible refine gate_callee (f := 20) rfl ?_); refine goesL_ (some 40) rfl rfl Try.func20 (by kernel_rfl) rfl #[.agg #[.slice Ao46 t221.length co46], .agg #[.slice Ao29 t209.length co29]] rfl zl ?_; (with_reducible refine (laws_eqPool.calls k _ _ t221 _ _ t209 false _ ?side1 ?side2 ?side3 ?side4 A48.out).mono ?_); (case side1 => refine (Kd.R_reads' (e := 34) (base := w.heap.size) (ok := fun k_ => (some k_ ≠ (.slice Ao29 t209.length co29 : Value).ownBlock ∧ some k_ ≠ (.slice Ao35 t214.length co35 : Value).ownBlock)) (n := t221.length) (c := co46) ?_).2.2; exact (by (with_reducible repeat (first | apply Kd.R_alloc | apply Kd.R_drewN | apply Kd.R_drew)); exact (Kd.R_mono (Kd.R_far (p := ⟨gb225, 0, none⟩) (Kd.R_types HO223.out BK225.out (by decide)) (fun _ hk => hk.2) (.slice Ao46 t221.length co46)) (fun _ h_ => h_.1)))); (case side2 => exact (Kd.R_reads' HO223.out).2.1); (case side3 => refine (Kd.R_reads' (e := 34) (base := w.heap.size) (ok := fun k_ => (some k_ ≠ (.slice Ao35 t214.length co35 : Value).ownBlock ∧ some k_ ≠ (.slice Ao46 t221.length co46 : Value).ownBlock)) (n := t209.length) (c := co29) ?_).2.2; exact (by (with_reducible repeat (first | apply Kd.R_alloc | apply Kd.R_drewN | apply Kd.R_drew)); exact (Kd.R_mono (Kd.R_far (p := ⟨gb225, 0, none⟩) (Kd.R_types HO211.out BK225.out (by decide)) (fun _ hk => hk.2) (.slice Ao46 t221.length co46)) (fun _ h_ => h_.1)))); (case side4 => exact (Kd.R_reads' HO211.out).2.1); rintro e w69 ⟨rfl, hb⟩; refine ⟨_, rfl, ?_⟩; have n0_ := Aside0.mk (Kd.R_below (by (with_reducible repeat (first | apply Kd.R_alloc | apply Kd.R_drewN | apply Kd.R_drew)); exact (Kd.R_mono (Kd.R_far (p := ⟨gb225, 0, none⟩) (Kd.R_types HO211.out BK225.out (by decide)) (fun _ hk => hk.2) (.slice Ao46 t221.length co46)) (fun _ h_ => h_.1))) hb); have n1_ := Aside0.mk (Kd.R_below (by (with_reducible repeat (first | apply Kd.R_alloc | apply Kd.R_drewN | apply Kd.R_drew)); exact (Kd.R_mono (Kd.R_far (p := ⟨gb225, 0, none⟩) (Kd.R_types HO216.out BK225.out (by decide)) (fun _ hk => hk.2) (.slice Ao46 t221.length co46)) (fun _ h_ => h_.1))) hb); have n2_ := Aside0.mk (Kd.R_below (by (with_reducible repeat (first | apply Kd.R_alloc | apply Kd.R_drewN | apply Kd.R_drew)); exact (Kd.R_mono (Kd.R_far (p := ⟨gb225, 0, none⟩) (Kd.R_types HO223.out BK225.out (by decide)) (fun _ hk => hk.2) (.slice Ao46 t221.length co46)) (fun _ h_ => h_.1))) hb); have n3_ := Aside0.mk (blk_below (g := gb200) (o := .cells #[.slice A0_0 l0_0.length c0_0] 24 (0, 0)) (zf BK200.out) hb); have n4_ := Aside0.mk (blk_below (g := gb201) (o := .cells #[.int .i64 a1_0, .int .i64 a1_1, .int .i64 a1_2] 26 (0, 0)) (zf BK201.out) hb); have n5_ := Aside0.mk (blk_below (g := gb213) (o := .cells #[.slice Ao29 t209.length co29] 30 (0, 0)) (zf BK213.out) hb); have n6_ := Aside0.mk (blk_below (g := gb217) (o := .cells #[.slice Ao35 t214.length co35] 30 (0, 0)) (zf BK217.out) hb); have n7_ := Aside0.mk (blk_below (g := gb225) (o := .cells #[.slice Ao46 t221.length co46] 30 (0, 0)) (by (with_reducible repeat (first | refine blk_drewN ?_ _ | refine blk_drew ?_ | refine blk_alloc ?_ _)); refine blk_put (cs := #[.slice none 0 0]) ?_ 0 _ rfl; (with_reducible repeat (first | refine blk_drewN ?_ _ | refine blk_drew ?_ | refine blk_alloc ?_ _)); exact BK225.out) hb); have n8_ := Aside0.mk (below_step (zb HB.out) hb); clear HO211; clear HO216; clear HO223; clear BK200; clear BK201; clear BK213; clear BK217; clear BK225; clear HB; have HO211 := n0_; have HO216 := n1_; have HO223 := n2_; have BK200 := n3_; have BK201 := n4_; have BK213 := n5_; have BK217 := n6_; have BK225 := n7_; have HB := n8_; clear n0_ n1_ n2_ n3_ n4_ n5_ n6_ n7_ n8_; (try clear hb); (try clear hb2); (try clear hk); (try clear hi)))
    go_meet
    case rel => exact ⟨_, (true), (by first | rfl | (simp; done) | (simp [*]; done)), H', ⟨by first | omega | exact Nat.le_refl _⟩, ⟨zr HO211.out⟩, ⟨zr HO216.out⟩, ⟨zr HO223.out⟩, ⟨zh BK200.out⟩, ⟨zh BK201.out⟩, ⟨zh BK213.out⟩, ⟨zh BK217.out⟩, ⟨zh BK225.out⟩, ⟨zb HB.out⟩⟩
  case rest =>
   clear HC16
   try clear c1
   try clear c2
   try clear p2
   try clear c4
   try clear c5
   try clear c6
   try clear c18
   try clear c19
   try clear c20
   try clear c49
   try clear c50
   try clear c51
   try clear c52
   try clear c53
   try clear c55
   try clear c56
   try clear c57
   try clear c60
   try clear c61
   try clear c62
   try clear c63
   try clear c65
   try clear c66
   try clear c67
   try clear hcz54_0
   try clear hcz58_0
   try clear hcz64_0
   try clear hcz68_0
   try clear hfz54_0
   try clear hfz58_0
   try clear hfz64_0
   try clear hfz68_0
   obtain ⟨kq, x46_15, rfl, HA, HJ15, HO_214000, HO_218000, HO_226000, BK200, BK201, BK213, BK217, BK225, HB⟩ := hcut
   cases kq with
   | zero => exact absurd HA.out (by simp [laws_FnExactPoolAdd.j0])
   | succ kj15 =>
    have H := HA.out
    clear HA
    simp only [laws_FnExactPoolAdd.j0] at H
    by_cases c70 : x46_15 = true
    ·subst c70
     have H1 : (some false) = some r := by rw [if_pos rfl] at H; exact H
     clear H
     have H := H1
     clear H1
     obtain rfl := Option.some.inj H
     go_wp2
     go_ret
     exact ⟨ze, zb HB.out⟩
    ·replace c70 := Bool.eq_false_iff.mpr c70
     subst c70
     have H1 : ((laws_toPool.f kj15 l0_0).bind fun t227 => ((laws_eqPool.f kj15 t214 t227).bind fun t230 => (if t230 = true then ((laws_markPool.f kj15 t214 1).bind fun bt231 => (if bt231.1 < 0 then (laws_FnExactPoolAdd.j1 kj15 t212 true l0_0 a1_0 a1_1 a1_2 t209 t221) else ((laws_eqPool.f kj15 t221 t209).bind fun t233 => (if t233 = true then (laws_FnExactPoolAdd.j1 kj15 t212 (t224 != t212) l0_0 a1_0 a1_1 a1_2 t209 t221) else (laws_FnExactPoolAdd.j1 kj15 t212 true l0_0 a1_0 a1_1 a1_2 t209 t221))))) else (some false)))) = some r := by rw [if_neg (show ¬ (false = true) by decide)] at H; exact H
     clear H
     have H := H1
     clear H1
     replace H := Option.bind_eq_some_iff.mp H
     obtain ⟨t227, A710, H⟩ := H
     replace H : ((laws_eqPool.f kj15 t214 t227).bind fun t230 => (if t230 = true then ((laws_markPool.f kj15 t214 1).bind fun bt231 => (if bt231.1 < 0 then (laws_FnExactPoolAdd.j1 kj15 t212 true l0_0 a1_0 a1_1 a1_2 t209 t221) else ((laws_eqPool.f kj15 t221 t209).bind fun t233 => (if t233 = true then (laws_FnExactPoolAdd.j1 kj15 t212 (t224 != t212) l0_0 a1_0 a1_1 a1_2 t209 t221) else (laws_FnExactPoolAdd.j1 kj15 t212 true l0_0 a1_0 a1_1 a1_2 t209 t221))))) else (some false))) = some r := H
     have A71 := Aside0.mk A710
     clear A710
     replace H := Option.bind_eq_some_iff.mp H
     obtain ⟨t230, A720, H⟩ := H
     replace H : (if t230 = true then ((laws_markPool.f kj15 t214 1).bind fun bt231 => (if bt231.1 < 0 then (laws_FnExactPoolAdd.j1 kj15 t212 true l0_0 a1_0 a1_1 a1_2 t209 t221) else ((laws_eqPool.f kj15 t221 t209).bind fun t233 => (if t233 = true then (laws_FnExactPoolAdd.j1 kj15 t212 (t224 != t212) l0_0 a1_0 a1_1 a1_2 t209 t221) else (laws_FnExactPoolAdd.j1 kj15 t212 true l0_0 a1_0 a1_1 a1_2 t209 t221))))) else (some false)) = some r := H
     have A72 := Aside0.mk A720
     clear A720
     by_cases c73 : t230 = true
     ·subst c73
      have H1 : ((laws_markPool.f kj15 t214 1).bind fun bt231 => (if bt231.1 < 0 then (laws_FnExactPoolAdd.j1 kj15 t212 true l0_0 a1_0 a1_1 a1_2 t209 t221) else ((laws_eqPool.f kj15 t221 t209).bind fun t233 => (if t233 = true then (laws_FnExactPoolAdd.j1 kj15 t212 (t224 != t212) l0_0 a1_0 a1_1 a1_2 t209 t221) else (laws_FnExactPoolAdd.j1 kj15 t212 true l0_0 a1_0 a1_1 a1_2 t209 t221))))) = some r := by rw [if_pos rfl] at H; exact H
      clear H
      have H := H1
      clear H1
      replace H := Option.bind_eq_some_iff.mp H
      obtain ⟨⟨t231, t232⟩, A740, H⟩ := H
      replace H : (if t231 < 0 then (laws_FnExactPoolAdd.j1 kj15 t212 true l0_0 a1_0 a1_1 a1_2 t209 t221) else ((laws_eqPool.f kj15 t221 t209).bind fun t233 => (if t233 = true then (laws_FnExactPoolAdd.j1 kj15 t212 (t224 != t212) l0_0 a1_0 a1_1 a1_2 t209 t221) else (laws_FnExactPoolAdd.j1 kj15 t212 true l0_0 a1_0 a1_1 a1_2 t209 t221)))) = some r := H
      have A74 := Aside0.mk A740
      clear A740
      have HC75 := Aside0.mk H
      clear H
      try go_wp2
      have n0_ := Aside0.mk (Kd.R_drew HO_214000.out)
      have n1_ := Aside0.mk (Kd.R_drew HO_218000.out)
      have n2_ := Aside0.mk (Kd.R_drew HO_226000.out)
      have n3_ := Aside0.mk (blk_drew BK200.out)
      have n4_ := Aside0.mk (blk_drew BK201.out)
      have n5_ := Aside0.mk (blk_drew BK213.out)
      have n6_ := Aside0.mk (blk_drew BK217.out)
      have n7_ := Aside0.mk (blk_drew BK225.out)
      have n8_ := Aside0.mk (below_drew1 HB.out)
      clear HO_214000
      clear HO_218000
      clear HO_226000
      clear BK200
      clear BK201
      clear BK213
      clear BK217
      clear BK225
      clear HB
      have HO_214000 := n0_
      have HO_218000 := n1_
      have HO_226000 := n2_
      have BK200 := n3_
      have BK201 := n4_
      have BK213 := n5_
      have BK217 := n6_
      have BK225 := n7_
      have HB := n8_
      clear n0_ n1_ n2_ n3_ n4_ n5_ n6_ n7_ n8_
      refine start_ (n := 5) (S := fun w' => w'.cell? ⟨gb217, 0, none⟩ = some (.slice Ao35 t214.length co35) ∧ w'.cell? ⟨gb200, 0, none⟩ = some (.slice A0_0 l0_0.length c0_0)) (ds := []) #[false, false, false, false, false] (by kernel_rfl) rfl rfl ⟨(blk_cell BK217.out 0).trans rfl, (blk_cell BK200.out 0).trans rfl⟩ (fun hHeld => ?_)
      generalize wc.drew = w76 at HO_214000 HO_218000 HO_226000 BK200 BK201 BK213 BK217 BK225 HB hHeld ⊢
      refine take_ (i := 0) (N := some 47) (v := ?_) (a' := ?_) #[true, false, false, false, false] rfl rfl (by kernel_rfl) (fun _ _ _ h => h) (Or.inl ⟨by rfl, ?_⟩) hHeld ?_ ?_
      rotate_left
      ·rintro w' ⟨s0, s1⟩
       go_simp
       with_reducible rfl
      rotate_left
      ·simp only [Act.put, List.setIfInBounds_toArray, List.set_cons_zero, List.set_cons_succ, i64_w, i32_w]
       rfl
      refine take_ (i := 1) (N := some 48) (v := ?_) (a' := ?_) #[true, true, false, false, false] rfl rfl (by kernel_rfl) (fun _ _ _ h => h) (Or.inl ⟨by rfl, ?_⟩) hHeld ?_ ?_
      rotate_left
      ·rintro w' ⟨s0, s1⟩
       go_simp
       with_reducible rfl
      rotate_left
      ·simp only [Act.put, List.setIfInBounds_toArray, List.set_cons_zero, List.set_cons_succ, i64_w, i32_w]
       rfl
      refine one_ (i := 2) (N := some 49) #[true, true, true, false, false] rfl rfl (by kernel_rfl) (by decide) (fun K hK => ?_)
      refine goes_ Try.func17 (by kernel_rfl) rfl #[.agg #[.slice A0_0 l0_0.length c0_0]] (by rfl) rfl rfl zl ?_
      with_reducible refine (laws_toPool.calls kj15 _ _ l0_0 t227 _ ?side1 ?side2 A71.out).mono ?_
      (case side1 => exact zc (Kd.C_below HR0_0.out HB.out))
      (case side2 => exact HC0_0.out)
      rintro e w77 ⟨v228, rfl, ho0, hb⟩
      refine ⟨_, rfl, ?_⟩
      have n0_ := Aside0.mk (Kd.R_elder' (zr HO_214000.out) (Kd.R_base ho0) hb)
      have n1_ := Aside0.mk (Kd.R_elder' (zr HO_218000.out) (Kd.R_base ho0) hb)
      have n2_ := Aside0.mk (Kd.R_elder' (zr HO_226000.out) (Kd.R_base ho0) hb)
      have n3_ := Aside0.mk (Kd.R_lower (Kd.R_new' (Kd.R_new' (Kd.R_new' ho0 (Kd.R_lt (zr HO_214000.out))) (Kd.R_lt (zr HO_218000.out))) (Kd.R_lt (zr HO_226000.out))) (below_size (zb HB.out)))
      have n4_ := Aside0.mk (blk_below (zh BK200.out) hb)
      have n5_ := Aside0.mk (blk_below (zh BK201.out) hb)
      have n6_ := Aside0.mk (blk_below (zh BK213.out) hb)
      have n7_ := Aside0.mk (blk_below (zh BK217.out) hb)
      have n8_ := Aside0.mk (blk_below (zh BK225.out) hb)
      have n9_ := Aside0.mk (below_step (zb HB.out) hb)
      clear HO_214000
      clear HO_218000
      clear HO_226000
      clear BK200
      clear BK201
      clear BK213
      clear BK217
      clear BK225
      clear HB
      have HO_214000 := n0_
      have HO_218000 := n1_
      have HO_226000 := n2_
      have HO229 := n3_
      have BK200 := n4_
      have BK201 := n5_
      have BK213 := n6_
      have BK217 := n7_
      have BK225 := n8_
      have HB := n9_
      clear n0_ n1_ n2_ n3_ n4_ n5_ n6_ n7_ n8_ n9_
      (try clear hb)
      (try clear hb2)
      (try clear hk)
      (try clear hi)
      (try clear ho0)
      obtain ⟨Ao78, co78, eo78⟩ := Kd.R_slice HO229.out
      (first | subst eo78 | (injection eo78 with f1_ f2_ f3_; have f4_ := f1_.symm; have f5_ := f3_.symm; clear f1_ f2_ f3_; subst f4_; subst f5_))
      refine hK.out _ _ ⟨(blk_cell BK217.out 0).trans rfl, (blk_cell BK200.out 0).trans rfl⟩ (fun hHeld => ?_)
      clear hK K
      refine norm_ (a' := ?_) ?_ ?_
      rotate_left
      ·show Act.put _ (some 49) _ = _
       simp only [Act.put, List.setIfInBounds_toArray, List.set_cons_zero, List.set_cons_succ, i64_w, i32_w]
       rfl
      refine one_ (i := 3) (N := some 50) #[true, true, true, true, false] rfl rfl (by kernel_rfl) (by decide) (fun K hK => ?_)
      refine goes_ Try.func20 (by kernel_rfl) rfl #[.agg #[.slice Ao35 t214.length co35], .agg #[.slice Ao78 t227.length co78]] (by rfl) rfl rfl zl ?_
      with_reducible refine (laws_eqPool.calls kj15 _ _ t214 _ _ t227 true _ ?side1 ?side2 ?side3 ?side4 A72.out).mono ?_
      (case side1 => exact zc (Kd.R_reads' HO_218000.out).2.2)
      (case side2 => exact (Kd.R_reads' HO_218000.out).2.1)
      (case side3 => exact zc (Kd.R_reads' HO229.out).2.2)
      (case side4 => exact (Kd.R_reads' HO229.out).2.1)
      rintro e w79 ⟨rfl, hb⟩
      refine ⟨_, rfl, ?_⟩
      have n0_ := Aside0.mk (Kd.R_below (zr HO_214000.out) hb)
      have n1_ := Aside0.mk (Kd.R_below (zr HO_218000.out) hb)
      have n2_ := Aside0.mk (Kd.R_below (zr HO_226000.out) hb)
      have n3_ := Aside0.mk (Kd.R_below (zr HO229.out) hb)
      have n4_ := Aside0.mk (blk_below (zh BK200.out) hb)
      have n5_ := Aside0.mk (blk_below (zh BK201.out) hb)
      have n6_ := Aside0.mk (blk_below (zh BK213.out) hb)
      have n7_ := Aside0.mk (blk_below (zh BK217.out) hb)
      have n8_ := Aside0.mk (blk_below (zh BK225.out) hb)
      have n9_ := Aside0.mk (below_step (zb HB.out) hb)
      clear HO_214000
      clear HO_218000
      clear HO_226000
      clear HO229
      clear BK200
      clear BK201
      clear BK213
      clear BK217
      clear BK225
      clear HB
      have HO_214000 := n0_
      have HO_218000 := n1_
      have HO_226000 := n2_
      have HO229 := n3_
      have BK200 := n4_
      have BK201 := n5_
      have BK213 := n6_
      have BK217 := n7_
      have BK225 := n8_
      have HB := n9_
      clear n0_ n1_ n2_ n3_ n4_ n5_ n6_ n7_ n8_ n9_
      (try clear hb)
      (try clear hb2)
      (try clear hk)
      (try clear hi)
      refine hK.out _ _ ⟨(blk_cell BK217.out 0).trans rfl, (blk_cell BK200.out 0).trans rfl⟩ (fun hHeld => ?_)
      clear hK K
      refine norm_ (a' := ?_) ?_ ?_
      rotate_left
      ·show Act.put _ (some 50) _ = _
       simp only [Act.put, List.setIfInBounds_toArray, List.set_cons_zero, List.set_cons_succ, i64_w, i32_w]
       rfl
      refine pure_ (i := 4) (N := some 51) (v := ?_) (a' := ?_) #[true, true, true, true, true] rfl rfl (by kernel_rfl) (fun _ _ _ h => h) (Or.inl ⟨by rfl, ?_⟩) ?_ ?_
      rotate_left
      ·intro w'
       go_simp
       with_reducible rfl
      rotate_left
      ·simp only [Act.put, List.setIfInBounds_toArray, List.set_cons_zero, List.set_cons_succ, i64_w, i32_w]
       rfl
      refine done_ (by kernel_rfl) ?_
      have hnb80 := NB217_200.out
      have hnc80 := NB200_217.out
      have hnb81 := NB217_201.out
      have hnc81 := NB201_217.out
      have hnb82 := NB217_213.out
      have hnc82 := NB213_217.out
      have hnb83 := NB217_225.out
      have hnc83 := NB225_217.out
      have hcz84_0 : w79.cell? ⟨gb217, 0, none⟩ = some (.slice Ao35 t214.length co35) := (blk_cell BK217.out 0).trans rfl
      have hfz84_0 := blk_frozen BK217.out 0
      go_upto_region 14 with (first | ((with_reducible refine gate_callee (f := 21) rfl ?_); refine goesL_ (some 54) rfl rfl Try.func21 (by kernel_rfl) rfl #[.agg #[.slice Ao35 t214.length co35], .int .i64 1] rfl zl ?_; (with_reducible refine (laws_markPool.calls kj15 (fun k_ => some k_ = (.slice Ao35 t214.length co35 : Value).ownBlock) (.slice Ao35 t214.length co35) t214 1 t231 t232 w _ ?side1 ?side2 A74.out).mono ?_); (case side1 => repeat (first | (with_reducible first | exact HB.out | apply below_alloc | apply pw_below_drewN | apply below_drew1 | refine below_set ?_ GE200.out | refine below_set ?_ GE201.out | refine below_set ?_ GE213.out | refine below_set ?_ GE217.out | refine below_set ?_ GE225.out) | exact HB.out)); (case side2 => exact Kd.R_tight rfl HO_218000.out); rintro e w85 ⟨rfl, hy0, hb, hkp⟩; refine ⟨_, rfl, ?_⟩; have n0_ := Aside0.mk (Kd.R_mono (ok' := fun k_ => some k_ ≠ (.slice Ao35 t214.length co35 : Value).ownBlock ∧ some k_ ≠ (.slice Ao46 t221.length co46 : Value).ownBlock ∧ some k_ ≠ (.slice Ao78 t227.length co78 : Value).ownBlock) (Kd.R_keptB (HO_214000.out) hkp (fun k_ hk_ hs_ => by first | exact (hk_.1.1) hs_ | (revert hk_; simp only [and_imp]; intros; exact absurd hs_ (by assumption)))) (fun k_ hk_ => by first | exact ⟨hk_.1.1.1, hk_.1.1.2, hk_.1.2⟩ | (revert hk_; simp only [and_imp]; intros; and_intros <;> assumption))); have n1_ := Aside0.mk (Kd.R_reok rfl hy0 (fun k_ e_ => HO_218000.out.1 k_ e_)); have n2_ := Aside0.mk (Kd.R_mono (ok' := fun k_ => some k_ ≠ (.slice Ao29 t209.length co29 : Value).ownBlock ∧ some k_ ≠ (.slice Ao35 t214.length co35 : Value).ownBlock ∧ some k_ ≠ (.slice Ao78 t227.length co78 : Value).ownBlock) (Kd.R_keptB (HO_226000.out) hkp (fun k_ hk_ hs_ => by first | exact (hk_.1.2) hs_ | (revert hk_; simp only [and_imp]; intros; exact absurd hs_ (by assumption)))) (fun k_ hk_ => by first | exact ⟨hk_.1.1.1, hk_.1.1.2, hk_.1.2⟩ | (revert hk_; simp only [and_imp]; intros; and_intros <;> assumption))); have n3_ := Aside0.mk (blk_kept (zh BK200.out) hkp (fun hs_ => (fun e_ => (Kd.R_ne HO_218000.out BK200.out (by decide)) e_) hs_)); have n4_ := Aside0.mk (blk_kept (zh BK201.out) hkp (fun hs_ => (fun e_ => (Kd.R_ne HO_218000.out BK201.out (by decide)) e_) hs_)); have n5_ := Aside0.mk (blk_kept (zh BK213.out) hkp (fun hs_ => (fun e_ => (Kd.R_ne HO_218000.out BK213.out (by decide)) e_) hs_)); have n6_ := Aside0.mk (blk_kept (zh BK217.out) hkp (fun hs_ => (fun e_ => (Kd.R_ne HO_218000.out BK217.out (by decide)) e_) hs_)); have n7_ := Aside0.mk (blk_kept (zh BK225.out) hkp (fun hs_ => (fun e_ => (Kd.R_ne HO_218000.out BK225.out (by decide)) e_) hs_)); have n8_ := Aside0.mk (Kd.R_mono (ok' := fun k_ => some k_ ≠ (.slice Ao29 t209.length co29 : Value).ownBlock ∧ some k_ ≠ (.slice Ao35 t214.length co35 : Value).ownBlock ∧ some k_ ≠ (.slice Ao46 t221.length co46 : Value).ownBlock) (Kd.R_keptB (HO229.out) hkp (fun k_ hk_ hs_ => by first | exact (hk_.1.2) hs_ | (revert hk_; simp only [and_imp]; intros; exact absurd hs_ (by assumption)))) (fun k_ hk_ => by first | exact ⟨hk_.1.1.1.2, hk_.1.1.2, hk_.1.2⟩ | (revert hk_; simp only [and_imp]; intros; and_intros <;> assumption))); have n9_ := Aside0.mk (hb); clear HO_214000; clear HO_218000; clear HO_226000; clear BK200; clear BK201; clear BK213; clear BK217; clear BK225; clear HO229; clear HB; have HO_214000 := n0_; have HO_218000 := n1_; have HO_226000 := n2_; have BK200 := n3_; have BK201 := n4_; have BK213 := n5_; have BK217 := n6_; have BK225 := n7_; have HO229 := n8_; have HB := n9_; clear n0_ n1_ n2_ n3_ n4_ n5_ n6_ n7_ n8_ n9_; (try clear hb); (try clear hkp); (try clear hy0)))
      (try simp only [Act.put, List.setIfInBounds_toArray, List.set_cons_zero, List.set_cons_succ])
      go_cut [67] (fun v67 wc => ∃ (kq : Nat) (x67_74 : Bool), v67 = .bool x67_74 ∧ Aside0 (laws_FnExactPoolAdd.j1 kq t212 x67_74 l0_0 a1_0 a1_1 a1_2 t209 t221 = some r) ∧ Aside0 (kq ≤ kj15) ∧ Aside0 (Kd.R k34 34 wc w.heap.size (fun k_ => some k_ ≠ ((.slice Ao35 t214.length co35) : Value).ownBlock ∧ some k_ ≠ ((.slice Ao46 t221.length co46) : Value).ownBlock) (.slice Ao29 t209.length co29) t209) ∧ Aside0 (Kd.R k34 34 wc w.heap.size (fun k_ => some k_ ≠ ((.slice Ao29 t209.length co29) : Value).ownBlock ∧ some k_ ≠ ((.slice Ao46 t221.length co46) : Value).ownBlock) (.slice Ao35 t214.length co35) t232) ∧ Aside0 (Kd.R k34 34 wc w.heap.size (fun k_ => some k_ ≠ ((.slice Ao29 t209.length co29) : Value).ownBlock ∧ some k_ ≠ ((.slice Ao35 t214.length co35) : Value).ownBlock) (.slice Ao46 t221.length co46) t221) ∧ Aside0 (wc.heap[gb200]? = some (.cells #[(.slice A0_0 l0_0.length c0_0)] 24 (0, 0))) ∧ Aside0 (wc.heap[gb201]? = some (.cells #[.int .i64 a1_0, .int .i64 a1_1, .int .i64 a1_2] 26 (0, 0))) ∧ Aside0 (wc.heap[gb213]? = some (.cells #[(.slice Ao29 t209.length co29)] 30 (0, 0))) ∧ Aside0 (wc.heap[gb217]? = some (.cells #[(.slice Ao35 t214.length co35)] 30 (0, 0))) ∧ Aside0 (wc.heap[gb225]? = some (.cells #[(.slice Ao46 t221.length co46)] 30 (0, 0))) ∧ Aside0 (Below w.heap.size w wc))
      case first =>
       have H := HC75.out
       clear HC75
       by_cases c86 : t231 < 0
       ·rw [if_pos c86] at H
        have c86b0 : decide (t231 < 0) = true := decide_eq_true c86
        clear c86
        (first | rw [c86b0] | (simp only [i64_w, i32_w]; rw [c86b0]) | skip)
        have H' := Aside0.mk H
        clear H
        go_wp2
        go_meet
        case rel => exact ⟨_, (true), (by first | rfl | (simp; done) | (simp [*]; done)), H', ⟨by have := HJ15.out; first | omega | exact Nat.le_refl _⟩, ⟨zr (Kd.R_mono HO_214000.out (fun _ hk => ⟨hk.1, hk.2.1⟩))⟩, ⟨zr (Kd.R_mono HO_218000.out (fun _ hk => ⟨hk.1.1, hk.1.2⟩))⟩, ⟨zr (Kd.R_mono HO_226000.out (fun _ hk => ⟨hk.1, hk.2.1⟩))⟩, ⟨zh BK200.out⟩, ⟨zh BK201.out⟩, ⟨zh BK213.out⟩, ⟨zh BK217.out⟩, ⟨zh BK225.out⟩, ⟨zb HB.out⟩⟩
       ·rw [if_neg c86] at H
        have c86b0 : decide (t231 < 0) = false := decide_eq_false c86
        clear c86
        (first | rw [c86b0] | (simp only [i64_w, i32_w]; rw [c86b0]) | skip)
        replace H := Option.bind_eq_some_iff.mp H
        obtain ⟨t233, A870, H⟩ := H
        replace H : (if t233 = true then (laws_FnExactPoolAdd.j1 kj15 t212 (t224 != t212) l0_0 a1_0 a1_1 a1_2 t209 t221) else (laws_FnExactPoolAdd.j1 kj15 t212 true l0_0 a1_0 a1_1 a1_2 t209 t221)) = some r := H
        have A87 := Aside0.mk A870
        clear A870
        by_cases c88 : t233 = true
        ·subst c88
         have H1 : (laws_FnExactPoolAdd.j1 kj15 t212 (t224 != t212) l0_0 a1_0 a1_1 a1_2 t209 t221) = some r := by rw [if_pos rfl] at H; exact H
         clear H
         have H := H1
         clear H1
         have H' := Aside0.mk H
         clear H
         have hnb89 := NB225_200.out
         have hnc89 := NB200_225.out
         have hnb90 := NB225_201.out
         have hnc90 := NB201_225.out
         have hnb91 := NB225_213.out
         have hnc91 := NB213_225.out
         have hnb92 := NB225_217.out
         have hnc92 := NB217_225.out
         have hcz93_0 : w85.cell? ⟨gb225, 0, none⟩ = some (.slice Ao46 t221.length co46) := (blk_cell BK225.out 0).trans rfl
         have hfz93_0 := blk_frozen BK225.out 0
         have hnb94 := NB213_200.out
         have hnc94 := NB200_213.out
         have hnb95 := NB213_201.out
         have hnc95 := NB201_213.out
         have hnb96 := NB213_217.out
         have hnc96 := NB217_213.out
         have hcz97_0 : w85.cell? ⟨gb213, 0, none⟩ = some (.slice Ao29 t209.length co29) := (blk_cell BK213.out 0).trans rfl
         have hfz97_0 := blk_frozen BK213.out 0
         go_wp2_with (first | (go_at_call 20; (with_reducible refine (laws_eqPool.calls kj15 _ _ t221 _ _ t209 true _ ?side1 ?side2 ?side3 ?side4 A87.out).mono ?_); (case side1 => exact zc (Kd.R_reads' HO_226000.out).2.2); (case side2 => exact (Kd.R_reads' HO_226000.out).2.1); (case side3 => exact zc (Kd.R_reads' HO_214000.out).2.2); (case side4 => exact (Kd.R_reads' HO_214000.out).2.1); rintro e w98 ⟨rfl, hb⟩; have n0_ := Aside0.mk (Kd.R_below (zr HO_214000.out) hb); have n1_ := Aside0.mk (Kd.R_below (zr HO_218000.out) hb); have n2_ := Aside0.mk (Kd.R_below (zr HO_226000.out) hb); have n3_ := Aside0.mk (Kd.R_below (zr HO229.out) hb); have n4_ := Aside0.mk (blk_below (zh BK200.out) hb); have n5_ := Aside0.mk (blk_below (zh BK201.out) hb); have n6_ := Aside0.mk (blk_below (zh BK213.out) hb); have n7_ := Aside0.mk (blk_below (zh BK217.out) hb); have n8_ := Aside0.mk (blk_below (zh BK225.out) hb); have n9_ := Aside0.mk (below_step (zb HB.out) hb); clear HO_214000; clear HO_218000; clear HO_226000; clear HO229; clear BK200; clear BK201; clear BK213; clear BK217; clear BK225; clear HB; have HO_214000 := n0_; have HO_218000 := n1_; have HO_226000 := n2_; have HO229 := n3_; have BK200 := n4_; have BK201 := n5_; have BK213 := n6_; have BK217 := n7_; have BK225 := n8_; have HB := n9_; clear n0_ n1_ n2_ n3_ n4_ n5_ n6_ n7_ n8_ n9_; (try clear hb); (try clear hb2); (try clear hk); (try clear hi)))
         go_meet
         case rel => exact ⟨_, ((t224 != t212)), (by first | rfl | (simp; done) | (simp [*]; done)), H', ⟨by have := HJ15.out; first | omega | exact Nat.le_refl _⟩, ⟨zr (Kd.R_mono HO_214000.out (fun _ hk => ⟨hk.1, hk.2.1⟩))⟩, ⟨zr (Kd.R_mono HO_218000.out (fun _ hk => ⟨hk.1.1, hk.1.2⟩))⟩, ⟨zr (Kd.R_mono HO_226000.out (fun _ hk => ⟨hk.1, hk.2.1⟩))⟩, ⟨zh BK200.out⟩, ⟨zh BK201.out⟩, ⟨zh BK213.out⟩, ⟨zh BK217.out⟩, ⟨zh BK225.out⟩, ⟨zb HB.out⟩⟩
        ·replace c88 := Bool.eq_false_iff.mpr c88
         subst c88
         have H1 : (laws_FnExactPoolAdd.j1 kj15 t212 true l0_0 a1_0 a1_1 a1_2 t209 t221) = some r := by rw [if_neg (show ¬ (false = true) by decide)] at H; exact H
         clear H
         have H := H1
         clear H1
         have H' := Aside0.mk H
         clear H
         have hnb99 := NB225_200.out
         have hnc99 := NB200_225.out
         have hnb100 := NB225_201.out
         have hnc100 := NB201_225.out
         have hnb101 := NB225_213.out
         have hnc101 := NB213_225.out
         have hnb102 := NB225_217.out
         have hnc102 := NB217_225.out
         have hcz103_0 : w85.cell? ⟨gb225, 0, none⟩ = some (.slice Ao46 t221.length co46) := (blk_cell BK225.out 0).trans rfl
         have hfz103_0 := blk_frozen BK225.out 0
         have hnb104 := NB213_200.out
         have hnc104 := NB200_213.out
         have hnb105 := NB213_201.out
         have hnc105 := NB201_213.out
         have hnb106 := NB213_217.out
         have hnc106 := NB217_213.out
         have hcz107_0 : w85.cell? ⟨gb213, 0, none⟩ = some (.slice Ao29 t209.length co29) := (blk_cell BK213.out 0).trans rfl
         have hfz107_0 := blk_frozen BK213.out 0
         go_wp2_with (first | (go_at_call 20; (with_reducible refine (laws_eqPool.calls kj15 _ _ t221 _ _ t209 false _ ?side1 ?side2 ?side3 ?side4 A87.out).mono ?_); (case side1 => exact zc (Kd.R_reads' HO_226000.out).2.2); (case side2 => exact (Kd.R_reads' HO_226000.out).2.1); (case side3 => exact zc (Kd.R_reads' HO_214000.out).2.2); (case side4 => exact (Kd.R_reads' HO_214000.out).2.1); rintro e w108 ⟨rfl, hb⟩; have n0_ := Aside0.mk (Kd.R_below (zr HO_214000.out) hb); have n1_ := Aside0.mk (Kd.R_below (zr HO_218000.out) hb); have n2_ := Aside0.mk (Kd.R_below (zr HO_226000.out) hb); have n3_ := Aside0.mk (Kd.R_below (zr HO229.out) hb); have n4_ := Aside0.mk (blk_below (zh BK200.out) hb); have n5_ := Aside0.mk (blk_below (zh BK201.out) hb); have n6_ := Aside0.mk (blk_below (zh BK213.out) hb); have n7_ := Aside0.mk (blk_below (zh BK217.out) hb); have n8_ := Aside0.mk (blk_below (zh BK225.out) hb); have n9_ := Aside0.mk (below_step (zb HB.out) hb); clear HO_214000; clear HO_218000; clear HO_226000; clear HO229; clear BK200; clear BK201; clear BK213; clear BK217; clear BK225; clear HB; have HO_214000 := n0_; have HO_218000 := n1_; have HO_226000 := n2_; have HO229 := n3_; have BK200 := n4_; have BK201 := n5_; have BK213 := n6_; have BK217 := n7_; have BK225 := n8_; have HB := n9_; clear n0_ n1_ n2_ n3_ n4_ n5_ n6_ n7_ n8_ n9_; (try clear hb); (try clear hb2); (try clear hk); (try clear hi)))
         go_meet
         case rel => exact ⟨_, (true), (by first | rfl | (simp; done) | (simp [*]; done)), H', ⟨by have := HJ15.out; first | omega | exact Nat.le_refl _⟩, ⟨zr (Kd.R_mono HO_214000.out (fun _ hk => ⟨hk.1, hk.2.1⟩))⟩, ⟨zr (Kd.R_mono HO_218000.out (fun _ hk => ⟨hk.1.1, hk.1.2⟩))⟩, ⟨zr (Kd.R_mono HO_226000.out (fun _ hk => ⟨hk.1, hk.2.1⟩))⟩, ⟨zh BK200.out⟩, ⟨zh BK201.out⟩, ⟨zh BK213.out⟩, ⟨zh BK217.out⟩, ⟨zh BK225.out⟩, ⟨zb HB.out⟩⟩
      case rest =>
       clear HC75
       try clear c1
       try clear c2
       try clear p2
       try clear c4
       try clear c5
       try clear c6
       try clear c7
       try clear c8
       try clear c9
       try clear c10
       try clear c17
       try clear c18
       try clear c19
       try clear c20
       try clear c21
       try clear c49
       try clear c50
       try clear c51
       try clear c52
       try clear c53
       try clear c55
       try clear c56
       try clear c57
       try clear c60
       try clear c61
       try clear c62
       try clear c63
       try clear c65
       try clear c66
       try clear c67
       try clear c70
       try clear c73
       try clear c80
       try clear c81
       try clear c82
       try clear c83
       try clear c86
       try clear c86b0
       try clear c88
       try clear c89
       try clear c90
       try clear c91
       try clear c92
       try clear c94
       try clear c95
       try clear c96
       try clear c99
       try clear c100
       try clear c101
       try clear c102
       try clear c104
       try clear c105
       try clear c106
       try clear hcz103_0
       try clear hcz107_0
       try clear hcz54_0
       try clear hcz58_0
       try clear hcz64_0
       try clear hcz68_0
       try clear hcz84_0
       try clear hcz93_0
       try clear hcz97_0
       try clear hfz103_0
       try clear hfz107_0
       try clear hfz54_0
       try clear hfz58_0
       try clear hfz64_0
       try clear hfz68_0
       try clear hfz84_0
       try clear hfz93_0
       try clear hfz97_0
       try clear p2
       obtain ⟨kq, x67_74, rfl, HA, HJ74, HO_214000, HO_218000, HO_226000, BK200, BK201, BK213, BK217, BK225, HB⟩ := hcut
       have hl218000_74 := (Kd.R_reads' HO_218000.out).1
       rw [hl218000_74] at HO_218000
       (try simp only [hl218000_74])
       (try simp only [hl218000_74] at BK200)
       (try simp only [hl218000_74] at BK201)
       (try simp only [hl218000_74] at BK213)
       (try simp only [hl218000_74] at BK217)
       (try simp only [hl218000_74] at BK225)
       (try simp only [hl218000_74] at HO_214000)
       (try simp only [hl218000_74] at HO_226000)
       cases kq with
       | zero => exact absurd HA.out (by simp [laws_FnExactPoolAdd.j1])
       | succ kj74 =>
        have H := HA.out
        clear HA
        simp only [laws_FnExactPoolAdd.j1] at H
        by_cases c109 : x67_74 = true
        ·subst c109
         have H1 : (some false) = some r := by rw [if_pos rfl] at H; exact H
         clear H
         have H := H1
         clear H1
         obtain rfl := Option.some.inj H
         go_wp2
         go_ret
         exact ⟨ze, zb HB.out⟩
        ·replace c109 := Bool.eq_false_iff.mpr c109
         subst c109
         have H1 : ((laws_markPool.f kj74 t221 1).bind fun bt234 => ((laws_heldPool.f kj74 bt234.2 1).bind fun t236 => (if t236 < 0 then (some false) else (if t236 = bt234.1 then ((laws_toPool.f kj74 l0_0).bind fun t237 => ((laws_toNode.f a1_0 a1_1 a1_2).bind fun bt240 => ((impl_PoolAdd.f kj74 t237 bt240.1 bt240.2.1 bt240.2.2).bind fun bt243 => ((laws_eqPool.f kj74 bt243.1 t209).bind fun t248 => (if t248 = true then (laws_FnExactPoolAdd.j2 kj74 bt234.1 (bt243.2 != t212) bt234.2) else (laws_FnExactPoolAdd.j2 kj74 bt234.1 true bt234.2)))))) else (some false))))) = some r := by rw [if_neg (show ¬ (false = true) by decide)] at H; exact H
         clear H
         have H := H1
         clear H1
         replace H := Option.bind_eq_some_iff.mp H
         obtain ⟨⟨t234, t235⟩, A1100, H⟩ := H
         replace H : ((laws_heldPool.f kj74 t235 1).bind fun t236 => (if t236 < 0 then (some false) else (if t236 = t234 then ((laws_toPool.f kj74 l0_0).bind fun t237 => ((laws_toNode.f a1_0 a1_1 a1_2).bind fun bt240 => ((impl_PoolAdd.f kj74 t237 bt240.1 bt240.2.1 bt240.2.2).bind fun bt243 => ((laws_eqPool.f kj74 bt243.1 t209).bind fun t248 => (if t248 = true then (laws_FnExactPoolAdd.j2 kj74 t234 (bt243.2 != t212) t235) else (laws_FnExactPoolAdd.j2 kj74 t234 true t235)))))) else (some false)))) = some r := H
         have A110 := Aside0.mk A1100
         clear A1100
         replace H := Option.bind_eq_some_iff.mp H
         obtain ⟨t236, A1110, H⟩ := H
         replace H : (if t236 < 0 then (some false) else (if t236 = t234 then ((laws_toPool.f kj74 l0_0).bind fun t237 => ((laws_toNode.f a1_0 a1_1 a1_2).bind fun bt240 => ((impl_PoolAdd.f kj74 t237 bt240.1 bt240.2.1 bt240.2.2).bind fun bt243 => ((laws_eqPool.f kj74 bt243.1 t209).bind fun t248 => (if t248 = true then (laws_FnExactPoolAdd.j2 kj74 t234 (bt243.2 != t212) t235) else (laws_FnExactPoolAdd.j2 kj74 t234 true t235)))))) else (some false))) = some r := H
         have A111 := Aside0.mk A1110
         clear A1110
         by_cases c112 : t236 < 0
         ·rw [if_pos c112] at H
          have c112b0 : decide (t236 < 0) = true := decide_eq_true c112
          clear c112
          obtain rfl := Option.some.inj H
          have hnb113 := NB225_200.out
          have hnc113 := NB200_225.out
          have hnb114 := NB225_201.out
          have hnc114 := NB201_225.out
          have hnb115 := NB225_213.out
          have hnc115 := NB213_225.out
          have hnb116 := NB225_217.out
          have hnc116 := NB217_225.out
          have hcz117_0 : wc.cell? ⟨gb225, 0, none⟩ = some (.slice Ao46 t221.length co46) := (blk_cell BK225.out 0).trans rfl
          have hfz117_0 := blk_frozen BK225.out 0
          go_wp2_with (first | ((with_reducible refine gate_callee (f := 21) rfl ?_); refine goesL_ (some 70) rfl rfl Try.func21 (by kernel_rfl) rfl #[.agg #[.slice Ao46 t221.length co46], .int .i64 1] rfl zl ?_; (with_reducible refine (laws_markPool.calls kj74 (fun k_ => some k_ = (.slice Ao46 t221.length co46 : Value).ownBlock) (.slice Ao46 t221.length co46) t221 1 t234 t235 w _ ?side1 ?side2 A110.out).mono ?_); (case side1 => repeat (first | (with_reducible first | exact HB.out | apply below_alloc | apply pw_below_drewN | apply below_drew1 | refine below_set ?_ GE200.out | refine below_set ?_ GE201.out | refine below_set ?_ GE213.out | refine below_set ?_ GE217.out | refine below_set ?_ GE225.out) | exact HB.out)); (case side2 => exact Kd.R_tight rfl HO_226000.out); rintro e w118 ⟨rfl, hy0, hb, hkp⟩; refine ⟨_, rfl, ?_⟩; have n0_ := Aside0.mk (Kd.R_mono (ok' := fun k_ => some k_ ≠ (.slice Ao35 t232.length co35 : Value).ownBlock ∧ some k_ ≠ (.slice Ao46 t221.length co46 : Value).ownBlock) (Kd.R_keptB (HO_214000.out) hkp (fun k_ hk_ hs_ => by first | exact (hk_.2) hs_ | (revert hk_; simp only [and_imp]; intros; exact absurd hs_ (by assumption)))) (fun k_ hk_ => by first | exact ⟨hk_.1.1, hk_.1.2⟩ | (revert hk_; simp only [and_imp]; intros; and_intros <;> assumption))); have n1_ := Aside0.mk (Kd.R_mono (ok' := fun k_ => some k_ ≠ (.slice Ao29 t209.length co29 : Value).ownBlock ∧ some k_ ≠ (.slice Ao46 t221.length co46 : Value).ownBlock) (Kd.R_keptB (HO_218000.out) hkp (fun k_ hk_ hs_ => by first | exact (hk_.2) hs_ | (revert hk_; simp only [and_imp]; intros; exact absurd hs_ (by assumption)))) (fun k_ hk_ => by first | exact ⟨hk_.1.1, hk_.1.2⟩ | (revert hk_; simp only [and_imp]; intros; and_intros <;> assumption))); have n2_ := Aside0.mk (Kd.R_reok rfl hy0 (fun k_ e_ => HO_226000.out.1 k_ e_)); have n3_ := Aside0.mk (blk_kept (zh BK200.out) hkp (fun hs_ => (fun e_ => (Kd.R_ne HO_226000.out BK200.out (by decide)) e_) hs_)); have n4_ := Aside0.mk (blk_kept (zh BK201.out) hkp (fun hs_ => (fun e_ => (Kd.R_ne HO_226000.out BK201.out (by decide)) e_) hs_)); have n5_ := Aside0.mk (blk_kept (zh BK213.out) hkp (fun hs_ => (fun e_ => (Kd.R_ne HO_226000.out BK213.out (by decide)) e_) hs_)); have n6_ := Aside0.mk (blk_kept (zh BK217.out) hkp (fun hs_ => (fun e_ => (Kd.R_ne HO_226000.out BK217.out (by decide)) e_) hs_)); have n7_ := Aside0.mk (blk_kept (zh BK225.out) hkp (fun hs_ => (fun e_ => (Kd.R_ne HO_226000.out BK225.out (by decide)) e_) hs_)); have n8_ := Aside0.mk (hb); clear HO_214000; clear HO_218000; clear HO_226000; clear BK200; clear BK201; clear BK213; clear BK217; clear BK225; clear HB; have HO_214000 := n0_; have HO_218000 := n1_; have HO_226000 := n2_; have BK200 := n3_; have BK201 := n4_; have BK213 := n5_; have BK217 := n6_; have BK225 := n7_; have HB := n8_; clear n0_ n1_ n2_ n3_ n4_ n5_ n6_ n7_ n8_; (try clear hb); (try clear hkp); (try clear hy0); have hcz119_0 : w118.cell? ⟨gb225, 0, none⟩ = some (.slice Ao46 t221.length co46) := (blk_cell BK225.out 0).trans rfl; have hfz119_0 := blk_frozen BK225.out 0) | ((with_reducible refine gate_callee (f := 22) rfl ?_); refine goesL_ (some 73) rfl rfl Try.func22 (by kernel_rfl) rfl #[.agg #[.slice Ao46 t235.length co46], .int .i64 1] rfl (by (try simp only [List.map_toArray, List.map_cons, List.map_nil]); first | done | (rw [show t235.length = t221.length from (Kd.R_reads' HO_226000.out).1.symm] <;> rfl) | rfl | (simp only [List.length_drop, List.length_take]; rfl)) ?_; (with_reducible refine (laws_heldPool.calls kj74 _ _ t235 1 t236 _ ?side1 ?side2 A111.out).mono ?_); (case side1 => exact zc (Kd.R_reads' HO_226000.out).2.2); (case side2 => rw [show t235.length = t221.length from (Kd.R_reads' HO_226000.out).1.symm]; exact (Kd.R_reads' HO_226000.out).2.1); rintro e w120 ⟨rfl, hb⟩; refine ⟨_, rfl, ?_⟩; have n0_ := Aside0.mk (Kd.R_below (zr HO_214000.out) hb); have n1_ := Aside0.mk (Kd.R_below (zr HO_218000.out) hb); have n2_ := Aside0.mk (Kd.R_below (zr HO_226000.out) hb); have n3_ := Aside0.mk (blk_below (zh BK200.out) hb); have n4_ := Aside0.mk (blk_below (zh BK201.out) hb); have n5_ := Aside0.mk (blk_below (zh BK213.out) hb); have n6_ := Aside0.mk (blk_below (zh BK217.out) hb); have n7_ := Aside0.mk (blk_below (zh BK225.out) hb); have n8_ := Aside0.mk (below_step (zb HB.out) hb); clear HO_214000; clear HO_218000; clear HO_226000; clear BK200; clear BK201; clear BK213; clear BK217; clear BK225; clear HB; have HO_214000 := n0_; have HO_218000 := n1_; have HO_226000 := n2_; have BK200 := n3_; have BK201 := n4_; have BK213 := n5_; have BK217 := n6_; have BK225 := n7_; have HB := n8_; clear n0_ n1_ n2_ n3_ n4_ n5_ n6_ n7_ n8_; (try clear hb); (try clear hb2); (try clear hk); (try clear hi)))
          go_ret
          exact ⟨ze, zb HB.out⟩
         ·rw [if_neg c112] at H
          have c112b0 : decide (t236 < 0) = false := decide_eq_false c112
          clear c112
          by_cases c121 : t236 = t234
          ·rw [if_pos c121] at H
           have c121b0 : (t236 == t234) = true := beq_iff_eq.mpr c121
           have c121b1 : (t236 != t234) = false := bne_eq_false_iff_eq.mpr c121
           clear c121
           replace H := Option.bind_eq_some_iff.mp H
           obtain ⟨t237, A1220, H⟩ := H
           replace H : ((laws_toNode.f a1_0 a1_1 a1_2).bind fun bt240 => ((impl_PoolAdd.f kj74 t237 bt240.1 bt240.2.1 bt240.2.2).bind fun bt243 => ((laws_eqPool.f kj74 bt243.1 t209).bind fun t248 => (if t248 = true then (laws_FnExactPoolAdd.j2 kj74 t234 (bt243.2 != t212) t235) else (laws_FnExactPoolAdd.j2 kj74 t234 true t235))))) = some r := H
           have A122 := Aside0.mk A1220
           clear A1220
           replace H := Option.bind_eq_some_iff.mp H
           obtain ⟨⟨t240, t241, t242⟩, A1230, H⟩ := H
           replace H : ((impl_PoolAdd.f kj74 t237 t240 t241 t242).bind fun bt243 => ((laws_eqPool.f kj74 bt243.1 t209).bind fun t248 => (if t248 = true then (laws_FnExactPoolAdd.j2 kj74 t234 (bt243.2 != t212) t235) else (laws_FnExactPoolAdd.j2 kj74 t234 true t235)))) = some r := H
           have A123 := Aside0.mk A1230
           clear A1230
           replace H := Option.bind_eq_some_iff.mp H
           obtain ⟨⟨t243, t246⟩, A1240, H⟩ := H
           replace H : ((laws_eqPool.f kj74 t243 t209).bind fun t248 => (if t248 = true then (laws_FnExactPoolAdd.j2 kj74 t234 (t246 != t212) t235) else (laws_FnExactPoolAdd.j2 kj74 t234 true t235))) = some r := H
           have A124 := Aside0.mk A1240
           clear A1240
           have HC125 := Aside0.mk H
           clear H
           have hnb126 := NB225_200.out
           have hnc126 := NB200_225.out
           have hnb127 := NB225_201.out
           have hnc127 := NB201_225.out
           have hnb128 := NB225_213.out
           have hnc128 := NB213_225.out
           have hnb129 := NB225_217.out
           have hnc129 := NB217_225.out
           have hcz130_0 : wc.cell? ⟨gb225, 0, none⟩ = some (.slice Ao46 t221.length co46) := (blk_cell BK225.out 0).trans rfl
           have hfz130_0 := blk_frozen BK225.out 0
           try go_wp2_with (first | ((with_reducible refine gate_callee (f := 21) rfl ?_); refine goesL_ (some 70) rfl rfl Try.func21 (by kernel_rfl) rfl #[.agg #[.slice Ao46 t221.length co46], .int .i64 1] rfl zl ?_; (with_reducible refine (laws_markPool.calls kj74 (fun k_ => some k_ = (.slice Ao46 t221.length co46 : Value).ownBlock) (.slice Ao46 t221.length co46) t221 1 t234 t235 w _ ?side1 ?side2 A110.out).mono ?_); (case side1 => repeat (first | (with_reducible first | exact HB.out | apply below_alloc | apply pw_below_drewN | apply below_drew1 | refine below_set ?_ GE200.out | refine below_set ?_ GE201.out | refine below_set ?_ GE213.out | refine below_set ?_ GE217.out | refine below_set ?_ GE225.out) | exact HB.out)); (case side2 => exact Kd.R_tight rfl HO_226000.out); rintro e w131 ⟨rfl, hy0, hb, hkp⟩; refine ⟨_, rfl, ?_⟩; have n0_ := Aside0.mk (Kd.R_mono (ok' := fun k_ => some k_ ≠ (.slice Ao35 t232.length co35 : Value).ownBlock ∧ some k_ ≠ (.slice Ao46 t221.length co46 : Value).ownBlock) (Kd.R_keptB (HO_214000.out) hkp (fun k_ hk_ hs_ => by first | exact (hk_.2) hs_ | (revert hk_; simp only [and_imp]; intros; exact absurd hs_ (by assumption)))) (fun k_ hk_ => by first | exact ⟨hk_.1.1, hk_.1.2⟩ | (revert hk_; simp only [and_imp]; intros; and_intros <;> assumption))); have n1_ := Aside0.mk (Kd.R_mono (ok' := fun k_ => some k_ ≠ (.slice Ao29 t209.length co29 : Value).ownBlock ∧ some k_ ≠ (.slice Ao46 t221.length co46 : Value).ownBlock) (Kd.R_keptB (HO_218000.out) hkp (fun k_ hk_ hs_ => by first | exact (hk_.2) hs_ | (revert hk_; simp only [and_imp]; intros; exact absurd hs_ (by assumption)))) (fun k_ hk_ => by first | exact ⟨hk_.1.1, hk_.1.2⟩ | (revert hk_; simp only [and_imp]; intros; and_intros <;> assumption))); have n2_ := Aside0.mk (Kd.R_reok rfl hy0 (fun k_ e_ => HO_226000.out.1 k_ e_)); have n3_ := Aside0.mk (blk_kept (zh BK200.out) hkp (fun hs_ => (fun e_ => (Kd.R_ne HO_226000.out BK200.out (by decide)) e_) hs_)); have n4_ := Aside0.mk (blk_kept (zh BK201.out) hkp (fun hs_ => (fun e_ => (Kd.R_ne HO_226000.out BK201.out (by decide)) e_) hs_)); have n5_ := Aside0.mk (blk_kept (zh BK213.out) hkp (fun hs_ => (fun e_ => (Kd.R_ne HO_226000.out BK213.out (by decide)) e_) hs_)); have n6_ := Aside0.mk (blk_kept (zh BK217.out) hkp (fun hs_ => (fun e_ => (Kd.R_ne HO_226000.out BK217.out (by decide)) e_) hs_)); have n7_ := Aside0.mk (blk_kept (zh BK225.out) hkp (fun hs_ => (fun e_ => (Kd.R_ne HO_226000.out BK225.out (by decide)) e_) hs_)); have n8_ := Aside0.mk (hb); clear HO_214000; clear HO_218000; clear HO_226000; clear BK200; clear BK201; clear BK213; clear BK217; clear BK225; clear HB; have HO_214000 := n0_; have HO_218000 := n1_; have HO_226000 := n2_; have BK200 := n3_; have BK201 := n4_; have BK213 := n5_; have BK217 := n6_; have BK225 := n7_; have HB := n8_; clear n0_ n1_ n2_ n3_ n4_ n5_ n6_ n7_ n8_; (try clear hb); (try clear hkp); (try clear hy0); have hcz132_0 : w131.cell? ⟨gb225, 0, none⟩ = some (.slice Ao46 t221.length co46) := (blk_cell BK225.out 0).trans rfl; have hfz132_0 := blk_frozen BK225.out 0) | ((with_reducible refine gate_callee (f := 22) rfl ?_); refine goesL_ (some 73) rfl rfl Try.func22 (by kernel_rfl) rfl #[.agg #[.slice Ao46 t235.length co46], .int .i64 1] rfl (by (try simp only [List.map_toArray, List.map_cons, List.map_nil]); first | done | (rw [show t235.length = t221.length from (Kd.R_reads' HO_226000.out).1.symm] <;> rfl) | rfl | (simp only [List.length_drop, List.length_take]; rfl)) ?_; (with_reducible refine (laws_heldPool.calls kj74 _ _ t235 1 t236 _ ?side1 ?side2 A111.out).mono ?_); (case side1 => exact zc (Kd.R_reads' HO_226000.out).2.2); (case side2 => rw [show t235.length = t221.length from (Kd.R_reads' HO_226000.out).1.symm]; exact (Kd.R_reads' HO_226000.out).2.1); rintro e w133 ⟨rfl, hb⟩; refine ⟨_, rfl, ?_⟩; have n0_ := Aside0.mk (Kd.R_below (zr HO_214000.out) hb); have n1_ := Aside0.mk (Kd.R_below (zr HO_218000.out) hb); have n2_ := Aside0.mk (Kd.R_below (zr HO_226000.out) hb); have n3_ := Aside0.mk (blk_below (zh BK200.out) hb); have n4_ := Aside0.mk (blk_below (zh BK201.out) hb); have n5_ := Aside0.mk (blk_below (zh BK213.out) hb); have n6_ := Aside0.mk (blk_below (zh BK217.out) hb); have n7_ := Aside0.mk (blk_below (zh BK225.out) hb); have n8_ := Aside0.mk (below_step (zb HB.out) hb); clear HO_214000; clear HO_218000; clear HO_226000; clear BK200; clear BK201; clear BK213; clear BK217; clear BK225; clear HB; have HO_214000 := n0_; have HO_218000 := n1_; have HO_226000 := n2_; have BK200 := n3_; have BK201 := n4_; have BK213 := n5_; have BK217 := n6_; have BK225 := n7_; have HB := n8_; clear n0_ n1_ n2_ n3_ n4_ n5_ n6_ n7_ n8_; (try clear hb); (try clear hb2); (try clear hk); (try clear hi)))
           have n0_ := Aside0.mk (Kd.R_drew HO_214000.out)
           have n1_ := Aside0.mk (Kd.R_drew HO_218000.out)
           have n2_ := Aside0.mk (Kd.R_drew HO_226000.out)
           have n3_ := Aside0.mk (blk_drew BK200.out)
           have n4_ := Aside0.mk (blk_drew BK201.out)
           have n5_ := Aside0.mk (blk_drew BK213.out)
           have n6_ := Aside0.mk (blk_drew BK217.out)
           have n7_ := Aside0.mk (blk_drew BK225.out)
           have n8_ := Aside0.mk (below_drew1 HB.out)
           clear HO_214000
           clear HO_218000
           clear HO_226000
           clear BK200
           clear BK201
           clear BK213
           clear BK217
           clear BK225
           clear HB
           have HO_214000 := n0_
           have HO_218000 := n1_
           have HO_226000 := n2_
           have BK200 := n3_
           have BK201 := n4_
           have BK213 := n5_
           have BK217 := n6_
           have BK225 := n7_
           have HB := n8_
           clear n0_ n1_ n2_ n3_ n4_ n5_ n6_ n7_ n8_
           refine start_ (n := 11) (S := fun w' => w'.cell? ⟨gb200, 0, none⟩ = some (.slice A0_0 l0_0.length c0_0) ∧ w'.cell? ⟨gb201, 0, none⟩ = some (.int .i64 a1_0) ∧ w'.cell? ⟨gb201, 1, none⟩ = some (.int .i64 a1_1) ∧ w'.cell? ⟨gb201, 2, none⟩ = some (.int .i64 a1_2)) (ds := []) #[false, false, false, false, false, false, false, false, false, false, false] (by kernel_rfl) rfl rfl ⟨(blk_cell BK200.out 0).trans rfl, (blk_cell BK201.out 0).trans rfl, (blk_cell BK201.out 1).trans rfl, (blk_cell BK201.out 2).trans rfl⟩ (fun hHeld => ?_); refine with_tabW laws_FnExactPoolAdd.tab24 laws_FnExactPoolAdd.bits24 (fun HT_ HW_ => ?_)
           generalize w133.drew = w134 at HO_214000 HO_218000 HO_226000 BK200 BK201 BK213 BK217 BK225 HB hHeld ⊢
           refine take_ (i := 0) (N := some 80) (v := ?_) (a' := ?_) #[true, false, false, false, false, false, false, false, false, false, false] rfl rfl (take_ofW HT_.out HW_.out (by kernel_rfl)) (fun _ _ _ h => h) (Or.inl ⟨by rfl, ?_⟩) hHeld ?_ ?_
           rotate_left
           ·rintro w' ⟨s0, s1, s2, s3⟩
            go_simp
            with_reducible rfl
           rotate_left
           ·simp only [Act.put, List.setIfInBounds_toArray, List.set_cons_zero, List.set_cons_succ, i64_w, i32_w]
            rfl
           refine take_ (i := 2) (N := some 82) (v := ?_) (a' := ?_) #[true, false, true, false, false, false, false, false, false, false, false] rfl rfl (take_ofW HT_.out HW_.out (by kernel_rfl)) (fun _ _ _ h => h) (Or.inl ⟨by rfl, ?_⟩) hHeld ?_ ?_
           rotate_left
           ·rintro w' ⟨s0, s1, s2, s3⟩
            go_simp
            with_reducible rfl
           rotate_left
           ·simp only [Act.put, List.setIfInBounds_toArray, List.set_cons_zero, List.set_cons_succ, i64_w, i32_w]
            rfl
           refine join_ (σ := Value × Value × Nat) 2 #[true, true, true, true, true, true, true, true, true, false, false] (fun s_ => [(81, .agg #[s_.1]), (83, .agg #[.int .i64 t240, .int .i64 t241, .int .i64 t242]), (84, .tuple #[.agg #[s_.2.1], .int .i64 t246]), (14, .pointer (some ⟨s_.2.2, 0, none⟩)), (79, .tuple #[.agg #[s_.2.1], .int .i64 t246]), (85, .agg #[s_.2.1]), (86, .int .i64 t246)]) (fun s_ w' => (w'.cell? ⟨gb200, 0, none⟩ = some (.slice A0_0 l0_0.length c0_0) ∧ w'.cell? ⟨gb201, 0, none⟩ = some (.int .i64 a1_0) ∧ w'.cell? ⟨gb201, 1, none⟩ = some (.int .i64 a1_1) ∧ w'.cell? ⟨gb201, 2, none⟩ = some (.int .i64 a1_2)) ∧ (Kd.R k34 34 w' w.heap.size (fun k_ => some k_ ≠ (s_.2.1 : Value).ownBlock ∧ some k_ ≠ (.slice Ao29 t209.length co29 : Value).ownBlock ∧ some k_ ≠ (.slice Ao35 t232.length co35 : Value).ownBlock ∧ some k_ ≠ (.slice Ao46 t221.length co46 : Value).ownBlock) s_.1 t237) ∧ (Kd.R k34 34 w' w.heap.size (fun k_ => some k_ ≠ (s_.1 : Value).ownBlock ∧ some k_ ≠ (.slice Ao29 t209.length co29 : Value).ownBlock ∧ some k_ ≠ (.slice Ao35 t232.length co35 : Value).ownBlock ∧ some k_ ≠ (.slice Ao46 t221.length co46 : Value).ownBlock) s_.2.1 t243) ∧ (Kd.R k34 34 w' w.heap.size (fun k_ => some k_ ≠ (s_.1 : Value).ownBlock ∧ some k_ ≠ (s_.2.1 : Value).ownBlock ∧ some k_ ≠ (.slice Ao35 t232.length co35 : Value).ownBlock ∧ some k_ ≠ (.slice Ao46 t221.length co46 : Value).ownBlock) (.slice Ao29 t209.length co29) t209) ∧ (Kd.R k34 34 w' w.heap.size (fun k_ => some k_ ≠ (s_.1 : Value).ownBlock ∧ some k_ ≠ (s_.2.1 : Value).ownBlock ∧ some k_ ≠ (.slice Ao29 t209.length co29 : Value).ownBlock ∧ some k_ ≠ (.slice Ao46 t221.length co46 : Value).ownBlock) (.slice Ao35 t232.length co35) t232) ∧ (Kd.R k34 34 w' w.heap.size (fun k_ => some k_ ≠ (s_.1 : Value).ownBlock ∧ some k_ ≠ (s_.2.1 : Value).ownBlock ∧ some k_ ≠ (.slice Ao29 t209.length co29 : Value).ownBlock ∧ some k_ ≠ (.slice Ao35 t232.length co35 : Value).ownBlock) (.slice Ao46 t221.length co46) t235) ∧ (w'.heap[gb200]? = some (.cells #[.slice A0_0 l0_0.length c0_0] 24 (0, 0))) ∧ (w'.heap[gb201]? = some (.cells #[.int .i64 a1_0, .int .i64 a1_1, .int .i64 a1_2] 26 (0, 0))) ∧ (w'.heap[gb213]? = some (.cells #[.slice Ao29 t209.length co29] 30 (0, 0))) ∧ (w'.heap[gb217]? = some (.cells #[.slice Ao35 t232.length co35] 30 (0, 0))) ∧ (w'.heap[gb225]? = some (.cells #[.slice Ao46 t221.length co46] 30 (0, 0))) ∧ (w'.heap[s_.2.2]? = some (.cells #[.slice none 0 0] 30 (0, 0))) ∧ (w.heap.size ≤ s_.2.2) ∧ (w.heap.size ≤ s_.2.2) ∧ (gb200 ≠ s_.2.2) ∧ (s_.2.2 ≠ gb200) ∧ (gb201 ≠ s_.2.2) ∧ (s_.2.2 ≠ gb201) ∧ (gb213 ≠ s_.2.2) ∧ (s_.2.2 ≠ gb213) ∧ (gb217 ≠ s_.2.2) ∧ (s_.2.2 ≠ gb217) ∧ (gb225 ≠ s_.2.2) ∧ (s_.2.2 ≠ gb225) ∧ (Below w.heap.size w w')) ?_ ?_
           rotate_left
           ·intro hCont
            refine two_ (i := 1) (j := 8) (Ni := some 81) (Nj := some 14) #[true, true, true, false, false, false, false, false, false, false, false] #[true, false, true, false, false, false, false, false, true, false, false] rfl rfl rfl rfl (two_of HT_.out (by kernel_rfl)) (by decide) (by decide) (fun K hK => ?_) (fun K hK => ?_)
            ·skip
             refine goes_ Try.func17 (by kernel_rfl) rfl #[.agg #[.slice A0_0 l0_0.length c0_0]] (by rfl) rfl rfl zl ?_
             with_reducible refine (laws_toPool.calls kj74 _ _ l0_0 t237 _ ?side1 ?side2 A122.out).mono ?_
             (case side1 => exact zc (Kd.C_below HR0_0.out HB.out))
             (case side2 => exact HC0_0.out)
             rintro e w135 ⟨v238, rfl, ho0, hb⟩
             refine ⟨_, rfl, ?_⟩
             have n0_ := Aside0.mk (Kd.R_elder' (zr HO_214000.out) (Kd.R_base ho0) hb)
             have n1_ := Aside0.mk (Kd.R_elder' (zr HO_218000.out) (Kd.R_base ho0) hb)
             have n2_ := Aside0.mk (Kd.R_elder' (zr HO_226000.out) (Kd.R_base ho0) hb)
             have n3_ := Aside0.mk (Kd.R_lower (Kd.R_new' (Kd.R_new' (Kd.R_new' ho0 (Kd.R_lt (zr HO_214000.out))) (Kd.R_lt (zr HO_218000.out))) (Kd.R_lt (zr HO_226000.out))) (below_size (zb HB.out)))
             have n4_ := Aside0.mk (blk_below (zh BK200.out) hb)
             have n5_ := Aside0.mk (blk_below (zh BK201.out) hb)
             have n6_ := Aside0.mk (blk_below (zh BK213.out) hb)
             have n7_ := Aside0.mk (blk_below (zh BK217.out) hb)
             have n8_ := Aside0.mk (blk_below (zh BK225.out) hb)
             have n9_ := Aside0.mk (below_step (zb HB.out) hb)
             clear HO_214000
             clear HO_218000
             clear HO_226000
             clear BK200
             clear BK201
             clear BK213
             clear BK217
             clear BK225
             clear HB
             have HO_214000 := n0_
             have HO_218000 := n1_
             have HO_226000 := n2_
             have HO239 := n3_
             have BK200 := n4_
             have BK201 := n5_
             have BK213 := n6_
             have BK217 := n7_
             have BK225 := n8_
             have HB := n9_
             clear n0_ n1_ n2_ n3_ n4_ n5_ n6_ n7_ n8_ n9_
             (try clear hb)
             (try clear hb2)
             (try clear hk)
             (try clear hi)
             (try clear ho0)
             refine hK.out _ _ ⟨(blk_cell BK200.out 0).trans rfl, (blk_cell BK201.out 0).trans rfl, (blk_cell BK201.out 1).trans rfl, (blk_cell BK201.out 2).trans rfl⟩ (fun hHeld => ?_)
             clear hK K
             refine norm_ (a' := ?_) ?_ ?_
             rotate_left
             ·show Act.put _ (some 81) _ = _
              simp only [Act.put, List.setIfInBounds_toArray, List.set_cons_zero, List.set_cons_succ, i64_w, i32_w]
              rfl
             refine two_ (i := 3) (j := 8) (Ni := some 83) (Nj := some 14) #[true, true, true, true, false, false, false, false, false, false, false] #[true, true, true, false, false, false, false, false, true, false, false] rfl rfl rfl rfl (two_of HT_.out (by kernel_rfl)) (by decide) (by decide) (fun K hK => ?_) (fun K hK => ?_)
             ·skip
              refine goes_ Try.func18 (by kernel_rfl) rfl #[.agg #[.int .i64 a1_0, .int .i64 a1_1, .int .i64 a1_2]] (by rfl) rfl rfl zl ?_
              with_reducible refine (laws_toNode.calls a1_0 a1_1 a1_2 t240 t241 t242 _ A123.out).mono ?_
              rintro e w136 ⟨rfl, hb⟩
              refine ⟨_, rfl, ?_⟩
              have n0_ := Aside0.mk (Kd.R_below (zr HO_214000.out) hb)
              have n1_ := Aside0.mk (Kd.R_below (zr HO_218000.out) hb)
              have n2_ := Aside0.mk (Kd.R_below (zr HO_226000.out) hb)
              have n3_ := Aside0.mk (Kd.R_below (zr HO239.out) hb)
              have n4_ := Aside0.mk (blk_below (zh BK200.out) hb)
              have n5_ := Aside0.mk (blk_below (zh BK201.out) hb)
              have n6_ := Aside0.mk (blk_below (zh BK213.out) hb)
              have n7_ := Aside0.mk (blk_below (zh BK217.out) hb)
              have n8_ := Aside0.mk (blk_below (zh BK225.out) hb)
              have n9_ := Aside0.mk (below_step (zb HB.out) hb)
              clear HO_214000
              clear HO_218000
              clear HO_226000
              clear HO239
              clear BK200
              clear BK201
              clear BK213
              clear BK217
              clear BK225
              clear HB
              have HO_214000 := n0_
              have HO_218000 := n1_
              have HO_226000 := n2_
              have HO239 := n3_
              have BK200 := n4_
              have BK201 := n5_
              have BK213 := n6_
              have BK217 := n7_
              have BK225 := n8_
              have HB := n9_
              clear n0_ n1_ n2_ n3_ n4_ n5_ n6_ n7_ n8_ n9_
              (try clear hb)
              (try clear hb2)
              (try clear hk)
              (try clear hi)
              obtain ⟨Ao137, co137, eo137⟩ := Kd.R_slice HO239.out
              (first | subst eo137 | (injection eo137 with f1_ f2_ f3_; have f4_ := f1_.symm; have f5_ := f3_.symm; clear f1_ f2_ f3_; subst f4_; subst f5_))
              refine hK.out _ _ ⟨(blk_cell BK200.out 0).trans rfl, (blk_cell BK201.out 0).trans rfl, (blk_cell BK201.out 1).trans rfl, (blk_cell BK201.out 2).trans rfl⟩ (fun hHeld => ?_)
              clear hK K
              refine norm_ (a' := ?_) ?_ ?_
              rotate_left
              ·show Act.put _ (some 83) _ = _
               simp only [Act.put, List.setIfInBounds_toArray, List.set_cons_zero, List.set_cons_succ, i64_w, i32_w]
               rfl
              refine two_ (i := 4) (j := 8) (Ni := some 84) (Nj := some 14) #[true, true, true, true, true, false, false, false, false, false, false] #[true, true, true, true, false, false, false, false, true, false, false] rfl rfl rfl rfl (two_of HT_.out (by kernel_rfl)) (by decide) (by decide) (fun K hK => ?_) (fun K hK => ?_)
              ·skip
               refine goes_ Try.func19 (by kernel_rfl) rfl #[.agg #[.slice Ao137 t237.length co137], .agg #[.int .i64 t240, .int .i64 t241, .int .i64 t242]] (by rfl) rfl rfl zl ?_
               with_reducible refine (impl_PoolAdd.calls kj74 _ _ t237 t240 t241 t242 t243 t246 _ ?side1 ?side2 A124.out).mono ?_
               (case side1 => exact zc (Kd.R_reads' HO239.out).2.2)
               (case side2 => exact (Kd.R_reads' HO239.out).2.1)
               rintro e w138 ⟨v244, rfl, ho0, hb⟩
               refine ⟨_, rfl, ?_⟩
               have n0_ := Aside0.mk (Kd.R_elder' (zr HO_214000.out) (Kd.R_base ho0) hb)
               have n1_ := Aside0.mk (Kd.R_elder' (zr HO_218000.out) (Kd.R_base ho0) hb)
               have n2_ := Aside0.mk (Kd.R_elder' (zr HO_226000.out) (Kd.R_base ho0) hb)
               have n3_ := Aside0.mk (Kd.R_elder' (zr HO239.out) (Kd.R_base ho0) hb)
               have n4_ := Aside0.mk (Kd.R_lower (Kd.R_new' (Kd.R_new' (Kd.R_new' (Kd.R_new' ho0 (Kd.R_lt (zr HO_214000.out))) (Kd.R_lt (zr HO_218000.out))) (Kd.R_lt (zr HO_226000.out))) (Kd.R_lt (zr HO239.out))) (below_size (zb HB.out)))
               have n5_ := Aside0.mk (blk_below (zh BK200.out) hb)
               have n6_ := Aside0.mk (blk_below (zh BK201.out) hb)
               have n7_ := Aside0.mk (blk_below (zh BK213.out) hb)
               have n8_ := Aside0.mk (blk_below (zh BK217.out) hb)
               have n9_ := Aside0.mk (blk_below (zh BK225.out) hb)
               have n10_ := Aside0.mk (below_step (zb HB.out) hb)
               clear HO_214000
               clear HO_218000
               clear HO_226000
               clear HO239
               clear BK200
               clear BK201
               clear BK213
               clear BK217
               clear BK225
               clear HB
               have HO_214000 := n0_
               have HO_218000 := n1_
               have HO_226000 := n2_
               have HO239 := n3_
               have HO245 := n4_
               have BK200 := n5_
               have BK201 := n6_
               have BK213 := n7_
               have BK217 := n8_
               have BK225 := n9_
               have HB := n10_
               clear n0_ n1_ n2_ n3_ n4_ n5_ n6_ n7_ n8_ n9_ n10_
               (try clear hb)
               (try clear hb2)
               (try clear hk)
               (try clear hi)
               (try clear ho0)
               refine hK.out _ _ ⟨(blk_cell BK200.out 0).trans rfl, (blk_cell BK201.out 0).trans rfl, (blk_cell BK201.out 1).trans rfl, (blk_cell BK201.out 2).trans rfl⟩ (fun hHeld => ?_)
               clear hK K
               refine norm_ (a' := ?_) ?_ ?_
               rotate_left
               ·show Act.put _ (some 84) _ = _
                simp only [Act.put, List.setIfInBounds_toArray, List.set_cons_zero, List.set_cons_succ, i64_w, i32_w]
                rfl
               refine pure_ (i := 5) (N := some 79) (v := ?_) (a' := ?_) #[true, true, true, true, true, true, false, false, false, false, false] rfl rfl (any_of HT_.out (by kernel_rfl)) (fun _ _ _ h => h) (Or.inl ⟨by rfl, ?_⟩) ?_ ?_
               rotate_left
               ·intro w'
                go_simp
                with_reducible rfl
               rotate_left
               ·simp only [Act.put, List.setIfInBounds_toArray, List.set_cons_zero, List.set_cons_succ, i64_w, i32_w]
                rfl
               refine pure_ (i := 6) (N := some 85) (v := ?_) (a' := ?_) #[true, true, true, true, true, true, true, false, false, false, false] rfl rfl (any_of HT_.out (by kernel_rfl)) (fun _ _ _ h => h) (Or.inl ⟨by rfl, ?_⟩) ?_ ?_
               rotate_left
               ·intro w'
                go_simp
                with_reducible rfl
               rotate_left
               ·simp only [Act.put, List.setIfInBounds_toArray, List.set_cons_zero, List.set_cons_succ, i64_w, i32_w]
                rfl
               refine pure_ (i := 7) (N := some 86) (v := ?_) (a' := ?_) #[true, true, true, true, true, true, true, true, false, false, false] rfl rfl (any_of HT_.out (by kernel_rfl)) (fun _ _ _ h => h) (Or.inl ⟨by rfl, ?_⟩) ?_ ?_
               rotate_left
               ·intro w'
                go_simp
                with_reducible rfl
               rotate_left
               ·simp only [Act.put, List.setIfInBounds_toArray, List.set_cons_zero, List.set_cons_succ, i64_w, i32_w]
                rfl
               refine one_ (i := 8) (N := some 14) #[true, true, true, true, true, true, true, true, true, false, false] rfl rfl (one_of HT_.out (by kernel_rfl)) (by decide) (fun K hK => ?_)
               refine box_step ?hg (N := 14) ?hd (cs := #[.slice none 0 0]) (t := 30) ?hr ?_; (case hd => rfl); (case hg => rfl); (case hr => first | (go_simp; done) | (go_simp; rfl))
               intro gb247 hg w139 hbox hb
               have n0_ := Aside0.mk (Kd.R_below (zr HO_214000.out) hb)
               have n1_ := Aside0.mk (Kd.R_below (zr HO_218000.out) hb)
               have n2_ := Aside0.mk (Kd.R_below (zr HO_226000.out) hb)
               have n3_ := Aside0.mk (Kd.R_below (zr HO239.out) hb)
               have n4_ := Aside0.mk (Kd.R_below (zr HO245.out) hb)
               have n5_ := Aside0.mk (blk_below (zh BK200.out) hb)
               have n6_ := Aside0.mk (blk_below (zh BK201.out) hb)
               have n7_ := Aside0.mk (blk_below (zh BK213.out) hb)
               have n8_ := Aside0.mk (blk_below (zh BK217.out) hb)
               have n9_ := Aside0.mk (blk_below (zh BK225.out) hb)
               have n10_ := Aside0.mk (below_step (zb HB.out) hb)
               have n11_ := Aside0.mk (hbox)
               have n12_ := Aside0.mk ((by rw [hg]; exact (below_size (zb HB.out)) : w.heap.size ≤ gb247))
               have n13_ := Aside0.mk ((by rw [hg]; exact (below_size (zb HB.out)) : w.heap.size ≤ gb247))
               have n14_ := Aside0.mk ((by rw [hg]; exact Nat.ne_of_lt (blk_lt (zh BK200.out)) : gb200 ≠ gb247))
               have n15_ := Aside0.mk ((by rw [hg]; exact Nat.ne_of_gt (blk_lt (zh BK200.out)) : gb247 ≠ gb200))
               have n16_ := Aside0.mk ((by rw [hg]; exact Nat.ne_of_lt (blk_lt (zh BK201.out)) : gb201 ≠ gb247))
               have n17_ := Aside0.mk ((by rw [hg]; exact Nat.ne_of_gt (blk_lt (zh BK201.out)) : gb247 ≠ gb201))
               have n18_ := Aside0.mk ((by rw [hg]; exact Nat.ne_of_lt (blk_lt (zh BK213.out)) : gb213 ≠ gb247))
               have n19_ := Aside0.mk ((by rw [hg]; exact Nat.ne_of_gt (blk_lt (zh BK213.out)) : gb247 ≠ gb213))
               have n20_ := Aside0.mk ((by rw [hg]; exact Nat.ne_of_lt (blk_lt (zh BK217.out)) : gb217 ≠ gb247))
               have n21_ := Aside0.mk ((by rw [hg]; exact Nat.ne_of_gt (blk_lt (zh BK217.out)) : gb247 ≠ gb217))
               have n22_ := Aside0.mk ((by rw [hg]; exact Nat.ne_of_lt (blk_lt (zh BK225.out)) : gb225 ≠ gb247))
               have n23_ := Aside0.mk ((by rw [hg]; exact Nat.ne_of_gt (blk_lt (zh BK225.out)) : gb247 ≠ gb225))
               clear HO_214000
               clear HO_218000
               clear HO_226000
               clear HO239
               clear HO245
               clear BK200
               clear BK201
               clear BK213
               clear BK217
               clear BK225
               clear HB
               have HO_214000 := n0_
               have HO_218000 := n1_
               have HO_226000 := n2_
               have HO239 := n3_
               have HO245 := n4_
               have BK200 := n5_
               have BK201 := n6_
               have BK213 := n7_
               have BK217 := n8_
               have BK225 := n9_
               have HB := n10_
               have BK247 := n11_
               have GW247 := n12_
               have GE247 := n13_
               have NB200_247 := n14_
               have NB247_200 := n15_
               have NB201_247 := n16_
               have NB247_201 := n17_
               have NB213_247 := n18_
               have NB247_213 := n19_
               have NB217_247 := n20_
               have NB247_217 := n21_
               have NB225_247 := n22_
               have NB247_225 := n23_
               clear n0_ n1_ n2_ n3_ n4_ n5_ n6_ n7_ n8_ n9_ n10_ n11_ n12_ n13_ n14_ n15_ n16_ n17_ n18_ n19_ n20_ n21_ n22_ n23_
               clear hb hbox hg
               refine hK.out _ _ ⟨(blk_cell BK200.out 0).trans rfl, (blk_cell BK201.out 0).trans rfl, (blk_cell BK201.out 1).trans rfl, (blk_cell BK201.out 2).trans rfl⟩ (fun hHeld => ?_)
               clear hK K
               refine norm_ (a' := ?_) ?_ ?_
               rotate_left
               ·show Act.put _ (some 14) _ = _
                simp only [Act.put, List.setIfInBounds_toArray, List.set_cons_zero, List.set_cons_succ, i64_w, i32_w]
                rfl
               exact norm_ (by simp only [putAll, Act.put, List.setIfInBounds_toArray, List.set_cons_zero, List.set_cons_succ]) (hCont (.slice Ao137 t237.length co137, v244, gb247) _ ⟨hHeld, (by (with_reducible repeat (first | apply Kd.R_alloc | apply Kd.R_drewN | apply Kd.R_drew)); exact Kd.R_mono HO239.out (fun _ hk => ⟨hk.2, ⟨hk.1.1.1.2, ⟨hk.1.1.2, hk.1.2⟩⟩⟩)), (by (with_reducible repeat (first | apply Kd.R_alloc | apply Kd.R_drewN | apply Kd.R_drew)); exact Kd.R_mono HO245.out (fun _ hk => ⟨hk.2, ⟨hk.1.1.1.2, ⟨hk.1.1.2, hk.1.2⟩⟩⟩)), (by (with_reducible repeat (first | apply Kd.R_alloc | apply Kd.R_drewN | apply Kd.R_drew)); exact Kd.R_mono HO_214000.out (fun _ hk => ⟨hk.1.2, ⟨hk.2, ⟨hk.1.1.1, hk.1.1.2⟩⟩⟩)), (by (with_reducible repeat (first | apply Kd.R_alloc | apply Kd.R_drewN | apply Kd.R_drew)); exact Kd.R_mono HO_218000.out (fun _ hk => ⟨hk.1.2, ⟨hk.2, ⟨hk.1.1.1, hk.1.1.2⟩⟩⟩)), (by (with_reducible repeat (first | apply Kd.R_alloc | apply Kd.R_drewN | apply Kd.R_drew)); exact Kd.R_mono HO_226000.out (fun _ hk => ⟨hk.1.2, ⟨hk.2, ⟨hk.1.1.1, hk.1.1.2⟩⟩⟩)), (zh BK200.out), (zh BK201.out), (zh BK213.out), (zh BK217.out), (zh BK225.out), (zh BK247.out), GW247.out, GE247.out, NB200_247.out, NB247_200.out, NB201_247.out, NB247_201.out, NB213_247.out, NB247_213.out, NB217_247.out, NB247_217.out, NB225_247.out, NB247_225.out, (zb HB.out)⟩)
              ·skip
               refine box_step ?hg (N := 14) ?hd (cs := #[.slice none 0 0]) (t := 30) ?hr ?_; (case hd => rfl); (case hg => rfl); (case hr => first | (go_simp; done) | (go_simp; rfl))
               intro gb247 hg w137 hbox hb
               have n0_ := Aside0.mk (Kd.R_below (zr HO_214000.out) hb)
               have n1_ := Aside0.mk (Kd.R_below (zr HO_218000.out) hb)
               have n2_ := Aside0.mk (Kd.R_below (zr HO_226000.out) hb)
               have n3_ := Aside0.mk (Kd.R_below (zr HO239.out) hb)
               have n4_ := Aside0.mk (blk_below (zh BK200.out) hb)
               have n5_ := Aside0.mk (blk_below (zh BK201.out) hb)
               have n6_ := Aside0.mk (blk_below (zh BK213.out) hb)
               have n7_ := Aside0.mk (blk_below (zh BK217.out) hb)
               have n8_ := Aside0.mk (blk_below (zh BK225.out) hb)
               have n9_ := Aside0.mk (below_step (zb HB.out) hb)
               have n10_ := Aside0.mk (hbox)
               have n11_ := Aside0.mk ((by rw [hg]; exact (below_size (zb HB.out)) : w.heap.size ≤ gb247))
               have n12_ := Aside0.mk ((by rw [hg]; exact (below_size (zb HB.out)) : w.heap.size ≤ gb247))
               have n13_ := Aside0.mk ((by rw [hg]; exact Nat.ne_of_lt (blk_lt (zh BK200.out)) : gb200 ≠ gb247))
               have n14_ := Aside0.mk ((by rw [hg]; exact Nat.ne_of_gt (blk_lt (zh BK200.out)) : gb247 ≠ gb200))
               have n15_ := Aside0.mk ((by rw [hg]; exact Nat.ne_of_lt (blk_lt (zh BK201.out)) : gb201 ≠ gb247))
               have n16_ := Aside0.mk ((by rw [hg]; exact Nat.ne_of_gt (blk_lt (zh BK201.out)) : gb247 ≠ gb201))
               have n17_ := Aside0.mk ((by rw [hg]; exact Nat.ne_of_lt (blk_lt (zh BK213.out)) : gb213 ≠ gb247))
               have n18_ := Aside0.mk ((by rw [hg]; exact Nat.ne_of_gt (blk_lt (zh BK213.out)) : gb247 ≠ gb213))
               have n19_ := Aside0.mk ((by rw [hg]; exact Nat.ne_of_lt (blk_lt (zh BK217.out)) : gb217 ≠ gb247))
               have n20_ := Aside0.mk ((by rw [hg]; exact Nat.ne_of_gt (blk_lt (zh BK217.out)) : gb247 ≠ gb217))
               have n21_ := Aside0.mk ((by rw [hg]; exact Nat.ne_of_lt (blk_lt (zh BK225.out)) : gb225 ≠ gb247))
               have n22_ := Aside0.mk ((by rw [hg]; exact Nat.ne_of_gt (blk_lt (zh BK225.out)) : gb247 ≠ gb225))
               clear HO_214000
               clear HO_218000
               clear HO_226000
               clear HO239
               clear BK200
               clear BK201
               clear BK213
               clear BK217
               clear BK225
               clear HB
               have HO_214000 := n0_
               have HO_218000 := n1_
               have HO_226000 := n2_
               have HO239 := n3_
               have BK200 := n4_
               have BK201 := n5_
               have BK213 := n6_
               have BK217 := n7_
               have BK225 := n8_
               have HB := n9_
               have BK247 := n10_
               have GW247 := n11_
               have GE247 := n12_
               have NB200_247 := n13_
               have NB247_200 := n14_
               have NB201_247 := n15_
               have NB247_201 := n16_
               have NB213_247 := n17_
               have NB247_213 := n18_
               have NB217_247 := n19_
               have NB247_217 := n20_
               have NB225_247 := n21_
               have NB247_225 := n22_
               clear n0_ n1_ n2_ n3_ n4_ n5_ n6_ n7_ n8_ n9_ n10_ n11_ n12_ n13_ n14_ n15_ n16_ n17_ n18_ n19_ n20_ n21_ n22_
               clear hb hbox hg
               obtain ⟨Ao138, co138, eo138⟩ := Kd.R_slice HO239.out
               (first | subst eo138 | (injection eo138 with f1_ f2_ f3_; have f4_ := f1_.symm; have f5_ := f3_.symm; clear f1_ f2_ f3_; subst f4_; subst f5_))
               refine hK.out _ _ ⟨(blk_cell BK200.out 0).trans rfl, (blk_cell BK201.out 0).trans rfl, (blk_cell BK201.out 1).trans rfl, (blk_cell BK201.out 2).trans rfl⟩ (fun hHeld => ?_)
               clear hK K
               refine norm_ (a' := ?_) ?_ ?_
               rotate_left
               ·show Act.put _ (some 14) _ = _
                simp only [Act.put, List.setIfInBounds_toArray, List.set_cons_zero, List.set_cons_succ, i64_w, i32_w]
                rfl
               refine one_ (i := 4) (N := some 84) #[true, true, true, true, true, false, false, false, true, false, false] rfl rfl (one_of HT_.out (by kernel_rfl)) (by decide) (fun K hK => ?_)
               refine goes_ Try.func19 (by kernel_rfl) rfl #[.agg #[.slice Ao138 t237.length co138], .agg #[.int .i64 t240, .int .i64 t241, .int .i64 t242]] (by rfl) rfl rfl zl ?_
               with_reducible refine (impl_PoolAdd.calls kj74 _ _ t237 t240 t241 t242 t243 t246 _ ?side1 ?side2 A124.out).mono ?_
               (case side1 => exact zc (Kd.R_reads' HO239.out).2.2)
               (case side2 => exact (Kd.R_reads' HO239.out).2.1)
               rintro e w139 ⟨v244, rfl, ho0, hb⟩
               refine ⟨_, rfl, ?_⟩
               have n0_ := Aside0.mk (Kd.R_elder' (zr HO_214000.out) (Kd.R_base ho0) hb)
               have n1_ := Aside0.mk (Kd.R_elder' (zr HO_218000.out) (Kd.R_base ho0) hb)
               have n2_ := Aside0.mk (Kd.R_elder' (zr HO_226000.out) (Kd.R_base ho0) hb)
               have n3_ := Aside0.mk (Kd.R_elder' (zr HO239.out) (Kd.R_base ho0) hb)
               have n4_ := Aside0.mk (Kd.R_lower (Kd.R_new' (Kd.R_new' (Kd.R_new' (Kd.R_new' ho0 (Kd.R_lt (zr HO_214000.out))) (Kd.R_lt (zr HO_218000.out))) (Kd.R_lt (zr HO_226000.out))) (Kd.R_lt (zr HO239.out))) (below_size (zb HB.out)))
               have n5_ := Aside0.mk (blk_below (zh BK200.out) hb)
               have n6_ := Aside0.mk (blk_below (zh BK201.out) hb)
               have n7_ := Aside0.mk (blk_below (zh BK213.out) hb)
               have n8_ := Aside0.mk (blk_below (zh BK217.out) hb)
               have n9_ := Aside0.mk (blk_below (zh BK225.out) hb)
               have n10_ := Aside0.mk (blk_below (zh BK247.out) hb)
               have n11_ := Aside0.mk (below_step (zb HB.out) hb)
               clear HO_214000
               clear HO_218000
               clear HO_226000
               clear HO239
               clear BK200
               clear BK201
               clear BK213
               clear BK217
               clear BK225
               clear BK247
               clear HB
               have HO_214000 := n0_
               have HO_218000 := n1_
               have HO_226000 := n2_
               have HO239 := n3_
               have HO245 := n4_
               have BK200 := n5_
               have BK201 := n6_
               have BK213 := n7_
               have BK217 := n8_
               have BK225 := n9_
               have BK247 := n10_
               have HB := n11_
               clear n0_ n1_ n2_ n3_ n4_ n5_ n6_ n7_ n8_ n9_ n10_ n11_
               (try clear hb)
               (try clear hb2)
               (try clear hk)
               (try clear hi)
               (try clear ho0)
               refine hK.out _ _ ⟨(blk_cell BK200.out 0).trans rfl, (blk_cell BK201.out 0).trans rfl, (blk_cell BK201.out 1).trans rfl, (blk_cell BK201.out 2).trans rfl⟩ (fun hHeld => ?_)
               clear hK K
               refine norm_ (a' := ?_) ?_ ?_
               rotate_left
               ·show Act.put _ (some 84) _ = _
                simp only [Act.put, List.setIfInBounds_toArray, List.set_cons_zero, List.set_cons_succ, i64_w, i32_w]
                rfl
               refine pure_ (i := 5) (N := some 79) (v := ?_) (a' := ?_) #[true, true, true, true, true, true, false, false, true, false, false] rfl rfl (any_of HT_.out (by kernel_rfl)) (fun _ _ _ h => h) (Or.inl ⟨by rfl, ?_⟩) ?_ ?_
               rotate_left
               ·intro w'
                go_simp
                with_reducible rfl
               rotate_left
               ·simp only [Act.put, List.setIfInBounds_toArray, List.set_cons_zero, List.set_cons_succ, i64_w, i32_w]
                rfl
               refine pure_ (i := 6) (N := some 85) (v := ?_) (a' := ?_) #[true, true, true, true, true, true, true, false, true, false, false] rfl rfl (any_of HT_.out (by kernel_rfl)) (fun _ _ _ h => h) (Or.inl ⟨by rfl, ?_⟩) ?_ ?_
               rotate_left
               ·intro w'
                go_simp
                with_reducible rfl
               rotate_left
               ·simp only [Act.put, List.setIfInBounds_toArray, List.set_cons_zero, List.set_cons_succ, i64_w, i32_w]
                rfl
               refine pure_ (i := 7) (N := some 86) (v := ?_) (a' := ?_) #[true, true, true, true, true, true, true, true, true, false, false] rfl rfl (any_of HT_.out (by kernel_rfl)) (fun _ _ _ h => h) (Or.inl ⟨by rfl, ?_⟩) ?_ ?_
               rotate_left
               ·intro w'
                go_simp
                with_reducible rfl
               rotate_left
               ·simp only [Act.put, List.setIfInBounds_toArray, List.set_cons_zero, List.set_cons_succ, i64_w, i32_w]
                rfl
               exact norm_ (by simp only [putAll, Act.put, List.setIfInBounds_toArray, List.set_cons_zero, List.set_cons_succ]) (hCont (.slice Ao138 t237.length co138, v244, gb247) _ ⟨hHeld, (by (with_reducible repeat (first | apply Kd.R_alloc | apply Kd.R_drewN | apply Kd.R_drew)); exact Kd.R_mono HO239.out (fun _ hk => ⟨hk.2, ⟨hk.1.1.1.2, ⟨hk.1.1.2, hk.1.2⟩⟩⟩)), (by (with_reducible repeat (first | apply Kd.R_alloc | apply Kd.R_drewN | apply Kd.R_drew)); exact Kd.R_mono HO245.out (fun _ hk => ⟨hk.2, ⟨hk.1.1.1.2, ⟨hk.1.1.2, hk.1.2⟩⟩⟩)), (by (with_reducible repeat (first | apply Kd.R_alloc | apply Kd.R_drewN | apply Kd.R_drew)); exact Kd.R_mono HO_214000.out (fun _ hk => ⟨hk.1.2, ⟨hk.2, ⟨hk.1.1.1, hk.1.1.2⟩⟩⟩)), (by (with_reducible repeat (first | apply Kd.R_alloc | apply Kd.R_drewN | apply Kd.R_drew)); exact Kd.R_mono HO_218000.out (fun _ hk => ⟨hk.1.2, ⟨hk.2, ⟨hk.1.1.1, hk.1.1.2⟩⟩⟩)), (by (with_reducible repeat (first | apply Kd.R_alloc | apply Kd.R_drewN | apply Kd.R_drew)); exact Kd.R_mono HO_226000.out (fun _ hk => ⟨hk.1.2, ⟨hk.2, ⟨hk.1.1.1, hk.1.1.2⟩⟩⟩)), (zh BK200.out), (zh BK201.out), (zh BK213.out), (zh BK217.out), (zh BK225.out), (zh BK247.out), GW247.out, GE247.out, NB200_247.out, NB247_200.out, NB201_247.out, NB247_201.out, NB213_247.out, NB247_213.out, NB217_247.out, NB247_217.out, NB225_247.out, NB247_225.out, (zb HB.out)⟩)
             ·skip
              refine box_step ?hg (N := 14) ?hd (cs := #[.slice none 0 0]) (t := 30) ?hr ?_; (case hd => rfl); (case hg => rfl); (case hr => first | (go_simp; done) | (go_simp; rfl))
              intro gb247 hg w136 hbox hb
              have n0_ := Aside0.mk (Kd.R_below (zr HO_214000.out) hb)
              have n1_ := Aside0.mk (Kd.R_below (zr HO_218000.out) hb)
              have n2_ := Aside0.mk (Kd.R_below (zr HO_226000.out) hb)
              have n3_ := Aside0.mk (Kd.R_below (zr HO239.out) hb)
              have n4_ := Aside0.mk (blk_below (zh BK200.out) hb)
              have n5_ := Aside0.mk (blk_below (zh BK201.out) hb)
              have n6_ := Aside0.mk (blk_below (zh BK213.out) hb)
              have n7_ := Aside0.mk (blk_below (zh BK217.out) hb)
              have n8_ := Aside0.mk (blk_below (zh BK225.out) hb)
              have n9_ := Aside0.mk (below_step (zb HB.out) hb)
              have n10_ := Aside0.mk (hbox)
              have n11_ := Aside0.mk ((by rw [hg]; exact (below_size (zb HB.out)) : w.heap.size ≤ gb247))
              have n12_ := Aside0.mk ((by rw [hg]; exact (below_size (zb HB.out)) : w.heap.size ≤ gb247))
              have n13_ := Aside0.mk ((by rw [hg]; exact Nat.ne_of_lt (blk_lt (zh BK200.out)) : gb200 ≠ gb247))
              have n14_ := Aside0.mk ((by rw [hg]; exact Nat.ne_of_gt (blk_lt (zh BK200.out)) : gb247 ≠ gb200))
              have n15_ := Aside0.mk ((by rw [hg]; exact Nat.ne_of_lt (blk_lt (zh BK201.out)) : gb201 ≠ gb247))
              have n16_ := Aside0.mk ((by rw [hg]; exact Nat.ne_of_gt (blk_lt (zh BK201.out)) : gb247 ≠ gb201))
              have n17_ := Aside0.mk ((by rw [hg]; exact Nat.ne_of_lt (blk_lt (zh BK213.out)) : gb213 ≠ gb247))
              have n18_ := Aside0.mk ((by rw [hg]; exact Nat.ne_of_gt (blk_lt (zh BK213.out)) : gb247 ≠ gb213))
              have n19_ := Aside0.mk ((by rw [hg]; exact Nat.ne_of_lt (blk_lt (zh BK217.out)) : gb217 ≠ gb247))
              have n20_ := Aside0.mk ((by rw [hg]; exact Nat.ne_of_gt (blk_lt (zh BK217.out)) : gb247 ≠ gb217))
              have n21_ := Aside0.mk ((by rw [hg]; exact Nat.ne_of_lt (blk_lt (zh BK225.out)) : gb225 ≠ gb247))
              have n22_ := Aside0.mk ((by rw [hg]; exact Nat.ne_of_gt (blk_lt (zh BK225.out)) : gb247 ≠ gb225))
              clear HO_214000
              clear HO_218000
              clear HO_226000
              clear HO239
              clear BK200
              clear BK201
              clear BK213
              clear BK217
              clear BK225
              clear HB
              have HO_214000 := n0_
              have HO_218000 := n1_
              have HO_226000 := n2_
              have HO239 := n3_
              have BK200 := n4_
              have BK201 := n5_
              have BK213 := n6_
              have BK217 := n7_
              have BK225 := n8_
              have HB := n9_
              have BK247 := n10_
              have GW247 := n11_
              have GE247 := n12_
              have NB200_247 := n13_
              have NB247_200 := n14_
              have NB201_247 := n15_
              have NB247_201 := n16_
              have NB213_247 := n17_
              have NB247_213 := n18_
              have NB217_247 := n19_
              have NB247_217 := n20_
              have NB225_247 := n21_
              have NB247_225 := n22_
              clear n0_ n1_ n2_ n3_ n4_ n5_ n6_ n7_ n8_ n9_ n10_ n11_ n12_ n13_ n14_ n15_ n16_ n17_ n18_ n19_ n20_ n21_ n22_
              clear hb hbox hg
              refine hK.out _ _ ⟨(blk_cell BK200.out 0).trans rfl, (blk_cell BK201.out 0).trans rfl, (blk_cell BK201.out 1).trans rfl, (blk_cell BK201.out 2).trans rfl⟩ (fun hHeld => ?_)
              clear hK K
              refine norm_ (a' := ?_) ?_ ?_
              rotate_left
              ·show Act.put _ (some 14) _ = _
               simp only [Act.put, List.setIfInBounds_toArray, List.set_cons_zero, List.set_cons_succ, i64_w, i32_w]
               rfl
              refine one_ (i := 3) (N := some 83) #[true, true, true, true, false, false, false, false, true, false, false] rfl rfl (one_of HT_.out (by kernel_rfl)) (by decide) (fun K hK => ?_)
              refine goes_ Try.func18 (by kernel_rfl) rfl #[.agg #[.int .i64 a1_0, .int .i64 a1_1, .int .i64 a1_2]] (by rfl) rfl rfl zl ?_
              with_reducible refine (laws_toNode.calls a1_0 a1_1 a1_2 t240 t241 t242 _ A123.out).mono ?_
              rintro e w137 ⟨rfl, hb⟩
              refine ⟨_, rfl, ?_⟩
              have n0_ := Aside0.mk (Kd.R_below (zr HO_214000.out) hb)
              have n1_ := Aside0.mk (Kd.R_below (zr HO_218000.out) hb)
              have n2_ := Aside0.mk (Kd.R_below (zr HO_226000.out) hb)
              have n3_ := Aside0.mk (Kd.R_below (zr HO239.out) hb)
              have n4_ := Aside0.mk (blk_below (zh BK200.out) hb)
              have n5_ := Aside0.mk (blk_below (zh BK201.out) hb)
              have n6_ := Aside0.mk (blk_below (zh BK213.out) hb)
              have n7_ := Aside0.mk (blk_below (zh BK217.out) hb)
              have n8_ := Aside0.mk (blk_below (zh BK225.out) hb)
              have n9_ := Aside0.mk (blk_below (zh BK247.out) hb)
              have n10_ := Aside0.mk (below_step (zb HB.out) hb)
              clear HO_214000
              clear HO_218000
              clear HO_226000
              clear HO239
              clear BK200
              clear BK201
              clear BK213
              clear BK217
              clear BK225
              clear BK247
              clear HB
              have HO_214000 := n0_
              have HO_218000 := n1_
              have HO_226000 := n2_
              have HO239 := n3_
              have BK200 := n4_
              have BK201 := n5_
              have BK213 := n6_
              have BK217 := n7_
              have BK225 := n8_
              have BK247 := n9_
              have HB := n10_
              clear n0_ n1_ n2_ n3_ n4_ n5_ n6_ n7_ n8_ n9_ n10_
              (try clear hb)
              (try clear hb2)
              (try clear hk)
              (try clear hi)
              obtain ⟨Ao138, co138, eo138⟩ := Kd.R_slice HO239.out
              (first | subst eo138 | (injection eo138 with f1_ f2_ f3_; have f4_ := f1_.symm; have f5_ := f3_.symm; clear f1_ f2_ f3_; subst f4_; subst f5_))
              refine hK.out _ _ ⟨(blk_cell BK200.out 0).trans rfl, (blk_cell BK201.out 0).trans rfl, (blk_cell BK201.out 1).trans rfl, (blk_cell BK201.out 2).trans rfl⟩ (fun hHeld => ?_)
              clear hK K
              refine norm_ (a' := ?_) ?_ ?_
              rotate_left
              ·show Act.put _ (some 83) _ = _
               simp only [Act.put, List.setIfInBounds_toArray, List.set_cons_zero, List.set_cons_succ, i64_w, i32_w]
               rfl
              refine one_ (i := 4) (N := some 84) #[true, true, true, true, true, false, false, false, true, false, false] rfl rfl (one_of HT_.out (by kernel_rfl)) (by decide) (fun K hK => ?_)
              refine goes_ Try.func19 (by kernel_rfl) rfl #[.agg #[.slice Ao138 t237.length co138], .agg #[.int .i64 t240, .int .i64 t241, .int .i64 t242]] (by rfl) rfl rfl zl ?_
              with_reducible refine (impl_PoolAdd.calls kj74 _ _ t237 t240 t241 t242 t243 t246 _ ?side1 ?side2 A124.out).mono ?_
              (case side1 => exact zc (Kd.R_reads' HO239.out).2.2)
              (case side2 => exact (Kd.R_reads' HO239.out).2.1)
              rintro e w139 ⟨v244, rfl, ho0, hb⟩
              refine ⟨_, rfl, ?_⟩
              have n0_ := Aside0.mk (Kd.R_elder' (zr HO_214000.out) (Kd.R_base ho0) hb)
              have n1_ := Aside0.mk (Kd.R_elder' (zr HO_218000.out) (Kd.R_base ho0) hb)
              have n2_ := Aside0.mk (Kd.R_elder' (zr HO_226000.out) (Kd.R_base ho0) hb)
              have n3_ := Aside0.mk (Kd.R_elder' (zr HO239.out) (Kd.R_base ho0) hb)
              have n4_ := Aside0.mk (Kd.R_lower (Kd.R_new' (Kd.R_new' (Kd.R_new' (Kd.R_new' ho0 (Kd.R_lt (zr HO_214000.out))) (Kd.R_lt (zr HO_218000.out))) (Kd.R_lt (zr HO_226000.out))) (Kd.R_lt (zr HO239.out))) (below_size (zb HB.out)))
              have n5_ := Aside0.mk (blk_below (zh BK200.out) hb)
              have n6_ := Aside0.mk (blk_below (zh BK201.out) hb)
              have n7_ := Aside0.mk (blk_below (zh BK213.out) hb)
              have n8_ := Aside0.mk (blk_below (zh BK217.out) hb)
              have n9_ := Aside0.mk (blk_below (zh BK225.out) hb)
              have n10_ := Aside0.mk (blk_below (zh BK247.out) hb)
              have n11_ := Aside0.mk (below_step (zb HB.out) hb)
              clear HO_214000
              clear HO_218000
              clear HO_226000
              clear HO239
              clear BK200
              clear BK201
              clear BK213
              clear BK217
              clear BK225
              clear BK247
              clear HB
              have HO_214000 := n0_
              have HO_218000 := n1_
              have HO_226000 := n2_
              have HO239 := n3_
              have HO245 := n4_
              have BK200 := n5_
              have BK201 := n6_
              have BK213 := n7_
              have BK217 := n8_
              have BK225 := n9_
              have BK247 := n10_
              have HB := n11_
              clear n0_ n1_ n2_ n3_ n4_ n5_ n6_ n7_ n8_ n9_ n10_ n11_
              (try clear hb)
              (try clear hb2)
              (try clear hk)
              (try clear hi)
              (try clear ho0)
              refine hK.out _ _ ⟨(blk_cell BK200.out 0).trans rfl, (blk_cell BK201.out 0).trans rfl, (blk_cell BK201.out 1).trans rfl, (blk_cell BK201.out 2).trans rfl⟩ (fun hHeld => ?_)
              clear hK K
              refine norm_ (a' := ?_) ?_ ?_
              rotate_left
              ·show Act.put _ (some 84) _ = _
               simp only [Act.put, List.setIfInBounds_toArray, List.set_cons_zero, List.set_cons_succ, i64_w, i32_w]
               rfl
              refine pure_ (i := 5) (N := some 79) (v := ?_) (a' := ?_) #[true, true, true, true, true, true, false, false, true, false, false] rfl rfl (any_of HT_.out (by kernel_rfl)) (fun _ _ _ h => h) (Or.inl ⟨by rfl, ?_⟩) ?_ ?_
              rotate_left
              ·intro w'
               go_simp
               with_reducible rfl
              rotate_left
              ·simp only [Act.put, List.setIfInBounds_toArray, List.set_cons_zero, List.set_cons_succ, i64_w, i32_w]
               rfl
              refine pure_ (i := 6) (N := some 85) (v := ?_) (a' := ?_) #[true, true, true, true, true, true, true, false, true, false, false] rfl rfl (any_of HT_.out (by kernel_rfl)) (fun _ _ _ h => h) (Or.inl ⟨by rfl, ?_⟩) ?_ ?_
              rotate_left
              ·intro w'
               go_simp
               with_reducible rfl
              rotate_left
              ·simp only [Act.put, List.setIfInBounds_toArray, List.set_cons_zero, List.set_cons_succ, i64_w, i32_w]
               rfl
              refine pure_ (i := 7) (N := some 86) (v := ?_) (a' := ?_) #[true, true, true, true, true, true, true, true, true, false, false] rfl rfl (any_of HT_.out (by kernel_rfl)) (fun _ _ _ h => h) (Or.inl ⟨by rfl, ?_⟩) ?_ ?_
              rotate_left
              ·intro w'
               go_simp
               with_reducible rfl
              rotate_left
              ·simp only [Act.put, List.setIfInBounds_toArray, List.set_cons_zero, List.set_cons_succ, i64_w, i32_w]
               rfl
              exact norm_ (by simp only [putAll, Act.put, List.setIfInBounds_toArray, List.set_cons_zero, List.set_cons_succ]) (hCont (.slice Ao138 t237.length co138, v244, gb247) _ ⟨hHeld, (by (with_reducible repeat (first | apply Kd.R_alloc | apply Kd.R_drewN | apply Kd.R_drew)); exact Kd.R_mono HO239.out (fun _ hk => ⟨hk.2, ⟨hk.1.1.1.2, ⟨hk.1.1.2, hk.1.2⟩⟩⟩)), (by (with_reducible repeat (first | apply Kd.R_alloc | apply Kd.R_drewN | apply Kd.R_drew)); exact Kd.R_mono HO245.out (fun _ hk => ⟨hk.2, ⟨hk.1.1.1.2, ⟨hk.1.1.2, hk.1.2⟩⟩⟩)), (by (with_reducible repeat (first | apply Kd.R_alloc | apply Kd.R_drewN | apply Kd.R_drew)); exact Kd.R_mono HO_214000.out (fun _ hk => ⟨hk.1.2, ⟨hk.2, ⟨hk.1.1.1, hk.1.1.2⟩⟩⟩)), (by (with_reducible repeat (first | apply Kd.R_alloc | apply Kd.R_drewN | apply Kd.R_drew)); exact Kd.R_mono HO_218000.out (fun _ hk => ⟨hk.1.2, ⟨hk.2, ⟨hk.1.1.1, hk.1.1.2⟩⟩⟩)), (by (with_reducible repeat (first | apply Kd.R_alloc | apply Kd.R_drewN | apply Kd.R_drew)); exact Kd.R_mono HO_226000.out (fun _ hk => ⟨hk.1.2, ⟨hk.2, ⟨hk.1.1.1, hk.1.1.2⟩⟩⟩)), (zh BK200.out), (zh BK201.out), (zh BK213.out), (zh BK217.out), (zh BK225.out), (zh BK247.out), GW247.out, GE247.out, NB200_247.out, NB247_200.out, NB201_247.out, NB247_201.out, NB213_247.out, NB247_213.out, NB217_247.out, NB247_217.out, NB225_247.out, NB247_225.out, (zb HB.out)⟩)
            ·skip
             refine box_step ?hg (N := 14) ?hd (cs := #[.slice none 0 0]) (t := 30) ?hr ?_; (case hd => rfl); (case hg => rfl); (case hr => first | (go_simp; done) | (go_simp; rfl))
             intro gb247 hg w135 hbox hb
             have n0_ := Aside0.mk (Kd.R_below (zr HO_214000.out) hb)
             have n1_ := Aside0.mk (Kd.R_below (zr HO_218000.out) hb)
             have n2_ := Aside0.mk (Kd.R_below (zr HO_226000.out) hb)
             have n3_ := Aside0.mk (blk_below (zh BK200.out) hb)
             have n4_ := Aside0.mk (blk_below (zh BK201.out) hb)
             have n5_ := Aside0.mk (blk_below (zh BK213.out) hb)
             have n6_ := Aside0.mk (blk_below (zh BK217.out) hb)
             have n7_ := Aside0.mk (blk_below (zh BK225.out) hb)
             have n8_ := Aside0.mk (below_step (zb HB.out) hb)
             have n9_ := Aside0.mk (hbox)
             have n10_ := Aside0.mk ((by rw [hg]; exact (below_size (zb HB.out)) : w.heap.size ≤ gb247))
             have n11_ := Aside0.mk ((by rw [hg]; exact (below_size (zb HB.out)) : w.heap.size ≤ gb247))
             have n12_ := Aside0.mk ((by rw [hg]; exact Nat.ne_of_lt (blk_lt (zh BK200.out)) : gb200 ≠ gb247))
             have n13_ := Aside0.mk ((by rw [hg]; exact Nat.ne_of_gt (blk_lt (zh BK200.out)) : gb247 ≠ gb200))
             have n14_ := Aside0.mk ((by rw [hg]; exact Nat.ne_of_lt (blk_lt (zh BK201.out)) : gb201 ≠ gb247))
             have n15_ := Aside0.mk ((by rw [hg]; exact Nat.ne_of_gt (blk_lt (zh BK201.out)) : gb247 ≠ gb201))
             have n16_ := Aside0.mk ((by rw [hg]; exact Nat.ne_of_lt (blk_lt (zh BK213.out)) : gb213 ≠ gb247))
             have n17_ := Aside0.mk ((by rw [hg]; exact Nat.ne_of_gt (blk_lt (zh BK213.out)) : gb247 ≠ gb213))
             have n18_ := Aside0.mk ((by rw [hg]; exact Nat.ne_of_lt (blk_lt (zh BK217.out)) : gb217 ≠ gb247))
             have n19_ := Aside0.mk ((by rw [hg]; exact Nat.ne_of_gt (blk_lt (zh BK217.out)) : gb247 ≠ gb217))
             have n20_ := Aside0.mk ((by rw [hg]; exact Nat.ne_of_lt (blk_lt (zh BK225.out)) : gb225 ≠ gb247))
             have n21_ := Aside0.mk ((by rw [hg]; exact Nat.ne_of_gt (blk_lt (zh BK225.out)) : gb247 ≠ gb225))
             clear HO_214000
             clear HO_218000
             clear HO_226000
             clear BK200
             clear BK201
             clear BK213
             clear BK217
             clear BK225
             clear HB
             have HO_214000 := n0_
             have HO_218000 := n1_
             have HO_226000 := n2_
             have BK200 := n3_
             have BK201 := n4_
             have BK213 := n5_
             have BK217 := n6_
             have BK225 := n7_
             have HB := n8_
             have BK247 := n9_
             have GW247 := n10_
             have GE247 := n11_
             have NB200_247 := n12_
             have NB247_200 := n13_
             have NB201_247 := n14_
             have NB247_201 := n15_
             have NB213_247 := n16_
             have NB247_213 := n17_
             have NB217_247 := n18_
             have NB247_217 := n19_
             have NB225_247 := n20_
             have NB247_225 := n21_
             clear n0_ n1_ n2_ n3_ n4_ n5_ n6_ n7_ n8_ n9_ n10_ n11_ n12_ n13_ n14_ n15_ n16_ n17_ n18_ n19_ n20_ n21_
             clear hb hbox hg
             refine hK.out _ _ ⟨(blk_cell BK200.out 0).trans rfl, (blk_cell BK201.out 0).trans rfl, (blk_cell BK201.out 1).trans rfl, (blk_cell BK201.out 2).trans rfl⟩ (fun hHeld => ?_)
             clear hK K
             refine norm_ (a' := ?_) ?_ ?_
             rotate_left
             ·show Act.put _ (some 14) _ = _
              simp only [Act.put, List.setIfInBounds_toArray, List.set_cons_zero, List.set_cons_succ, i64_w, i32_w]
              rfl
             refine one_ (i := 1) (N := some 81) #[true, true, true, false, false, false, false, false, true, false, false] rfl rfl (one_of HT_.out (by kernel_rfl)) (by decide) (fun K hK => ?_)
             refine goes_ Try.func17 (by kernel_rfl) rfl #[.agg #[.slice A0_0 l0_0.length c0_0]] (by rfl) rfl rfl zl ?_
             with_reducible refine (laws_toPool.calls kj74 _ _ l0_0 t237 _ ?side1 ?side2 A122.out).mono ?_
             (case side1 => exact zc (Kd.C_below HR0_0.out HB.out))
             (case side2 => exact HC0_0.out)
             rintro e w136 ⟨v238, rfl, ho0, hb⟩
             refine ⟨_, rfl, ?_⟩
             have n0_ := Aside0.mk (Kd.R_elder' (zr HO_214000.out) (Kd.R_base ho0) hb)
             have n1_ := Aside0.mk (Kd.R_elder' (zr HO_218000.out) (Kd.R_base ho0) hb)
             have n2_ := Aside0.mk (Kd.R_elder' (zr HO_226000.out) (Kd.R_base ho0) hb)
             have n3_ := Aside0.mk (Kd.R_lower (Kd.R_new' (Kd.R_new' (Kd.R_new' ho0 (Kd.R_lt (zr HO_214000.out))) (Kd.R_lt (zr HO_218000.out))) (Kd.R_lt (zr HO_226000.out))) (below_size (zb HB.out)))
             have n4_ := Aside0.mk (blk_below (zh BK200.out) hb)
             have n5_ := Aside0.mk (blk_below (zh BK201.out) hb)
             have n6_ := Aside0.mk (blk_below (zh BK213.out) hb)
             have n7_ := Aside0.mk (blk_below (zh BK217.out) hb)
             have n8_ := Aside0.mk (blk_below (zh BK225.out) hb)
             have n9_ := Aside0.mk (blk_below (zh BK247.out) hb)
             have n10_ := Aside0.mk (below_step (zb HB.out) hb)
             clear HO_214000
             clear HO_218000
             clear HO_226000
             clear BK200
             clear BK201
             clear BK213
             clear BK217
             clear BK225
             clear BK247
             clear HB
             have HO_214000 := n0_
             have HO_218000 := n1_
             have HO_226000 := n2_
             have HO239 := n3_
             have BK200 := n4_
             have BK201 := n5_
             have BK213 := n6_
             have BK217 := n7_
             have BK225 := n8_
             have BK247 := n9_
             have HB := n10_
             clear n0_ n1_ n2_ n3_ n4_ n5_ n6_ n7_ n8_ n9_ n10_
             (try clear hb)
             (try clear hb2)
             (try clear hk)
             (try clear hi)
             (try clear ho0)
             refine hK.out _ _ ⟨(blk_cell BK200.out 0).trans rfl, (blk_cell BK201.out 0).trans rfl, (blk_cell BK201.out 1).trans rfl, (blk_cell BK201.out 2).trans rfl⟩ (fun hHeld => ?_)
             clear hK K
             refine norm_ (a' := ?_) ?_ ?_
             rotate_left
             ·show Act.put _ (some 81) _ = _
              simp only [Act.put, List.setIfInBounds_toArray, List.set_cons_zero, List.set_cons_succ, i64_w, i32_w]
              rfl
             refine one_ (i := 3) (N := some 83) #[true, true, true, true, false, false, false, false, true, false, false] rfl rfl (one_of HT_.out (by kernel_rfl)) (by decide) (fun K hK => ?_)
             refine goes_ Try.func18 (by kernel_rfl) rfl #[.agg #[.int .i64 a1_0, .int .i64 a1_1, .int .i64 a1_2]] (by rfl) rfl rfl zl ?_
             with_reducible refine (laws_toNode.calls a1_0 a1_1 a1_2 t240 t241 t242 _ A123.out).mono ?_
             rintro e w137 ⟨rfl, hb⟩
             refine ⟨_, rfl, ?_⟩
             have n0_ := Aside0.mk (Kd.R_below (zr HO_214000.out) hb)
             have n1_ := Aside0.mk (Kd.R_below (zr HO_218000.out) hb)
             have n2_ := Aside0.mk (Kd.R_below (zr HO_226000.out) hb)
             have n3_ := Aside0.mk (Kd.R_below (zr HO239.out) hb)
             have n4_ := Aside0.mk (blk_below (zh BK200.out) hb)
             have n5_ := Aside0.mk (blk_below (zh BK201.out) hb)
             have n6_ := Aside0.mk (blk_below (zh BK213.out) hb)
             have n7_ := Aside0.mk (blk_below (zh BK217.out) hb)
             have n8_ := Aside0.mk (blk_below (zh BK225.out) hb)
             have n9_ := Aside0.mk (blk_below (zh BK247.out) hb)
             have n10_ := Aside0.mk (below_step (zb HB.out) hb)
             clear HO_214000
             clear HO_218000
             clear HO_226000
             clear HO239
             clear BK200
             clear BK201
             clear BK213
             clear BK217
             clear BK225
             clear BK247
             clear HB
             have HO_214000 := n0_
             have HO_218000 := n1_
             have HO_226000 := n2_
             have HO239 := n3_
             have BK200 := n4_
             have BK201 := n5_
             have BK213 := n6_
             have BK217 := n7_
             have BK225 := n8_
             have BK247 := n9_
             have HB := n10_
             clear n0_ n1_ n2_ n3_ n4_ n5_ n6_ n7_ n8_ n9_ n10_
             (try clear hb)
             (try clear hb2)
             (try clear hk)
             (try clear hi)
             obtain ⟨Ao138, co138, eo138⟩ := Kd.R_slice HO239.out
             (first | subst eo138 | (injection eo138 with f1_ f2_ f3_; have f4_ := f1_.symm; have f5_ := f3_.symm; clear f1_ f2_ f3_; subst f4_; subst f5_))
             refine hK.out _ _ ⟨(blk_cell BK200.out 0).trans rfl, (blk_cell BK201.out 0).trans rfl, (blk_cell BK201.out 1).trans rfl, (blk_cell BK201.out 2).trans rfl⟩ (fun hHeld => ?_)
             clear hK K
             refine norm_ (a' := ?_) ?_ ?_
             rotate_left
             ·show Act.put _ (some 83) _ = _
              simp only [Act.put, List.setIfInBounds_toArray, List.set_cons_zero, List.set_cons_succ, i64_w, i32_w]
              rfl
             refine one_ (i := 4) (N := some 84) #[true, true, true, true, true, false, false, false, true, false, false] rfl rfl (one_of HT_.out (by kernel_rfl)) (by decide) (fun K hK => ?_)
             refine goes_ Try.func19 (by kernel_rfl) rfl #[.agg #[.slice Ao138 t237.length co138], .agg #[.int .i64 t240, .int .i64 t241, .int .i64 t242]] (by rfl) rfl rfl zl ?_
             with_reducible refine (impl_PoolAdd.calls kj74 _ _ t237 t240 t241 t242 t243 t246 _ ?side1 ?side2 A124.out).mono ?_
             (case side1 => exact zc (Kd.R_reads' HO239.out).2.2)
             (case side2 => exact (Kd.R_reads' HO239.out).2.1)
             rintro e w139 ⟨v244, rfl, ho0, hb⟩
             refine ⟨_, rfl, ?_⟩
             have n0_ := Aside0.mk (Kd.R_elder' (zr HO_214000.out) (Kd.R_base ho0) hb)
             have n1_ := Aside0.mk (Kd.R_elder' (zr HO_218000.out) (Kd.R_base ho0) hb)
             have n2_ := Aside0.mk (Kd.R_elder' (zr HO_226000.out) (Kd.R_base ho0) hb)
             have n3_ := Aside0.mk (Kd.R_elder' (zr HO239.out) (Kd.R_base ho0) hb)
             have n4_ := Aside0.mk (Kd.R_lower (Kd.R_new' (Kd.R_new' (Kd.R_new' (Kd.R_new' ho0 (Kd.R_lt (zr HO_214000.out))) (Kd.R_lt (zr HO_218000.out))) (Kd.R_lt (zr HO_226000.out))) (Kd.R_lt (zr HO239.out))) (below_size (zb HB.out)))
             have n5_ := Aside0.mk (blk_below (zh BK200.out) hb)
             have n6_ := Aside0.mk (blk_below (zh BK201.out) hb)
             have n7_ := Aside0.mk (blk_below (zh BK213.out) hb)
             have n8_ := Aside0.mk (blk_below (zh BK217.out) hb)
             have n9_ := Aside0.mk (blk_below (zh BK225.out) hb)
             have n10_ := Aside0.mk (blk_below (zh BK247.out) hb)
             have n11_ := Aside0.mk (below_step (zb HB.out) hb)
             clear HO_214000
             clear HO_218000
             clear HO_226000
             clear HO239
             clear BK200
             clear BK201
             clear BK213
             clear BK217
             clear BK225
             clear BK247
             clear HB
             have HO_214000 := n0_
             have HO_218000 := n1_
             have HO_226000 := n2_
             have HO239 := n3_
             have HO245 := n4_
             have BK200 := n5_
             have BK201 := n6_
             have BK213 := n7_
             have BK217 := n8_
             have BK225 := n9_
             have BK247 := n10_
             have HB := n11_
             clear n0_ n1_ n2_ n3_ n4_ n5_ n6_ n7_ n8_ n9_ n10_ n11_
             (try clear hb)
             (try clear hb2)
             (try clear hk)
             (try clear hi)
             (try clear ho0)
             refine hK.out _ _ ⟨(blk_cell BK200.out 0).trans rfl, (blk_cell BK201.out 0).trans rfl, (blk_cell BK201.out 1).trans rfl, (blk_cell BK201.out 2).trans rfl⟩ (fun hHeld => ?_)
             clear hK K
             refine norm_ (a' := ?_) ?_ ?_
             rotate_left
             ·show Act.put _ (some 84) _ = _
              simp only [Act.put, List.setIfInBounds_toArray, List.set_cons_zero, List.set_cons_succ, i64_w, i32_w]
              rfl
             refine pure_ (i := 5) (N := some 79) (v := ?_) (a' := ?_) #[true, true, true, true, true, true, false, false, true, false, false] rfl rfl (any_of HT_.out (by kernel_rfl)) (fun _ _ _ h => h) (Or.inl ⟨by rfl, ?_⟩) ?_ ?_
             rotate_left
             ·intro w'
              go_simp
              with_reducible rfl
             rotate_left
             ·simp only [Act.put, List.setIfInBounds_toArray, List.set_cons_zero, List.set_cons_succ, i64_w, i32_w]
              rfl
             refine pure_ (i := 6) (N := some 85) (v := ?_) (a' := ?_) #[true, true, true, true, true, true, true, false, true, false, false] rfl rfl (any_of HT_.out (by kernel_rfl)) (fun _ _ _ h => h) (Or.inl ⟨by rfl, ?_⟩) ?_ ?_
             rotate_left
             ·intro w'
              go_simp
              with_reducible rfl
             rotate_left
             ·simp only [Act.put, List.setIfInBounds_toArray, List.set_cons_zero, List.set_cons_succ, i64_w, i32_w]
              rfl
             refine pure_ (i := 7) (N := some 86) (v := ?_) (a' := ?_) #[true, true, true, true, true, true, true, true, true, false, false] rfl rfl (any_of HT_.out (by kernel_rfl)) (fun _ _ _ h => h) (Or.inl ⟨by rfl, ?_⟩) ?_ ?_
             rotate_left
             ·intro w'
              go_simp
              with_reducible rfl
             rotate_left
             ·simp only [Act.put, List.setIfInBounds_toArray, List.set_cons_zero, List.set_cons_succ, i64_w, i32_w]
              rfl
             exact norm_ (by simp only [putAll, Act.put, List.setIfInBounds_toArray, List.set_cons_zero, List.set_cons_succ]) (hCont (.slice Ao138 t237.length co138, v244, gb247) _ ⟨hHeld, (by (with_reducible repeat (first | apply Kd.R_alloc | apply Kd.R_drewN | apply Kd.R_drew)); exact Kd.R_mono HO239.out (fun _ hk => ⟨hk.2, ⟨hk.1.1.1.2, ⟨hk.1.1.2, hk.1.2⟩⟩⟩)), (by (with_reducible repeat (first | apply Kd.R_alloc | apply Kd.R_drewN | apply Kd.R_drew)); exact Kd.R_mono HO245.out (fun _ hk => ⟨hk.2, ⟨hk.1.1.1.2, ⟨hk.1.1.2, hk.1.2⟩⟩⟩)), (by (with_reducible repeat (first | apply Kd.R_alloc | apply Kd.R_drewN | apply Kd.R_drew)); exact Kd.R_mono HO_214000.out (fun _ hk => ⟨hk.1.2, ⟨hk.2, ⟨hk.1.1.1, hk.1.1.2⟩⟩⟩)), (by (with_reducible repeat (first | apply Kd.R_alloc | apply Kd.R_drewN | apply Kd.R_drew)); exact Kd.R_mono HO_218000.out (fun _ hk => ⟨hk.1.2, ⟨hk.2, ⟨hk.1.1.1, hk.1.1.2⟩⟩⟩)), (by (with_reducible repeat (first | apply Kd.R_alloc | apply Kd.R_drewN | apply Kd.R_drew)); exact Kd.R_mono HO_226000.out (fun _ hk => ⟨hk.1.2, ⟨hk.2, ⟨hk.1.1.1, hk.1.1.2⟩⟩⟩)), (zh BK200.out), (zh BK201.out), (zh BK213.out), (zh BK217.out), (zh BK225.out), (zh BK247.out), GW247.out, GE247.out, NB200_247.out, NB247_200.out, NB201_247.out, NB247_201.out, NB213_247.out, NB247_213.out, NB217_247.out, NB247_217.out, NB225_247.out, NB247_225.out, (zb HB.out)⟩)
           rintro ⟨v238, v244, gb247⟩ w140 ⟨hS_, h0_, h1_, h2_, h3_, h4_, h5_, h6_, h7_, h8_, h9_, h10_, h11_, h12_, h13_, h14_, h15_, h16_, h17_, h18_, h19_, h20_, h21_, h22_, h23_⟩
           have n0_ : Aside0 (Kd.R k34 34 w140 w.heap.size (fun k_ => some k_ ≠ (v244 : Value).ownBlock ∧ some k_ ≠ (.slice Ao29 t209.length co29 : Value).ownBlock ∧ some k_ ≠ (.slice Ao35 t232.length co35 : Value).ownBlock ∧ some k_ ≠ (.slice Ao46 t221.length co46 : Value).ownBlock) v238 t237) := ⟨h0_⟩
           have n1_ : Aside0 (Kd.R k34 34 w140 w.heap.size (fun k_ => some k_ ≠ (v238 : Value).ownBlock ∧ some k_ ≠ (.slice Ao29 t209.length co29 : Value).ownBlock ∧ some k_ ≠ (.slice Ao35 t232.length co35 : Value).ownBlock ∧ some k_ ≠ (.slice Ao46 t221.length co46 : Value).ownBlock) v244 t243) := ⟨h1_⟩
           have n2_ : Aside0 (Kd.R k34 34 w140 w.heap.size (fun k_ => some k_ ≠ (v238 : Value).ownBlock ∧ some k_ ≠ (v244 : Value).ownBlock ∧ some k_ ≠ (.slice Ao35 t232.length co35 : Value).ownBlock ∧ some k_ ≠ (.slice Ao46 t221.length co46 : Value).ownBlock) (.slice Ao29 t209.length co29) t209) := ⟨h2_⟩
           have n3_ : Aside0 (Kd.R k34 34 w140 w.heap.size (fun k_ => some k_ ≠ (v238 : Value).ownBlock ∧ some k_ ≠ (v244 : Value).ownBlock ∧ some k_ ≠ (.slice Ao29 t209.length co29 : Value).ownBlock ∧ some k_ ≠ (.slice Ao46 t221.length co46 : Value).ownBlock) (.slice Ao35 t232.length co35) t232) := ⟨h3_⟩
           have n4_ : Aside0 (Kd.R k34 34 w140 w.heap.size (fun k_ => some k_ ≠ (v238 : Value).ownBlock ∧ some k_ ≠ (v244 : Value).ownBlock ∧ some k_ ≠ (.slice Ao29 t209.length co29 : Value).ownBlock ∧ some k_ ≠ (.slice Ao35 t232.length co35 : Value).ownBlock) (.slice Ao46 t221.length co46) t235) := ⟨h4_⟩
           have n5_ : Aside0 (w140.heap[gb200]? = some (.cells #[.slice A0_0 l0_0.length c0_0] 24 (0, 0))) := ⟨h5_⟩
           have n6_ : Aside0 (w140.heap[gb201]? = some (.cells #[.int .i64 a1_0, .int .i64 a1_1, .int .i64 a1_2] 26 (0, 0))) := ⟨h6_⟩
           have n7_ : Aside0 (w140.heap[gb213]? = some (.cells #[.slice Ao29 t209.length co29] 30 (0, 0))) := ⟨h7_⟩
           have n8_ : Aside0 (w140.heap[gb217]? = some (.cells #[.slice Ao35 t232.length co35] 30 (0, 0))) := ⟨h8_⟩
           have n9_ : Aside0 (w140.heap[gb225]? = some (.cells #[.slice Ao46 t221.length co46] 30 (0, 0))) := ⟨h9_⟩
           have n10_ : Aside0 (w140.heap[gb247]? = some (.cells #[.slice none 0 0] 30 (0, 0))) := ⟨h10_⟩
           have n11_ : Aside0 (w.heap.size ≤ gb247) := ⟨h11_⟩
           have n12_ : Aside0 (w.heap.size ≤ gb247) := ⟨h12_⟩
           have n13_ : Aside0 (gb200 ≠ gb247) := ⟨h13_⟩
           have n14_ : Aside0 (gb247 ≠ gb200) := ⟨h14_⟩
           have n15_ : Aside0 (gb201 ≠ gb247) := ⟨h15_⟩
           have n16_ : Aside0 (gb247 ≠ gb201) := ⟨h16_⟩
           have n17_ : Aside0 (gb213 ≠ gb247) := ⟨h17_⟩
           have n18_ : Aside0 (gb247 ≠ gb213) := ⟨h18_⟩
           have n19_ : Aside0 (gb217 ≠ gb247) := ⟨h19_⟩
           have n20_ : Aside0 (gb247 ≠ gb217) := ⟨h20_⟩
           have n21_ : Aside0 (gb225 ≠ gb247) := ⟨h21_⟩
           have n22_ : Aside0 (gb247 ≠ gb225) := ⟨h22_⟩
           have n23_ : Aside0 (Below w.heap.size w w140) := ⟨h23_⟩
           clear HO_214000
           clear HO_218000
           clear HO_226000
           clear BK200
           clear BK201
           clear BK213
           clear BK217
           clear BK225
           clear HB
           clear h0_ h1_ h2_ h3_ h4_ h5_ h6_ h7_ h8_ h9_ h10_ h11_ h12_ h13_ h14_ h15_ h16_ h17_ h18_ h19_ h20_ h21_ h22_ h23_
           have HO239 := n0_
           have HO245 := n1_
           have HO_214000 := n2_
           have HO_218000 := n3_
           have HO_226000 := n4_
           have BK200 := n5_
           have BK201 := n6_
           have BK213 := n7_
           have BK217 := n8_
           have BK225 := n9_
           have BK247 := n10_
           have GW247 := n11_
           have GE247 := n12_
           have NB200_247 := n13_
           have NB247_200 := n14_
           have NB201_247 := n15_
           have NB247_201 := n16_
           have NB213_247 := n17_
           have NB247_213 := n18_
           have NB217_247 := n19_
           have NB247_217 := n20_
           have NB225_247 := n21_
           have NB247_225 := n22_
           have HB := n23_
           clear n0_ n1_ n2_ n3_ n4_ n5_ n6_ n7_ n8_ n9_ n10_ n11_ n12_ n13_ n14_ n15_ n16_ n17_ n18_ n19_ n20_ n21_ n22_ n23_
           have hHeld : w140.cell? ⟨gb200, 0, none⟩ = some (.slice A0_0 l0_0.length c0_0) ∧ w140.cell? ⟨gb201, 0, none⟩ = some (.int .i64 a1_0) ∧ w140.cell? ⟨gb201, 1, none⟩ = some (.int .i64 a1_1) ∧ w140.cell? ⟨gb201, 2, none⟩ = some (.int .i64 a1_2) := hS_
           obtain ⟨Ao141, co141, eo141⟩ := Kd.R_slice HO245.out
           (first | subst eo141 | (injection eo141 with f1_ f2_ f3_; have f4_ := f1_.symm; have f5_ := f3_.symm; clear f1_ f2_ f3_; subst f4_; subst f5_))
           refine norm_ (a' := ?_) ?_ ?_
           rotate_left
           ·simp only [putAll, Act.put, List.setIfInBounds_toArray, List.set_cons_zero, List.set_cons_succ]
            rfl
           refine one_ (i := 9) (N := none) #[true, true, true, true, true, true, true, true, true, true, false] rfl rfl (one_of HT_.out (by kernel_rfl)) (by decide) (fun K hK => ?_)
           have hs142 : w140.cell? ⟨gb247, 0, none⟩ = some (.slice none 0 0) := (blk_cell BK247.out 0).trans rfl
           have hfs142 := blk_frozen BK247.out 0
           have hns142_0 := NB200_247.out
           have hns142_1 := NB201_247.out
           have hns142_2 := NB213_247.out
           have hns142_3 := NB217_247.out
           have hns142_4 := NB225_247.out
           have hms142_0 := NB247_200.out
           have hms142_1 := NB247_201.out
           have hms142_2 := NB247_213.out
           have hms142_3 := NB247_217.out
           have hms142_4 := NB247_225.out
           refine skip_ (w1 := ?_) (by rfl) rfl ?_ ?_
           rotate_left
           ·go_simp
            rfl
           refine hK.out _ _ ⟨((cell_far (p := ⟨gb247, _, none⟩) NB200_247.out _).trans (hHeld.1)), ((cell_far (p := ⟨gb247, _, none⟩) NB201_247.out _).trans (hHeld.2.1)), ((cell_far (p := ⟨gb247, _, none⟩) NB201_247.out _).trans (hHeld.2.2.1)), ((cell_far (p := ⟨gb247, _, none⟩) NB201_247.out _).trans (hHeld.2.2.2))⟩ (fun hHeld => ?_)
           clear hK K
           refine pure_ (i := 10) (N := some 15) (v := ?_) (a' := ?_) #[true, true, true, true, true, true, true, true, true, true, true] rfl rfl (any_of HT_.out (by kernel_rfl)) (fun _ _ _ h => h) (Or.inl ⟨by rfl, ?_⟩) ?_ ?_
           rotate_left
           ·intro w'
            go_simp
            with_reducible rfl
           rotate_left
           ·simp only [Act.put, List.setIfInBounds_toArray, List.set_cons_zero, List.set_cons_succ, i64_w, i32_w]
            rfl
           refine done_ (done_of HT_.out (by kernel_rfl)) ?_
           go_upto_region 25 with (fail)
           go_cut [95] (fun v95 wc => ∃ (kq : Nat) (x95_124 : Bool), v95 = .bool x95_124 ∧ Aside0 (laws_FnExactPoolAdd.j2 kq t234 x95_124 t235 = some r) ∧ Aside0 (kq ≤ kj74) ∧ Aside0 (Kd.R k34 34 wc w.heap.size (fun k_ => some k_ ≠ ((.slice Ao35 t232.length co35) : Value).ownBlock ∧ some k_ ≠ ((.slice Ao46 t221.length co46) : Value).ownBlock ∧ some k_ ≠ ((.slice Ao141 t243.length co141) : Value).ownBlock) (.slice Ao29 t209.length co29) t209) ∧ Aside0 (Kd.R k34 34 wc w.heap.size (fun k_ => some k_ ≠ ((.slice Ao29 t209.length co29) : Value).ownBlock ∧ some k_ ≠ ((.slice Ao46 t221.length co46) : Value).ownBlock ∧ some k_ ≠ ((.slice Ao141 t243.length co141) : Value).ownBlock) (.slice Ao35 t232.length co35) t232) ∧ Aside0 (Kd.R k34 34 wc w.heap.size (fun k_ => some k_ ≠ ((.slice Ao29 t209.length co29) : Value).ownBlock ∧ some k_ ≠ ((.slice Ao35 t232.length co35) : Value).ownBlock ∧ some k_ ≠ ((.slice Ao141 t243.length co141) : Value).ownBlock) (.slice Ao46 t221.length co46) t235) ∧ Aside0 (Kd.R k34 34 wc w.heap.size (fun k_ => some k_ ≠ ((.slice Ao29 t209.length co29) : Value).ownBlock ∧ some k_ ≠ ((.slice Ao35 t232.length co35) : Value).ownBlock ∧ some k_ ≠ ((.slice Ao46 t221.length co46) : Value).ownBlock) (.slice Ao141 t243.length co141) t243) ∧ Aside0 (wc.heap[gb200]? = some (.cells #[(.slice A0_0 l0_0.length c0_0)] 24 (0, 0))) ∧ Aside0 (wc.heap[gb201]? = some (.cells #[.int .i64 a1_0, .int .i64 a1_1, .int .i64 a1_2] 26 (0, 0))) ∧ Aside0 (wc.heap[gb213]? = some (.cells #[(.slice Ao29 t209.length co29)] 30 (0, 0))) ∧ Aside0 (wc.heap[gb217]? = some (.cells #[(.slice Ao35 t232.length co35)] 30 (0, 0))) ∧ Aside0 (wc.heap[gb225]? = some (.cells #[(.slice Ao46 t221.length co46)] 30 (0, 0))) ∧ Aside0 (wc.heap[gb247]? = some (.cells #[(.slice Ao141 t243.length co141)] 30 (0, 0))) ∧ Aside0 (Below w.heap.size w wc))
           case first =>
            have H := HC125.out
            clear HC125
            replace H := Option.bind_eq_some_iff.mp H
            obtain ⟨t248, A1430, H⟩ := H
            replace H : (if t248 = true then (laws_FnExactPoolAdd.j2 kj74 t234 (t246 != t212) t235) else (laws_FnExactPoolAdd.j2 kj74 t234 true t235)) = some r := H
            have A143 := Aside0.mk A1430
            clear A1430
            by_cases c144 : t248 = true
            ·subst c144
             have H1 : (laws_FnExactPoolAdd.j2 kj74 t234 (t246 != t212) t235) = some r := by rw [if_pos rfl] at H; exact H
             clear H
             have H := H1
             clear H1
             have H' := Aside0.mk H
             clear H
             have hnb145 := NB247_200.out
             have hnc145 := NB200_247.out
             have hnb146 := NB247_201.out
             have hnc146 := NB201_247.out
             have hnb147 := NB247_213.out
             have hnc147 := NB213_247.out
             have hnb148 := NB247_217.out
             have hnc148 := NB217_247.out
             have hnb149 := NB247_225.out
             have hnc149 := NB225_247.out
             have hcz150_0 : w140.cell? ⟨gb247, 0, none⟩ = some (.slice none 0 0) := (blk_cell BK247.out 0).trans rfl
             have hfz150_0 := blk_frozen BK247.out 0
             have hnb151 := NB213_200.out
             have hnc151 := NB200_213.out
             have hnb152 := NB213_201.out
             have hnc152 := NB201_213.out
             have hnb153 := NB213_217.out
             have hnc153 := NB217_213.out
             have hnb154 := NB213_225.out
             have hnc154 := NB225_213.out
             have hcz155_0 : w140.cell? ⟨gb213, 0, none⟩ = some (.slice Ao29 t209.length co29) := (blk_cell BK213.out 0).trans rfl
             have hfz155_0 := blk_frozen BK213.out 0
             go_wp2_with (first | ((with_reducible refine gate_callee (f := 20) rfl ?_); refine goesL_ (some 89) rfl rfl Try.func20 (by kernel_rfl) rfl #[.agg #[.slice Ao141 t243.length co141], .agg #[.slice Ao29 t209.length co29]] rfl zl ?_; (with_reducible refine (laws_eqPool.calls kj74 _ _ t243 _ _ t209 true _ ?side1 ?side2 ?side3 ?side4 A143.out).mono ?_); (case side1 => refine (Kd.R_reads' (e := 34) (base := w.heap.size) (ok := fun k_ => (some k_ ≠ (v238 : Value).ownBlock ∧ (some k_ ≠ (.slice Ao29 t209.length co29 : Value).ownBlock ∧ (some k_ ≠ (.slice Ao35 t232.length co35 : Value).ownBlock ∧ some k_ ≠ (.slice Ao46 t221.length co46 : Value).ownBlock)))) (n := t243.length) (c := co141) ?_).2.2; exact (by (with_reducible repeat (first | apply Kd.R_alloc | apply Kd.R_drewN | apply Kd.R_drew)); exact (Kd.R_mono (Kd.R_far (p := ⟨gb247, 0, none⟩) (Kd.R_types HO245.out BK247.out (by decide)) (fun _ hk => hk.2) (.slice Ao141 t243.length co141)) (fun _ h_ => h_.1)))); (case side2 => exact (Kd.R_reads' HO245.out).2.1); (case side3 => refine (Kd.R_reads' (e := 34) (base := w.heap.size) (ok := fun k_ => (some k_ ≠ (v238 : Value).ownBlock ∧ (some k_ ≠ (.slice Ao141 t243.length co141 : Value).ownBlock ∧ (some k_ ≠ (.slice Ao35 t232.length co35 : Value).ownBlock ∧ some k_ ≠ (.slice Ao46 t221.length co46 : Value).ownBlock)))) (n := t209.length) (c := co29) ?_).2.2; exact (by (with_reducible repeat (first | apply Kd.R_alloc | apply Kd.R_drewN | apply Kd.R_drew)); exact (Kd.R_mono (Kd.R_far (p := ⟨gb247, 0, none⟩) (Kd.R_types HO_214000.out BK247.out (by decide)) (fun _ hk => hk.2) (.slice Ao141 t243.length co141)) (fun _ h_ => h_.1)))); (case side4 => exact (Kd.R_reads' HO_214000.out).2.1); rintro e w156 ⟨rfl, hb⟩; refine ⟨_, rfl, ?_⟩; have n0_ := Aside0.mk (Kd.R_below (by (with_reducible repeat (first | apply Kd.R_alloc | apply Kd.R_drewN | apply Kd.R_drew)); exact (Kd.R_mono (Kd.R_far (p := ⟨gb247, 0, none⟩) (Kd.R_types HO_214000.out BK247.out (by decide)) (fun _ hk => hk.2) (.slice Ao141 t243.length co141)) (fun _ h_ => h_.1))) hb); have n1_ := Aside0.mk (Kd.R_below (by (with_reducible repeat (first | apply Kd.R_alloc | apply Kd.R_drewN | apply Kd.R_drew)); exact (Kd.R_mono (Kd.R_far (p := ⟨gb247, 0, none⟩) (Kd.R_types HO_218000.out BK247.out (by decide)) (fun _ hk => hk.2) (.slice Ao141 t243.length co141)) (fun _ h_ => h_.1))) hb); have n2_ := Aside0.mk (Kd.R_below (by (with_reducible repeat (first | apply Kd.R_alloc | apply Kd.R_drewN | apply Kd.R_drew)); exact (Kd.R_mono (Kd.R_far (p := ⟨gb247, 0, none⟩) (Kd.R_types HO_226000.out BK247.out (by decide)) (fun _ hk => hk.2) (.slice Ao141 t243.length co141)) (fun _ h_ => h_.1))) hb); have n3_ := Aside0.mk (Kd.R_below (by (with_reducible repeat (first | apply Kd.R_alloc | apply Kd.R_drewN | apply Kd.R_drew)); exact (Kd.R_mono (Kd.R_far (p := ⟨gb247, 0, none⟩) (Kd.R_types HO239.out BK247.out (by decide)) (fun _ hk => hk.2) (.slice Ao141 t243.length co141)) (fun _ h_ => h_.1))) hb); have n4_ := Aside0.mk (Kd.R_below (by (with_reducible repeat (first | apply Kd.R_alloc | apply Kd.R_drewN | apply Kd.R_drew)); exact (Kd.R_mono (Kd.R_far (p := ⟨gb247, 0, none⟩) (Kd.R_types HO245.out BK247.out (by decide)) (fun _ hk => hk.2) (.slice Ao141 t243.length co141)) (fun _ h_ => h_.1))) hb); have n5_ := Aside0.mk (blk_below (g := gb200) (o := .cells #[.slice A0_0 l0_0.length c0_0] 24 (0, 0)) (zf BK200.out) hb); have n6_ := Aside0.mk (blk_below (g := gb201) (o := .cells #[.int .i64 a1_0, .int .i64 a1_1, .int .i64 a1_2] 26 (0, 0)) (zf BK201.out) hb); have n7_ := Aside0.mk (blk_below (g := gb213) (o := .cells #[.slice Ao29 t209.length co29] 30 (0, 0)) (zf BK213.out) hb); have n8_ := Aside0.mk (blk_below (g := gb217) (o := .cells #[.slice Ao35 t232.length co35] 30 (0, 0)) (zf BK217.out) hb); have n9_ := Aside0.mk (blk_below (g := gb225) (o := .cells #[.slice Ao46 t221.length co46] 30 (0, 0)) (zf BK225.out) hb); have n10_ := Aside0.mk (blk_below (g := gb247) (o := .cells #[.slice Ao141 t243.length co141] 30 (0, 0)) (by (with_reducible repeat (first | refine blk_drewN ?_ _ | refine blk_drew ?_ | refine blk_alloc ?_ _)); refine blk_put (cs := #[.slice none 0 0]) ?_ 0 _ rfl; (with_reducible repeat (first | refine blk_drewN ?_ _ | refine blk_drew ?_ | refine blk_alloc ?_ _)); exact BK247.out) hb); have n11_ := Aside0.mk (below_step (zb HB.out) hb); clear HO_214000; clear HO_218000; clear HO_226000; clear HO239; clear HO245; clear BK200; clear BK201; clear BK213; clear BK217; clear BK225; clear BK247; clear HB; have HO_214000 := n0_; have HO_218000 := n1_; have HO_226000 := n2_; have HO239 := n3_; have HO245 := n4_; have BK200 := n5_; have BK201 := n6_; have BK213 := n7_; have BK217 := n8_; have BK225 := n9_; have BK247 := n10_; have HB := n11_; clear n0_ n1_ n2_ n3_ n4_ n5_ n6_ n7_ n8_ n9_ n10_ n11_; (try clear hb); (try clear hb2); (try clear hk); (try clear hi)))
             go_meet
             case rel => exact ⟨_, ((t246 != t212)), (by first | rfl | (simp; done) | (simp [*]; done)), H', ⟨by have := HJ15.out; have := HJ74.out; first | omega | exact Nat.le_refl _⟩, ⟨by (try simp only [hl218000_74]); (with_reducible repeat (first | apply Kd.R_alloc | apply Kd.R_drewN | apply Kd.R_drew)); exact Kd.R_mono HO_214000.out (fun _ hk => ⟨hk.2.2.1, ⟨hk.2.2.2, hk.2.1⟩⟩)⟩, ⟨by (try simp only [hl218000_74]); (with_reducible repeat (first | apply Kd.R_alloc | apply Kd.R_drewN | apply Kd.R_drew)); exact Kd.R_mono HO_218000.out (fun _ hk => ⟨hk.2.2.1, ⟨hk.2.2.2, hk.2.1⟩⟩)⟩, ⟨by (try simp only [hl218000_74]); (with_reducible repeat (first | apply Kd.R_alloc | apply Kd.R_drewN | apply Kd.R_drew)); exact Kd.R_mono HO_226000.out (fun _ hk => ⟨hk.2.2.1, ⟨hk.2.2.2, hk.2.1⟩⟩)⟩, ⟨by (try simp only [hl218000_74]); (with_reducible repeat (first | apply Kd.R_alloc | apply Kd.R_drewN | apply Kd.R_drew)); exact Kd.R_mono HO245.out (fun _ hk => ⟨hk.2.1, ⟨hk.2.2.1, hk.2.2.2⟩⟩)⟩, ⟨by (try simp only [hl218000_74]); (with_reducible repeat (first | refine blk_drewN ?_ _ | refine blk_drew ?_ | refine blk_alloc ?_ _)); exact BK200.out⟩, ⟨by (try simp only [hl218000_74]); (with_reducible repeat (first | refine blk_drewN ?_ _ | refine blk_drew ?_ | refine blk_alloc ?_ _)); exact BK201.out⟩, ⟨by (try simp only [hl218000_74]); (with_reducible repeat (first | refine blk_drewN ?_ _ | refine blk_drew ?_ | refine blk_alloc ?_ _)); exact BK213.out⟩, ⟨by (try simp only [hl218000_74]); (with_reducible repeat (first | refine blk_drewN ?_ _ | refine blk_drew ?_ | refine blk_alloc ?_ _)); exact BK217.out⟩, ⟨by (try simp only [hl218000_74]); (with_reducible repeat (first | refine blk_drewN ?_ _ | refine blk_drew ?_ | refine blk_alloc ?_ _)); exact BK225.out⟩, ⟨by (try simp only [hl218000_74]); (with_reducible repeat (first | refine blk_drewN ?_ _ | refine blk_drew ?_ | refine blk_alloc ?_ _)); exact BK247.out⟩, ⟨zb HB.out⟩⟩
            ·replace c144 := Bool.eq_false_iff.mpr c144
             subst c144
             have H1 : (laws_FnExactPoolAdd.j2 kj74 t234 true t235) = some r := by rw [if_neg (show ¬ (false = true) by decide)] at H; exact H
             clear H
             have H := H1
             clear H1
             have H' := Aside0.mk H
             clear H
             have hnb157 := NB247_200.out
             have hnc157 := NB200_247.out
             have hnb158 := NB247_201.out
             have hnc158 := NB201_247.out
             have hnb159 := NB247_213.out
             have hnc159 := NB213_247.out
             have hnb160 := NB247_217.out
             have hnc160 := NB217_247.out
             have hnb161 := NB247_225.out
             have hnc161 := NB225_247.out
             have hcz162_0 : w140.cell? ⟨gb247, 0, none⟩ = some (.slice none 0 0) := (blk_cell BK247.out 0).trans rfl
             have hfz162_0 := blk_frozen BK247.out 0
             have hnb163 := NB213_200.out
             have hnc163 := NB200_213.out
             have hnb164 := NB213_201.out
             have hnc164 := NB201_213.out
             have hnb165 := NB213_217.out
             have hnc165 := NB217_213.out
             have hnb166 := NB213_225.out
             have hnc166 := NB225_213.out
             have hcz167_0 : w140.cell? ⟨gb213, 0, none⟩ = some (.slice Ao29 t209.length co29) := (blk_cell BK213.out 0).trans rfl
             have hfz167_0 := blk_frozen BK213.out 0
             go_wp2_with (first | ((with_reducible refine gate_callee (f := 20) rfl ?_); refine goesL_ (some 89) rfl rfl Try.func20 (by kernel_rfl) rfl #[.agg #[.slice Ao141 t243.length co141], .agg #[.slice Ao29 t209.length co29]] rfl zl ?_; (with_reducible refine (laws_eqPool.calls kj74 _ _ t243 _ _ t209 false _ ?side1 ?side2 ?side3 ?side4 A143.out).mono ?_); (case side1 => refine (Kd.R_reads' (e := 34) (base := w.heap.size) (ok := fun k_ => (some k_ ≠ (v238 : Value).ownBlock ∧ (some k_ ≠ (.slice Ao29 t209.length co29 : Value).ownBlock ∧ (some k_ ≠ (.slice Ao35 t232.length co35 : Value).ownBlock ∧ some k_ ≠ (.slice Ao46 t221.length co46 : Value).ownBlock)))) (n := t243.length) (c := co141) ?_).2.2; exact (by (with_reducible repeat (first | apply Kd.R_alloc | apply Kd.R_drewN | apply Kd.R_drew)); exact (Kd.R_mono (Kd.R_far (p := ⟨gb247, 0, none⟩) (Kd.R_types HO245.out BK247.out (by decide)) (fun _ hk => hk.2) (.slice Ao141 t243.length co141)) (fun _ h_ => h_.1)))); (case side2 => exact (Kd.R_reads' HO245.out).2.1); (case side3 => refine (Kd.R_reads' (e := 34) (base := w.heap.size) (ok := fun k_ => (some k_ ≠ (v238 : Value).ownBlock ∧ (some k_ ≠ (.slice Ao141 t243.length co141 : Value).ownBlock ∧ (some k_ ≠ (.slice Ao35 t232.length co35 : Value).ownBlock ∧ some k_ ≠ (.slice Ao46 t221.length co46 : Value).ownBlock)))) (n := t209.length) (c := co29) ?_).2.2; exact (by (with_reducible repeat (first | apply Kd.R_alloc | apply Kd.R_drewN | apply Kd.R_drew)); exact (Kd.R_mono (Kd.R_far (p := ⟨gb247, 0, none⟩) (Kd.R_types HO_214000.out BK247.out (by decide)) (fun _ hk => hk.2) (.slice Ao141 t243.length co141)) (fun _ h_ => h_.1)))); (case side4 => exact (Kd.R_reads' HO_214000.out).2.1); rintro e w168 ⟨rfl, hb⟩; refine ⟨_, rfl, ?_⟩; have n0_ := Aside0.mk (Kd.R_below (by (with_reducible repeat (first | apply Kd.R_alloc | apply Kd.R_drewN | apply Kd.R_drew)); exact (Kd.R_mono (Kd.R_far (p := ⟨gb247, 0, none⟩) (Kd.R_types HO_214000.out BK247.out (by decide)) (fun _ hk => hk.2) (.slice Ao141 t243.length co141)) (fun _ h_ => h_.1))) hb); have n1_ := Aside0.mk (Kd.R_below (by (with_reducible repeat (first | apply Kd.R_alloc | apply Kd.R_drewN | apply Kd.R_drew)); exact (Kd.R_mono (Kd.R_far (p := ⟨gb247, 0, none⟩) (Kd.R_types HO_218000.out BK247.out (by decide)) (fun _ hk => hk.2) (.slice Ao141 t243.length co141)) (fun _ h_ => h_.1))) hb); have n2_ := Aside0.mk (Kd.R_below (by (with_reducible repeat (first | apply Kd.R_alloc | apply Kd.R_drewN | apply Kd.R_drew)); exact (Kd.R_mono (Kd.R_far (p := ⟨gb247, 0, none⟩) (Kd.R_types HO_226000.out BK247.out (by decide)) (fun _ hk => hk.2) (.slice Ao141 t243.length co141)) (fun _ h_ => h_.1))) hb); have n3_ := Aside0.mk (Kd.R_below (by (with_reducible repeat (first | apply Kd.R_alloc | apply Kd.R_drewN | apply Kd.R_drew)); exact (Kd.R_mono (Kd.R_far (p := ⟨gb247, 0, none⟩) (Kd.R_types HO239.out BK247.out (by decide)) (fun _ hk => hk.2) (.slice Ao141 t243.length co141)) (fun _ h_ => h_.1))) hb); have n4_ := Aside0.mk (Kd.R_below (by (with_reducible repeat (first | apply Kd.R_alloc | apply Kd.R_drewN | apply Kd.R_drew)); exact (Kd.R_mono (Kd.R_far (p := ⟨gb247, 0, none⟩) (Kd.R_types HO245.out BK247.out (by decide)) (fun _ hk => hk.2) (.slice Ao141 t243.length co141)) (fun _ h_ => h_.1))) hb); have n5_ := Aside0.mk (blk_below (g := gb200) (o := .cells #[.slice A0_0 l0_0.length c0_0] 24 (0, 0)) (zf BK200.out) hb); have n6_ := Aside0.mk (blk_below (g := gb201) (o := .cells #[.int .i64 a1_0, .int .i64 a1_1, .int .i64 a1_2] 26 (0, 0)) (zf BK201.out) hb); have n7_ := Aside0.mk (blk_below (g := gb213) (o := .cells #[.slice Ao29 t209.length co29] 30 (0, 0)) (zf BK213.out) hb); have n8_ := Aside0.mk (blk_below (g := gb217) (o := .cells #[.slice Ao35 t232.length co35] 30 (0, 0)) (zf BK217.out) hb); have n9_ := Aside0.mk (blk_below (g := gb225) (o := .cells #[.slice Ao46 t221.length co46] 30 (0, 0)) (zf BK225.out) hb); have n10_ := Aside0.mk (blk_below (g := gb247) (o := .cells #[.slice Ao141 t243.length co141] 30 (0, 0)) (by (with_reducible repeat (first | refine blk_drewN ?_ _ | refine blk_drew ?_ | refine blk_alloc ?_ _)); refine blk_put (cs := #[.slice none 0 0]) ?_ 0 _ rfl; (with_reducible repeat (first | refine blk_drewN ?_ _ | refine blk_drew ?_ | refine blk_alloc ?_ _)); exact BK247.out) hb); have n11_ := Aside0.mk (below_step (zb HB.out) hb); clear HO_214000; clear HO_218000; clear HO_226000; clear HO239; clear HO245; clear BK200; clear BK201; clear BK213; clear BK217; clear BK225; clear BK247; clear HB; have HO_214000 := n0_; have HO_218000 := n1_; have HO_226000 := n2_; have HO239 := n3_; have HO245 := n4_; have BK200 := n5_; have BK201 := n6_; have BK213 := n7_; have BK217 := n8_; have BK225 := n9_; have BK247 := n10_; have HB := n11_; clear n0_ n1_ n2_ n3_ n4_ n5_ n6_ n7_ n8_ n9_ n10_ n11_; (try clear hb); (try clear hb2); (try clear hk); (try clear hi)))
             go_meet
             case rel => exact ⟨_, (true), (by first | rfl | (simp; done) | (simp [*]; done)), H', ⟨by have := HJ15.out; have := HJ74.out; first | omega | exact Nat.le_refl _⟩, ⟨by (try simp only [hl218000_74]); (with_reducible repeat (first | apply Kd.R_alloc | apply Kd.R_drewN | apply Kd.R_drew)); exact Kd.R_mono HO_214000.out (fun _ hk => ⟨hk.2.2.1, ⟨hk.2.2.2, hk.2.1⟩⟩)⟩, ⟨by (try simp only [hl218000_74]); (with_reducible repeat (first | apply Kd.R_alloc | apply Kd.R_drewN | apply Kd.R_drew)); exact Kd.R_mono HO_218000.out (fun _ hk => ⟨hk.2.2.1, ⟨hk.2.2.2, hk.2.1⟩⟩)⟩, ⟨by (try simp only [hl218000_74]); (with_reducible repeat (first | apply Kd.R_alloc | apply Kd.R_drewN | apply Kd.R_drew)); exact Kd.R_mono HO_226000.out (fun _ hk => ⟨hk.2.2.1, ⟨hk.2.2.2, hk.2.1⟩⟩)⟩, ⟨by (try simp only [hl218000_74]); (with_reducible repeat (first | apply Kd.R_alloc | apply Kd.R_drewN | apply Kd.R_drew)); exact Kd.R_mono HO245.out (fun _ hk => ⟨hk.2.1, ⟨hk.2.2.1, hk.2.2.2⟩⟩)⟩, ⟨by (try simp only [hl218000_74]); (with_reducible repeat (first | refine blk_drewN ?_ _ | refine blk_drew ?_ | refine blk_alloc ?_ _)); exact BK200.out⟩, ⟨by (try simp only [hl218000_74]); (with_reducible repeat (first | refine blk_drewN ?_ _ | refine blk_drew ?_ | refine blk_alloc ?_ _)); exact BK201.out⟩, ⟨by (try simp only [hl218000_74]); (with_reducible repeat (first | refine blk_drewN ?_ _ | refine blk_drew ?_ | refine blk_alloc ?_ _)); exact BK213.out⟩, ⟨by (try simp only [hl218000_74]); (with_reducible repeat (first | refine blk_drewN ?_ _ | refine blk_drew ?_ | refine blk_alloc ?_ _)); exact BK217.out⟩, ⟨by (try simp only [hl218000_74]); (with_reducible repeat (first | refine blk_drewN ?_ _ | refine blk_drew ?_ | refine blk_alloc ?_ _)); exact BK225.out⟩, ⟨by (try simp only [hl218000_74]); (with_reducible repeat (first | refine blk_drewN ?_ _ | refine blk_drew ?_ | refine blk_alloc ?_ _)); exact BK247.out⟩, ⟨zb HB.out⟩⟩
           case rest =>
            clear HC125
            try clear c1
            try clear c2
            try clear p2
            try clear c14
            try clear c15
            try clear c16
            try clear c17
            try clear c18
            try clear c19
            try clear c20
            try clear c144
            try clear c145
            try clear c146
            try clear c147
            try clear c148
            try clear c149
            try clear c151
            try clear c152
            try clear c153
            try clear c154
            try clear c157
            try clear c158
            try clear c159
            try clear c160
            try clear c161
            try clear c163
            try clear c164
            try clear c165
            try clear c166
            try clear hcz150_0
            try clear hcz155_0
            try clear hcz162_0
            try clear hcz167_0
            try clear hfz150_0
            try clear hfz155_0
            try clear hfz162_0
            try clear hfz167_0
            obtain ⟨kq, x95_124, rfl, HA, HJ124, HO_214000, HO_218000, HO_226000, HO_248000, BK200, BK201, BK213, BK217, BK225, BK247, HB⟩ := hcut
            have hl226000_124 := (Kd.R_reads' HO_226000.out).1
            rw [hl226000_124] at HO_226000
            (try simp only [hl226000_124])
            (try simp only [hl226000_124] at BK200)
            (try simp only [hl226000_124] at BK201)
            (try simp only [hl226000_124] at BK213)
            (try simp only [hl226000_124] at BK217)
            (try simp only [hl226000_124] at BK225)
            (try simp only [hl226000_124] at BK247)
            (try simp only [hl226000_124] at HO_214000)
            (try simp only [hl226000_124] at HO_218000)
            (try simp only [hl226000_124] at HO_248000)
            cases kq with
            | zero => exact absurd HA.out (by simp [laws_FnExactPoolAdd.j2])
            | succ kj124 =>
             have H := HA.out
             clear HA
             simp only [laws_FnExactPoolAdd.j2] at H
             by_cases c169 : x95_124 = true
             ·subst c169
              have H1 : (some false) = some r := by rw [if_pos rfl] at H; exact H
              clear H
              have H := H1
              clear H1
              obtain rfl := Option.some.inj H
              go_wp2
              go_ret
              exact ⟨ze, zb HB.out⟩
             ·replace c169 := Bool.eq_false_iff.mpr c169
              subst c169
              have H1 : ((laws_heldPool.f kj124 t235 1).bind fun t249 => (if t249 < 0 then (some false) else (if t249 = t234 then (some true) else (some false)))) = some r := by rw [if_neg (show ¬ (false = true) by decide)] at H; exact H
              clear H
              have H := H1
              clear H1
              replace H := Option.bind_eq_some_iff.mp H
              obtain ⟨t249, A1700, H⟩ := H
              replace H : (if t249 < 0 then (some false) else (if t249 = t234 then (some true) else (some false))) = some r := H
              have A170 := Aside0.mk A1700
              clear A1700
              by_cases c171 : t249 < 0
              ·rw [if_pos c171] at H
               have c171b0 : decide (t249 < 0) = true := decide_eq_true c171
               clear c171
               obtain rfl := Option.some.inj H
               have hnb172 := NB225_200.out
               have hnc172 := NB200_225.out
               have hnb173 := NB225_201.out
               have hnc173 := NB201_225.out
               have hnb174 := NB225_213.out
               have hnc174 := NB213_225.out
               have hnb175 := NB225_217.out
               have hnc175 := NB217_225.out
               have hnb176 := NB225_247.out
               have hnc176 := NB247_225.out
               have hcz177_0 : wc.cell? ⟨gb225, 0, none⟩ = some (.slice Ao46 t235.length co46) := (blk_cell BK225.out 0).trans rfl
               have hfz177_0 := blk_frozen BK225.out 0
               go_wp2_with (first | ((with_reducible refine gate_callee (f := 22) rfl ?_); refine goesL_ (some 98) rfl rfl Try.func22 (by kernel_rfl) rfl #[.agg #[.slice Ao46 t235.length co46], .int .i64 1] rfl zl ?_; (with_reducible refine (laws_heldPool.calls kj124 _ _ t235 1 t249 _ ?side1 ?side2 A170.out).mono ?_); (case side1 => exact zc (Kd.R_reads' HO_226000.out).2.2); (case side2 => exact (Kd.R_reads' HO_226000.out).2.1); rintro e w178 ⟨rfl, hb⟩; refine ⟨_, rfl, ?_⟩; have n0_ := Aside0.mk (Kd.R_below (zr HO_214000.out) hb); have n1_ := Aside0.mk (Kd.R_below (zr HO_218000.out) hb); have n2_ := Aside0.mk (Kd.R_below (zr HO_226000.out) hb); have n3_ := Aside0.mk (Kd.R_below (zr HO_248000.out) hb); have n4_ := Aside0.mk (blk_below (zh BK200.out) hb); have n5_ := Aside0.mk (blk_below (zh BK201.out) hb); have n6_ := Aside0.mk (blk_below (zh BK213.out) hb); have n7_ := Aside0.mk (blk_below (zh BK217.out) hb); have n8_ := Aside0.mk (blk_below (zh BK225.out) hb); have n9_ := Aside0.mk (blk_below (zh BK247.out) hb); have n10_ := Aside0.mk (below_step (zb HB.out) hb); clear HO_214000; clear HO_218000; clear HO_226000; clear HO_248000; clear BK200; clear BK201; clear BK213; clear BK217; clear BK225; clear BK247; clear HB; have HO_214000 := n0_; have HO_218000 := n1_; have HO_226000 := n2_; have HO_248000 := n3_; have BK200 := n4_; have BK201 := n5_; have BK213 := n6_; have BK217 := n7_; have BK225 := n8_; have BK247 := n9_; have HB := n10_; clear n0_ n1_ n2_ n3_ n4_ n5_ n6_ n7_ n8_ n9_ n10_; (try clear hb); (try clear hb2); (try clear hk); (try clear hi)))
               go_ret
               exact ⟨ze, zb HB.out⟩
              ·rw [if_neg c171] at H
               have c171b0 : decide (t249 < 0) = false := decide_eq_false c171
               clear c171
               by_cases c179 : t249 = t234
               ·rw [if_pos c179] at H
                have c179b0 : (t249 == t234) = true := beq_iff_eq.mpr c179
                have c179b1 : (t249 != t234) = false := bne_eq_false_iff_eq.mpr c179
                clear c179
                obtain rfl := Option.some.inj H
                have hnb180 := NB225_200.out
                have hnc180 := NB200_225.out
                have hnb181 := NB225_201.out
                have hnc181 := NB201_225.out
                have hnb182 := NB225_213.out
                have hnc182 := NB213_225.out
                have hnb183 := NB225_217.out
                have hnc183 := NB217_225.out
                have hnb184 := NB225_247.out
                have hnc184 := NB247_225.out
                have hcz185_0 : wc.cell? ⟨gb225, 0, none⟩ = some (.slice Ao46 t235.length co46) := (blk_cell BK225.out 0).trans rfl
                have hfz185_0 := blk_frozen BK225.out 0
                go_wp2_with (first | ((with_reducible refine gate_callee (f := 22) rfl ?_); refine goesL_ (some 98) rfl rfl Try.func22 (by kernel_rfl) rfl #[.agg #[.slice Ao46 t235.length co46], .int .i64 1] rfl zl ?_; (with_reducible refine (laws_heldPool.calls kj124 _ _ t235 1 t249 _ ?side1 ?side2 A170.out).mono ?_); (case side1 => exact zc (Kd.R_reads' HO_226000.out).2.2); (case side2 => exact (Kd.R_reads' HO_226000.out).2.1); rintro e w186 ⟨rfl, hb⟩; refine ⟨_, rfl, ?_⟩; have n0_ := Aside0.mk (Kd.R_below (zr HO_214000.out) hb); have n1_ := Aside0.mk (Kd.R_below (zr HO_218000.out) hb); have n2_ := Aside0.mk (Kd.R_below (zr HO_226000.out) hb); have n3_ := Aside0.mk (Kd.R_below (zr HO_248000.out) hb); have n4_ := Aside0.mk (blk_below (zh BK200.out) hb); have n5_ := Aside0.mk (blk_below (zh BK201.out) hb); have n6_ := Aside0.mk (blk_below (zh BK213.out) hb); have n7_ := Aside0.mk (blk_below (zh BK217.out) hb); have n8_ := Aside0.mk (blk_below (zh BK225.out) hb); have n9_ := Aside0.mk (blk_below (zh BK247.out) hb); have n10_ := Aside0.mk (below_step (zb HB.out) hb); clear HO_214000; clear HO_218000; clear HO_226000; clear HO_248000; clear BK200; clear BK201; clear BK213; clear BK217; clear BK225; clear BK247; clear HB; have HO_214000 := n0_; have HO_218000 := n1_; have HO_226000 := n2_; have HO_248000 := n3_; have BK200 := n4_; have BK201 := n5_; have BK213 := n6_; have BK217 := n7_; have BK225 := n8_; have BK247 := n9_; have HB := n10_; clear n0_ n1_ n2_ n3_ n4_ n5_ n6_ n7_ n8_ n9_ n10_; (try clear hb); (try clear hb2); (try clear hk); (try clear hi)))
                go_ret
                exact ⟨ze, zb HB.out⟩
               ·rw [if_neg c179] at H
                have c179b0 : (t249 == t234) = false := beq_eq_false_iff_ne.mpr c179
                have c179b1 : (t249 != t234) = true := bne_iff_ne.mpr c179
                obtain rfl := Option.some.inj H
                have hnb187 := NB225_200.out
                have hnc187 := NB200_225.out
                have hnb188 := NB225_201.out
                have hnc188 := NB201_225.out
                have hnb189 := NB225_213.out
                have hnc189 := NB213_225.out
                have hnb190 := NB225_217.out
                have hnc190 := NB217_225.out
                have hnb191 := NB225_247.out
                have hnc191 := NB247_225.out
                have hcz192_0 : wc.cell? ⟨gb225, 0, none⟩ = some (.slice Ao46 t235.length co46) := (blk_cell BK225.out 0).trans rfl
                have hfz192_0 := blk_frozen BK225.out 0
                go_wp2_with (first | ((with_reducible refine gate_callee (f := 22) rfl ?_); refine goesL_ (some 98) rfl rfl Try.func22 (by kernel_rfl) rfl #[.agg #[.slice Ao46 t235.length co46], .int .i64 1] rfl zl ?_; (with_reducible refine (laws_heldPool.calls kj124 _ _ t235 1 t249 _ ?side1 ?side2 A170.out).mono ?_); (case side1 => exact zc (Kd.R_reads' HO_226000.out).2.2); (case side2 => exact (Kd.R_reads' HO_226000.out).2.1); rintro e w193 ⟨rfl, hb⟩; refine ⟨_, rfl, ?_⟩; have n0_ := Aside0.mk (Kd.R_below (zr HO_214000.out) hb); have n1_ := Aside0.mk (Kd.R_below (zr HO_218000.out) hb); have n2_ := Aside0.mk (Kd.R_below (zr HO_226000.out) hb); have n3_ := Aside0.mk (Kd.R_below (zr HO_248000.out) hb); have n4_ := Aside0.mk (blk_below (zh BK200.out) hb); have n5_ := Aside0.mk (blk_below (zh BK201.out) hb); have n6_ := Aside0.mk (blk_below (zh BK213.out) hb); have n7_ := Aside0.mk (blk_below (zh BK217.out) hb); have n8_ := Aside0.mk (blk_below (zh BK225.out) hb); have n9_ := Aside0.mk (blk_below (zh BK247.out) hb); have n10_ := Aside0.mk (below_step (zb HB.out) hb); clear HO_214000; clear HO_218000; clear HO_226000; clear HO_248000; clear BK200; clear BK201; clear BK213; clear BK217; clear BK225; clear BK247; clear HB; have HO_214000 := n0_; have HO_218000 := n1_; have HO_226000 := n2_; have HO_248000 := n3_; have BK200 := n4_; have BK201 := n5_; have BK213 := n6_; have BK217 := n7_; have BK225 := n8_; have BK247 := n9_; have HB := n10_; clear n0_ n1_ n2_ n3_ n4_ n5_ n6_ n7_ n8_ n9_ n10_; (try clear hb); (try clear hb2); (try clear hk); (try clear hi)))
                go_ret
                exact ⟨ze, zb HB.out⟩
          ·rw [if_neg c121] at H
           have c121b0 : (t236 == t234) = false := beq_eq_false_iff_ne.mpr c121
           have c121b1 : (t236 != t234) = true := bne_iff_ne.mpr c121
           obtain rfl := Option.some.inj H
           have hnb194 := NB225_200.out
           have hnc194 := NB200_225.out
           have hnb195 := NB225_201.out
           have hnc195 := NB201_225.out
           have hnb196 := NB225_213.out
           have hnc196 := NB213_225.out
           have hnb197 := NB225_217.out
           have hnc197 := NB217_225.out
           have hcz198_0 : wc.cell? ⟨gb225, 0, none⟩ = some (.slice Ao46 t221.length co46) := (blk_cell BK225.out 0).trans rfl
           have hfz198_0 := blk_frozen BK225.out 0
           go_wp2_with (first | ((with_reducible refine gate_callee (f := 21) rfl ?_); refine goesL_ (some 70) rfl rfl Try.func21 (by kernel_rfl) rfl #[.agg #[.slice Ao46 t221.length co46], .int .i64 1] rfl zl ?_; (with_reducible refine (laws_markPool.calls kj74 (fun k_ => some k_ = (.slice Ao46 t221.length co46 : Value).ownBlock) (.slice Ao46 t221.length co46) t221 1 t234 t235 w _ ?side1 ?side2 A110.out).mono ?_); (case side1 => repeat (first | (with_reducible first | exact HB.out | apply below_alloc | apply pw_below_drewN | apply below_drew1 | refine below_set ?_ GE200.out | refine below_set ?_ GE201.out | refine below_set ?_ GE213.out | refine below_set ?_ GE217.out | refine below_set ?_ GE225.out) | exact HB.out)); (case side2 => exact Kd.R_tight rfl HO_226000.out); rintro e w199 ⟨rfl, hy0, hb, hkp⟩; refine ⟨_, rfl, ?_⟩; have n0_ := Aside0.mk (Kd.R_mono (ok' := fun k_ => some k_ ≠ (.slice Ao35 t232.length co35 : Value).ownBlock ∧ some k_ ≠ (.slice Ao46 t221.length co46 : Value).ownBlock) (Kd.R_keptB (HO_214000.out) hkp (fun k_ hk_ hs_ => by first | exact (hk_.2) hs_ | (revert hk_; simp only [and_imp]; intros; exact absurd hs_ (by assumption)))) (fun k_ hk_ => by first | exact ⟨hk_.1.1, hk_.1.2⟩ | (revert hk_; simp only [and_imp]; intros; and_intros <;> assumption))); have n1_ := Aside0.mk (Kd.R_mono (ok' := fun k_ => some k_ ≠ (.slice Ao29 t209.length co29 : Value).ownBlock ∧ some k_ ≠ (.slice Ao46 t221.length co46 : Value).ownBlock) (Kd.R_keptB (HO_218000.out) hkp (fun k_ hk_ hs_ => by first | exact (hk_.2) hs_ | (revert hk_; simp only [and_imp]; intros; exact absurd hs_ (by assumption)))) (fun k_ hk_ => by first | exact ⟨hk_.1.1, hk_.1.2⟩ | (revert hk_; simp only [and_imp]; intros; and_intros <;> assumption))); have n2_ := Aside0.mk (Kd.R_reok rfl hy0 (fun k_ e_ => HO_226000.out.1 k_ e_)); have n3_ := Aside0.mk (blk_kept (zh BK200.out) hkp (fun hs_ => (fun e_ => (Kd.R_ne HO_226000.out BK200.out (by decide)) e_) hs_)); have n4_ := Aside0.mk (blk_kept (zh BK201.out) hkp (fun hs_ => (fun e_ => (Kd.R_ne HO_226000.out BK201.out (by decide)) e_) hs_)); have n5_ := Aside0.mk (blk_kept (zh BK213.out) hkp (fun hs_ => (fun e_ => (Kd.R_ne HO_226000.out BK213.out (by decide)) e_) hs_)); have n6_ := Aside0.mk (blk_kept (zh BK217.out) hkp (fun hs_ => (fun e_ => (Kd.R_ne HO_226000.out BK217.out (by decide)) e_) hs_)); have n7_ := Aside0.mk (blk_kept (zh BK225.out) hkp (fun hs_ => (fun e_ => (Kd.R_ne HO_226000.out BK225.out (by decide)) e_) hs_)); have n8_ := Aside0.mk (hb); clear HO_214000; clear HO_218000; clear HO_226000; clear BK200; clear BK201; clear BK213; clear BK217; clear BK225; clear HB; have HO_214000 := n0_; have HO_218000 := n1_; have HO_226000 := n2_; have BK200 := n3_; have BK201 := n4_; have BK213 := n5_; have BK217 := n6_; have BK225 := n7_; have HB := n8_; clear n0_ n1_ n2_ n3_ n4_ n5_ n6_ n7_ n8_; (try clear hb); (try clear hkp); (try clear hy0); have hcz200_0 : w199.cell? ⟨gb225, 0, none⟩ = some (.slice Ao46 t221.length co46) := (blk_cell BK225.out 0).trans rfl; have hfz200_0 := blk_frozen BK225.out 0) | ((with_reducible refine gate_callee (f := 22) rfl ?_); refine goesL_ (some 73) rfl rfl Try.func22 (by kernel_rfl) rfl #[.agg #[.slice Ao46 t235.length co46], .int .i64 1] rfl (by (try simp only [List.map_toArray, List.map_cons, List.map_nil]); first | done | (rw [show t235.length = t221.length from (Kd.R_reads' HO_226000.out).1.symm] <;> rfl) | rfl | (simp only [List.length_drop, List.length_take]; rfl)) ?_; (with_reducible refine (laws_heldPool.calls kj74 _ _ t235 1 t236 _ ?side1 ?side2 A111.out).mono ?_); (case side1 => exact zc (Kd.R_reads' HO_226000.out).2.2); (case side2 => rw [show t235.length = t221.length from (Kd.R_reads' HO_226000.out).1.symm]; exact (Kd.R_reads' HO_226000.out).2.1); rintro e w201 ⟨rfl, hb⟩; refine ⟨_, rfl, ?_⟩; have n0_ := Aside0.mk (Kd.R_below (zr HO_214000.out) hb); have n1_ := Aside0.mk (Kd.R_below (zr HO_218000.out) hb); have n2_ := Aside0.mk (Kd.R_below (zr HO_226000.out) hb); have n3_ := Aside0.mk (blk_below (zh BK200.out) hb); have n4_ := Aside0.mk (blk_below (zh BK201.out) hb); have n5_ := Aside0.mk (blk_below (zh BK213.out) hb); have n6_ := Aside0.mk (blk_below (zh BK217.out) hb); have n7_ := Aside0.mk (blk_below (zh BK225.out) hb); have n8_ := Aside0.mk (below_step (zb HB.out) hb); clear HO_214000; clear HO_218000; clear HO_226000; clear BK200; clear BK201; clear BK213; clear BK217; clear BK225; clear HB; have HO_214000 := n0_; have HO_218000 := n1_; have HO_226000 := n2_; have BK200 := n3_; have BK201 := n4_; have BK213 := n5_; have BK217 := n6_; have BK225 := n7_; have HB := n8_; clear n0_ n1_ n2_ n3_ n4_ n5_ n6_ n7_ n8_; (try clear hb); (try clear hb2); (try clear hk); (try clear hi)))
           go_ret
           exact ⟨ze, zb HB.out⟩
     ·replace c73 := Bool.eq_false_iff.mpr c73
      subst c73
      have H1 : (some false) = some r := by rw [if_neg (show ¬ (false = true) by decide)] at H; exact H
      clear H
      have H := H1
      clear H1
      obtain rfl := Option.some.inj H
      try go_wp2
      have n0_ := Aside0.mk (Kd.R_drew HO_214000.out)
      have n1_ := Aside0.mk (Kd.R_drew HO_218000.out)
      have n2_ := Aside0.mk (Kd.R_drew HO_226000.out)
      have n3_ := Aside0.mk (blk_drew BK200.out)
      have n4_ := Aside0.mk (blk_drew BK201.out)
      have n5_ := Aside0.mk (blk_drew BK213.out)
      have n6_ := Aside0.mk (blk_drew BK217.out)
      have n7_ := Aside0.mk (blk_drew BK225.out)
      have n8_ := Aside0.mk (below_drew1 HB.out)
      clear HO_214000
      clear HO_218000
      clear HO_226000
      clear BK200
      clear BK201
      clear BK213
      clear BK217
      clear BK225
      clear HB
      have HO_214000 := n0_
      have HO_218000 := n1_
      have HO_226000 := n2_
      have BK200 := n3_
      have BK201 := n4_
      have BK213 := n5_
      have BK217 := n6_
      have BK225 := n7_
      have HB := n8_
      clear n0_ n1_ n2_ n3_ n4_ n5_ n6_ n7_ n8_
      refine start_ (n := 5) (S := fun w' => w'.cell? ⟨gb217, 0, none⟩ = some (.slice Ao35 t214.length co35) ∧ w'.cell? ⟨gb200, 0, none⟩ = some (.slice A0_0 l0_0.length c0_0)) (ds := []) #[false, false, false, false, false] (by kernel_rfl) rfl rfl ⟨(blk_cell BK217.out 0).trans rfl, (blk_cell BK200.out 0).trans rfl⟩ (fun hHeld => ?_)
      generalize wc.drew = w202 at HO_214000 HO_218000 HO_226000 BK200 BK201 BK213 BK217 BK225 HB hHeld ⊢
      refine take_ (i := 0) (N := some 47) (v := ?_) (a' := ?_) #[true, false, false, false, false] rfl rfl (by kernel_rfl) (fun _ _ _ h => h) (Or.inl ⟨by rfl, ?_⟩) hHeld ?_ ?_
      rotate_left
      ·rintro w' ⟨s0, s1⟩
       go_simp
       with_reducible rfl
      rotate_left
      ·simp only [Act.put, List.setIfInBounds_toArray, List.set_cons_zero, List.set_cons_succ, i64_w, i32_w]
       rfl
      refine take_ (i := 1) (N := some 48) (v := ?_) (a' := ?_) #[true, true, false, false, false] rfl rfl (by kernel_rfl) (fun _ _ _ h => h) (Or.inl ⟨by rfl, ?_⟩) hHeld ?_ ?_
      rotate_left
      ·rintro w' ⟨s0, s1⟩
       go_simp
       with_reducible rfl
      rotate_left
      ·simp only [Act.put, List.setIfInBounds_toArray, List.set_cons_zero, List.set_cons_succ, i64_w, i32_w]
       rfl
      refine one_ (i := 2) (N := some 49) #[true, true, true, false, false] rfl rfl (by kernel_rfl) (by decide) (fun K hK => ?_)
      refine goes_ Try.func17 (by kernel_rfl) rfl #[.agg #[.slice A0_0 l0_0.length c0_0]] (by rfl) rfl rfl zl ?_
      with_reducible refine (laws_toPool.calls kj15 _ _ l0_0 t227 _ ?side1 ?side2 A71.out).mono ?_
      (case side1 => exact zc (Kd.C_below HR0_0.out HB.out))
      (case side2 => exact HC0_0.out)
      rintro e w203 ⟨v228, rfl, ho0, hb⟩
      refine ⟨_, rfl, ?_⟩
      have n0_ := Aside0.mk (Kd.R_elder' (zr HO_214000.out) (Kd.R_base ho0) hb)
      have n1_ := Aside0.mk (Kd.R_elder' (zr HO_218000.out) (Kd.R_base ho0) hb)
      have n2_ := Aside0.mk (Kd.R_elder' (zr HO_226000.out) (Kd.R_base ho0) hb)
      have n3_ := Aside0.mk (Kd.R_lower (Kd.R_new' (Kd.R_new' (Kd.R_new' ho0 (Kd.R_lt (zr HO_214000.out))) (Kd.R_lt (zr HO_218000.out))) (Kd.R_lt (zr HO_226000.out))) (below_size (zb HB.out)))
      have n4_ := Aside0.mk (blk_below (zh BK200.out) hb)
      have n5_ := Aside0.mk (blk_below (zh BK201.out) hb)
      have n6_ := Aside0.mk (blk_below (zh BK213.out) hb)
      have n7_ := Aside0.mk (blk_below (zh BK217.out) hb)
      have n8_ := Aside0.mk (blk_below (zh BK225.out) hb)
      have n9_ := Aside0.mk (below_step (zb HB.out) hb)
      clear HO_214000
      clear HO_218000
      clear HO_226000
      clear BK200
      clear BK201
      clear BK213
      clear BK217
      clear BK225
      clear HB
      have HO_214000 := n0_
      have HO_218000 := n1_
      have HO_226000 := n2_
      have HO229 := n3_
      have BK200 := n4_
      have BK201 := n5_
      have BK213 := n6_
      have BK217 := n7_
      have BK225 := n8_
      have HB := n9_
      clear n0_ n1_ n2_ n3_ n4_ n5_ n6_ n7_ n8_ n9_
      (try clear hb)
      (try clear hb2)
      (try clear hk)
      (try clear hi)
      (try clear ho0)
      obtain ⟨Ao204, co204, eo204⟩ := Kd.R_slice HO229.out
      (first | subst eo204 | (injection eo204 with f1_ f2_ f3_; have f4_ := f1_.symm; have f5_ := f3_.symm; clear f1_ f2_ f3_; subst f4_; subst f5_))
      refine hK.out _ _ ⟨(blk_cell BK217.out 0).trans rfl, (blk_cell BK200.out 0).trans rfl⟩ (fun hHeld => ?_)
      clear hK K
      refine norm_ (a' := ?_) ?_ ?_
      rotate_left
      ·show Act.put _ (some 49) _ = _
       simp only [Act.put, List.setIfInBounds_toArray, List.set_cons_zero, List.set_cons_succ, i64_w, i32_w]
       rfl
      refine one_ (i := 3) (N := some 50) #[true, true, true, true, false] rfl rfl (by kernel_rfl) (by decide) (fun K hK => ?_)
      refine goes_ Try.func20 (by kernel_rfl) rfl #[.agg #[.slice Ao35 t214.length co35], .agg #[.slice Ao204 t227.length co204]] (by rfl) rfl rfl zl ?_
      with_reducible refine (laws_eqPool.calls kj15 _ _ t214 _ _ t227 false _ ?side1 ?side2 ?side3 ?side4 A72.out).mono ?_
      (case side1 => exact zc (Kd.R_reads' HO_218000.out).2.2)
      (case side2 => exact (Kd.R_reads' HO_218000.out).2.1)
      (case side3 => exact zc (Kd.R_reads' HO229.out).2.2)
      (case side4 => exact (Kd.R_reads' HO229.out).2.1)
      rintro e w205 ⟨rfl, hb⟩
      refine ⟨_, rfl, ?_⟩
      have n0_ := Aside0.mk (Kd.R_below (zr HO_214000.out) hb)
      have n1_ := Aside0.mk (Kd.R_below (zr HO_218000.out) hb)
      have n2_ := Aside0.mk (Kd.R_below (zr HO_226000.out) hb)
      have n3_ := Aside0.mk (Kd.R_below (zr HO229.out) hb)
      have n4_ := Aside0.mk (blk_below (zh BK200.out) hb)
      have n5_ := Aside0.mk (blk_below (zh BK201.out) hb)
      have n6_ := Aside0.mk (blk_below (zh BK213.out) hb)
      have n7_ := Aside0.mk (blk_below (zh BK217.out) hb)
      have n8_ := Aside0.mk (blk_below (zh BK225.out) hb)
      have n9_ := Aside0.mk (below_step (zb HB.out) hb)
      clear HO_214000
      clear HO_218000
      clear HO_226000
      clear HO229
      clear BK200
      clear BK201
      clear BK213
      clear BK217
      clear BK225
      clear HB
      have HO_214000 := n0_
      have HO_218000 := n1_
      have HO_226000 := n2_
      have HO229 := n3_
      have BK200 := n4_
      have BK201 := n5_
      have BK213 := n6_
      have BK217 := n7_
      have BK225 := n8_
      have HB := n9_
      clear n0_ n1_ n2_ n3_ n4_ n5_ n6_ n7_ n8_ n9_
      (try clear hb)
      (try clear hb2)
      (try clear hk)
      (try clear hi)
      refine hK.out _ _ ⟨(blk_cell BK217.out 0).trans rfl, (blk_cell BK200.out 0).trans rfl⟩ (fun hHeld => ?_)
      clear hK K
      refine norm_ (a' := ?_) ?_ ?_
      rotate_left
      ·show Act.put _ (some 50) _ = _
       simp only [Act.put, List.setIfInBounds_toArray, List.set_cons_zero, List.set_cons_succ, i64_w, i32_w]
       rfl
      refine pure_ (i := 4) (N := some 51) (v := ?_) (a' := ?_) #[true, true, true, true, true] rfl rfl (by kernel_rfl) (fun _ _ _ h => h) (Or.inl ⟨by rfl, ?_⟩) ?_ ?_
      rotate_left
      ·intro w'
       go_simp
       with_reducible rfl
      rotate_left
      ·simp only [Act.put, List.setIfInBounds_toArray, List.set_cons_zero, List.set_cons_succ, i64_w, i32_w]
       rfl
      refine done_ (by kernel_rfl) ?_
      try go_wp2
      go_ret
      exact ⟨ze, zb HB.out⟩

end Go.Proofs.Ytafahnellnfclaa.B
