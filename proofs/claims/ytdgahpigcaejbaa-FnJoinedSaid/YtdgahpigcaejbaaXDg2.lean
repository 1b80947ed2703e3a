import Derived.Test.YtdgahpigcaejbaaXD0
import Derived.Test.YtdgahpigcaejbaaXDg1
import Derived.Test.YtdgahpigcaejbaaXDg0
section
-- Written by this session's program (wip/tools/gprint.py over the kit's print) out of the translation; Lean checks it.
namespace Go.Proofs.Ytdgahpigcaejbaa.D
open Go.RowKit Go.Proofs.YtdgahpigcaejbaaW.PrintWords Go.Proofs.YtdgahpigcaejbaaW.PrintLast Go.Proofs.YtdgahpigcaejbaaW.PrintMore
attribute [local go_sem] max2_int min2_int max_two min_two max_three min_three max_four min_four   -- for this text's walks alone
set_option linter.unusedVariables false
set_option linter.unusedSimpArgs false
set_option maxRecDepth 100000

/-! ### impl_KnowJoin: function 29 -/
def impl_KnowJoin.j0 : Nat → List Int → List Int → Bool → Option (List Int × Bool)
 | 0, _, _, _ => none
 | k + 1, x1, x2, x18 => if x18 = true then (some (([] : List Int), false)) else ((slices_Concat_int_int.f k (([x1, x2] : List (List Int)))).bind fun t188 => ((slices_Sort_int_int.f t188).bind fun t191 => ((slices_Compact_int_int.f t191).bind fun t192 => (if (t192.length : Int) > 200 then (some (([] : List Int), false)) else ((slices_Clip_int_int.f t192).bind fun t195 => (some (t195, true)))))))
def impl_KnowJoin.f (k : Nat) (l0_0 : List (S44)) (l1 : List Int) (l2 : List Int) : Option (List Int × Bool) := (impl_KnowOk.f k l0_0 l1).bind fun t183 => (if t183 = true then ((impl_KnowOk.f k l0_0 l2).bind fun t184 => (impl_KnowJoin.j0 k l1 l2 (!t184))) else (impl_KnowJoin.j0 k l1 l2 true))
theorem impl_KnowJoin.mono_l : ∀ k, (∀ y0 y1 y2, LeO (impl_KnowJoin.j0 k y0 y1 y2) (impl_KnowJoin.j0 (k + 1) y0 y1 y2))
 | 0 => fun _ _ _ r h => by simp [impl_KnowJoin.j0] at h
 | k + 1 => by
  have ih0 := impl_KnowJoin.mono_l k
  ·intro y0 y1 y2
   unfold impl_KnowJoin.j0
   repeat' first
   | (with_reducible exact ih0 _ _ _)
   | (with_reducible exact impl_KnowOk.mono _ _ _)
   | (with_reducible exact slices_Concat_int_int.mono _ _)
   | (with_reducible exact LeO.refl _)
   | (with_reducible exact LeO.none _)
   | (with_reducible refine LeO.ite ?_ ?_)
   | (with_reducible refine LeO.bind ?_ (fun _ => ?_))
   | exact ih0 _ _ _
   | exact impl_KnowOk.mono _ _ _
   | exact slices_Concat_int_int.mono _ _
   | exact LeO.none _
   | refine LeO.ite ?_ ?_
   | refine LeO.bind ?_ (fun _ => ?_)
theorem impl_KnowJoin.mono : ∀ a0 a1 a2 k, LeO (impl_KnowJoin.f k a0 a1 a2) (impl_KnowJoin.f (k + 1) a0 a1 a2) := by
 intro a0 a1 a2 k
 have ih0 := impl_KnowJoin.mono_l k
 unfold impl_KnowJoin.f
 repeat' first
   | (with_reducible exact ih0 _ _ _)
   | (with_reducible exact impl_KnowOk.mono _ _ _)
   | (with_reducible exact slices_Concat_int_int.mono _ _)
   | (with_reducible exact LeO.refl _)
   | (with_reducible exact LeO.none _)
   | (with_reducible refine LeO.ite ?_ ?_)
   | (with_reducible refine LeO.bind ?_ (fun _ => ?_))
   | exact ih0 _ _ _
   | exact impl_KnowOk.mono _ _ _
   | exact slices_Concat_int_int.mono _ _
   | exact LeO.none _
   | refine LeO.ite ?_ ?_
   | refine LeO.bind ?_ (fun _ => ?_)
set_option maxHeartbeats 8000000 in
set_option maxRecDepth 100000 in
theorem impl_KnowJoin.calls (k : Nat) (A0_0 : Option Addr) (c0_0 : Nat) (l0_0 : List (S44)) (P1_ : Nat → Prop) (A1 : Option Addr) (c1 : Nat) (l1 : List Int) (P2_ : Nat → Prop) (A2 : Option Addr) (c2 : Nat) (l2 : List Int) (r1 : List Int) (r2 : Bool) (w : World) (hr0_0 : Kd.C k44 w A0_0 l0_0.length l0_0) (hc0_0 : l0_0.length ≤ c0_0) (hs1 : Kd.V (Kd.int .i64) 3 w w.heap.size (fun k_ => P1_ k_) (.slice A1 l1.length c1) l1) (hs2 : Kd.V (Kd.int .i64) 3 w w.heap.size (fun k_ => P2_ k_) (.slice A2 l2.length c2) l2) (h : impl_KnowJoin.f k l0_0 l1 l2 = some (r1, r2)) :
  Calls Try.prog 29 #[.agg #[.slice A0_0 l0_0.length c0_0], .slice A1 l1.length c1, .slice A2 l2.length c2] w fun e w' => ∃ v0_ : Value, e = .returned (.tuple #[v0_, .bool r2]) ∧ Kd.V (Kd.int .i64) 3 w' w.heap.size (fun k_ => ((P1_ k_ ∨ P2_ k_) ∨ w.heap.size ≤ k_)) v0_ r1 ∧ Below w.heap.size w w' := by
 have hu30 := Try.underlying30
 have HR0_0 := Aside0.mk hr0_0
 have HC0_0 := Aside0.mk hc0_0
 clear hr0_0 hc0_0
 have HO1 := Aside0.mk (show Kd.V (Kd.int .i64) 3 w w.heap.size (fun k_ => ((P1_ k_ ∨ P2_ k_) ∨ w.heap.size ≤ k_)) (.slice A1 l1.length c1) l1 from Kd.V_mono hs1 (fun k_ hk => .inl (.inl hk)))
 have HO2 := Aside0.mk (show Kd.V (Kd.int .i64) 3 w w.heap.size (fun k_ => ((P1_ k_ ∨ P2_ k_) ∨ w.heap.size ≤ k_)) (.slice A2 l2.length c2) l2 from Kd.V_mono hs2 (fun k_ hk => .inl (.inr hk)))
 have HB := Aside0.mk (Below.refl w.heap.size w)
 have H : ((impl_KnowOk.f k l0_0 l1).bind fun t183 => (if t183 = true then ((impl_KnowOk.f k l0_0 l2).bind fun t184 => (impl_KnowJoin.j0 k l1 l2 (!t184))) else (impl_KnowJoin.j0 k l1 l2 true))) = some (r1, r2) := h
 clear h
 have HC4 := Aside0.mk H
 clear H
 go_enter Try.func29, Try.ntmps29
 go_upto_region 1 with (first | ((with_reducible refine gate_dst (N := 3) rfl ?_); refine box_event ?hg (N := 3) ?hd (cs := #[.slice A0_0 l0_0.length c0_0]) (t := 30) ?hr ?_; (case hd => rfl); (case hg => rfl); (case hr => first | (go_simp; done) | (go_simp; rfl)); intro gb182 hg w5 hbox hb; have n0_ := Aside0.mk (Kd.V_below (Kd.V_elderB (by (with_reducible repeat (first | apply Kd.V_alloc | apply Kd.V_drewN | apply Kd.V_drew)); exact HO1.out) gb182 (Nat.le_of_eq hg.symm)) hb); have n1_ := Aside0.mk (Kd.V_below (Kd.V_elderB (by (with_reducible repeat (first | apply Kd.V_alloc | apply Kd.V_drewN | apply Kd.V_drew)); exact HO2.out) gb182 (Nat.le_of_eq hg.symm)) hb); have n2_ := Aside0.mk (below_step (zb HB.out) hb); have n3_ := Aside0.mk (hbox); have n4_ := Aside0.mk ((by rw [hg]; exact (below_size (zb HB.out)) : w.heap.size ≤ gb182)); have n5_ := Aside0.mk ((by rw [hg]; exact (below_size (zb HB.out)) : w.heap.size ≤ gb182)); clear HO1; clear HO2; clear HB; have HO1 := n0_; have HO2 := n1_; have HB := n2_; have BK182 := n3_; have GW182 := n4_; have GE182 := n5_; clear n0_ n1_ n2_ n3_ n4_ n5_; clear hb hbox hg))
 (try simp only [Act.put, List.setIfInBounds_toArray, List.set_cons_zero, List.set_cons_succ])
 go_cut [18] (fun v18 wc => ∃ (kq : Nat) (x18_3 : Bool), v18 = .bool x18_3 ∧ Aside0 (impl_KnowJoin.j0 kq l1 l2 x18_3 = some (r1, r2)) ∧ Aside0 (kq ≤ k) ∧ Aside0 (Kd.V (Kd.int .i64) 3 wc w.heap.size (fun k_ => ((P1_ k_ ∨ P2_ k_) ∨ w.heap.size ≤ k_) ∧ k_ ≠ gb182) (.slice A1 l1.length c1) l1) ∧ Aside0 (Kd.V (Kd.int .i64) 3 wc w.heap.size (fun k_ => ((P1_ k_ ∨ P2_ k_) ∨ w.heap.size ≤ k_) ∧ k_ ≠ gb182) (.slice A2 l2.length c2) l2) ∧ Aside0 (wc.heap[gb182]? = some (.cells #[(.slice A0_0 l0_0.length c0_0)] 30 (0, 0))) ∧ Aside0 (Below w.heap.size w wc))
 case first =>
  have H := HC4.out
  clear HC4
  replace H := Option.bind_eq_some_iff.mp H
  obtain ⟨t183, A60, H⟩ := H
  replace H : (if t183 = true then ((impl_KnowOk.f k l0_0 l2).bind fun t184 => (impl_KnowJoin.j0 k l1 l2 (!t184))) else (impl_KnowJoin.j0 k l1 l2 true)) = some (r1, r2) := H
  have A6 := Aside0.mk A60
  clear A60
  by_cases c7 : t183 = true
  ·subst c7
   have H1 : ((impl_KnowOk.f k l0_0 l2).bind fun t184 => (impl_KnowJoin.j0 k l1 l2 (!t184))) = some (r1, r2) := by rw [if_pos rfl] at H; exact H
   clear H
   have H := H1
   clear H1
   replace H := Option.bind_eq_some_iff.mp H
   obtain ⟨t184, A80, H⟩ := H
   replace H : (impl_KnowJoin.j0 k l1 l2 (!t184)) = some (r1, r2) := H
   have A8 := Aside0.mk A80
   clear A80
   have H' := Aside0.mk H
   clear H
   have hcz9_0 : w5.cell? ⟨gb182, 0, none⟩ = some (.slice A0_0 l0_0.length c0_0) := (blk_cell BK182.out 0).trans rfl
   have hfz9_0 := blk_frozen BK182.out 0
   go_wp2_with (first | ((with_reducible refine gate_callee (f := 56) rfl ?_); refine goesL_ (some 11) rfl rfl Try.func56 (by kernel_rfl) rfl #[.agg #[.slice A0_0 l0_0.length c0_0], .slice A1 l1.length c1] rfl zl ?_; (with_reducible refine (impl_KnowOk.calls k _ _ l0_0 _ _ l1 true _ ?side1 ?side2 ?side3 ?side4 A6.out).mono ?_); (case side1 => exact zc (Kd.C_below HR0_0.out HB.out)); (case side2 => exact HC0_0.out); (case side3 => exact zc (Kd.V_reads' HO1.out).2.2); (case side4 => exact (Kd.V_reads' HO1.out).2.1); rintro e w10 ⟨rfl, hb⟩; refine ⟨_, rfl, ?_⟩; have n0_ := Aside0.mk (Kd.V_below (by (with_reducible repeat (first | apply Kd.V_alloc | apply Kd.V_drewN | apply Kd.V_drew)); exact HO1.out) hb); have n1_ := Aside0.mk (Kd.V_below (by (with_reducible repeat (first | apply Kd.V_alloc | apply Kd.V_drewN | apply Kd.V_drew)); exact HO2.out) hb); have n2_ := Aside0.mk (blk_below (zh BK182.out) hb); have n3_ := Aside0.mk (below_step (zb HB.out) hb); clear HO1; clear HO2; clear BK182; clear HB; have HO1 := n0_; have HO2 := n1_; have BK182 := n2_; have HB := n3_; clear n0_ n1_ n2_ n3_; (try clear hb); (try clear hb2); (try clear hk); (try clear hi); have hcz11_0 : w10.cell? ⟨gb182, 0, none⟩ = some (.slice A0_0 l0_0.length c0_0) := (blk_cell BK182.out 0).trans rfl; have hfz11_0 := blk_frozen BK182.out 0) | (go_at_call 56; (with_reducible refine (impl_KnowOk.calls k _ _ l0_0 _ _ l2 t184 _ ?side1 ?side2 ?side3 ?side4 A8.out).mono ?_); (case side1 => exact zc (Kd.C_below HR0_0.out HB.out)); (case side2 => exact HC0_0.out); (case side3 => exact zc (Kd.V_reads' HO2.out).2.2); (case side4 => exact (Kd.V_reads' HO2.out).2.1); rintro e w12 ⟨rfl, hb⟩; have n0_ := Aside0.mk (Kd.V_below (by (with_reducible repeat (first | apply Kd.V_alloc | apply Kd.V_drewN | apply Kd.V_drew)); exact HO1.out) hb); have n1_ := Aside0.mk (Kd.V_below (by (with_reducible repeat (first | apply Kd.V_alloc | apply Kd.V_drewN | apply Kd.V_drew)); exact HO2.out) hb); have n2_ := Aside0.mk (blk_below (zh BK182.out) hb); have n3_ := Aside0.mk (below_step (zb HB.out) hb); clear HO1; clear HO2; clear BK182; clear HB; have HO1 := n0_; have HO2 := n1_; have BK182 := n2_; have HB := n3_; clear n0_ n1_ n2_ n3_; (try clear hb); (try clear hb2); (try clear hk); (try clear hi)))
   go_meet
   case rel => exact ⟨_, (!t184), (by first | rfl | (simp; done) | (simp [*]; done)), H', ⟨by first | omega | exact Nat.le_refl _⟩, ⟨by (with_reducible repeat (first | apply Kd.V_alloc | apply Kd.V_drewN | apply Kd.V_drew)); exact HO1.out⟩, ⟨by (with_reducible repeat (first | apply Kd.V_alloc | apply Kd.V_drewN | apply Kd.V_drew)); exact HO2.out⟩, ⟨zh BK182.out⟩, ⟨zb HB.out⟩⟩
  ·replace c7 := Bool.eq_false_iff.mpr c7
   subst c7
   have H1 : (impl_KnowJoin.j0 k l1 l2 true) = some (r1, r2) := by rw [if_neg (show ¬ (false = true) by decide)] at H; exact H
   clear H
   have H := H1
   clear H1
   have H' := Aside0.mk H
   clear H
   have hcz13_0 : w5.cell? ⟨gb182, 0, none⟩ = some (.slice A0_0 l0_0.length c0_0) := (blk_cell BK182.out 0).trans rfl
   have hfz13_0 := blk_frozen BK182.out 0
   go_wp2_with (first | ((with_reducible refine gate_callee (f := 56) rfl ?_); refine goesL_ (some 11) rfl rfl Try.func56 (by kernel_rfl) rfl #[.agg #[.slice A0_0 l0_0.length c0_0], .slice A1 l1.length c1] rfl zl ?_; (with_reducible refine (impl_KnowOk.calls k _ _ l0_0 _ _ l1 false _ ?side1 ?side2 ?side3 ?side4 A6.out).mono ?_); (case side1 => exact zc (Kd.C_below HR0_0.out HB.out)); (case side2 => exact HC0_0.out); (case side3 => exact zc (Kd.V_reads' HO1.out).2.2); (case side4 => exact (Kd.V_reads' HO1.out).2.1); rintro e w14 ⟨rfl, hb⟩; refine ⟨_, rfl, ?_⟩; have n0_ := Aside0.mk (Kd.V_below (by (with_reducible repeat (first | apply Kd.V_alloc | apply Kd.V_drewN | apply Kd.V_drew)); exact HO1.out) hb); have n1_ := Aside0.mk (Kd.V_below (by (with_reducible repeat (first | apply Kd.V_alloc | apply Kd.V_drewN | apply Kd.V_drew)); exact HO2.out) hb); have n2_ := Aside0.mk (blk_below (zh BK182.out) hb); have n3_ := Aside0.mk (below_step (zb HB.out) hb); clear HO1; clear HO2; clear BK182; clear HB; have HO1 := n0_; have HO2 := n1_; have BK182 := n2_; have HB := n3_; clear n0_ n1_ n2_ n3_; (try clear hb); (try clear hb2); (try clear hk); (try clear hi)))
   go_meet
   case rel => exact ⟨_, (true), (by first | rfl | (simp; done) | (simp [*]; done)), H', ⟨by first | omega | exact Nat.le_refl _⟩, ⟨by (with_reducible repeat (first | apply Kd.V_alloc | apply Kd.V_drewN | apply Kd.V_drew)); exact HO1.out⟩, ⟨by (with_reducible repeat (first | apply Kd.V_alloc | apply Kd.V_drewN | apply Kd.V_drew)); exact HO2.out⟩, ⟨zh BK182.out⟩, ⟨zb HB.out⟩⟩
 case rest =>
  clear HC4
  try clear c1
  try clear c2
  try clear p2
  try clear c5
  try clear c7
  try clear hcz11_0
  try clear hcz13_0
  try clear hcz9_0
  try clear hfz11_0
  try clear hfz13_0
  try clear hfz9_0
  obtain ⟨kq, x18_3, rfl, HA, HJ3, HO_1, HO_2, BK182, HB⟩ := hcut
  cases kq with
  | zero => exact absurd HA.out (by simp [impl_KnowJoin.j0])
  | succ kj3 =>
   have H := HA.out
   clear HA
   simp only [impl_KnowJoin.j0] at H
   by_cases c15 : x18_3 = true
   ·subst c15
    have H1 : (some (([] : List Int), false)) = some (r1, r2) := by rw [if_pos rfl] at H; exact H
    clear H
    have H := H1
    clear H1
    simp only [Option.some.injEq, Prod.mk.injEq] at H
    obtain ⟨rfl, rfl⟩ := H
    go_wp2
    go_ret2
    exact ⟨_, ze, Kd.V_nil _ _ _ _ _, zb HB.out⟩
   ·replace c15 := Bool.eq_false_iff.mpr c15
    subst c15
    have H1 : ((slices_Concat_int_int.f kj3 (([l1, l2] : List (List Int)))).bind fun t188 => ((slices_Sort_int_int.f t188).bind fun t191 => ((slices_Compact_int_int.f t191).bind fun t192 => (if (t192.length : Int) > 200 then (some (([] : List Int), false)) else ((slices_Clip_int_int.f t192).bind fun t195 => (some (t195, true))))))) = some (r1, r2) := by rw [if_neg (show ¬ (false = true) by decide)] at H; exact H
    clear H
    have H := H1
    clear H1
    obtain ⟨y185, hy185⟩ : ∃ y_ : List (List Int), y_ = (([l1, l2] : List (List Int))) := ⟨_, rfl⟩
    replace H : ((slices_Concat_int_int.f kj3 y185).bind fun t188 => ((slices_Sort_int_int.f t188).bind fun t191 => ((slices_Compact_int_int.f t191).bind fun t192 => (if (t192.length : Int) > 200 then (some (([] : List Int), false)) else ((slices_Clip_int_int.f t192).bind fun t195 => (some (t195, true))))))) = some (r1, r2) := by first | (rw [hy185]; with_reducible exact H) | (have H2_ := (Option.bind_some _ _).symm.trans H; rw [hy185]; with_reducible exact H2_) | (have H2_ := (Option.bind_some _ _).symm.trans H; with_reducible exact H2_) | with_reducible exact H | (rw [hy185]; exact H) | exact H
    have Ny185 := Aside0.mk hy185
    clear hy185
    replace H := Option.bind_eq_some_iff.mp H
    obtain ⟨t188, A160, H⟩ := H
    replace H : ((slices_Sort_int_int.f t188).bind fun t191 => ((slices_Compact_int_int.f t191).bind fun t192 => (if (t192.length : Int) > 200 then (some (([] : List Int), false)) else ((slices_Clip_int_int.f t192).bind fun t195 => (some (t195, true)))))) = some (r1, r2) := H
    have A16 := Aside0.mk A160
    clear A160
    replace H := Option.bind_eq_some_iff.mp H
    obtain ⟨t191, A170, H⟩ := H
    replace H : ((slices_Compact_int_int.f t191).bind fun t192 => (if (t192.length : Int) > 200 then (some (([] : List Int), false)) else ((slices_Clip_int_int.f t192).bind fun t195 => (some (t195, true))))) = some (r1, r2) := H
    have A17 := Aside0.mk A170
    clear A170
    replace H := Option.bind_eq_some_iff.mp H
    obtain ⟨t192, A180, H⟩ := H
    replace H : (if (t192.length : Int) > 200 then (some (([] : List Int), false)) else ((slices_Clip_int_int.f t192).bind fun t195 => (some (t195, true)))) = some (r1, r2) := H
    have A18 := Aside0.mk A180
    clear A180
    by_cases c19 : (t192.length : Int) > 200
    ·rw [if_pos c19] at H
     have c19b0 : decide (200 < (t192.length : Int)) = true := decide_eq_true c19
     have c19b1 : decide (200 < t192.length) = true := decide_eq_true (by omega)
     clear c19
     simp only [Option.some.injEq, Prod.mk.injEq] at H
     obtain ⟨rfl, rfl⟩ := H
     go_wp2_with (first | ((with_reducible refine gate_dst (N := 21) rfl ?_); refine Kd.N_lit (Kd.slice 3 (Kd.int .i64)) _ 26 ?hg (N' := 21) ?hd (xs := ([l1, l2] : List (List Int))) (inner := [.slice A1 l1.length c1, .slice A2 l2.length c2]) (ok := (fun k_ => ((P1_ k_ ∨ P2_ k_) ∨ w.heap.size ≤ k_) ∧ k_ ≠ gb182)) (okp := (fun k_ => ((P1_ k_ ∨ P2_ k_) ∨ w.heap.size ≤ k_) ∧ k_ ≠ gb182)) ?hr ?hp (fun _ hk => hk) ((show ∀ k_, wc.heap.size ≤ k_ → (fun k_ => ((P1_ k_ ∨ P2_ k_) ∨ w.heap.size ≤ k_) ∧ k_ ≠ gb182) k_ from fun k_ hk => ⟨(.inr (Nat.le_trans (below_size (zb HB.out)) hk)), Kd.freshB (zh BK182.out) k_ hk⟩) _ (Nat.le_refl _)) (Below.refl _ _) (Nat.le_refl _) (by simp) ?_; (case hd => rfl); (case hg => rfl); (case hr => first | (go_simp; done) | (go_simp; rfl)); (case hp => exact (Reps.one (show Kd.FK (Kd.slice 3 (Kd.int .i64)) _ _ l1 [.slice A1 l1.length c1] from (Kd.FK_slice_mk (Kd.V_reads' (Kd.V_mono (ok' := (fun k_ => ((P1_ k_ ∨ P2_ k_) ∨ w.heap.size ≤ k_) ∧ k_ ≠ gb182)) (HO_1.out) (fun k_ hk => ⟨hk.1, hk.2⟩))).2.1 (Kd.V_F (Kd.V_mono (ok' := (fun k_ => ((P1_ k_ ∨ P2_ k_) ∨ w.heap.size ≤ k_) ∧ k_ ≠ gb182)) (HO_1.out) (fun k_ hk => ⟨hk.1, hk.2⟩))))) (Reps.one (show Kd.FK (Kd.slice 3 (Kd.int .i64)) _ _ l2 [.slice A2 l2.length c2] from (Kd.FK_slice_mk (Kd.V_reads' (Kd.V_mono (ok' := (fun k_ => ((P1_ k_ ∨ P2_ k_) ∨ w.heap.size ≤ k_) ∧ k_ ≠ gb182)) (HO_2.out) (fun k_ hk => ⟨hk.1, hk.2⟩))).2.1 (Kd.V_F (Kd.V_mono (ok' := (fun k_ => ((P1_ k_ ∨ P2_ k_) ∨ w.heap.size ≤ k_) ∧ k_ ≠ gb182)) (HO_2.out) (fun k_ hk => ⟨hk.1, hk.2⟩))))) (Reps.none _ _)))); intro v186 w20 ho21 hb hg_ hnew_; clear hg_ hnew_; (first | rw [← Ny185.out] at ho21 | (simp only [Int.reduceToNat] at ho21; rw [← Ny185.out] at ho21)); have n0_ := Aside0.mk (Kd.V_elder' (by (with_reducible repeat (first | apply Kd.V_alloc | apply Kd.V_drewN | apply Kd.V_drew)); exact HO_1.out) (Kd.N_base ho21) hb); have n1_ := Aside0.mk (Kd.V_elder' (by (with_reducible repeat (first | apply Kd.V_alloc | apply Kd.V_drewN | apply Kd.V_drew)); exact HO_2.out) (Kd.N_base ho21) hb); have n2_ := Aside0.mk (Kd.N_lower ho21 (below_size (zb HB.out))); have n3_ := Aside0.mk (blk_below (zh BK182.out) hb); have n4_ := Aside0.mk (below_step (zb HB.out) hb); clear HO_1; clear HO_2; clear BK182; clear HB; have HO_1 := n0_; have HO_2 := n1_; have HO187 := n2_; have BK182 := n3_; have HB := n4_; clear n0_ n1_ n2_ n3_ n4_; clear hb ho21; obtain ⟨Ao22, co22, eo22⟩ := Kd.N_slice HO187.out; subst eo22) | ((with_reducible refine gate_callee (f := 57) rfl ?_); refine goesL_ (some 22) rfl rfl Try.func57 (by kernel_rfl) rfl #[.slice Ao22 y185.length co22] rfl zl ?_; (with_reducible refine (slices_Concat_int_int.calls kj3 _ _ y185 t188 _ ?side1 ?side2 A16.out).mono ?_); (case side1 => exact zc (Kd.N_reads' HO187.out).2.2); (case side2 => exact (Kd.N_reads' HO187.out).2.1); rintro e w23 ⟨v189, rfl, ho0, hb⟩; refine ⟨_, rfl, ?_⟩; have n0_ := Aside0.mk (Kd.V_elder' (by (with_reducible repeat (first | apply Kd.V_alloc | apply Kd.V_drewN | apply Kd.V_drew)); exact HO_1.out) (Kd.R_base ho0) hb); have n1_ := Aside0.mk (Kd.V_elder' (by (with_reducible repeat (first | apply Kd.V_alloc | apply Kd.V_drewN | apply Kd.V_drew)); exact HO_2.out) (Kd.R_base ho0) hb); have n2_ := Aside0.mk (Kd.N_elder' (by (with_reducible repeat (first | apply Kd.N_alloc | apply Kd.N_drewN | apply Kd.N_drew)); exact HO187.out) (Kd.R_base ho0) hb); have n3_ := Aside0.mk (Kd.R_lower (Kd.R_newM (M := fun k_ => (w.heap.size ≤ k_)) ho0 (below_size (zb HB.out)) (fun k_ h_ => h_)) (below_size (zb HB.out))); have n4_ := Aside0.mk (blk_below (zh BK182.out) hb); have n5_ := Aside0.mk (below_step (zb HB.out) hb); clear HO_1; clear HO_2; clear HO187; clear BK182; clear HB; have HO_1 := n0_; have HO_2 := n1_; have HO187 := n2_; have HO190 := n3_; have BK182 := n4_; have HB := n5_; clear n0_ n1_ n2_ n3_ n4_ n5_; (try clear hb); (try clear hb2); (try clear hk); (try clear hi); (try clear ho0); obtain ⟨Ao24, co24, eo24⟩ := Kd.R_slice HO190.out; subst eo24) | ((with_reducible refine gate_callee (f := 40) rfl ?_); refine goesL_ (some 24) rfl rfl Try.func40 (by kernel_rfl) rfl #[.slice Ao24 t188.length co24] rfl zl ?_; (with_reducible refine (slices_Sort_int_int.calls (fun k_ => some k_ = (.slice Ao24 t188.length co24 : Value).ownBlock) (.slice Ao24 t188.length co24) t188 t191 w _ ?side1 ?side2 A17.out).mono ?_); (case side1 => exact zb HB.out); (case side2 => exact Kd.R_tight rfl HO190.out); rintro e w25 ⟨rfl, hy0, hb, hkp⟩; refine ⟨_, rfl, ?_⟩; have n0_ := Aside0.mk (Kd.V_mono (ok' := fun k_ => ((P1_ k_ ∨ P2_ k_) ∨ w.heap.size ≤ k_) ∧ some k_ ≠ (.slice Ao22 y185.length co22 : Value).ownBlock ∧ some k_ ≠ (.slice Ao24 t188.length co24 : Value).ownBlock ∧ k_ ≠ gb182) (Kd.V_keptB (HO_1.out) hkp (fun k_ hk_ hs_ => by first | exact (hk_.2) hs_ | (revert hk_; simp only [and_imp]; intros; exact absurd hs_ (by assumption)))) (fun k_ hk_ => by first | exact ⟨hk_.1.1.1.1, hk_.1.1.2, hk_.1.2, hk_.1.1.1.2⟩ | (revert hk_; simp only [and_imp]; intros; and_intros <;> assumption))); have n1_ := Aside0.mk (Kd.V_mono (ok' := fun k_ => ((P1_ k_ ∨ P2_ k_) ∨ w.heap.size ≤ k_) ∧ some k_ ≠ (.slice Ao22 y185.length co22 : Value).ownBlock ∧ some k_ ≠ (.slice Ao24 t188.length co24 : Value).ownBlock ∧ k_ ≠ gb182) (Kd.V_keptB (HO_2.out) hkp (fun k_ hk_ hs_ => by first | exact (hk_.2) hs_ | (revert hk_; simp only [and_imp]; intros; exact absurd hs_ (by assumption)))) (fun k_ hk_ => by first | exact ⟨hk_.1.1.1.1, hk_.1.1.2, hk_.1.2, hk_.1.1.1.2⟩ | (revert hk_; simp only [and_imp]; intros; and_intros <;> assumption))); have n2_ := Aside0.mk (blk_kept (zh BK182.out) hkp (fun hs_ => (fun e_ => (Kd.R_ne HO190.out BK182.out (by decide)) e_) hs_)); have n3_ := Aside0.mk (Kd.N_mono (ok' := fun k_ => ((P1_ k_ ∨ P2_ k_) ∨ w.heap.size ≤ k_) ∧ some k_ ≠ (.slice Ao24 t188.length co24 : Value).ownBlock ∧ k_ ≠ gb182) (Kd.N_keptB (HO187.out) hkp (fun k_ hk_ hs_ => by first | exact (hk_.2) hs_ | (revert hk_; simp only [and_imp]; intros; exact absurd hs_ (by assumption)))) (fun k_ hk_ => by first | exact ⟨hk_.1.1.1, hk_.1.2, hk_.1.1.2⟩ | (revert hk_; simp only [and_imp]; intros; and_intros <;> assumption))); have n4_ := Aside0.mk (Kd.R_reok rfl hy0 (fun k_ e_ => HO190.out.1 k_ e_)); have n5_ := Aside0.mk (hb); clear HO_1; clear HO_2; clear BK182; clear HO187; clear HO190; clear HB; have HO_1 := n0_; have HO_2 := n1_; have BK182 := n2_; have HO187 := n3_; have HO190 := n4_; have HB := n5_; clear n0_ n1_ n2_ n3_ n4_ n5_; (try clear hb); (try clear hkp); (try clear hy0)) | ((with_reducible refine gate_callee (f := 58) rfl ?_); refine goesL_ (some 26) rfl rfl Try.func58 (by kernel_rfl) rfl #[.slice Ao24 t188.length co24] rfl zl ?_; (with_reducible refine (slices_Compact_int_int.calls (fun k_ => some k_ = (.slice Ao24 t188.length co24 : Value).ownBlock) (.slice Ao24 t188.length co24) t191 t192 w _ ?side1 ?side2 A18.out).mono ?_); (case side1 => exact zb HB.out); (case side2 => exact Kd.R_tight rfl HO190.out); rintro e w26 ⟨v193, rfl, ho0, hb, hkp⟩; refine ⟨_, rfl, ?_⟩; have n0_ := Aside0.mk (Kd.V_mono (ok' := fun k_ => ((P1_ k_ ∨ P2_ k_) ∨ w.heap.size ≤ k_) ∧ some k_ ≠ (.slice Ao22 y185.length co22 : Value).ownBlock ∧ k_ ≠ gb182 ∧ some k_ ≠ (v193 : Value).ownBlock) (Kd.V_keptB (HO_1.out) hkp (fun k_ hk_ hs_ => by first | exact (hk_.2.2.1) hs_ | (revert hk_; simp only [and_imp]; intros; exact absurd hs_ (by assumption)))) (fun k_ hk_ => by first | exact ⟨hk_.1.1, hk_.1.2.1, hk_.1.2.2.2, fun e_ => Or.elim (ho0.1 k_ e_.symm) (fun hs_ => hk_.2.1 hs_) (fun hn_ => Nat.not_le.2 hk_.2.2 hn_)⟩ | (revert hk_; simp only [and_imp]; intros; and_intros <;> assumption))); have n1_ := Aside0.mk (Kd.V_mono (ok' := fun k_ => ((P1_ k_ ∨ P2_ k_) ∨ w.heap.size ≤ k_) ∧ some k_ ≠ (.slice Ao22 y185.length co22 : Value).ownBlock ∧ k_ ≠ gb182 ∧ some k_ ≠ (v193 : Value).ownBlock) (Kd.V_keptB (HO_2.out) hkp (fun k_ hk_ hs_ => by first | exact (hk_.2.2.1) hs_ | (revert hk_; simp only [and_imp]; intros; exact absurd hs_ (by assumption)))) (fun k_ hk_ => by first | exact ⟨hk_.1.1, hk_.1.2.1, hk_.1.2.2.2, fun e_ => Or.elim (ho0.1 k_ e_.symm) (fun hs_ => hk_.2.1 hs_) (fun hn_ => Nat.not_le.2 hk_.2.2 hn_)⟩ | (revert hk_; simp only [and_imp]; intros; and_intros <;> assumption))); have n2_ := Aside0.mk (blk_kept (zh BK182.out) hkp (fun hs_ => (fun e_ => (Kd.R_ne HO190.out BK182.out (by decide)) e_) hs_)); have n3_ := Aside0.mk (Kd.N_mono (ok' := fun k_ => ((P1_ k_ ∨ P2_ k_) ∨ w.heap.size ≤ k_) ∧ k_ ≠ gb182 ∧ some k_ ≠ (v193 : Value).ownBlock) (Kd.N_keptB (HO187.out) hkp (fun k_ hk_ hs_ => by first | exact (hk_.2.1) hs_ | (revert hk_; simp only [and_imp]; intros; exact absurd hs_ (by assumption)))) (fun k_ hk_ => by first | exact ⟨hk_.1.1, hk_.1.2.2, fun e_ => Or.elim (ho0.1 k_ e_.symm) (fun hs_ => hk_.2.1 hs_) (fun hn_ => Nat.not_le.2 hk_.2.2 hn_)⟩ | (revert hk_; simp only [and_imp]; intros; and_intros <;> assumption))); have n4_ := Aside0.mk (Kd.R_mono (ok' := fun k_ => (w.heap.size ≤ k_)) ho0 (fun k_ hk_ => Or.elim hk_ (fun hs_ => (HO190.out.1 k_ (hs_).symm).1) (fun hn_ => (Nat.le_trans (below_size (zb HB.out)) hn_)))); have n5_ := Aside0.mk (hb); clear HO_1; clear HO_2; clear BK182; clear HO187; clear HB; clear HO190; have HO_1 := n0_; have HO_2 := n1_; have BK182 := n2_; have HO187 := n3_; have HO194 := n4_; have HB := n5_; clear n0_ n1_ n2_ n3_ n4_ n5_; (try clear hb); (try clear hkp); (try clear ho0); obtain ⟨Ao27, co27, eo27⟩ := Kd.R_slice HO194.out; subst eo27))
     go_ret2
     exact ⟨_, ze, Kd.V_nil _ _ _ _ _, zb HB.out⟩
    ·rw [if_neg c19] at H
     have c19b0 : decide (200 < (t192.length : Int)) = false := decide_eq_false c19
     have c19b1 : decide (200 < t192.length) = false := decide_eq_false (by omega)
     clear c19
     replace H := Option.bind_eq_some_iff.mp H
     obtain ⟨t195, A280, H⟩ := H
     replace H : (some (t195, true)) = some (r1, r2) := H
     have A28 := Aside0.mk A280
     clear A280
     simp only [Option.some.injEq, Prod.mk.injEq] at H
     obtain ⟨rfl, rfl⟩ := H
     go_wp2_with (first | ((with_reducible refine gate_dst (N := 21) rfl ?_); refine Kd.N_lit (Kd.slice 3 (Kd.int .i64)) _ 26 ?hg (N' := 21) ?hd (xs := ([l1, l2] : List (List Int))) (inner := [.slice A1 l1.length c1, .slice A2 l2.length c2]) (ok := (fun k_ => ((P1_ k_ ∨ P2_ k_) ∨ w.heap.size ≤ k_) ∧ k_ ≠ gb182)) (okp := (fun k_ => ((P1_ k_ ∨ P2_ k_) ∨ w.heap.size ≤ k_) ∧ k_ ≠ gb182)) ?hr ?hp (fun _ hk => hk) ((show ∀ k_, wc.heap.size ≤ k_ → (fun k_ => ((P1_ k_ ∨ P2_ k_) ∨ w.heap.size ≤ k_) ∧ k_ ≠ gb182) k_ from fun k_ hk => ⟨(.inr (Nat.le_trans (below_size (zb HB.out)) hk)), Kd.freshB (zh BK182.out) k_ hk⟩) _ (Nat.le_refl _)) (Below.refl _ _) (Nat.le_refl _) (by simp) ?_; (case hd => rfl); (case hg => rfl); (case hr => first | (go_simp; done) | (go_simp; rfl)); (case hp => exact (Reps.one (show Kd.FK (Kd.slice 3 (Kd.int .i64)) _ _ l1 [.slice A1 l1.length c1] from (Kd.FK_slice_mk (Kd.V_reads' (Kd.V_mono (ok' := (fun k_ => ((P1_ k_ ∨ P2_ k_) ∨ w.heap.size ≤ k_) ∧ k_ ≠ gb182)) (HO_1.out) (fun k_ hk => ⟨hk.1, hk.2⟩))).2.1 (Kd.V_F (Kd.V_mono (ok' := (fun k_ => ((P1_ k_ ∨ P2_ k_) ∨ w.heap.size ≤ k_) ∧ k_ ≠ gb182)) (HO_1.out) (fun k_ hk => ⟨hk.1, hk.2⟩))))) (Reps.one (show Kd.FK (Kd.slice 3 (Kd.int .i64)) _ _ l2 [.slice A2 l2.length c2] from (Kd.FK_slice_mk (Kd.V_reads' (Kd.V_mono (ok' := (fun k_ => ((P1_ k_ ∨ P2_ k_) ∨ w.heap.size ≤ k_) ∧ k_ ≠ gb182)) (HO_2.out) (fun k_ hk => ⟨hk.1, hk.2⟩))).2.1 (Kd.V_F (Kd.V_mono (ok' := (fun k_ => ((P1_ k_ ∨ P2_ k_) ∨ w.heap.size ≤ k_) ∧ k_ ≠ gb182)) (HO_2.out) (fun k_ hk => ⟨hk.1, hk.2⟩))))) (Reps.none _ _)))); intro v186 w29 ho30 hb hg_ hnew_; clear hg_ hnew_; (first | rw [← Ny185.out] at ho30 | (simp only [Int.reduceToNat] at ho30; rw [← Ny185.out] at ho30)); have n0_ := Aside0.mk (Kd.V_elder' (by (with_reducible repeat (first | apply Kd.V_alloc | apply Kd.V_drewN | apply Kd.V_drew)); exact HO_1.out) (Kd.N_base ho30) hb); have n1_ := Aside0.mk (Kd.V_elder' (by (with_reducible repeat (first | apply Kd.V_alloc | apply Kd.V_drewN | apply Kd.V_drew)); exact HO_2.out) (Kd.N_base ho30) hb); have n2_ := Aside0.mk (Kd.N_lower ho30 (below_size (zb HB.out))); have n3_ := Aside0.mk (blk_below (zh BK182.out) hb); have n4_ := Aside0.mk (below_step (zb HB.out) hb); clear HO_1; clear HO_2; clear BK182; clear HB; have HO_1 := n0_; have HO_2 := n1_; have HO187 := n2_; have BK182 := n3_; have HB := n4_; clear n0_ n1_ n2_ n3_ n4_; clear hb ho30; obtain ⟨Ao31, co31, eo31⟩ := Kd.N_slice HO187.out; subst eo31) | ((with_reducible refine gate_callee (f := 57) rfl ?_); refine goesL_ (some 22) rfl rfl Try.func57 (by kernel_rfl) rfl #[.slice Ao31 y185.length co31] rfl zl ?_; (with_reducible refine (slices_Concat_int_int.calls kj3 _ _ y185 t188 _ ?side1 ?side2 A16.out).mono ?_); (case side1 => exact zc (Kd.N_reads' HO187.out).2.2); (case side2 => exact (Kd.N_reads' HO187.out).2.1); rintro e w32 ⟨v189, rfl, ho0, hb⟩; refine ⟨_, rfl, ?_⟩; have n0_ := Aside0.mk (Kd.V_elder' (by (with_reducible repeat (first | apply Kd.V_alloc | apply Kd.V_drewN | apply Kd.V_drew)); exact HO_1.out) (Kd.R_base ho0) hb); have n1_ := Aside0.mk (Kd.V_elder' (by (with_reducible repeat (first | apply Kd.V_alloc | apply Kd.V_drewN | apply Kd.V_drew)); exact HO_2.out) (Kd.R_base ho0) hb); have n2_ := Aside0.mk (Kd.N_elder' (by (with_reducible repeat (first | apply Kd.N_alloc | apply Kd.N_drewN | apply Kd.N_drew)); exact HO187.out) (Kd.R_base ho0) hb); have n3_ := Aside0.mk (Kd.R_lower (Kd.R_newM (M := fun k_ => (w.heap.size ≤ k_)) ho0 (below_size (zb HB.out)) (fun k_ h_ => h_)) (below_size (zb HB.out))); have n4_ := Aside0.mk (blk_below (zh BK182.out) hb); have n5_ := Aside0.mk (below_step (zb HB.out) hb); clear HO_1; clear HO_2; clear HO187; clear BK182; clear HB; have HO_1 := n0_; have HO_2 := n1_; have HO187 := n2_; have HO190 := n3_; have BK182 := n4_; have HB := n5_; clear n0_ n1_ n2_ n3_ n4_ n5_; (try clear hb); (try clear hb2); (try clear hk); (try clear hi); (try clear ho0); obtain ⟨Ao33, co33, eo33⟩ := Kd.R_slice HO190.out; subst eo33) | ((with_reducible refine gate_callee (f := 40) rfl ?_); refine goesL_ (some 24) rfl rfl Try.func40 (by kernel_rfl) rfl #[.slice Ao33 t188.length co33] rfl zl ?_; (with_reducible refine (slices_Sort_int_int.calls (fun k_ => some k_ = (.slice Ao33 t188.length co33 : Value).ownBlock) (.slice Ao33 t188.length co33) t188 t191 w _ ?side1 ?side2 A17.out).mono ?_); (case side1 => exact zb HB.out); (case side2 => exact Kd.R_tight rfl HO190.out); rintro e w34 ⟨rfl, hy0, hb, hkp⟩; refine ⟨_, rfl, ?_⟩; have n0_ := Aside0.mk (Kd.V_mono (ok' := fun k_ => ((P1_ k_ ∨ P2_ k_) ∨ w.heap.size ≤ k_) ∧ some k_ ≠ (.slice Ao31 y185.length co31 : Value).ownBlock ∧ some k_ ≠ (.slice Ao33 t188.length co33 : Value).ownBlock ∧ k_ ≠ gb182) (Kd.V_keptB (HO_1.out) hkp (fun k_ hk_ hs_ => by first | exact (hk_.2) hs_ | (revert hk_; simp only [and_imp]; intros; exact absurd hs_ (by assumption)))) (fun k_ hk_ => by first | exact ⟨hk_.1.1.1.1, hk_.1.1.2, hk_.1.2, hk_.1.1.1.2⟩ | (revert hk_; simp only [and_imp]; intros; and_intros <;> assumption))); have n1_ := Aside0.mk (Kd.V_mono (ok' := fun k_ => ((P1_ k_ ∨ P2_ k_) ∨ w.heap.size ≤ k_) ∧ some k_ ≠ (.slice Ao31 y185.length co31 : Value).ownBlock ∧ some k_ ≠ (.slice Ao33 t188.length co33 : Value).ownBlock ∧ k_ ≠ gb182) (Kd.V_keptB (HO_2.out) hkp (fun k_ hk_ hs_ => by first | exact (hk_.2) hs_ | (revert hk_; simp only [and_imp]; intros; exact absurd hs_ (by assumption)))) (fun k_ hk_ => by first | exact ⟨hk_.1.1.1.1, hk_.1.1.2, hk_.1.2, hk_.1.1.1.2⟩ | (revert hk_; simp only [and_imp]; intros; and_intros <;> assumption))); have n2_ := Aside0.mk (blk_kept (zh BK182.out) hkp (fun hs_ => (fun e_ => (Kd.R_ne HO190.out BK182.out (by decide)) e_) hs_)); have n3_ := Aside0.mk (Kd.N_mono (ok' := fun k_ => ((P1_ k_ ∨ P2_ k_) ∨ w.heap.size ≤ k_) ∧ some k_ ≠ (.slice Ao33 t188.length co33 : Value).ownBlock ∧ k_ ≠ gb182) (Kd.N_keptB (HO187.out) hkp (fun k_ hk_ hs_ => by first | exact (hk_.2) hs_ | (revert hk_; simp only [and_imp]; intros; exact absurd hs_ (by assumption)))) (fun k_ hk_ => by first | exact ⟨hk_.1.1.1, hk_.1.2, hk_.1.1.2⟩ | (revert hk_; simp only [and_imp]; intros; and_intros <;> assumption))); have n4_ := Aside0.mk (Kd.R_reok rfl hy0 (fun k_ e_ => HO190.out.1 k_ e_)); have n5_ := Aside0.mk (hb); clear HO_1; clear HO_2; clear BK182; clear HO187; clear HO190; clear HB; have HO_1 := n0_; have HO_2 := n1_; have BK182 := n2_; have HO187 := n3_; have HO190 := n4_; have HB := n5_; clear n0_ n1_ n2_ n3_ n4_ n5_; (try clear hb); (try clear hkp); (try clear hy0)) | ((with_reducible refine gate_callee (f := 58) rfl ?_); refine goesL_ (some 26) rfl rfl Try.func58 (by kernel_rfl) rfl #[.slice Ao33 t188.length co33] rfl zl ?_; (with_reducible refine (slices_Compact_int_int.calls (fun k_ => some k_ = (.slice Ao33 t188.length co33 : Value).ownBlock) (.slice Ao33 t188.length co33) t191 t192 w _ ?side1 ?side2 A18.out).mono ?_); (case side1 => exact zb HB.out); (case side2 => exact Kd.R_tight rfl HO190.out); rintro e w35 ⟨v193, rfl, ho0, hb, hkp⟩; refine ⟨_, rfl, ?_⟩; have n0_ := Aside0.mk (Kd.V_mono (ok' := fun k_ => ((P1_ k_ ∨ P2_ k_) ∨ w.heap.size ≤ k_) ∧ some k_ ≠ (.slice Ao31 y185.length co31 : Value).ownBlock ∧ k_ ≠ gb182 ∧ some k_ ≠ (v193 : Value).ownBlock) (Kd.V_keptB (HO_1.out) hkp (fun k_ hk_ hs_ => by first | exact (hk_.2.2.1) hs_ | (revert hk_; simp only [and_imp]; intros; exact absurd hs_ (by assumption)))) (fun k_ hk_ => by first | exact ⟨hk_.1.1, hk_.1.2.1, hk_.1.2.2.2, fun e_ => Or.elim (ho0.1 k_ e_.symm) (fun hs_ => hk_.2.1 hs_) (fun hn_ => Nat.not_le.2 hk_.2.2 hn_)⟩ | (revert hk_; simp only [and_imp]; intros; and_intros <;> assumption))); have n1_ := Aside0.mk (Kd.V_mono (ok' := fun k_ => ((P1_ k_ ∨ P2_ k_) ∨ w.heap.size ≤ k_) ∧ some k_ ≠ (.slice Ao31 y185.length co31 : Value).ownBlock ∧ k_ ≠ gb182 ∧ some k_ ≠ (v193 : Value).ownBlock) (Kd.V_keptB (HO_2.out) hkp (fun k_ hk_ hs_ => by first | exact (hk_.2.2.1) hs_ | (revert hk_; simp only [and_imp]; intros; exact absurd hs_ (by assumption)))) (fun k_ hk_ => by first | exact ⟨hk_.1.1, hk_.1.2.1, hk_.1.2.2.2, fun e_ => Or.elim (ho0.1 k_ e_.symm) (fun hs_ => hk_.2.1 hs_) (fun hn_ => Nat.not_le.2 hk_.2.2 hn_)⟩ | (revert hk_; simp only [and_imp]; intros; and_intros <;> assumption))); have n2_ := Aside0.mk (blk_kept (zh BK182.out) hkp (fun hs_ => (fun e_ => (Kd.R_ne HO190.out BK182.out (by decide)) e_) hs_)); have n3_ := Aside0.mk (Kd.N_mono (ok' := fun k_ => ((P1_ k_ ∨ P2_ k_) ∨ w.heap.size ≤ k_) ∧ k_ ≠ gb182 ∧ some k_ ≠ (v193 : Value).ownBlock) (Kd.N_keptB (HO187.out) hkp (fun k_ hk_ hs_ => by first | exact (hk_.2.1) hs_ | (revert hk_; simp only [and_imp]; intros; exact absurd hs_ (by assumption)))) (fun k_ hk_ => by first | exact ⟨hk_.1.1, hk_.1.2.2, fun e_ => Or.elim (ho0.1 k_ e_.symm) (fun hs_ => hk_.2.1 hs_) (fun hn_ => Nat.not_le.2 hk_.2.2 hn_)⟩ | (revert hk_; simp only [and_imp]; intros; and_intros <;> assumption))); have n4_ := Aside0.mk (Kd.R_mono (ok' := fun k_ => (w.heap.size ≤ k_)) ho0 (fun k_ hk_ => Or.elim hk_ (fun hs_ => (HO190.out.1 k_ (hs_).symm).1) (fun hn_ => (Nat.le_trans (below_size (zb HB.out)) hn_)))); have n5_ := Aside0.mk (hb); clear HO_1; clear HO_2; clear BK182; clear HO187; clear HB; clear HO190; have HO_1 := n0_; have HO_2 := n1_; have BK182 := n2_; have HO187 := n3_; have HO194 := n4_; have HB := n5_; clear n0_ n1_ n2_ n3_ n4_ n5_; (try clear hb); (try clear hkp); (try clear ho0); obtain ⟨Ao36, co36, eo36⟩ := Kd.R_slice HO194.out; subst eo36) | ((with_reducible refine gate_callee (f := 59) rfl ?_); refine goesL_ (some 31) rfl rfl Try.func59 (by kernel_rfl) rfl #[.slice Ao36 t192.length co36] rfl zl ?_; (with_reducible refine (slices_Clip_int_int.calls (fun k_ => some k_ = (.slice Ao36 t192.length co36 : Value).ownBlock) _ _ t192 t195 _ ?side1 A28.out).mono ?_); (case side1 => exact Kd.R_V (Kd.R_tight rfl (Kd.R_types (Kd.R_apart' (HO194.out) (Kd.N_typed HO187.out) (by decide)) BK182.out (by decide)))); rintro e w37 ⟨v196, rfl, ho0, hb⟩; refine ⟨_, rfl, ?_⟩; have n0_ := Aside0.mk (Kd.V_below (by (with_reducible repeat (first | apply Kd.V_alloc | apply Kd.V_drewN | apply Kd.V_drew)); exact HO_1.out) hb); have n1_ := Aside0.mk (Kd.V_below (by (with_reducible repeat (first | apply Kd.V_alloc | apply Kd.V_drewN | apply Kd.V_drew)); exact HO_2.out) hb); have n2_ := Aside0.mk (Kd.N_below (by (with_reducible repeat (first | apply Kd.N_alloc | apply Kd.N_drewN | apply Kd.N_drew)); exact HO187.out) hb); have n3_ := Aside0.mk (Kd.R_below (zr HO194.out) hb); have n4_ := Aside0.mk (Kd.V_lower (Kd.V_mono (ok' := fun k_ => ((P1_ k_ ∨ P2_ k_) ∨ w.heap.size ≤ k_) ∧ some k_ ≠ (.slice Ao31 y185.length co31 : Value).ownBlock ∧ k_ ≠ gb182) ho0 (fun k_ hk_ => by first | exact ⟨Or.elim hk_ (fun hs_ => (.inr (((Kd.R_types (Kd.R_apart' (HO194.out) (Kd.N_typed HO187.out) (by decide)) BK182.out (by decide)).1 k_ hs_.symm).1.1))) (fun hn_ => (.inr (Nat.le_trans (below_size (zb HB.out)) hn_))), Or.elim hk_ (fun hs_ => ((Kd.R_types (Kd.R_apart' (HO194.out) (Kd.N_typed HO187.out) (by decide)) BK182.out (by decide)).1 k_ hs_.symm).1.2) (fun hn_ => (Kd.fresh' (Kd.N_lt (by (with_reducible repeat (first | apply Kd.N_alloc | apply Kd.N_drewN | apply Kd.N_drew)); exact HO187.out)) k_ hn_)), Or.elim hk_ (fun hs_ => ((Kd.R_types (Kd.R_apart' (HO194.out) (Kd.N_typed HO187.out) (by decide)) BK182.out (by decide)).1 k_ hs_.symm).2) (fun hn_ => (Kd.freshB (zh BK182.out) k_ hn_))⟩ | (revert hk_; simp only [and_imp]; intros; and_intros <;> assumption))) (below_size (zb HB.out))); have n5_ := Aside0.mk (blk_below (zh BK182.out) hb); have n6_ := Aside0.mk (below_step (zb HB.out) hb); clear HO_1; clear HO_2; clear HO187; clear HO194; clear BK182; clear HB; have HO_1 := n0_; have HO_2 := n1_; have HO187 := n2_; have HO194 := n3_; have HO197 := n4_; have BK182 := n5_; have HB := n6_; clear n0_ n1_ n2_ n3_ n4_ n5_ n6_; (try clear hb); (try clear hb2); (try clear hk); (try clear hi); (try clear ho0)))
     go_ret2
     exact ⟨_, ze, by (with_reducible repeat (first | apply Kd.V_alloc | apply Kd.V_drewN | apply Kd.V_drew)); exact Kd.V_mono HO197.out (fun _ hk => hk.1), zb HB.out⟩

def IsS89 (w0 W : World) (g : Nat) (f0 : List Int) (f1 : Int) (f2 : Int) : Prop := ∃ A0 c0, W.heap[g]? = some (.cells #[.slice A0 f0.length c0, .int .i64 f1, .int .i64 f2] 89 (0, 0)) ∧ w0.heap.size ≤ g ∧ Kd.C (Kd.int .u8) w0 A0 f0.length f0
theorem IsS89.grown {w0 W : World} {g : Nat} {f0 : List Int} {f1 : Int} {f2 : Int} {W1 : World} {row : Option Nat} (h : IsS89 w0 W g f0 f1 f2) (hw : W.grownBy W1 row) (hne : some g ≠ row) : IsS89 w0 W1 g f0 f1 f2 := by
 obtain ⟨A0, c0, hb, hg, hr0⟩ := h
 exact ⟨A0, c0, blk_grown hb hw hne, hg, hr0⟩
theorem IsS89.kept {w0 W : World} {g : Nat} {f0 : List Int} {f1 : Int} {f2 : Int} {W1 : World} {S : Nat → Prop} (h : IsS89 w0 W g f0 f1 f2) (hk : Kept W W1 S) (hne : ¬ S g) : IsS89 w0 W1 g f0 f1 f2 := by
 obtain ⟨A0, c0, hb, hg, hr0⟩ := h
 exact ⟨A0, c0, blk_kept hb hk hne, hg, hr0⟩
theorem IsS89.below {w0 W : World} {g : Nat} {f0 : List Int} {f1 : Int} {f2 : Int} {W1 : World} (h : IsS89 w0 W g f0 f1 f2) (hw : Below W.heap.size W W1) : IsS89 w0 W1 g f0 f1 f2 := h.grown (grown_of_below hw none) (by simp)
theorem IsS89.alloc {w0 W : World} {g : Nat} {f0 : List Int} {f1 : Int} {f2 : Int} (h : IsS89 w0 W g f0 f1 f2) (o : Obj) : IsS89 w0 (W.alloc o) g f0 f1 f2 := h.below (below_alloc (Below.refl _ _) o)
theorem IsS89.drewN {w0 W : World} {g : Nat} {f0 : List Int} {f1 : Int} {f2 : Int} (h : IsS89 w0 W g f0 f1 f2) (m : Nat) : IsS89 w0 (W.drewN m) g f0 f1 f2 := h
theorem IsS89.drew {w0 W : World} {g : Nat} {f0 : List Int} {f1 : Int} {f2 : Int} (h : IsS89 w0 W g f0 f1 f2) : IsS89 w0 W.drew g f0 f1 f2 := h
theorem IsS89.at_ {w0 W : World} {g : Nat} {f0 : List Int} {f1 : Int} {f2 : Int} {w' : World} {m : Nat} (hq : W.drewN m = w') (h : IsS89 w0 W g f0 f1 f2) : IsS89 w0 w' g f0 f1 f2 := by subst hq; exact IsS89.drewN h m
theorem IsS89.apart {w0 W : World} {g : Nat} {f0 : List Int} {f1 : Int} {f2 : Int} {α : Type} {d : Kd α} {e : Nat} {base : Nat} {ok : Nat → Prop} {v : Value} {xs : List α} (h : IsS89 w0 W g f0 f1 f2) (ho : d.R e W base ok v xs) (ht : ∀ q, q ∈ e :: d.E → q ≠ 89) : d.R e W base (fun k => ok k ∧ k ≠ g) v xs := by
 obtain ⟨A0, c0, hb, hg, hr0⟩ := h
 exact Kd.R_types ho hb ht
theorem IsS89.own_ne {w0 W : World} {g : Nat} {f0 : List Int} {f1 : Int} {f2 : Int} {α : Type} {d : Kd α} {e : Nat} {base : Nat} {ok : Nat → Prop} {v : Value} {xs : List α} (h : IsS89 w0 W g f0 f1 f2) (ho : d.R e W base ok v xs) (ht : e ≠ 89) : some g ≠ v.ownBlock := by
 obtain ⟨A0, c0, hb, hg, hr0⟩ := h
 exact Kd.R_ne ho hb ht
theorem IsS89.lt {w0 W : World} {g : Nat} {f0 : List Int} {f1 : Int} {f2 : Int} (h : IsS89 w0 W g f0 f1 f2) : g < W.heap.size := by
 obtain ⟨A0, c0, hb, hg, hr0⟩ := h
 exact blk_lt hb
theorem IsS89.ge {w0 W : World} {g : Nat} {f0 : List Int} {f1 : Int} {f2 : Int} (h : IsS89 w0 W g f0 f1 f2) : w0.heap.size ≤ g := by
 obtain ⟨A0, c0, hb, hg, hr0⟩ := h
 exact hg
theorem IsS89.ne_blk {w0 W : World} {g : Nat} {f0 : List Int} {f1 : Int} {f2 : Int} {a : Nat} {cs : Array Value} {t : TypeId} {fr : Nat × Nat} (h : IsS89 w0 W g f0 f1 f2) (hb2 : W.heap[a]? = some (.cells cs t fr)) (ht : t ≠ 89) : g ≠ a := by
 obtain ⟨A0, c0, hb, hg, hr0⟩ := h
 rintro rfl
 rw [hb] at hb2
 injection hb2 with hb2
 injection hb2 with _ ht2
 exact ht ht2.symm
theorem IsS89.far {w0 W : World} {g : Nat} {f0 : List Int} {f1 : Int} {f2 : Int} {p : Addr} (h : IsS89 w0 W g f0 f1 f2) (hne : g ≠ p.block) (u : Value) : IsS89 w0 (W.setCell p u) g f0 f1 f2 := by
 obtain ⟨A0, c0, hb, hg, hr0⟩ := h
 exact ⟨A0, c0, blk_far hb hne u, hg, hr0⟩
theorem cellS89_0 {W : World} {g : Nat} {A0 : Option Addr} {c0 : Nat} {f0 : List Int} {f1 : Int} {f2 : Int} (h : W.heap[g]? = some (.cells #[.slice A0 f0.length c0, .int .i64 f1, .int .i64 f2] 89 (0, 0))) : W.cell? ⟨g, 0, none⟩ = some (.slice A0 f0.length c0) := (blk_cell h 0).trans rfl
theorem cellS89_1 {W : World} {g : Nat} {A0 : Option Addr} {c0 : Nat} {f0 : List Int} {f1 : Int} {f2 : Int} (h : W.heap[g]? = some (.cells #[.slice A0 f0.length c0, .int .i64 f1, .int .i64 f2] 89 (0, 0))) : W.cell? ⟨g, 1, none⟩ = some (.int .i64 f1) := (blk_cell h 1).trans rfl
theorem IsS89.set_1 {w0 W : World} {g : Nat} {f0 : List Int} {f1 : Int} {f2 : Int} (h : IsS89 w0 W g f0 f1 f2) (x : Int) : IsS89 w0 (W.setCell ⟨g, 1, none⟩ (.int .i64 x)) g f0 x f2 := by
 obtain ⟨A0, c0, hb, hg, hr0⟩ := h
 exact ⟨A0, c0, by simpa using blk_set hb 1 (.int .i64 x), hg, hr0⟩
theorem cellS89_2 {W : World} {g : Nat} {A0 : Option Addr} {c0 : Nat} {f0 : List Int} {f1 : Int} {f2 : Int} (h : W.heap[g]? = some (.cells #[.slice A0 f0.length c0, .int .i64 f1, .int .i64 f2] 89 (0, 0))) : W.cell? ⟨g, 2, none⟩ = some (.int .i64 f2) := (blk_cell h 2).trans rfl
theorem IsS89.set_2 {w0 W : World} {g : Nat} {f0 : List Int} {f1 : Int} {f2 : Int} (h : IsS89 w0 W g f0 f1 f2) (x : Int) : IsS89 w0 (W.setCell ⟨g, 2, none⟩ (.int .i64 x)) g f0 f1 x := by
 obtain ⟨A0, c0, hb, hg, hr0⟩ := h
 exact ⟨A0, c0, by simpa using blk_set hb 2 (.int .i64 x), hg, hr0⟩
theorem IsS89.new (w0 W : World) (A0 : Option Addr) (c0 : Nat) (f0 : List Int) (f1 : Int) (f2 : Int) (hB : Below w0.heap.size w0 W) (hr0 : Kd.C (Kd.int .u8) w0 A0 f0.length f0) : IsS89 w0 (W.alloc (.cells #[.slice A0 f0.length c0, .int .i64 f1, .int .i64 f2] 89)) W.heap.size f0 f1 f2 := ⟨A0, c0, by simpa using heap_alloc_new W _, hB.size, hr0⟩

theorem zi89 {w0 W0 W : World} {g : Nat} {f0 : List Int} {f1 : Int} {f2 : Int} {f1' : Int} {f2' : Int} (h0 : IsS89 w0 W0 g f0 f1 f2) (k : IsS89 w0 W0 g f0 f1 f2 → IsS89 w0 W g f0 f1' f2' := by (intro h_; repeat (first | (with_reducible exact h_) | (with_reducible apply IsS89.alloc) | (with_reducible apply IsS89.drewN) | (with_reducible apply IsS89.drew) | (with_reducible apply IsS89.set_1) | (with_reducible apply IsS89.set_2) | (with_reducible refine IsS89.far ?_ (Aside0.out (by assumption)) _) | exact h_))) : IsS89 w0 W g f0 f1' f2' := k h0
/-! ### spec_l1New: function 43 -/
def spec_l1New.l0 : Nat → List Int → Int → Int → Option (List Int × Int × Int)
 | 0, _, _, _ => none
 | k + 1, x0, x3, x4 => if x4 < (x0.length : Int) then (if x4 < 4000 then (if 0 ≤ x4 then (spec_l1New.l0 k x0 (Go.bits .and .i64 (wrap64 ((wrap64 ((wrap64 (x3 * 131)) + (wrap64 (rd x0 x4)))) + 7)) 1073741823) (wrap64 (x4 + 1))) else (none)) else (some (x0, 0, x3))) else (some (x0, 0, x3))
def spec_l1New.f (k : Nat) (l0 : List Int) : Option (List Int × Int × Int) := spec_l1New.l0 k l0 (wrap64 (12241 + (l0.length : Int))) 0
theorem spec_l1New.mono_l : ∀ k, (∀ y0 y1 y2, LeO (spec_l1New.l0 k y0 y1 y2) (spec_l1New.l0 (k + 1) y0 y1 y2))
 | 0 => fun _ _ _ r h => by simp [spec_l1New.l0] at h
 | k + 1 => by
  have ih0 := spec_l1New.mono_l k
  ·intro y0 y1 y2
   unfold spec_l1New.l0
   repeat' first
   | (with_reducible exact ih0 _ _ _)
   | (with_reducible exact LeO.refl _)
   | (with_reducible exact LeO.none _)
   | (with_reducible refine LeO.ite ?_ ?_)
   | (with_reducible refine LeO.bind ?_ (fun _ => ?_))
   | exact ih0 _ _ _
   | exact LeO.none _
   | refine LeO.ite ?_ ?_
   | refine LeO.bind ?_ (fun _ => ?_)
theorem spec_l1New.mono : ∀ a0 k, LeO (spec_l1New.f k a0) (spec_l1New.f (k + 1) a0) := by
 intro a0 k
 have ih0 := spec_l1New.mono_l k
 unfold spec_l1New.f
 repeat' first
   | (with_reducible exact ih0 _ _ _)
   | (with_reducible exact LeO.refl _)
   | (with_reducible exact LeO.none _)
   | (with_reducible refine LeO.ite ?_ ?_)
   | (with_reducible refine LeO.bind ?_ (fun _ => ?_))
   | exact ih0 _ _ _
   | exact LeO.none _
   | refine LeO.ite ?_ ?_
   | refine LeO.bind ?_ (fun _ => ?_)
set_option maxHeartbeats 8000000 in
set_option maxRecDepth 100000 in
theorem spec_l1New.calls (k : Nat) (A0 : Option Addr) (c0 : Nat) (l0 : List Int) (r1 : List Int) (r2 : Int) (r3 : Int) (w0 w : World) (hB : Below w0.heap.size w0 w) (hr0 : Kd.C (Kd.int .u8) w0 A0 l0.length l0) (hc0 : l0.length ≤ c0) (h : spec_l1New.f k l0 = some (r1, r2, r3)) :
  Calls Try.prog 43 #[.slice A0 l0.length c0] w fun e w' => ∃ g_ : Nat, e = .returned (.pointer (some ⟨g_, 0, none⟩)) ∧ IsS89 w0 w' g_ r1 r2 r3 ∧ Below w0.heap.size w0 w' ∧ Below w.heap.size w w' := by
 have hu89 := Try.underlying89
 have HR0 := Aside0.mk hr0
 have HC0 := Aside0.mk hc0
 clear hr0 hc0
 have HBW := Aside0.mk (Below.refl w.heap.size w)
 have HW0 := Aside0.mk hB.size
 have HB := Aside0.mk hB
 clear hB
 have H : (spec_l1New.l0 k l0 (wrap64 (12241 + (l0.length : Int))) 0) = some (r1, r2, r3) := h
 clear h
 have H' := Aside0.mk H
 clear H
 go_enter Try.func43, Try.ntmps43
 go_wp2
 go_loopg [3, 4] k (fun kq v3 v4 w' => ∃ (x3_1 : Int) (x4_1 : Int), v3 = .int .i64 x3_1 ∧ v4 = .int .i64 x4_1 ∧ Aside0 (spec_l1New.l0 kq l0 x3_1 x4_1 = some (r1, r2, r3)) ∧ Aside0 (kq ≤ k) ∧ Aside0 (Below w0.heap.size w0 w') ∧ Aside0 (Below w.heap.size w w'))
 case atStart => exact ⟨(wrap64 (12241 + (l0.length : Int))), (0), (by first | rfl | (simp; done) | (simp [*]; done)), (by first | rfl | (simp; done) | (simp [*]; done)), H', ⟨Nat.le_refl _⟩, ⟨zb HB.out⟩, ⟨zb HBW.out⟩⟩
 case round =>
  clear H'
  obtain ⟨x3_1, x4_1, rfl, rfl, HA, HK1, HB, HBW⟩ := hrel
  cases gk with
  | zero => exact absurd HA.out (by simp [spec_l1New.l0])
  | succ k1 =>
   have H := HA.out
   clear HA
   simp only [spec_l1New.l0] at H
   by_cases c2 : x4_1 < (l0.length : Int)
   ·rw [if_pos c2] at H
    have c2b0 : decide (x4_1 < (l0.length : Int)) = true := decide_eq_true c2
    clear c2
    by_cases c3 : x4_1 < 4000
    ·rw [if_pos c3] at H
     have c3b0 : decide (x4_1 < 4000) = true := decide_eq_true c3
     clear c3
     by_cases c4 : 0 ≤ x4_1
     ·rw [if_pos c4] at H
      have c4b0 : decide (0 ≤ x4_1) = true := decide_eq_true c4
      clear c4
      have H' := Aside0.mk H
      clear H
      have p198 : 0 ≤ (x4_1 : Int) := of_decide_eq_true (by first | (with_reducible assumption) | assumption)
      have q198 : x4_1 < (l0.length : Int) := of_decide_eq_true (by first | (with_reducible assumption) | assumption)
      obtain ⟨ad198, e198, hx198_0⟩ := Kd.at_int HR0.out x4_1 p198 q198
      cases e198
      replace hx198_0 := pw_cell_below HB.out hx198_0
      replace p198 := eq_true p198
      replace q198 := eq_true q198
      go_wp2
      go_roundg k1
      case measure => have := HK1.out; omega
      case rel => exact ⟨(Go.bits .and .i64 (wrap64 ((wrap64 ((wrap64 (x3_1 * 131)) + (wrap64 (rd l0 x4_1)))) + 7)) 1073741823), (wrap64 (x4_1 + 1)), (by first | rfl | (simp; done) | (simp [*]; done)), (by first | rfl | (simp; done) | (simp [*]; done)), H', ⟨by have := HK1.out; omega⟩, ⟨zb HB.out⟩, ⟨zb HBW.out⟩⟩
     ·rw [if_neg c4] at H
      exact absurd H (by simp)
    ·rw [if_neg c3] at H
     have c3b0 : decide (x4_1 < 4000) = false := decide_eq_false c3
     clear c3
     simp only [Option.some.injEq, Prod.mk.injEq] at H
     obtain ⟨rfl, rfl, rfl⟩ := H
     go_wp2_with (first | ((with_reducible refine gate_dst (N := 31) rfl ?_); refine box_event ?hg (N := 31) ?hd (cs := #[.slice A0 l0.length c0, .int .i64 0, .int .i64 x3_1]) (t := 89) ?hr ?_; (case hd => rfl); (case hg => rfl); (case hr => first | (go_simp; done) | (go_simp; rfl)); intro gb199 hg w5 hbox hb; have n0_ := Aside0.mk (below_step HBW.out hb); have n1_ := Aside0.mk (below_step (zb HB.out) hb); have n2_ := Aside0.mk (hbox); have n3_ := Aside0.mk ((by rw [hg]; exact (below_size (zb HBW.out)) : w.heap.size ≤ gb199)); have n4_ := Aside0.mk ((Nat.le_trans HW0.out (by rw [hg]; exact (below_size (zb HBW.out)) : w.heap.size ≤ gb199) : w0.heap.size ≤ gb199)); clear HBW; clear HB; have HBW := n0_; have HB := n1_; have BK199 := n2_; have GW199 := n3_; have GE199 := n4_; clear n0_ n1_ n2_ n3_ n4_; clear hb hbox hg))
     go_ret
     exact ⟨_, rfl, (show IsS89 w0 _ gb199 l0 0 x3_1 from ⟨_, _, zh BK199.out, GE199.out, HR0.out⟩), zb HB.out, zb HBW.out⟩
   ·rw [if_neg c2] at H
    have c2b0 : decide (x4_1 < (l0.length : Int)) = false := decide_eq_false c2
    clear c2
    simp only [Option.some.injEq, Prod.mk.injEq] at H
    obtain ⟨rfl, rfl, rfl⟩ := H
    go_wp2_with (first | ((with_reducible refine gate_dst (N := 31) rfl ?_); refine box_event ?hg (N := 31) ?hd (cs := #[.slice A0 l0.length c0, .int .i64 0, .int .i64 x3_1]) (t := 89) ?hr ?_; (case hd => rfl); (case hg => rfl); (case hr => first | (go_simp; done) | (go_simp; rfl)); intro gb200 hg w6 hbox hb; have n0_ := Aside0.mk (below_step HBW.out hb); have n1_ := Aside0.mk (below_step (zb HB.out) hb); have n2_ := Aside0.mk (hbox); have n3_ := Aside0.mk ((by rw [hg]; exact (below_size (zb HBW.out)) : w.heap.size ≤ gb200)); have n4_ := Aside0.mk ((Nat.le_trans HW0.out (by rw [hg]; exact (below_size (zb HBW.out)) : w.heap.size ≤ gb200) : w0.heap.size ≤ gb200)); clear HBW; clear HB; have HBW := n0_; have HB := n1_; have BK200 := n2_; have GW200 := n3_; have GE200 := n4_; clear n0_ n1_ n2_ n3_ n4_; clear hb hbox hg))
    go_ret
    exact ⟨_, rfl, (show IsS89 w0 _ gb200 l0 0 x3_1 from ⟨_, _, zh BK200.out, GE200.out, HR0.out⟩), zb HB.out, zb HBW.out⟩

/-! ### spec_l1Byte: function 108 -/
def spec_l1Byte.f (s0_0 : List Int) (s0_1 : Int) (s0_2 : Int) : Option (Int × Int × Int) := if s0_1 < (s0_0.length : Int) then (if 0 ≤ s0_1 then (some (Go.bits .and .i64 (wrap64 ((Go.bits .and .i64 (Go.bits .xor .i64 ((wrap64 ((wrap64 (s0_2 * 6364136223846793005)) + 1442695040888963407)) / 8589934592) ((wrap64 ((wrap64 (s0_2 * 6364136223846793005)) + 1442695040888963407)) / 35184372088832)) 255) + (wrap64 (rd s0_0 s0_1)))) 255, wrap64 (s0_1 + 1), wrap64 ((wrap64 (s0_2 * 6364136223846793005)) + 1442695040888963407))) else (none)) else (some (Go.bits .and .i64 (Go.bits .xor .i64 ((wrap64 ((wrap64 (s0_2 * 6364136223846793005)) + 1442695040888963407)) / 8589934592) ((wrap64 ((wrap64 (s0_2 * 6364136223846793005)) + 1442695040888963407)) / 35184372088832)) 255, s0_1, wrap64 ((wrap64 (s0_2 * 6364136223846793005)) + 1442695040888963407)))
set_option maxHeartbeats 8000000 in
set_option maxRecDepth 100000 in
theorem spec_l1Byte.calls (g : Nat) (s0_0 : List Int) (s0_1 : Int) (s0_2 : Int) (r1 : Int) (r2 : Int) (r3 : Int) (w0 w : World) (hI : IsS89 w0 w g s0_0 s0_1 s0_2) (hB : Below w0.heap.size w0 w) (h : spec_l1Byte.f s0_0 s0_1 s0_2 = some (r1, r2, r3)) :
  Calls Try.prog 108 #[.pointer (some ⟨g, 0, none⟩)] w fun e w' => e = .returned (.int .i64 r1) ∧ IsS89 w0 w' g s0_0 r2 r3 ∧ Below w0.heap.size w0 w' ∧ KeepBut w w' g none := by
 have HI0 := Aside0.mk hI
 have HK := Aside0.mk (KeepBut.refl w g none)
 have HL := Aside0.mk hB.size
 clear hI
 have HW0 := Aside0.mk hB.size
 have HB := Aside0.mk hB
 clear hB
 have H : (if s0_1 < (s0_0.length : Int) then (if 0 ≤ s0_1 then (some (Go.bits .and .i64 (wrap64 ((Go.bits .and .i64 (Go.bits .xor .i64 ((wrap64 ((wrap64 (s0_2 * 6364136223846793005)) + 1442695040888963407)) / 8589934592) ((wrap64 ((wrap64 (s0_2 * 6364136223846793005)) + 1442695040888963407)) / 35184372088832)) 255) + (wrap64 (rd s0_0 s0_1)))) 255, wrap64 (s0_1 + 1), wrap64 ((wrap64 (s0_2 * 6364136223846793005)) + 1442695040888963407))) else (none)) else (some (Go.bits .and .i64 (Go.bits .xor .i64 ((wrap64 ((wrap64 (s0_2 * 6364136223846793005)) + 1442695040888963407)) / 8589934592) ((wrap64 ((wrap64 (s0_2 * 6364136223846793005)) + 1442695040888963407)) / 35184372088832)) 255, s0_1, wrap64 ((wrap64 (s0_2 * 6364136223846793005)) + 1442695040888963407)))) = some (r1, r2, r3) := h
 clear h
 by_cases c2 : s0_1 < (s0_0.length : Int)
 ·rw [if_pos c2] at H
  have c2b0 : decide (s0_1 < (s0_0.length : Int)) = true := decide_eq_true c2
  clear c2
  by_cases c3 : 0 ≤ s0_1
  ·rw [if_pos c3] at H
   have c3b0 : decide (0 ≤ s0_1) = true := decide_eq_true c3
   clear c3
   simp only [Option.some.injEq, Prod.mk.injEq] at H
   obtain ⟨rfl, rfl, rfl⟩ := H
   obtain ⟨ASz4_0, cSz4_0, HGz4, hgz4, HSz4_0⟩ := HI0.out
   have hcz4_0 := cellS89_0 HGz4
   have hcz4_1 := cellS89_1 HGz4
   have hcz4_2 := cellS89_2 HGz4
   have hfz4_1 := blk_frozen HGz4 1
   have hfz4_2 := blk_frozen HGz4 2
   clear HGz4 hgz4
   have p201 : 0 ≤ (s0_1 : Int) := of_decide_eq_true (by first | (with_reducible assumption) | assumption)
   have q201 : s0_1 < (s0_0.length : Int) := of_decide_eq_true (by first | (with_reducible assumption) | assumption)
   obtain ⟨ad201, e201, hx201_0⟩ := Kd.at_int HSz4_0 s0_1 p201 q201
   cases e201
   have hn201_0 : ad201.block ≠ g := Nat.ne_of_lt (Nat.lt_of_lt_of_le (by have := World.block_lt_of_cell? _ _ hx201_0; first | rwa [add_block] at this | exact this) (IsS89.ge HI0.out))
   replace hx201_0 := pw_cell_below HB.out hx201_0
   replace hx201_0 := (cell_far (p := ⟨g, 2, none⟩) (by first | (rw [add_block]; exact hn201_0) | (show (Addr.add _ _).block ≠ _; rw [add_block]; exact hn201_0) | exact hn201_0) (.int .i64 (wrap64 ((wrap64 (s0_2 * 6364136223846793005)) + 1442695040888963407)))).trans hx201_0
   (try have hy201_0 := fun (n_ : Nat) => (show (((w.drewN n_).setCell ⟨g, 2, none⟩ (.int .i64 (wrap64 ((wrap64 (s0_2 * 6364136223846793005)) + 1442695040888963407))))).cell? _ = some _ from hx201_0))
   clear hn201_0
   replace p201 := eq_true p201
   replace q201 := eq_true q201
   go_enter Try.func108, Try.ntmps108
   go_wp2
   repeat (go_quiet (fail); try go_wp2)
   go_ret
   exact ⟨ze, zi89 HI0.out, zj HB.out (IsS89.ge HI0.out), zq HK.out⟩
  ·rw [if_neg c3] at H
   exact absurd H (by simp)
 ·rw [if_neg c2] at H
  have c2b0 : decide (s0_1 < (s0_0.length : Int)) = false := decide_eq_false c2
  clear c2
  simp only [Option.some.injEq, Prod.mk.injEq] at H
  obtain ⟨rfl, rfl, rfl⟩ := H
  obtain ⟨ASz5_0, cSz5_0, HGz5, hgz5, HSz5_0⟩ := HI0.out
  have hcz5_0 := cellS89_0 HGz5
  have hcz5_1 := cellS89_1 HGz5
  have hcz5_2 := cellS89_2 HGz5
  have hfz5_1 := blk_frozen HGz5 1
  have hfz5_2 := blk_frozen HGz5 2
  clear HGz5 hgz5
  go_enter Try.func108, Try.ntmps108
  go_wp2
  repeat (go_quiet (fail); try go_wp2)
  go_ret
  exact ⟨ze, zi89 HI0.out, zj HB.out (IsS89.ge HI0.out), zq HK.out⟩

/-! ### spec_l1Below: function 74 -/
def spec_l1Below.f (s0_0 : List Int) (s0_1 : Int) (s0_2 : Int) (a1 : Int) : Option (Int × Int × Int) := if a1 ≤ 0 then (some (0, s0_1, s0_2)) else (if a1 ≤ 256 then ((spec_l1Byte.f s0_0 s0_1 s0_2).bind fun bt202 => (if a1 = 0 then (none) else (some (Int.tmod bt202.1 a1, bt202.2.1, bt202.2.2)))) else ((spec_l1Byte.f s0_0 s0_1 s0_2).bind fun bt205 => ((spec_l1Byte.f s0_0 bt205.2.1 bt205.2.2).bind fun bt208 => ((spec_l1Byte.f s0_0 bt208.2.1 bt208.2.2).bind fun bt211 => ((spec_l1Byte.f s0_0 bt211.2.1 bt211.2.2).bind fun bt214 => (if a1 = 0 then (none) else (some (Int.tmod (wrap64 ((wrap64 ((wrap64 ((wrap64 (bt205.1 * 16777216)) + (wrap64 (bt208.1 * 65536)))) + (wrap64 (bt211.1 * 256)))) + bt214.1)) a1, bt214.2.1, bt214.2.2))))))))
set_option maxHeartbeats 8000000 in
set_option maxRecDepth 100000 in
theorem spec_l1Below.calls (g : Nat) (s0_0 : List Int) (s0_1 : Int) (s0_2 : Int) (a1 : Int) (r1 : Int) (r2 : Int) (r3 : Int) (w0 w : World) (hI : IsS89 w0 w g s0_0 s0_1 s0_2) (hB : Below w0.heap.size w0 w) (h : spec_l1Below.f s0_0 s0_1 s0_2 a1 = some (r1, r2, r3)) :
  Calls Try.prog 74 #[.pointer (some ⟨g, 0, none⟩), .int .i64 a1] w fun e w' => e = .returned (.int .i64 r1) ∧ IsS89 w0 w' g s0_0 r2 r3 ∧ Below w0.heap.size w0 w' ∧ KeepBut w w' g none := by
 have HI0 := Aside0.mk hI
 have HK := Aside0.mk (KeepBut.refl w g none)
 have HL := Aside0.mk hB.size
 clear hI
 have HW0 := Aside0.mk hB.size
 have HB := Aside0.mk hB
 clear hB
 have H : (if a1 ≤ 0 then (some (0, s0_1, s0_2)) else (if a1 ≤ 256 then ((spec_l1Byte.f s0_0 s0_1 s0_2).bind fun bt202 => (if a1 = 0 then (none) else (some (Int.tmod bt202.1 a1, bt202.2.1, bt202.2.2)))) else ((spec_l1Byte.f s0_0 s0_1 s0_2).bind fun bt205 => ((spec_l1Byte.f s0_0 bt205.2.1 bt205.2.2).bind fun bt208 => ((spec_l1Byte.f s0_0 bt208.2.1 bt208.2.2).bind fun bt211 => ((spec_l1Byte.f s0_0 bt211.2.1 bt211.2.2).bind fun bt214 => (if a1 = 0 then (none) else (some (Int.tmod (wrap64 ((wrap64 ((wrap64 ((wrap64 (bt205.1 * 16777216)) + (wrap64 (bt208.1 * 65536)))) + (wrap64 (bt211.1 * 256)))) + bt214.1)) a1, bt214.2.1, bt214.2.2))))))))) = some (r1, r2, r3) := h
 clear h
 by_cases c3 : a1 ≤ 0
 ·rw [if_pos c3] at H
  have c3b0 : decide (a1 ≤ 0) = true := decide_eq_true c3
  clear c3
  simp only [Option.some.injEq, Prod.mk.injEq] at H
  obtain ⟨rfl, rfl, rfl⟩ := H
  go_enter Try.func74, Try.ntmps74
  go_wp2
  go_ret
  exact ⟨ze, zi89 HI0.out, zj HB.out (IsS89.ge HI0.out), zq HK.out⟩
 ·rw [if_neg c3] at H
  have c3b0 : decide (a1 ≤ 0) = false := decide_eq_false c3
  clear c3
  by_cases c4 : a1 ≤ 256
  ·rw [if_pos c4] at H
   have c4b0 : decide (a1 ≤ 256) = true := decide_eq_true c4
   clear c4
   replace H := Option.bind_eq_some_iff.mp H
   obtain ⟨⟨t202, t203, t204⟩, A50, H⟩ := H
   replace H : (if a1 = 0 then (none) else (some (Int.tmod t202 a1, t203, t204))) = some (r1, r2, r3) := H
   have A5 := Aside0.mk A50
   clear A50
   by_cases c6 : a1 = 0
   ·rw [if_pos c6] at H
    exact absurd H (by simp)
   ·rw [if_neg c6] at H
    have c6b0 : (a1 == 0) = false := beq_eq_false_iff_ne.mpr c6
    have c6b1 : (a1 != 0) = true := bne_iff_ne.mpr c6
    simp only [Option.some.injEq, Prod.mk.injEq] at H
    obtain ⟨rfl, rfl, rfl⟩ := H
    go_enter Try.func74, Try.ntmps74
    go_wp2_with (first | ((with_reducible refine gate_callee (f := 108) rfl ?_); refine goesL_ (some 14) rfl rfl Try.func108 (by kernel_rfl) rfl #[.pointer (some ⟨g, 0, none⟩)] rfl zl ?_; (with_reducible refine (spec_l1Byte.calls g s0_0 s0_1 s0_2 t202 t203 t204 w0 _ ?side1 ?side2 A5.out).mono ?_); (case side1 => exact zi89 HI0.out); (case side2 => exact zj HB.out (IsS89.ge HI0.out)); rintro e w7 ⟨rfl, hi, hb, hk⟩; refine ⟨_, rfl, ?_⟩; have n0_ := Aside0.mk (KeepBut.trans (zq HK.out) hk (.inl rfl)); have n1_ := Aside0.mk (hb); have n2_ := Aside0.mk (hi); clear HK; clear HB; clear HI0; have HK := n0_; have HB := n1_; have HI0 := n2_; clear n0_ n1_ n2_; (try clear hb); (try clear hb2); (try clear hk); (try clear hi)))
    go_ret
    exact ⟨ze, zi89 HI0.out, zj HB.out (IsS89.ge HI0.out), zq HK.out⟩
  ·rw [if_neg c4] at H
   have c4b0 : decide (a1 ≤ 256) = false := decide_eq_false c4
   clear c4
   replace H := Option.bind_eq_some_iff.mp H
   obtain ⟨⟨t205, t206, t207⟩, A80, H⟩ := H
   replace H : ((spec_l1Byte.f s0_0 t206 t207).bind fun bt208 => ((spec_l1Byte.f s0_0 bt208.2.1 bt208.2.2).bind fun bt211 => ((spec_l1Byte.f s0_0 bt211.2.1 bt211.2.2).bind fun bt214 => (if a1 = 0 then (none) else (some (Int.tmod (wrap64 ((wrap64 ((wrap64 ((wrap64 (t205 * 16777216)) + (wrap64 (bt208.1 * 65536)))) + (wrap64 (bt211.1 * 256)))) + bt214.1)) a1, bt214.2.1, bt214.2.2)))))) = some (r1, r2, r3) := H
   have A8 := Aside0.mk A80
   clear A80
   replace H := Option.bind_eq_some_iff.mp H
   obtain ⟨⟨t208, t209, t210⟩, A90, H⟩ := H
   replace H : ((spec_l1Byte.f s0_0 t209 t210).bind fun bt211 => ((spec_l1Byte.f s0_0 bt211.2.1 bt211.2.2).bind fun bt214 => (if a1 = 0 then (none) else (some (Int.tmod (wrap64 ((wrap64 ((wrap64 ((wrap64 (t205 * 16777216)) + (wrap64 (t208 * 65536)))) + (wrap64 (bt211.1 * 256)))) + bt214.1)) a1, bt214.2.1, bt214.2.2))))) = some (r1, r2, r3) := H
   have A9 := Aside0.mk A90
   clear A90
   replace H := Option.bind_eq_some_iff.mp H
   obtain ⟨⟨t211, t212, t213⟩, A100, H⟩ := H
   replace H : ((spec_l1Byte.f s0_0 t212 t213).bind fun bt214 => (if a1 = 0 then (none) else (some (Int.tmod (wrap64 ((wrap64 ((wrap64 ((wrap64 (t205 * 16777216)) + (wrap64 (t208 * 65536)))) + (wrap64 (t211 * 256)))) + bt214.1)) a1, bt214.2.1, bt214.2.2)))) = some (r1, r2, r3) := H
   have A10 := Aside0.mk A100
   clear A100
   replace H := Option.bind_eq_some_iff.mp H
   obtain ⟨⟨t214, t215, t216⟩, A110, H⟩ := H
   replace H : (if a1 = 0 then (none) else (some (Int.tmod (wrap64 ((wrap64 ((wrap64 ((wrap64 (t205 * 16777216)) + (wrap64 (t208 * 65536)))) + (wrap64 (t211 * 256)))) + t214)) a1, t215, t216))) = some (r1, r2, r3) := H
   have A11 := Aside0.mk A110
   clear A110
   by_cases c12 : a1 = 0
   ·rw [if_pos c12] at H
    exact absurd H (by simp)
   ·rw [if_neg c12] at H
    have c12b0 : (a1 == 0) = false := beq_eq_false_iff_ne.mpr c12
    have c12b1 : (a1 != 0) = true := bne_iff_ne.mpr c12
    simp only [Option.some.injEq, Prod.mk.injEq] at H
    obtain ⟨rfl, rfl, rfl⟩ := H
    go_enter Try.func74, Try.ntmps74
    go_wp2_with (first | ((with_reducible refine gate_callee (f := 108) rfl ?_); refine goesL_ (some 18) rfl rfl Try.func108 (by kernel_rfl) rfl #[.pointer (some ⟨g, 0, none⟩)] rfl zl ?_; (with_reducible refine (spec_l1Byte.calls g s0_0 s0_1 s0_2 t205 t206 t207 w0 _ ?side1 ?side2 A8.out).mono ?_); (case side1 => exact zi89 HI0.out); (case side2 => exact zj HB.out (IsS89.ge HI0.out)); rintro e w13 ⟨rfl, hi, hb, hk⟩; refine ⟨_, rfl, ?_⟩; have n0_ := Aside0.mk (KeepBut.trans (zq HK.out) hk (.inl rfl)); have n1_ := Aside0.mk (hb); have n2_ := Aside0.mk (hi); clear HK; clear HB; clear HI0; have HK := n0_; have HB := n1_; have HI0 := n2_; clear n0_ n1_ n2_; (try clear hb); (try clear hb2); (try clear hk); (try clear hi)) | ((with_reducible refine gate_callee (f := 108) rfl ?_); refine goesL_ (some 20) rfl rfl Try.func108 (by kernel_rfl) rfl #[.pointer (some ⟨g, 0, none⟩)] rfl zl ?_; (with_reducible refine (spec_l1Byte.calls g s0_0 t206 t207 t208 t209 t210 w0 _ ?side1 ?side2 A9.out).mono ?_); (case side1 => exact zi89 HI0.out); (case side2 => exact zj HB.out (IsS89.ge HI0.out)); rintro e w14 ⟨rfl, hi, hb, hk⟩; refine ⟨_, rfl, ?_⟩; have n0_ := Aside0.mk (KeepBut.trans (zq HK.out) hk (.inl rfl)); have n1_ := Aside0.mk (hb); have n2_ := Aside0.mk (hi); clear HK; clear HB; clear HI0; have HK := n0_; have HB := n1_; have HI0 := n2_; clear n0_ n1_ n2_; (try clear hb); (try clear hb2); (try clear hk); (try clear hi)) | ((with_reducible refine gate_callee (f := 108) rfl ?_); refine goesL_ (some 22) rfl rfl Try.func108 (by kernel_rfl) rfl #[.pointer (some ⟨g, 0, none⟩)] rfl zl ?_; (with_reducible refine (spec_l1Byte.calls g s0_0 t209 t210 t211 t212 t213 w0 _ ?side1 ?side2 A10.out).mono ?_); (case side1 => exact zi89 HI0.out); (case side2 => exact zj HB.out (IsS89.ge HI0.out)); rintro e w15 ⟨rfl, hi, hb, hk⟩; refine ⟨_, rfl, ?_⟩; have n0_ := Aside0.mk (KeepBut.trans (zq HK.out) hk (.inl rfl)); have n1_ := Aside0.mk (hb); have n2_ := Aside0.mk (hi); clear HK; clear HB; clear HI0; have HK := n0_; have HB := n1_; have HI0 := n2_; clear n0_ n1_ n2_; (try clear hb); (try clear hb2); (try clear hk); (try clear hi)) | ((with_reducible refine gate_callee (f := 108) rfl ?_); refine goesL_ (some 24) rfl rfl Try.func108 (by kernel_rfl) rfl #[.pointer (some ⟨g, 0, none⟩)] rfl zl ?_; (with_reducible refine (spec_l1Byte.calls g s0_0 t212 t213 t214 t215 t216 w0 _ ?side1 ?side2 A11.out).mono ?_); (case side1 => exact zi89 HI0.out); (case side2 => exact zj HB.out (IsS89.ge HI0.out)); rintro e w16 ⟨rfl, hi, hb, hk⟩; refine ⟨_, rfl, ?_⟩; have n0_ := Aside0.mk (KeepBut.trans (zq HK.out) hk (.inl rfl)); have n1_ := Aside0.mk (hb); have n2_ := Aside0.mk (hi); clear HK; clear HB; clear HI0; have HK := n0_; have HB := n1_; have HI0 := n2_; clear n0_ n1_ n2_; (try clear hb); (try clear hb2); (try clear hk); (try clear hi)))
    go_ret
    exact ⟨ze, zi89 HI0.out, zj HB.out (IsS89.ge HI0.out), zq HK.out⟩

/-! ### spec_l1Once: function 77 -/
def spec_l1Once.f (s0_0 : List Int) (s0_1 : Int) (s0_2 : Int) (a1 : Int) : Option (Bool × Int × Int) := (spec_l1Below.f s0_0 s0_1 s0_2 a1).bind fun bt217 => (some ((bt217.1 == 0), bt217.2.1, bt217.2.2))
set_option maxHeartbeats 8000000 in
set_option maxRecDepth 100000 in
theorem spec_l1Once.calls (g : Nat) (s0_0 : List Int) (s0_1 : Int) (s0_2 : Int) (a1 : Int) (r1 : Bool) (r2 : Int) (r3 : Int) (w0 w : World) (hI : IsS89 w0 w g s0_0 s0_1 s0_2) (hB : Below w0.heap.size w0 w) (h : spec_l1Once.f s0_0 s0_1 s0_2 a1 = some (r1, r2, r3)) :
  Calls Try.prog 77 #[.pointer (some ⟨g, 0, none⟩), .int .i64 a1] w fun e w' => e = .returned (.bool r1) ∧ IsS89 w0 w' g s0_0 r2 r3 ∧ Below w0.heap.size w0 w' ∧ KeepBut w w' g none := by
 have HI0 := Aside0.mk hI
 have HK := Aside0.mk (KeepBut.refl w g none)
 have HL := Aside0.mk hB.size
 clear hI
 have HW0 := Aside0.mk hB.size
 have HB := Aside0.mk hB
 clear hB
 have H : ((spec_l1Below.f s0_0 s0_1 s0_2 a1).bind fun bt217 => (some ((bt217.1 == 0), bt217.2.1, bt217.2.2))) = some (r1, r2, r3) := h
 clear h
 replace H := Option.bind_eq_some_iff.mp H
 obtain ⟨⟨t217, t218, t219⟩, A30, H⟩ := H
 replace H : (some ((t217 == 0), t218, t219)) = some (r1, r2, r3) := H
 have A3 := Aside0.mk A30
 clear A30
 simp only [Option.some.injEq, Prod.mk.injEq] at H
 obtain ⟨rfl, rfl, rfl⟩ := H
 go_enter Try.func77, Try.ntmps77
 go_wp2_with (first | ((with_reducible refine gate_callee (f := 74) rfl ?_); refine goesL_ (some 7) rfl rfl Try.func74 (by kernel_rfl) rfl #[.pointer (some ⟨g, 0, none⟩), .int .i64 a1] rfl zl ?_; (with_reducible refine (spec_l1Below.calls g s0_0 s0_1 s0_2 a1 t217 t218 t219 w0 _ ?side1 ?side2 A3.out).mono ?_); (case side1 => exact zi89 HI0.out); (case side2 => exact zj HB.out (IsS89.ge HI0.out)); rintro e w4 ⟨rfl, hi, hb, hk⟩; refine ⟨_, rfl, ?_⟩; have n0_ := Aside0.mk (KeepBut.trans (zq HK.out) hk (.inl rfl)); have n1_ := Aside0.mk (hb); have n2_ := Aside0.mk (hi); clear HK; clear HB; clear HI0; have HK := n0_; have HB := n1_; have HI0 := n2_; clear n0_ n1_ n2_; (try clear hb); (try clear hb2); (try clear hk); (try clear hi)))
 go_ret
 exact ⟨ze, zi89 HI0.out, zj HB.out (IsS89.ge HI0.out), zq HK.out⟩

/-! ### spec_l1PickInt: function 79 -/
def spec_l1PickInt.f (s0_0 : List Int) (s0_1 : Int) (s0_2 : Int) (l1 : List Int) : Option (Int × Int × Int) := (spec_l1Below.f s0_0 s0_1 s0_2 (l1.length : Int)).bind fun bt220 => (if 0 ≤ bt220.1 then (if bt220.1 < (l1.length : Int) then (some (rd l1 bt220.1, bt220.2.1, bt220.2.2)) else (none)) else (none))
set_option maxHeartbeats 8000000 in
set_option maxRecDepth 100000 in
theorem spec_l1PickInt.calls (g : Nat) (s0_0 : List Int) (s0_1 : Int) (s0_2 : Int) (A1 : Option Addr) (c1 : Nat) (l1 : List Int) (r1 : Int) (r2 : Int) (r3 : Int) (w0 w : World) (hI : IsS89 w0 w g s0_0 s0_1 s0_2) (hB : Below w0.heap.size w0 w) (hr1 : Kd.C (Kd.int .i64) w A1 l1.length l1) (hc1 : l1.length ≤ c1) (hf1 : ∀ ad, A1 = some ad → 0 < l1.length → ad.block ≠ g) (h : spec_l1PickInt.f s0_0 s0_1 s0_2 l1 = some (r1, r2, r3)) :
  Calls Try.prog 79 #[.pointer (some ⟨g, 0, none⟩), .slice A1 l1.length c1] w fun e w' => e = .returned (.int .i64 r1) ∧ IsS89 w0 w' g s0_0 r2 r3 ∧ Below w0.heap.size w0 w' ∧ KeepBut w w' g none := by
 have HR1 := Aside0.mk hr1
 have HC1 := Aside0.mk hc1
 clear hr1 hc1
 have HI0 := Aside0.mk hI
 have HK := Aside0.mk (KeepBut.refl w g none)
 have HL := Aside0.mk hB.size
 clear hI
 have HW0 := Aside0.mk hB.size
 have HB := Aside0.mk hB
 clear hB
 have H : ((spec_l1Below.f s0_0 s0_1 s0_2 (l1.length : Int)).bind fun bt220 => (if 0 ≤ bt220.1 then (if bt220.1 < (l1.length : Int) then (some (rd l1 bt220.1, bt220.2.1, bt220.2.2)) else (none)) else (none))) = some (r1, r2, r3) := h
 clear h
 replace H := Option.bind_eq_some_iff.mp H
 obtain ⟨⟨t220, t221, t222⟩, A30, H⟩ := H
 replace H : (if 0 ≤ t220 then (if t220 < (l1.length : Int) then (some (rd l1 t220, t221, t222)) else (none)) else (none)) = some (r1, r2, r3) := H
 have A3 := Aside0.mk A30
 clear A30
 by_cases c4 : 0 ≤ t220
 ·rw [if_pos c4] at H
  have c4b0 : decide (0 ≤ t220) = true := decide_eq_true c4
  clear c4
  by_cases c5 : t220 < (l1.length : Int)
  ·rw [if_pos c5] at H
   have c5b0 : decide (t220 < (l1.length : Int)) = true := decide_eq_true c5
   clear c5
   simp only [Option.some.injEq, Prod.mk.injEq] at H
   obtain ⟨rfl, rfl, rfl⟩ := H
   go_enter Try.func79, Try.ntmps79
   go_wp2_with (first | ((with_reducible refine gate_callee (f := 74) rfl ?_); refine goesL_ (some 9) rfl rfl Try.func74 (by kernel_rfl) rfl #[.pointer (some ⟨g, 0, none⟩), .int .i64 (l1.length : Int)] rfl zl ?_; (with_reducible refine (spec_l1Below.calls g s0_0 s0_1 s0_2 (l1.length : Int) t220 t221 t222 w0 _ ?side1 ?side2 A3.out).mono ?_); (case side1 => exact zi89 HI0.out); (case side2 => exact zj HB.out (IsS89.ge HI0.out)); rintro e w6 ⟨rfl, hi, hb, hk⟩; refine ⟨_, rfl, ?_⟩; have n0_ := Aside0.mk (KeepBut.trans (zq HK.out) hk (.inl rfl)); have n1_ := Aside0.mk (hb); have n2_ := Aside0.mk (hi); clear HK; clear HB; clear HI0; have HK := n0_; have HB := n1_; have HI0 := n2_; clear n0_ n1_ n2_; (try clear hb); (try clear hb2); (try clear hk); (try clear hi); have p223 : 0 ≤ (t220 : Int) := of_decide_eq_true (by first | (with_reducible assumption) | assumption); have q223 : t220 < (l1.length : Int) := of_decide_eq_true (by first | (with_reducible assumption) | assumption); obtain ⟨ad223, e223, hx223_0⟩ := Kd.at_int HR1.out t220 p223 q223; cases e223; replace hx223_0 := keep_cell HK.out hx223_0 (by first | (rw [add_block]; exact hf1 _ rfl (by omega)) | exact hf1 _ rfl (by omega) | exact hf1 ad223 rfl (by omega)); replace p223 := eq_true p223; replace q223 := eq_true q223))
   go_ret
   exact ⟨ze, zi89 HI0.out, zj HB.out (IsS89.ge HI0.out), zq HK.out⟩
  ·rw [if_neg c5] at H
   exact absurd H (by simp)
 ·rw [if_neg c4] at H
  exact absurd H (by simp)

end Go.Proofs.Ytdgahpigcaejbaa.D
end

section
-- Written by this session's program (wip/tools/gprint.py over the kit's print) out of the translation; Lean checks it.
namespace Go.Proofs.Ytdgahpigcaejbaa.D
open Go.RowKit Go.Proofs.YtdgahpigcaejbaaW.PrintWords Go.Proofs.YtdgahpigcaejbaaW.PrintLast Go.Proofs.YtdgahpigcaejbaaW.PrintMore
attribute [local go_sem] max2_int min2_int max_two min_two max_three min_three max_four min_four   -- for this text's walks alone
set_option linter.unusedVariables false
set_option linter.unusedSimpArgs false
set_option maxRecDepth 100000

/-! ### spec_l1Draw: function 109 -/
def spec_l1Draw.j0 : Nat → Int → Bool → List Int → Int → Int → Option (Int × Int × Int)
 | 0, _, _, _, _, _ => none
 | k + 1, x1, x10, x1000, x1001, x1002 => if x10 = true then ((spec_l1Below.f x1000 x1001 x1002 6).bind fun bt227 => (some (wrap64 ((wrap64 (x1 - 1)) - bt227.1), bt227.2.1, bt227.2.2))) else ((spec_l1Below.f x1000 x1001 x1002 x1).bind fun bt230 => (some (bt230.1, bt230.2.1, bt230.2.2)))
def spec_l1Draw.f (k : Nat) (s0_0 : List Int) (s0_1 : Int) (s0_2 : Int) (a1 : Int) : Option (Int × Int × Int) := if a1 > 6 then ((spec_l1Once.f s0_0 s0_1 s0_2 2).bind fun bt224 => (spec_l1Draw.j0 k a1 bt224.1 s0_0 bt224.2.1 bt224.2.2)) else (spec_l1Draw.j0 k a1 false s0_0 s0_1 s0_2)
theorem spec_l1Draw.mono_l : ∀ k, (∀ y0 y1 y2 y3 y4, LeO (spec_l1Draw.j0 k y0 y1 y2 y3 y4) (spec_l1Draw.j0 (k + 1) y0 y1 y2 y3 y4))
 | 0 => fun _ _ _ _ _ r h => by simp [spec_l1Draw.j0] at h
 | k + 1 => by
  have ih0 := spec_l1Draw.mono_l k
  ·intro y0 y1 y2 y3 y4
   unfold spec_l1Draw.j0
   repeat' first
   | (with_reducible exact ih0 _ _ _ _ _)
   | (with_reducible exact LeO.refl _)
   | (with_reducible exact LeO.none _)
   | (with_reducible refine LeO.ite ?_ ?_)
   | (with_reducible refine LeO.bind ?_ (fun _ => ?_))
   | exact ih0 _ _ _ _ _
   | exact LeO.none _
   | refine LeO.ite ?_ ?_
   | refine LeO.bind ?_ (fun _ => ?_)
theorem spec_l1Draw.mono : ∀ a0 a1 a2 a3 k, LeO (spec_l1Draw.f k a0 a1 a2 a3) (spec_l1Draw.f (k + 1) a0 a1 a2 a3) := by
 intro a0 a1 a2 a3 k
 have ih0 := spec_l1Draw.mono_l k
 unfold spec_l1Draw.f
 repeat' first
   | (with_reducible exact ih0 _ _ _ _ _)
   | (with_reducible exact LeO.refl _)
   | (with_reducible exact LeO.none _)
   | (with_reducible refine LeO.ite ?_ ?_)
   | (with_reducible refine LeO.bind ?_ (fun _ => ?_))
   | exact ih0 _ _ _ _ _
   | exact LeO.none _
   | refine LeO.ite ?_ ?_
   | refine LeO.bind ?_ (fun _ => ?_)
set_option maxHeartbeats 8000000 in
set_option maxRecDepth 100000 in
theorem spec_l1Draw.calls (k : Nat) (g : Nat) (s0_0 : List Int) (s0_1 : Int) (s0_2 : Int) (a1 : Int) (r1 : Int) (r2 : Int) (r3 : Int) (w0 w : World) (hI : IsS89 w0 w g s0_0 s0_1 s0_2) (hB : Below w0.heap.size w0 w) (h : spec_l1Draw.f k s0_0 s0_1 s0_2 a1 = some (r1, r2, r3)) :
  Calls Try.prog 109 #[.pointer (some ⟨g, 0, none⟩), .int .i64 a1] w fun e w' => e = .returned (.int .i64 r1) ∧ IsS89 w0 w' g s0_0 r2 r3 ∧ Below w0.heap.size w0 w' ∧ KeepBut w w' g none := by
 have HI0 := Aside0.mk hI
 have HK := Aside0.mk (KeepBut.refl w g none)
 have HL := Aside0.mk hB.size
 clear hI
 have HW0 := Aside0.mk hB.size
 have HB := Aside0.mk hB
 clear hB
 have H : (if a1 > 6 then ((spec_l1Once.f s0_0 s0_1 s0_2 2).bind fun bt224 => (spec_l1Draw.j0 k a1 bt224.1 s0_0 bt224.2.1 bt224.2.2)) else (spec_l1Draw.j0 k a1 false s0_0 s0_1 s0_2)) = some (r1, r2, r3) := h
 clear h
 have HC3 := Aside0.mk H
 clear H
 go_enter Try.func109, Try.ntmps109
 go_upto_region 1 with (fail)
 go_cut [10] (fun v10 wc => ∃ (kq : Nat) (x10_2 : Bool) (x1001_2 : Int) (x1002_2 : Int), v10 = .bool x10_2 ∧ Aside0 (spec_l1Draw.j0 kq a1 x10_2 s0_0 x1001_2 x1002_2 = some (r1, r2, r3)) ∧ Aside0 (kq ≤ k) ∧ Aside0 (IsS89 w0 wc g s0_0 x1001_2 x1002_2) ∧ Aside0 (KeepBut w wc g none) ∧ Aside0 (Below w0.heap.size w0 wc))
 case first =>
  have H := HC3.out
  clear HC3
  by_cases c4 : a1 > 6
  ·rw [if_pos c4] at H
   have c4b0 : decide (6 < a1) = true := decide_eq_true c4
   clear c4
   (first | rw [c4b0] | (simp only [i64_w, i32_w]; rw [c4b0]) | skip)
   replace H := Option.bind_eq_some_iff.mp H
   obtain ⟨⟨t224, t225, t226⟩, A50, H⟩ := H
   replace H : (spec_l1Draw.j0 k a1 t224 s0_0 t225 t226) = some (r1, r2, r3) := H
   have A5 := Aside0.mk A50
   clear A50
   have H' := Aside0.mk H
   clear H
   go_wp2_with (first | (go_at_call 77; (with_reducible refine (spec_l1Once.calls g s0_0 s0_1 s0_2 2 t224 t225 t226 w0 _ ?side1 ?side2 A5.out).mono ?_); (case side1 => exact zi89 HI0.out); (case side2 => exact zj HB.out (IsS89.ge HI0.out)); rintro e w6 ⟨rfl, hi, hb, hk⟩; have n0_ := Aside0.mk (KeepBut.trans (zq HK.out) hk (.inl rfl)); have n1_ := Aside0.mk (hb); have n2_ := Aside0.mk (hi); clear HK; clear HB; clear HI0; have HK := n0_; have HB := n1_; have HI0 := n2_; clear n0_ n1_ n2_; (try clear hb); (try clear hb2); (try clear hk); (try clear hi)))
   go_meet
   case rel => exact ⟨_, (t224), (t225), (t226), (by first | rfl | (simp; done) | (simp [*]; done)), H', ⟨by first | omega | exact Nat.le_refl _⟩, ⟨zi89 HI0.out⟩, ⟨zq HK.out⟩, ⟨zj HB.out (IsS89.ge HI0.out)⟩⟩
  ·rw [if_neg c4] at H
   have c4b0 : decide (6 < a1) = false := decide_eq_false c4
   clear c4
   (first | rw [c4b0] | (simp only [i64_w, i32_w]; rw [c4b0]) | skip)
   have H' := Aside0.mk H
   clear H
   go_wp2
   go_meet
   case rel => exact ⟨_, (false), (s0_1), (s0_2), (by first | rfl | (simp; done) | (simp [*]; done)), H', ⟨by first | omega | exact Nat.le_refl _⟩, ⟨zi89 HI0.out⟩, ⟨zq HK.out⟩, ⟨zj HB.out (IsS89.ge HI0.out)⟩⟩
 case rest =>
  clear HC3
  try clear c1
  try clear p2
  try clear c4
  try clear c4b0
  obtain ⟨kq, x10_2, x1001_2, x1002_2, rfl, HA, HJ2, HI0, HK, HB⟩ := hcut
  cases kq with
  | zero => exact absurd HA.out (by simp [spec_l1Draw.j0])
  | succ kj2 =>
   have H := HA.out
   clear HA
   simp only [spec_l1Draw.j0] at H
   by_cases c7 : x10_2 = true
   ·subst c7
    have H1 : ((spec_l1Below.f s0_0 x1001_2 x1002_2 6).bind fun bt227 => (some (wrap64 ((wrap64 (a1 - 1)) - bt227.1), bt227.2.1, bt227.2.2))) = some (r1, r2, r3) := by rw [if_pos rfl] at H; exact H
    clear H
    have H := H1
    clear H1
    replace H := Option.bind_eq_some_iff.mp H
    obtain ⟨⟨t227, t228, t229⟩, A80, H⟩ := H
    replace H : (some (wrap64 ((wrap64 (a1 - 1)) - t227), t228, t229)) = some (r1, r2, r3) := H
    have A8 := Aside0.mk A80
    clear A80
    simp only [Option.some.injEq, Prod.mk.injEq] at H
    obtain ⟨rfl, rfl, rfl⟩ := H
    go_wp2_with (first | ((with_reducible refine gate_callee (f := 74) rfl ?_); refine goesL_ (some 14) rfl rfl Try.func74 (by kernel_rfl) rfl #[.pointer (some ⟨g, 0, none⟩), .int .i64 6] rfl zl ?_; (with_reducible refine (spec_l1Below.calls g s0_0 x1001_2 x1002_2 6 t227 t228 t229 w0 _ ?side1 ?side2 A8.out).mono ?_); (case side1 => exact zi89 HI0.out); (case side2 => exact zj HB.out (IsS89.ge HI0.out)); rintro e w9 ⟨rfl, hi, hb, hk⟩; refine ⟨_, rfl, ?_⟩; have n0_ := Aside0.mk (KeepBut.trans (zq HK.out) hk (.inl rfl)); have n1_ := Aside0.mk (hb); have n2_ := Aside0.mk (hi); clear HK; clear HB; clear HI0; have HK := n0_; have HB := n1_; have HI0 := n2_; clear n0_ n1_ n2_; (try clear hb); (try clear hb2); (try clear hk); (try clear hi)))
    go_ret
    exact ⟨ze, zi89 HI0.out, zj HB.out (IsS89.ge HI0.out), zq HK.out⟩
   ·replace c7 := Bool.eq_false_iff.mpr c7
    subst c7
    have H1 : ((spec_l1Below.f s0_0 x1001_2 x1002_2 a1).bind fun bt230 => (some (bt230.1, bt230.2.1, bt230.2.2))) = some (r1, r2, r3) := by rw [if_neg (show ¬ (false = true) by decide)] at H; exact H
    clear H
    have H := H1
    clear H1
    replace H := Option.bind_eq_some_iff.mp H
    obtain ⟨⟨t230, t231, t232⟩, A100, H⟩ := H
    replace H : (some (t230, t231, t232)) = some (r1, r2, r3) := H
    have A10 := Aside0.mk A100
    clear A100
    simp only [Option.some.injEq, Prod.mk.injEq] at H
    obtain ⟨rfl, rfl, rfl⟩ := H
    go_wp2_with (first | ((with_reducible refine gate_callee (f := 74) rfl ?_); refine goesL_ (some 18) rfl rfl Try.func74 (by kernel_rfl) rfl #[.pointer (some ⟨g, 0, none⟩), .int .i64 a1] rfl zl ?_; (with_reducible refine (spec_l1Below.calls g s0_0 x1001_2 x1002_2 a1 t230 t231 t232 w0 _ ?side1 ?side2 A10.out).mono ?_); (case side1 => exact zi89 HI0.out); (case side2 => exact zj HB.out (IsS89.ge HI0.out)); rintro e w11 ⟨rfl, hi, hb, hk⟩; refine ⟨_, rfl, ?_⟩; have n0_ := Aside0.mk (KeepBut.trans (zq HK.out) hk (.inl rfl)); have n1_ := Aside0.mk (hb); have n2_ := Aside0.mk (hi); clear HK; clear HB; clear HI0; have HK := n0_; have HB := n1_; have HI0 := n2_; clear n0_ n1_ n2_; (try clear hb); (try clear hb2); (try clear hk); (try clear hi)))
    go_ret
    exact ⟨ze, zi89 HI0.out, zj HB.out (IsS89.ge HI0.out), zq HK.out⟩

/-! ### spec_l1DrawNode: function 76 -/
def spec_l1DrawNode.j0 : Nat → Int → Bool → List Int → Int → Int → Option (Int × Int × Int × Int × Int)
 | 0, _, _, _, _, _ => none
 | k + 1, x1, x11, x1000, x1001, x1002 => if x11 = true then ((spec_l1PickInt.f x1000 x1001 x1002 (([0, 1, 5, 6, 50, 51, 62, 90, 91, 100, 101, 102, 199] : List Int))).bind fun bt240 => (some (1, bt240.1, 0, bt240.2.1, bt240.2.2))) else ((spec_l1Draw.f k x1000 x1001 x1002 7).bind fun bt243 => ((spec_l1Draw.f k x1000 bt243.2.1 bt243.2.2 x1).bind fun bt246 => ((spec_l1Parts.f k (wrap64 (2 + bt243.1))).bind fun t250 => (if t250 = 2 then ((spec_l1Draw.f k x1000 bt246.2.1 bt246.2.2 x1).bind fun bt251 => (some (wrap64 (2 + bt243.1), bt246.1, bt251.1, bt251.2.1, bt251.2.2))) else (some (wrap64 (2 + bt243.1), bt246.1, 0, bt246.2.1, bt246.2.2))))))
def spec_l1DrawNode.f (k : Nat) (s0_0 : List Int) (s0_1 : Int) (s0_2 : Int) (a1 : Int) : Option (Int × Int × Int × Int × Int) := if a1 = 0 then (spec_l1DrawNode.j0 k a1 true s0_0 s0_1 s0_2) else ((spec_l1Once.f s0_0 s0_1 s0_2 4).bind fun bt234 => (spec_l1DrawNode.j0 k a1 bt234.1 s0_0 bt234.2.1 bt234.2.2))
theorem spec_l1DrawNode.mono_l : ∀ k, (∀ y0 y1 y2 y3 y4, LeO (spec_l1DrawNode.j0 k y0 y1 y2 y3 y4) (spec_l1DrawNode.j0 (k + 1) y0 y1 y2 y3 y4))
 | 0 => fun _ _ _ _ _ r h => by simp [spec_l1DrawNode.j0] at h
 | k + 1 => by
  have ih0 := spec_l1DrawNode.mono_l k
  ·intro y0 y1 y2 y3 y4
   unfold spec_l1DrawNode.j0
   repeat' first
   | (with_reducible exact ih0 _ _ _ _ _)
   | (with_reducible exact spec_l1Draw.mono _ _ _ _ _)
   | (with_reducible exact spec_l1Parts.mono _ _)
   | (with_reducible exact LeO.refl _)
   | (with_reducible exact LeO.none _)
   | (with_reducible refine LeO.ite ?_ ?_)
   | (with_reducible refine LeO.bind ?_ (fun _ => ?_))
   | exact ih0 _ _ _ _ _
   | exact spec_l1Draw.mono _ _ _ _ _
   | exact spec_l1Parts.mono _ _
   | exact LeO.none _
   | refine LeO.ite ?_ ?_
   | refine LeO.bind ?_ (fun _ => ?_)
theorem spec_l1DrawNode.mono : ∀ a0 a1 a2 a3 k, LeO (spec_l1DrawNode.f k a0 a1 a2 a3) (spec_l1DrawNode.f (k + 1) a0 a1 a2 a3) := by
 intro a0 a1 a2 a3 k
 have ih0 := spec_l1DrawNode.mono_l k
 unfold spec_l1DrawNode.f
 repeat' first
   | (with_reducible exact ih0 _ _ _ _ _)
   | (with_reducible exact spec_l1Draw.mono _ _ _ _ _)
   | (with_reducible exact spec_l1Parts.mono _ _)
   | (with_reducible exact LeO.refl _)
   | (with_reducible exact LeO.none _)
   | (with_reducible refine LeO.ite ?_ ?_)
   | (with_reducible refine LeO.bind ?_ (fun _ => ?_))
   | exact ih0 _ _ _ _ _
   | exact spec_l1Draw.mono _ _ _ _ _
   | exact spec_l1Parts.mono _ _
   | exact LeO.none _
   | refine LeO.ite ?_ ?_
   | refine LeO.bind ?_ (fun _ => ?_)
set_option maxHeartbeats 8000000 in
set_option maxRecDepth 100000 in
theorem spec_l1DrawNode.calls (k : Nat) (g : Nat) (s0_0 : List Int) (s0_1 : Int) (s0_2 : Int) (a1 : Int) (r1 : Int) (r2 : Int) (r3 : Int) (r4 : Int) (r5 : Int) (w0 w : World) (hI : IsS89 w0 w g s0_0 s0_1 s0_2) (hB : Below w0.heap.size w0 w) (h : spec_l1DrawNode.f k s0_0 s0_1 s0_2 a1 = some (r1, r2, r3, r4, r5)) :
  Calls Try.prog 76 #[.pointer (some ⟨g, 0, none⟩), .int .i64 a1] w fun e w' => e = .returned (.agg #[.int .i64 r1, .int .i64 r2, .int .i64 r3]) ∧ IsS89 w0 w' g s0_0 r4 r5 ∧ Below w0.heap.size w0 w' ∧ KeepBut w w' g none := by
 have hu44 := Try.underlying44
 have HI0 := Aside0.mk hI
 have HK := Aside0.mk (KeepBut.refl w g none)
 have HL := Aside0.mk hB.size
 clear hI
 have HW0 := Aside0.mk hB.size
 have HB := Aside0.mk hB
 clear hB
 have H : (if a1 = 0 then (spec_l1DrawNode.j0 k a1 true s0_0 s0_1 s0_2) else ((spec_l1Once.f s0_0 s0_1 s0_2 4).bind fun bt234 => (spec_l1DrawNode.j0 k a1 bt234.1 s0_0 bt234.2.1 bt234.2.2))) = some (r1, r2, r3, r4, r5) := h
 clear h
 have HC3 := Aside0.mk H
 clear H
 go_enter Try.func76, Try.ntmps76
 go_upto_region 1 with (first | ((with_reducible refine gate_dst (N := 4) rfl ?_); refine box_event ?hg (N := 4) ?hd (cs := #[.int .i64 0, .int .i64 0, .int .i64 0]) (t := 44) ?hr ?_; (case hd => rfl); (case hg => rfl); (case hr => first | (go_simp; done) | (go_simp; rfl)); intro gb233 hg w4 hbox hb; have n0_ := Aside0.mk (IsS89.below (zi89 HI0.out) hb); have n1_ := Aside0.mk (KeepBut.trans (zq HK.out) (KeepBut.of_below hb g none) (.inl rfl)); have n2_ := Aside0.mk (below_step (zj HB.out (IsS89.ge HI0.out)) hb); have n3_ := Aside0.mk (hbox); have n4_ := Aside0.mk ((by rw [hg]; exact (keep_size (w := w) (g := g) (row := none) (zq HK.out)) : w.heap.size ≤ gb233)); have n5_ := Aside0.mk ((Nat.le_trans HW0.out (by rw [hg]; exact (keep_size (w := w) (g := g) (row := none) (zq HK.out)) : w.heap.size ≤ gb233) : w0.heap.size ≤ gb233)); have n6_ := Aside0.mk ((by rw [hg]; exact Nat.ne_of_lt (IsS89.lt (show IsS89 w0 _ g s0_0 s0_1 s0_2 from zi89 HI0.out)) : g ≠ gb233)); have n7_ := Aside0.mk ((by rw [hg]; exact Nat.ne_of_gt (IsS89.lt (show IsS89 w0 _ g s0_0 s0_1 s0_2 from zi89 HI0.out)) : gb233 ≠ g)); clear HI0; clear HK; clear HB; have HI0 := n0_; have HK := n1_; have HB := n2_; have BK233 := n3_; have GW233 := n4_; have GE233 := n5_; have NB0_233 := n6_; have NB233_0 := n7_; clear n0_ n1_ n2_ n3_ n4_ n5_ n6_ n7_; clear hb hbox hg))
 (try simp only [Act.put, List.setIfInBounds_toArray, List.set_cons_zero, List.set_cons_succ])
 go_cut [11] (fun v11 wc => ∃ (kq : Nat) (x11_2 : Bool) (x1001_2 : Int) (x1002_2 : Int), v11 = .bool x11_2 ∧ Aside0 (spec_l1DrawNode.j0 kq a1 x11_2 s0_0 x1001_2 x1002_2 = some (r1, r2, r3, r4, r5)) ∧ Aside0 (kq ≤ k) ∧ Aside0 (wc.heap[gb233]? = some (.cells #[.int .i64 0, .int .i64 0, .int .i64 0] 44 (0, 0))) ∧ Aside0 (IsS89 w0 wc g s0_0 x1001_2 x1002_2) ∧ Aside0 (KeepBut w wc g none) ∧ Aside0 (Below w0.heap.size w0 wc))
 case first =>
  have H := HC3.out
  clear HC3
  by_cases c5 : a1 = 0
  ·rw [if_pos c5] at H
   have c5b0 : (a1 == 0) = true := beq_iff_eq.mpr c5
   have c5b1 : (a1 != 0) = false := bne_eq_false_iff_eq.mpr c5
   clear c5
   (first | rw [c5b0] | (simp only [i64_w, i32_w]; rw [c5b0]) | skip)
   have H' := Aside0.mk H
   clear H
   go_wp2
   go_meet
   case rel => exact ⟨_, (true), (s0_1), (s0_2), (by first | rfl | (simp; done) | (simp [*]; done)), H', ⟨by first | omega | exact Nat.le_refl _⟩, ⟨zh BK233.out⟩, ⟨zi89 HI0.out⟩, ⟨zq HK.out⟩, ⟨zj HB.out (IsS89.ge HI0.out)⟩⟩
  ·rw [if_neg c5] at H
   have c5b0 : (a1 == 0) = false := beq_eq_false_iff_ne.mpr c5
   have c5b1 : (a1 != 0) = true := bne_iff_ne.mpr c5
   (first | rw [c5b0] | (simp only [i64_w, i32_w]; rw [c5b0]) | skip)
   replace H := Option.bind_eq_some_iff.mp H
   obtain ⟨⟨t234, t235, t236⟩, A60, H⟩ := H
   replace H : (spec_l1DrawNode.j0 k a1 t234 s0_0 t235 t236) = some (r1, r2, r3, r4, r5) := H
   have A6 := Aside0.mk A60
   clear A60
   have H' := Aside0.mk H
   clear H
   go_wp2_with (first | (go_at_call 77; (with_reducible refine (spec_l1Once.calls g s0_0 s0_1 s0_2 4 t234 t235 t236 w0 _ ?side1 ?side2 A6.out).mono ?_); (case side1 => exact zi89 HI0.out); (case side2 => exact zj HB.out (IsS89.ge HI0.out)); rintro e w7 ⟨rfl, hi, hb, hk⟩; have n0_ := Aside0.mk (KeepBut.blk hk (g' := gb233) (o := .cells #[.int .i64 0, .int .i64 0, .int .i64 0] 44 (0, 0)) (zh BK233.out) NB233_0.out (by simp)); have n1_ := Aside0.mk (KeepBut.trans (zq HK.out) hk (.inl rfl)); have n2_ := Aside0.mk (hb); have n3_ := Aside0.mk (hi); clear BK233; clear HK; clear HB; clear HI0; have BK233 := n0_; have HK := n1_; have HB := n2_; have HI0 := n3_; clear n0_ n1_ n2_ n3_; (try clear hb); (try clear hb2); (try clear hk); (try clear hi)))
   go_meet
   case rel => exact ⟨_, (t234), (t235), (t236), (by first | rfl | (simp; done) | (simp [*]; done)), H', ⟨by first | omega | exact Nat.le_refl _⟩, ⟨zh BK233.out⟩, ⟨zi89 HI0.out⟩, ⟨zq HK.out⟩, ⟨zj HB.out (IsS89.ge HI0.out)⟩⟩
 case rest =>
  clear HC3
  try clear p2
  try clear c5
  try clear c5b0
  try clear c5b1
  try clear c7
  obtain ⟨kq, x11_2, x1001_2, x1002_2, rfl, HA, HJ2, BK233, HI0, HK, HB⟩ := hcut
  cases kq with
  | zero => exact absurd HA.out (by simp [spec_l1DrawNode.j0])
  | succ kj2 =>
   have H := HA.out
   clear HA
   simp only [spec_l1DrawNode.j0] at H
   by_cases c8 : x11_2 = true
   ·subst c8
    have H1 : ((spec_l1PickInt.f s0_0 x1001_2 x1002_2 (([0, 1, 5, 6, 50, 51, 62, 90, 91, 100, 101, 102, 199] : List Int))).bind fun bt240 => (some (1, bt240.1, 0, bt240.2.1, bt240.2.2))) = some (r1, r2, r3, r4, r5) := by rw [if_pos rfl] at H; exact H
    clear H
    have H := H1
    clear H1
    obtain ⟨y237, hy237⟩ : ∃ y_ : List Int, y_ = (([0, 1, 5, 6, 50, 51, 62, 90, 91, 100, 101, 102, 199] : List Int)) := ⟨_, rfl⟩
    replace H : ((spec_l1PickInt.f s0_0 x1001_2 x1002_2 y237).bind fun bt240 => (some (1, bt240.1, 0, bt240.2.1, bt240.2.2))) = some (r1, r2, r3, r4, r5) := by first | (rw [hy237]; with_reducible exact H) | (have H2_ := (Option.bind_some _ _).symm.trans H; rw [hy237]; with_reducible exact H2_) | (have H2_ := (Option.bind_some _ _).symm.trans H; with_reducible exact H2_) | with_reducible exact H | (rw [hy237]; exact H) | exact H
    have Ny237 := Aside0.mk hy237
    clear hy237
    replace H := Option.bind_eq_some_iff.mp H
    obtain ⟨⟨t240, t241, t242⟩, A90, H⟩ := H
    replace H : (some (1, t240, 0, t241, t242)) = some (r1, r2, r3, r4, r5) := H
    have A9 := Aside0.mk A90
    clear A90
    simp only [Option.some.injEq, Prod.mk.injEq] at H
    obtain ⟨rfl, rfl, rfl, rfl, rfl⟩ := H
    go_wp2_with (first | ((with_reducible refine gate_dst (N := 13) rfl ?_); refine Kd.R_lit (Kd.int .i64) _ 3 ?hg (N := 13) ?hd (xs := ([0, 1, 5, 6, 50, 51, 62, 90, 91, 100, 101, 102, 199] : List Int)) (inner := [.int .i64 0, .int .i64 1, .int .i64 5, .int .i64 6, .int .i64 50, .int .i64 51, .int .i64 62, .int .i64 90, .int .i64 91, .int .i64 100, .int .i64 101, .int .i64 102, .int .i64 199]) (ok := fun _ => True) (okp := fun _ => True) ?hr ?hp (fun _ hk => hk) trivial (Below.refl _ _) (Nat.le_refl _) (by simp) ?_; (case hd => rfl); (case hg => rfl); (case hr => first | (go_simp; done) | (go_simp; rfl)); (case hp => exact (Reps.one (show Kd.M (Kd.int .i64) _ _ _ 0 [.int .i64 0] from rfl) (Reps.one (show Kd.M (Kd.int .i64) _ _ _ 1 [.int .i64 1] from rfl) (Reps.one (show Kd.M (Kd.int .i64) _ _ _ 5 [.int .i64 5] from rfl) (Reps.one (show Kd.M (Kd.int .i64) _ _ _ 6 [.int .i64 6] from rfl) (Reps.one (show Kd.M (Kd.int .i64) _ _ _ 50 [.int .i64 50] from rfl) (Reps.one (show Kd.M (Kd.int .i64) _ _ _ 51 [.int .i64 51] from rfl) (Reps.one (show Kd.M (Kd.int .i64) _ _ _ 62 [.int .i64 62] from rfl) (Reps.one (show Kd.M (Kd.int .i64) _ _ _ 90 [.int .i64 90] from rfl) (Reps.one (show Kd.M (Kd.int .i64) _ _ _ 91 [.int .i64 91] from rfl) (Reps.one (show Kd.M (Kd.int .i64) _ _ _ 100 [.int .i64 100] from rfl) (Reps.one (show Kd.M (Kd.int .i64) _ _ _ 101 [.int .i64 101] from rfl) (Reps.one (show Kd.M (Kd.int .i64) _ _ _ 102 [.int .i64 102] from rfl) (Reps.one (show Kd.M (Kd.int .i64) _ _ _ 199 [.int .i64 199] from rfl) (Reps.none _ _))))))))))))))); intro v238 w10 ho11 hb hg_ hnew_; clear hg_ hnew_; (first | rw [← Ny237.out] at ho11 | (simp only [Int.reduceToNat] at ho11; rw [← Ny237.out] at ho11)); have n0_ := Aside0.mk (Kd.R_lower ho11 (keep_size (w := w) (g := g) (row := none) (zq HK.out))); have n1_ := Aside0.mk (blk_below (zh BK233.out) hb); have n2_ := Aside0.mk (IsS89.below (zi89 HI0.out) hb); have n3_ := Aside0.mk (KeepBut.trans (zq HK.out) (KeepBut.of_below hb g none) (.inl rfl)); have n4_ := Aside0.mk (below_step (zj HB.out (IsS89.ge HI0.out)) hb); clear BK233; clear HI0; clear HK; clear HB; have HO239 := n0_; have BK233 := n1_; have HI0 := n2_; have HK := n3_; have HB := n4_; clear n0_ n1_ n2_ n3_ n4_; clear hb ho11; obtain ⟨Ao12, co12, eo12⟩ := Kd.R_slice HO239.out; subst eo12) | ((with_reducible refine gate_callee (f := 79) rfl ?_); refine goesL_ (some 14) rfl rfl Try.func79 (by kernel_rfl) rfl #[.pointer (some ⟨g, 0, none⟩), .slice Ao12 y237.length co12] rfl zl ?_; (with_reducible refine (spec_l1PickInt.calls g s0_0 x1001_2 x1002_2 _ _ y237 t240 t241 t242 w0 _ ?side1 ?side2 ?side3 ?side4 ?side5 A9.out).mono ?_); (case side1 => exact zi89 HI0.out); (case side2 => exact zj HB.out (IsS89.ge HI0.out)); (case side3 => exact zc (Kd.R_reads' HO239.out).2.2); (case side4 => exact (Kd.R_reads' HO239.out).2.1); (case side5 => exact far_slice (IsS89.own_ne HI0.out HO239.out (by decide))); rintro e w13 ⟨rfl, hi, hb, hk⟩; refine ⟨_, rfl, ?_⟩; have n0_ := Aside0.mk (KeepBut.blk hk (g' := gb233) (o := .cells #[.int .i64 0, .int .i64 0, .int .i64 0] 44 (0, 0)) (zh BK233.out) NB233_0.out (by simp)); have n1_ := Aside0.mk (Kd.R_mono (Kd.R_keep (IsS89.apart (show IsS89 w0 _ g s0_0 x1001_2 x1002_2 from zi89 HI0.out) (zr HO239.out) (by decide)) hk (fun _ h => h.2)) (fun _ h => h.1)); have n2_ := Aside0.mk (KeepBut.trans (zq HK.out) hk (.inl rfl)); have n3_ := Aside0.mk (hb); have n4_ := Aside0.mk (hi); clear BK233; clear HO239; clear HK; clear HB; clear HI0; have BK233 := n0_; have HO239 := n1_; have HK := n2_; have HB := n3_; have HI0 := n4_; clear n0_ n1_ n2_ n3_ n4_; (try clear hb); (try clear hb2); (try clear hk); (try clear hi); have hnb14 := NB233_0.out; have hnc14 := NB0_233.out; have hcz15_0 : w13.cell? ⟨gb233, 0, none⟩ = some (.int .i64 0) := (blk_cell BK233.out 0).trans rfl; have hcz15_1 : w13.cell? ⟨gb233, 1, none⟩ = some (.int .i64 0) := (blk_cell BK233.out 1).trans rfl; have hcz15_2 : w13.cell? ⟨gb233, 2, none⟩ = some (.int .i64 0) := (blk_cell BK233.out 2).trans rfl; have hfz15_0 := blk_frozen BK233.out 0; have hfz15_1 := blk_frozen BK233.out 1; have hfz15_2 := blk_frozen BK233.out 2))
    refine bodyPost_ret (results_cell_row rfl _ _ gb233 44 #[.int .i64 1, .int .i64 t240, .int .i64 0] (0, 0) _ rfl (by (with_reducible repeat (first | refine blk_drewN ?_ _ | refine blk_drew ?_ | refine blk_alloc ?_ _)); refine blk_put (cs := #[.int .i64 1, .int .i64 t240, .int .i64 0]) ?_ 2 _ rfl; (with_reducible repeat (first | refine blk_drewN ?_ _ | refine blk_drew ?_ | refine blk_alloc ?_ _)); refine blk_put (cs := #[.int .i64 1, .int .i64 0, .int .i64 0]) ?_ 1 _ rfl; (with_reducible repeat (first | refine blk_drewN ?_ _ | refine blk_drew ?_ | refine blk_alloc ?_ _)); refine blk_put (cs := #[.int .i64 0, .int .i64 0, .int .i64 0]) ?_ 0 _ rfl; (with_reducible repeat (first | refine blk_drewN ?_ _ | refine blk_drew ?_ | refine blk_alloc ?_ _)); exact BK233.out) Try.underlying44 rfl (by kernel_rfl)) rfl ?_
    exact ⟨ze, zi89 HI0.out, zj HB.out (IsS89.ge HI0.out), zq HK.out⟩
   ·replace c8 := Bool.eq_false_iff.mpr c8
    subst c8
    have H1 : ((spec_l1Draw.f kj2 s0_0 x1001_2 x1002_2 7).bind fun bt243 => ((spec_l1Draw.f kj2 s0_0 bt243.2.1 bt243.2.2 a1).bind fun bt246 => ((spec_l1Parts.f kj2 (wrap64 (2 + bt243.1))).bind fun t250 => (if t250 = 2 then ((spec_l1Draw.f kj2 s0_0 bt246.2.1 bt246.2.2 a1).bind fun bt251 => (some (wrap64 (2 + bt243.1), bt246.1, bt251.1, bt251.2.1, bt251.2.2))) else (some (wrap64 (2 + bt243.1), bt246.1, 0, bt246.2.1, bt246.2.2)))))) = some (r1, r2, r3, r4, r5) := by rw [if_neg (show ¬ (false = true) by decide)] at H; exact H
    clear H
    have H := H1
    clear H1
    replace H := Option.bind_eq_some_iff.mp H
    obtain ⟨⟨t243, t244, t245⟩, A160, H⟩ := H
    replace H : ((spec_l1Draw.f kj2 s0_0 t244 t245 a1).bind fun bt246 => ((spec_l1Parts.f kj2 (wrap64 (2 + t243))).bind fun t250 => (if t250 = 2 then ((spec_l1Draw.f kj2 s0_0 bt246.2.1 bt246.2.2 a1).bind fun bt251 => (some (wrap64 (2 + t243), bt246.1, bt251.1, bt251.2.1, bt251.2.2))) else (some (wrap64 (2 + t243), bt246.1, 0, bt246.2.1, bt246.2.2))))) = some (r1, r2, r3, r4, r5) := H
    have A16 := Aside0.mk A160
    clear A160
    replace H := Option.bind_eq_some_iff.mp H
    obtain ⟨⟨t246, t247, t248⟩, A170, H⟩ := H
    replace H : ((spec_l1Parts.f kj2 (wrap64 (2 + t243))).bind fun t250 => (if t250 = 2 then ((spec_l1Draw.f kj2 s0_0 t247 t248 a1).bind fun bt251 => (some (wrap64 (2 + t243), t246, bt251.1, bt251.2.1, bt251.2.2))) else (some (wrap64 (2 + t243), t246, 0, t247, t248)))) = some (r1, r2, r3, r4, r5) := H
    have A17 := Aside0.mk A170
    clear A170
    replace H := Option.bind_eq_some_iff.mp H
    obtain ⟨t250, A180, H⟩ := H
    replace H : (if t250 = 2 then ((spec_l1Draw.f kj2 s0_0 t247 t248 a1).bind fun bt251 => (some (wrap64 (2 + t243), t246, bt251.1, bt251.2.1, bt251.2.2))) else (some (wrap64 (2 + t243), t246, 0, t247, t248))) = some (r1, r2, r3, r4, r5) := H
    have A18 := Aside0.mk A180
    clear A180
    by_cases c19 : t250 = 2
    ·rw [if_pos c19] at H
     have c19b0 : (t250 == 2) = true := beq_iff_eq.mpr c19
     have c19b1 : (t250 != 2) = false := bne_eq_false_iff_eq.mpr c19
     clear c19
     replace H := Option.bind_eq_some_iff.mp H
     obtain ⟨⟨t251, t252, t253⟩, A200, H⟩ := H
     replace H : (some (wrap64 (2 + t243), t246, t251, t252, t253)) = some (r1, r2, r3, r4, r5) := H
     have A20 := Aside0.mk A200
     clear A200
     simp only [Option.some.injEq, Prod.mk.injEq] at H
     obtain ⟨rfl, rfl, rfl, rfl, rfl⟩ := H
     go_wp2_with (first | ((with_reducible refine gate_callee (f := 109) rfl ?_); refine goesL_ (some 17) rfl rfl Try.func109 (by kernel_rfl) rfl #[.pointer (some ⟨g, 0, none⟩), .int .i64 7] rfl zl ?_; (with_reducible refine (spec_l1Draw.calls kj2 g s0_0 x1001_2 x1002_2 7 t243 t244 t245 w0 _ ?side1 ?side2 A16.out).mono ?_); (case side1 => exact zi89 HI0.out); (case side2 => exact zj HB.out (IsS89.ge HI0.out)); rintro e w21 ⟨rfl, hi, hb, hk⟩; refine ⟨_, rfl, ?_⟩; have n0_ := Aside0.mk (KeepBut.blk hk (g' := gb233) (o := .cells #[.int .i64 0, .int .i64 0, .int .i64 0] 44 (0, 0)) (zh BK233.out) NB233_0.out (by simp)); have n1_ := Aside0.mk (KeepBut.trans (zq HK.out) hk (.inl rfl)); have n2_ := Aside0.mk (hb); have n3_ := Aside0.mk (hi); clear BK233; clear HK; clear HB; clear HI0; have BK233 := n0_; have HK := n1_; have HB := n2_; have HI0 := n3_; clear n0_ n1_ n2_ n3_; (try clear hb); (try clear hb2); (try clear hk); (try clear hi)) | ((with_reducible refine gate_callee (f := 109) rfl ?_); refine goesL_ (some 21) rfl rfl Try.func109 (by kernel_rfl) rfl #[.pointer (some ⟨g, 0, none⟩), .int .i64 a1] rfl zl ?_; (with_reducible refine (spec_l1Draw.calls kj2 g s0_0 t244 t245 a1 t246 t247 t248 w0 _ ?side1 ?side2 A17.out).mono ?_); (case side1 => exact zi89 HI0.out); (case side2 => exact zj HB.out (IsS89.ge HI0.out)); rintro e w22 ⟨rfl, hi, hb, hk⟩; refine ⟨_, rfl, ?_⟩; have n0_ := Aside0.mk (KeepBut.blk hk (g' := gb233) (o := .cells #[.int .i64 0, .int .i64 0, .int .i64 0] 44 (0, 0)) (zh BK233.out) NB233_0.out (by simp)); have n1_ := Aside0.mk (KeepBut.trans (zq HK.out) hk (.inl rfl)); have n2_ := Aside0.mk (hb); have n3_ := Aside0.mk (hi); clear BK233; clear HK; clear HB; clear HI0; have BK233 := n0_; have HK := n1_; have HB := n2_; have HI0 := n3_; clear n0_ n1_ n2_ n3_; (try clear hb); (try clear hb2); (try clear hk); (try clear hi)) | ((with_reducible refine gate_dst (N := 5) rfl ?_); refine box_event ?hg (N := 5) ?hd (cs := #[.int .i64 0, .int .i64 0, .int .i64 0]) (t := 44) ?hr ?_; (case hd => rfl); (case hg => rfl); (case hr => first | (go_simp; done) | (go_simp; rfl)); intro gb249 hg w23 hbox hb; have n0_ := Aside0.mk (blk_below (zh BK233.out) hb); have n1_ := Aside0.mk (IsS89.below (zi89 HI0.out) hb); have n2_ := Aside0.mk (KeepBut.trans (zq HK.out) (KeepBut.of_below hb g none) (.inl rfl)); have n3_ := Aside0.mk (below_step (zj HB.out (IsS89.ge HI0.out)) hb); have n4_ := Aside0.mk (hbox); have n5_ := Aside0.mk ((by rw [hg]; exact (keep_size (w := w) (g := g) (row := none) (zq HK.out)) : w.heap.size ≤ gb249)); have n6_ := Aside0.mk ((Nat.le_trans HW0.out (by rw [hg]; exact (keep_size (w := w) (g := g) (row := none) (zq HK.out)) : w.heap.size ≤ gb249) : w0.heap.size ≤ gb249)); have n7_ := Aside0.mk ((by rw [hg]; exact Nat.ne_of_lt (blk_lt (zh BK233.out)) : gb233 ≠ gb249)); have n8_ := Aside0.mk ((by rw [hg]; exact Nat.ne_of_gt (blk_lt (zh BK233.out)) : gb249 ≠ gb233)); have n9_ := Aside0.mk ((by rw [hg]; exact Nat.ne_of_lt (IsS89.lt (show IsS89 w0 _ g s0_0 t247 t248 from zi89 HI0.out)) : g ≠ gb249)); have n10_ := Aside0.mk ((by rw [hg]; exact Nat.ne_of_gt (IsS89.lt (show IsS89 w0 _ g s0_0 t247 t248 from zi89 HI0.out)) : gb249 ≠ g)); clear BK233; clear HI0; clear HK; clear HB; have BK233 := n0_; have HI0 := n1_; have HK := n2_; have HB := n3_; have BK249 := n4_; have GW249 := n5_; have GE249 := n6_; have NB233_249 := n7_; have NB249_233 := n8_; have NB0_249 := n9_; have NB249_0 := n10_; clear n0_ n1_ n2_ n3_ n4_ n5_ n6_ n7_ n8_ n9_ n10_; clear hb hbox hg; have hnb24 := NB249_233.out; have hnc24 := NB233_249.out; have hnb25 := NB249_0.out; have hnc25 := NB0_249.out; have hcz26_0 : w23.cell? ⟨gb249, 0, none⟩ = some (.int .i64 0) := (blk_cell BK249.out 0).trans rfl; have hcz26_1 : w23.cell? ⟨gb249, 1, none⟩ = some (.int .i64 0) := (blk_cell BK249.out 1).trans rfl; have hcz26_2 : w23.cell? ⟨gb249, 2, none⟩ = some (.int .i64 0) := (blk_cell BK249.out 2).trans rfl; have hfz26_0 := blk_frozen BK249.out 0; have hfz26_1 := blk_frozen BK249.out 1; have hfz26_2 := blk_frozen BK249.out 2) | ((with_reducible refine gate_callee (f := 82) rfl ?_); refine goesL_ (some 25) rfl rfl Try.func82 (by kernel_rfl) rfl #[.int .i64 (wrap64 (2 + t243))] rfl zl ?_; (with_reducible refine (spec_l1Parts.calls kj2 (wrap64 (2 + t243)) t250 _ A18.out).mono ?_); rintro e w' ⟨rfl, ⟨nd, rfl⟩⟩; refine ⟨_, rfl, ?_⟩) | ((with_reducible refine gate_callee (f := 109) rfl ?_); refine goesL_ (some 29) rfl rfl Try.func109 (by kernel_rfl) rfl #[.pointer (some ⟨g, 0, none⟩), .int .i64 a1] rfl zl ?_; (with_reducible refine (spec_l1Draw.calls kj2 g s0_0 t247 t248 a1 t251 t252 t253 w0 _ ?side1 ?side2 A20.out).mono ?_); (case side1 => exact zi89 HI0.out); (case side2 => exact zj HB.out (IsS89.ge HI0.out)); rintro e w27 ⟨rfl, hi, hb, hk⟩; refine ⟨_, rfl, ?_⟩; have n0_ := Aside0.mk (KeepBut.blk hk (g' := gb233) (o := .cells #[.int .i64 0, .int .i64 0, .int .i64 0] 44 (0, 0)) (zf BK233.out) NB233_0.out (by simp)); have n1_ := Aside0.mk (KeepBut.blk hk (g' := gb249) (o := .cells #[.int .i64 (wrap64 (2 + t243)), .int .i64 t246, .int .i64 0] 44 (0, 0)) (by (with_reducible repeat (first | refine blk_drewN ?_ _ | refine blk_drew ?_ | refine blk_alloc ?_ _)); refine blk_put (cs := #[.int .i64 (wrap64 (2 + t243)), .int .i64 t246, .int .i64 0]) ?_ 2 _ rfl; (with_reducible repeat (first | refine blk_drewN ?_ _ | refine blk_drew ?_ | refine blk_alloc ?_ _)); refine blk_put (cs := #[.int .i64 (wrap64 (2 + t243)), .int .i64 0, .int .i64 0]) ?_ 1 _ rfl; (with_reducible repeat (first | refine blk_drewN ?_ _ | refine blk_drew ?_ | refine blk_alloc ?_ _)); refine blk_put (cs := #[.int .i64 0, .int .i64 0, .int .i64 0]) ?_ 0 _ rfl; (with_reducible repeat (first | refine blk_drewN ?_ _ | refine blk_drew ?_ | refine blk_alloc ?_ _)); exact BK249.out) NB249_0.out (by simp)); have n2_ := Aside0.mk (KeepBut.trans (zq HK.out) hk (.inl rfl)); have n3_ := Aside0.mk (hb); have n4_ := Aside0.mk (hi); clear BK233; clear BK249; clear HK; clear HB; clear HI0; have BK233 := n0_; have BK249 := n1_; have HK := n2_; have HB := n3_; have HI0 := n4_; clear n0_ n1_ n2_ n3_ n4_; (try clear hb); (try clear hb2); (try clear hk); (try clear hi); have hcz28_0 : w27.cell? ⟨gb249, 0, none⟩ = some (.int .i64 (wrap64 (2 + t243))) := (blk_cell BK249.out 0).trans rfl; have hcz28_1 : w27.cell? ⟨gb249, 1, none⟩ = some (.int .i64 t246) := (blk_cell BK249.out 1).trans rfl; have hcz28_2 : w27.cell? ⟨gb249, 2, none⟩ = some (.int .i64 0) := (blk_cell BK249.out 2).trans rfl; have hfz28_0 := blk_frozen BK249.out 0; have hfz28_1 := blk_frozen BK249.out 1; have hfz28_2 := blk_frozen BK249.out 2; have hnb29 := NB233_0.out; have hnc29 := NB0_233.out; have hcz30_0 : w27.cell? ⟨gb233, 0, none⟩ = some (.int .i64 0) := (blk_cell BK233.out 0).trans rfl; have hcz30_1 : w27.cell? ⟨gb233, 1, none⟩ = some (.int .i64 0) := (blk_cell BK233.out 1).trans rfl; have hcz30_2 : w27.cell? ⟨gb233, 2, none⟩ = some (.int .i64 0) := (blk_cell BK233.out 2).trans rfl; have hfz30_0 := blk_frozen BK233.out 0; have hfz30_1 := blk_frozen BK233.out 1; have hfz30_2 := blk_frozen BK233.out 2))
     refine bodyPost_ret (results_cell_row rfl _ _ gb233 44 #[.int .i64 (wrap64 (2 + t243)), .int .i64 t246, .int .i64 t251] (0, 0) _ rfl (by (with_reducible repeat (first | refine blk_drewN ?_ _ | refine blk_drew ?_ | refine blk_alloc ?_ _)); refine blk_put (cs := #[.int .i64 (wrap64 (2 + t243)), .int .i64 t246, .int .i64 0]) ?_ 2 _ rfl; (with_reducible repeat (first | refine blk_drewN ?_ _ | refine blk_drew ?_ | refine blk_alloc ?_ _)); refine blk_put (cs := #[.int .i64 (wrap64 (2 + t243)), .int .i64 0, .int .i64 0]) ?_ 1 _ rfl; (with_reducible repeat (first | refine blk_drewN ?_ _ | refine blk_drew ?_ | refine blk_alloc ?_ _)); refine blk_put (cs := #[.int .i64 0, .int .i64 0, .int .i64 0]) ?_ 0 _ rfl; (with_reducible repeat (first | refine blk_drewN ?_ _ | refine blk_drew ?_ | refine blk_alloc ?_ _)); refine blk_far ?_ NB233_249.out _; (with_reducible repeat (first | refine blk_drewN ?_ _ | refine blk_drew ?_ | refine blk_alloc ?_ _)); exact BK233.out) Try.underlying44 rfl (by kernel_rfl)) rfl ?_
     exact ⟨ze, zi89 HI0.out, zj HB.out (IsS89.ge HI0.out), zq HK.out⟩
    ·rw [if_neg c19] at H
     have c19b0 : (t250 == 2) = false := beq_eq_false_iff_ne.mpr c19
     have c19b1 : (t250 != 2) = true := bne_iff_ne.mpr c19
     simp only [Option.some.injEq, Prod.mk.injEq] at H
     obtain ⟨rfl, rfl, rfl, rfl, rfl⟩ := H
     go_wp2_with (first | ((with_reducible refine gate_callee (f := 109) rfl ?_); refine goesL_ (some 17) rfl rfl Try.func109 (by kernel_rfl) rfl #[.pointer (some ⟨g, 0, none⟩), .int .i64 7] rfl zl ?_; (with_reducible refine (spec_l1Draw.calls kj2 g s0_0 x1001_2 x1002_2 7 t243 t244 t245 w0 _ ?side1 ?side2 A16.out).mono ?_); (case side1 => exact zi89 HI0.out); (case side2 => exact zj HB.out (IsS89.ge HI0.out)); rintro e w31 ⟨rfl, hi, hb, hk⟩; refine ⟨_, rfl, ?_⟩; have n0_ := Aside0.mk (KeepBut.blk hk (g' := gb233) (o := .cells #[.int .i64 0, .int .i64 0, .int .i64 0] 44 (0, 0)) (zh BK233.out) NB233_0.out (by simp)); have n1_ := Aside0.mk (KeepBut.trans (zq HK.out) hk (.inl rfl)); have n2_ := Aside0.mk (hb); have n3_ := Aside0.mk (hi); clear BK233; clear HK; clear HB; clear HI0; have BK233 := n0_; have HK := n1_; have HB := n2_; have HI0 := n3_; clear n0_ n1_ n2_ n3_; (try clear hb); (try clear hb2); (try clear hk); (try clear hi)) | ((with_reducible refine gate_callee (f := 109) rfl ?_); refine goesL_ (some 21) rfl rfl Try.func109 (by kernel_rfl) rfl #[.pointer (some ⟨g, 0, none⟩), .int .i64 a1] rfl zl ?_; (with_reducible refine (spec_l1Draw.calls kj2 g s0_0 t244 t245 a1 t246 t247 t248 w0 _ ?side1 ?side2 A17.out).mono ?_); (case side1 => exact zi89 HI0.out); (case side2 => exact zj HB.out (IsS89.ge HI0.out)); rintro e w32 ⟨rfl, hi, hb, hk⟩; refine ⟨_, rfl, ?_⟩; have n0_ := Aside0.mk (KeepBut.blk hk (g' := gb233) (o := .cells #[.int .i64 0, .int .i64 0, .int .i64 0] 44 (0, 0)) (zh BK233.out) NB233_0.out (by simp)); have n1_ := Aside0.mk (KeepBut.trans (zq HK.out) hk (.inl rfl)); have n2_ := Aside0.mk (hb); have n3_ := Aside0.mk (hi); clear BK233; clear HK; clear HB; clear HI0; have BK233 := n0_; have HK := n1_; have HB := n2_; have HI0 := n3_; clear n0_ n1_ n2_ n3_; (try clear hb); (try clear hb2); (try clear hk); (try clear hi)) | ((with_reducible refine gate_dst (N := 5) rfl ?_); refine box_event ?hg (N := 5) ?hd (cs := #[.int .i64 0, .int .i64 0, .int .i64 0]) (t := 44) ?hr ?_; (case hd => rfl); (case hg => rfl); (case hr => first | (go_simp; done) | (go_simp; rfl)); intro gb249 hg w33 hbox hb; have n0_ := Aside0.mk (blk_below (zh BK233.out) hb); have n1_ := Aside0.mk (IsS89.below (zi89 HI0.out) hb); have n2_ := Aside0.mk (KeepBut.trans (zq HK.out) (KeepBut.of_below hb g none) (.inl rfl)); have n3_ := Aside0.mk (below_step (zj HB.out (IsS89.ge HI0.out)) hb); have n4_ := Aside0.mk (hbox); have n5_ := Aside0.mk ((by rw [hg]; exact (keep_size (w := w) (g := g) (row := none) (zq HK.out)) : w.heap.size ≤ gb249)); have n6_ := Aside0.mk ((Nat.le_trans HW0.out (by rw [hg]; exact (keep_size (w := w) (g := g) (row := none) (zq HK.out)) : w.heap.size ≤ gb249) : w0.heap.size ≤ gb249)); have n7_ := Aside0.mk ((by rw [hg]; exact Nat.ne_of_lt (blk_lt (zh BK233.out)) : gb233 ≠ gb249)); have n8_ := Aside0.mk ((by rw [hg]; exact Nat.ne_of_gt (blk_lt (zh BK233.out)) : gb249 ≠ gb233)); have n9_ := Aside0.mk ((by rw [hg]; exact Nat.ne_of_lt (IsS89.lt (show IsS89 w0 _ g s0_0 t247 t248 from zi89 HI0.out)) : g ≠ gb249)); have n10_ := Aside0.mk ((by rw [hg]; exact Nat.ne_of_gt (IsS89.lt (show IsS89 w0 _ g s0_0 t247 t248 from zi89 HI0.out)) : gb249 ≠ g)); clear BK233; clear HI0; clear HK; clear HB; have BK233 := n0_; have HI0 := n1_; have HK := n2_; have HB := n3_; have BK249 := n4_; have GW249 := n5_; have GE249 := n6_; have NB233_249 := n7_; have NB249_233 := n8_; have NB0_249 := n9_; have NB249_0 := n10_; clear n0_ n1_ n2_ n3_ n4_ n5_ n6_ n7_ n8_ n9_ n10_; clear hb hbox hg; have hnb34 := NB249_233.out; have hnc34 := NB233_249.out; have hnb35 := NB249_0.out; have hnc35 := NB0_249.out; have hcz36_0 : w33.cell? ⟨gb249, 0, none⟩ = some (.int .i64 0) := (blk_cell BK249.out 0).trans rfl; have hcz36_1 : w33.cell? ⟨gb249, 1, none⟩ = some (.int .i64 0) := (blk_cell BK249.out 1).trans rfl; have hcz36_2 : w33.cell? ⟨gb249, 2, none⟩ = some (.int .i64 0) := (blk_cell BK249.out 2).trans rfl; have hfz36_0 := blk_frozen BK249.out 0; have hfz36_1 := blk_frozen BK249.out 1; have hfz36_2 := blk_frozen BK249.out 2) | ((with_reducible refine gate_callee (f := 82) rfl ?_); refine goesL_ (some 25) rfl rfl Try.func82 (by kernel_rfl) rfl #[.int .i64 (wrap64 (2 + t243))] rfl zl ?_; (with_reducible refine (spec_l1Parts.calls kj2 (wrap64 (2 + t243)) t250 _ A18.out).mono ?_); rintro e w' ⟨rfl, ⟨nd, rfl⟩⟩; refine ⟨_, rfl, ?_⟩; have hnb37 := NB233_0.out; have hnc37 := NB0_233.out; have hcz38_0 : w33.cell? ⟨gb233, 0, none⟩ = some (.int .i64 0) := (blk_cell BK233.out 0).trans rfl; have hcz38_1 : w33.cell? ⟨gb233, 1, none⟩ = some (.int .i64 0) := (blk_cell BK233.out 1).trans rfl; have hcz38_2 : w33.cell? ⟨gb233, 2, none⟩ = some (.int .i64 0) := (blk_cell BK233.out 2).trans rfl; have hfz38_0 := blk_frozen BK233.out 0; have hfz38_1 := blk_frozen BK233.out 1; have hfz38_2 := blk_frozen BK233.out 2))
     refine bodyPost_ret (results_cell_row rfl _ _ gb233 44 #[.int .i64 (wrap64 (2 + t243)), .int .i64 t246, .int .i64 0] (0, 0) _ rfl (by (with_reducible repeat (first | refine blk_drewN ?_ _ | refine blk_drew ?_ | refine blk_alloc ?_ _)); refine blk_put (cs := #[.int .i64 (wrap64 (2 + t243)), .int .i64 t246, .int .i64 0]) ?_ 2 _ rfl; (with_reducible repeat (first | refine blk_drewN ?_ _ | refine blk_drew ?_ | refine blk_alloc ?_ _)); refine blk_put (cs := #[.int .i64 (wrap64 (2 + t243)), .int .i64 0, .int .i64 0]) ?_ 1 _ rfl; (with_reducible repeat (first | refine blk_drewN ?_ _ | refine blk_drew ?_ | refine blk_alloc ?_ _)); refine blk_put (cs := #[.int .i64 0, .int .i64 0, .int .i64 0]) ?_ 0 _ rfl; (with_reducible repeat (first | refine blk_drewN ?_ _ | refine blk_drew ?_ | refine blk_alloc ?_ _)); refine blk_far ?_ NB233_249.out _; (with_reducible repeat (first | refine blk_drewN ?_ _ | refine blk_drew ?_ | refine blk_alloc ?_ _)); refine blk_far ?_ NB233_249.out _; (with_reducible repeat (first | refine blk_drewN ?_ _ | refine blk_drew ?_ | refine blk_alloc ?_ _)); refine blk_far ?_ NB233_249.out _; (with_reducible repeat (first | refine blk_drewN ?_ _ | refine blk_drew ?_ | refine blk_alloc ?_ _)); exact BK233.out) Try.underlying44 rfl (by kernel_rfl)) rfl ?_
     exact ⟨ze, zi89 HI0.out, zj HB.out (IsS89.ge HI0.out), zq HK.out⟩

/-! ### spec_l1Copy: function 75 -/
def spec_l1Copy.f (l0_0 : List (S44)) : Option ((List (S44))) := (some (([] : List (S44)) : List (S44))).bind fun y256 => (if y256.length + l0_0.length < 5864062014805 then (some (y256 ++ l0_0)) else (none))
set_option maxHeartbeats 8000000 in
set_option maxRecDepth 100000 in
theorem spec_l1Copy.calls (A0_0 : Option Addr) (c0_0 : Nat) (l0_0 : List (S44)) (r : List (S44)) (w : World) (hr0_0 : Kd.C k44 w A0_0 l0_0.length l0_0) (hc0_0 : l0_0.length ≤ c0_0) (h : spec_l1Copy.f l0_0 = some r) :
  Calls Try.prog 75 #[.agg #[.slice A0_0 l0_0.length c0_0]] w fun e w' => ∃ v0_ : Value, e = .returned (.agg #[v0_]) ∧ Kd.R k44 44 w' w.heap.size (fun _ => True) v0_ r ∧ Below w.heap.size w w' := by
 have hu30 := Try.underlying30
 have HR0_0 := Aside0.mk hr0_0
 have HC0_0 := Aside0.mk hc0_0
 clear hr0_0 hc0_0
 have HB := Aside0.mk (Below.refl w.heap.size w)
 have H : ((some (([] : List (S44)) : List (S44))).bind fun y256 => (if y256.length + l0_0.length < 5864062014805 then (some (y256 ++ l0_0)) else (none))) = some r := h
 clear h
 obtain ⟨y256, hy256⟩ : ∃ y_ : List (S44), y_ = (([] : List (S44))) := ⟨_, rfl⟩
 replace H : (if y256.length + l0_0.length < 5864062014805 then (some (y256 ++ l0_0)) else (none)) = some r := by first | (rw [hy256]; with_reducible exact H) | (have H2_ := (Option.bind_some _ _).symm.trans H; rw [hy256]; with_reducible exact H2_) | (have H2_ := (Option.bind_some _ _).symm.trans H; with_reducible exact H2_) | with_reducible exact H | (rw [hy256]; exact H) | exact H
 have Ny256 := Aside0.mk hy256
 clear hy256
 by_cases c2 : y256.length + l0_0.length < 5864062014805
 ·rw [if_pos c2] at H
  have LMc2 := Aside0.mk c2
  clear c2
  obtain ⟨y259, hy259⟩ : ∃ y_ : List (S44), y_ = (y256 ++ l0_0) := ⟨_, rfl⟩
  replace H : (some y259) = some r := by first | (rw [hy259]; with_reducible exact H) | (have H2_ := (Option.bind_some _ _).symm.trans H; rw [hy259]; with_reducible exact H2_) | (have H2_ := (Option.bind_some _ _).symm.trans H; with_reducible exact H2_) | with_reducible exact H | (rw [hy259]; exact H) | exact H
  have Ny259 := Aside0.mk hy259
  clear hy259
  obtain rfl := Option.some.inj H
  go_enter Try.func75, Try.ntmps75
  go_wp2_with (first | ((with_reducible refine gate_dst (N := 1) rfl ?_); refine box_event ?hg (N := 1) ?hd (cs := #[.slice A0_0 l0_0.length c0_0]) (t := 30) ?hr ?_; (case hd => rfl); (case hg => rfl); (case hr => first | (go_simp; done) | (go_simp; rfl)); intro gb254 hg w3 hbox hb; have n0_ := Aside0.mk (below_step (zb HB.out) hb); have n1_ := Aside0.mk (hbox); have n2_ := Aside0.mk ((by rw [hg]; exact (below_size (zb HB.out)) : w.heap.size ≤ gb254)); have n3_ := Aside0.mk ((by rw [hg]; exact (below_size (zb HB.out)) : w.heap.size ≤ gb254)); clear HB; have HB := n0_; have BK254 := n1_; have GW254 := n2_; have GE254 := n3_; clear n0_ n1_ n2_ n3_; clear hb hbox hg) | ((with_reducible refine gate_dst (N := 2) rfl ?_); refine box_event ?hg (N := 2) ?hd (cs := #[.slice none 0 0]) (t := 30) ?hr ?_; (case hd => rfl); (case hg => rfl); (case hr => first | (go_simp; done) | (go_simp; rfl)); intro gb255 hg w4 hbox hb; have n0_ := Aside0.mk (blk_below (zh BK254.out) hb); have n1_ := Aside0.mk (below_step (zb HB.out) hb); have n2_ := Aside0.mk (hbox); have n3_ := Aside0.mk ((by rw [hg]; exact (below_size (zb HB.out)) : w.heap.size ≤ gb255)); have n4_ := Aside0.mk ((by rw [hg]; exact (below_size (zb HB.out)) : w.heap.size ≤ gb255)); have n5_ := Aside0.mk ((by rw [hg]; exact Nat.ne_of_lt (blk_lt (zh BK254.out)) : gb254 ≠ gb255)); have n6_ := Aside0.mk ((by rw [hg]; exact Nat.ne_of_gt (blk_lt (zh BK254.out)) : gb255 ≠ gb254)); clear BK254; clear HB; have BK254 := n0_; have HB := n1_; have BK255 := n2_; have GW255 := n3_; have GE255 := n4_; have NB254_255 := n5_; have NB255_254 := n6_; clear n0_ n1_ n2_ n3_ n4_ n5_ n6_; clear hb hbox hg) | ((with_reducible refine gate_dst (N := 3) rfl ?_); refine Kd.R_lit k44 _ 44 ?hg (N := 3) ?hd (xs := ([] : List (S44))) (inner := []) (ok := fun _ => True) (okp := fun _ => True) ?hr ?hp (fun _ hk => hk) trivial (Below.refl _ _) (Nat.le_refl _) (by simp) ?_; (case hd => rfl); (case hg => rfl); (case hr => first | (go_simp; done) | (go_simp; rfl)); (case hp => exact (Reps.none _ _)); intro v257 w5 ho6 hb hg_ hnew_; clear hg_ hnew_; (first | rw [← Ny256.out] at ho6 | (simp only [Int.reduceToNat] at ho6; rw [← Ny256.out] at ho6)); have n0_ := Aside0.mk (Kd.R_lower ho6 (below_size (zb HB.out))); have n1_ := Aside0.mk (blk_below (zh BK254.out) hb); have n2_ := Aside0.mk (blk_below (zh BK255.out) hb); have n3_ := Aside0.mk (below_step (zb HB.out) hb); clear BK254; clear BK255; clear HB; have HO258 := n0_; have BK254 := n1_; have BK255 := n2_; have HB := n3_; clear n0_ n1_ n2_ n3_; clear hb ho6; have hnb7 := NB254_255.out; have hnc7 := NB255_254.out; have hcz8_0 : w5.cell? ⟨gb254, 0, none⟩ = some (.slice A0_0 l0_0.length c0_0) := (blk_cell BK254.out 0).trans rfl; have hfz8_0 := blk_frozen BK254.out 0) | ((with_reducible refine gate_builtin (b := .append) (xs := #[.tmp 3, .tmp 5]) rfl ?_); at_builtin; refine Kd.R_append_rows k44 (w0 := w) w.heap.size rfl (.tmp 3) (.tmp 5) 28 44 (.agg #[(.int .i64 0), (.int .i64 0), (.int .i64 0)]) 24 rfl Try.underlying28 info44 rfl (by decide) (by omega) v257 y256 l0_0 _ _ _ (fun _ => True) (fun _ => False) rfl rfl ?aO ?aR (fun _ _ h => h) (fun _ h => h.elim) ?aF ?aB ?aS ?aL ?_; (case aR => exact zc (Kd.C_below HR0_0.out HB.out)); (case aB => exact (zb HB.out)); (case aF => exact (fun _ _ => trivial)); (case aO => exact (zr HO258.out)); (case aS => exact (below_size (zb HB.out))); (case aL => have := LMc2.out; omega); intro v260 w9 ho hb hg hat; rw [← Ny259.out] at ho; have n0_ := Aside0.mk (blk_grown (zh BK254.out) hg (Kd.R_ne HO258.out BK254.out (by decide))); have n1_ := Aside0.mk (blk_grown (zh BK255.out) hg (Kd.R_ne HO258.out BK255.out (by decide))); have n2_ := Aside0.mk (hb); have n3_ := Aside0.mk (ho); clear BK254; clear BK255; clear HB; clear HO258; have BK254 := n0_; have BK255 := n1_; have HB := n2_; have HO261 := n3_; clear n0_ n1_ n2_ n3_; clear ho hb hg hat; obtain ⟨Ao10, co10, eo10⟩ := Kd.R_slice HO261.out; subst eo10; have hcz11_0 : w9.cell? ⟨gb255, 0, none⟩ = some (.slice none 0 0) := (blk_cell BK255.out 0).trans rfl; have hfz11_0 := blk_frozen BK255.out 0))
  refine bodyPost_ret (results_cell_row rfl _ _ gb255 30 #[.slice Ao10 y259.length co10] (0, 0) _ rfl (by (with_reducible repeat (first | refine blk_drewN ?_ _ | refine blk_drew ?_ | refine blk_alloc ?_ _)); refine blk_put (cs := #[.slice none 0 0]) ?_ 0 _ rfl; (with_reducible repeat (first | refine blk_drewN ?_ _ | refine blk_drew ?_ | refine blk_alloc ?_ _)); exact BK255.out) Try.underlying30 rfl (by kernel_rfl)) rfl ?_
  exact ⟨_, ze, zr (Kd.R_mono (Kd.R_far (p := ⟨gb255, 0, none⟩) (Kd.R_types HO261.out BK255.out (by decide)) (fun _ hk => hk.2) (.slice Ao10 y259.length co10)) (fun _ hk => trivial)), zb HB.out⟩
 ·rw [if_neg c2] at H
  exact absurd H (by simp)

end Go.Proofs.Ytdgahpigcaejbaa.D
end

section
-- Written by this session's program (wip/tools/gprint.py over the kit's print) out of the translation; Lean checks it.
namespace Go.Proofs.Ytdgahpigcaejbaa.D
open Go.RowKit Go.Proofs.YtdgahpigcaejbaaW.PrintWords Go.Proofs.YtdgahpigcaejbaaW.PrintLast Go.Proofs.YtdgahpigcaejbaaW.PrintMore
attribute [local go_sem] max2_int min2_int max_two min_two max_three min_three max_four min_four   -- for this text's walks alone
set_option linter.unusedVariables false
set_option linter.unusedSimpArgs false
set_option maxRecDepth 100000

/-! ### spec_l1Add: function 78 -/
mutual
def spec_l1Add.j0 : Nat → Bool → List (S44) → Int → Int → Int → Option ((List (S44)) × Int)
 | 0, _, _, _, _, _ => none
 | k + 1, x17, x263000, x264000, x264001, x264002 => if x17 = true then (spec_l1Add.j1 k x263000 x264000 x264002 x264001) else (spec_l1Add.j1 k x263000 x264000 x264001 x264002)
def spec_l1Add.j1 : Nat → List (S44) → Int → Int → Int → Option ((List (S44)) × Int)
 | 0, _, _, _, _ => none
 | k + 1, x263000, x264000, x264001, x264002 => (spec_l1Find.f k x263000 x264000 x264001 x264002).bind fun t265 => (if t265 ≥ 0 then (some (x263000, t265)) else ((spec_l1Right.f k x264000 x264001 x264002 (x263000.length : Int)).bind fun t266 => (if t266 = true then (if (x263000.length : Int) = 500 then (some (x263000, (-1))) else ((spec_l1Copy.f x263000).bind fun t267 => (if t267.length < 5864062014805 then (some ((t267 ++ [(⟨x264000, x264001, x264002⟩ : S44)]), (x263000.length : Int))) else (none)))) else (some (x263000, (-1))))))
end
def spec_l1Add.f (k : Nat) (l0_0 : List (S44)) (a1_0 : Int) (a1_1 : Int) (a1_2 : Int) : Option ((List (S44)) × Int) := if a1_0 = 8 then (spec_l1Add.j0 k (decide (a1_1 > a1_2)) l0_0 a1_0 a1_1 a1_2) else (spec_l1Add.j0 k false l0_0 a1_0 a1_1 a1_2)
theorem spec_l1Add.mono_l : ∀ k, (∀ y0 y1 y2 y3 y4, LeO (spec_l1Add.j0 k y0 y1 y2 y3 y4) (spec_l1Add.j0 (k + 1) y0 y1 y2 y3 y4)) ∧ (∀ y0 y1 y2 y3, LeO (spec_l1Add.j1 k y0 y1 y2 y3) (spec_l1Add.j1 (k + 1) y0 y1 y2 y3))
 | 0 => ⟨fun _ _ _ _ _ r h => by simp [spec_l1Add.j0] at h, fun _ _ _ _ r h => by simp [spec_l1Add.j1] at h⟩
 | k + 1 => by
  obtain ⟨ih0, ih1⟩ := spec_l1Add.mono_l k
  refine ⟨?_, ?_⟩
  ·intro y0 y1 y2 y3 y4
   unfold spec_l1Add.j0
   repeat' first
   | (with_reducible exact ih0 _ _ _ _ _)
   | (with_reducible exact ih1 _ _ _ _)
   | (with_reducible exact spec_l1Find.mono _ _ _ _ _)
   | (with_reducible exact spec_l1Right.mono _ _ _ _ _)
   | (with_reducible exact LeO.refl _)
   | (with_reducible exact LeO.none _)
   | (with_reducible refine LeO.ite ?_ ?_)
   | (with_reducible refine LeO.bind ?_ (fun _ => ?_))
   | exact ih0 _ _ _ _ _
   | exact ih1 _ _ _ _
   | exact spec_l1Find.mono _ _ _ _ _
   | exact spec_l1Right.mono _ _ _ _ _
   | exact LeO.none _
   | refine LeO.ite ?_ ?_
   | refine LeO.bind ?_ (fun _ => ?_)
  ·intro y0 y1 y2 y3
   unfold spec_l1Add.j1
   repeat' first
   | (with_reducible exact ih0 _ _ _ _ _)
   | (with_reducible exact ih1 _ _ _ _)
   | (with_reducible exact spec_l1Find.mono _ _ _ _ _)
   | (with_reducible exact spec_l1Right.mono _ _ _ _ _)
   | (with_reducible exact LeO.refl _)
   | (with_reducible exact LeO.none _)
   | (with_reducible refine LeO.ite ?_ ?_)
   | (with_reducible refine LeO.bind ?_ (fun _ => ?_))
   | exact ih0 _ _ _ _ _
   | exact ih1 _ _ _ _
   | exact spec_l1Find.mono _ _ _ _ _
   | exact spec_l1Right.mono _ _ _ _ _
   | exact LeO.none _
   | refine LeO.ite ?_ ?_
   | refine LeO.bind ?_ (fun _ => ?_)
theorem spec_l1Add.mono : ∀ a0 a1 a2 a3 k, LeO (spec_l1Add.f k a0 a1 a2 a3) (spec_l1Add.f (k + 1) a0 a1 a2 a3) := by
 intro a0 a1 a2 a3 k
 obtain ⟨ih0, ih1⟩ := spec_l1Add.mono_l k
 unfold spec_l1Add.f
 repeat' first
   | (with_reducible exact ih0 _ _ _ _ _)
   | (with_reducible exact ih1 _ _ _ _)
   | (with_reducible exact spec_l1Find.mono _ _ _ _ _)
   | (with_reducible exact spec_l1Right.mono _ _ _ _ _)
   | (with_reducible exact LeO.refl _)
   | (with_reducible exact LeO.none _)
   | (with_reducible refine LeO.ite ?_ ?_)
   | (with_reducible refine LeO.bind ?_ (fun _ => ?_))
   | exact ih0 _ _ _ _ _
   | exact ih1 _ _ _ _
   | exact spec_l1Find.mono _ _ _ _ _
   | exact spec_l1Right.mono _ _ _ _ _
   | exact LeO.none _
   | refine LeO.ite ?_ ?_
   | refine LeO.bind ?_ (fun _ => ?_)
set_option maxHeartbeats 8000000 in
set_option maxRecDepth 100000 in
theorem spec_l1Add.calls (k : Nat) (P0_0_ : Nat → Prop) (u9000_ : Value) (l0_0 : List (S44)) (a1_0 : Int) (a1_1 : Int) (a1_2 : Int) (r1 : List (S44)) (r2 : Int) (w0 w : World) (hB : Below w0.heap.size w0 w) (ho0_0 : Kd.R k44 44 w w0.heap.size P0_0_ u9000_ l0_0) (h : spec_l1Add.f k l0_0 a1_0 a1_1 a1_2 = some (r1, r2)) :
  Calls Try.prog 78 #[.agg #[u9000_], .agg #[.int .i64 a1_0, .int .i64 a1_1, .int .i64 a1_2]] w fun e w' => ∃ v0_ : Value, e = .returned (.tuple #[.agg #[v0_], .int .i64 r2]) ∧ Kd.R k44 44 w' w0.heap.size (fun k_ => (P0_0_ k_ ∨ w.heap.size ≤ k_)) v0_ r1 ∧ Below w0.heap.size w0 w' ∧ Kept w w' (fun k_ => P0_0_ k_) := by
 have hu30 := Try.underlying30
 have hu44 := Try.underlying44
 have HO0_0 := Aside0.mk (show Kd.R k44 44 w w0.heap.size (fun k_ => (P0_0_ k_ ∨ w.heap.size ≤ k_)) u9000_ l0_0 from Kd.R_mono ho0_0 (fun k_ hk => (.inl hk)))
 have HK := Aside0.mk (Kept.refl w (fun k_ => P0_0_ k_))
 have HW0 := Aside0.mk hB.size
 have HB := Aside0.mk hB
 clear hB
 have H : (if a1_0 = 8 then (spec_l1Add.j0 k (decide (a1_1 > a1_2)) l0_0 a1_0 a1_1 a1_2) else (spec_l1Add.j0 k false l0_0 a1_0 a1_1 a1_2)) = some (r1, r2) := h
 clear h
 have HC3 := Aside0.mk H
 clear H
 obtain ⟨Ao4, co4, eo4⟩ := Kd.R_slice HO0_0.out
 subst eo4
 go_enter Try.func78, Try.ntmps78
 go_upto_region 1 with (first | ((with_reducible refine gate_dst (N := 2) rfl ?_); (try (refine gate_guard (by rfl) ?_; dsimp only)); refine box_event ?hg (N := 2) ?hd (cs := #[.slice Ao4 l0_0.length co4]) (t := 30) ?hr ?_; (case hd => rfl); (case hg => rfl); (case hr => first | (go_simp; done) | (go_simp; rfl)); intro gb262 hg w5 hbox hb; have n0_ := Aside0.mk (Kd.R_below (zr HO0_0.out) hb); have n1_ := Aside0.mk (Kept.below (S := (fun k_ => P0_0_ k_)) (zk HK.out) hb); have n2_ := Aside0.mk (below_step (zb HB.out) hb); have n3_ := Aside0.mk (hbox); have n4_ := Aside0.mk ((by rw [hg]; exact (by first | exact HK.out.1 | exact (show Kept w _ (fun k_ => P0_0_ k_) from zk HK.out).1) : w.heap.size ≤ gb262)); have n5_ := Aside0.mk ((by rw [hg]; exact (below_size (zb HB.out)) : w0.heap.size ≤ gb262)); clear HO0_0; clear HK; clear HB; have HO0_0 := n0_; have HK := n1_; have HB := n2_; have BK262 := n3_; have GW262 := n4_; have GE262 := n5_; clear n0_ n1_ n2_ n3_ n4_ n5_; clear hb hbox hg) | ((with_reducible refine gate_dst (N := 3) rfl ?_); (try (refine gate_guard (by rfl) ?_; dsimp only)); refine box_event ?hg (N := 3) ?hd (cs := #[.int .i64 a1_0, .int .i64 a1_1, .int .i64 a1_2]) (t := 44) ?hr ?_; (case hd => rfl); (case hg => rfl); (case hr => first | (go_simp; done) | (go_simp; rfl)); intro gb263 hg w6 hbox hb; have n0_ := Aside0.mk (Kd.R_below (Kd.R_elderB (zr HO0_0.out) gb263 (Nat.le_of_eq hg.symm)) hb); have n1_ := Aside0.mk (blk_below (zh BK262.out) hb); have n2_ := Aside0.mk (Kept.below (S := (fun k_ => P0_0_ k_)) (zk HK.out) hb); have n3_ := Aside0.mk (below_step (zb HB.out) hb); have n4_ := Aside0.mk (hbox); have n5_ := Aside0.mk ((by rw [hg]; exact (by first | exact HK.out.1 | exact (show Kept w _ (fun k_ => P0_0_ k_) from zk HK.out).1) : w.heap.size ≤ gb263)); have n6_ := Aside0.mk ((by rw [hg]; exact (below_size (zb HB.out)) : w0.heap.size ≤ gb263)); have n7_ := Aside0.mk ((by rw [hg]; exact Nat.ne_of_lt (blk_lt (zh BK262.out)) : gb262 ≠ gb263)); have n8_ := Aside0.mk ((by rw [hg]; exact Nat.ne_of_gt (blk_lt (zh BK262.out)) : gb263 ≠ gb262)); clear HO0_0; clear BK262; clear HK; clear HB; have HO0_0 := n0_; have BK262 := n1_; have HK := n2_; have HB := n3_; have BK263 := n4_; have GW263 := n5_; have GE263 := n6_; have NB262_263 := n7_; have NB263_262 := n8_; clear n0_ n1_ n2_ n3_ n4_ n5_ n6_ n7_ n8_; clear hb hbox hg) | ((with_reducible refine gate_dst (N := 4) rfl ?_); (try (refine gate_guard (by rfl) ?_; dsimp only)); refine box_event ?hg (N := 4) ?hd (cs := #[.slice none 0 0]) (t := 30) ?hr ?_; (case hd => rfl); (case hg => rfl); (case hr => first | (go_simp; done) | (go_simp; rfl)); intro gb264 hg w7 hbox hb; have n0_ := Aside0.mk (Kd.R_below (zr HO0_0.out) hb); have n1_ := Aside0.mk (blk_below (zh BK262.out) hb); have n2_ := Aside0.mk (blk_below (zh BK263.out) hb); have n3_ := Aside0.mk (Kept.below (S := (fun k_ => P0_0_ k_)) (zk HK.out) hb); have n4_ := Aside0.mk (below_step (zb HB.out) hb); have n5_ := Aside0.mk (hbox); have n6_ := Aside0.mk ((by rw [hg]; exact (by first | exact HK.out.1 | exact (show Kept w _ (fun k_ => P0_0_ k_) from zk HK.out).1) : w.heap.size ≤ gb264)); have n7_ := Aside0.mk ((by rw [hg]; exact (below_size (zb HB.out)) : w0.heap.size ≤ gb264)); have n8_ := Aside0.mk ((by rw [hg]; exact Nat.ne_of_lt (blk_lt (zh BK262.out)) : gb262 ≠ gb264)); have n9_ := Aside0.mk ((by rw [hg]; exact Nat.ne_of_gt (blk_lt (zh BK262.out)) : gb264 ≠ gb262)); have n10_ := Aside0.mk ((by rw [hg]; exact Nat.ne_of_lt (blk_lt (zh BK263.out)) : gb263 ≠ gb264)); have n11_ := Aside0.mk ((by rw [hg]; exact Nat.ne_of_gt (blk_lt (zh BK263.out)) : gb264 ≠ gb263)); clear HO0_0; clear BK262; clear BK263; clear HK; clear HB; have HO0_0 := n0_; have BK262 := n1_; have BK263 := n2_; have HK := n3_; have HB := n4_; have BK264 := n5_; have GW264 := n6_; have GE264 := n7_; have NB262_264 := n8_; have NB264_262 := n9_; have NB263_264 := n10_; have NB264_263 := n11_; clear n0_ n1_ n2_ n3_ n4_ n5_ n6_ n7_ n8_ n9_ n10_ n11_; clear hb hbox hg))
 (try simp only [Act.put, List.setIfInBounds_toArray, List.set_cons_zero, List.set_cons_succ])
 go_cut [17] (fun v17 wc => ∃ (kq : Nat) (x17_2 : Bool), v17 = .bool x17_2 ∧ Aside0 (spec_l1Add.j0 kq x17_2 l0_0 a1_0 a1_1 a1_2 = some (r1, r2)) ∧ Aside0 (kq ≤ k) ∧ Aside0 (Kd.R k44 44 wc w0.heap.size (fun k_ => (P0_0_ k_ ∨ w.heap.size ≤ k_) ∧ k_ ≠ gb263) (.slice Ao4 l0_0.length co4) l0_0) ∧ Aside0 (wc.heap[gb262]? = some (.cells #[(.slice Ao4 l0_0.length co4)] 30 (0, 0))) ∧ Aside0 (wc.heap[gb263]? = some (.cells #[.int .i64 a1_0, .int .i64 a1_1, .int .i64 a1_2] 44 (0, 0))) ∧ Aside0 (wc.heap[gb264]? = some (.cells #[(.slice none 0 0)] 30 (0, 0))) ∧ Aside0 (Kept w wc (fun k_ => P0_0_ k_)) ∧ Aside0 (Below w0.heap.size w0 wc))
 case first =>
  have H := HC3.out
  clear HC3
  by_cases c8 : a1_0 = 8
  ·rw [if_pos c8] at H
   have c8b0 : (a1_0 == 8) = true := beq_iff_eq.mpr c8
   have c8b1 : (a1_0 != 8) = false := bne_eq_false_iff_eq.mpr c8
   clear c8
   (first | rw [c8b0] | (simp only [i64_w, i32_w]; rw [c8b0]) | skip)
   have H' := Aside0.mk H
   clear H
   have hnb9 := NB263_262.out
   have hnc9 := NB262_263.out
   have hnb10 := NB263_264.out
   have hnc10 := NB264_263.out
   have hcz11_0 : w7.cell? ⟨gb263, 0, none⟩ = some (.int .i64 a1_0) := (blk_cell BK263.out 0).trans rfl
   have hcz11_1 : w7.cell? ⟨gb263, 1, none⟩ = some (.int .i64 a1_1) := (blk_cell BK263.out 1).trans rfl
   have hcz11_2 : w7.cell? ⟨gb263, 2, none⟩ = some (.int .i64 a1_2) := (blk_cell BK263.out 2).trans rfl
   have hfz11_0 := blk_frozen BK263.out 0
   have hfz11_1 := blk_frozen BK263.out 1
   have hfz11_2 := blk_frozen BK263.out 2
   go_wp2
   go_meet
   case rel => exact ⟨_, (decide (a1_1 > a1_2)), (by first | rfl | (simp; done) | (simp [*]; done)), H', ⟨by first | omega | exact Nat.le_refl _⟩, ⟨zr HO0_0.out⟩, ⟨zh BK262.out⟩, ⟨zh BK263.out⟩, ⟨zh BK264.out⟩, ⟨zk HK.out⟩, ⟨zb HB.out⟩⟩
  ·rw [if_neg c8] at H
   have c8b0 : (a1_0 == 8) = false := beq_eq_false_iff_ne.mpr c8
   have c8b1 : (a1_0 != 8) = true := bne_iff_ne.mpr c8
   (first | rw [c8b0] | (simp only [i64_w, i32_w]; rw [c8b0]) | skip)
   have H' := Aside0.mk H
   clear H
   have hnb12 := NB263_262.out
   have hnc12 := NB262_263.out
   have hnb13 := NB263_264.out
   have hnc13 := NB264_263.out
   have hcz14_0 : w7.cell? ⟨gb263, 0, none⟩ = some (.int .i64 a1_0) := (blk_cell BK263.out 0).trans rfl
   have hcz14_1 : w7.cell? ⟨gb263, 1, none⟩ = some (.int .i64 a1_1) := (blk_cell BK263.out 1).trans rfl
   have hcz14_2 : w7.cell? ⟨gb263, 2, none⟩ = some (.int .i64 a1_2) := (blk_cell BK263.out 2).trans rfl
   have hfz14_0 := blk_frozen BK263.out 0
   have hfz14_1 := blk_frozen BK263.out 1
   have hfz14_2 := blk_frozen BK263.out 2
   go_wp2
   go_meet
   case rel => exact ⟨_, (false), (by first | rfl | (simp; done) | (simp [*]; done)), H', ⟨by first | omega | exact Nat.le_refl _⟩, ⟨zr HO0_0.out⟩, ⟨zh BK262.out⟩, ⟨zh BK263.out⟩, ⟨zh BK264.out⟩, ⟨zk HK.out⟩, ⟨zb HB.out⟩⟩
 case rest =>
  clear HC3
  try clear c1
  try clear p2
  try clear c7
  try clear c8
  try clear c8b0
  try clear c8b1
  try clear c9
  try clear c10
  try clear c12
  try clear c13
  try clear hcz11_0
  try clear hcz11_1
  try clear hcz11_2
  try clear hcz14_0
  try clear hcz14_1
  try clear hcz14_2
  try clear hfz11_0
  try clear hfz11_1
  try clear hfz11_2
  try clear hfz14_0
  try clear hfz14_1
  try clear hfz14_2
  obtain ⟨kq, x17_2, rfl, HA, HJ2, HO_263000, BK262, BK263, BK264, HK, HB⟩ := hcut
  cases kq with
  | zero => exact absurd HA.out (by simp [spec_l1Add.j0])
  | succ kj2 =>
   have H := HA.out
   clear HA
   simp only [spec_l1Add.j0] at H
   have HC15 := Aside0.mk H
   clear H
   go_upto_if 17 with (fail)
   go_cut [] (fun wc => ∃ (kq : Nat) (x264000_14 : Int) (x264001_14 : Int) (x264002_14 : Int), Aside0 (spec_l1Add.j1 kq l0_0 x264000_14 x264001_14 x264002_14 = some (r1, r2)) ∧ Aside0 (kq ≤ kj2) ∧ Aside0 (Kd.R k44 44 wc w0.heap.size (fun k_ => (P0_0_ k_ ∨ w.heap.size ≤ k_) ∧ k_ ≠ gb263) (.slice Ao4 l0_0.length co4) l0_0) ∧ Aside0 (wc.heap[gb262]? = some (.cells #[(.slice Ao4 l0_0.length co4)] 30 (0, 0))) ∧ Aside0 (wc.heap[gb263]? = some (.cells #[.int .i64 x264000_14, .int .i64 x264001_14, .int .i64 x264002_14] 44 (0, 0))) ∧ Aside0 (wc.heap[gb264]? = some (.cells #[(.slice none 0 0)] 30 (0, 0))) ∧ Aside0 (Kept w wc (fun k_ => P0_0_ k_)) ∧ Aside0 (Below w0.heap.size w0 wc))
   case first =>
    have H := HC15.out
    clear HC15
    by_cases c16 : x17_2 = true
    ·subst c16
     have H1 : (spec_l1Add.j1 kj2 l0_0 a1_0 a1_2 a1_1) = some (r1, r2) := by rw [if_pos rfl] at H; exact H
     clear H
     have H := H1
     clear H1
     have H' := Aside0.mk H
     clear H
     have hnb17 := NB263_262.out
     have hnc17 := NB262_263.out
     have hnb18 := NB263_264.out
     have hnc18 := NB264_263.out
     have hcz19_0 : wc.cell? ⟨gb263, 0, none⟩ = some (.int .i64 a1_0) := (blk_cell BK263.out 0).trans rfl
     have hcz19_1 : wc.cell? ⟨gb263, 1, none⟩ = some (.int .i64 a1_1) := (blk_cell BK263.out 1).trans rfl
     have hcz19_2 : wc.cell? ⟨gb263, 2, none⟩ = some (.int .i64 a1_2) := (blk_cell BK263.out 2).trans rfl
     have hfz19_0 := blk_frozen BK263.out 0
     have hfz19_1 := blk_frozen BK263.out 1
     have hfz19_2 := blk_frozen BK263.out 2
     go_wp2
     go_meet
     case rel => exact ⟨_, (a1_0), (a1_2), (a1_1), H', ⟨by have := HJ2.out; first | omega | exact Nat.le_refl _⟩, ⟨zr (Kd.R_mono (Kd.R_far (p := ⟨gb263, 2, none⟩) (Kd.R_far (p := ⟨gb263, 1, none⟩) (Kd.R_far (p := ⟨gb263, 0, none⟩) (Kd.R_mono HO_263000.out (fun k_ hk => (⟨hk, hk.2⟩ : _ ∧ k_ ≠ gb263))) (fun _ hk => hk.2) (.int .i64 a1_0)) (fun _ hk => hk.2) (.int .i64 a1_2)) (fun _ hk => hk.2) (.int .i64 a1_1)) (fun _ hk => ⟨hk.1.1, hk.1.2⟩))⟩, ⟨zf BK262.out⟩, ⟨by (with_reducible repeat (first | refine blk_drewN ?_ _ | refine blk_drew ?_ | refine blk_alloc ?_ _)); refine blk_put (cs := #[.int .i64 a1_0, .int .i64 a1_2, .int .i64 a1_2]) ?_ 2 _ rfl; (with_reducible repeat (first | refine blk_drewN ?_ _ | refine blk_drew ?_ | refine blk_alloc ?_ _)); refine blk_put (cs := #[.int .i64 a1_0, .int .i64 a1_1, .int .i64 a1_2]) ?_ 1 _ rfl; (with_reducible repeat (first | refine blk_drewN ?_ _ | refine blk_drew ?_ | refine blk_alloc ?_ _)); refine blk_put (cs := #[.int .i64 a1_0, .int .i64 a1_1, .int .i64 a1_2]) ?_ 0 _ rfl; (with_reducible repeat (first | refine blk_drewN ?_ _ | refine blk_drew ?_ | refine blk_alloc ?_ _)); exact BK263.out⟩, ⟨zf BK264.out⟩, ⟨zk HK.out⟩, ⟨zb HB.out⟩⟩
    ·replace c16 := Bool.eq_false_iff.mpr c16
     subst c16
     have H1 : (spec_l1Add.j1 kj2 l0_0 a1_0 a1_1 a1_2) = some (r1, r2) := by rw [if_neg (show ¬ (false = true) by decide)] at H; exact H
     clear H
     have H := H1
     clear H1
     have H' := Aside0.mk H
     clear H
     go_wp2
     go_meet
     case rel => exact ⟨_, (a1_0), (a1_1), (a1_2), H', ⟨by have := HJ2.out; first | omega | exact Nat.le_refl _⟩, ⟨zr HO_263000.out⟩, ⟨zh BK262.out⟩, ⟨zh BK263.out⟩, ⟨zh BK264.out⟩, ⟨zk HK.out⟩, ⟨zb HB.out⟩⟩
   case rest =>
    clear HC15
    try clear c1
    try clear p2
    try clear c7
    try clear c8
    try clear c8b0
    try clear c8b1
    try clear c9
    try clear c10
    try clear c12
    try clear c13
    try clear c16
    try clear c17
    try clear c18
    try clear hcz11_0
    try clear hcz11_1
    try clear hcz11_2
    try clear hcz14_0
    try clear hcz14_1
    try clear hcz14_2
    try clear hcz19_0
    try clear hcz19_1
    try clear hcz19_2
    try clear hfz11_0
    try clear hfz11_1
    try clear hfz11_2
    try clear hfz14_0
    try clear hfz14_1
    try clear hfz14_2
    try clear hfz19_0
    try clear hfz19_1
    try clear hfz19_2
    try clear p2
    obtain ⟨kq, x264000_14, x264001_14, x264002_14, HA, HJ14, HO_263000, BK262, BK263, BK264, HK, HB⟩ := hcut
    cases kq with
    | zero => exact absurd HA.out (by simp [spec_l1Add.j1])
    | succ kj14 =>
     have H := HA.out
     clear HA
     simp only [spec_l1Add.j1] at H
     replace H := Option.bind_eq_some_iff.mp H
     obtain ⟨t265, A200, H⟩ := H
     replace H : (if t265 ≥ 0 then (some (l0_0, t265)) else ((spec_l1Right.f kj14 x264000_14 x264001_14 x264002_14 (l0_0.length : Int)).bind fun t266 => (if t266 = true then (if (l0_0.length : Int) = 500 then (some (l0_0, (-1))) else ((spec_l1Copy.f l0_0).bind fun t267 => (if t267.length < 5864062014805 then (some ((t267 ++ [(⟨x264000_14, x264001_14, x264002_14⟩ : S44)]), (l0_0.length : Int))) else (none)))) else (some (l0_0, (-1)))))) = some (r1, r2) := H
     have A20 := Aside0.mk A200
     clear A200
     by_cases c21 : t265 ≥ 0
     ·rw [if_pos c21] at H
      have c21b0 : decide (0 ≤ t265) = true := decide_eq_true c21
      clear c21
      simp only [Option.some.injEq, Prod.mk.injEq] at H
      obtain ⟨rfl, rfl⟩ := H
      have hnb22 := NB262_263.out
      have hnc22 := NB263_262.out
      have hnb23 := NB262_264.out
      have hnc23 := NB264_262.out
      have hcz24_0 : wc.cell? ⟨gb262, 0, none⟩ = some (.slice Ao4 l0_0.length co4) := (blk_cell BK262.out 0).trans rfl
      have hfz24_0 := blk_frozen BK262.out 0
      have hnb25 := NB263_264.out
      have hnc25 := NB264_263.out
      have hcz26_0 : wc.cell? ⟨gb263, 0, none⟩ = some (.int .i64 x264000_14) := (blk_cell BK263.out 0).trans rfl
      have hcz26_1 : wc.cell? ⟨gb263, 1, none⟩ = some (.int .i64 x264001_14) := (blk_cell BK263.out 1).trans rfl
      have hcz26_2 : wc.cell? ⟨gb263, 2, none⟩ = some (.int .i64 x264002_14) := (blk_cell BK263.out 2).trans rfl
      have hfz26_0 := blk_frozen BK263.out 0
      have hfz26_1 := blk_frozen BK263.out 1
      have hfz26_2 := blk_frozen BK263.out 2
      go_wp2_with (first | ((with_reducible refine gate_callee (f := 49) rfl ?_); refine goesL_ (some 27) rfl rfl Try.func49 (by kernel_rfl) rfl #[.agg #[.slice Ao4 l0_0.length co4], .agg #[.int .i64 x264000_14, .int .i64 x264001_14, .int .i64 x264002_14]] rfl zl ?_; (with_reducible refine (spec_l1Find.calls kj14 _ _ l0_0 x264000_14 x264001_14 x264002_14 t265 _ ?side1 ?side2 A20.out).mono ?_); (case side1 => exact zc (Kd.R_reads' HO_263000.out).2.2); (case side2 => exact (Kd.R_reads' HO_263000.out).2.1); rintro e w27 ⟨rfl, hb⟩; refine ⟨_, rfl, ?_⟩; have n0_ := Aside0.mk (Kd.R_below (zr HO_263000.out) hb); have n1_ := Aside0.mk (blk_below (zh BK262.out) hb); have n2_ := Aside0.mk (blk_below (zh BK263.out) hb); have n3_ := Aside0.mk (blk_below (zh BK264.out) hb); have n4_ := Aside0.mk (Kept.below (S := (fun k_ => P0_0_ k_)) (zk HK.out) hb); have n5_ := Aside0.mk (below_step (zb HB.out) hb); clear HO_263000; clear BK262; clear BK263; clear BK264; clear HK; clear HB; have HO_263000 := n0_; have BK262 := n1_; have BK263 := n2_; have BK264 := n3_; have HK := n4_; have HB := n5_; clear n0_ n1_ n2_ n3_ n4_ n5_; (try clear hb); (try clear hb2); (try clear hk); (try clear hi); have hcz28_0 : w27.cell? ⟨gb262, 0, none⟩ = some (.slice Ao4 l0_0.length co4) := (blk_cell BK262.out 0).trans rfl; have hfz28_0 := blk_frozen BK262.out 0; have hcz29_0 : w27.cell? ⟨gb264, 0, none⟩ = some (.slice none 0 0) := (blk_cell BK264.out 0).trans rfl; have hfz29_0 := blk_frozen BK264.out 0))
      refine bodyPost_ret (results_ct rfl _ _ gb264 30 #[.slice Ao4 l0_0.length co4] (0, 0) _ rfl (by (with_reducible repeat (first | refine blk_drewN ?_ _ | refine blk_drew ?_ | refine blk_alloc ?_ _)); refine blk_put (cs := #[.slice none 0 0]) ?_ 0 _ rfl; (with_reducible repeat (first | refine blk_drewN ?_ _ | refine blk_drew ?_ | refine blk_alloc ?_ _)); exact BK264.out) Try.underlying30 rfl (by kernel_rfl)) rfl ?_
      exact ⟨_, ze, zr (Kd.R_mono (Kd.R_far (p := ⟨gb264, 0, none⟩) (Kd.R_types HO_263000.out BK264.out (by decide)) (fun _ hk => hk.2) (.slice Ao4 l0_0.length co4)) (fun _ hk => hk.1.1)), zb HB.out, zk HK.out⟩
     ·rw [if_neg c21] at H
      have c21b0 : decide (0 ≤ t265) = false := decide_eq_false c21
      clear c21
      replace H := Option.bind_eq_some_iff.mp H
      obtain ⟨t266, A300, H⟩ := H
      replace H : (if t266 = true then (if (l0_0.length : Int) = 500 then (some (l0_0, (-1))) else ((spec_l1Copy.f l0_0).bind fun t267 => (if t267.length < 5864062014805 then (some ((t267 ++ [(⟨x264000_14, x264001_14, x264002_14⟩ : S44)]), (l0_0.length : Int))) else (none)))) else (some (l0_0, (-1)))) = some (r1, r2) := H
      have A30 := Aside0.mk A300
      clear A300
      by_cases c31 : t266 = true
      ·subst c31
       have H1 : (if (l0_0.length : Int) = 500 then (some (l0_0, (-1))) else ((spec_l1Copy.f l0_0).bind fun t267 => (if t267.length < 5864062014805 then (some ((t267 ++ [(⟨x264000_14, x264001_14, x264002_14⟩ : S44)]), (l0_0.length : Int))) else (none)))) = some (r1, r2) := by rw [if_pos rfl] at H; exact H
       clear H
       have H := H1
       clear H1
       by_cases c32 : (l0_0.length : Int) = 500
       ·rw [if_pos c32] at H
        have c32b0 : ((l0_0.length : Int) == 500) = true := beq_iff_eq.mpr c32
        have c32b1 : ((l0_0.length : Int) != 500) = false := bne_eq_false_iff_eq.mpr c32
        clear c32
        simp only [Option.some.injEq, Prod.mk.injEq] at H
        obtain ⟨rfl, rfl⟩ := H
        have hnb33 := NB262_263.out
        have hnc33 := NB263_262.out
        have hnb34 := NB262_264.out
        have hnc34 := NB264_262.out
        have hcz35_0 : wc.cell? ⟨gb262, 0, none⟩ = some (.slice Ao4 l0_0.length co4) := (blk_cell BK262.out 0).trans rfl
        have hfz35_0 := blk_frozen BK262.out 0
        have hnb36 := NB263_264.out
        have hnc36 := NB264_263.out
        have hcz37_0 : wc.cell? ⟨gb263, 0, none⟩ = some (.int .i64 x264000_14) := (blk_cell BK263.out 0).trans rfl
        have hcz37_1 : wc.cell? ⟨gb263, 1, none⟩ = some (.int .i64 x264001_14) := (blk_cell BK263.out 1).trans rfl
        have hcz37_2 : wc.cell? ⟨gb263, 2, none⟩ = some (.int .i64 x264002_14) := (blk_cell BK263.out 2).trans rfl
        have hfz37_0 := blk_frozen BK263.out 0
        have hfz37_1 := blk_frozen BK263.out 1
        have hfz37_2 := blk_frozen BK263.out 2
        go_wp2_with (first | ((with_reducible refine gate_callee (f := 49) rfl ?_); refine goesL_ (some 27) rfl rfl Try.func49 (by kernel_rfl) rfl #[.agg #[.slice Ao4 l0_0.length co4], .agg #[.int .i64 x264000_14, .int .i64 x264001_14, .int .i64 x264002_14]] rfl zl ?_; (with_reducible refine (spec_l1Find.calls kj14 _ _ l0_0 x264000_14 x264001_14 x264002_14 t265 _ ?side1 ?side2 A20.out).mono ?_); (case side1 => exact zc (Kd.R_reads' HO_263000.out).2.2); (case side2 => exact (Kd.R_reads' HO_263000.out).2.1); rintro e w38 ⟨rfl, hb⟩; refine ⟨_, rfl, ?_⟩; have n0_ := Aside0.mk (Kd.R_below (zr HO_263000.out) hb); have n1_ := Aside0.mk (blk_below (zh BK262.out) hb); have n2_ := Aside0.mk (blk_below (zh BK263.out) hb); have n3_ := Aside0.mk (blk_below (zh BK264.out) hb); have n4_ := Aside0.mk (Kept.below (S := (fun k_ => P0_0_ k_)) (zk HK.out) hb); have n5_ := Aside0.mk (below_step (zb HB.out) hb); clear HO_263000; clear BK262; clear BK263; clear BK264; clear HK; clear HB; have HO_263000 := n0_; have BK262 := n1_; have BK263 := n2_; have BK264 := n3_; have HK := n4_; have HB := n5_; clear n0_ n1_ n2_ n3_ n4_ n5_; (try clear hb); (try clear hb2); (try clear hk); (try clear hi); have hcz39_0 : w38.cell? ⟨gb263, 0, none⟩ = some (.int .i64 x264000_14) := (blk_cell BK263.out 0).trans rfl; have hcz39_1 : w38.cell? ⟨gb263, 1, none⟩ = some (.int .i64 x264001_14) := (blk_cell BK263.out 1).trans rfl; have hcz39_2 : w38.cell? ⟨gb263, 2, none⟩ = some (.int .i64 x264002_14) := (blk_cell BK263.out 2).trans rfl; have hfz39_0 := blk_frozen BK263.out 0; have hfz39_1 := blk_frozen BK263.out 1; have hfz39_2 := blk_frozen BK263.out 2; have hcz40_0 : w38.cell? ⟨gb262, 0, none⟩ = some (.slice Ao4 l0_0.length co4) := (blk_cell BK262.out 0).trans rfl; have hfz40_0 := blk_frozen BK262.out 0) | ((with_reducible refine gate_callee (f := 48) rfl ?_); refine goesL_ (some 36) rfl rfl Try.func48 (by kernel_rfl) rfl #[.agg #[.int .i64 x264000_14, .int .i64 x264001_14, .int .i64 x264002_14], .int .i64 (l0_0.length : Int)] rfl zl ?_; (with_reducible refine (spec_l1Right.calls kj14 x264000_14 x264001_14 x264002_14 (l0_0.length : Int) true _ A30.out).mono ?_); rintro e w41 ⟨rfl, hb⟩; refine ⟨_, rfl, ?_⟩; have n0_ := Aside0.mk (Kd.R_below (zr HO_263000.out) hb); have n1_ := Aside0.mk (blk_below (zh BK262.out) hb); have n2_ := Aside0.mk (blk_below (zh BK263.out) hb); have n3_ := Aside0.mk (blk_below (zh BK264.out) hb); have n4_ := Aside0.mk (Kept.below (S := (fun k_ => P0_0_ k_)) (zk HK.out) hb); have n5_ := Aside0.mk (below_step (zb HB.out) hb); clear HO_263000; clear BK262; clear BK263; clear BK264; clear HK; clear HB; have HO_263000 := n0_; have BK262 := n1_; have BK263 := n2_; have BK264 := n3_; have HK := n4_; have HB := n5_; clear n0_ n1_ n2_ n3_ n4_ n5_; (try clear hb); (try clear hb2); (try clear hk); (try clear hi); have hcz42_0 : w41.cell? ⟨gb262, 0, none⟩ = some (.slice Ao4 l0_0.length co4) := (blk_cell BK262.out 0).trans rfl; have hfz42_0 := blk_frozen BK262.out 0; have hcz43_0 : w41.cell? ⟨gb264, 0, none⟩ = some (.slice none 0 0) := (blk_cell BK264.out 0).trans rfl; have hfz43_0 := blk_frozen BK264.out 0))
        refine bodyPost_ret (results_ct rfl _ _ gb264 30 #[.slice Ao4 l0_0.length co4] (0, 0) _ rfl (by (with_reducible repeat (first | refine blk_drewN ?_ _ | refine blk_drew ?_ | refine blk_alloc ?_ _)); refine blk_put (cs := #[.slice none 0 0]) ?_ 0 _ rfl; (with_reducible repeat (first | refine blk_drewN ?_ _ | refine blk_drew ?_ | refine blk_alloc ?_ _)); exact BK264.out) Try.underlying30 rfl (by kernel_rfl)) rfl ?_
        exact ⟨_, ze, zr (Kd.R_mono (Kd.R_far (p := ⟨gb264, 0, none⟩) (Kd.R_types HO_263000.out BK264.out (by decide)) (fun _ hk => hk.2) (.slice Ao4 l0_0.length co4)) (fun _ hk => hk.1.1)), zb HB.out, zk HK.out⟩
       ·rw [if_neg c32] at H
        have c32b0 : ((l0_0.length : Int) == 500) = false := beq_eq_false_iff_ne.mpr c32
        have c32b1 : ((l0_0.length : Int) != 500) = true := bne_iff_ne.mpr c32
        replace H := Option.bind_eq_some_iff.mp H
        obtain ⟨t267, A440, H⟩ := H
        replace H : (if t267.length < 5864062014805 then (some ((t267 ++ [(⟨x264000_14, x264001_14, x264002_14⟩ : S44)]), (l0_0.length : Int))) else (none)) = some (r1, r2) := H
        have A44 := Aside0.mk A440
        clear A440
        by_cases c45 : t267.length < 5864062014805
        ·rw [if_pos c45] at H
         have LMc45 := Aside0.mk c45
         clear c45
         obtain ⟨y271, hy271⟩ : ∃ y_ : List (S44), y_ = (t267 ++ [(⟨x264000_14, x264001_14, x264002_14⟩ : S44)]) := ⟨_, rfl⟩
         replace H : (some (y271, (l0_0.length : Int))) = some (r1, r2) := by first | (rw [hy271]; with_reducible exact H) | (have H2_ := (Option.bind_some _ _).symm.trans H; rw [hy271]; with_reducible exact H2_) | (have H2_ := (Option.bind_some _ _).symm.trans H; with_reducible exact H2_) | with_reducible exact H | (rw [hy271]; exact H) | exact H
         have Ny271 := Aside0.mk hy271
         clear hy271
         simp only [Option.some.injEq, Prod.mk.injEq] at H
         obtain ⟨rfl, rfl⟩ := H
         have hnb46 := NB262_263.out
         have hnc46 := NB263_262.out
         have hnb47 := NB262_264.out
         have hnc47 := NB264_262.out
         have hcz48_0 : wc.cell? ⟨gb262, 0, none⟩ = some (.slice Ao4 l0_0.length co4) := (blk_cell BK262.out 0).trans rfl
         have hfz48_0 := blk_frozen BK262.out 0
         have hnb49 := NB263_264.out
         have hnc49 := NB264_263.out
         have hcz50_0 : wc.cell? ⟨gb263, 0, none⟩ = some (.int .i64 x264000_14) := (blk_cell BK263.out 0).trans rfl
         have hcz50_1 : wc.cell? ⟨gb263, 1, none⟩ = some (.int .i64 x264001_14) := (blk_cell BK263.out 1).trans rfl
         have hcz50_2 : wc.cell? ⟨gb263, 2, none⟩ = some (.int .i64 x264002_14) := (blk_cell BK263.out 2).trans rfl
         have hfz50_0 := blk_frozen BK263.out 0
         have hfz50_1 := blk_frozen BK263.out 1
         have hfz50_2 := blk_frozen BK263.out 2
         try go_wp2_with (first | ((with_reducible refine gate_callee (f := 49) rfl ?_); refine goesL_ (some 27) rfl rfl Try.func49 (by kernel_rfl) rfl #[.agg #[.slice Ao4 l0_0.length co4], .agg #[.int .i64 x264000_14, .int .i64 x264001_14, .int .i64 x264002_14]] rfl zl ?_; (with_reducible refine (spec_l1Find.calls kj14 _ _ l0_0 x264000_14 x264001_14 x264002_14 t265 _ ?side1 ?side2 A20.out).mono ?_); (case side1 => exact zc (Kd.R_reads' HO_263000.out).2.2); (case side2 => exact (Kd.R_reads' HO_263000.out).2.1); rintro e w51 ⟨rfl, hb⟩; refine ⟨_, rfl, ?_⟩; have n0_ := Aside0.mk (Kd.R_below (zr HO_263000.out) hb); have n1_ := Aside0.mk (blk_below (zh BK262.out) hb); have n2_ := Aside0.mk (blk_below (zh BK263.out) hb); have n3_ := Aside0.mk (blk_below (zh BK264.out) hb); have n4_ := Aside0.mk (Kept.below (S := (fun k_ => P0_0_ k_)) (zk HK.out) hb); have n5_ := Aside0.mk (below_step (zb HB.out) hb); clear HO_263000; clear BK262; clear BK263; clear BK264; clear HK; clear HB; have HO_263000 := n0_; have BK262 := n1_; have BK263 := n2_; have BK264 := n3_; have HK := n4_; have HB := n5_; clear n0_ n1_ n2_ n3_ n4_ n5_; (try clear hb); (try clear hb2); (try clear hk); (try clear hi); have hcz52_0 : w51.cell? ⟨gb263, 0, none⟩ = some (.int .i64 x264000_14) := (blk_cell BK263.out 0).trans rfl; have hcz52_1 : w51.cell? ⟨gb263, 1, none⟩ = some (.int .i64 x264001_14) := (blk_cell BK263.out 1).trans rfl; have hcz52_2 : w51.cell? ⟨gb263, 2, none⟩ = some (.int .i64 x264002_14) := (blk_cell BK263.out 2).trans rfl; have hfz52_0 := blk_frozen BK263.out 0; have hfz52_1 := blk_frozen BK263.out 1; have hfz52_2 := blk_frozen BK263.out 2; have hcz53_0 : w51.cell? ⟨gb262, 0, none⟩ = some (.slice Ao4 l0_0.length co4) := (blk_cell BK262.out 0).trans rfl; have hfz53_0 := blk_frozen BK262.out 0) | ((with_reducible refine gate_callee (f := 48) rfl ?_); refine goesL_ (some 36) rfl rfl Try.func48 (by kernel_rfl) rfl #[.agg #[.int .i64 x264000_14, .int .i64 x264001_14, .int .i64 x264002_14], .int .i64 (l0_0.length : Int)] rfl zl ?_; (with_reducible refine (spec_l1Right.calls kj14 x264000_14 x264001_14 x264002_14 (l0_0.length : Int) true _ A30.out).mono ?_); rintro e w54 ⟨rfl, hb⟩; refine ⟨_, rfl, ?_⟩; have n0_ := Aside0.mk (Kd.R_below (zr HO_263000.out) hb); have n1_ := Aside0.mk (blk_below (zh BK262.out) hb); have n2_ := Aside0.mk (blk_below (zh BK263.out) hb); have n3_ := Aside0.mk (blk_below (zh BK264.out) hb); have n4_ := Aside0.mk (Kept.below (S := (fun k_ => P0_0_ k_)) (zk HK.out) hb); have n5_ := Aside0.mk (below_step (zb HB.out) hb); clear HO_263000; clear BK262; clear BK263; clear BK264; clear HK; clear HB; have HO_263000 := n0_; have BK262 := n1_; have BK263 := n2_; have BK264 := n3_; have HK := n4_; have HB := n5_; clear n0_ n1_ n2_ n3_ n4_ n5_; (try clear hb); (try clear hb2); (try clear hk); (try clear hi); have hcz55_0 : w54.cell? ⟨gb262, 0, none⟩ = some (.slice Ao4 l0_0.length co4) := (blk_cell BK262.out 0).trans rfl; have hfz55_0 := blk_frozen BK262.out 0) | ((with_reducible refine gate_callee (f := 75) rfl ?_); refine goesL_ (some 46) rfl rfl Try.func75 (by kernel_rfl) rfl #[.agg #[.slice Ao4 l0_0.length co4]] rfl zl ?_; (with_reducible refine (spec_l1Copy.calls _ _ l0_0 t267 _ ?side1 ?side2 A44.out).mono ?_); (case side1 => exact zc (Kd.R_reads' HO_263000.out).2.2); (case side2 => exact (Kd.R_reads' HO_263000.out).2.1); rintro e w56 ⟨v268, rfl, ho0, hb⟩; refine ⟨_, rfl, ?_⟩; have n0_ := Aside0.mk (Kd.R_elder' (zr HO_263000.out) (Kd.R_base ho0) hb); have n1_ := Aside0.mk (Kd.R_lower (Kd.R_newB (Kd.R_new' (Kd.R_newM (M := fun k_ => (P0_0_ k_ ∨ w.heap.size ≤ k_)) ho0 (by first | exact HK.out.1 | exact (show Kept w _ (fun k_ => P0_0_ k_) from zk HK.out).1) (fun k_ h_ => .inr h_)) (Kd.R_lt (zr HO_263000.out))) (zh BK263.out)) (below_size (zb HB.out))); have n2_ := Aside0.mk (blk_below (zh BK262.out) hb); have n3_ := Aside0.mk (blk_below (zh BK263.out) hb); have n4_ := Aside0.mk (blk_below (zh BK264.out) hb); have n5_ := Aside0.mk (Kept.below (S := (fun k_ => P0_0_ k_)) (zk HK.out) hb); have n6_ := Aside0.mk (below_step (zb HB.out) hb); clear HO_263000; clear BK262; clear BK263; clear BK264; clear HK; clear HB; have HO_263000 := n0_; have HO269 := n1_; have BK262 := n2_; have BK263 := n3_; have BK264 := n4_; have HK := n5_; have HB := n6_; clear n0_ n1_ n2_ n3_ n4_ n5_ n6_; (try clear hb); (try clear hb2); (try clear hk); (try clear hi); (try clear ho0)) | ((with_reducible refine gate_dst (N := 7) rfl ?_); (try (refine gate_guard (by rfl) ?_; dsimp only)); refine box_event ?hg (N := 7) ?hd (cs := #[.slice none 0 0]) (t := 30) ?hr ?_; (case hd => rfl); (case hg => rfl); (case hr => first | (go_simp; done) | (go_simp; rfl)); intro gb270 hg w57 hbox hb; have n0_ := Aside0.mk (Kd.R_below (zr HO_263000.out) hb); have n1_ := Aside0.mk (Kd.R_below (zr HO269.out) hb); have n2_ := Aside0.mk (blk_below (zh BK262.out) hb); have n3_ := Aside0.mk (blk_below (zh BK263.out) hb); have n4_ := Aside0.mk (blk_below (zh BK264.out) hb); have n5_ := Aside0.mk (Kept.below (S := (fun k_ => P0_0_ k_)) (zk HK.out) hb); have n6_ := Aside0.mk (below_step (zb HB.out) hb); have n7_ := Aside0.mk (hbox); have n8_ := Aside0.mk ((by rw [hg]; exact (by first | exact HK.out.1 | exact (show Kept w _ (fun k_ => P0_0_ k_) from zk HK.out).1) : w.heap.size ≤ gb270)); have n9_ := Aside0.mk ((by rw [hg]; exact (below_size (zb HB.out)) : w0.heap.size ≤ gb270)); have n10_ := Aside0.mk ((by rw [hg]; exact Nat.ne_of_lt (blk_lt (zh BK262.out)) : gb262 ≠ gb270)); have n11_ := Aside0.mk ((by rw [hg]; exact Nat.ne_of_gt (blk_lt (zh BK262.out)) : gb270 ≠ gb262)); have n12_ := Aside0.mk ((by rw [hg]; exact Nat.ne_of_lt (blk_lt (zh BK263.out)) : gb263 ≠ gb270)); have n13_ := Aside0.mk ((by rw [hg]; exact Nat.ne_of_gt (blk_lt (zh BK263.out)) : gb270 ≠ gb263)); have n14_ := Aside0.mk ((by rw [hg]; exact Nat.ne_of_lt (blk_lt (zh BK264.out)) : gb264 ≠ gb270)); have n15_ := Aside0.mk ((by rw [hg]; exact Nat.ne_of_gt (blk_lt (zh BK264.out)) : gb270 ≠ gb264)); clear HO_263000; clear HO269; clear BK262; clear BK263; clear BK264; clear HK; clear HB; have HO_263000 := n0_; have HO269 := n1_; have BK262 := n2_; have BK263 := n3_; have BK264 := n4_; have HK := n5_; have HB := n6_; have BK270 := n7_; have GW270 := n8_; have GE270 := n9_; have NB262_270 := n10_; have NB270_262 := n11_; have NB263_270 := n12_; have NB270_263 := n13_; have NB264_270 := n14_; have NB270_264 := n15_; clear n0_ n1_ n2_ n3_ n4_ n5_ n6_ n7_ n8_ n9_ n10_ n11_ n12_ n13_ n14_ n15_; clear hb hbox hg; obtain ⟨Ao58, co58, eo58⟩ := Kd.R_slice HO269.out; subst eo58; have hnb59 := NB270_262.out; have hnc59 := NB262_270.out; have hnb60 := NB270_263.out; have hnc60 := NB263_270.out; have hnb61 := NB270_264.out; have hnc61 := NB264_270.out; have hcz62_0 : w57.cell? ⟨gb270, 0, none⟩ = some (.slice none 0 0) := (blk_cell BK270.out 0).trans rfl; have hfz62_0 := blk_frozen BK270.out 0; have hcz63_0 : w57.cell? ⟨gb263, 0, none⟩ = some (.int .i64 x264000_14) := (blk_cell BK263.out 0).trans rfl; have hcz63_1 : w57.cell? ⟨gb263, 1, none⟩ = some (.int .i64 x264001_14) := (blk_cell BK263.out 1).trans rfl; have hcz63_2 : w57.cell? ⟨gb263, 2, none⟩ = some (.int .i64 x264002_14) := (blk_cell BK263.out 2).trans rfl; have hfz63_0 := blk_frozen BK263.out 0; have hfz63_1 := blk_frozen BK263.out 1; have hfz63_2 := blk_frozen BK263.out 2) | ((with_reducible refine gate_builtin (b := .append) (xs := #[.tmp 48, .tmp 50]) rfl ?_); (try (refine gate_guard (by rfl) ?_; dsimp only)); at_builtin; refine Kd.R_append k44 (w0 := w0) w0.heap.size rfl (.tmp 48) (.tmp 50) 28 44 (.agg #[(.int .i64 0), (.int .i64 0), (.int .i64 0)]) 24 rfl Try.underlying28 info44 rfl (by decide) (by omega) (.slice Ao58 t267.length co58) t267 (⟨x264000_14, x264001_14, x264002_14⟩ : S44) [.int .i64 x264000_14, .int .i64 x264001_14, .int .i64 x264002_14] (fun k_ => (P0_0_ k_ ∨ w.heap.size ≤ k_) ∧ some k_ ≠ (.slice Ao4 l0_0.length co4 : Value).ownBlock ∧ k_ ≠ gb263) (fun _ => False) rfl (by first | (go_simp; done) | (go_simp; rfl)) ?aP (fun _ hk => hk.elim) ?aF ?aO ?aB ?aS ?aL ?_; (case aP => exact k44_mkM _ _ _ (⟨x264000_14, x264001_14, x264002_14⟩ : S44)); (case aB => exact (zb HB.out)); (case aF => exact (fun k_ hk => ⟨(.inr (Nat.le_trans (show Kept w _ (fun k_ => P0_0_ k_) from zk HK.out).1 hk)), Kd.fresh' (Kd.R_lt (by (with_reducible repeat (first | apply Kd.R_alloc | apply Kd.R_drewN | apply Kd.R_drew)); exact (Kd.R_mono (Kd.R_far (p := ⟨gb270, 0, none⟩) (Kd.R_types HO_263000.out BK270.out (by decide)) (fun _ hk => hk.2) (.slice Ao58 t267.length co58)) (fun _ h_ => h_.1)))) k_ hk, Kd.freshB (g := gb263) (o := .cells #[.int .i64 x264000_14, .int .i64 x264001_14, .int .i64 x264002_14] 44 (0, 0)) (zf BK263.out) k_ hk⟩)); (case aO => exact (by (with_reducible repeat (first | apply Kd.R_alloc | apply Kd.R_drewN | apply Kd.R_drew)); exact Kd.R_mono (Kd.R_far (p := ⟨gb270, 0, none⟩) (Kd.R_types HO269.out BK270.out (by decide)) (fun _ hk => hk.2) (.slice Ao58 t267.length co58)) (fun _ hk => ⟨hk.1.1.1.1, ⟨hk.1.1.2, hk.1.2⟩⟩))); (case aS => exact (below_size (zb HB.out))); (case aL => have := LMc45.out; omega); intro v272 w64 ho hb hg hat; rw [← Ny271.out] at ho; have n0_ := Aside0.mk (Kd.R_after (ok := (fun k_ => (P0_0_ k_ ∨ w.heap.size ≤ k_) ∧ k_ ≠ gb263)) (by (with_reducible repeat (first | apply Kd.R_alloc | apply Kd.R_drewN | apply Kd.R_drew)); exact Kd.R_mono (Kd.R_far (p := ⟨gb270, 0, none⟩) (Kd.R_types HO_263000.out BK270.out (by decide)) (fun _ hk => hk.2) (.slice Ao58 t267.length co58)) (fun _ hk => ⟨⟨hk.1.1.1, hk.1.1.2⟩, hk.1.2⟩)) hg hat); have n1_ := Aside0.mk (blk_grown (g := gb262) (o := .cells #[.slice Ao4 l0_0.length co4] 30 (0, 0)) (zf BK262.out) hg (Kd.R_ne HO269.out BK262.out (by decide))); have n2_ := Aside0.mk (blk_grown (g := gb263) (o := .cells #[.int .i64 x264000_14, .int .i64 x264001_14, .int .i64 x264002_14] 44 (0, 0)) (zf BK263.out) hg (Kd.R_away HO269.out (fun _ hk => hk.2))); have n3_ := Aside0.mk (blk_grown (g := gb264) (o := .cells #[.slice none 0 0] 30 (0, 0)) (zf BK264.out) hg (Kd.R_ne HO269.out BK264.out (by decide))); have n4_ := Aside0.mk (blk_grown (g := gb270) (o := .cells #[.slice Ao58 t267.length co58] 30 (0, 0)) (by (with_reducible repeat (first | refine blk_drewN ?_ _ | refine blk_drew ?_ | refine blk_alloc ?_ _)); refine blk_put (cs := #[.slice none 0 0]) ?_ 0 _ rfl; (with_reducible repeat (first | refine blk_drewN ?_ _ | refine blk_drew ?_ | refine blk_alloc ?_ _)); exact BK270.out) hg (Kd.R_ne HO269.out BK270.out (by decide))); have n5_ := Aside0.mk (hb); have n6_ := Aside0.mk (Kept.of_grown (S := (fun k_ => P0_0_ k_)) hg (zk HK.out) (fun k_ e_ => (HO269.out.1 k_ e_).1.1.1)); have n7_ := Aside0.mk (ho); clear HO_263000; clear BK262; clear BK263; clear BK264; clear BK270; clear HB; clear HK; clear HO269; have HO_263000 := n0_; have BK262 := n1_; have BK263 := n2_; have BK264 := n3_; have BK270 := n4_; have HB := n5_; have HK := n6_; have HO273 := n7_; clear n0_ n1_ n2_ n3_ n4_ n5_ n6_ n7_; clear ho hb hg hat; obtain ⟨Ao65, co65, eo65⟩ := Kd.R_slice HO273.out; subst eo65; have hcz66_0 : w64.cell? ⟨gb270, 0, none⟩ = some (.slice Ao58 t267.length co58) := (blk_cell BK270.out 0).trans rfl; have hfz66_0 := blk_frozen BK270.out 0))
         have n0_ : Aside0 (Kd.R k44 44 (w64.setCell ⟨gb270, 0, none⟩ (.slice Ao65 y271.length co65)) w0.heap.size (fun k_ => (P0_0_ k_ ∨ w.heap.size ≤ k_) ∧ some k_ ≠ (.slice Ao65 y271.length co65 : Value).ownBlock ∧ k_ ≠ gb263) (.slice Ao4 l0_0.length co4) l0_0) := ⟨zr (Kd.R_mono (Kd.R_far (p := ⟨gb270, 0, none⟩) (Kd.R_types HO_263000.out BK270.out (by decide)) (fun _ hk => hk.2) (.slice Ao65 y271.length co65)) (fun _ hk => ⟨hk.1.1.1, ⟨hk.1.2, hk.1.1.2⟩⟩))⟩
         have n1_ : Aside0 (Kd.R k44 44 (w64.setCell ⟨gb270, 0, none⟩ (.slice Ao65 y271.length co65)) w0.heap.size (fun k_ => (P0_0_ k_ ∨ w.heap.size ≤ k_) ∧ some k_ ≠ (.slice Ao4 l0_0.length co4 : Value).ownBlock ∧ k_ ≠ gb263) (.slice Ao65 y271.length co65) y271) := ⟨zr (Kd.R_mono (Kd.R_far (p := ⟨gb270, 0, none⟩) (Kd.R_types HO273.out BK270.out (by decide)) (fun _ hk => hk.2) (.slice Ao65 y271.length co65)) (fun _ hk => ⟨hk.1.1, ⟨hk.1.2.1, hk.1.2.2⟩⟩))⟩
         have n2_ : Aside0 ((w64.setCell ⟨gb270, 0, none⟩ (.slice Ao65 y271.length co65)).heap[gb262]? = some (.cells #[.slice Ao4 l0_0.length co4] 30 (0, 0))) := ⟨zf BK262.out⟩
         have n3_ : Aside0 ((w64.setCell ⟨gb270, 0, none⟩ (.slice Ao65 y271.length co65)).heap[gb263]? = some (.cells #[.int .i64 x264000_14, .int .i64 x264001_14, .int .i64 x264002_14] 44 (0, 0))) := ⟨zf BK263.out⟩
         have n4_ : Aside0 ((w64.setCell ⟨gb270, 0, none⟩ (.slice Ao65 y271.length co65)).heap[gb264]? = some (.cells #[.slice none 0 0] 30 (0, 0))) := ⟨zf BK264.out⟩
         have n5_ : Aside0 ((w64.setCell ⟨gb270, 0, none⟩ (.slice Ao65 y271.length co65)).heap[gb270]? = some (.cells #[.slice Ao65 y271.length co65] 30 (0, 0))) := ⟨by (with_reducible repeat (first | refine blk_drewN ?_ _ | refine blk_drew ?_ | refine blk_alloc ?_ _)); refine blk_put (cs := #[.slice Ao58 t267.length co58]) ?_ 0 _ rfl; (with_reducible repeat (first | refine blk_drewN ?_ _ | refine blk_drew ?_ | refine blk_alloc ?_ _)); exact BK270.out⟩
         have n6_ : Aside0 (Kept w (w64.setCell ⟨gb270, 0, none⟩ (.slice Ao65 y271.length co65)) (fun k_ => P0_0_ k_)) := ⟨zk HK.out⟩
         have n7_ : Aside0 (Below w0.heap.size w0 (w64.setCell ⟨gb270, 0, none⟩ (.slice Ao65 y271.length co65))) := ⟨zb HB.out⟩
         (try clear HO_263000)
         (try clear HO273)
         (try clear BK262)
         (try clear BK263)
         (try clear BK264)
         (try clear BK270)
         (try clear HK)
         (try clear HB)
         generalize (w64.setCell ⟨gb270, 0, none⟩ (.slice Ao65 y271.length co65)) = w67 at n0_ n1_ n2_ n3_ n4_ n5_ n6_ n7_ ⊢
         have HO_263000 := n0_
         have HO273 := n1_
         have BK262 := n2_
         have BK263 := n3_
         have BK264 := n4_
         have BK270 := n5_
         have HK := n6_
         have HB := n7_
         clear n0_ n1_ n2_ n3_ n4_ n5_ n6_ n7_
         have n0_ := Aside0.mk (Kd.R_drew HO_263000.out)
         have n1_ := Aside0.mk (Kd.R_drew HO273.out)
         have n2_ := Aside0.mk (blk_drew BK262.out)
         have n3_ := Aside0.mk (blk_drew BK263.out)
         have n4_ := Aside0.mk (blk_drew BK264.out)
         have n5_ := Aside0.mk (blk_drew BK270.out)
         have n6_ := Aside0.mk (Kept.drew HK.out)
         have n7_ := Aside0.mk (below_drew1 HB.out)
         clear HO_263000
         clear HO273
         clear BK262
         clear BK263
         clear BK264
         clear BK270
         clear HK
         clear HB
         have HO_263000 := n0_
         have HO273 := n1_
         have BK262 := n2_
         have BK263 := n3_
         have BK264 := n4_
         have BK270 := n5_
         have HK := n6_
         have HB := n7_
         clear n0_ n1_ n2_ n3_ n4_ n5_ n6_ n7_
         refine start_ (n := 6) (S := fun w' => w'.cell? ⟨gb270, 0, none⟩ = some (.slice Ao65 y271.length co65) ∧ w'.cell? ⟨gb262, 0, none⟩ = some (.slice Ao4 l0_0.length co4)) (ds := []) #[false, false, false, false, false, false] (by kernel_rfl) rfl rfl ⟨(blk_cell BK270.out 0).trans rfl, (blk_cell BK262.out 0).trans rfl⟩ (fun hHeld => ?_)
         generalize w67.drew = w68 at HO_263000 HO273 BK262 BK263 BK264 BK270 HK HB hHeld ⊢
         refine pure_ (i := 1) (N := some 54) (v := ?_) (a' := ?_) #[false, true, false, false, false, false] rfl rfl (by kernel_rfl) (fun _ _ _ h => h) (Or.inl ⟨by rfl, ?_⟩) ?_ ?_
         rotate_left
         ·intro w'
          go_simp
          with_reducible rfl
         rotate_left
         ·simp only [Act.put, List.setIfInBounds_toArray, List.set_cons_zero, List.set_cons_succ, i64_w, i32_w]
          rfl
         refine take_ (i := 0) (N := some 53) (v := ?_) (a' := ?_) #[true, true, false, false, false, false] rfl rfl (by kernel_rfl) (fun _ _ _ h => h) (Or.inl ⟨by rfl, ?_⟩) hHeld ?_ ?_
         rotate_left
         ·rintro w' ⟨s0, s1⟩
          go_simp
          with_reducible rfl
         rotate_left
         ·simp only [Act.put, List.setIfInBounds_toArray, List.set_cons_zero, List.set_cons_succ, i64_w, i32_w]
          rfl
         refine take_ (i := 2) (N := some 55) (v := ?_) (a' := ?_) #[true, true, true, false, false, false] rfl rfl (by kernel_rfl) (fun _ _ _ h => h) (Or.inl ⟨by rfl, ?_⟩) hHeld ?_ ?_
         rotate_left
         ·rintro w' ⟨s0, s1⟩
          go_simp
          with_reducible rfl
         rotate_left
         ·simp only [Act.put, List.setIfInBounds_toArray, List.set_cons_zero, List.set_cons_succ, i64_w, i32_w]
          rfl
         refine pure_ (i := 3) (N := some 56) (v := ?_) (a' := ?_) #[true, true, true, true, false, false] rfl rfl (by kernel_rfl) (fun _ _ _ h => h) (Or.inl ⟨by rfl, ?_⟩) ?_ ?_
         rotate_left
         ·intro w'
          go_simp
          with_reducible rfl
         rotate_left
         ·simp only [Act.put, List.setIfInBounds_toArray, List.set_cons_zero, List.set_cons_succ, i64_w, i32_w]
          rfl
         refine one_ (i := 4) (N := none) #[true, true, true, true, true, false] rfl rfl (by kernel_rfl) (by decide) (fun K hK => ?_)
         have hs69 : w68.cell? ⟨gb264, 0, none⟩ = some (.slice none 0 0) := (blk_cell BK264.out 0).trans rfl
         have hfs69 := blk_frozen BK264.out 0
         have hns69_0 := NB262_264.out
         have hns69_1 := NB263_264.out
         have hns69_3 := NB270_264.out
         have hms69_0 := NB264_262.out
         have hms69_1 := NB264_263.out
         have hms69_3 := NB264_270.out
         refine skip_ (w1 := ?_) (by rfl) rfl ?_ ?_
         rotate_left
         ·go_simp
          rfl
         refine hK.out _ _ ⟨((cell_far (p := ⟨gb264, _, none⟩) NB270_264.out _).trans (hHeld.1)), ((cell_far (p := ⟨gb264, _, none⟩) NB262_264.out _).trans (hHeld.2))⟩ (fun hHeld => ?_)
         clear hK K
         refine pure_ (i := 5) (N := some 5) (v := ?_) (a' := ?_) #[true, true, true, true, true, true] rfl rfl (by kernel_rfl) (fun _ _ _ h => h) (Or.inl ⟨by rfl, ?_⟩) ?_ ?_
         rotate_left
         ·intro w'
          go_simp
          with_reducible rfl
         rotate_left
         ·simp only [Act.put, List.setIfInBounds_toArray, List.set_cons_zero, List.set_cons_succ, i64_w, i32_w]
          rfl
         refine done_ (by kernel_rfl) ?_
         try go_wp2
         refine bodyPost_ret (results_ct rfl _ _ gb264 30 #[.slice Ao65 y271.length co65] (0, 0) _ rfl (by (with_reducible repeat (first | refine blk_drewN ?_ _ | refine blk_drew ?_ | refine blk_alloc ?_ _)); refine blk_put (cs := #[.slice none 0 0]) ?_ 0 _ rfl; (with_reducible repeat (first | refine blk_drewN ?_ _ | refine blk_drew ?_ | refine blk_alloc ?_ _)); exact BK264.out) Try.underlying30 rfl (by kernel_rfl)) rfl ?_
         exact ⟨_, ze, zr (Kd.R_mono (Kd.R_far (p := ⟨gb264, 0, none⟩) (Kd.R_types HO273.out BK264.out (by decide)) (fun _ hk => hk.2) (.slice Ao65 y271.length co65)) (fun _ hk => hk.1.1)), zb HB.out, zk HK.out⟩
        ·rw [if_neg c45] at H
         exact absurd H (by simp)
      ·replace c31 := Bool.eq_false_iff.mpr c31
       subst c31
       have H1 : (some (l0_0, (-1))) = some (r1, r2) := by rw [if_neg (show ¬ (false = true) by decide)] at H; exact H
       clear H
       have H := H1
       clear H1
       simp only [Option.some.injEq, Prod.mk.injEq] at H
       obtain ⟨rfl, rfl⟩ := H
       have hnb70 := NB262_263.out
       have hnc70 := NB263_262.out
       have hnb71 := NB262_264.out
       have hnc71 := NB264_262.out
       have hcz72_0 : wc.cell? ⟨gb262, 0, none⟩ = some (.slice Ao4 l0_0.length co4) := (blk_cell BK262.out 0).trans rfl
       have hfz72_0 := blk_frozen BK262.out 0
       have hnb73 := NB263_264.out
       have hnc73 := NB264_263.out
       have hcz74_0 : wc.cell? ⟨gb263, 0, none⟩ = some (.int .i64 x264000_14) := (blk_cell BK263.out 0).trans rfl
       have hcz74_1 : wc.cell? ⟨gb263, 1, none⟩ = some (.int .i64 x264001_14) := (blk_cell BK263.out 1).trans rfl
       have hcz74_2 : wc.cell? ⟨gb263, 2, none⟩ = some (.int .i64 x264002_14) := (blk_cell BK263.out 2).trans rfl
       have hfz74_0 := blk_frozen BK263.out 0
       have hfz74_1 := blk_frozen BK263.out 1
       have hfz74_2 := blk_frozen BK263.out 2
       go_wp2_with (first | ((with_reducible refine gate_callee (f := 49) rfl ?_); refine goesL_ (some 27) rfl rfl Try.func49 (by kernel_rfl) rfl #[.agg #[.slice Ao4 l0_0.length co4], .agg #[.int .i64 x264000_14, .int .i64 x264001_14, .int .i64 x264002_14]] rfl zl ?_; (with_reducible refine (spec_l1Find.calls kj14 _ _ l0_0 x264000_14 x264001_14 x264002_14 t265 _ ?side1 ?side2 A20.out).mono ?_); (case side1 => exact zc (Kd.R_reads' HO_263000.out).2.2); (case side2 => exact (Kd.R_reads' HO_263000.out).2.1); rintro e w75 ⟨rfl, hb⟩; refine ⟨_, rfl, ?_⟩; have n0_ := Aside0.mk (Kd.R_below (zr HO_263000.out) hb); have n1_ := Aside0.mk (blk_below (zh BK262.out) hb); have n2_ := Aside0.mk (blk_below (zh BK263.out) hb); have n3_ := Aside0.mk (blk_below (zh BK264.out) hb); have n4_ := Aside0.mk (Kept.below (S := (fun k_ => P0_0_ k_)) (zk HK.out) hb); have n5_ := Aside0.mk (below_step (zb HB.out) hb); clear HO_263000; clear BK262; clear BK263; clear BK264; clear HK; clear HB; have HO_263000 := n0_; have BK262 := n1_; have BK263 := n2_; have BK264 := n3_; have HK := n4_; have HB := n5_; clear n0_ n1_ n2_ n3_ n4_ n5_; (try clear hb); (try clear hb2); (try clear hk); (try clear hi); have hcz76_0 : w75.cell? ⟨gb263, 0, none⟩ = some (.int .i64 x264000_14) := (blk_cell BK263.out 0).trans rfl; have hcz76_1 : w75.cell? ⟨gb263, 1, none⟩ = some (.int .i64 x264001_14) := (blk_cell BK263.out 1).trans rfl; have hcz76_2 : w75.cell? ⟨gb263, 2, none⟩ = some (.int .i64 x264002_14) := (blk_cell BK263.out 2).trans rfl; have hfz76_0 := blk_frozen BK263.out 0; have hfz76_1 := blk_frozen BK263.out 1; have hfz76_2 := blk_frozen BK263.out 2; have hcz77_0 : w75.cell? ⟨gb262, 0, none⟩ = some (.slice Ao4 l0_0.length co4) := (blk_cell BK262.out 0).trans rfl; have hfz77_0 := blk_frozen BK262.out 0) | ((with_reducible refine gate_callee (f := 48) rfl ?_); refine goesL_ (some 36) rfl rfl Try.func48 (by kernel_rfl) rfl #[.agg #[.int .i64 x264000_14, .int .i64 x264001_14, .int .i64 x264002_14], .int .i64 (l0_0.length : Int)] rfl zl ?_; (with_reducible refine (spec_l1Right.calls kj14 x264000_14 x264001_14 x264002_14 (l0_0.length : Int) false _ A30.out).mono ?_); rintro e w78 ⟨rfl, hb⟩; refine ⟨_, rfl, ?_⟩; have n0_ := Aside0.mk (Kd.R_below (zr HO_263000.out) hb); have n1_ := Aside0.mk (blk_below (zh BK262.out) hb); have n2_ := Aside0.mk (blk_below (zh BK263.out) hb); have n3_ := Aside0.mk (blk_below (zh BK264.out) hb); have n4_ := Aside0.mk (Kept.below (S := (fun k_ => P0_0_ k_)) (zk HK.out) hb); have n5_ := Aside0.mk (below_step (zb HB.out) hb); clear HO_263000; clear BK262; clear BK263; clear BK264; clear HK; clear HB; have HO_263000 := n0_; have BK262 := n1_; have BK263 := n2_; have BK264 := n3_; have HK := n4_; have HB := n5_; clear n0_ n1_ n2_ n3_ n4_ n5_; (try clear hb); (try clear hb2); (try clear hk); (try clear hi); have hcz79_0 : w78.cell? ⟨gb262, 0, none⟩ = some (.slice Ao4 l0_0.length co4) := (blk_cell BK262.out 0).trans rfl; have hfz79_0 := blk_frozen BK262.out 0; have hcz80_0 : w78.cell? ⟨gb264, 0, none⟩ = some (.slice none 0 0) := (blk_cell BK264.out 0).trans rfl; have hfz80_0 := blk_frozen BK264.out 0))
       refine bodyPost_ret (results_ct rfl _ _ gb264 30 #[.slice Ao4 l0_0.length co4] (0, 0) _ rfl (by (with_reducible repeat (first | refine blk_drewN ?_ _ | refine blk_drew ?_ | refine blk_alloc ?_ _)); refine blk_put (cs := #[.slice none 0 0]) ?_ 0 _ rfl; (with_reducible repeat (first | refine blk_drewN ?_ _ | refine blk_drew ?_ | refine blk_alloc ?_ _)); exact BK264.out) Try.underlying30 rfl (by kernel_rfl)) rfl ?_
       exact ⟨_, ze, zr (Kd.R_mono (Kd.R_far (p := ⟨gb264, 0, none⟩) (Kd.R_types HO_263000.out BK264.out (by decide)) (fun _ hk => hk.2) (.slice Ao4 l0_0.length co4)) (fun _ hk => hk.1.1)), zb HB.out, zk HK.out⟩

end Go.Proofs.Ytdgahpigcaejbaa.D
end

section
-- Written by this session's program (wip/tools/gprint.py over the kit's print) out of the translation; Lean checks it.
namespace Go.Proofs.Ytdgahpigcaejbaa.D
open Go.RowKit Go.Proofs.YtdgahpigcaejbaaW.PrintWords Go.Proofs.YtdgahpigcaejbaaW.PrintLast Go.Proofs.YtdgahpigcaejbaaW.PrintMore
attribute [local go_sem] max2_int min2_int max_two min_two max_three min_three max_four min_four   -- for this text's walks alone
set_option linter.unusedVariables false
set_option linter.unusedSimpArgs false
set_option maxRecDepth 100000

/-! ### spec_l1DrawPool: function 73 -/
def spec_l1DrawPool.l0 : Nat → Int → Int → List Int → Int → Int → List (S44) → Option ((List (S44)) × Int × Int)
 | 0, _, _, _, _, _, _ => none
 | k + 1, x6, x7, x1000, x1001, x1002, x276000 => if x7 < x6 then ((spec_l1DrawNode.f k x1000 x1001 x1002 (x276000.length : Int)).bind fun bt279 => ((spec_l1Add.f k x276000 bt279.1 bt279.2.1 bt279.2.2.1).bind fun bt284 => (spec_l1DrawPool.l0 k x6 (wrap64 (x7 + 1)) x1000 bt279.2.2.2.1 bt279.2.2.2.2 bt284.1))) else (some (x276000, x1001, x1002))
def spec_l1DrawPool.f (k : Nat) (s0_0 : List Int) (s0_1 : Int) (s0_2 : Int) (a1 : Int) : Option ((List (S44)) × Int × Int) := (spec_l1Below.f s0_0 s0_1 s0_2 (wrap64 (a1 + 1))).bind fun bt276 => (spec_l1DrawPool.l0 k bt276.1 0 s0_0 bt276.2.1 bt276.2.2 ([] : List (S44)))
theorem spec_l1DrawPool.mono_l : ∀ k, (∀ y0 y1 y2 y3 y4 y5, LeO (spec_l1DrawPool.l0 k y0 y1 y2 y3 y4 y5) (spec_l1DrawPool.l0 (k + 1) y0 y1 y2 y3 y4 y5))
 | 0 => fun _ _ _ _ _ _ r h => by simp [spec_l1DrawPool.l0] at h
 | k + 1 => by
  have ih0 := spec_l1DrawPool.mono_l k
  ·intro y0 y1 y2 y3 y4 y5
   unfold spec_l1DrawPool.l0
   repeat' first
   | (with_reducible exact ih0 _ _ _ _ _ _)
   | (with_reducible exact spec_l1Add.mono _ _ _ _ _)
   | (with_reducible exact spec_l1DrawNode.mono _ _ _ _ _)
   | (with_reducible exact LeO.refl _)
   | (with_reducible exact LeO.none _)
   | (with_reducible refine LeO.ite ?_ ?_)
   | (with_reducible refine LeO.bind ?_ (fun _ => ?_))
   | exact ih0 _ _ _ _ _ _
   | exact spec_l1Add.mono _ _ _ _ _
   | exact spec_l1DrawNode.mono _ _ _ _ _
   | exact LeO.none _
   | refine LeO.ite ?_ ?_
   | refine LeO.bind ?_ (fun _ => ?_)
theorem spec_l1DrawPool.mono : ∀ a0 a1 a2 a3 k, LeO (spec_l1DrawPool.f k a0 a1 a2 a3) (spec_l1DrawPool.f (k + 1) a0 a1 a2 a3) := by
 intro a0 a1 a2 a3 k
 have ih0 := spec_l1DrawPool.mono_l k
 unfold spec_l1DrawPool.f
 repeat' first
   | (with_reducible exact ih0 _ _ _ _ _ _)
   | (with_reducible exact spec_l1Add.mono _ _ _ _ _)
   | (with_reducible exact spec_l1DrawNode.mono _ _ _ _ _)
   | (with_reducible exact LeO.refl _)
   | (with_reducible exact LeO.none _)
   | (with_reducible refine LeO.ite ?_ ?_)
   | (with_reducible refine LeO.bind ?_ (fun _ => ?_))
   | exact ih0 _ _ _ _ _ _
   | exact spec_l1Add.mono _ _ _ _ _
   | exact spec_l1DrawNode.mono _ _ _ _ _
   | exact LeO.none _
   | refine LeO.ite ?_ ?_
   | refine LeO.bind ?_ (fun _ => ?_)
def spec_l1DrawPool.T6 : Bool × List (List Nat × List Nat) := (true, [([], []), ([], []), ([], []), ([2], [2]), ([3], [3]), ([1, 4], [1, 4]), ([0, 5, 5], [0, 5]), ([6], [6]), ([7], [7]), ([7], [7]), ([8, 6, 0, 1, 2, 3, 4, 5, 6, 7, 8], [8])])
def spec_l1DrawPool.B6 : List Nat := [0, 0, 0, 4, 12, 30, 63, 127, 255, 255, 511]
theorem spec_l1DrawPool.tab6 : rtab .any (opsOf Try.f73 6) = spec_l1DrawPool.T6 := by kernel_rfl
theorem spec_l1DrawPool.bits6 : waitsOk spec_l1DrawPool.T6.2 spec_l1DrawPool.B6 = true := by kernel_rfl
set_option maxHeartbeats 8000000 in
set_option maxRecDepth 100000 in
theorem spec_l1DrawPool.calls (k : Nat) (g : Nat) (s0_0 : List Int) (s0_1 : Int) (s0_2 : Int) (a1 : Int) (r1 : List (S44)) (r2 : Int) (r3 : Int) (w0 w : World) (hI : IsS89 w0 w g s0_0 s0_1 s0_2) (hB : Below w0.heap.size w0 w) (h : spec_l1DrawPool.f k s0_0 s0_1 s0_2 a1 = some (r1, r2, r3)) :
  Calls Try.prog 73 #[.pointer (some ⟨g, 0, none⟩), .int .i64 a1] w fun e w' => ∃ v0_ : Value, e = .returned (.agg #[v0_]) ∧ Kd.R k44 44 w' w.heap.size (fun _ => True) v0_ r1 ∧ IsS89 w0 w' g s0_0 r2 r3 ∧ Below w0.heap.size w0 w' ∧ KeepBut w w' g none := by
 have hu30 := Try.underlying30
 have HI0 := Aside0.mk hI
 have HK := Aside0.mk (KeepBut.refl w g none)
 have HL := Aside0.mk hB.size
 clear hI
 have HW0 := Aside0.mk hB.size
 have HB := Aside0.mk hB
 clear hB
 have H : ((spec_l1Below.f s0_0 s0_1 s0_2 (wrap64 (a1 + 1))).bind fun bt276 => (spec_l1DrawPool.l0 k bt276.1 0 s0_0 bt276.2.1 bt276.2.2 ([] : List (S44)))) = some (r1, r2, r3) := h
 clear h
 replace H := Option.bind_eq_some_iff.mp H
 obtain ⟨⟨t276, t277, t278⟩, A30, H⟩ := H
 replace H : (spec_l1DrawPool.l0 k t276 0 s0_0 t277 t278 ([] : List (S44))) = some (r1, r2, r3) := H
 have A3 := Aside0.mk A30
 clear A30
 have H' := Aside0.mk H
 clear H
 go_enter Try.func73, Try.ntmps73
 go_wp2_with (first | ((with_reducible refine gate_dst (N := 4) rfl ?_); refine box_event ?hg (N := 4) ?hd (cs := #[.slice none 0 0]) (t := 30) ?hr ?_; (case hd => rfl); (case hg => rfl); (case hr => first | (go_simp; done) | (go_simp; rfl)); intro gb274 hg w4 hbox hb; have n0_ := Aside0.mk (IsS89.below (zi89 HI0.out) hb); have n1_ := Aside0.mk (KeepBut.trans (zq HK.out) (KeepBut.of_below hb g none) (.inl rfl)); have n2_ := Aside0.mk (below_step (zj HB.out (IsS89.ge HI0.out)) hb); have n3_ := Aside0.mk (hbox); have n4_ := Aside0.mk ((by rw [hg]; exact (keep_size (w := w) (g := g) (row := none) (zq HK.out)) : w.heap.size ≤ gb274)); have n5_ := Aside0.mk ((Nat.le_trans HW0.out (by rw [hg]; exact (keep_size (w := w) (g := g) (row := none) (zq HK.out)) : w.heap.size ≤ gb274) : w0.heap.size ≤ gb274)); have n6_ := Aside0.mk ((by rw [hg]; exact Nat.ne_of_lt (IsS89.lt (show IsS89 w0 _ g s0_0 s0_1 s0_2 from zi89 HI0.out)) : g ≠ gb274)); have n7_ := Aside0.mk ((by rw [hg]; exact Nat.ne_of_gt (IsS89.lt (show IsS89 w0 _ g s0_0 s0_1 s0_2 from zi89 HI0.out)) : gb274 ≠ g)); clear HI0; clear HK; clear HB; have HI0 := n0_; have HK := n1_; have HB := n2_; have BK274 := n3_; have GW274 := n4_; have GE274 := n5_; have NB0_274 := n6_; have NB274_0 := n7_; clear n0_ n1_ n2_ n3_ n4_ n5_ n6_ n7_; clear hb hbox hg) | ((with_reducible refine gate_dst (N := 5) rfl ?_); refine box_event ?hg (N := 5) ?hd (cs := #[.slice none 0 0]) (t := 30) ?hr ?_; (case hd => rfl); (case hg => rfl); (case hr => first | (go_simp; done) | (go_simp; rfl)); intro gb275 hg w5 hbox hb; have n0_ := Aside0.mk (IsS89.below (zi89 HI0.out) hb); have n1_ := Aside0.mk (blk_below (zh BK274.out) hb); have n2_ := Aside0.mk (KeepBut.trans (zq HK.out) (KeepBut.of_below hb g none) (.inl rfl)); have n3_ := Aside0.mk (below_step (zj HB.out (IsS89.ge HI0.out)) hb); have n4_ := Aside0.mk (hbox); have n5_ := Aside0.mk ((by rw [hg]; exact (keep_size (w := w) (g := g) (row := none) (zq HK.out)) : w.heap.size ≤ gb275)); have n6_ := Aside0.mk ((Nat.le_trans HW0.out (by rw [hg]; exact (keep_size (w := w) (g := g) (row := none) (zq HK.out)) : w.heap.size ≤ gb275) : w0.heap.size ≤ gb275)); have n7_ := Aside0.mk ((by rw [hg]; exact Nat.ne_of_lt (blk_lt (zh BK274.out)) : gb274 ≠ gb275)); have n8_ := Aside0.mk ((by rw [hg]; exact Nat.ne_of_gt (blk_lt (zh BK274.out)) : gb275 ≠ gb274)); have n9_ := Aside0.mk ((by rw [hg]; exact Nat.ne_of_lt (IsS89.lt (show IsS89 w0 _ g s0_0 s0_1 s0_2 from zi89 HI0.out)) : g ≠ gb275)); have n10_ := Aside0.mk ((by rw [hg]; exact Nat.ne_of_gt (IsS89.lt (show IsS89 w0 _ g s0_0 s0_1 s0_2 from zi89 HI0.out)) : gb275 ≠ g)); clear HI0; clear BK274; clear HK; clear HB; have HI0 := n0_; have BK274 := n1_; have HK := n2_; have HB := n3_; have BK275 := n4_; have GW275 := n5_; have GE275 := n6_; have NB274_275 := n7_; have NB275_274 := n8_; have NB0_275 := n9_; have NB275_0 := n10_; clear n0_ n1_ n2_ n3_ n4_ n5_ n6_ n7_ n8_ n9_ n10_; clear hb hbox hg; have hnb6 := NB275_274.out; have hnc6 := NB274_275.out; have hnb7 := NB275_0.out; have hnc7 := NB0_275.out; have hcz8_0 : w5.cell? ⟨gb275, 0, none⟩ = some (.slice none 0 0) := (blk_cell BK275.out 0).trans rfl; have hfz8_0 := blk_frozen BK275.out 0) | ((with_reducible refine gate_callee (f := 74) rfl ?_); refine goesL_ (some 12) rfl rfl Try.func74 (by kernel_rfl) rfl #[.pointer (some ⟨g, 0, none⟩), .int .i64 (wrap64 (a1 + 1))] rfl zl ?_; (with_reducible refine (spec_l1Below.calls g s0_0 s0_1 s0_2 (wrap64 (a1 + 1)) t276 t277 t278 w0 _ ?side1 ?side2 A3.out).mono ?_); (case side1 => exact zi89 HI0.out); (case side2 => exact zj HB.out (IsS89.ge HI0.out)); rintro e w9 ⟨rfl, hi, hb, hk⟩; refine ⟨_, rfl, ?_⟩; have n0_ := Aside0.mk (KeepBut.blk hk (g' := gb274) (o := .cells #[.slice none 0 0] 30 (0, 0)) (zf BK274.out) NB274_0.out (by simp)); have n1_ := Aside0.mk (KeepBut.blk hk (g' := gb275) (o := .cells #[.slice none 0 0] 30 (0, 0)) (by (with_reducible repeat (first | refine blk_drewN ?_ _ | refine blk_drew ?_ | refine blk_alloc ?_ _)); refine blk_put (cs := #[.slice none 0 0]) ?_ 0 _ rfl; (with_reducible repeat (first | refine blk_drewN ?_ _ | refine blk_drew ?_ | refine blk_alloc ?_ _)); exact BK275.out) NB275_0.out (by simp)); have n2_ := Aside0.mk (KeepBut.trans (zq HK.out) hk (.inl rfl)); have n3_ := Aside0.mk (hb); have n4_ := Aside0.mk (hi); clear BK274; clear BK275; clear HK; clear HB; clear HI0; have BK274 := n0_; have BK275 := n1_; have HK := n2_; have HB := n3_; have HI0 := n4_; clear n0_ n1_ n2_ n3_ n4_; (try clear hb); (try clear hb2); (try clear hk); (try clear hi)))
 go_loopg [7] k (fun kq v7 w' => ∃ (x7_1 : Int) (x1001_1 : Int) (x1002_1 : Int) (x276000_1 : List (S44)) (u276000 : Value), v7 = .int .i64 x7_1 ∧ Aside0 (spec_l1DrawPool.l0 kq t276 x7_1 s0_0 x1001_1 x1002_1 x276000_1 = some (r1, r2, r3)) ∧ Aside0 (kq ≤ k) ∧ Aside0 (Kd.R k44 44 w' w.heap.size (fun _ => True) u276000 x276000_1) ∧ Aside0 (w'.heap[gb274]? = some (.cells #[(.slice none 0 0)] 30 (0, 0))) ∧ Aside0 (w'.heap[gb275]? = some (.cells #[u276000] 30 (0, 0))) ∧ Aside0 (IsS89 w0 w' g s0_0 x1001_1 x1002_1) ∧ Aside0 (KeepBut w w' g none) ∧ Aside0 (Below w0.heap.size w0 w'))
 case atStart => exact ⟨(0), (t277), (t278), (([] : List (S44))), (.slice none 0 0), (by first | rfl | (simp; done) | (simp [*]; done)), H', ⟨Nat.le_refl _⟩, ⟨by first | exact Kd.R_nil _ _ _ _ _ | exact Kd.N_nil _ _ _ _ _ | exact Kd.V_nil _ _ _ _ _ | exact Kd.Q_nil _ _ _ _ _ | exact Kd.S_nil _ _ _ _ _⟩, ⟨zh BK274.out⟩, ⟨zh BK275.out⟩, ⟨zi89 HI0.out⟩, ⟨zq HK.out⟩, ⟨zj HB.out (IsS89.ge HI0.out)⟩⟩
 case round =>
  clear H'
  try clear p2
  try clear c6
  try clear p6
  try clear c7
  try clear hcz8_0
  try clear hfz8_0
  obtain ⟨x7_1, x1001_1, x1002_1, x276000_1, u276000, rfl, HA, HK1, HO_276000, BK274, BK275, HI0, HK, HB⟩ := hrel
  cases gk with
  | zero => exact absurd HA.out (by simp [spec_l1DrawPool.l0])
  | succ k1 =>
   have H := HA.out
   clear HA
   simp only [spec_l1DrawPool.l0] at H
   by_cases c10 : x7_1 < t276
   ·rw [if_pos c10] at H
    have c10b0 : decide (x7_1 < t276) = true := decide_eq_true c10
    clear c10
    replace H := Option.bind_eq_some_iff.mp H
    obtain ⟨⟨t279, t280, t281, t282, t283⟩, A110, H⟩ := H
    replace H : ((spec_l1Add.f k1 x276000_1 t279 t280 t281).bind fun bt284 => (spec_l1DrawPool.l0 k1 t276 (wrap64 (x7_1 + 1)) s0_0 t282 t283 bt284.1)) = some (r1, r2, r3) := H
    have A11 := Aside0.mk A110
    clear A110
    replace H := Option.bind_eq_some_iff.mp H
    obtain ⟨⟨t284, t287⟩, A120, H⟩ := H
    replace H : (spec_l1DrawPool.l0 k1 t276 (wrap64 (x7_1 + 1)) s0_0 t282 t283 t284) = some (r1, r2, r3) := H
    have A12 := Aside0.mk A120
    clear A120
    have H' := Aside0.mk H
    clear H
    try go_wp2
    have n0_ := Aside0.mk (Kd.R_drew HO_276000.out)
    have n1_ := Aside0.mk (blk_drew BK274.out)
    have n2_ := Aside0.mk (blk_drew BK275.out)
    have n3_ := Aside0.mk (IsS89.drew HI0.out)
    have n4_ := Aside0.mk (keep_drew HK.out)
    have n5_ := Aside0.mk (below_drew1 HB.out)
    clear HO_276000
    clear BK274
    clear BK275
    clear HI0
    clear HK
    clear HB
    have HO_276000 := n0_
    have BK274 := n1_
    have BK275 := n2_
    have HI0 := n3_
    have HK := n4_
    have HB := n5_
    clear n0_ n1_ n2_ n3_ n4_ n5_
    obtain ⟨Ao14, co14, eo14⟩ := Kd.R_slice HO_276000.out
    (first | subst eo14 | (injection eo14 with f1_ f2_ f3_; have f4_ := f1_.symm; have f5_ := f3_.symm; clear f1_ f2_ f3_; subst f4_; subst f5_))
    refine start_ (n := 11) (S := fun w' => w'.cell? ⟨gb275, 0, none⟩ = some (.slice Ao14 x276000_1.length co14)) (ds := [10]) #[false, false, false, false, false, false, false, false, false, false, false] (by kernel_rfl) rfl rfl ((blk_cell BK275.out 0).trans rfl) (fun hHeld => ?_); refine with_tabW spec_l1DrawPool.tab6 spec_l1DrawPool.bits6 (fun HT_ HW_ => ?_)
    generalize wr.drew = w13 at HO_276000 BK274 BK275 HI0 HK HB hHeld ⊢
    refine pure_ (i := 1) (N := some 20) (v := ?_) (a' := ?_) #[false, true, false, false, false, false, false, false, false, false, false] rfl rfl (any_of HT_.out (by kernel_rfl)) (fun _ _ _ h => h) (Or.inl ⟨by rfl, ?_⟩) ?_ ?_
    rotate_left
    ·intro w'
     go_simp
     with_reducible rfl
    rotate_left
    ·simp only [Act.put, List.setIfInBounds_toArray, List.set_cons_zero, List.set_cons_succ, i64_w, i32_w]
     rfl
    refine pure_ (i := 2) (N := some 21) (v := ?_) (a' := ?_) #[false, true, true, false, false, false, false, false, false, false, false] rfl rfl (any_of HT_.out (by kernel_rfl)) (fun _ _ _ h => h) (Or.inl ⟨by rfl, ?_⟩) ?_ ?_
    rotate_left
    ·intro w'
     go_simp
     with_reducible rfl
    rotate_left
    ·simp only [Act.put, List.setIfInBounds_toArray, List.set_cons_zero, List.set_cons_succ, i64_w, i32_w]
     rfl
    refine take_ (i := 0) (N := some 19) (v := ?_) (a' := ?_) #[true, true, true, false, false, false, false, false, false, false, false] rfl rfl (take_ofW HT_.out HW_.out (by kernel_rfl)) (fun _ _ _ h => h) (Or.inl ⟨by rfl, ?_⟩) hHeld ?_ ?_
    rotate_left
    ·intro w' s0
     go_simp
     with_reducible rfl
    rotate_left
    ·simp only [Act.put, List.setIfInBounds_toArray, List.set_cons_zero, List.set_cons_succ, i64_w, i32_w]
     rfl
    refine take_ (i := 3) (N := some 22) (v := ?_) (a' := ?_) #[true, true, true, true, false, false, false, false, false, false, false] rfl rfl (take_ofW HT_.out HW_.out (by kernel_rfl)) (fun _ _ _ h => h) (Or.inl ⟨by rfl, ?_⟩) hHeld ?_ ?_
    rotate_left
    ·intro w' s0
     go_simp
     with_reducible rfl
    rotate_left
    ·simp only [Act.put, List.setIfInBounds_toArray, List.set_cons_zero, List.set_cons_succ, i64_w, i32_w]
     rfl
    refine pure_ (i := 4) (N := some 23) (v := ?_) (a' := ?_) #[true, true, true, true, true, false, false, false, false, false, false] rfl rfl (any_of HT_.out (by kernel_rfl)) (fun _ _ _ h => h) (Or.inl ⟨by rfl, ?_⟩) ?_ ?_
    rotate_left
    ·intro w'
     go_simp
     with_reducible rfl
    rotate_left
    ·simp only [Act.put, List.setIfInBounds_toArray, List.set_cons_zero, List.set_cons_succ, i64_w, i32_w]
     rfl
    refine one_ (i := 5) (N := some 24) #[true, true, true, true, true, true, false, false, false, false, false] rfl rfl (one_of HT_.out (by kernel_rfl)) (by decide) (fun K hK => ?_)
    refine goes_ Try.func76 (by kernel_rfl) rfl #[.pointer (some ⟨g, 0, none⟩), .int .i64 (x276000_1.length : Int)] (by rfl) rfl rfl zl ?_
    with_reducible refine (spec_l1DrawNode.calls k1 g s0_0 x1001_1 x1002_1 (x276000_1.length : Int) t279 t280 t281 t282 t283 w0 _ ?side1 ?side2 A11.out).mono ?_
    (case side1 => exact zi89 HI0.out)
    (case side2 => exact zj HB.out (IsS89.ge HI0.out))
    rintro e w15 ⟨rfl, hi, hb, hk⟩
    refine ⟨_, rfl, ?_⟩
    have n0_ := Aside0.mk (Kd.R_mono (Kd.R_keep (IsS89.apart (show IsS89 w0 _ g s0_0 x1001_1 x1002_1 from zi89 HI0.out) (zr HO_276000.out) (by decide)) hk (fun _ h => h.2)) (fun _ h => h.1))
    have n1_ := Aside0.mk (KeepBut.blk hk (g' := gb274) (o := .cells #[.slice none 0 0] 30 (0, 0)) (zh BK274.out) NB274_0.out (by simp))
    have n2_ := Aside0.mk (KeepBut.blk hk (g' := gb275) (o := .cells #[.slice Ao14 x276000_1.length co14] 30 (0, 0)) (zh BK275.out) NB275_0.out (by simp))
    have n3_ := Aside0.mk (KeepBut.trans (zq HK.out) hk (.inl rfl))
    have n4_ := Aside0.mk (hb)
    have n5_ := Aside0.mk (hi)
    clear HO_276000
    clear BK274
    clear BK275
    clear HK
    clear HB
    clear HI0
    have HO_276000 := n0_
    have BK274 := n1_
    have BK275 := n2_
    have HK := n3_
    have HB := n4_
    have HI0 := n5_
    clear n0_ n1_ n2_ n3_ n4_ n5_
    (try clear hb)
    (try clear hb2)
    (try clear hk)
    (try clear hi)
    refine hK.out _ _ ((blk_cell BK275.out 0).trans rfl) (fun hHeld => ?_)
    clear hK K
    refine norm_ (a' := ?_) ?_ ?_
    rotate_left
    ·show Act.put _ (some 24) _ = _
     simp only [Act.put, List.setIfInBounds_toArray, List.set_cons_zero, List.set_cons_succ, i64_w, i32_w]
     rfl
    refine one_ (i := 6) (N := some 25) #[true, true, true, true, true, true, true, false, false, false, false] rfl rfl (one_of HT_.out (by kernel_rfl)) (by decide) (fun K hK => ?_)
    refine goes_ Try.func78 (by kernel_rfl) rfl #[.agg #[.slice Ao14 x276000_1.length co14], .agg #[.int .i64 t279, .int .i64 t280, .int .i64 t281]] (by rfl) rfl rfl zl ?_
    with_reducible refine (spec_l1Add.calls k1 (fun k_ => some k_ = (.slice Ao14 x276000_1.length co14 : Value).ownBlock) (.slice Ao14 x276000_1.length co14) x276000_1 t279 t280 t281 t284 t287 w0 _ ?side1 ?side2 A12.out).mono ?_
    (case side1 => exact zj HB.out (IsS89.ge HI0.out))
    (case side2 => exact Kd.R_lower (Kd.R_tight rfl HO_276000.out) HL.out)
    rintro e w16 ⟨v285, rfl, ho0, hb, hkp⟩
    refine ⟨_, rfl, ?_⟩
    have n0_ := Aside0.mk (blk_kept (zh BK274.out) hkp (fun hs_ => (fun e_ => (Kd.R_ne HO_276000.out BK274.out (by decide)) e_) hs_))
    have n1_ := Aside0.mk (blk_kept (zh BK275.out) hkp (fun hs_ => (fun e_ => (Kd.R_ne HO_276000.out BK275.out (by decide)) e_) hs_))
    have n2_ := Aside0.mk (IsS89.kept (zi89 HI0.out) hkp (fun hs_ => (fun e_ => (IsS89.own_ne HI0.out HO_276000.out (by decide)) e_) hs_))
    have n3_ := Aside0.mk (Kd.R_mono (ok' := fun k_ => True) (Kd.R_raise (d := k44) (b := w0.heap.size) (b' := w.heap.size) (fun _ _ _ _ h_ => h_) ho0 (fun k_ e_ => Or.elim (ho0.1 k_ e_) (fun hs_ => (fun e_ => Kd.R_base HO_276000.out k_ e_.symm) hs_) (fun hn_ => Nat.le_trans (keep_size (w := w) (g := g) (row := none) (zq HK.out)) hn_))) (fun k_ hk_ => trivial))
    have n4_ := Aside0.mk (Kept.keepG (zq HK.out) hkp (fun k_ hs_ => (fun e_ => .inr (Kd.R_base HO_276000.out k_ e_.symm)) hs_))
    have n5_ := Aside0.mk (hb)
    clear BK274
    clear BK275
    clear HI0
    clear HK
    clear HB
    clear HO_276000
    have BK274 := n0_
    have BK275 := n1_
    have HI0 := n2_
    have HO286 := n3_
    have HK := n4_
    have HB := n5_
    clear n0_ n1_ n2_ n3_ n4_ n5_
    (try clear hb)
    (try clear hkp)
    (try clear ho0)
    obtain ⟨Ao17, co17, eo17⟩ := Kd.R_slice HO286.out
    (first | subst eo17 | (injection eo17 with f1_ f2_ f3_; have f4_ := f1_.symm; have f5_ := f3_.symm; clear f1_ f2_ f3_; subst f4_; subst f5_))
    refine hK.out _ _ ((blk_cell BK275.out 0).trans rfl) (fun hHeld => ?_)
    clear hK K
    refine norm_ (a' := ?_) ?_ ?_
    rotate_left
    ·show Act.put _ (some 25) _ = _
     simp only [Act.put, List.setIfInBounds_toArray, List.set_cons_zero, List.set_cons_succ, i64_w, i32_w]
     rfl
    refine pure_ (i := 7) (N := some 18) (v := ?_) (a' := ?_) #[true, true, true, true, true, true, true, true, false, false, false] rfl rfl (any_of HT_.out (by kernel_rfl)) (fun _ _ _ h => h) (Or.inl ⟨by rfl, ?_⟩) ?_ ?_
    rotate_left
    ·intro w'
     go_simp
     with_reducible rfl
    rotate_left
    ·simp only [Act.put, List.setIfInBounds_toArray, List.set_cons_zero, List.set_cons_succ, i64_w, i32_w]
     rfl
    refine pure_ (i := 8) (N := some 26) (v := ?_) (a' := ?_) #[true, true, true, true, true, true, true, true, true, false, false] rfl rfl (any_of HT_.out (by kernel_rfl)) (fun _ _ _ h => h) (Or.inl ⟨by rfl, ?_⟩) ?_ ?_
    rotate_left
    ·intro w'
     go_simp
     with_reducible rfl
    rotate_left
    ·simp only [Act.put, List.setIfInBounds_toArray, List.set_cons_zero, List.set_cons_succ, i64_w, i32_w]
     rfl
    refine pure_ (i := 9) (N := some 27) (v := ?_) (a' := ?_) #[true, true, true, true, true, true, true, true, true, true, false] rfl rfl (any_of HT_.out (by kernel_rfl)) (fun _ _ _ h => h) (Or.inl ⟨by rfl, ?_⟩) ?_ ?_
    rotate_left
    ·intro w'
     go_simp
     with_reducible rfl
    rotate_left
    ·simp only [Act.put, List.setIfInBounds_toArray, List.set_cons_zero, List.set_cons_succ, i64_w, i32_w]
     rfl
    refine last_ (i := 10) (N := none) #[true, true, true, true, true, true, true, true, true, true, true] rfl rfl (one_of HT_.out (by kernel_rfl)) (by decide) (fun K hK => ?_)
    have hs18 : w16.cell? ⟨gb275, 0, none⟩ = some (.slice Ao14 x276000_1.length co14) := (blk_cell BK275.out 0).trans rfl
    have hfs18 := blk_frozen BK275.out 0
    have hns18_0 := NB274_275.out
    have hms18_0 := NB275_274.out
    refine skip_ (w1 := ?_) (by rfl) rfl ?_ ?_
    rotate_left
    ·go_simp
     rfl
    refine hK.out _ _ ?_
    clear hK K
    refine done_ (done_of HT_.out (by kernel_rfl)) ?_
    try go_wp2
    go_roundg k1
    case measure => have := HK1.out; omega
    case rel => exact ⟨(wrap64 (x7_1 + 1)), (t282), (t283), (t284), (.slice Ao17 t284.length co17), (by first | rfl | (simp; done) | (simp [*]; done)), H', ⟨by have := HK1.out; omega⟩, ⟨zr (Kd.R_mono (Kd.R_far (p := ⟨gb275, 0, none⟩) (Kd.R_types HO286.out BK275.out (by decide)) (fun _ hk => hk.2) (.slice Ao17 t284.length co17)) (fun _ hk => trivial))⟩, ⟨zf BK274.out⟩, ⟨by (with_reducible repeat (first | refine blk_drewN ?_ _ | refine blk_drew ?_ | refine blk_alloc ?_ _)); refine blk_put (cs := #[.slice Ao14 x276000_1.length co14]) ?_ 0 _ rfl; (with_reducible repeat (first | refine blk_drewN ?_ _ | refine blk_drew ?_ | refine blk_alloc ?_ _)); exact BK275.out⟩, ⟨zi89 HI0.out⟩, ⟨zq HK.out⟩, ⟨zj HB.out (IsS89.ge HI0.out)⟩⟩
   ·rw [if_neg c10] at H
    have c10b0 : decide (x7_1 < t276) = false := decide_eq_false c10
    clear c10
    simp only [Option.some.injEq, Prod.mk.injEq] at H
    obtain ⟨rfl, rfl, rfl⟩ := H
    have hnb19 := NB275_274.out
    have hnc19 := NB274_275.out
    have hnb20 := NB275_0.out
    have hnc20 := NB0_275.out
    have hcz21_0 : wr.cell? ⟨gb275, 0, none⟩ = some (u276000) := (blk_cell BK275.out 0).trans rfl
    have hfz21_0 := blk_frozen BK275.out 0
    obtain ⟨Ao22, co22, eo22⟩ := Kd.R_slice HO_276000.out
    subst eo22
    have hnb23 := NB274_0.out
    have hnc23 := NB0_274.out
    have hcz24_0 : wr.cell? ⟨gb274, 0, none⟩ = some (.slice none 0 0) := (blk_cell BK274.out 0).trans rfl
    have hfz24_0 := blk_frozen BK274.out 0
    go_wp2
    refine bodyPost_ret (results_cell_row rfl _ _ gb274 30 #[.slice Ao22 x276000_1.length co22] (0, 0) _ rfl (by (with_reducible repeat (first | refine blk_drewN ?_ _ | refine blk_drew ?_ | refine blk_alloc ?_ _)); refine blk_put (cs := #[.slice none 0 0]) ?_ 0 _ rfl; (with_reducible repeat (first | refine blk_drewN ?_ _ | refine blk_drew ?_ | refine blk_alloc ?_ _)); exact BK274.out) Try.underlying30 rfl (by kernel_rfl)) rfl ?_
    exact ⟨_, ze, zr (Kd.R_mono (Kd.R_far (p := ⟨gb274, 0, none⟩) (Kd.R_types HO_276000.out BK274.out (by decide)) (fun _ hk => hk.2) (.slice Ao22 x276000_1.length co22)) (fun _ hk => trivial)), zi89 HI0.out, zj HB.out (IsS89.ge HI0.out), zq HK.out⟩

end Go.Proofs.Ytdgahpigcaejbaa.D
end
