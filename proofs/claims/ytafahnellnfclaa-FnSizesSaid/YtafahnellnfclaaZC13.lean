-- Written by this session's program (wip/tools/gprint.py over the kit's print) out of the translation; Lean checks it.
import Derived.Test.YtafahnellnfclaaZC0
import Derived.Test.YtafahnellnfclaaZC3
namespace Go.Proofs.Ytafahnellnfclaa.C
open Go.RowKit Go.Proofs.YtafahnellnfclaaW.PrintWords Go.Proofs.YtafahnellnfclaaW.PrintLast Go.Proofs.YtafahnellnfclaaW.PrintMore
attribute [local go_sem] max2_int min2_int max_two min_two max_three min_three max_four min_four   -- for this text's walks alone
set_option linter.unusedVariables false
set_option linter.unusedSimpArgs false
set_option maxRecDepth 100000

/-! ### impl_TermDeep: function 39 -/
mutual
def impl_TermDeep.j0 : Nat → Int → Bool → List (S34) → Option (Int)
 | 0, _, _, _ => none
 | k + 1, x1, x16, x403000 => if x16 = true then (some 0) else (if 0 ≤ (wrap64 (x1 + 1)) then (if (wrap64 (x1 + 1) : Int).toNat ≤ 35184372088832 then ((some (List.replicate (wrap64 (x1 + 1) : Int).toNat 0 : List Int)).bind fun y405 => (impl_TermDeep.l0 k x1 y405 (y405.length : Int) 0 x403000)) else (none)) else (none))
def impl_TermDeep.l0 : Nat → Int → List Int → Int → Int → List (S34) → Option (Int)
 | 0, _, _, _, _, _ => none
 | k + 1, x1, x5, x21, x22, x403000 => if x22 < x21 then (if 0 ≤ x22 then (if x22 < (x5.length : Int) then ((impl_Pool_parts.f k x403000 x22).bind fun t410 => (impl_TermDeep.l1 k x1 (x5.set (x22 : Int).toNat 1) x22 x21 x22 t410 (t410.length : Int) 0 x403000)) else (none)) else (none)) else (if 0 ≤ x1 then (if x1 < (x5.length : Int) then (some (rd x5 x1)) else (none)) else (none))
def impl_TermDeep.l1 : Nat → Int → List Int → Int → Int → Int → List Int → Int → Int → List (S34) → Option (Int)
 | 0, _, _, _, _, _, _, _, _, _ => none
 | k + 1, x1, x5, x6, x21, x22, x29, x30, x31, x403000 => if x31 < x30 then (if 0 ≤ x31 then (if x31 < (x29.length : Int) then (if 0 ≤ x6 then (if x6 < (x5.length : Int) then (if 0 ≤ (rd x29 x31) then (if (rd x29 x31) < (x5.length : Int) then (impl_TermDeep.l1 k x1 (x5.set (x6 : Int).toNat (mx (rd x5 x6) (wrap64 ((rd x5 (rd x29 x31)) + 1)))) x6 x21 x22 x29 x30 (wrap64 (x31 + 1)) x403000) else (none)) else (none)) else (none)) else (none)) else (none)) else (none)) else (impl_TermDeep.l0 k x1 x5 x21 (wrap64 (x22 + 1)) x403000)
end
def impl_TermDeep.f (k : Nat) (l0_0 : List (S34)) (a1 : Int) : Option (Int) := (impl_Pool_isTerm.f l0_0 a1).bind fun t403 => (if t403 = true then ((impl_PoolOk.f l0_0).bind fun t404 => (impl_TermDeep.j0 k a1 (!t404) l0_0)) else (impl_TermDeep.j0 k a1 true l0_0))
theorem impl_TermDeep.mono_l : ∀ k, (∀ y0 y1 y2, LeO (impl_TermDeep.j0 k y0 y1 y2) (impl_TermDeep.j0 (k + 1) y0 y1 y2)) ∧ (∀ y0 y1 y2 y3 y4, LeO (impl_TermDeep.l0 k y0 y1 y2 y3 y4) (impl_TermDeep.l0 (k + 1) y0 y1 y2 y3 y4)) ∧ (∀ y0 y1 y2 y3 y4 y5 y6 y7 y8, LeO (impl_TermDeep.l1 k y0 y1 y2 y3 y4 y5 y6 y7 y8) (impl_TermDeep.l1 (k + 1) y0 y1 y2 y3 y4 y5 y6 y7 y8))
 | 0 => ⟨fun _ _ _ r h => by simp [impl_TermDeep.j0] at h, fun _ _ _ _ _ r h => by simp [impl_TermDeep.l0] at h, fun _ _ _ _ _ _ _ _ _ r h => by simp [impl_TermDeep.l1] at h⟩
 | k + 1 => by
  obtain ⟨ih0, ih1, ih2⟩ := impl_TermDeep.mono_l k
  refine ⟨?_, ?_, ?_⟩
  ·intro y0 y1 y2
   unfold impl_TermDeep.j0
   repeat' first
   | (with_reducible exact ih0 _ _ _)
   | (with_reducible exact ih1 _ _ _ _ _)
   | (with_reducible exact ih2 _ _ _ _ _ _ _ _ _)
   | (with_reducible exact impl_Pool_parts.mono _ _ _)
   | (with_reducible exact LeO.refl _)
   | (with_reducible exact LeO.none _)
   | (with_reducible refine LeO.ite ?_ ?_)
   | (with_reducible refine LeO.bind ?_ (fun _ => ?_))
   | exact ih0 _ _ _
   | exact ih1 _ _ _ _ _
   | exact ih2 _ _ _ _ _ _ _ _ _
   | exact impl_Pool_parts.mono _ _ _
   | exact LeO.none _
   | refine LeO.ite ?_ ?_
   | refine LeO.bind ?_ (fun _ => ?_)
  ·intro y0 y1 y2 y3 y4
   unfold impl_TermDeep.l0
   repeat' first
   | (with_reducible exact ih0 _ _ _)
   | (with_reducible exact ih1 _ _ _ _ _)
   | (with_reducible exact ih2 _ _ _ _ _ _ _ _ _)
   | (with_reducible exact impl_Pool_parts.mono _ _ _)
   | (with_reducible exact LeO.refl _)
   | (with_reducible exact LeO.none _)
   | (with_reducible refine LeO.ite ?_ ?_)
   | (with_reducible refine LeO.bind ?_ (fun _ => ?_))
   | exact ih0 _ _ _
   | exact ih1 _ _ _ _ _
   | exact ih2 _ _ _ _ _ _ _ _ _
   | exact impl_Pool_parts.mono _ _ _
   | exact LeO.none _
   | refine LeO.ite ?_ ?_
   | refine LeO.bind ?_ (fun _ => ?_)
  ·intro y0 y1 y2 y3 y4 y5 y6 y7 y8
   unfold impl_TermDeep.l1
   repeat' first
   | (with_reducible exact ih0 _ _ _)
   | (with_reducible exact ih1 _ _ _ _ _)
   | (with_reducible exact ih2 _ _ _ _ _ _ _ _ _)
   | (with_reducible exact impl_Pool_parts.mono _ _ _)
   | (with_reducible exact LeO.refl _)
   | (with_reducible exact LeO.none _)
   | (with_reducible refine LeO.ite ?_ ?_)
   | (with_reducible refine LeO.bind ?_ (fun _ => ?_))
   | exact ih0 _ _ _
   | exact ih1 _ _ _ _ _
   | exact ih2 _ _ _ _ _ _ _ _ _
   | exact impl_Pool_parts.mono _ _ _
   | exact LeO.none _
   | refine LeO.ite ?_ ?_
   | refine LeO.bind ?_ (fun _ => ?_)
theorem impl_TermDeep.mono : ∀ a0 a1 k, LeO (impl_TermDeep.f k a0 a1) (impl_TermDeep.f (k + 1) a0 a1) := by
 intro a0 a1 k
 obtain ⟨ih0, ih1, ih2⟩ := impl_TermDeep.mono_l k
 unfold impl_TermDeep.f
 repeat' first
   | (with_reducible exact ih0 _ _ _)
   | (with_reducible exact ih1 _ _ _ _ _)
   | (with_reducible exact ih2 _ _ _ _ _ _ _ _ _)
   | (with_reducible exact impl_Pool_parts.mono _ _ _)
   | (with_reducible exact LeO.refl _)
   | (with_reducible exact LeO.none _)
   | (with_reducible refine LeO.ite ?_ ?_)
   | (with_reducible refine LeO.bind ?_ (fun _ => ?_))
   | exact ih0 _ _ _
   | exact ih1 _ _ _ _ _
   | exact ih2 _ _ _ _ _ _ _ _ _
   | exact impl_Pool_parts.mono _ _ _
   | exact LeO.none _
   | refine LeO.ite ?_ ?_
   | refine LeO.bind ?_ (fun _ => ?_)
def impl_TermDeep.T11 : Bool × List (List Nat × List Nat) := (true, [([], []), ([], []), ([], []), ([], []), ([2, 3], [2, 3]), ([4], [4]), ([], []), ([], []), ([6, 7], [6, 7]), ([8], [8]), ([9], [9]), ([5, 10], [5, 10]), ([0, 1, 0, 1, 2, 3, 4, 5, 6, 7, 8, 9, 10, 11], [0, 1]), ([12, 11, 0, 1, 2, 3, 4, 5, 6, 7, 8, 9, 10, 11], [11, 12])])
def impl_TermDeep.B11 : List Nat := [0, 0, 0, 0, 12, 28, 0, 0, 192, 448, 960, 2044, 4095, 8191]
theorem impl_TermDeep.tab11 : rtab .any (opsOf Try.f39 11) = impl_TermDeep.T11 := by kernel_rfl
theorem impl_TermDeep.bits11 : waitsOk impl_TermDeep.T11.2 impl_TermDeep.B11 = true := by kernel_rfl
set_option maxHeartbeats 8000000 in
set_option maxRecDepth 100000 in
theorem impl_TermDeep.calls (k : Nat) (A0_0 : Option Addr) (c0_0 : Nat) (l0_0 : List (S34)) (a1 : Int) (r : Int) (w : World) (hr0_0 : Kd.C k34 w A0_0 l0_0.length l0_0) (hc0_0 : l0_0.length ≤ c0_0) (h : impl_TermDeep.f k l0_0 a1 = some r) :
  Calls Try.prog 39 #[.agg #[.slice A0_0 l0_0.length c0_0], .int .i64 a1] w fun e w' => e = .returned (.int .i64 r) ∧ Below w.heap.size w w' := by
 have hu30 := Try.underlying30
 have HR0_0 := Aside0.mk hr0_0
 have HC0_0 := Aside0.mk hc0_0
 clear hr0_0 hc0_0
 have HB := Aside0.mk (Below.refl w.heap.size w)
 have H : ((impl_Pool_isTerm.f l0_0 a1).bind fun t403 => (if t403 = true then ((impl_PoolOk.f l0_0).bind fun t404 => (impl_TermDeep.j0 k a1 (!t404) l0_0)) else (impl_TermDeep.j0 k a1 true l0_0))) = some r := h
 clear h
 have HC3 := Aside0.mk H
 clear H
 go_enter Try.func39, Try.ntmps39
 go_upto_region 1 with (first | ((with_reducible refine gate_dst (N := 2) rfl ?_); refine box_event ?hg (N := 2) ?hd (cs := #[.slice A0_0 l0_0.length c0_0]) (t := 30) ?hr ?_; (case hd => rfl); (case hg => rfl); (case hr => first | (go_simp; done) | (go_simp; rfl)); intro gb402 hg w4 hbox hb; have n0_ := Aside0.mk (below_step (zb HB.out) hb); have n1_ := Aside0.mk (hbox); have n2_ := Aside0.mk ((by rw [hg]; exact (below_size (zb HB.out)) : w.heap.size ≤ gb402)); have n3_ := Aside0.mk ((by rw [hg]; exact (below_size (zb HB.out)) : w.heap.size ≤ gb402)); clear HB; have HB := n0_; have BK402 := n1_; have GW402 := n2_; have GE402 := n3_; clear n0_ n1_ n2_ n3_; clear hb hbox hg))
 (try simp only [Act.put, List.setIfInBounds_toArray, List.set_cons_zero, List.set_cons_succ])
 go_cut [16] (fun v16 wc => ∃ (kq : Nat) (x16_2 : Bool), v16 = .bool x16_2 ∧ Aside0 (impl_TermDeep.j0 kq a1 x16_2 l0_0 = some r) ∧ Aside0 (kq ≤ k) ∧ Aside0 (wc.heap[gb402]? = some (.cells #[(.slice A0_0 l0_0.length c0_0)] 30 (0, 0))) ∧ Aside0 (Below w.heap.size w wc))
 case first =>
  have H := HC3.out
  clear HC3
  replace H := Option.bind_eq_some_iff.mp H
  obtain ⟨t403, A50, H⟩ := H
  replace H : (if t403 = true then ((impl_PoolOk.f l0_0).bind fun t404 => (impl_TermDeep.j0 k a1 (!t404) l0_0)) else (impl_TermDeep.j0 k a1 true l0_0)) = some r := H
  have A5 := Aside0.mk A50
  clear A50
  by_cases c6 : t403 = true
  ·subst c6
   have H1 : ((impl_PoolOk.f l0_0).bind fun t404 => (impl_TermDeep.j0 k a1 (!t404) l0_0)) = some r := by rw [if_pos rfl] at H; exact H
   clear H
   have H := H1
   clear H1
   replace H := Option.bind_eq_some_iff.mp H
   obtain ⟨t404, A70, H⟩ := H
   replace H : (impl_TermDeep.j0 k a1 (!t404) l0_0) = some r := H
   have A7 := Aside0.mk A70
   clear A70
   have H' := Aside0.mk H
   clear H
   go_wp2_with (first | ((with_reducible refine gate_callee (f := 68) rfl ?_); refine goesL_ (some 10) rfl rfl Try.func68 (by kernel_rfl) rfl #[.pointer (some ⟨gb402, 0, none⟩), .int .i64 a1] rfl zl ?_; (with_reducible refine (impl_Pool_isTerm.calls _ A0_0 c0_0 l0_0 a1 true _ ?side1 ?side2 ?side3 A5.out).mono ?_); (case side1 => exact zh BK402.out); (case side2 => exact zc (Kd.C_below HR0_0.out HB.out)); (case side3 => exact HC0_0.out); rintro e w8 ⟨rfl, hb⟩; refine ⟨_, rfl, ?_⟩; have n0_ := Aside0.mk (blk_below (zh BK402.out) hb); have n1_ := Aside0.mk (below_step (zb HB.out) hb); clear BK402; clear HB; have BK402 := n0_; have HB := n1_; clear n0_ n1_; (try clear hb); (try clear hb2); (try clear hk); (try clear hi); have hcz9_0 : w8.cell? ⟨gb402, 0, none⟩ = some (.slice A0_0 l0_0.length c0_0) := (blk_cell BK402.out 0).trans rfl; have hfz9_0 := blk_frozen BK402.out 0) | (go_at_call 37; (with_reducible refine (impl_PoolOk.calls _ _ l0_0 t404 _ ?side1 ?side2 A7.out).mono ?_); (case side1 => exact zc (Kd.C_below HR0_0.out HB.out)); (case side2 => exact HC0_0.out); rintro e w10 ⟨rfl, hb⟩; have n0_ := Aside0.mk (blk_below (zh BK402.out) hb); have n1_ := Aside0.mk (below_step (zb HB.out) hb); clear BK402; clear HB; have BK402 := n0_; have HB := n1_; clear n0_ n1_; (try clear hb); (try clear hb2); (try clear hk); (try clear hi)))
   go_meet
   case rel => exact ⟨_, (!t404), (by first | rfl | (simp; done) | (simp [*]; done)), H', ⟨by first | omega | exact Nat.le_refl _⟩, ⟨zh BK402.out⟩, ⟨zb HB.out⟩⟩
  ·replace c6 := Bool.eq_false_iff.mpr c6
   subst c6
   have H1 : (impl_TermDeep.j0 k a1 true l0_0) = some r := by rw [if_neg (show ¬ (false = true) by decide)] at H; exact H
   clear H
   have H := H1
   clear H1
   have H' := Aside0.mk H
   clear H
   go_wp2_with (first | ((with_reducible refine gate_callee (f := 68) rfl ?_); refine goesL_ (some 10) rfl rfl Try.func68 (by kernel_rfl) rfl #[.pointer (some ⟨gb402, 0, none⟩), .int .i64 a1] rfl zl ?_; (with_reducible refine (impl_Pool_isTerm.calls _ A0_0 c0_0 l0_0 a1 false _ ?side1 ?side2 ?side3 A5.out).mono ?_); (case side1 => exact zh BK402.out); (case side2 => exact zc (Kd.C_below HR0_0.out HB.out)); (case side3 => exact HC0_0.out); rintro e w11 ⟨rfl, hb⟩; refine ⟨_, rfl, ?_⟩; have n0_ := Aside0.mk (blk_below (zh BK402.out) hb); have n1_ := Aside0.mk (below_step (zb HB.out) hb); clear BK402; clear HB; have BK402 := n0_; have HB := n1_; clear n0_ n1_; (try clear hb); (try clear hb2); (try clear hk); (try clear hi)))
   go_meet
   case rel => exact ⟨_, (true), (by first | rfl | (simp; done) | (simp [*]; done)), H', ⟨by first | omega | exact Nat.le_refl _⟩, ⟨zh BK402.out⟩, ⟨zb HB.out⟩⟩
 case rest =>
  clear HC3
  try clear p2
  try clear c3
  try clear c6
  try clear hcz9_0
  try clear hfz9_0
  obtain ⟨kq, x16_2, rfl, HA, HJ2, BK402, HB⟩ := hcut
  cases kq with
  | zero => exact absurd HA.out (by simp [impl_TermDeep.j0])
  | succ kj2 =>
   have H := HA.out
   clear HA
   simp only [impl_TermDeep.j0] at H
   by_cases c12 : x16_2 = true
   ·subst c12
    have H1 : (some 0) = some r := by rw [if_pos rfl] at H; exact H
    clear H
    have H := H1
    clear H1
    obtain rfl := Option.some.inj H
    go_wp2
    go_ret
    exact ⟨ze, zb HB.out⟩
   ·replace c12 := Bool.eq_false_iff.mpr c12
    subst c12
    have H1 : (if 0 ≤ (wrap64 (a1 + 1)) then (if (wrap64 (a1 + 1) : Int).toNat ≤ 35184372088832 then ((some (List.replicate (wrap64 (a1 + 1) : Int).toNat 0 : List Int)).bind fun y405 => (impl_TermDeep.l0 kj2 a1 y405 (y405.length : Int) 0 l0_0)) else (none)) else (none)) = some r := by rw [if_neg (show ¬ (false = true) by decide)] at H; exact H
    clear H
    have H := H1
    clear H1
    obtain ⟨ji13, hji13⟩ : ∃ j_ : Int, (wrap64 (a1 + 1)) = j_ := ⟨_, rfl⟩
    replace H : (if 0 ≤ (ji13) then (if (ji13 : Int).toNat ≤ 35184372088832 then ((some (List.replicate (ji13 : Int).toNat 0 : List Int)).bind fun y405 => (impl_TermDeep.l0 kj2 a1 y405 (y405.length : Int) 0 l0_0)) else (none)) else (none)) = some r := by first | (rw [hji13] at H; exact H) | (simp only [hji13] at H ⊢; exact H)
    have hji13w : (IntKind.i64.wrap (a1 + 1)) = ji13 := (i64_w _).trans hji13
    by_cases c14 : 0 ≤ (ji13)
    ·rw [if_pos c14] at H
     have c14b0 := eq_true c14
     have c14b1 : decide (0 ≤ (ji13)) = true := decide_eq_true c14
     clear c14
     by_cases c15 : (ji13 : Int).toNat ≤ 35184372088832
     ·rw [if_pos c15] at H
      have c15b0 := eq_true c15
      have c15b1 : decide ((ji13 : Int).toNat ≤ 35184372088832) = true := decide_eq_true c15
      clear c15
      obtain ⟨y405, hy405⟩ : ∃ y_ : List Int, y_ = (List.replicate (ji13 : Int).toNat 0) := ⟨_, rfl⟩
      replace H : (impl_TermDeep.l0 kj2 a1 y405 (y405.length : Int) 0 l0_0) = some r := by first | (rw [hy405]; with_reducible exact H) | (have H2_ := (Option.bind_some _ _).symm.trans H; rw [hy405]; with_reducible exact H2_) | (have H2_ := (Option.bind_some _ _).symm.trans H; with_reducible exact H2_) | with_reducible exact H | (rw [hy405]; exact H) | exact H
      have Ny405 := Aside0.mk hy405
      clear hy405
      have H' := Aside0.mk H
      clear H
      go_wp2_with (first | ((with_reducible refine gate_dst (N := 19) rfl ?_); refine Kd.R_make (Kd.int .i64) _ 3 rfl (N := 19) rfl 39 _ _ rfl ji13 rfl rfl Try.underlying39 (.int .i64 0) 8 info3 rfl (by decide) (by omega) 0 (ok := fun _ => True) (okp := fun _ => True) rfl (fun _ hk => hk) trivial (of_decide_eq_true (by first | (with_reducible assumption) | assumption)) (Nat.le_trans (Nat.mul_le_mul_right _ (of_decide_eq_true (by first | (with_reducible assumption) | assumption) : ji13.toNat ≤ 35184372088832)) (by omega)) (Below.refl _ _) (Nat.le_refl _) ?_; intro v406 w16 ho17 hb hg_ hnew_; clear hg_ hnew_; (first | rw [← Ny405.out] at ho17 | (simp only [Int.reduceToNat] at ho17; rw [← Ny405.out] at ho17)); have n0_ := Aside0.mk (Kd.R_lower ho17 (below_size (zb HB.out))); have n1_ := Aside0.mk (blk_below (zh BK402.out) hb); have n2_ := Aside0.mk (below_step (zb HB.out) hb); clear BK402; clear HB; have HO407 := n0_; have BK402 := n1_; have HB := n2_; clear n0_ n1_ n2_; clear hb ho17; obtain ⟨Ao18, co18, eo18⟩ := Kd.R_slice HO407.out; subst eo18))
      go_loopg [22] kj2 (fun kq v22 w' => ∃ (x5_2 : List Int) (x22_2 : Int), v22 = .int .i64 x22_2 ∧ Aside0 (impl_TermDeep.l0 kq a1 x5_2 (y405.length : Int) x22_2 l0_0 = some r) ∧ Aside0 (kq ≤ kj2) ∧ Aside0 (Kd.R (Kd.int .i64) 3 w' w.heap.size (fun _ => True) (.slice Ao18 y405.length co18) x5_2) ∧ Aside0 (w'.heap[gb402]? = some (.cells #[(.slice A0_0 l0_0.length c0_0)] 30 (0, 0))) ∧ Aside0 (Below w.heap.size w w'))
      case atStart => exact ⟨(y405), (0), (by first | rfl | (simp; done) | (simp [*]; done)), H', ⟨Nat.le_refl _⟩, ⟨zr HO407.out⟩, ⟨zh BK402.out⟩, ⟨zb HB.out⟩⟩
      case round =>
       clear H'
       try clear c1
       try clear p2
       try clear c3
       try clear c6
       try clear p6
       try clear c12
       try clear c14
       try clear c14b0
       try clear c14b1
       try clear c15
       try clear c15b0
       try clear c15b1
       try clear hcz9_0
       try clear hfz9_0
       try clear p2
       obtain ⟨x5_2, x22_2, rfl, HA, HK2, HO_5, BK402, HB⟩ := hrel
       have hl5_2 := (Kd.R_reads' HO_5.out).1
       rw [hl5_2] at HO_5
       (try simp only [hl5_2])
       (try simp only [hl5_2] at BK402)
       cases gk with
       | zero => exact absurd HA.out (by simp [impl_TermDeep.l0])
       | succ k2 =>
        have H := HA.out
        clear HA
        simp only [impl_TermDeep.l0] at H
        by_cases c19 : x22_2 < (y405.length : Int)
        ·rw [if_pos c19] at H
         have c19b0 : decide (x22_2 < (y405.length : Int)) = true := decide_eq_true c19
         (try (have c19b0h := c19b0; simp only [hl5_2] at c19b0h))
         clear c19
         by_cases c20 : 0 ≤ x22_2
         ·rw [if_pos c20] at H
          have c20b0 : decide (0 ≤ x22_2) = true := decide_eq_true c20
          clear c20
          by_cases c21 : x22_2 < (x5_2.length : Int)
          ·rw [if_pos c21] at H
           have c21b0 : decide (x22_2 < (x5_2.length : Int)) = true := decide_eq_true c21
           (try (have c21b0h := c21b0; simp only [hl5_2] at c21b0h))
           clear c21
           obtain ⟨y409, hy409⟩ : ∃ y_ : List Int, y_ = (x5_2.set (x22_2 : Int).toNat 1) := ⟨_, rfl⟩
           replace H : ((impl_Pool_parts.f k2 l0_0 x22_2).bind fun t410 => (impl_TermDeep.l1 k2 a1 y409 x22_2 (y405.length : Int) x22_2 t410 (t410.length : Int) 0 l0_0)) = some r := by first | (rw [hy409]; with_reducible exact H) | (have H2_ := (Option.bind_some _ _).symm.trans H; rw [hy409]; with_reducible exact H2_) | (have H2_ := (Option.bind_some _ _).symm.trans H; with_reducible exact H2_) | with_reducible exact H | (rw [hy409]; exact H) | exact H
           have Ny409 := Aside0.mk hy409
           clear hy409
           replace H := Option.bind_eq_some_iff.mp H
           obtain ⟨t410, A230, H⟩ := H
           replace H : (impl_TermDeep.l1 k2 a1 y409 x22_2 (y405.length : Int) x22_2 t410 (t410.length : Int) 0 l0_0) = some r := H
           have A23 := Aside0.mk A230
           clear A230
           have H' := Aside0.mk H
           clear H
           have p22 : 0 ≤ (x22_2 : Int) := of_decide_eq_true (by first | (with_reducible assumption) | assumption)
           have q22 : (x22_2 : Int) < ((x5_2.length : Int) : Int) := of_decide_eq_true (by first | (with_reducible assumption) | assumption)
           obtain ⟨go22, co22, eo22, gb22, gl22, cl22, HG22⟩ := Kd.R_form HO_5.out (by omega)
           (first | cases eo22 | (injection eo22 with ea_ en_ ec_; (first | subst ea_ | (injection ea_ with ea_; subst ea_)); subst ec_; clear en_))
           have GB22 := Aside0.mk gb22
           have GG22 := Aside0.mk HG22
           clear gb22 gl22 HG22
           obtain ⟨hx22_0, hf22_0⟩ := Kd.R_celln 0 HO_5.out (x22_2 : Int) p22 q22
           replace p22 := eq_true p22
           replace q22 := eq_true q22
           have HP24 := Kd.R_putg HO_5.out (x22_2 : Int) 1
           go_wp2_with (first | ((with_reducible refine gate_store (t := 3) (p := 27) rfl ?_); refine store_event (t := 3) (p := 27) (v := ?vo_w25) (w1 := (wr.setCell ⟨go22, (x22_2 : Int).toNat, none⟩ (.int .i64 1))) ?hg ?ho ?hn ?hr ?_; (case ho => rfl); (case hg => rfl); (case hn => rfl); (case hr => first | (go_simp; done) | (go_simp; rfl)); intro w25 hw; have hg : wr.grownBy w25 (some go22) := (by rw [hw]; exact HP24.2); have hp_ : Kd.R (Kd.int .i64) 3 w25 w.heap.size (fun _ => True) (.slice (some ⟨go22, 0, none⟩) x5_2.length co18) y409 := (by rw [hw, Ny409.out]; exact HP24.1); clear HP24; have n0_ := Aside0.mk (hp_); have n1_ := Aside0.mk (blk_grown (zh BK402.out) hg (Kd.R_ne HO_5.out BK402.out (by decide))); have n2_ := Aside0.mk ((by rw [hw]; exact below_set (HB.out) GB22.out : Below w.heap.size w w25)); clear HO_5; clear BK402; clear HB; have HO_5 := n0_; have BK402 := n1_; have HB := n2_; clear n0_ n1_ n2_; clear hg hw hp_) | ((with_reducible refine gate_callee (f := 69) rfl ?_); refine goesL_ (some 29) rfl rfl Try.func69 (by kernel_rfl) rfl #[.pointer (some ⟨gb402, 0, none⟩), .int .i64 x22_2] rfl zl ?_; (with_reducible refine (impl_Pool_parts.calls k2 _ A0_0 c0_0 l0_0 x22_2 t410 _ ?side1 ?side2 ?side3 A23.out).mono ?_); (case side1 => exact zh BK402.out); (case side2 => exact zc (Kd.C_below HR0_0.out HB.out)); (case side3 => exact HC0_0.out); rintro e w26 ⟨v411, rfl, ho0, hb⟩; refine ⟨_, rfl, ?_⟩; have n0_ := Aside0.mk (Kd.R_elder' (zr HO_5.out) (Kd.R_base ho0) hb); have n1_ := Aside0.mk (Kd.R_lower (Kd.R_new' ho0 (Kd.R_lt (zr HO_5.out))) (below_size (zb HB.out))); have n2_ := Aside0.mk (blk_below (zh BK402.out) hb); have n3_ := Aside0.mk (below_step (zb HB.out) hb); clear HO_5; clear BK402; clear HB; have HO_5 := n0_; have HO412 := n1_; have BK402 := n2_; have HB := n3_; clear n0_ n1_ n2_ n3_; (try clear hb); (try clear hb2); (try clear hk); (try clear hi); (try clear ho0); obtain ⟨Ao27, co27, eo27⟩ := Kd.R_slice HO412.out; subst eo27))
           go_loopg [31] k2 (fun kq v31 w' => ∃ (x5_3 : List Int) (x31_3 : Int), v31 = .int .i64 x31_3 ∧ Aside0 (impl_TermDeep.l1 kq a1 x5_3 x22_2 (y405.length : Int) x22_2 t410 (t410.length : Int) x31_3 l0_0 = some r) ∧ Aside0 (kq ≤ k2) ∧ Aside0 (Kd.R (Kd.int .i64) 3 w' w.heap.size (fun k_ => some k_ ≠ ((.slice Ao27 t410.length co27) : Value).ownBlock) (.slice (some ⟨go22, 0, none⟩) x5_2.length co18) x5_3) ∧ Aside0 (Kd.R (Kd.int .i64) 3 w' w.heap.size (fun k_ => some k_ ≠ ((.slice (some ⟨go22, 0, none⟩) x5_2.length co18) : Value).ownBlock) (.slice Ao27 t410.length co27) t410) ∧ Aside0 (w'.heap[gb402]? = some (.cells #[(.slice A0_0 l0_0.length c0_0)] 30 (0, 0))) ∧ Aside0 (Below w.heap.size w w'))
           case atStart => exact ⟨(y409), (0), (by first | rfl | (simp; done) | (simp [*]; done)), H', ⟨Nat.le_refl _⟩, ⟨by (try simp only [hl5_2]); (with_reducible repeat (first | apply Kd.R_alloc | apply Kd.R_drewN | apply Kd.R_drew)); exact Kd.R_mono HO_5.out (fun _ hk => hk.2)⟩, ⟨by (try simp only [hl5_2]); (with_reducible repeat (first | apply Kd.R_alloc | apply Kd.R_drewN | apply Kd.R_drew)); exact Kd.R_mono HO412.out (fun _ hk => hk.2)⟩, ⟨by (try simp only [hl5_2]); (with_reducible repeat (first | refine blk_drewN ?_ _ | refine blk_drew ?_ | refine blk_alloc ?_ _)); exact BK402.out⟩, ⟨zb HB.out⟩⟩
           case round =>
            clear H'
            try clear c1
            try clear c2
            try clear p2
            try clear q2
            try clear hx2
            try clear hf2
            try clear c3
            try clear c6
            try clear p6
            try clear c12
            try clear c14
            try clear c14b0
            try clear c14b1
            try clear c15
            try clear c15b0
            try clear c15b1
            try clear c19
            try clear c19b0
            try clear c20
            try clear c20b0
            try clear c21
            try clear c21b0
            try clear p22
            try clear q22
            try clear hx22
            try clear hf22
            try clear hcz9_0
            try clear hfz9_0
            try clear hx22_0
            try clear p2
            try clear p22
            try clear p6
            try clear q22
            obtain ⟨x5_3, x31_3, rfl, HA, HK3, HO_5, HO_29, BK402, HB⟩ := hrel
            have hl5_3 := (Kd.R_reads' HO_5.out).1
            rw [hl5_3] at HO_5
            (try simp only [hl5_3])
            (try simp only [hl5_3] at BK402)
            (try simp only [hl5_3] at HO_29)
            cases gk with
            | zero => exact absurd HA.out (by simp [impl_TermDeep.l1])
            | succ k3 =>
             have H := HA.out
             clear HA
             simp only [impl_TermDeep.l1] at H
             by_cases c28 : x31_3 < (t410.length : Int)
             ·rw [if_pos c28] at H
              have c28b0 : decide (x31_3 < (t410.length : Int)) = true := decide_eq_true c28
              (try (have c28b0h := c28b0; simp only [hl5_2, hl5_3] at c28b0h))
              clear c28
              by_cases c29 : 0 ≤ x31_3
              ·rw [if_pos c29] at H
               have c29b0 : decide (0 ≤ x31_3) = true := decide_eq_true c29
               clear c29
               by_cases c30 : x31_3 < (t410.length : Int)
               ·rw [if_pos c30] at H
                have c30b0 : decide (x31_3 < (t410.length : Int)) = true := decide_eq_true c30
                (try (have c30b0h := c30b0; simp only [hl5_2, hl5_3] at c30b0h))
                clear c30
                by_cases c31 : 0 ≤ x22_2
                ·rw [if_pos c31] at H
                 have c31b0 : decide (0 ≤ x22_2) = true := decide_eq_true c31
                 clear c31
                 by_cases c32 : x22_2 < (x5_3.length : Int)
                 ·rw [if_pos c32] at H
                  have c32b0 : decide (x22_2 < (x5_3.length : Int)) = true := decide_eq_true c32
                  (try (have c32b0h := c32b0; simp only [hl5_2, hl5_3] at c32b0h))
                  clear c32
                  by_cases c33 : 0 ≤ (rd t410 x31_3)
                  ·rw [if_pos c33] at H
                   have c33b0 : decide (0 ≤ (rd t410 x31_3)) = true := decide_eq_true c33
                   clear c33
                   by_cases c34 : (rd t410 x31_3) < (x5_3.length : Int)
                   ·rw [if_pos c34] at H
                    have c34b0 : decide ((rd t410 x31_3) < (x5_3.length : Int)) = true := decide_eq_true c34
                    (try (have c34b0h := c34b0; simp only [hl5_2, hl5_3] at c34b0h))
                    clear c34
                    obtain ⟨ji35, hji35⟩ : ∃ j_ : Int, (mx (rd x5_3 x22_2) (wrap64 ((rd x5_3 (rd t410 x31_3)) + 1))) = j_ := ⟨_, rfl⟩
                    replace H : (impl_TermDeep.l1 k3 a1 (x5_3.set (x22_2 : Int).toNat (ji35)) x22_2 (y405.length : Int) x22_2 t410 (t410.length : Int) (wrap64 (x31_3 + 1)) l0_0) = some r := by first | (rw [hji35] at H; exact H) | (simp only [hji35] at H ⊢; exact H)
                    have hji35_ : (if (rd x5_3 x22_2) < (wrap64 ((rd x5_3 (rd t410 x31_3)) + 1)) then (wrap64 ((rd x5_3 (rd t410 x31_3)) + 1)) else (rd x5_3 x22_2)) = ji35 := hji35
                    obtain ⟨y416, hy416⟩ : ∃ y_ : List Int, y_ = (x5_3.set (x22_2 : Int).toNat (ji35)) := ⟨_, rfl⟩
                    replace H : (impl_TermDeep.l1 k3 a1 y416 x22_2 (y405.length : Int) x22_2 t410 (t410.length : Int) (wrap64 (x31_3 + 1)) l0_0) = some r := by first | (rw [hy416]; with_reducible exact H) | (have H2_ := (Option.bind_some _ _).symm.trans H; rw [hy416]; with_reducible exact H2_) | (have H2_ := (Option.bind_some _ _).symm.trans H; with_reducible exact H2_) | with_reducible exact H | (rw [hy416]; exact H) | exact H
                    have Ny416 := Aside0.mk hy416
                    clear hy416
                    have H' := Aside0.mk H
                    clear H
                    have p413 : 0 ≤ (x31_3 : Int) := of_decide_eq_true (by first | (with_reducible assumption) | assumption)
                    have q413 : x31_3 < (t410.length : Int) := of_decide_eq_true (by first | (with_reducible assumption) | assumption)
                    obtain ⟨ad413, e413, hx413_0⟩ := Kd.at_int (Kd.R_reads' HO_29.out).2.2 x31_3 p413 q413
                    cases e413
                    replace p413 := eq_true p413
                    replace q413 := eq_true q413
                    try go_wp2
                    have n0_ := Aside0.mk (Kd.R_drew HO_5.out)
                    have n1_ := Aside0.mk (Kd.R_drew HO_29.out)
                    have n2_ := Aside0.mk (blk_drew BK402.out)
                    have n3_ := Aside0.mk (below_drew1 HB.out)
                    clear HO_5
                    clear HO_29
                    clear BK402
                    clear HB
                    have HO_5 := n0_
                    have HO_29 := n1_
                    have BK402 := n2_
                    have HB := n3_
                    clear n0_ n1_ n2_ n3_
                    have p414 : 0 ≤ (x22_2 : Int) := of_decide_eq_true (by first | (with_reducible assumption) | assumption)
                    have q414 : x22_2 < (x5_3.length : Int) := of_decide_eq_true (by first | (with_reducible assumption) | assumption)
                    obtain ⟨ad414, e414, hx414_0⟩ := Kd.at_int (Kd.R_reads' HO_5.out).2.2 x22_2 p414 q414
                    obtain rfl : (⟨go22, 0, none⟩ : Addr) = ad414 := (by injection e414)
                    (first | simp only [add_plain] at hx414_0 | simp only [add_at] at hx414_0 | simp only [Addr.add, Nat.zero_add] at hx414_0 | skip)
                    replace p414 := eq_true p414
                    replace q414 := eq_true q414
                    have p415 : 0 ≤ ((rd t410 x31_3) : Int) := of_decide_eq_true (by first | (with_reducible assumption) | assumption)
                    have q415 : (rd t410 x31_3) < (x5_3.length : Int) := of_decide_eq_true (by first | (with_reducible assumption) | assumption)
                    obtain ⟨ad415, e415, hx415_0⟩ := Kd.at_int (Kd.R_reads' HO_5.out).2.2 (rd t410 x31_3) p415 q415
                    obtain rfl : (⟨go22, 0, none⟩ : Addr) = ad415 := (by injection e415)
                    (first | simp only [add_plain] at hx415_0 | simp only [add_at] at hx415_0 | simp only [Addr.add, Nat.zero_add] at hx415_0 | skip)
                    replace p415 := eq_true p415
                    replace q415 := eq_true q415
                    have p36 : 0 ≤ (x22_2 : Int) := of_decide_eq_true (by first | (with_reducible assumption) | assumption)
                    have q36 : (x22_2 : Int) < ((x5_3.length : Int) : Int) := of_decide_eq_true (by first | (with_reducible assumption) | assumption)
                    obtain ⟨hx36_0, hf36_0⟩ := Kd.R_celln 0 HO_5.out (x22_2 : Int) p36 q36
                    replace p36 := eq_true p36
                    replace q36 := eq_true q36
                    have HP38 := Kd.R_putn HO_5.out (x22_2 : Int) ji35
                    rw [← Ny416.out] at HP38
                    have HQ38 := Aside0.mk HP38
                    clear HP38
                    refine start_ (n := 14) (S := fun w' => w'.cell? ⟨go22, (x22_2).toNat, none⟩ = some (.int .i64 (rd x5_3 x22_2)) ∧ w'.cell? ⟨go22, ((rd t410 x31_3)).toNat, none⟩ = some (.int .i64 (rd x5_3 (rd t410 x31_3)))) (ds := [13]) #[false, false, false, false, false, false, false, false, false, false, false, false, false, false] (by kernel_rfl) rfl rfl ⟨hx414_0, hx415_0⟩ (fun hHeld => ?_); refine with_tabW impl_TermDeep.tab11 impl_TermDeep.bits11 (fun HT_ HW_ => ?_)
                    generalize wr.drew = w37 at HO_5 HO_29 BK402 HB HQ38 hf36_0 hx36_0 hx414_0 hx415_0 hHeld ⊢
                    refine pure_ (i := 0) (N := some 35) (v := ?_) (a' := ?_) #[true, false, false, false, false, false, false, false, false, false, false, false, false, false] rfl rfl (any_of HT_.out (by kernel_rfl)) (fun _ _ _ h => h) (Or.inl ⟨by rfl, ?_⟩) ?_ ?_
                    rotate_left
                    ·intro w'
                     go_simp
                     with_reducible rfl
                    rotate_left
                    ·simp only [Act.put, List.setIfInBounds_toArray, List.set_cons_zero, List.set_cons_succ, i64_w, i32_w]
                     rfl
                    refine pure_ (i := 1) (N := some 36) (v := ?_) (a' := ?_) #[true, true, false, false, false, false, false, false, false, false, false, false, false, false] rfl rfl (any_of HT_.out (by kernel_rfl)) (fun _ _ _ h => h) (Or.inl ⟨by rfl, ?_⟩) ?_ ?_
                    rotate_left
                    ·intro w'
                     go_simp
                     with_reducible rfl
                    rotate_left
                    ·simp only [Act.put, List.setIfInBounds_toArray, List.set_cons_zero, List.set_cons_succ, i64_w, i32_w]
                     rfl
                    refine pure_ (i := 2) (N := some 37) (v := ?_) (a' := ?_) #[true, true, true, false, false, false, false, false, false, false, false, false, false, false] rfl rfl (any_of HT_.out (by kernel_rfl)) (fun _ _ _ h => h) (Or.inl ⟨by rfl, ?_⟩) ?_ ?_
                    rotate_left
                    ·intro w'
                     go_simp
                     with_reducible rfl
                    rotate_left
                    ·simp only [Act.put, List.setIfInBounds_toArray, List.set_cons_zero, List.set_cons_succ, i64_w, i32_w]
                     rfl
                    refine pure_ (i := 3) (N := some 38) (v := ?_) (a' := ?_) #[true, true, true, true, false, false, false, false, false, false, false, false, false, false] rfl rfl (any_of HT_.out (by kernel_rfl)) (fun _ _ _ h => h) (Or.inl ⟨by rfl, ?_⟩) ?_ ?_
                    rotate_left
                    ·intro w'
                     go_simp
                     with_reducible rfl
                    rotate_left
                    ·simp only [Act.put, List.setIfInBounds_toArray, List.set_cons_zero, List.set_cons_succ, i64_w, i32_w]
                     rfl
                    refine pure_ (i := 4) (N := some 39) (v := ?_) (a' := ?_) #[true, true, true, true, true, false, false, false, false, false, false, false, false, false] rfl rfl (any_of HT_.out (by kernel_rfl)) (fun _ _ _ h => h) (Or.inl ⟨by rfl, ?_⟩) ?_ ?_
                    rotate_left
                    ·intro w'
                     go_simp
                     with_reducible rfl
                    rotate_left
                    ·simp only [Act.put, List.setIfInBounds_toArray, List.set_cons_zero, List.set_cons_succ, i64_w, i32_w]
                     rfl
                    refine pure_ (i := 6) (N := some 41) (v := ?_) (a' := ?_) #[true, true, true, true, true, false, true, false, false, false, false, false, false, false] rfl rfl (any_of HT_.out (by kernel_rfl)) (fun _ _ _ h => h) (Or.inl ⟨by rfl, ?_⟩) ?_ ?_
                    rotate_left
                    ·intro w'
                     go_simp
                     with_reducible rfl
                    rotate_left
                    ·simp only [Act.put, List.setIfInBounds_toArray, List.set_cons_zero, List.set_cons_succ, i64_w, i32_w]
                     rfl
                    refine pure_ (i := 7) (N := some 42) (v := ?_) (a' := ?_) #[true, true, true, true, true, false, true, true, false, false, false, false, false, false] rfl rfl (any_of HT_.out (by kernel_rfl)) (fun _ _ _ h => h) (Or.inl ⟨by rfl, ?_⟩) ?_ ?_
                    rotate_left
                    ·intro w'
                     go_simp
                     with_reducible rfl
                    rotate_left
                    ·simp only [Act.put, List.setIfInBounds_toArray, List.set_cons_zero, List.set_cons_succ, i64_w, i32_w]
                     rfl
                    refine pure_ (i := 8) (N := some 43) (v := ?_) (a' := ?_) #[true, true, true, true, true, false, true, true, true, false, false, false, false, false] rfl rfl (any_of HT_.out (by kernel_rfl)) (fun _ _ _ h => h) (Or.inl ⟨by rfl, ?_⟩) ?_ ?_
                    rotate_left
                    ·intro w'
                     go_simp
                     with_reducible rfl
                    rotate_left
                    ·simp only [Act.put, List.setIfInBounds_toArray, List.set_cons_zero, List.set_cons_succ, i64_w, i32_w]
                     rfl
                    refine take_ (i := 5) (N := some 40) (v := ?_) (a' := ?_) #[true, true, true, true, true, true, true, true, true, false, false, false, false, false] rfl rfl (take_ofW HT_.out HW_.out (by kernel_rfl)) (fun _ _ _ h => h) (Or.inl ⟨by rfl, ?_⟩) hHeld ?_ ?_
                    rotate_left
                    ·rintro w' ⟨s0, s1⟩
                     go_simp
                     with_reducible rfl
                    rotate_left
                    ·simp only [Act.put, List.setIfInBounds_toArray, List.set_cons_zero, List.set_cons_succ, i64_w, i32_w]
                     rfl
                    refine take_ (i := 9) (N := some 44) (v := ?_) (a' := ?_) #[true, true, true, true, true, true, true, true, true, true, false, false, false, false] rfl rfl (take_ofW HT_.out HW_.out (by kernel_rfl)) (fun _ _ _ h => h) (Or.inl ⟨by rfl, ?_⟩) hHeld ?_ ?_
                    rotate_left
                    ·rintro w' ⟨s0, s1⟩
                     go_simp
                     with_reducible rfl
                    rotate_left
                    ·simp only [Act.put, List.setIfInBounds_toArray, List.set_cons_zero, List.set_cons_succ, i64_w, i32_w]
                     rfl
                    refine pure_ (i := 10) (N := some 45) (v := ?_) (a' := ?_) #[true, true, true, true, true, true, true, true, true, true, true, false, false, false] rfl rfl (any_of HT_.out (by kernel_rfl)) (fun _ _ _ h => h) (Or.inl ⟨by rfl, ?_⟩) ?_ ?_
                    rotate_left
                    ·intro w'
                     go_simp
                     with_reducible rfl
                    rotate_left
                    ·simp only [Act.put, List.setIfInBounds_toArray, List.set_cons_zero, List.set_cons_succ, i64_w, i32_w]
                     rfl
                    refine pure_ (i := 11) (N := some 46) (v := ?_) (a' := ?_) #[true, true, true, true, true, true, true, true, true, true, true, true, false, false] rfl rfl (any_of HT_.out (by kernel_rfl)) (fun _ _ _ h => h) (Or.inl ⟨by rfl, ?_⟩) ?_ ?_
                    rotate_left
                    ·intro w'
                     go_simp
                     with_reducible rfl
                    rotate_left
                    ·simp only [Act.put, List.setIfInBounds_toArray, List.set_cons_zero, List.set_cons_succ, i64_w, i32_w]
                     rfl
                    refine pure_ (i := 12) (N := some 47) (v := ?_) (a' := ?_) #[true, true, true, true, true, true, true, true, true, true, true, true, true, false] rfl rfl (any_of HT_.out (by kernel_rfl)) (fun _ _ _ h => h) (Or.inl ⟨by rfl, ?_⟩) ?_ ?_
                    rotate_left
                    ·intro w'
                     go_simp
                     with_reducible rfl
                    rotate_left
                    ·simp only [Act.put, List.setIfInBounds_toArray, List.set_cons_zero, List.set_cons_succ, i64_w, i32_w]
                     rfl
                    refine last_ (i := 13) (N := none) #[true, true, true, true, true, true, true, true, true, true, true, true, true, true] rfl rfl (one_of HT_.out (by kernel_rfl)) (by decide) (fun K hK => ?_)
                    refine skip_ (w1 := ?_) (by rfl) rfl ?_ ?_
                    rotate_left
                    ·go_simp
                     rfl
                    refine hK.out _ _ ?_
                    clear hK K
                    refine done_ (done_of HT_.out (by kernel_rfl)) ?_
                    try go_wp2
                    (try simp only [← hl5_3])
                    go_roundg k3
                    case measure => have := HJ2.out; have := HK2.out; have := HK3.out; omega
                    case rel => exact ⟨(y416), (wrap64 (x31_3 + 1)), (by first | rfl | (simp; done) | (simp [*]; done)), H', ⟨by have := HJ2.out; have := HK2.out; have := HK3.out; omega⟩, ⟨by (try simp only [hl5_2]); (try simp only [hl5_3]); (with_reducible repeat (first | apply Kd.R_alloc | apply Kd.R_drewN | apply Kd.R_drew)); exact HQ38.out⟩, ⟨by (try simp only [hl5_2]); (try simp only [hl5_3]); (with_reducible repeat (first | apply Kd.R_alloc | apply Kd.R_drewN | apply Kd.R_drew)); exact Kd.R_mono (Kd.R_far (p := ⟨go22, (x22_2 : Int).toNat, none⟩) (Kd.R_mono HO_29.out (fun k_ hk => (⟨hk, fun e_ => hk (by rw [e_]; rfl)⟩ : _ ∧ k_ ≠ go22))) (fun _ hk => hk.2) (.int .i64 ji35)) (fun _ hk => hk.1)⟩, ⟨by (try simp only [hl5_2]); (try simp only [hl5_3]); (with_reducible repeat (first | refine blk_drewN ?_ _ | refine blk_drew ?_ | refine blk_alloc ?_ _)); refine blk_far ?_ (by have h_ := Kd.R_ne HO_5.out BK402.out (by decide); intro e_; exact h_ (by rw [e_]; rfl)) _; (with_reducible repeat (first | refine blk_drewN ?_ _ | refine blk_drew ?_ | refine blk_alloc ?_ _)); exact BK402.out⟩, ⟨zb HB.out⟩⟩
                   ·rw [if_neg c34] at H
                    exact absurd H (by simp)
                  ·rw [if_neg c33] at H
                   exact absurd H (by simp)
                 ·rw [if_neg c32] at H
                  exact absurd H (by simp)
                ·rw [if_neg c31] at H
                 exact absurd H (by simp)
               ·rw [if_neg c30] at H
                exact absurd H (by simp)
              ·rw [if_neg c29] at H
               exact absurd H (by simp)
             ·rw [if_neg c28] at H
              have c28b0 : decide (x31_3 < (t410.length : Int)) = false := decide_eq_false c28
              (try (have c28b0h := c28b0; simp only [hl5_2, hl5_3] at c28b0h))
              clear c28
              have H' := Aside0.mk H
              clear H
              go_wp2
              (try simp only [← hl5_2, ← hl5_3])
              go_roundg k3
              case measure => have := HJ2.out; have := HK2.out; have := HK3.out; omega
              case rel => exact ⟨(x5_3), (wrap64 (x22_2 + 1)), (by first | rfl | (simp; done) | (simp [*]; done)), H', ⟨by have := HJ2.out; have := HK2.out; have := HK3.out; omega⟩, ⟨by (try simp only [hl5_2]); (try simp only [hl5_3]); (with_reducible repeat (first | apply Kd.R_alloc | apply Kd.R_drewN | apply Kd.R_drew)); exact Kd.R_mono HO_5.out (fun _ hk => trivial)⟩, ⟨by (try simp only [hl5_2]); (try simp only [hl5_3]); (with_reducible repeat (first | refine blk_drewN ?_ _ | refine blk_drew ?_ | refine blk_alloc ?_ _)); exact BK402.out⟩, ⟨zb HB.out⟩⟩
          ·rw [if_neg c21] at H
           exact absurd H (by simp)
         ·rw [if_neg c20] at H
          exact absurd H (by simp)
        ·rw [if_neg c19] at H
         have c19b0 : decide (x22_2 < (y405.length : Int)) = false := decide_eq_false c19
         (try (have c19b0h := c19b0; simp only [hl5_2] at c19b0h))
         clear c19
         by_cases c39 : 0 ≤ a1
         ·rw [if_pos c39] at H
          have c39b0 : decide (0 ≤ a1) = true := decide_eq_true c39
          clear c39
          by_cases c40 : a1 < (x5_2.length : Int)
          ·rw [if_pos c40] at H
           have c40b0 : decide (a1 < (x5_2.length : Int)) = true := decide_eq_true c40
           (try (have c40b0h := c40b0; simp only [hl5_2] at c40b0h))
           clear c40
           obtain rfl := Option.some.inj H
           have p408 : 0 ≤ (a1 : Int) := of_decide_eq_true (by first | (with_reducible assumption) | assumption)
           have q408 : a1 < (x5_2.length : Int) := of_decide_eq_true (by first | (with_reducible assumption) | assumption)
           obtain ⟨ad408, e408, hx408_0⟩ := Kd.at_int (Kd.R_reads' HO_5.out).2.2 a1 p408 q408
           cases e408
           replace p408 := eq_true p408
           replace q408 := eq_true q408
           go_wp2
           go_ret
           exact ⟨by first | rfl | (simp [errW_none, errW_some] <;> rfl) | (simp only [← hji13]; first | rfl | (simp [errW_none, errW_some] <;> rfl)) | (simp [*, errW_none, errW_some] <;> rfl), zb HB.out⟩
          ·rw [if_neg c40] at H
           exact absurd H (by simp)
         ·rw [if_neg c39] at H
          exact absurd H (by simp)
     ·rw [if_neg c15] at H
      exact absurd H (by simp)
    ·rw [if_neg c14] at H
     exact absurd H (by simp)

end Go.Proofs.Ytafahnellnfclaa.C
