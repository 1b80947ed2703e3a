import Derived.Test.YtdgahpigcaejbaaXD0
import Derived.Test.YtdgahpigcaejbaaXDg0
import Derived.Test.YtdgahpigcaejbaaXDg1
import Derived.Test.YtdgahpigcaejbaaXDg5
import Derived.Test.YtdgahpigcaejbaaXDg6
section
-- Written by this session's program (wip/tools/gprint.py over the kit's print) out of the translation; Lean checks it.
namespace Go.Proofs.Ytdgahpigcaejbaa.D
open Go.RowKit Go.Proofs.YtdgahpigcaejbaaW.PrintWords Go.Proofs.YtdgahpigcaejbaaW.PrintLast Go.Proofs.YtdgahpigcaejbaaW.PrintMore
attribute [local go_sem] max2_int min2_int max_two min_two max_three min_three max_four min_four   -- for this text's walks alone
set_option linter.unusedVariables false
set_option linter.unusedSimpArgs false
set_option maxRecDepth 100000

attribute [local go_sem high] eqA44
/-! ### spec_l8All: function 63 -/
def spec_l8All.l0 : Nat → List Int → Int → List (S44) → Option (List Int × Int)
 | 0, _, _, _ => none
 | k + 1, x6, x7, x525000 => (spec_l8Once.f k x525000 x6).bind fun bt531 => (if bt531.2 = true then (if (bt531.1.length : Int) = (x6.length : Int) then (some (x6, x7)) else (spec_l8All.l0 k bt531.1 (wrap64 (x7 + 1)) x525000)) else (some (x6, x7)))
def spec_l8All.f (k : Nat) (l0_0 : List (S44)) (l1 : List Int) : Option (List Int × Int) := (some (([] : List Int) : List Int)).bind fun y525 => (if y525.length + l1.length < 17592186044416 then (spec_l8All.l0 k (y525 ++ l1) 0 l0_0) else (none))
theorem spec_l8All.mono_l : ∀ k, (∀ y0 y1 y2, LeO (spec_l8All.l0 k y0 y1 y2) (spec_l8All.l0 (k + 1) y0 y1 y2))
 | 0 => fun _ _ _ r h => by simp [spec_l8All.l0] at h
 | k + 1 => by
  have ih0 := spec_l8All.mono_l k
  ·intro y0 y1 y2
   unfold spec_l8All.l0
   repeat' first
   | (with_reducible exact ih0 _ _ _)
   | (with_reducible exact spec_l8Once.mono _ _ _)
   | (with_reducible exact LeO.refl _)
   | (with_reducible exact LeO.none _)
   | (with_reducible refine LeO.ite ?_ ?_)
   | (with_reducible refine LeO.bind ?_ (fun _ => ?_))
   | exact ih0 _ _ _
   | exact spec_l8Once.mono _ _ _
   | exact LeO.none _
   | refine LeO.ite ?_ ?_
   | refine LeO.bind ?_ (fun _ => ?_)
theorem spec_l8All.mono : ∀ a0 a1 k, LeO (spec_l8All.f k a0 a1) (spec_l8All.f (k + 1) a0 a1) := by
 intro a0 a1 k
 have ih0 := spec_l8All.mono_l k
 unfold spec_l8All.f
 repeat' first
   | (with_reducible exact ih0 _ _ _)
   | (with_reducible exact spec_l8Once.mono _ _ _)
   | (with_reducible exact LeO.refl _)
   | (with_reducible exact LeO.none _)
   | (with_reducible refine LeO.ite ?_ ?_)
   | (with_reducible refine LeO.bind ?_ (fun _ => ?_))
   | exact ih0 _ _ _
   | exact spec_l8Once.mono _ _ _
   | exact LeO.none _
   | refine LeO.ite ?_ ?_
   | refine LeO.bind ?_ (fun _ => ?_)
set_option maxHeartbeats 8000000 in
set_option maxRecDepth 100000 in
theorem spec_l8All.calls (k : Nat) (A0_0 : Option Addr) (c0_0 : Nat) (l0_0 : List (S44)) (A1 : Option Addr) (c1 : Nat) (l1 : List Int) (r1 : List Int) (r2 : Int) (w : World) (hr0_0 : Kd.C k44 w A0_0 l0_0.length l0_0) (hc0_0 : l0_0.length ≤ c0_0) (hr1 : Kd.C (Kd.int .i64) w A1 l1.length l1) (hc1 : l1.length ≤ c1) (h : spec_l8All.f k l0_0 l1 = some (r1, r2)) :
  Calls Try.prog 63 #[.agg #[.slice A0_0 l0_0.length c0_0], .slice A1 l1.length c1] w fun e w' => ∃ v0_ : Value, e = .returned (.tuple #[v0_, .int .i64 r2]) ∧ Kd.R (Kd.int .i64) 3 w' w.heap.size (fun _ => True) v0_ r1 ∧ Below w.heap.size w w' := by
 have hu30 := Try.underlying30
 have HR0_0 := Aside0.mk hr0_0
 have HC0_0 := Aside0.mk hc0_0
 clear hr0_0 hc0_0
 have HR1 := Aside0.mk hr1
 have HC1 := Aside0.mk hc1
 clear hr1 hc1
 have HB := Aside0.mk (Below.refl w.heap.size w)
 have H : ((some (([] : List Int) : List Int)).bind fun y525 => (if y525.length + l1.length < 17592186044416 then (spec_l8All.l0 k (y525 ++ l1) 0 l0_0) else (none))) = some (r1, r2) := h
 clear h
 obtain ⟨y525, hy525⟩ : ∃ y_ : List Int, y_ = (([] : List Int)) := ⟨_, rfl⟩
 replace H : (if y525.length + l1.length < 17592186044416 then (spec_l8All.l0 k (y525 ++ l1) 0 l0_0) else (none)) = some (r1, r2) := by first | (rw [hy525]; with_reducible exact H) | (have H2_ := (Option.bind_some _ _).symm.trans H; rw [hy525]; with_reducible exact H2_) | (have H2_ := (Option.bind_some _ _).symm.trans H; with_reducible exact H2_) | with_reducible exact H | (rw [hy525]; exact H) | exact H
 have Ny525 := Aside0.mk hy525
 clear hy525
 by_cases c3 : y525.length + l1.length < 17592186044416
 ·rw [if_pos c3] at H
  have LMc3 := Aside0.mk c3
  clear c3
  obtain ⟨y528, hy528⟩ : ∃ y_ : List Int, y_ = (y525 ++ l1) := ⟨_, rfl⟩
  replace H : (spec_l8All.l0 k y528 0 l0_0) = some (r1, r2) := by first | (rw [hy528]; with_reducible exact H) | (have H2_ := (Option.bind_some _ _).symm.trans H; rw [hy528]; with_reducible exact H2_) | (have H2_ := (Option.bind_some _ _).symm.trans H; with_reducible exact H2_) | with_reducible exact H | (rw [hy528]; exact H) | exact H
  have Ny528 := Aside0.mk hy528
  clear hy528
  have H' := Aside0.mk H
  clear H
  go_enter Try.func63, Try.ntmps63
  go_wp2_with (first | ((with_reducible refine gate_dst (N := 2) rfl ?_); (try (refine gate_guard (by rfl) ?_; dsimp only)); refine box_event ?hg (N := 2) ?hd (cs := #[.slice A0_0 l0_0.length c0_0]) (t := 30) ?hr ?_; (case hd => rfl); (case hg => rfl); (case hr => first | (go_simp; done) | (go_simp; rfl)); intro gb524 hg w4 hbox hb; have n0_ := Aside0.mk (below_step (zb HB.out) hb); have n1_ := Aside0.mk (hbox); have n2_ := Aside0.mk ((by rw [hg]; exact (below_size (zb HB.out)) : w.heap.size ≤ gb524)); have n3_ := Aside0.mk ((by rw [hg]; exact (below_size (zb HB.out)) : w.heap.size ≤ gb524)); clear HB; have HB := n0_; have BK524 := n1_; have GW524 := n2_; have GE524 := n3_; clear n0_ n1_ n2_ n3_; clear hb hbox hg) | ((with_reducible refine gate_dst (N := 10) rfl ?_); (try (refine gate_guard (by rfl) ?_; dsimp only)); refine Kd.R_lit (Kd.int .i64) _ 3 ?hg (N := 10) ?hd (xs := ([] : List Int)) (inner := []) (ok := fun _ => True) (okp := fun _ => True) ?hr ?hp (fun _ hk => hk) trivial (Below.refl _ _) (Nat.le_refl _) (by simp) ?_; (case hd => rfl); (case hg => rfl); (case hr => first | (go_simp; done) | (go_simp; rfl)); (case hp => exact (Reps.none _ _)); intro v526 w5 ho6 hb hg_ hnew_; clear hg_ hnew_; (first | rw [← Ny525.out] at ho6 | (simp only [Int.reduceToNat] at ho6; rw [← Ny525.out] at ho6)); have n0_ := Aside0.mk (Kd.R_lower ho6 (below_size (zb HB.out))); have n1_ := Aside0.mk (blk_below (zh BK524.out) hb); have n2_ := Aside0.mk (below_step (zb HB.out) hb); clear BK524; clear HB; have HO527 := n0_; have BK524 := n1_; have HB := n2_; clear n0_ n1_ n2_; clear hb ho6) | ((with_reducible refine gate_builtin (b := .append) (xs := #[.tmp 10, .tmp 11]) rfl ?_); (try (refine gate_guard (by rfl) ?_; dsimp only)); at_builtin; refine Kd.R_append_rows (Kd.int .i64) (w0 := w) w.heap.size rfl (.tmp 10) (.tmp 11) 26 3 (.int .i64 0) 8 rfl Try.underlying26 info3 rfl (by decide) (by omega) v526 y525 l1 _ _ _ (fun _ => True) (fun _ => False) rfl rfl ?aO ?aR (fun _ _ h => h) (fun _ h => h.elim) ?aF ?aB ?aS ?aL ?_; (case aR => exact zc (Kd.C_below HR1.out HB.out)); (case aB => exact (zb HB.out)); (case aF => exact (fun _ _ => trivial)); (case aO => exact (zr HO527.out)); (case aS => exact (below_size (zb HB.out))); (case aL => have := LMc3.out; omega); intro v529 w7 ho hb hg hat; rw [← Ny528.out] at ho; have n0_ := Aside0.mk (blk_grown (zh BK524.out) hg (Kd.R_ne HO527.out BK524.out (by decide))); have n1_ := Aside0.mk (hb); have n2_ := Aside0.mk (ho); clear BK524; clear HB; clear HO527; have BK524 := n0_; have HB := n1_; have HO530 := n2_; clear n0_ n1_ n2_; clear ho hb hg hat))
  go_loopg [6, 7] k (fun kq v6 v7 w' => ∃ (x6_1 : List Int) (x7_1 : Int), v7 = .int .i64 x7_1 ∧ Aside0 (spec_l8All.l0 kq x6_1 x7_1 l0_0 = some (r1, r2)) ∧ Aside0 (kq ≤ k) ∧ Aside0 (Kd.R (Kd.int .i64) 3 w' w.heap.size (fun _ => True) v6 x6_1) ∧ Aside0 (w'.heap[gb524]? = some (.cells #[(.slice A0_0 l0_0.length c0_0)] 30 (0, 0))) ∧ Aside0 (Below w.heap.size w w'))
  case atStart => exact ⟨(y528), (0), (by first | rfl | (simp; done) | (simp [*]; done)), H', ⟨Nat.le_refl _⟩, ⟨zr HO530.out⟩, ⟨zh BK524.out⟩, ⟨zb HB.out⟩⟩
  case round =>
   clear H'
   try clear c1
   try clear p2
   try clear c3
   try clear c6
   obtain ⟨x6_1, x7_1, rfl, HA, HK1, HO_6, BK524, HB⟩ := hrel
   cases gk with
   | zero => exact absurd HA.out (by simp [spec_l8All.l0])
   | succ k1 =>
    have H := HA.out
    clear HA
    simp only [spec_l8All.l0] at H
    replace H := Option.bind_eq_some_iff.mp H
    obtain ⟨⟨t531, t534⟩, A80, H⟩ := H
    replace H : (if t534 = true then (if (t531.length : Int) = (x6_1.length : Int) then (some (x6_1, x7_1)) else (spec_l8All.l0 k1 t531 (wrap64 (x7_1 + 1)) l0_0)) else (some (x6_1, x7_1))) = some (r1, r2) := H
    have A8 := Aside0.mk A80
    clear A80
    by_cases c9 : t534 = true
    ·subst c9
     have H1 : (if (t531.length : Int) = (x6_1.length : Int) then (some (x6_1, x7_1)) else (spec_l8All.l0 k1 t531 (wrap64 (x7_1 + 1)) l0_0)) = some (r1, r2) := by rw [if_pos rfl] at H; exact H
     clear H
     have H := H1
     clear H1
     by_cases c10 : (t531.length : Int) = (x6_1.length : Int)
     ·rw [if_pos c10] at H
      have c10b0 : ((t531.length : Int) == (x6_1.length : Int)) = true := beq_iff_eq.mpr c10
      have c10b1 : ((t531.length : Int) != (x6_1.length : Int)) = false := bne_eq_false_iff_eq.mpr c10
      have c10b2 : (t531.length == x6_1.length) = true := by first | simpa using c10 | (simp at c10 ⊢; omega)
      clear c10
      simp only [Option.some.injEq, Prod.mk.injEq] at H
      obtain ⟨rfl, rfl⟩ := H
      have hcz11_0 : wr.cell? ⟨gb524, 0, none⟩ = some (.slice A0_0 l0_0.length c0_0) := (blk_cell BK524.out 0).trans rfl
      have hfz11_0 := blk_frozen BK524.out 0
      obtain ⟨Ao12, co12, eo12⟩ := Kd.R_slice HO_6.out
      subst eo12
      go_wp2_with (first | ((with_reducible refine gate_callee (f := 92) rfl ?_); refine goesL_ (some 16) rfl rfl Try.func92 (by kernel_rfl) rfl #[.agg #[.slice A0_0 l0_0.length c0_0], .slice Ao12 x6_1.length co12] rfl zl ?_; (with_reducible refine (spec_l8Once.calls k1 _ _ l0_0 _ _ x6_1 t531 true _ ?side1 ?side2 ?side3 ?side4 A8.out).mono ?_); (case side1 => exact zc (Kd.C_below HR0_0.out HB.out)); (case side2 => exact HC0_0.out); (case side3 => exact zc (Kd.R_reads' HO_6.out).2.2); (case side4 => exact (Kd.R_reads' HO_6.out).2.1); rintro e w13 ⟨v532, rfl, ho0, hb⟩; refine ⟨_, rfl, ?_⟩; have n0_ := Aside0.mk (Kd.R_elder' (zr HO_6.out) (Kd.R_base ho0) hb); have n1_ := Aside0.mk (Kd.R_lower (Kd.R_new' ho0 (Kd.R_lt (zr HO_6.out))) (below_size (zb HB.out))); have n2_ := Aside0.mk (blk_below (zh BK524.out) hb); have n3_ := Aside0.mk (below_step (zb HB.out) hb); clear HO_6; clear BK524; clear HB; have HO_6 := n0_; have HO533 := n1_; have BK524 := n2_; have HB := n3_; clear n0_ n1_ n2_ n3_; (try clear hb); (try clear hb2); (try clear hk); (try clear hi); (try clear ho0); obtain ⟨Ao14, co14, eo14⟩ := Kd.R_slice HO533.out; subst eo14))
      go_ret2
      exact ⟨_, ze, zr (Kd.R_mono HO_6.out (fun _ hk => trivial)), zb HB.out⟩
     ·rw [if_neg c10] at H
      have c10b0 : ((t531.length : Int) == (x6_1.length : Int)) = false := beq_eq_false_iff_ne.mpr c10
      have c10b1 : ((t531.length : Int) != (x6_1.length : Int)) = true := bne_iff_ne.mpr c10
      have c10b2 : (t531.length == x6_1.length) = false := by first | simpa using c10 | (simp at c10 ⊢; omega)
      have H' := Aside0.mk H
      clear H
      have hcz15_0 : wr.cell? ⟨gb524, 0, none⟩ = some (.slice A0_0 l0_0.length c0_0) := (blk_cell BK524.out 0).trans rfl
      have hfz15_0 := blk_frozen BK524.out 0
      obtain ⟨Ao16, co16, eo16⟩ := Kd.R_slice HO_6.out
      subst eo16
      go_wp2_with (first | ((with_reducible refine gate_callee (f := 92) rfl ?_); refine goesL_ (some 16) rfl rfl Try.func92 (by kernel_rfl) rfl #[.agg #[.slice A0_0 l0_0.length c0_0], .slice Ao16 x6_1.length co16] rfl zl ?_; (with_reducible refine (spec_l8Once.calls k1 _ _ l0_0 _ _ x6_1 t531 true _ ?side1 ?side2 ?side3 ?side4 A8.out).mono ?_); (case side1 => exact zc (Kd.C_below HR0_0.out HB.out)); (case side2 => exact HC0_0.out); (case side3 => exact zc (Kd.R_reads' HO_6.out).2.2); (case side4 => exact (Kd.R_reads' HO_6.out).2.1); rintro e w17 ⟨v532, rfl, ho0, hb⟩; refine ⟨_, rfl, ?_⟩; have n0_ := Aside0.mk (Kd.R_elder' (zr HO_6.out) (Kd.R_base ho0) hb); have n1_ := Aside0.mk (Kd.R_lower (Kd.R_new' ho0 (Kd.R_lt (zr HO_6.out))) (below_size (zb HB.out))); have n2_ := Aside0.mk (blk_below (zh BK524.out) hb); have n3_ := Aside0.mk (below_step (zb HB.out) hb); clear HO_6; clear BK524; clear HB; have HO_6 := n0_; have HO533 := n1_; have BK524 := n2_; have HB := n3_; clear n0_ n1_ n2_ n3_; (try clear hb); (try clear hb2); (try clear hk); (try clear hi); (try clear ho0); obtain ⟨Ao18, co18, eo18⟩ := Kd.R_slice HO533.out; subst eo18))
      go_roundg k1
      case measure => have := HK1.out; omega
      case rel => exact ⟨(t531), (wrap64 (x7_1 + 1)), (by first | rfl | (simp; done) | (simp [*]; done)), H', ⟨by have := HK1.out; omega⟩, ⟨zr (Kd.R_mono HO533.out (fun _ hk => trivial))⟩, ⟨zh BK524.out⟩, ⟨zb HB.out⟩⟩
    ·replace c9 := Bool.eq_false_iff.mpr c9
     subst c9
     have H1 : (some (x6_1, x7_1)) = some (r1, r2) := by rw [if_neg (show ¬ (false = true) by decide)] at H; exact H
     clear H
     have H := H1
     clear H1
     simp only [Option.some.injEq, Prod.mk.injEq] at H
     obtain ⟨rfl, rfl⟩ := H
     have hcz19_0 : wr.cell? ⟨gb524, 0, none⟩ = some (.slice A0_0 l0_0.length c0_0) := (blk_cell BK524.out 0).trans rfl
     have hfz19_0 := blk_frozen BK524.out 0
     obtain ⟨Ao20, co20, eo20⟩ := Kd.R_slice HO_6.out
     subst eo20
     go_wp2_with (first | ((with_reducible refine gate_callee (f := 92) rfl ?_); refine goesL_ (some 16) rfl rfl Try.func92 (by kernel_rfl) rfl #[.agg #[.slice A0_0 l0_0.length c0_0], .slice Ao20 x6_1.length co20] rfl zl ?_; (with_reducible refine (spec_l8Once.calls k1 _ _ l0_0 _ _ x6_1 t531 false _ ?side1 ?side2 ?side3 ?side4 A8.out).mono ?_); (case side1 => exact zc (Kd.C_below HR0_0.out HB.out)); (case side2 => exact HC0_0.out); (case side3 => exact zc (Kd.R_reads' HO_6.out).2.2); (case side4 => exact (Kd.R_reads' HO_6.out).2.1); rintro e w21 ⟨v532, rfl, ho0, hb⟩; refine ⟨_, rfl, ?_⟩; have n0_ := Aside0.mk (Kd.R_elder' (zr HO_6.out) (Kd.R_base ho0) hb); have n1_ := Aside0.mk (Kd.R_lower (Kd.R_new' ho0 (Kd.R_lt (zr HO_6.out))) (below_size (zb HB.out))); have n2_ := Aside0.mk (blk_below (zh BK524.out) hb); have n3_ := Aside0.mk (below_step (zb HB.out) hb); clear HO_6; clear BK524; clear HB; have HO_6 := n0_; have HO533 := n1_; have BK524 := n2_; have HB := n3_; clear n0_ n1_ n2_ n3_; (try clear hb); (try clear hb2); (try clear hk); (try clear hi); (try clear ho0)))
     go_ret2
     exact ⟨_, ze, zr (Kd.R_mono HO_6.out (fun _ hk => trivial)), zb HB.out⟩
 ·rw [if_neg c3] at H
  exact absurd H (by simp)

/-! ### spec_Makes: function 64 -/
def spec_Makes.f (k : Nat) (l0_0 : List (S44)) (l1 : List Int) (a2 : Int) : Option (Bool) := (spec_KnowOk.f k l0_0 l1).bind fun t536 => (if t536 = true then ((spec_l1Has.f l0_0 a2).bind fun t537 => (if t537 = true then ((spec_l7All.f k l0_0 l1).bind fun t538 => (if 0 ≤ a2 then (if a2 < (t538.length : Int) then (some (rdOf false t538 a2)) else (none)) else (none))) else (some false))) else (some false))
theorem spec_Makes.mono : ∀ a0 a1 a2 k, LeO (spec_Makes.f k a0 a1 a2) (spec_Makes.f (k + 1) a0 a1 a2) := by
 intro a0 a1 a2 k
 unfold spec_Makes.f
 repeat' first
   | (with_reducible exact spec_KnowOk.mono _ _ _)
   | (with_reducible exact spec_l7All.mono _ _ _)
   | (with_reducible exact LeO.refl _)
   | (with_reducible exact LeO.none _)
   | (with_reducible refine LeO.ite ?_ ?_)
   | (with_reducible refine LeO.bind ?_ (fun _ => ?_))
   | exact spec_KnowOk.mono _ _ _
   | exact spec_l7All.mono _ _ _
   | exact LeO.none _
   | refine LeO.ite ?_ ?_
   | refine LeO.bind ?_ (fun _ => ?_)
set_option maxHeartbeats 8000000 in
set_option maxRecDepth 100000 in
theorem spec_Makes.calls (k : Nat) (A0_0 : Option Addr) (c0_0 : Nat) (l0_0 : List (S44)) (A1 : Option Addr) (c1 : Nat) (l1 : List Int) (a2 : Int) (r : Bool) (w : World) (hr0_0 : Kd.C k44 w A0_0 l0_0.length l0_0) (hc0_0 : l0_0.length ≤ c0_0) (hr1 : Kd.C (Kd.int .i64) w A1 l1.length l1) (hc1 : l1.length ≤ c1) (h : spec_Makes.f k l0_0 l1 a2 = some r) :
  Calls Try.prog 64 #[.agg #[.slice A0_0 l0_0.length c0_0], .slice A1 l1.length c1, .int .i64 a2] w fun e w' => e = .returned (.bool r) ∧ Below w.heap.size w w' := by
 have hu30 := Try.underlying30
 have HR0_0 := Aside0.mk hr0_0
 have HC0_0 := Aside0.mk hc0_0
 clear hr0_0 hc0_0
 have HR1 := Aside0.mk hr1
 have HC1 := Aside0.mk hc1
 clear hr1 hc1
 have HB := Aside0.mk (Below.refl w.heap.size w)
 have H : ((spec_KnowOk.f k l0_0 l1).bind fun t536 => (if t536 = true then ((spec_l1Has.f l0_0 a2).bind fun t537 => (if t537 = true then ((spec_l7All.f k l0_0 l1).bind fun t538 => (if 0 ≤ a2 then (if a2 < (t538.length : Int) then (some (rdOf false t538 a2)) else (none)) else (none))) else (some false))) else (some false))) = some r := h
 clear h
 replace H := Option.bind_eq_some_iff.mp H
 obtain ⟨t536, A40, H⟩ := H
 replace H : (if t536 = true then ((spec_l1Has.f l0_0 a2).bind fun t537 => (if t537 = true then ((spec_l7All.f k l0_0 l1).bind fun t538 => (if 0 ≤ a2 then (if a2 < (t538.length : Int) then (some (rdOf false t538 a2)) else (none)) else (none))) else (some false))) else (some false)) = some r := H
 have A4 := Aside0.mk A40
 clear A40
 by_cases c5 : t536 = true
 ·subst c5
  have H1 : ((spec_l1Has.f l0_0 a2).bind fun t537 => (if t537 = true then ((spec_l7All.f k l0_0 l1).bind fun t538 => (if 0 ≤ a2 then (if a2 < (t538.length : Int) then (some (rdOf false t538 a2)) else (none)) else (none))) else (some false))) = some r := by rw [if_pos rfl] at H; exact H
  clear H
  have H := H1
  clear H1
  replace H := Option.bind_eq_some_iff.mp H
  obtain ⟨t537, A60, H⟩ := H
  replace H : (if t537 = true then ((spec_l7All.f k l0_0 l1).bind fun t538 => (if 0 ≤ a2 then (if a2 < (t538.length : Int) then (some (rdOf false t538 a2)) else (none)) else (none))) else (some false)) = some r := H
  have A6 := Aside0.mk A60
  clear A60
  by_cases c7 : t537 = true
  ·subst c7
   have H1 : ((spec_l7All.f k l0_0 l1).bind fun t538 => (if 0 ≤ a2 then (if a2 < (t538.length : Int) then (some (rdOf false t538 a2)) else (none)) else (none))) = some r := by rw [if_pos rfl] at H; exact H
   clear H
   have H := H1
   clear H1
   replace H := Option.bind_eq_some_iff.mp H
   obtain ⟨t538, A80, H⟩ := H
   replace H : (if 0 ≤ a2 then (if a2 < (t538.length : Int) then (some (rdOf false t538 a2)) else (none)) else (none)) = some r := H
   have A8 := Aside0.mk A80
   clear A80
   by_cases c9 : 0 ≤ a2
   ·rw [if_pos c9] at H
    have c9b0 : decide (0 ≤ a2) = true := decide_eq_true c9
    clear c9
    by_cases c10 : a2 < (t538.length : Int)
    ·rw [if_pos c10] at H
     have c10b0 : decide (a2 < (t538.length : Int)) = true := decide_eq_true c10
     clear c10
     obtain rfl := Option.some.inj H
     go_enter Try.func64, Try.ntmps64
     go_wp2_with (first | ((with_reducible refine gate_dst (N := 3) rfl ?_); refine box_event ?hg (N := 3) ?hd (cs := #[.slice A0_0 l0_0.length c0_0]) (t := 30) ?hr ?_; (case hd => rfl); (case hg => rfl); (case hr => first | (go_simp; done) | (go_simp; rfl)); intro gb535 hg w11 hbox hb; have n0_ := Aside0.mk (below_step (zb HB.out) hb); have n1_ := Aside0.mk (hbox); have n2_ := Aside0.mk ((by rw [hg]; exact (below_size (zb HB.out)) : w.heap.size ≤ gb535)); have n3_ := Aside0.mk ((by rw [hg]; exact (below_size (zb HB.out)) : w.heap.size ≤ gb535)); clear HB; have HB := n0_; have BK535 := n1_; have GW535 := n2_; have GE535 := n3_; clear n0_ n1_ n2_ n3_; clear hb hbox hg; have hcz12_0 : w11.cell? ⟨gb535, 0, none⟩ = some (.slice A0_0 l0_0.length c0_0) := (blk_cell BK535.out 0).trans rfl; have hfz12_0 := blk_frozen BK535.out 0) | ((with_reducible refine gate_callee (f := 54) rfl ?_); refine goesL_ (some 9) rfl rfl Try.func54 (by kernel_rfl) rfl #[.agg #[.slice A0_0 l0_0.length c0_0], .slice A1 l1.length c1] rfl zl ?_; (with_reducible refine (spec_KnowOk.calls k _ _ l0_0 _ _ l1 true _ ?side1 ?side2 ?side3 ?side4 A4.out).mono ?_); (case side1 => exact zc (Kd.C_below HR0_0.out HB.out)); (case side2 => exact HC0_0.out); (case side3 => exact zc (Kd.C_below HR1.out HB.out)); (case side4 => exact HC1.out); rintro e w13 ⟨rfl, hb⟩; refine ⟨_, rfl, ?_⟩; have n0_ := Aside0.mk (blk_below (zh BK535.out) hb); have n1_ := Aside0.mk (below_step (zb HB.out) hb); clear BK535; clear HB; have BK535 := n0_; have HB := n1_; clear n0_ n1_; (try clear hb); (try clear hb2); (try clear hk); (try clear hi); have hcz14_0 : w13.cell? ⟨gb535, 0, none⟩ = some (.slice A0_0 l0_0.length c0_0) := (blk_cell BK535.out 0).trans rfl; have hfz14_0 := blk_frozen BK535.out 0) | (go_at_call 35; (with_reducible refine (spec_l1Has.calls _ _ l0_0 a2 true _ ?side1 ?side2 A6.out).mono ?_); (case side1 => exact zc (Kd.C_below HR0_0.out HB.out)); (case side2 => exact HC0_0.out); rintro e w15 ⟨rfl, hb⟩; have n0_ := Aside0.mk (blk_below (zh BK535.out) hb); have n1_ := Aside0.mk (below_step (zb HB.out) hb); clear BK535; clear HB; have BK535 := n0_; have HB := n1_; clear n0_ n1_; (try clear hb); (try clear hb2); (try clear hk); (try clear hi); have hcz16_0 : w15.cell? ⟨gb535, 0, none⟩ = some (.slice A0_0 l0_0.length c0_0) := (blk_cell BK535.out 0).trans rfl; have hfz16_0 := blk_frozen BK535.out 0) | ((with_reducible refine gate_callee (f := 93) rfl ?_); refine goesL_ (some 19) rfl rfl Try.func93 (by kernel_rfl) rfl #[.agg #[.slice A0_0 l0_0.length c0_0], .slice A1 l1.length c1] rfl zl ?_; (with_reducible refine (spec_l7All.calls k _ _ l0_0 _ _ l1 t538 _ ?side1 ?side2 ?side3 ?side4 A8.out).mono ?_); (case side1 => exact zc (Kd.C_below HR0_0.out HB.out)); (case side2 => exact HC0_0.out); (case side3 => exact zc (Kd.C_below HR1.out HB.out)); (case side4 => exact HC1.out); rintro e w17 ⟨v539, rfl, ho0, hb⟩; refine ⟨_, rfl, ?_⟩; have n0_ := Aside0.mk (Kd.R_lower ho0 (below_size (zb HB.out))); have n1_ := Aside0.mk (blk_below (zh BK535.out) hb); have n2_ := Aside0.mk (below_step (zb HB.out) hb); clear BK535; clear HB; have HO540 := n0_; have BK535 := n1_; have HB := n2_; clear n0_ n1_ n2_; (try clear hb); (try clear hb2); (try clear hk); (try clear hi); (try clear ho0); obtain ⟨Ao18, co18, eo18⟩ := Kd.R_slice HO540.out; subst eo18; have p541 : 0 ≤ (a2 : Int) := of_decide_eq_true (by first | (with_reducible assumption) | assumption); have q541 : a2 < (t538.length : Int) := of_decide_eq_true (by first | (with_reducible assumption) | assumption); obtain ⟨ad541, e541, hx541_0⟩ := Kd.at_bool (Kd.R_reads' HO540.out).2.2 a2 p541 q541; cases e541; replace p541 := eq_true p541; replace q541 := eq_true q541))
     go_ret
     exact ⟨ze, zb HB.out⟩
    ·rw [if_neg c10] at H
     exact absurd H (by simp)
   ·rw [if_neg c9] at H
    exact absurd H (by simp)
  ·replace c7 := Bool.eq_false_iff.mpr c7
   subst c7
   have H1 : (some false) = some r := by rw [if_neg (show ¬ (false = true) by decide)] at H; exact H
   clear H
   have H := H1
   clear H1
   obtain rfl := Option.some.inj H
   go_enter Try.func64, Try.ntmps64
   go_wp2_with (first | ((with_reducible refine gate_dst (N := 3) rfl ?_); refine box_event ?hg (N := 3) ?hd (cs := #[.slice A0_0 l0_0.length c0_0]) (t := 30) ?hr ?_; (case hd => rfl); (case hg => rfl); (case hr => first | (go_simp; done) | (go_simp; rfl)); intro gb535 hg w19 hbox hb; have n0_ := Aside0.mk (below_step (zb HB.out) hb); have n1_ := Aside0.mk (hbox); have n2_ := Aside0.mk ((by rw [hg]; exact (below_size (zb HB.out)) : w.heap.size ≤ gb535)); have n3_ := Aside0.mk ((by rw [hg]; exact (below_size (zb HB.out)) : w.heap.size ≤ gb535)); clear HB; have HB := n0_; have BK535 := n1_; have GW535 := n2_; have GE535 := n3_; clear n0_ n1_ n2_ n3_; clear hb hbox hg; have hcz20_0 : w19.cell? ⟨gb535, 0, none⟩ = some (.slice A0_0 l0_0.length c0_0) := (blk_cell BK535.out 0).trans rfl; have hfz20_0 := blk_frozen BK535.out 0) | ((with_reducible refine gate_callee (f := 54) rfl ?_); refine goesL_ (some 9) rfl rfl Try.func54 (by kernel_rfl) rfl #[.agg #[.slice A0_0 l0_0.length c0_0], .slice A1 l1.length c1] rfl zl ?_; (with_reducible refine (spec_KnowOk.calls k _ _ l0_0 _ _ l1 true _ ?side1 ?side2 ?side3 ?side4 A4.out).mono ?_); (case side1 => exact zc (Kd.C_below HR0_0.out HB.out)); (case side2 => exact HC0_0.out); (case side3 => exact zc (Kd.C_below HR1.out HB.out)); (case side4 => exact HC1.out); rintro e w21 ⟨rfl, hb⟩; refine ⟨_, rfl, ?_⟩; have n0_ := Aside0.mk (blk_below (zh BK535.out) hb); have n1_ := Aside0.mk (below_step (zb HB.out) hb); clear BK535; clear HB; have BK535 := n0_; have HB := n1_; clear n0_ n1_; (try clear hb); (try clear hb2); (try clear hk); (try clear hi); have hcz22_0 : w21.cell? ⟨gb535, 0, none⟩ = some (.slice A0_0 l0_0.length c0_0) := (blk_cell BK535.out 0).trans rfl; have hfz22_0 := blk_frozen BK535.out 0) | (go_at_call 35; (with_reducible refine (spec_l1Has.calls _ _ l0_0 a2 false _ ?side1 ?side2 A6.out).mono ?_); (case side1 => exact zc (Kd.C_below HR0_0.out HB.out)); (case side2 => exact HC0_0.out); rintro e w23 ⟨rfl, hb⟩; have n0_ := Aside0.mk (blk_below (zh BK535.out) hb); have n1_ := Aside0.mk (below_step (zb HB.out) hb); clear BK535; clear HB; have BK535 := n0_; have HB := n1_; clear n0_ n1_; (try clear hb); (try clear hb2); (try clear hk); (try clear hi)))
   go_ret
   exact ⟨ze, zb HB.out⟩
 ·replace c5 := Bool.eq_false_iff.mpr c5
  subst c5
  have H1 : (some false) = some r := by rw [if_neg (show ¬ (false = true) by decide)] at H; exact H
  clear H
  have H := H1
  clear H1
  obtain rfl := Option.some.inj H
  go_enter Try.func64, Try.ntmps64
  go_wp2_with (first | ((with_reducible refine gate_dst (N := 3) rfl ?_); refine box_event ?hg (N := 3) ?hd (cs := #[.slice A0_0 l0_0.length c0_0]) (t := 30) ?hr ?_; (case hd => rfl); (case hg => rfl); (case hr => first | (go_simp; done) | (go_simp; rfl)); intro gb535 hg w24 hbox hb; have n0_ := Aside0.mk (below_step (zb HB.out) hb); have n1_ := Aside0.mk (hbox); have n2_ := Aside0.mk ((by rw [hg]; exact (below_size (zb HB.out)) : w.heap.size ≤ gb535)); have n3_ := Aside0.mk ((by rw [hg]; exact (below_size (zb HB.out)) : w.heap.size ≤ gb535)); clear HB; have HB := n0_; have BK535 := n1_; have GW535 := n2_; have GE535 := n3_; clear n0_ n1_ n2_ n3_; clear hb hbox hg; have hcz25_0 : w24.cell? ⟨gb535, 0, none⟩ = some (.slice A0_0 l0_0.length c0_0) := (blk_cell BK535.out 0).trans rfl; have hfz25_0 := blk_frozen BK535.out 0) | ((with_reducible refine gate_callee (f := 54) rfl ?_); refine goesL_ (some 9) rfl rfl Try.func54 (by kernel_rfl) rfl #[.agg #[.slice A0_0 l0_0.length c0_0], .slice A1 l1.length c1] rfl zl ?_; (with_reducible refine (spec_KnowOk.calls k _ _ l0_0 _ _ l1 false _ ?side1 ?side2 ?side3 ?side4 A4.out).mono ?_); (case side1 => exact zc (Kd.C_below HR0_0.out HB.out)); (case side2 => exact HC0_0.out); (case side3 => exact zc (Kd.C_below HR1.out HB.out)); (case side4 => exact HC1.out); rintro e w26 ⟨rfl, hb⟩; refine ⟨_, rfl, ?_⟩; have n0_ := Aside0.mk (blk_below (zh BK535.out) hb); have n1_ := Aside0.mk (below_step (zb HB.out) hb); clear BK535; clear HB; have BK535 := n0_; have HB := n1_; clear n0_ n1_; (try clear hb); (try clear hb2); (try clear hk); (try clear hi)))
  go_ret
  exact ⟨ze, zb HB.out⟩

/-! ### spec_Derives: function 32 -/
def spec_Derives.f (k : Nat) (l0_0 : List (S44)) (l1 : List Int) (a2 : Int) : Option (Bool) := (spec_KnowOk.f k l0_0 l1).bind fun t543 => (if t543 = true then ((spec_l8All.f k l0_0 l1).bind fun bt544 => ((spec_Makes.f k l0_0 bt544.1 a2).bind fun t548 => (some t548))) else (some false))
theorem spec_Derives.mono : ∀ a0 a1 a2 k, LeO (spec_Derives.f k a0 a1 a2) (spec_Derives.f (k + 1) a0 a1 a2) := by
 intro a0 a1 a2 k
 unfold spec_Derives.f
 repeat' first
   | (with_reducible exact spec_KnowOk.mono _ _ _)
   | (with_reducible exact spec_Makes.mono _ _ _ _)
   | (with_reducible exact spec_l8All.mono _ _ _)
   | (with_reducible exact LeO.refl _)
   | (with_reducible exact LeO.none _)
   | (with_reducible refine LeO.ite ?_ ?_)
   | (with_reducible refine LeO.bind ?_ (fun _ => ?_))
   | exact spec_KnowOk.mono _ _ _
   | exact spec_Makes.mono _ _ _ _
   | exact spec_l8All.mono _ _ _
   | exact LeO.none _
   | refine LeO.ite ?_ ?_
   | refine LeO.bind ?_ (fun _ => ?_)
set_option maxHeartbeats 8000000 in
set_option maxRecDepth 100000 in
theorem spec_Derives.calls (k : Nat) (A0_0 : Option Addr) (c0_0 : Nat) (l0_0 : List (S44)) (A1 : Option Addr) (c1 : Nat) (l1 : List Int) (a2 : Int) (r : Bool) (w : World) (hr0_0 : Kd.C k44 w A0_0 l0_0.length l0_0) (hc0_0 : l0_0.length ≤ c0_0) (hr1 : Kd.C (Kd.int .i64) w A1 l1.length l1) (hc1 : l1.length ≤ c1) (h : spec_Derives.f k l0_0 l1 a2 = some r) :
  Calls Try.prog 32 #[.agg #[.slice A0_0 l0_0.length c0_0], .slice A1 l1.length c1, .int .i64 a2] w fun e w' => e = .returned (.bool r) ∧ Below w.heap.size w w' := by
 have hu30 := Try.underlying30
 have HR0_0 := Aside0.mk hr0_0
 have HC0_0 := Aside0.mk hc0_0
 clear hr0_0 hc0_0
 have HR1 := Aside0.mk hr1
 have HC1 := Aside0.mk hc1
 clear hr1 hc1
 have HB := Aside0.mk (Below.refl w.heap.size w)
 have H : ((spec_KnowOk.f k l0_0 l1).bind fun t543 => (if t543 = true then ((spec_l8All.f k l0_0 l1).bind fun bt544 => ((spec_Makes.f k l0_0 bt544.1 a2).bind fun t548 => (some t548))) else (some false))) = some r := h
 clear h
 replace H := Option.bind_eq_some_iff.mp H
 obtain ⟨t543, A40, H⟩ := H
 replace H : (if t543 = true then ((spec_l8All.f k l0_0 l1).bind fun bt544 => ((spec_Makes.f k l0_0 bt544.1 a2).bind fun t548 => (some t548))) else (some false)) = some r := H
 have A4 := Aside0.mk A40
 clear A40
 by_cases c5 : t543 = true
 ·subst c5
  have H1 : ((spec_l8All.f k l0_0 l1).bind fun bt544 => ((spec_Makes.f k l0_0 bt544.1 a2).bind fun t548 => (some t548))) = some r := by rw [if_pos rfl] at H; exact H
  clear H
  have H := H1
  clear H1
  replace H := Option.bind_eq_some_iff.mp H
  obtain ⟨⟨t544, t547⟩, A60, H⟩ := H
  replace H : ((spec_Makes.f k l0_0 t544 a2).bind fun t548 => (some t548)) = some r := H
  have A6 := Aside0.mk A60
  clear A60
  replace H := Option.bind_eq_some_iff.mp H
  obtain ⟨t548, A70, H⟩ := H
  replace H : (some t548) = some r := H
  have A7 := Aside0.mk A70
  clear A70
  obtain rfl := Option.some.inj H
  go_enter Try.func32, Try.ntmps32
  go_wp2_with (first | ((with_reducible refine gate_dst (N := 3) rfl ?_); refine box_event ?hg (N := 3) ?hd (cs := #[.slice A0_0 l0_0.length c0_0]) (t := 30) ?hr ?_; (case hd => rfl); (case hg => rfl); (case hr => first | (go_simp; done) | (go_simp; rfl)); intro gb542 hg w8 hbox hb; have n0_ := Aside0.mk (below_step (zb HB.out) hb); have n1_ := Aside0.mk (hbox); have n2_ := Aside0.mk ((by rw [hg]; exact (below_size (zb HB.out)) : w.heap.size ≤ gb542)); have n3_ := Aside0.mk ((by rw [hg]; exact (below_size (zb HB.out)) : w.heap.size ≤ gb542)); clear HB; have HB := n0_; have BK542 := n1_; have GW542 := n2_; have GE542 := n3_; clear n0_ n1_ n2_ n3_; clear hb hbox hg; have hcz9_0 : w8.cell? ⟨gb542, 0, none⟩ = some (.slice A0_0 l0_0.length c0_0) := (blk_cell BK542.out 0).trans rfl; have hfz9_0 := blk_frozen BK542.out 0) | ((with_reducible refine gate_callee (f := 54) rfl ?_); refine goesL_ (some 11) rfl rfl Try.func54 (by kernel_rfl) rfl #[.agg #[.slice A0_0 l0_0.length c0_0], .slice A1 l1.length c1] rfl zl ?_; (with_reducible refine (spec_KnowOk.calls k _ _ l0_0 _ _ l1 true _ ?side1 ?side2 ?side3 ?side4 A4.out).mono ?_); (case side1 => exact zc (Kd.C_below HR0_0.out HB.out)); (case side2 => exact HC0_0.out); (case side3 => exact zc (Kd.C_below HR1.out HB.out)); (case side4 => exact HC1.out); rintro e w10 ⟨rfl, hb⟩; refine ⟨_, rfl, ?_⟩; have n0_ := Aside0.mk (blk_below (zh BK542.out) hb); have n1_ := Aside0.mk (below_step (zb HB.out) hb); clear BK542; clear HB; have BK542 := n0_; have HB := n1_; clear n0_ n1_; (try clear hb); (try clear hb2); (try clear hk); (try clear hi); have hcz11_0 : w10.cell? ⟨gb542, 0, none⟩ = some (.slice A0_0 l0_0.length c0_0) := (blk_cell BK542.out 0).trans rfl; have hfz11_0 := blk_frozen BK542.out 0) | ((with_reducible refine gate_callee (f := 63) rfl ?_); refine goesL_ (some 16) rfl rfl Try.func63 (by kernel_rfl) rfl #[.agg #[.slice A0_0 l0_0.length c0_0], .slice A1 l1.length c1] rfl zl ?_; (with_reducible refine (spec_l8All.calls k _ _ l0_0 _ _ l1 t544 t547 _ ?side1 ?side2 ?side3 ?side4 A6.out).mono ?_); (case side1 => exact zc (Kd.C_below HR0_0.out HB.out)); (case side2 => exact HC0_0.out); (case side3 => exact zc (Kd.C_below HR1.out HB.out)); (case side4 => exact HC1.out); rintro e w12 ⟨v545, rfl, ho0, hb⟩; refine ⟨_, rfl, ?_⟩; have n0_ := Aside0.mk (Kd.R_lower ho0 (below_size (zb HB.out))); have n1_ := Aside0.mk (blk_below (zh BK542.out) hb); have n2_ := Aside0.mk (below_step (zb HB.out) hb); clear BK542; clear HB; have HO546 := n0_; have BK542 := n1_; have HB := n2_; clear n0_ n1_ n2_; (try clear hb); (try clear hb2); (try clear hk); (try clear hi); (try clear ho0); have hcz13_0 : w12.cell? ⟨gb542, 0, none⟩ = some (.slice A0_0 l0_0.length c0_0) := (blk_cell BK542.out 0).trans rfl; have hfz13_0 := blk_frozen BK542.out 0; obtain ⟨Ao14, co14, eo14⟩ := Kd.R_slice HO546.out; subst eo14) | ((with_reducible refine gate_callee (f := 64) rfl ?_); refine goesL_ (some 22) rfl rfl Try.func64 (by kernel_rfl) rfl #[.agg #[.slice A0_0 l0_0.length c0_0], .slice Ao14 t544.length co14, .int .i64 a2] rfl zl ?_; (with_reducible refine (spec_Makes.calls k _ _ l0_0 _ _ t544 a2 t548 _ ?side1 ?side2 ?side3 ?side4 A7.out).mono ?_); (case side1 => exact zc (Kd.C_below HR0_0.out HB.out)); (case side2 => exact HC0_0.out); (case side3 => exact zc (Kd.R_reads' HO546.out).2.2); (case side4 => exact (Kd.R_reads' HO546.out).2.1); rintro e w15 ⟨rfl, hb⟩; refine ⟨_, rfl, ?_⟩; have n0_ := Aside0.mk (Kd.R_below (zr HO546.out) hb); have n1_ := Aside0.mk (blk_below (zh BK542.out) hb); have n2_ := Aside0.mk (below_step (zb HB.out) hb); clear HO546; clear BK542; clear HB; have HO546 := n0_; have BK542 := n1_; have HB := n2_; clear n0_ n1_ n2_; (try clear hb); (try clear hb2); (try clear hk); (try clear hi)))
  go_ret
  exact ⟨ze, zb HB.out⟩
 ·replace c5 := Bool.eq_false_iff.mpr c5
  subst c5
  have H1 : (some false) = some r := by rw [if_neg (show ¬ (false = true) by decide)] at H; exact H
  clear H
  have H := H1
  clear H1
  obtain rfl := Option.some.inj H
  go_enter Try.func32, Try.ntmps32
  go_wp2_with (first | ((with_reducible refine gate_dst (N := 3) rfl ?_); refine box_event ?hg (N := 3) ?hd (cs := #[.slice A0_0 l0_0.length c0_0]) (t := 30) ?hr ?_; (case hd => rfl); (case hg => rfl); (case hr => first | (go_simp; done) | (go_simp; rfl)); intro gb542 hg w16 hbox hb; have n0_ := Aside0.mk (below_step (zb HB.out) hb); have n1_ := Aside0.mk (hbox); have n2_ := Aside0.mk ((by rw [hg]; exact (below_size (zb HB.out)) : w.heap.size ≤ gb542)); have n3_ := Aside0.mk ((by rw [hg]; exact (below_size (zb HB.out)) : w.heap.size ≤ gb542)); clear HB; have HB := n0_; have BK542 := n1_; have GW542 := n2_; have GE542 := n3_; clear n0_ n1_ n2_ n3_; clear hb hbox hg; have hcz17_0 : w16.cell? ⟨gb542, 0, none⟩ = some (.slice A0_0 l0_0.length c0_0) := (blk_cell BK542.out 0).trans rfl; have hfz17_0 := blk_frozen BK542.out 0) | ((with_reducible refine gate_callee (f := 54) rfl ?_); refine goesL_ (some 11) rfl rfl Try.func54 (by kernel_rfl) rfl #[.agg #[.slice A0_0 l0_0.length c0_0], .slice A1 l1.length c1] rfl zl ?_; (with_reducible refine (spec_KnowOk.calls k _ _ l0_0 _ _ l1 false _ ?side1 ?side2 ?side3 ?side4 A4.out).mono ?_); (case side1 => exact zc (Kd.C_below HR0_0.out HB.out)); (case side2 => exact HC0_0.out); (case side3 => exact zc (Kd.C_below HR1.out HB.out)); (case side4 => exact HC1.out); rintro e w18 ⟨rfl, hb⟩; refine ⟨_, rfl, ?_⟩; have n0_ := Aside0.mk (blk_below (zh BK542.out) hb); have n1_ := Aside0.mk (below_step (zb HB.out) hb); clear BK542; clear HB; have BK542 := n0_; have HB := n1_; clear n0_ n1_; (try clear hb); (try clear hb2); (try clear hk); (try clear hi)))
  go_ret
  exact ⟨ze, zb HB.out⟩

/-! ### impl_Pool_parts: function 53 -/
def impl_Pool_parts.f (k : Nat) (l0_0 : List (S44)) (a1 : Int) : Option (List Int) := if 0 ≤ a1 then (if a1 < (l0_0.length : Int) then ((impl_count.f k ((rd_T44 l0_0 a1).f0)).bind fun t551 => (if t551 = 1 then (some (([(rd_T44 l0_0 a1).f1] : List Int))) else (if t551 = 2 then (some (([(rd_T44 l0_0 a1).f1, (rd_T44 l0_0 a1).f2] : List Int))) else (some ([] : List Int))))) else (none)) else (none)
theorem impl_Pool_parts.mono : ∀ a0 a1 k, LeO (impl_Pool_parts.f k a0 a1) (impl_Pool_parts.f (k + 1) a0 a1) := by
 intro a0 a1 k
 unfold impl_Pool_parts.f
 repeat' first
   | (with_reducible exact impl_count.mono _ _)
   | (with_reducible exact LeO.refl _)
   | (with_reducible exact LeO.none _)
   | (with_reducible refine LeO.ite ?_ ?_)
   | (with_reducible refine LeO.bind ?_ (fun _ => ?_))
   | exact impl_count.mono _ _
   | exact LeO.none _
   | refine LeO.ite ?_ ?_
   | refine LeO.bind ?_ (fun _ => ?_)
set_option maxHeartbeats 8000000 in
set_option maxRecDepth 100000 in
theorem impl_Pool_parts.calls (k : Nat) (g0_ : Nat) (A0_0 : Option Addr) (c0_0 : Nat) (l0_0 : List (S44)) (a1 : Int) (r : List Int) (w : World) (hk0_ : w.heap[g0_]? = some (.cells #[.slice A0_0 l0_0.length c0_0] 30 (0, 0))) (hr0_0 : Kd.C k44 w A0_0 l0_0.length l0_0) (hc0_0 : l0_0.length ≤ c0_0) (h : impl_Pool_parts.f k l0_0 a1 = some r) :
  Calls Try.prog 53 #[.pointer (some ⟨g0_, 0, none⟩), .int .i64 a1] w fun e w' => ∃ v0_ : Value, e = .returned (v0_) ∧ Kd.R (Kd.int .i64) 3 w' w.heap.size (fun _ => True) v0_ r ∧ Below w.heap.size w w' := by
 have hu44 := Try.underlying44
 have HR0_0 := Aside0.mk hr0_0
 have HC0_0 := Aside0.mk hc0_0
 clear hr0_0 hc0_0
 have BK0 := Aside0.mk hk0_
 clear hk0_
 have HB := Aside0.mk (Below.refl w.heap.size w)
 have H : (if 0 ≤ a1 then (if a1 < (l0_0.length : Int) then ((impl_count.f k ((rd_T44 l0_0 a1).f0)).bind fun t551 => (if t551 = 1 then (some (([(rd_T44 l0_0 a1).f1] : List Int))) else (if t551 = 2 then (some (([(rd_T44 l0_0 a1).f1, (rd_T44 l0_0 a1).f2] : List Int))) else (some ([] : List Int))))) else (none)) else (none)) = some r := h
 clear h
 by_cases c3 : 0 ≤ a1
 ·rw [if_pos c3] at H
  have c3b0 : decide (0 ≤ a1) = true := decide_eq_true c3
  clear c3
  by_cases c4 : a1 < (l0_0.length : Int)
  ·rw [if_pos c4] at H
   have c4b0 : decide (a1 < (l0_0.length : Int)) = true := decide_eq_true c4
   clear c4
   replace H := Option.bind_eq_some_iff.mp H
   obtain ⟨t551, A50, H⟩ := H
   replace H : (if t551 = 1 then (some (([(rd_T44 l0_0 a1).f1] : List Int))) else (if t551 = 2 then (some (([(rd_T44 l0_0 a1).f1, (rd_T44 l0_0 a1).f2] : List Int))) else (some ([] : List Int)))) = some r := H
   have A5 := Aside0.mk A50
   clear A50
   by_cases c6 : t551 = 1
   ·rw [if_pos c6] at H
    have c6b0 : (t551 == 1) = true := beq_iff_eq.mpr c6
    have c6b1 : (t551 != 1) = false := bne_eq_false_iff_eq.mpr c6
    clear c6
    obtain ⟨y552, hy552⟩ : ∃ y_ : List Int, y_ = (([(rd_T44 l0_0 a1).f1] : List Int)) := ⟨_, rfl⟩
    replace H : (some y552) = some r := by first | (rw [hy552]; with_reducible exact H) | (have H2_ := (Option.bind_some _ _).symm.trans H; rw [hy552]; with_reducible exact H2_) | (have H2_ := (Option.bind_some _ _).symm.trans H; with_reducible exact H2_) | with_reducible exact H | (rw [hy552]; exact H) | exact H
    have Ny552 := Aside0.mk hy552
    clear hy552
    obtain rfl := Option.some.inj H
    have hcz7_0 : w.cell? ⟨g0_, 0, none⟩ = some (.slice A0_0 l0_0.length c0_0) := (blk_cell BK0.out 0).trans rfl
    have hfz7_0 := blk_frozen BK0.out 0
    have p549 : 0 ≤ (a1 : Int) := of_decide_eq_true (by first | (with_reducible assumption) | assumption)
    have q549 : a1 < (l0_0.length : Int) := of_decide_eq_true (by first | (with_reducible assumption) | assumption)
    obtain ⟨ad549, e549, hx549_0, hx549_1, hx549_2⟩ := at_T44 HR0_0.out a1 p549 q549
    cases e549
    replace p549 := eq_true p549
    replace q549 := eq_true q549
    go_enter Try.func53, Try.ntmps53
    go_wp2_with (first | ((with_reducible refine gate_dst (N := 5) rfl ?_); refine box_event ?hg (N := 5) ?hd (cs := #[.int .i64 0, .int .i64 0, .int .i64 0]) (t := 44) ?hr ?_; (case hd => rfl); (case hg => rfl); (case hr => first | (go_simp; done) | (go_simp; rfl)); intro gb550 hg w8 hbox hb; have n0_ := Aside0.mk (blk_below (zh BK0.out) hb); have n1_ := Aside0.mk (below_step (zb HB.out) hb); have n2_ := Aside0.mk (hbox); have n3_ := Aside0.mk ((by rw [hg]; exact (below_size (zb HB.out)) : w.heap.size ≤ gb550)); have n4_ := Aside0.mk ((by rw [hg]; exact (below_size (zb HB.out)) : w.heap.size ≤ gb550)); have n5_ := Aside0.mk ((by rw [hg]; exact Nat.ne_of_lt (blk_lt (zh BK0.out)) : g0_ ≠ gb550)); have n6_ := Aside0.mk ((by rw [hg]; exact Nat.ne_of_gt (blk_lt (zh BK0.out)) : gb550 ≠ g0_)); clear BK0; clear HB; have BK0 := n0_; have HB := n1_; have BK550 := n2_; have GW550 := n3_; have GE550 := n4_; have NB0_550 := n5_; have NB550_0 := n6_; clear n0_ n1_ n2_ n3_ n4_ n5_ n6_; clear hb hbox hg; have hnb9 := NB550_0.out; have hnc9 := NB0_550.out; have hcz10_0 : w8.cell? ⟨gb550, 0, none⟩ = some (.int .i64 0) := (blk_cell BK550.out 0).trans rfl; have hcz10_1 : w8.cell? ⟨gb550, 1, none⟩ = some (.int .i64 0) := (blk_cell BK550.out 1).trans rfl; have hcz10_2 : w8.cell? ⟨gb550, 2, none⟩ = some (.int .i64 0) := (blk_cell BK550.out 2).trans rfl; have hfz10_0 := blk_frozen BK550.out 0; have hfz10_1 := blk_frozen BK550.out 1; have hfz10_2 := blk_frozen BK550.out 2) | ((with_reducible refine gate_callee (f := 86) rfl ?_); refine goesL_ (some 15) rfl rfl Try.func86 (by kernel_rfl) rfl #[.int .i64 ((rd_T44 l0_0 a1).f0)] rfl zl ?_; (with_reducible refine (impl_count.calls k ((rd_T44 l0_0 a1).f0) t551 _ A5.out).mono ?_); rintro e w' ⟨rfl, ⟨nd, rfl⟩⟩; refine ⟨_, rfl, ?_⟩) | ((with_reducible refine gate_dst (N := 20) rfl ?_); refine Kd.R_lit (Kd.int .i64) _ 3 ?hg (N := 20) ?hd (xs := ([(rd_T44 l0_0 a1).f1] : List Int)) (inner := [.int .i64 ((rd_T44 l0_0 a1).f1)]) (ok := fun _ => True) (okp := fun _ => True) ?hr ?hp (fun _ hk => hk) trivial (Below.refl _ _) (Nat.le_refl _) (by simp) ?_; (case hd => rfl); (case hg => rfl); (case hr => first | (go_simp; done) | (go_simp; rfl)); (case hp => exact (Reps.one (show Kd.M (Kd.int .i64) _ _ _ ((rd_T44 l0_0 a1).f1) [.int .i64 ((rd_T44 l0_0 a1).f1)] from rfl) (Reps.none _ _))); intro v553 w11 ho12 hb hg_ hnew_; clear hg_ hnew_; (first | rw [← Ny552.out] at ho12 | (simp only [Int.reduceToNat] at ho12; rw [← Ny552.out] at ho12)); have n0_ := Aside0.mk (Kd.R_lower ho12 (below_size (zb HB.out))); have n1_ := Aside0.mk (blk_below (g := g0_) (o := .cells #[.slice (some ad549) l0_0.length c0_0] 30 (0, 0)) (zf BK0.out) hb); have n2_ := Aside0.mk (blk_below (g := gb550) (o := .cells #[.int .i64 ((rd_T44 l0_0 a1).f0), .int .i64 ((rd_T44 l0_0 a1).f1), .int .i64 ((rd_T44 l0_0 a1).f2)] 44 (0, 0)) (by (with_reducible repeat (first | refine blk_drewN ?_ _ | refine blk_drew ?_ | refine blk_alloc ?_ _)); refine blk_put (cs := #[.int .i64 ((rd_T44 l0_0 a1).f0), .int .i64 ((rd_T44 l0_0 a1).f1), .int .i64 0]) ?_ 2 _ rfl; (with_reducible repeat (first | refine blk_drewN ?_ _ | refine blk_drew ?_ | refine blk_alloc ?_ _)); refine blk_put (cs := #[.int .i64 ((rd_T44 l0_0 a1).f0), .int .i64 0, .int .i64 0]) ?_ 1 _ rfl; (with_reducible repeat (first | refine blk_drewN ?_ _ | refine blk_drew ?_ | refine blk_alloc ?_ _)); refine blk_put (cs := #[.int .i64 0, .int .i64 0, .int .i64 0]) ?_ 0 _ rfl; (with_reducible repeat (first | refine blk_drewN ?_ _ | refine blk_drew ?_ | refine blk_alloc ?_ _)); exact BK550.out) hb); have n3_ := Aside0.mk (below_step (zb HB.out) hb); clear BK0; clear BK550; clear HB; have HO554 := n0_; have BK0 := n1_; have BK550 := n2_; have HB := n3_; clear n0_ n1_ n2_ n3_; clear hb ho12))
    go_ret
    exact ⟨_, ze, zr HO554.out, zb HB.out⟩
   ·rw [if_neg c6] at H
    have c6b0 : (t551 == 1) = false := beq_eq_false_iff_ne.mpr c6
    have c6b1 : (t551 != 1) = true := bne_iff_ne.mpr c6
    by_cases c13 : t551 = 2
    ·rw [if_pos c13] at H
     have c13b0 : (t551 == 2) = true := beq_iff_eq.mpr c13
     have c13b1 : (t551 != 2) = false := bne_eq_false_iff_eq.mpr c13
     clear c13
     obtain ⟨y555, hy555⟩ : ∃ y_ : List Int, y_ = (([(rd_T44 l0_0 a1).f1, (rd_T44 l0_0 a1).f2] : List Int)) := ⟨_, rfl⟩
     replace H : (some y555) = some r := by first | (rw [hy555]; with_reducible exact H) | (have H2_ := (Option.bind_some _ _).symm.trans H; rw [hy555]; with_reducible exact H2_) | (have H2_ := (Option.bind_some _ _).symm.trans H; with_reducible exact H2_) | with_reducible exact H | (rw [hy555]; exact H) | exact H
     have Ny555 := Aside0.mk hy555
     clear hy555
     obtain rfl := Option.some.inj H
     have hcz14_0 : w.cell? ⟨g0_, 0, none⟩ = some (.slice A0_0 l0_0.length c0_0) := (blk_cell BK0.out 0).trans rfl
     have hfz14_0 := blk_frozen BK0.out 0
     have p549 : 0 ≤ (a1 : Int) := of_decide_eq_true (by first | (with_reducible assumption) | assumption)
     have q549 : a1 < (l0_0.length : Int) := of_decide_eq_true (by first | (with_reducible assumption) | assumption)
     obtain ⟨ad549, e549, hx549_0, hx549_1, hx549_2⟩ := at_T44 HR0_0.out a1 p549 q549
     cases e549
     replace p549 := eq_true p549
     replace q549 := eq_true q549
     go_enter Try.func53, Try.ntmps53
     go_wp2_with (first | ((with_reducible refine gate_dst (N := 5) rfl ?_); refine box_event ?hg (N := 5) ?hd (cs := #[.int .i64 0, .int .i64 0, .int .i64 0]) (t := 44) ?hr ?_; (case hd => rfl); (case hg => rfl); (case hr => first | (go_simp; done) | (go_simp; rfl)); intro gb550 hg w15 hbox hb; have n0_ := Aside0.mk (blk_below (zh BK0.out) hb); have n1_ := Aside0.mk (below_step (zb HB.out) hb); have n2_ := Aside0.mk (hbox); have n3_ := Aside0.mk ((by rw [hg]; exact (below_size (zb HB.out)) : w.heap.size ≤ gb550)); have n4_ := Aside0.mk ((by rw [hg]; exact (below_size (zb HB.out)) : w.heap.size ≤ gb550)); have n5_ := Aside0.mk ((by rw [hg]; exact Nat.ne_of_lt (blk_lt (zh BK0.out)) : g0_ ≠ gb550)); have n6_ := Aside0.mk ((by rw [hg]; exact Nat.ne_of_gt (blk_lt (zh BK0.out)) : gb550 ≠ g0_)); clear BK0; clear HB; have BK0 := n0_; have HB := n1_; have BK550 := n2_; have GW550 := n3_; have GE550 := n4_; have NB0_550 := n5_; have NB550_0 := n6_; clear n0_ n1_ n2_ n3_ n4_ n5_ n6_; clear hb hbox hg; have hnb16 := NB550_0.out; have hnc16 := NB0_550.out; have hcz17_0 : w15.cell? ⟨gb550, 0, none⟩ = some (.int .i64 0) := (blk_cell BK550.out 0).trans rfl; have hcz17_1 : w15.cell? ⟨gb550, 1, none⟩ = some (.int .i64 0) := (blk_cell BK550.out 1).trans rfl; have hcz17_2 : w15.cell? ⟨gb550, 2, none⟩ = some (.int .i64 0) := (blk_cell BK550.out 2).trans rfl; have hfz17_0 := blk_frozen BK550.out 0; have hfz17_1 := blk_frozen BK550.out 1; have hfz17_2 := blk_frozen BK550.out 2) | ((with_reducible refine gate_callee (f := 86) rfl ?_); refine goesL_ (some 15) rfl rfl Try.func86 (by kernel_rfl) rfl #[.int .i64 ((rd_T44 l0_0 a1).f0)] rfl zl ?_; (with_reducible refine (impl_count.calls k ((rd_T44 l0_0 a1).f0) t551 _ A5.out).mono ?_); rintro e w' ⟨rfl, ⟨nd, rfl⟩⟩; refine ⟨_, rfl, ?_⟩) | ((with_reducible refine gate_dst (N := 27) rfl ?_); refine Kd.R_lit (Kd.int .i64) _ 3 ?hg (N := 27) ?hd (xs := ([(rd_T44 l0_0 a1).f1, (rd_T44 l0_0 a1).f2] : List Int)) (inner := [.int .i64 ((rd_T44 l0_0 a1).f1), .int .i64 ((rd_T44 l0_0 a1).f2)]) (ok := fun _ => True) (okp := fun _ => True) ?hr ?hp (fun _ hk => hk) trivial (Below.refl _ _) (Nat.le_refl _) (by simp) ?_; (case hd => rfl); (case hg => rfl); (case hr => first | (go_simp; done) | (go_simp; rfl)); (case hp => exact (Reps.one (show Kd.M (Kd.int .i64) _ _ _ ((rd_T44 l0_0 a1).f1) [.int .i64 ((rd_T44 l0_0 a1).f1)] from rfl) (Reps.one (show Kd.M (Kd.int .i64) _ _ _ ((rd_T44 l0_0 a1).f2) [.int .i64 ((rd_T44 l0_0 a1).f2)] from rfl) (Reps.none _ _)))); intro v556 w18 ho19 hb hg_ hnew_; clear hg_ hnew_; (first | rw [← Ny555.out] at ho19 | (simp only [Int.reduceToNat] at ho19; rw [← Ny555.out] at ho19)); have n0_ := Aside0.mk (Kd.R_lower ho19 (below_size (zb HB.out))); have n1_ := Aside0.mk (blk_below (g := g0_) (o := .cells #[.slice (some ad549) l0_0.length c0_0] 30 (0, 0)) (zf BK0.out) hb); have n2_ := Aside0.mk (blk_below (g := gb550) (o := .cells #[.int .i64 ((rd_T44 l0_0 a1).f0), .int .i64 ((rd_T44 l0_0 a1).f1), .int .i64 ((rd_T44 l0_0 a1).f2)] 44 (0, 0)) (by (with_reducible repeat (first | refine blk_drewN ?_ _ | refine blk_drew ?_ | refine blk_alloc ?_ _)); refine blk_put (cs := #[.int .i64 ((rd_T44 l0_0 a1).f0), .int .i64 ((rd_T44 l0_0 a1).f1), .int .i64 0]) ?_ 2 _ rfl; (with_reducible repeat (first | refine blk_drewN ?_ _ | refine blk_drew ?_ | refine blk_alloc ?_ _)); refine blk_put (cs := #[.int .i64 ((rd_T44 l0_0 a1).f0), .int .i64 0, .int .i64 0]) ?_ 1 _ rfl; (with_reducible repeat (first | refine blk_drewN ?_ _ | refine blk_drew ?_ | refine blk_alloc ?_ _)); refine blk_put (cs := #[.int .i64 0, .int .i64 0, .int .i64 0]) ?_ 0 _ rfl; (with_reducible repeat (first | refine blk_drewN ?_ _ | refine blk_drew ?_ | refine blk_alloc ?_ _)); exact BK550.out) hb); have n3_ := Aside0.mk (below_step (zb HB.out) hb); clear BK0; clear BK550; clear HB; have HO557 := n0_; have BK0 := n1_; have BK550 := n2_; have HB := n3_; clear n0_ n1_ n2_ n3_; clear hb ho19))
     go_ret
     exact ⟨_, ze, zr HO557.out, zb HB.out⟩
    ·rw [if_neg c13] at H
     have c13b0 : (t551 == 2) = false := beq_eq_false_iff_ne.mpr c13
     have c13b1 : (t551 != 2) = true := bne_iff_ne.mpr c13
     obtain rfl := Option.some.inj H
     have hcz20_0 : w.cell? ⟨g0_, 0, none⟩ = some (.slice A0_0 l0_0.length c0_0) := (blk_cell BK0.out 0).trans rfl
     have hfz20_0 := blk_frozen BK0.out 0
     have p549 : 0 ≤ (a1 : Int) := of_decide_eq_true (by first | (with_reducible assumption) | assumption)
     have q549 : a1 < (l0_0.length : Int) := of_decide_eq_true (by first | (with_reducible assumption) | assumption)
     obtain ⟨ad549, e549, hx549_0, hx549_1, hx549_2⟩ := at_T44 HR0_0.out a1 p549 q549
     cases e549
     replace p549 := eq_true p549
     replace q549 := eq_true q549
     go_enter Try.func53, Try.ntmps53
     go_wp2_with (first | ((with_reducible refine gate_dst (N := 5) rfl ?_); refine box_event ?hg (N := 5) ?hd (cs := #[.int .i64 0, .int .i64 0, .int .i64 0]) (t := 44) ?hr ?_; (case hd => rfl); (case hg => rfl); (case hr => first | (go_simp; done) | (go_simp; rfl)); intro gb550 hg w21 hbox hb; have n0_ := Aside0.mk (blk_below (zh BK0.out) hb); have n1_ := Aside0.mk (below_step (zb HB.out) hb); have n2_ := Aside0.mk (hbox); have n3_ := Aside0.mk ((by rw [hg]; exact (below_size (zb HB.out)) : w.heap.size ≤ gb550)); have n4_ := Aside0.mk ((by rw [hg]; exact (below_size (zb HB.out)) : w.heap.size ≤ gb550)); have n5_ := Aside0.mk ((by rw [hg]; exact Nat.ne_of_lt (blk_lt (zh BK0.out)) : g0_ ≠ gb550)); have n6_ := Aside0.mk ((by rw [hg]; exact Nat.ne_of_gt (blk_lt (zh BK0.out)) : gb550 ≠ g0_)); clear BK0; clear HB; have BK0 := n0_; have HB := n1_; have BK550 := n2_; have GW550 := n3_; have GE550 := n4_; have NB0_550 := n5_; have NB550_0 := n6_; clear n0_ n1_ n2_ n3_ n4_ n5_ n6_; clear hb hbox hg; have hnb22 := NB550_0.out; have hnc22 := NB0_550.out; have hcz23_0 : w21.cell? ⟨gb550, 0, none⟩ = some (.int .i64 0) := (blk_cell BK550.out 0).trans rfl; have hcz23_1 : w21.cell? ⟨gb550, 1, none⟩ = some (.int .i64 0) := (blk_cell BK550.out 1).trans rfl; have hcz23_2 : w21.cell? ⟨gb550, 2, none⟩ = some (.int .i64 0) := (blk_cell BK550.out 2).trans rfl; have hfz23_0 := blk_frozen BK550.out 0; have hfz23_1 := blk_frozen BK550.out 1; have hfz23_2 := blk_frozen BK550.out 2) | ((with_reducible refine gate_callee (f := 86) rfl ?_); refine goesL_ (some 15) rfl rfl Try.func86 (by kernel_rfl) rfl #[.int .i64 ((rd_T44 l0_0 a1).f0)] rfl zl ?_; (with_reducible refine (impl_count.calls k ((rd_T44 l0_0 a1).f0) t551 _ A5.out).mono ?_); rintro e w' ⟨rfl, ⟨nd, rfl⟩⟩; refine ⟨_, rfl, ?_⟩))
     go_ret
     exact ⟨_, ze, by first | exact Kd.R_nil _ _ _ _ _ | exact Kd.N_nil _ _ _ _ _ | exact Kd.V_nil _ _ _ _ _ | exact Kd.Q_nil _ _ _ _ _ | exact Kd.S_nil _ _ _ _ _, zb HB.out⟩
  ·rw [if_neg c4] at H
   exact absurd H (by simp)
 ·rw [if_neg c3] at H
  exact absurd H (by simp)

/-! ### impl_IsPublic: function 126 -/
def impl_IsPublic.f (a0 : Int) : Option (Bool) := (impl_inRange.f a0 0 49).bind fun t558 => (some t558)
set_option maxHeartbeats 8000000 in
set_option maxRecDepth 100000 in
theorem impl_IsPublic.calls (a0 : Int) (r : Bool) (w : World) (h : impl_IsPublic.f a0 = some r) :
  Calls Try.prog 126 #[.int .i64 a0] w fun e w' => e = .returned (.bool r) ∧ Drawn0 w w' := by
 have H : ((impl_inRange.f a0 0 49).bind fun t558 => (some t558)) = some r := h
 clear h
 replace H := Option.bind_eq_some_iff.mp H
 obtain ⟨t558, A20, H⟩ := H
 replace H : (some t558) = some r := H
 have A2 := Aside0.mk A20
 clear A20
 obtain rfl := Option.some.inj H
 go_enter Try.func126, Try.ntmps126
 go_wp2_with (first | ((with_reducible refine gate_callee (f := 84) rfl ?_); refine goesL_ (some 4) rfl rfl Try.func84 (by kernel_rfl) rfl #[.int .i64 a0, .int .i64 0, .int .i64 49] rfl zl ?_; (with_reducible refine (impl_inRange.calls a0 0 49 t558 _ A2.out).mono ?_); rintro e w' ⟨rfl, ⟨nd, rfl⟩⟩; refine ⟨_, rfl, ?_⟩))
 go_ret
 exact ⟨by first | rfl | (simp; done) | (simp [*]; done), by repeat (first | exact Drawn0.refl _ | apply Drawn0.step)⟩

/-! ### impl_Node: function 122 -/
def impl_Node.l0 : Nat → List (S44) → Int → Int → Int → Int → Int → Option (Int)
 | 0, _, _, _, _, _, _ => none
 | k + 1, x0, x7, x8, x560000, x560001, x560002 => if x8 < x7 then (if 0 ≤ x8 then (if x8 < (x0.length : Int) then (if (x560000 == ((rd_T44 x0 x8).f0) && (x560001 == ((rd_T44 x0 x8).f1) && (x560002 == ((rd_T44 x0 x8).f2)))) = true then (some x8) else (impl_Node.l0 k x0 x7 (wrap64 (x8 + 1)) x560000 x560001 x560002)) else (none)) else (none)) else (some (-1))
def impl_Node.f (k : Nat) (l0 : List (S44)) (a1_0 : Int) (a1_1 : Int) (a1_2 : Int) : Option (Int) := impl_Node.l0 k l0 (l0.length : Int) 0 a1_0 a1_1 a1_2
theorem impl_Node.mono_l : ∀ k, (∀ y0 y1 y2 y3 y4 y5, LeO (impl_Node.l0 k y0 y1 y2 y3 y4 y5) (impl_Node.l0 (k + 1) y0 y1 y2 y3 y4 y5))
 | 0 => fun _ _ _ _ _ _ r h => by simp [impl_Node.l0] at h
 | k + 1 => by
  have ih0 := impl_Node.mono_l k
  ·intro y0 y1 y2 y3 y4 y5
   unfold impl_Node.l0
   repeat' first
   | (with_reducible exact ih0 _ _ _ _ _ _)
   | (with_reducible exact LeO.refl _)
   | (with_reducible exact LeO.none _)
   | (with_reducible refine LeO.ite ?_ ?_)
   | (with_reducible refine LeO.bind ?_ (fun _ => ?_))
   | exact ih0 _ _ _ _ _ _
   | exact LeO.none _
   | refine LeO.ite ?_ ?_
   | refine LeO.bind ?_ (fun _ => ?_)
theorem impl_Node.mono : ∀ a0 a1 a2 a3 k, LeO (impl_Node.f k a0 a1 a2 a3) (impl_Node.f (k + 1) a0 a1 a2 a3) := by
 intro a0 a1 a2 a3 k
 have ih0 := impl_Node.mono_l k
 unfold impl_Node.f
 repeat' first
   | (with_reducible exact ih0 _ _ _ _ _ _)
   | (with_reducible exact LeO.refl _)
   | (with_reducible exact LeO.none _)
   | (with_reducible refine LeO.ite ?_ ?_)
   | (with_reducible refine LeO.bind ?_ (fun _ => ?_))
   | exact ih0 _ _ _ _ _ _
   | exact LeO.none _
   | refine LeO.ite ?_ ?_
   | refine LeO.bind ?_ (fun _ => ?_)
set_option maxHeartbeats 8000000 in
set_option maxRecDepth 100000 in
theorem impl_Node.calls (k : Nat) (A0 : Option Addr) (c0 : Nat) (l0 : List (S44)) (a1_0 : Int) (a1_1 : Int) (a1_2 : Int) (r : Int) (w : World) (hr0 : Kd.C k44 w A0 l0.length l0) (hc0 : l0.length ≤ c0) (h : impl_Node.f k l0 a1_0 a1_1 a1_2 = some r) :
  Calls Try.prog 122 #[.slice A0 l0.length c0, .agg #[.int .i64 a1_0, .int .i64 a1_1, .int .i64 a1_2]] w fun e w' => e = .returned (.int .i64 r) ∧ Below w.heap.size w w' := by
 have hu44 := Try.underlying44
 have HR0 := Aside0.mk hr0
 have HC0 := Aside0.mk hc0
 clear hr0 hc0
 have HB := Aside0.mk (Below.refl w.heap.size w)
 have H : (impl_Node.l0 k l0 (l0.length : Int) 0 a1_0 a1_1 a1_2) = some r := h
 clear h
 have H' := Aside0.mk H
 clear H
 go_enter Try.func122, Try.ntmps122
 go_wp2_with (first | ((with_reducible refine gate_dst (N := 3) rfl ?_); refine box_event ?hg (N := 3) ?hd (cs := #[.int .i64 a1_0, .int .i64 a1_1, .int .i64 a1_2]) (t := 44) ?hr ?_; (case hd => rfl); (case hg => rfl); (case hr => first | (go_simp; done) | (go_simp; rfl)); intro gb559 hg w3 hbox hb; have n0_ := Aside0.mk (below_step (zb HB.out) hb); have n1_ := Aside0.mk (hbox); have n2_ := Aside0.mk ((by rw [hg]; exact (below_size (zb HB.out)) : w.heap.size ≤ gb559)); have n3_ := Aside0.mk ((by rw [hg]; exact (below_size (zb HB.out)) : w.heap.size ≤ gb559)); clear HB; have HB := n0_; have BK559 := n1_; have GW559 := n2_; have GE559 := n3_; clear n0_ n1_ n2_ n3_; clear hb hbox hg))
 repeat (go_quiet (first | ((with_reducible refine gate_dst (N := 3) rfl ?_); refine box_event ?hg (N := 3) ?hd (cs := #[.int .i64 a1_0, .int .i64 a1_1, .int .i64 a1_2]) (t := 44) ?hr ?_; (case hd => rfl); (case hg => rfl); (case hr => first | (go_simp; done) | (go_simp; rfl)); intro gb559 hg w3 hbox hb; have n0_ := Aside0.mk (below_step (zb HB.out) hb); have n1_ := Aside0.mk (hbox); have n2_ := Aside0.mk ((by rw [hg]; exact (below_size (zb HB.out)) : w.heap.size ≤ gb559)); have n3_ := Aside0.mk ((by rw [hg]; exact (below_size (zb HB.out)) : w.heap.size ≤ gb559)); clear HB; have HB := n0_; have BK559 := n1_; have GW559 := n2_; have GE559 := n3_; clear n0_ n1_ n2_ n3_; clear hb hbox hg)); try go_wp2_with (first | ((with_reducible refine gate_dst (N := 3) rfl ?_); refine box_event ?hg (N := 3) ?hd (cs := #[.int .i64 a1_0, .int .i64 a1_1, .int .i64 a1_2]) (t := 44) ?hr ?_; (case hd => rfl); (case hg => rfl); (case hr => first | (go_simp; done) | (go_simp; rfl)); intro gb559 hg w3 hbox hb; have n0_ := Aside0.mk (below_step (zb HB.out) hb); have n1_ := Aside0.mk (hbox); have n2_ := Aside0.mk ((by rw [hg]; exact (below_size (zb HB.out)) : w.heap.size ≤ gb559)); have n3_ := Aside0.mk ((by rw [hg]; exact (below_size (zb HB.out)) : w.heap.size ≤ gb559)); clear HB; have HB := n0_; have BK559 := n1_; have GW559 := n2_; have GE559 := n3_; clear n0_ n1_ n2_ n3_; clear hb hbox hg)))
 go_loopg [8] k (fun kq v8 w' => ∃ (x8_1 : Int), v8 = .int .i64 x8_1 ∧ Aside0 (impl_Node.l0 kq l0 (l0.length : Int) x8_1 a1_0 a1_1 a1_2 = some r) ∧ Aside0 (kq ≤ k) ∧ Aside0 (w'.heap[gb559]? = some (.cells #[.int .i64 a1_0, .int .i64 a1_1, .int .i64 a1_2] 44 (0, 0))) ∧ Aside0 (Below w.heap.size w w'))
 case atStart => exact ⟨(0), (by first | rfl | (simp; done) | (simp [*]; done)), H', ⟨Nat.le_refl _⟩, ⟨zh BK559.out⟩, ⟨zb HB.out⟩⟩
 case round =>
  clear H'
  try clear c1
  try clear p2
  obtain ⟨x8_1, rfl, HA, HK1, BK559, HB⟩ := hrel
  cases gk with
  | zero => exact absurd HA.out (by simp [impl_Node.l0])
  | succ k1 =>
   have H := HA.out
   clear HA
   simp only [impl_Node.l0] at H
   by_cases c4 : x8_1 < (l0.length : Int)
   ·rw [if_pos c4] at H
    have c4b0 : decide (x8_1 < (l0.length : Int)) = true := decide_eq_true c4
    clear c4
    by_cases c5 : 0 ≤ x8_1
    ·rw [if_pos c5] at H
     have c5b0 : decide (0 ≤ x8_1) = true := decide_eq_true c5
     clear c5
     by_cases c6 : x8_1 < (l0.length : Int)
     ·rw [if_pos c6] at H
      have c6b0 : decide (x8_1 < (l0.length : Int)) = true := decide_eq_true c6
      clear c6
      by_cases c7 : (a1_0 == ((rd_T44 l0 x8_1).f0) && (a1_1 == ((rd_T44 l0 x8_1).f1) && (a1_2 == ((rd_T44 l0 x8_1).f2)))) = true
      ·rw [if_pos c7] at H
       have c7b0 : (a1_0 == ((rd_T44 l0 x8_1).f0) && (a1_1 == ((rd_T44 l0 x8_1).f1) && (a1_2 == ((rd_T44 l0 x8_1).f2)))) = true := c7
       (try (have c7b1 : decide (a1_0 = ((rd_T44 l0 x8_1).f0) && (a1_1 == ((rd_T44 l0 x8_1).f1) && (a1_2 == ((rd_T44 l0 x8_1).f2)))) = true := by simpa using c7))
       (try (have c7b2 : (a1_0 == ((rd_T44 l0 x8_1).f0) && (a1_1 == ((rd_T44 l0 x8_1).f1) && (a1_2 == ((rd_T44 l0 x8_1).f2)))) = true := by simpa using c7))
       clear c7
       obtain rfl := Option.some.inj H
       have hcz8_0 : wr.cell? ⟨gb559, 0, none⟩ = some (.int .i64 a1_0) := (blk_cell BK559.out 0).trans rfl
       have hcz8_1 : wr.cell? ⟨gb559, 1, none⟩ = some (.int .i64 a1_1) := (blk_cell BK559.out 1).trans rfl
       have hcz8_2 : wr.cell? ⟨gb559, 2, none⟩ = some (.int .i64 a1_2) := (blk_cell BK559.out 2).trans rfl
       have hfz8_0 := blk_frozen BK559.out 0
       have hfz8_1 := blk_frozen BK559.out 1
       have hfz8_2 := blk_frozen BK559.out 2
       have p560 : 0 ≤ (x8_1 : Int) := of_decide_eq_true (by first | (with_reducible assumption) | assumption)
       have q560 : x8_1 < (l0.length : Int) := of_decide_eq_true (by first | (with_reducible assumption) | assumption)
       obtain ⟨ad560, e560, hx560_0, hx560_1, hx560_2⟩ := at_T44 HR0.out x8_1 p560 q560
       cases e560
       replace hx560_0 := (HB.out.cell (World.block_lt_of_cell? w _ hx560_0)).trans hx560_0
       replace hx560_1 := (HB.out.cell (World.block_lt_of_cell? w _ hx560_1)).trans hx560_1
       replace hx560_2 := (HB.out.cell (World.block_lt_of_cell? w _ hx560_2)).trans hx560_2
       replace p560 := eq_true p560
       replace q560 := eq_true q560
       go_wp2
       repeat (go_quiet (fail); try go_wp2)
       go_ret
       exact ⟨ze, zb HB.out⟩
      ·rw [if_neg c7] at H
       have c7b0 : (a1_0 == ((rd_T44 l0 x8_1).f0) && (a1_1 == ((rd_T44 l0 x8_1).f1) && (a1_2 == ((rd_T44 l0 x8_1).f2)))) = false := by simpa using c7
       (try (have c7b1 : decide (a1_0 = ((rd_T44 l0 x8_1).f0) && (a1_1 == ((rd_T44 l0 x8_1).f1) && (a1_2 == ((rd_T44 l0 x8_1).f2)))) = false := by simpa using c7))
       (try (have c7b2 : (a1_0 == ((rd_T44 l0 x8_1).f0) && (a1_1 == ((rd_T44 l0 x8_1).f1) && (a1_2 == ((rd_T44 l0 x8_1).f2)))) = false := by simpa using c7))
       (try (have c7b3 : ¬ (a1_0 = ((rd_T44 l0 x8_1).f0) && (a1_1 == ((rd_T44 l0 x8_1).f1) && (a1_2 == ((rd_T44 l0 x8_1).f2)))) := by simpa using c7))
       clear c7
       have H' := Aside0.mk H
       clear H
       have hcz9_0 : wr.cell? ⟨gb559, 0, none⟩ = some (.int .i64 a1_0) := (blk_cell BK559.out 0).trans rfl
       have hcz9_1 : wr.cell? ⟨gb559, 1, none⟩ = some (.int .i64 a1_1) := (blk_cell BK559.out 1).trans rfl
       have hcz9_2 : wr.cell? ⟨gb559, 2, none⟩ = some (.int .i64 a1_2) := (blk_cell BK559.out 2).trans rfl
       have hfz9_0 := blk_frozen BK559.out 0
       have hfz9_1 := blk_frozen BK559.out 1
       have hfz9_2 := blk_frozen BK559.out 2
       have p560 : 0 ≤ (x8_1 : Int) := of_decide_eq_true (by first | (with_reducible assumption) | assumption)
       have q560 : x8_1 < (l0.length : Int) := of_decide_eq_true (by first | (with_reducible assumption) | assumption)
       obtain ⟨ad560, e560, hx560_0, hx560_1, hx560_2⟩ := at_T44 HR0.out x8_1 p560 q560
       cases e560
       replace hx560_0 := (HB.out.cell (World.block_lt_of_cell? w _ hx560_0)).trans hx560_0
       replace hx560_1 := (HB.out.cell (World.block_lt_of_cell? w _ hx560_1)).trans hx560_1
       replace hx560_2 := (HB.out.cell (World.block_lt_of_cell? w _ hx560_2)).trans hx560_2
       replace p560 := eq_true p560
       replace q560 := eq_true q560
       go_wp2
       repeat (go_quiet (fail); try go_wp2)
       go_roundg k1
       case measure => have := HK1.out; omega
       case rel => exact ⟨(wrap64 (x8_1 + 1)), (by first | rfl | (simp; done) | (simp [*]; done)), H', ⟨by have := HK1.out; omega⟩, ⟨zh BK559.out⟩, ⟨zb HB.out⟩⟩
     ·rw [if_neg c6] at H
      exact absurd H (by simp)
    ·rw [if_neg c5] at H
     exact absurd H (by simp)
   ·rw [if_neg c4] at H
    have c4b0 : decide (x8_1 < (l0.length : Int)) = false := decide_eq_false c4
    clear c4
    obtain rfl := Option.some.inj H
    go_wp2
    repeat (go_quiet (fail); try go_wp2)
    go_ret
    exact ⟨ze, zb HB.out⟩

end Go.Proofs.Ytdgahpigcaejbaa.D
end
