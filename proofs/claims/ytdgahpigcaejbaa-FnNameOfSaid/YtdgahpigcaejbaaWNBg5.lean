import Derived.Test.YtdgahpigcaejbaaWNB0
import Derived.Test.YtdgahpigcaejbaaWNBg0
import Derived.Test.YtdgahpigcaejbaaWNBg4
section
-- Written by this session's program (wip/tools/gprint.py over the kit's print) out of the translation; Lean checks it.
namespace Go.Proofs.Ytdgahpigcaejbaa.B
open Go.RowKit Go.Proofs.YtdgahpigcaejbaaW.PrintWords Go.Proofs.YtdgahpigcaejbaaW.PrintLast Go.Proofs.YtdgahpigcaejbaaW.PrintMore
attribute [local go_sem] max2_int min2_int max_two min_two max_three min_three max_four min_four   -- for this text's walks alone
set_option linter.unusedVariables false
set_option linter.unusedSimpArgs false
set_option maxRecDepth 100000

attribute [local go_sem high] eqA44
/-! ### impl_copyPool: function 80 -/
def impl_copyPool.f (l0_0 : List (S44)) : Option ((List (S44))) := (impl_Node_110.f l0_0).bind fun t311 => (some t311)
set_option maxHeartbeats 8000000 in
set_option maxRecDepth 100000 in
theorem impl_copyPool.calls (A0_0 : Option Addr) (c0_0 : Nat) (l0_0 : List (S44)) (r : List (S44)) (w : World) (hr0_0 : Kd.C k44 w A0_0 l0_0.length l0_0) (hc0_0 : l0_0.length ≤ c0_0) (h : impl_copyPool.f l0_0 = some r) :
  Calls Try.prog 80 #[.agg #[.slice A0_0 l0_0.length c0_0]] w fun e w' => ∃ v0_ : Value, e = .returned (.agg #[v0_]) ∧ Kd.R k44 44 w' w.heap.size (fun _ => True) v0_ r ∧ Below w.heap.size w w' := by
 have hu30 := Try.underlying30
 have HR0_0 := Aside0.mk hr0_0
 have HC0_0 := Aside0.mk hc0_0
 clear hr0_0 hc0_0
 have HB := Aside0.mk (Below.refl w.heap.size w)
 have H : ((impl_Node_110.f l0_0).bind fun t311 => (some t311)) = some r := h
 clear h
 replace H := Option.bind_eq_some_iff.mp H
 obtain ⟨t311, A20, H⟩ := H
 replace H : (some t311) = some r := H
 have A2 := Aside0.mk A20
 clear A20
 obtain rfl := Option.some.inj H
 go_enter Try.func80, Try.ntmps80
 go_wp2_with (first | ((with_reducible refine gate_dst (N := 1) rfl ?_); refine box_event ?hg (N := 1) ?hd (cs := #[.slice A0_0 l0_0.length c0_0]) (t := 30) ?hr ?_; (case hd => rfl); (case hg => rfl); (case hr => first | (go_simp; done) | (go_simp; rfl)); intro gb309 hg w3 hbox hb; have n0_ := Aside0.mk (below_step (zb HB.out) hb); have n1_ := Aside0.mk (hbox); have n2_ := Aside0.mk ((by rw [hg]; exact (below_size (zb HB.out)) : w.heap.size ≤ gb309)); have n3_ := Aside0.mk ((by rw [hg]; exact (below_size (zb HB.out)) : w.heap.size ≤ gb309)); clear HB; have HB := n0_; have BK309 := n1_; have GW309 := n2_; have GE309 := n3_; clear n0_ n1_ n2_ n3_; clear hb hbox hg) | ((with_reducible refine gate_dst (N := 2) rfl ?_); refine box_event ?hg (N := 2) ?hd (cs := #[.slice none 0 0]) (t := 30) ?hr ?_; (case hd => rfl); (case hg => rfl); (case hr => first | (go_simp; done) | (go_simp; rfl)); intro gb310 hg w4 hbox hb; have n0_ := Aside0.mk (blk_below (zh BK309.out) hb); have n1_ := Aside0.mk (below_step (zb HB.out) hb); have n2_ := Aside0.mk (hbox); have n3_ := Aside0.mk ((by rw [hg]; exact (below_size (zb HB.out)) : w.heap.size ≤ gb310)); have n4_ := Aside0.mk ((by rw [hg]; exact (below_size (zb HB.out)) : w.heap.size ≤ gb310)); have n5_ := Aside0.mk ((by rw [hg]; exact Nat.ne_of_lt (blk_lt (zh BK309.out)) : gb309 ≠ gb310)); have n6_ := Aside0.mk ((by rw [hg]; exact Nat.ne_of_gt (blk_lt (zh BK309.out)) : gb310 ≠ gb309)); clear BK309; clear HB; have BK309 := n0_; have HB := n1_; have BK310 := n2_; have GW310 := n3_; have GE310 := n4_; have NB309_310 := n5_; have NB310_309 := n6_; clear n0_ n1_ n2_ n3_ n4_ n5_ n6_; clear hb hbox hg; have hnb5 := NB309_310.out; have hnc5 := NB310_309.out; have hcz6_0 : w4.cell? ⟨gb309, 0, none⟩ = some (.slice A0_0 l0_0.length c0_0) := (blk_cell BK309.out 0).trans rfl; have hfz6_0 := blk_frozen BK309.out 0) | ((with_reducible refine gate_callee (f := 110) rfl ?_); refine goesL_ (some 5) rfl rfl Try.func110 (by kernel_rfl) rfl #[.slice A0_0 l0_0.length c0_0] rfl zl ?_; (with_reducible refine (impl_Node_110.calls _ _ l0_0 t311 _ ?side1 ?side2 A2.out).mono ?_); (case side1 => exact zc (Kd.C_below HR0_0.out HB.out)); (case side2 => exact HC0_0.out); rintro e w7 ⟨v312, rfl, ho0, hb⟩; refine ⟨_, rfl, ?_⟩; have n0_ := Aside0.mk (Kd.R_lower ho0 (below_size (zb HB.out))); have n1_ := Aside0.mk (blk_below (zh BK309.out) hb); have n2_ := Aside0.mk (blk_below (zh BK310.out) hb); have n3_ := Aside0.mk (below_step (zb HB.out) hb); clear BK309; clear BK310; clear HB; have HO313 := n0_; have BK309 := n1_; have BK310 := n2_; have HB := n3_; clear n0_ n1_ n2_ n3_; (try clear hb); (try clear hb2); (try clear hk); (try clear hi); (try clear ho0); obtain ⟨Ao8, co8, eo8⟩ := Kd.R_slice HO313.out; subst eo8; have hcz9_0 : w7.cell? ⟨gb310, 0, none⟩ = some (.slice none 0 0) := (blk_cell BK310.out 0).trans rfl; have hfz9_0 := blk_frozen BK310.out 0))
 refine bodyPost_ret (results_cell_row rfl _ _ gb310 30 #[.slice Ao8 t311.length co8] (0, 0) _ rfl (by (with_reducible repeat (first | refine blk_drewN ?_ _ | refine blk_drew ?_ | refine blk_alloc ?_ _)); refine blk_put (cs := #[.slice none 0 0]) ?_ 0 _ rfl; (with_reducible repeat (first | refine blk_drewN ?_ _ | refine blk_drew ?_ | refine blk_alloc ?_ _)); exact BK310.out) Try.underlying30 rfl (by kernel_rfl)) rfl ?_
 exact ⟨_, ze, zr (Kd.R_mono (Kd.R_far (p := ⟨gb310, 0, none⟩) (Kd.R_types HO313.out BK310.out (by decide)) (fun _ hk => hk.2) (.slice Ao8 t311.length co8)) (fun _ hk => trivial)), zb HB.out⟩

/-! ### impl_Node_122: function 122 -/
def impl_Node_122.l0 : Nat → List (S44) → Int → Int → Int → Int → Int → Option (Int)
 | 0, _, _, _, _, _, _ => none
 | k + 1, x0, x7, x8, x315000, x315001, x315002 => if x8 < x7 then (if 0 ≤ x8 then (if x8 < (x0.length : Int) then (if (x315000 == ((rd_T44 x0 x8).f0) && (x315001 == ((rd_T44 x0 x8).f1) && (x315002 == ((rd_T44 x0 x8).f2)))) = true then (some x8) else (impl_Node_122.l0 k x0 x7 (wrap64 (x8 + 1)) x315000 x315001 x315002)) else (none)) else (none)) else (some (-1))
def impl_Node_122.f (k : Nat) (l0 : List (S44)) (a1_0 : Int) (a1_1 : Int) (a1_2 : Int) : Option (Int) := impl_Node_122.l0 k l0 (l0.length : Int) 0 a1_0 a1_1 a1_2
theorem impl_Node_122.mono_l : ∀ k, (∀ y0 y1 y2 y3 y4 y5, LeO (impl_Node_122.l0 k y0 y1 y2 y3 y4 y5) (impl_Node_122.l0 (k + 1) y0 y1 y2 y3 y4 y5))
 | 0 => fun _ _ _ _ _ _ r h => by simp [impl_Node_122.l0] at h
 | k + 1 => by
  have ih0 := impl_Node_122.mono_l k
  ·intro y0 y1 y2 y3 y4 y5
   unfold impl_Node_122.l0
   repeat' first
   | (with_reducible exact ih0 _ _ _ _ _ _)
   | (with_reducible exact LeO.refl _)
   | (with_reducible exact LeO.none _)
   | (with_reducible refine LeO.ite ?_ ?_)
   | (with_reducible refine LeO.bind ?_ (fun _ => ?_))
   | exact ih0 _ _ _ _ _ _
   | exact LeO.none _
   | refine LeO.ite ?_ ?_
   | refine LeO.bind ?_ (fun _ => ?_)
theorem impl_Node_122.mono : ∀ a0 a1 a2 a3 k, LeO (impl_Node_122.f k a0 a1 a2 a3) (impl_Node_122.f (k + 1) a0 a1 a2 a3) := by
 intro a0 a1 a2 a3 k
 have ih0 := impl_Node_122.mono_l k
 unfold impl_Node_122.f
 repeat' first
   | (with_reducible exact ih0 _ _ _ _ _ _)
   | (with_reducible exact LeO.refl _)
   | (with_reducible exact LeO.none _)
   | (with_reducible refine LeO.ite ?_ ?_)
   | (with_reducible refine LeO.bind ?_ (fun _ => ?_))
   | exact ih0 _ _ _ _ _ _
   | exact LeO.none _
   | refine LeO.ite ?_ ?_
   | refine LeO.bind ?_ (fun _ => ?_)
set_option maxHeartbeats 8000000 in
set_option maxRecDepth 100000 in
theorem impl_Node_122.calls (k : Nat) (A0 : Option Addr) (c0 : Nat) (l0 : List (S44)) (a1_0 : Int) (a1_1 : Int) (a1_2 : Int) (r : Int) (w : World) (hr0 : Kd.C k44 w A0 l0.length l0) (hc0 : l0.length ≤ c0) (h : impl_Node_122.f k l0 a1_0 a1_1 a1_2 = some r) :
  Calls Try.prog 122 #[.slice A0 l0.length c0, .agg #[.int .i64 a1_0, .int .i64 a1_1, .int .i64 a1_2]] w fun e w' => e = .returned (.int .i64 r) ∧ Below w.heap.size w w' := by
 have hu44 := Try.underlying44
 have HR0 := Aside0.mk hr0
 have HC0 := Aside0.mk hc0
 clear hr0 hc0
 have HB := Aside0.mk (Below.refl w.heap.size w)
 have H : (impl_Node_122.l0 k l0 (l0.length : Int) 0 a1_0 a1_1 a1_2) = some r := h
 clear h
 have H' := Aside0.mk H
 clear H
 go_enter Try.func122, Try.ntmps122
 go_wp2_with (first | ((with_reducible refine gate_dst (N := 3) rfl ?_); refine box_event ?hg (N := 3) ?hd (cs := #[.int .i64 a1_0, .int .i64 a1_1, .int .i64 a1_2]) (t := 44) ?hr ?_; (case hd => rfl); (case hg => rfl); (case hr => first | (go_simp; done) | (go_simp; rfl)); intro gb314 hg w3 hbox hb; have n0_ := Aside0.mk (below_step (zb HB.out) hb); have n1_ := Aside0.mk (hbox); have n2_ := Aside0.mk ((by rw [hg]; exact (below_size (zb HB.out)) : w.heap.size ≤ gb314)); have n3_ := Aside0.mk ((by rw [hg]; exact (below_size (zb HB.out)) : w.heap.size ≤ gb314)); clear HB; have HB := n0_; have BK314 := n1_; have GW314 := n2_; have GE314 := n3_; clear n0_ n1_ n2_ n3_; clear hb hbox hg))
 repeat (go_quiet (first | ((with_reducible refine gate_dst (N := 3) rfl ?_); refine box_event ?hg (N := 3) ?hd (cs := #[.int .i64 a1_0, .int .i64 a1_1, .int .i64 a1_2]) (t := 44) ?hr ?_; (case hd => rfl); (case hg => rfl); (case hr => first | (go_simp; done) | (go_simp; rfl)); intro gb314 hg w3 hbox hb; have n0_ := Aside0.mk (below_step (zb HB.out) hb); have n1_ := Aside0.mk (hbox); have n2_ := Aside0.mk ((by rw [hg]; exact (below_size (zb HB.out)) : w.heap.size ≤ gb314)); have n3_ := Aside0.mk ((by rw [hg]; exact (below_size (zb HB.out)) : w.heap.size ≤ gb314)); clear HB; have HB := n0_; have BK314 := n1_; have GW314 := n2_; have GE314 := n3_; clear n0_ n1_ n2_ n3_; clear hb hbox hg)); try go_wp2_with (first | ((with_reducible refine gate_dst (N := 3) rfl ?_); refine box_event ?hg (N := 3) ?hd (cs := #[.int .i64 a1_0, .int .i64 a1_1, .int .i64 a1_2]) (t := 44) ?hr ?_; (case hd => rfl); (case hg => rfl); (case hr => first | (go_simp; done) | (go_simp; rfl)); intro gb314 hg w3 hbox hb; have n0_ := Aside0.mk (below_step (zb HB.out) hb); have n1_ := Aside0.mk (hbox); have n2_ := Aside0.mk ((by rw [hg]; exact (below_size (zb HB.out)) : w.heap.size ≤ gb314)); have n3_ := Aside0.mk ((by rw [hg]; exact (below_size (zb HB.out)) : w.heap.size ≤ gb314)); clear HB; have HB := n0_; have BK314 := n1_; have GW314 := n2_; have GE314 := n3_; clear n0_ n1_ n2_ n3_; clear hb hbox hg)))
 go_loopg [8] k (fun kq v8 w' => ∃ (x8_1 : Int), v8 = .int .i64 x8_1 ∧ Aside0 (impl_Node_122.l0 kq l0 (l0.length : Int) x8_1 a1_0 a1_1 a1_2 = some r) ∧ Aside0 (kq ≤ k) ∧ Aside0 (w'.heap[gb314]? = some (.cells #[.int .i64 a1_0, .int .i64 a1_1, .int .i64 a1_2] 44 (0, 0))) ∧ Aside0 (Below w.heap.size w w'))
 case atStart => exact ⟨(0), (by first | rfl | (simp; done) | (simp [*]; done)), H', ⟨Nat.le_refl _⟩, ⟨zh BK314.out⟩, ⟨zb HB.out⟩⟩
 case round =>
  clear H'
  try clear c1
  try clear p2
  obtain ⟨x8_1, rfl, HA, HK1, BK314, HB⟩ := hrel
  cases gk with
  | zero => exact absurd HA.out (by simp [impl_Node_122.l0])
  | succ k1 =>
   have H := HA.out
   clear HA
   simp only [impl_Node_122.l0] at H
   by_cases c4 : x8_1 < (l0.length : Int)
   ·rw [if_pos c4] at H
    have c4b0 : decide (x8_1 < (l0.length : Int)) = true := decide_eq_true c4
    clear c4
    by_cases c5 : 0 ≤ x8_1
    ·rw [if_pos c5] at H
     have c5b0 : decide (0 ≤ x8_1) = true := decide_eq_true c5
     clear c5
     by_cases c6 : x8_1 < (l0.length : Int)
     ·rw [if_pos c6] at H
      have c6b0 : decide (x8_1 < (l0.length : Int)) = true := decide_eq_true c6
      clear c6
      by_cases c7 : (a1_0 == ((rd_T44 l0 x8_1).f0) && (a1_1 == ((rd_T44 l0 x8_1).f1) && (a1_2 == ((rd_T44 l0 x8_1).f2)))) = true
      ·rw [if_pos c7] at H
       have c7b0 : (a1_0 == ((rd_T44 l0 x8_1).f0) && (a1_1 == ((rd_T44 l0 x8_1).f1) && (a1_2 == ((rd_T44 l0 x8_1).f2)))) = true := c7
       (try (have c7b1 : decide (a1_0 = ((rd_T44 l0 x8_1).f0) && (a1_1 == ((rd_T44 l0 x8_1).f1) && (a1_2 == ((rd_T44 l0 x8_1).f2)))) = true := by simpa using c7))
       (try (have c7b2 : (a1_0 == ((rd_T44 l0 x8_1).f0) && (a1_1 == ((rd_T44 l0 x8_1).f1) && (a1_2 == ((rd_T44 l0 x8_1).f2)))) = true := by simpa using c7))
       clear c7
       obtain rfl := Option.some.inj H
       have hcz8_0 : wr.cell? ⟨gb314, 0, none⟩ = some (.int .i64 a1_0) := (blk_cell BK314.out 0).trans rfl
       have hcz8_1 : wr.cell? ⟨gb314, 1, none⟩ = some (.int .i64 a1_1) := (blk_cell BK314.out 1).trans rfl
       have hcz8_2 : wr.cell? ⟨gb314, 2, none⟩ = some (.int .i64 a1_2) := (blk_cell BK314.out 2).trans rfl
       have hfz8_0 := blk_frozen BK314.out 0
       have hfz8_1 := blk_frozen BK314.out 1
       have hfz8_2 := blk_frozen BK314.out 2
       have p315 : 0 ≤ (x8_1 : Int) := of_decide_eq_true (by first | (with_reducible assumption) | assumption)
       have q315 : x8_1 < (l0.length : Int) := of_decide_eq_true (by first | (with_reducible assumption) | assumption)
       obtain ⟨ad315, e315, hx315_0, hx315_1, hx315_2⟩ := at_T44 HR0.out x8_1 p315 q315
       cases e315
       replace hx315_0 := (HB.out.cell (World.block_lt_of_cell? w _ hx315_0)).trans hx315_0
       replace hx315_1 := (HB.out.cell (World.block_lt_of_cell? w _ hx315_1)).trans hx315_1
       replace hx315_2 := (HB.out.cell (World.block_lt_of_cell? w _ hx315_2)).trans hx315_2
       replace p315 := eq_true p315
       replace q315 := eq_true q315
       go_wp2
       repeat (go_quiet (fail); try go_wp2)
       go_ret
       exact ⟨ze, zb HB.out⟩
      ·rw [if_neg c7] at H
       have c7b0 : (a1_0 == ((rd_T44 l0 x8_1).f0) && (a1_1 == ((rd_T44 l0 x8_1).f1) && (a1_2 == ((rd_T44 l0 x8_1).f2)))) = false := by simpa using c7
       (try (have c7b1 : decide (a1_0 = ((rd_T44 l0 x8_1).f0) && (a1_1 == ((rd_T44 l0 x8_1).f1) && (a1_2 == ((rd_T44 l0 x8_1).f2)))) = false := by simpa using c7))
       (try (have c7b2 : (a1_0 == ((rd_T44 l0 x8_1).f0) && (a1_1 == ((rd_T44 l0 x8_1).f1) && (a1_2 == ((rd_T44 l0 x8_1).f2)))) = false := by simpa using c7))
       (try (have c7b3 : ¬ (a1_0 = ((rd_T44 l0 x8_1).f0) && (a1_1 == ((rd_T44 l0 x8_1).f1) && (a1_2 == ((rd_T44 l0 x8_1).f2)))) := by simpa using c7))
       clear c7
       have H' := Aside0.mk H
       clear H
       have hcz9_0 : wr.cell? ⟨gb314, 0, none⟩ = some (.int .i64 a1_0) := (blk_cell BK314.out 0).trans rfl
       have hcz9_1 : wr.cell? ⟨gb314, 1, none⟩ = some (.int .i64 a1_1) := (blk_cell BK314.out 1).trans rfl
       have hcz9_2 : wr.cell? ⟨gb314, 2, none⟩ = some (.int .i64 a1_2) := (blk_cell BK314.out 2).trans rfl
       have hfz9_0 := blk_frozen BK314.out 0
       have hfz9_1 := blk_frozen BK314.out 1
       have hfz9_2 := blk_frozen BK314.out 2
       have p315 : 0 ≤ (x8_1 : Int) := of_decide_eq_true (by first | (with_reducible assumption) | assumption)
       have q315 : x8_1 < (l0.length : Int) := of_decide_eq_true (by first | (with_reducible assumption) | assumption)
       obtain ⟨ad315, e315, hx315_0, hx315_1, hx315_2⟩ := at_T44 HR0.out x8_1 p315 q315
       cases e315
       replace hx315_0 := (HB.out.cell (World.block_lt_of_cell? w _ hx315_0)).trans hx315_0
       replace hx315_1 := (HB.out.cell (World.block_lt_of_cell? w _ hx315_1)).trans hx315_1
       replace hx315_2 := (HB.out.cell (World.block_lt_of_cell? w _ hx315_2)).trans hx315_2
       replace p315 := eq_true p315
       replace q315 := eq_true q315
       go_wp2
       repeat (go_quiet (fail); try go_wp2)
       go_roundg k1
       case measure => have := HK1.out; omega
       case rel => exact ⟨(wrap64 (x8_1 + 1)), (by first | rfl | (simp; done) | (simp [*]; done)), H', ⟨by have := HK1.out; omega⟩, ⟨zh BK314.out⟩, ⟨zb HB.out⟩⟩
     ·rw [if_neg c6] at H
      exact absurd H (by simp)
    ·rw [if_neg c5] at H
     exact absurd H (by simp)
   ·rw [if_neg c4] at H
    have c4b0 : decide (x8_1 < (l0.length : Int)) = false := decide_eq_false c4
    clear c4
    obtain rfl := Option.some.inj H
    go_wp2
    repeat (go_quiet (fail); try go_wp2)
    go_ret
    exact ⟨ze, zb HB.out⟩

/-! ### impl_Pool_find: function 111 -/
def impl_Pool_find.f (k : Nat) (l0_0 : List (S44)) (a1_0 : Int) (a1_1 : Int) (a1_2 : Int) : Option (Int) := (impl_Node_122.f k l0_0 a1_0 a1_1 a1_2).bind fun t317 => (some t317)
theorem impl_Pool_find.mono : ∀ a0 a1 a2 a3 k, LeO (impl_Pool_find.f k a0 a1 a2 a3) (impl_Pool_find.f (k + 1) a0 a1 a2 a3) := by
 intro a0 a1 a2 a3 k
 unfold impl_Pool_find.f
 repeat' first
   | (with_reducible exact impl_Node_122.mono _ _ _ _ _)
   | (with_reducible exact LeO.refl _)
   | (with_reducible exact LeO.none _)
   | (with_reducible refine LeO.ite ?_ ?_)
   | (with_reducible refine LeO.bind ?_ (fun _ => ?_))
   | exact impl_Node_122.mono _ _ _ _ _
   | exact LeO.none _
   | refine LeO.ite ?_ ?_
   | refine LeO.bind ?_ (fun _ => ?_)
set_option maxHeartbeats 8000000 in
set_option maxRecDepth 100000 in
theorem impl_Pool_find.calls (k : Nat) (g0_ : Nat) (A0_0 : Option Addr) (c0_0 : Nat) (l0_0 : List (S44)) (a1_0 : Int) (a1_1 : Int) (a1_2 : Int) (r : Int) (w : World) (hk0_ : w.heap[g0_]? = some (.cells #[.slice A0_0 l0_0.length c0_0] 30 (0, 0))) (hr0_0 : Kd.C k44 w A0_0 l0_0.length l0_0) (hc0_0 : l0_0.length ≤ c0_0) (h : impl_Pool_find.f k l0_0 a1_0 a1_1 a1_2 = some r) :
  Calls Try.prog 111 #[.pointer (some ⟨g0_, 0, none⟩), .agg #[.int .i64 a1_0, .int .i64 a1_1, .int .i64 a1_2]] w fun e w' => e = .returned (.int .i64 r) ∧ Below w.heap.size w w' := by
 have hu44 := Try.underlying44
 have HR0_0 := Aside0.mk hr0_0
 have HC0_0 := Aside0.mk hc0_0
 clear hr0_0 hc0_0
 have BK0 := Aside0.mk hk0_
 clear hk0_
 have HB := Aside0.mk (Below.refl w.heap.size w)
 have H : ((impl_Node_122.f k l0_0 a1_0 a1_1 a1_2).bind fun t317 => (some t317)) = some r := h
 clear h
 replace H := Option.bind_eq_some_iff.mp H
 obtain ⟨t317, A30, H⟩ := H
 replace H : (some t317) = some r := H
 have A3 := Aside0.mk A30
 clear A30
 obtain rfl := Option.some.inj H
 go_enter Try.func111, Try.ntmps111
 try go_wp2_with (first | ((with_reducible refine gate_dst (N := 3) rfl ?_); refine box_event ?hg (N := 3) ?hd (cs := #[.int .i64 a1_0, .int .i64 a1_1, .int .i64 a1_2]) (t := 44) ?hr ?_; (case hd => rfl); (case hg => rfl); (case hr => first | (go_simp; done) | (go_simp; rfl)); intro gb316 hg w4 hbox hb; have n0_ := Aside0.mk (blk_below (zh BK0.out) hb); have n1_ := Aside0.mk (below_step (zb HB.out) hb); have n2_ := Aside0.mk (hbox); have n3_ := Aside0.mk ((by rw [hg]; exact (below_size (zb HB.out)) : w.heap.size ≤ gb316)); have n4_ := Aside0.mk ((by rw [hg]; exact (below_size (zb HB.out)) : w.heap.size ≤ gb316)); have n5_ := Aside0.mk ((by rw [hg]; exact Nat.ne_of_lt (blk_lt (zh BK0.out)) : g0_ ≠ gb316)); have n6_ := Aside0.mk ((by rw [hg]; exact Nat.ne_of_gt (blk_lt (zh BK0.out)) : gb316 ≠ g0_)); clear BK0; clear HB; have BK0 := n0_; have HB := n1_; have BK316 := n2_; have GW316 := n3_; have GE316 := n4_; have NB0_316 := n5_; have NB316_0 := n6_; clear n0_ n1_ n2_ n3_ n4_ n5_ n6_; clear hb hbox hg))
 have n0_ := Aside0.mk (blk_drew BK0.out)
 have n1_ := Aside0.mk (blk_drew BK316.out)
 have n2_ := Aside0.mk (below_drew1 HB.out)
 clear BK0
 clear BK316
 clear HB
 have BK0 := n0_
 have BK316 := n1_
 have HB := n2_
 clear n0_ n1_ n2_
 refine start_ (n := 7) (S := fun w' => w'.cell? ⟨g0_, 0, none⟩ = some (.slice A0_0 l0_0.length c0_0) ∧ w'.cell? ⟨gb316, 0, none⟩ = some (.int .i64 a1_0) ∧ w'.cell? ⟨gb316, 1, none⟩ = some (.int .i64 a1_1) ∧ w'.cell? ⟨gb316, 2, none⟩ = some (.int .i64 a1_2)) (ds := []) #[false, false, false, false, false, false, false] (by kernel_rfl) rfl rfl ⟨(blk_cell BK0.out 0).trans rfl, (blk_cell BK316.out 0).trans rfl, (blk_cell BK316.out 1).trans rfl, (blk_cell BK316.out 2).trans rfl⟩ (fun hHeld => ?_)
 generalize w4.drew = w5 at BK0 BK316 HB hHeld ⊢
 refine pure_ (i := 0) (N := some 5) (v := ?_) (a' := ?_) #[true, false, false, false, false, false, false] rfl rfl (by kernel_rfl) (fun _ _ _ h => h) (Or.inl ⟨by rfl, ?_⟩) ?_ ?_
 rotate_left
 ·intro w'
  go_simp
  with_reducible rfl
 rotate_left
 ·simp only [Act.put, List.setIfInBounds_toArray, List.set_cons_zero, List.set_cons_succ, i64_w, i32_w]
  rfl
 refine pure_ (i := 1) (N := some 6) (v := ?_) (a' := ?_) #[true, true, false, false, false, false, false] rfl rfl (by kernel_rfl) (fun _ _ _ h => h) (Or.inl ⟨by rfl, ?_⟩) ?_ ?_
 rotate_left
 ·intro w'
  go_simp
  with_reducible rfl
 rotate_left
 ·simp only [Act.put, List.setIfInBounds_toArray, List.set_cons_zero, List.set_cons_succ, i64_w, i32_w]
  rfl
 refine pure_ (i := 2) (N := some 7) (v := ?_) (a' := ?_) #[true, true, true, false, false, false, false] rfl rfl (by kernel_rfl) (fun _ _ _ h => h) (Or.inl ⟨by rfl, ?_⟩) ?_ ?_
 rotate_left
 ·intro w'
  go_simp
  with_reducible rfl
 rotate_left
 ·simp only [Act.put, List.setIfInBounds_toArray, List.set_cons_zero, List.set_cons_succ, i64_w, i32_w]
  rfl
 refine take_ (i := 3) (N := some 8) (v := ?_) (a' := ?_) #[true, true, true, true, false, false, false] rfl rfl (by kernel_rfl) (fun _ _ _ h => h) (Or.inl ⟨by rfl, ?_⟩) hHeld ?_ ?_
 rotate_left
 ·rintro w' ⟨s0, s1, s2, s3⟩
  go_simp
  with_reducible rfl
 rotate_left
 ·simp only [Act.put, List.setIfInBounds_toArray, List.set_cons_zero, List.set_cons_succ, i64_w, i32_w]
  rfl
 refine take_ (i := 4) (N := some 9) (v := ?_) (a' := ?_) #[true, true, true, true, true, false, false] rfl rfl (by kernel_rfl) (fun _ _ _ h => h) (Or.inl ⟨by rfl, ?_⟩) hHeld ?_ ?_
 rotate_left
 ·rintro w' ⟨s0, s1, s2, s3⟩
  go_simp
  with_reducible rfl
 rotate_left
 ·simp only [Act.put, List.setIfInBounds_toArray, List.set_cons_zero, List.set_cons_succ, i64_w, i32_w]
  rfl
 refine one_ (i := 5) (N := some 10) #[true, true, true, true, true, true, false] rfl rfl (by kernel_rfl) (by decide) (fun K hK => ?_)
 refine goes_ Try.func122 (by kernel_rfl) rfl #[.slice A0_0 l0_0.length c0_0, .agg #[.int .i64 a1_0, .int .i64 a1_1, .int .i64 a1_2]] (by rfl) rfl rfl zl ?_
 with_reducible refine (impl_Node_122.calls k _ _ l0_0 a1_0 a1_1 a1_2 t317 _ ?side1 ?side2 A3.out).mono ?_
 (case side1 => exact zc (Kd.C_below HR0_0.out HB.out))
 (case side2 => exact HC0_0.out)
 rintro e w6 ⟨rfl, hb⟩
 refine ⟨_, rfl, ?_⟩
 have n0_ := Aside0.mk (blk_below (zh BK0.out) hb)
 have n1_ := Aside0.mk (blk_below (zh BK316.out) hb)
 have n2_ := Aside0.mk (below_step (zb HB.out) hb)
 clear BK0
 clear BK316
 clear HB
 have BK0 := n0_
 have BK316 := n1_
 have HB := n2_
 clear n0_ n1_ n2_
 (try clear hb)
 (try clear hb2)
 (try clear hk)
 (try clear hi)
 refine hK.out _ _ ⟨(blk_cell BK0.out 0).trans rfl, (blk_cell BK316.out 0).trans rfl, (blk_cell BK316.out 1).trans rfl, (blk_cell BK316.out 2).trans rfl⟩ (fun hHeld => ?_)
 clear hK K
 refine norm_ (a' := ?_) ?_ ?_
 rotate_left
 ·show Act.put _ (some 10) _ = _
  simp only [Act.put, List.setIfInBounds_toArray, List.set_cons_zero, List.set_cons_succ, i64_w, i32_w]
  rfl
 refine pure_ (i := 6) (N := some 4) (v := ?_) (a' := ?_) #[true, true, true, true, true, true, true] rfl rfl (by kernel_rfl) (fun _ _ _ h => h) (Or.inl ⟨by rfl, ?_⟩) ?_ ?_
 rotate_left
 ·intro w'
  go_simp
  with_reducible rfl
 rotate_left
 ·simp only [Act.put, List.setIfInBounds_toArray, List.set_cons_zero, List.set_cons_succ, i64_w, i32_w]
  rfl
 refine done_ (by kernel_rfl) ?_
 try go_wp2
 go_ret
 exact ⟨ze, zb HB.out⟩

end Go.Proofs.Ytdgahpigcaejbaa.B
end

section
-- Written by this session's program (wip/tools/gprint.py over the kit's print) out of the translation; Lean checks it.
namespace Go.Proofs.Ytdgahpigcaejbaa.B
open Go.RowKit Go.Proofs.YtdgahpigcaejbaaW.PrintWords Go.Proofs.YtdgahpigcaejbaaW.PrintLast Go.Proofs.YtdgahpigcaejbaaW.PrintMore
attribute [local go_sem] max2_int min2_int max_two min_two max_three min_three max_four min_four   -- for this text's walks alone
set_option linter.unusedVariables false
set_option linter.unusedSimpArgs false
set_option maxRecDepth 100000

/-! ### impl_Pool_add: function 81 -/
def impl_Pool_add.j0 : Nat → List (S44) → Int → Int → Int → Option (List (S44) × Int)
 | 0, _, _, _, _ => none
 | k + 1, x331000, x332000, x332001, x332002 => (impl_nodeOk.f k x332000 x332001 x332002 (x331000.length : Int)).bind fun t332 => (if t332 = true then ((impl_Pool_find.f k x331000 x332000 x332001 x332002).bind fun t333 => (if t333 ≥ 0 then (some (x331000, t333)) else (if (x331000.length : Int) ≥ 500 then (some (x331000, -1)) else (if x331000.length < 5864062014805 then (some (x331000 ++ [(⟨x332000, x332001, x332002⟩ : S44)], wrap64 (((x331000 ++ [(⟨x332000, x332001, x332002⟩ : S44)]).length : Int) - 1))) else (none))))) else (some (x331000, -1)))
def impl_Pool_add.f (k : Nat) (l0_0 : List (S44)) (a1 : Int) (a2 : Int) (a3 : Int) : Option (List (S44) × Int) := if a1 = 8 then (impl_Pool_add.j0 k l0_0 a1 (mn a2 a3) (mx a2 a3)) else (impl_Pool_add.j0 k l0_0 a1 a2 a3)
theorem impl_Pool_add.mono_l : ∀ k, (∀ y0 y1 y2 y3, LeO (impl_Pool_add.j0 k y0 y1 y2 y3) (impl_Pool_add.j0 (k + 1) y0 y1 y2 y3))
 | 0 => fun _ _ _ _ r h => by simp [impl_Pool_add.j0] at h
 | k + 1 => by
  have ih0 := impl_Pool_add.mono_l k
  ·intro y0 y1 y2 y3
   unfold impl_Pool_add.j0
   repeat' first
   | (with_reducible exact ih0 _ _ _ _)
   | (with_reducible exact impl_Pool_find.mono _ _ _ _ _)
   | (with_reducible exact impl_nodeOk.mono _ _ _ _ _)
   | (with_reducible exact LeO.refl _)
   | (with_reducible exact LeO.none _)
   | (with_reducible refine LeO.ite ?_ ?_)
   | (with_reducible refine LeO.bind ?_ (fun _ => ?_))
   | exact ih0 _ _ _ _
   | exact impl_Pool_find.mono _ _ _ _ _
   | exact impl_nodeOk.mono _ _ _ _ _
   | exact LeO.none _
   | refine LeO.ite ?_ ?_
   | refine LeO.bind ?_ (fun _ => ?_)
theorem impl_Pool_add.mono : ∀ a0 a1 a2 a3 k, LeO (impl_Pool_add.f k a0 a1 a2 a3) (impl_Pool_add.f (k + 1) a0 a1 a2 a3) := by
 intro a0 a1 a2 a3 k
 have ih0 := impl_Pool_add.mono_l k
 unfold impl_Pool_add.f
 repeat' first
   | (with_reducible exact ih0 _ _ _ _)
   | (with_reducible exact impl_Pool_find.mono _ _ _ _ _)
   | (with_reducible exact impl_nodeOk.mono _ _ _ _ _)
   | (with_reducible exact LeO.refl _)
   | (with_reducible exact LeO.none _)
   | (with_reducible refine LeO.ite ?_ ?_)
   | (with_reducible refine LeO.bind ?_ (fun _ => ?_))
   | exact ih0 _ _ _ _
   | exact impl_Pool_find.mono _ _ _ _ _
   | exact impl_nodeOk.mono _ _ _ _ _
   | exact LeO.none _
   | refine LeO.ite ?_ ?_
   | refine LeO.bind ?_ (fun _ => ?_)
def impl_Pool_add.T4 : Bool × List (List Nat × List Nat) := (true, [([], []), ([], []), ([1], [1]), ([2], [2]), ([3], [3]), ([4], [4]), ([0, 5], [0, 5]), ([6], [6])])
def impl_Pool_add.B4 : List Nat := [0, 0, 2, 6, 14, 30, 63, 127]
theorem impl_Pool_add.tab4 : rtab .any (opsOf Try.f81 4) = impl_Pool_add.T4 := by kernel_rfl
theorem impl_Pool_add.bits4 : waitsOk impl_Pool_add.T4.2 impl_Pool_add.B4 = true := by kernel_rfl
def impl_Pool_add.T11 : Bool × List (List Nat × List Nat) := (true, [([], []), ([], []), ([1], [1]), ([2], [2]), ([3], [3]), ([], []), ([5], [5]), ([4, 6], [4, 6]), ([0, 0, 1, 2, 3, 4, 5, 6, 7], [0]), ([8, 0, 1, 2, 3, 4, 5, 6, 7], [8]), ([9, 7, 7, 0, 1, 2, 3, 4, 5, 6, 7], [7, 9])])
def impl_Pool_add.B11 : List Nat := [0, 0, 2, 6, 14, 0, 32, 126, 255, 511, 1023]
theorem impl_Pool_add.tab11 : rtab .any (opsOf Try.f81 11) = impl_Pool_add.T11 := by kernel_rfl
theorem impl_Pool_add.bits11 : waitsOk impl_Pool_add.T11.2 impl_Pool_add.B11 = true := by kernel_rfl
set_option maxHeartbeats 8000000 in
set_option maxRecDepth 100000 in
theorem impl_Pool_add.calls (k : Nat) (gb330 : Nat) (P0_0_ : Nat → Prop) (u9000_ : Value) (l0_0 : List (S44)) (a1 : Int) (a2 : Int) (a3 : Int) (r : List (S44) × Int) (w0 w : World) (hB : Below w0.heap.size w0 w) (hge : w0.heap.size ≤ gb330) (hbx : w.heap[gb330]? = some (.cells #[u9000_] 30 (0, 0))) (ho0_0 : Kd.R k44 44 w w0.heap.size P0_0_ u9000_ l0_0) (h : impl_Pool_add.f k l0_0 a1 a2 a3 = some r) :
  Calls Try.prog 81 #[.pointer (some ⟨gb330, 0, none⟩), .int .i64 a1, .int .i64 a2, .int .i64 a3] w fun e w' => e = .returned (.int .i64 r.2) ∧ Below w0.heap.size w0 w' ∧ Kept w w' (fun k_ => P0_0_ k_ ∨ k_ = gb330) ∧ ∃ u_ : Value, w'.heap[gb330]? = some (.cells #[u_] 30 (0, 0)) ∧ Kd.R k44 44 w' w0.heap.size (fun k_ => P0_0_ k_ ∨ w.heap.size ≤ k_) u_ r.1 := by
 have hu30 := Try.underlying30
 have hu44 := Try.underlying44
 have HO0_0 := Aside0.mk (show Kd.R k44 44 w w0.heap.size (fun k_ => (P0_0_ k_ ∨ w.heap.size ≤ k_)) u9000_ l0_0 from Kd.R_mono ho0_0 (fun k_ hk => (.inl hk)))
 have HK := Aside0.mk (Kept.refl w (fun k_ => P0_0_ k_ ∨ k_ = gb330))
 have HW0 := Aside0.mk hB.size
 have HB := Aside0.mk hB
 clear hB
 have H : (if a1 = 8 then (impl_Pool_add.j0 k l0_0 a1 (mn a2 a3) (mx a2 a3)) else (impl_Pool_add.j0 k l0_0 a1 a2 a3)) = some r := h
 clear h
 have HC5 := Aside0.mk H
 clear H
 obtain ⟨Ao6, co6, eo6⟩ := Kd.R_slice HO0_0.out
 subst eo6
 have BK330 := Aside0.mk hbx
 have GE330 := Aside0.mk hge
 clear hbx hge
 go_enter Try.func81, Try.ntmps81
 go_upto_if 16 with (first | ((with_reducible refine gate_dst (N := 9) rfl ?_); refine box_event ?hg (N := 9) ?hd (cs := #[.int .i64 0, .int .i64 0, .int .i64 0]) (t := 44) ?hr ?_; (case hd => rfl); (case hg => rfl); (case hr => first | (go_simp; done) | (go_simp; rfl)); intro gb331 hg w8 hbox hb; have n0_ := Aside0.mk (Kd.R_below (Kd.R_elderB (zr HO0_0.out) gb331 (Nat.le_of_eq hg.symm)) hb); have n1_ := Aside0.mk (blk_below (zh BK330.out) hb); have n2_ := Aside0.mk (Kept.below (S := (fun k_ => P0_0_ k_ ∨ k_ = gb330)) (zk HK.out) hb); have n3_ := Aside0.mk (below_step (zb HB.out) hb); have n4_ := Aside0.mk (hbox); have n5_ := Aside0.mk ((by rw [hg]; exact (by first | exact HK.out.1 | exact (show Kept w _ (fun k_ => P0_0_ k_ ∨ k_ = gb330) from zk HK.out).1) : w.heap.size ≤ gb331)); have n6_ := Aside0.mk ((by rw [hg]; exact (below_size (zb HB.out)) : w0.heap.size ≤ gb331)); have n7_ := Aside0.mk ((by rw [hg]; exact Nat.ne_of_lt (blk_lt (zh BK330.out)) : gb330 ≠ gb331)); have n8_ := Aside0.mk ((by rw [hg]; exact Nat.ne_of_gt (blk_lt (zh BK330.out)) : gb331 ≠ gb330)); clear HO0_0; clear BK330; clear HK; clear HB; have HO0_0 := n0_; have BK330 := n1_; have HK := n2_; have HB := n3_; have BK331 := n4_; have GW331 := n5_; have GE331 := n6_; have NB330_331 := n7_; have NB331_330 := n8_; clear n0_ n1_ n2_ n3_ n4_ n5_ n6_ n7_ n8_; clear hb hbox hg; have hnb9 := NB331_330.out; have hnc9 := NB330_331.out; have hcz10_0 : w8.cell? ⟨gb331, 0, none⟩ = some (.int .i64 0) := (blk_cell BK331.out 0).trans rfl; have hcz10_1 : w8.cell? ⟨gb331, 1, none⟩ = some (.int .i64 0) := (blk_cell BK331.out 1).trans rfl; have hcz10_2 : w8.cell? ⟨gb331, 2, none⟩ = some (.int .i64 0) := (blk_cell BK331.out 2).trans rfl; have hfz10_0 := blk_frozen BK331.out 0; have hfz10_1 := blk_frozen BK331.out 1; have hfz10_2 := blk_frozen BK331.out 2))
 (try simp only [Act.put, List.setIfInBounds_toArray, List.set_cons_zero, List.set_cons_succ])
 go_cut [] (fun wc => ∃ (kq : Nat) (x332001_4 : Int) (x332002_4 : Int), Aside0 (impl_Pool_add.j0 kq l0_0 a1 x332001_4 x332002_4 = some r) ∧ Aside0 (kq ≤ k) ∧ Aside0 (Kd.R k44 44 wc w0.heap.size (fun k_ => (P0_0_ k_ ∨ w.heap.size ≤ k_) ∧ k_ ≠ gb331) (.slice Ao6 l0_0.length co6) l0_0) ∧ Aside0 (wc.heap[gb330]? = some (.cells #[(.slice Ao6 l0_0.length co6)] 30 (0, 0))) ∧ Aside0 (wc.heap[gb331]? = some (.cells #[.int .i64 a1, .int .i64 x332001_4, .int .i64 x332002_4] 44 (0, 0))) ∧ Aside0 (Kept w wc (fun k_ => P0_0_ k_ ∨ k_ = gb330)) ∧ Aside0 (Below w0.heap.size w0 wc))
 case first =>
  have H := HC5.out
  clear HC5
  by_cases c11 : a1 = 8
  ·rw [if_pos c11] at H
   have c11b0 : (a1 == 8) = true := beq_iff_eq.mpr c11
   have c11b1 : (a1 != 8) = false := bne_eq_false_iff_eq.mpr c11
   clear c11
   (first | rw [c11b0] | (simp only [i64_w, i32_w]; rw [c11b0]) | skip)
   obtain ⟨ji12, hji12⟩ : ∃ j_ : Int, (mn a2 a3) = j_ := ⟨_, rfl⟩
   replace H : (impl_Pool_add.j0 k l0_0 a1 ji12 (mx a2 a3)) = some r := by first | (rw [hji12] at H; exact H) | (simp only [hji12] at H ⊢; exact H)
   have hji12_ : (if a3 < a2 then a3 else a2) = ji12 := hji12
   obtain ⟨ji13, hji13⟩ : ∃ j_ : Int, (mx a2 a3) = j_ := ⟨_, rfl⟩
   replace H : (impl_Pool_add.j0 k l0_0 a1 ji12 ji13) = some r := by first | (rw [hji13] at H; exact H) | (simp only [hji13] at H ⊢; exact H)
   have hji13_ : (if a2 < a3 then a3 else a2) = ji13 := hji13
   have H' := Aside0.mk H
   clear H
   have hnb14 := NB331_330.out
   have hnc14 := NB330_331.out
   have hcz15_0 : w8.cell? ⟨gb331, 0, none⟩ = some (.int .i64 0) := (blk_cell BK331.out 0).trans rfl
   have hcz15_1 : w8.cell? ⟨gb331, 1, none⟩ = some (.int .i64 0) := (blk_cell BK331.out 1).trans rfl
   have hcz15_2 : w8.cell? ⟨gb331, 2, none⟩ = some (.int .i64 0) := (blk_cell BK331.out 2).trans rfl
   have hfz15_0 := blk_frozen BK331.out 0
   have hfz15_1 := blk_frozen BK331.out 1
   have hfz15_2 := blk_frozen BK331.out 2
   go_wp2
   go_meet
   case rel => exact ⟨_, (ji12), (ji13), H', ⟨by first | omega | exact Nat.le_refl _⟩, ⟨zr (Kd.R_mono (Kd.R_far (p := ⟨gb331, 2, none⟩) (Kd.R_far (p := ⟨gb331, 1, none⟩) (Kd.R_far (p := ⟨gb331, 2, none⟩) (Kd.R_far (p := ⟨gb331, 1, none⟩) (Kd.R_far (p := ⟨gb331, 0, none⟩) (Kd.R_mono HO0_0.out (fun k_ hk => (⟨hk, hk.2⟩ : _ ∧ k_ ≠ gb331))) (fun _ hk => hk.2) (.int .i64 a1)) (fun _ hk => hk.2) (.int .i64 a2)) (fun _ hk => hk.2) (.int .i64 a3)) (fun _ hk => hk.2) (.int .i64 ji12)) (fun _ hk => hk.2) (.int .i64 ji13)) (fun _ hk => ⟨hk.1.1, hk.1.2⟩))⟩, ⟨zf BK330.out⟩, ⟨by (with_reducible repeat (first | refine blk_drewN ?_ _ | refine blk_drew ?_ | refine blk_alloc ?_ _)); refine blk_put (cs := #[.int .i64 a1, .int .i64 ji12, .int .i64 a3]) ?_ 2 _ rfl; (with_reducible repeat (first | refine blk_drewN ?_ _ | refine blk_drew ?_ | refine blk_alloc ?_ _)); refine blk_put (cs := #[.int .i64 a1, .int .i64 a2, .int .i64 a3]) ?_ 1 _ rfl; (with_reducible repeat (first | refine blk_drewN ?_ _ | refine blk_drew ?_ | refine blk_alloc ?_ _)); refine blk_put (cs := #[.int .i64 a1, .int .i64 a2, .int .i64 0]) ?_ 2 _ rfl; (with_reducible repeat (first | refine blk_drewN ?_ _ | refine blk_drew ?_ | refine blk_alloc ?_ _)); refine blk_put (cs := #[.int .i64 a1, .int .i64 0, .int .i64 0]) ?_ 1 _ rfl; (with_reducible repeat (first | refine blk_drewN ?_ _ | refine blk_drew ?_ | refine blk_alloc ?_ _)); refine blk_put (cs := #[.int .i64 0, .int .i64 0, .int .i64 0]) ?_ 0 _ rfl; (with_reducible repeat (first | refine blk_drewN ?_ _ | refine blk_drew ?_ | refine blk_alloc ?_ _)); exact BK331.out⟩, ⟨zk HK.out⟩, ⟨zb HB.out⟩⟩
  ·rw [if_neg c11] at H
   have c11b0 : (a1 == 8) = false := beq_eq_false_iff_ne.mpr c11
   have c11b1 : (a1 != 8) = true := bne_iff_ne.mpr c11
   (first | rw [c11b0] | (simp only [i64_w, i32_w]; rw [c11b0]) | skip)
   have H' := Aside0.mk H
   clear H
   go_wp2
   go_meet
   case rel => exact ⟨_, (a2), (a3), H', ⟨by first | omega | exact Nat.le_refl _⟩, ⟨zr (Kd.R_mono (Kd.R_far (p := ⟨gb331, 2, none⟩) (Kd.R_far (p := ⟨gb331, 1, none⟩) (Kd.R_far (p := ⟨gb331, 0, none⟩) (Kd.R_mono HO0_0.out (fun k_ hk => (⟨hk, hk.2⟩ : _ ∧ k_ ≠ gb331))) (fun _ hk => hk.2) (.int .i64 a1)) (fun _ hk => hk.2) (.int .i64 a2)) (fun _ hk => hk.2) (.int .i64 a3)) (fun _ hk => ⟨hk.1.1, hk.1.2⟩))⟩, ⟨zf BK330.out⟩, ⟨by (with_reducible repeat (first | refine blk_drewN ?_ _ | refine blk_drew ?_ | refine blk_alloc ?_ _)); refine blk_put (cs := #[.int .i64 a1, .int .i64 a2, .int .i64 0]) ?_ 2 _ rfl; (with_reducible repeat (first | refine blk_drewN ?_ _ | refine blk_drew ?_ | refine blk_alloc ?_ _)); refine blk_put (cs := #[.int .i64 a1, .int .i64 0, .int .i64 0]) ?_ 1 _ rfl; (with_reducible repeat (first | refine blk_drewN ?_ _ | refine blk_drew ?_ | refine blk_alloc ?_ _)); refine blk_put (cs := #[.int .i64 0, .int .i64 0, .int .i64 0]) ?_ 0 _ rfl; (with_reducible repeat (first | refine blk_drewN ?_ _ | refine blk_drew ?_ | refine blk_alloc ?_ _)); exact BK331.out⟩, ⟨zk HK.out⟩, ⟨zb HB.out⟩⟩
 case rest =>
  clear HC5
  try clear c1
  try clear p2
  try clear c8
  try clear c9
  try clear c11
  try clear c11b0
  try clear c11b1
  try clear c14
  try clear hcz10_0
  try clear hcz10_1
  try clear hcz10_2
  try clear hcz15_0
  try clear hcz15_1
  try clear hcz15_2
  try clear hfz10_0
  try clear hfz10_1
  try clear hfz10_2
  try clear hfz15_0
  try clear hfz15_1
  try clear hfz15_2
  obtain ⟨kq, x332001_4, x332002_4, HA, HJ4, HO_331000, BK330, BK331, HK, HB⟩ := hcut
  cases kq with
  | zero => exact absurd HA.out (by simp [impl_Pool_add.j0])
  | succ kj4 =>
   have H := HA.out
   clear HA
   simp only [impl_Pool_add.j0] at H
   replace H := Option.bind_eq_some_iff.mp H
   obtain ⟨t332, A160, H⟩ := H
   replace H : (if t332 = true then ((impl_Pool_find.f kj4 l0_0 a1 x332001_4 x332002_4).bind fun t333 => (if t333 ≥ 0 then (some (l0_0, t333)) else (if (l0_0.length : Int) ≥ 500 then (some (l0_0, -1)) else (if l0_0.length < 5864062014805 then (some (l0_0 ++ [(⟨a1, x332001_4, x332002_4⟩ : S44)], wrap64 (((l0_0 ++ [(⟨a1, x332001_4, x332002_4⟩ : S44)]).length : Int) - 1))) else (none))))) else (some (l0_0, -1))) = some r := H
   have A16 := Aside0.mk A160
   clear A160
   by_cases c17 : t332 = true
   ·subst c17
    have H1 : ((impl_Pool_find.f kj4 l0_0 a1 x332001_4 x332002_4).bind fun t333 => (if t333 ≥ 0 then (some (l0_0, t333)) else (if (l0_0.length : Int) ≥ 500 then (some (l0_0, -1)) else (if l0_0.length < 5864062014805 then (some (l0_0 ++ [(⟨a1, x332001_4, x332002_4⟩ : S44)], wrap64 (((l0_0 ++ [(⟨a1, x332001_4, x332002_4⟩ : S44)]).length : Int) - 1))) else (none))))) = some r := by rw [if_pos rfl] at H; exact H
    clear H
    have H := H1
    clear H1
    replace H := Option.bind_eq_some_iff.mp H
    obtain ⟨t333, A180, H⟩ := H
    replace H : (if t333 ≥ 0 then (some (l0_0, t333)) else (if (l0_0.length : Int) ≥ 500 then (some (l0_0, -1)) else (if l0_0.length < 5864062014805 then (some (l0_0 ++ [(⟨a1, x332001_4, x332002_4⟩ : S44)], wrap64 (((l0_0 ++ [(⟨a1, x332001_4, x332002_4⟩ : S44)]).length : Int) - 1))) else (none)))) = some r := H
    have A18 := Aside0.mk A180
    clear A180
    by_cases c19 : t333 ≥ 0
    ·rw [if_pos c19] at H
     have c19b0 : decide (0 ≤ t333) = true := decide_eq_true c19
     clear c19
     obtain rfl := Option.some.inj H
     try go_wp2
     have n0_ := Aside0.mk (Kd.R_drew HO_331000.out)
     have n1_ := Aside0.mk (blk_drew BK330.out)
     have n2_ := Aside0.mk (blk_drew BK331.out)
     have n3_ := Aside0.mk (Kept.drew HK.out)
     have n4_ := Aside0.mk (below_drew1 HB.out)
     clear HO_331000
     clear BK330
     clear BK331
     clear HK
     clear HB
     have HO_331000 := n0_
     have BK330 := n1_
     have BK331 := n2_
     have HK := n3_
     have HB := n4_
     clear n0_ n1_ n2_ n3_ n4_
     refine start_ (n := 8) (S := fun w' => w'.cell? ⟨gb331, 0, none⟩ = some (.int .i64 a1) ∧ w'.cell? ⟨gb331, 1, none⟩ = some (.int .i64 x332001_4) ∧ w'.cell? ⟨gb331, 2, none⟩ = some (.int .i64 x332002_4) ∧ w'.cell? ⟨gb330, 0, none⟩ = some (.slice Ao6 l0_0.length co6)) (ds := []) #[false, false, false, false, false, false, false, false] (by kernel_rfl) rfl rfl ⟨(blk_cell BK331.out 0).trans rfl, (blk_cell BK331.out 1).trans rfl, (blk_cell BK331.out 2).trans rfl, (blk_cell BK330.out 0).trans rfl⟩ (fun hHeld => ?_); refine with_tabW impl_Pool_add.tab4 impl_Pool_add.bits4 (fun HT_ HW_ => ?_)
     generalize wc.drew = w20 at HO_331000 BK330 BK331 HK HB hHeld ⊢
     refine pure_ (i := 1) (N := some 26) (v := ?_) (a' := ?_) #[false, true, false, false, false, false, false, false] rfl rfl (any_of HT_.out (by kernel_rfl)) (fun _ _ _ h => h) (Or.inl ⟨by rfl, ?_⟩) ?_ ?_
     rotate_left
     ·intro w'
      go_simp
      with_reducible rfl
     rotate_left
     ·simp only [Act.put, List.setIfInBounds_toArray, List.set_cons_zero, List.set_cons_succ, i64_w, i32_w]
      rfl
     refine pure_ (i := 2) (N := some 27) (v := ?_) (a' := ?_) #[false, true, true, false, false, false, false, false] rfl rfl (any_of HT_.out (by kernel_rfl)) (fun _ _ _ h => h) (Or.inl ⟨by rfl, ?_⟩) ?_ ?_
     rotate_left
     ·intro w'
      go_simp
      with_reducible rfl
     rotate_left
     ·simp only [Act.put, List.setIfInBounds_toArray, List.set_cons_zero, List.set_cons_succ, i64_w, i32_w]
      rfl
     refine pure_ (i := 3) (N := some 28) (v := ?_) (a' := ?_) #[false, true, true, true, false, false, false, false] rfl rfl (any_of HT_.out (by kernel_rfl)) (fun _ _ _ h => h) (Or.inl ⟨by rfl, ?_⟩) ?_ ?_
     rotate_left
     ·intro w'
      go_simp
      with_reducible rfl
     rotate_left
     ·simp only [Act.put, List.setIfInBounds_toArray, List.set_cons_zero, List.set_cons_succ, i64_w, i32_w]
      rfl
     refine take_ (i := 0) (N := some 25) (v := ?_) (a' := ?_) #[true, true, true, true, false, false, false, false] rfl rfl (take_ofW HT_.out HW_.out (by kernel_rfl)) (fun _ _ _ h => h) (Or.inl ⟨by rfl, ?_⟩) hHeld ?_ ?_
     rotate_left
     ·rintro w' ⟨s0, s1, s2, s3⟩
      go_simp
      with_reducible rfl
     rotate_left
     ·simp only [Act.put, List.setIfInBounds_toArray, List.set_cons_zero, List.set_cons_succ, i64_w, i32_w]
      rfl
     refine take_ (i := 4) (N := some 29) (v := ?_) (a' := ?_) #[true, true, true, true, true, false, false, false] rfl rfl (take_ofW HT_.out HW_.out (by kernel_rfl)) (fun _ _ _ h => h) (Or.inl ⟨by rfl, ?_⟩) hHeld ?_ ?_
     rotate_left
     ·rintro w' ⟨s0, s1, s2, s3⟩
      go_simp
      with_reducible rfl
     rotate_left
     ·simp only [Act.put, List.setIfInBounds_toArray, List.set_cons_zero, List.set_cons_succ, i64_w, i32_w]
      rfl
     refine pure_ (i := 5) (N := some 30) (v := ?_) (a' := ?_) #[true, true, true, true, true, true, false, false] rfl rfl (any_of HT_.out (by kernel_rfl)) (fun _ _ _ h => h) (Or.inl ⟨by rfl, ?_⟩) ?_ ?_
     rotate_left
     ·intro w'
      go_simp
      with_reducible rfl
     rotate_left
     ·simp only [Act.put, List.setIfInBounds_toArray, List.set_cons_zero, List.set_cons_succ, i64_w, i32_w]
      rfl
     refine one_ (i := 6) (N := some 31) #[true, true, true, true, true, true, true, false] rfl rfl (one_of HT_.out (by kernel_rfl)) (by decide) (fun K hK => ?_)
     refine goes_ Try.func85 (by kernel_rfl) rfl #[.agg #[.int .i64 a1, .int .i64 x332001_4, .int .i64 x332002_4], .int .i64 (l0_0.length : Int)] (by rfl) rfl rfl zl ?_
     with_reducible refine (impl_nodeOk.calls kj4 a1 x332001_4 x332002_4 (l0_0.length : Int) true _ A16.out).mono ?_
     rintro e w21 ⟨rfl, hb⟩
     refine ⟨_, rfl, ?_⟩
     have n0_ := Aside0.mk (Kd.R_below (zr HO_331000.out) hb)
     have n1_ := Aside0.mk (blk_below (zh BK330.out) hb)
     have n2_ := Aside0.mk (blk_below (zh BK331.out) hb)
     have n3_ := Aside0.mk (Kept.below (S := (fun k_ => P0_0_ k_ ∨ k_ = gb330)) (zk HK.out) hb)
     have n4_ := Aside0.mk (below_step (zb HB.out) hb)
     clear HO_331000
     clear BK330
     clear BK331
     clear HK
     clear HB
     have HO_331000 := n0_
     have BK330 := n1_
     have BK331 := n2_
     have HK := n3_
     have HB := n4_
     clear n0_ n1_ n2_ n3_ n4_
     (try clear hb)
     (try clear hb2)
     (try clear hk)
     (try clear hi)
     refine hK.out _ _ ⟨(blk_cell BK331.out 0).trans rfl, (blk_cell BK331.out 1).trans rfl, (blk_cell BK331.out 2).trans rfl, (blk_cell BK330.out 0).trans rfl⟩ (fun hHeld => ?_)
     clear hK K
     refine norm_ (a' := ?_) ?_ ?_
     rotate_left
     ·show Act.put _ (some 31) _ = _
      simp only [Act.put, List.setIfInBounds_toArray, List.set_cons_zero, List.set_cons_succ, i64_w, i32_w]
      rfl
     refine pure_ (i := 7) (N := some 32) (v := ?_) (a' := ?_) #[true, true, true, true, true, true, true, true] rfl rfl (any_of HT_.out (by kernel_rfl)) (fun _ _ _ h => h) (Or.inl ⟨by rfl, ?_⟩) ?_ ?_
     rotate_left
     ·intro w'
      go_simp
      with_reducible rfl
     rotate_left
     ·simp only [Act.put, List.setIfInBounds_toArray, List.set_cons_zero, List.set_cons_succ, i64_w, i32_w]
      rfl
     refine done_ (done_of HT_.out (by kernel_rfl)) ?_
     have hnb22 := NB331_330.out
     have hnc22 := NB330_331.out
     have hcz23_0 : w21.cell? ⟨gb331, 0, none⟩ = some (.int .i64 a1) := (blk_cell BK331.out 0).trans rfl
     have hcz23_1 : w21.cell? ⟨gb331, 1, none⟩ = some (.int .i64 x332001_4) := (blk_cell BK331.out 1).trans rfl
     have hcz23_2 : w21.cell? ⟨gb331, 2, none⟩ = some (.int .i64 x332002_4) := (blk_cell BK331.out 2).trans rfl
     have hfz23_0 := blk_frozen BK331.out 0
     have hfz23_1 := blk_frozen BK331.out 1
     have hfz23_2 := blk_frozen BK331.out 2
     try go_wp2_with (first | ((with_reducible refine gate_callee (f := 111) rfl ?_); refine goesL_ (some 35) rfl rfl Try.func111 (by kernel_rfl) rfl #[.pointer (some ⟨gb330, 0, none⟩), .agg #[.int .i64 a1, .int .i64 x332001_4, .int .i64 x332002_4]] rfl zl ?_; (with_reducible refine (impl_Pool_find.calls kj4 _ Ao6 co6 l0_0 a1 x332001_4 x332002_4 t333 _ ?side1 ?side2 ?side3 A18.out).mono ?_); (case side1 => exact zh BK330.out); (case side2 => exact zc (Kd.R_reads' HO_331000.out).2.2); (case side3 => exact (Kd.R_reads' HO_331000.out).2.1); rintro e w24 ⟨rfl, hb⟩; refine ⟨_, rfl, ?_⟩; have n0_ := Aside0.mk (Kd.R_below (zr HO_331000.out) hb); have n1_ := Aside0.mk (blk_below (zh BK330.out) hb); have n2_ := Aside0.mk (blk_below (zh BK331.out) hb); have n3_ := Aside0.mk (Kept.below (S := (fun k_ => P0_0_ k_ ∨ k_ = gb330)) (zk HK.out) hb); have n4_ := Aside0.mk (below_step (zb HB.out) hb); clear HO_331000; clear BK330; clear BK331; clear HK; clear HB; have HO_331000 := n0_; have BK330 := n1_; have BK331 := n2_; have HK := n3_; have HB := n4_; clear n0_ n1_ n2_ n3_ n4_; (try clear hb); (try clear hb2); (try clear hk); (try clear hi)))
     go_ret
     exact ⟨ze, zb HB.out, zk HK.out, _, zh BK330.out, zr (Kd.R_mono HO_331000.out (fun _ hk => hk.1))⟩
    ·rw [if_neg c19] at H
     have c19b0 : decide (0 ≤ t333) = false := decide_eq_false c19
     clear c19
     by_cases c25 : (l0_0.length : Int) ≥ 500
     ·rw [if_pos c25] at H
      have c25b0 : decide (500 ≤ (l0_0.length : Int)) = true := decide_eq_true c25
      have c25b1 : decide (500 ≤ l0_0.length) = true := decide_eq_true (by omega)
      clear c25
      obtain rfl := Option.some.inj H
      try go_wp2
      have n0_ := Aside0.mk (Kd.R_drew HO_331000.out)
      have n1_ := Aside0.mk (blk_drew BK330.out)
      have n2_ := Aside0.mk (blk_drew BK331.out)
      have n3_ := Aside0.mk (Kept.drew HK.out)
      have n4_ := Aside0.mk (below_drew1 HB.out)
      clear HO_331000
      clear BK330
      clear BK331
      clear HK
      clear HB
      have HO_331000 := n0_
      have BK330 := n1_
      have BK331 := n2_
      have HK := n3_
      have HB := n4_
      clear n0_ n1_ n2_ n3_ n4_
      refine start_ (n := 8) (S := fun w' => w'.cell? ⟨gb331, 0, none⟩ = some (.int .i64 a1) ∧ w'.cell? ⟨gb331, 1, none⟩ = some (.int .i64 x332001_4) ∧ w'.cell? ⟨gb331, 2, none⟩ = some (.int .i64 x332002_4) ∧ w'.cell? ⟨gb330, 0, none⟩ = some (.slice Ao6 l0_0.length co6)) (ds := []) #[false, false, false, false, false, false, false, false] (by kernel_rfl) rfl rfl ⟨(blk_cell BK331.out 0).trans rfl, (blk_cell BK331.out 1).trans rfl, (blk_cell BK331.out 2).trans rfl, (blk_cell BK330.out 0).trans rfl⟩ (fun hHeld => ?_); refine with_tabW impl_Pool_add.tab4 impl_Pool_add.bits4 (fun HT_ HW_ => ?_)
      generalize wc.drew = w26 at HO_331000 BK330 BK331 HK HB hHeld ⊢
      refine pure_ (i := 1) (N := some 26) (v := ?_) (a' := ?_) #[false, true, false, false, false, false, false, false] rfl rfl (any_of HT_.out (by kernel_rfl)) (fun _ _ _ h => h) (Or.inl ⟨by rfl, ?_⟩) ?_ ?_
      rotate_left
      ·intro w'
       go_simp
       with_reducible rfl
      rotate_left
      ·simp only [Act.put, List.setIfInBounds_toArray, List.set_cons_zero, List.set_cons_succ, i64_w, i32_w]
       rfl
      refine pure_ (i := 2) (N := some 27) (v := ?_) (a' := ?_) #[false, true, true, false, false, false, false, false] rfl rfl (any_of HT_.out (by kernel_rfl)) (fun _ _ _ h => h) (Or.inl ⟨by rfl, ?_⟩) ?_ ?_
      rotate_left
      ·intro w'
       go_simp
       with_reducible rfl
      rotate_left
      ·simp only [Act.put, List.setIfInBounds_toArray, List.set_cons_zero, List.set_cons_succ, i64_w, i32_w]
       rfl
      refine pure_ (i := 3) (N := some 28) (v := ?_) (a' := ?_) #[false, true, true, true, false, false, false, false] rfl rfl (any_of HT_.out (by kernel_rfl)) (fun _ _ _ h => h) (Or.inl ⟨by rfl, ?_⟩) ?_ ?_
      rotate_left
      ·intro w'
       go_simp
       with_reducible rfl
      rotate_left
      ·simp only [Act.put, List.setIfInBounds_toArray, List.set_cons_zero, List.set_cons_succ, i64_w, i32_w]
       rfl
      refine take_ (i := 0) (N := some 25) (v := ?_) (a' := ?_) #[true, true, true, true, false, false, false, false] rfl rfl (take_ofW HT_.out HW_.out (by kernel_rfl)) (fun _ _ _ h => h) (Or.inl ⟨by rfl, ?_⟩) hHeld ?_ ?_
      rotate_left
      ·rintro w' ⟨s0, s1, s2, s3⟩
       go_simp
       with_reducible rfl
      rotate_left
      ·simp only [Act.put, List.setIfInBounds_toArray, List.set_cons_zero, List.set_cons_succ, i64_w, i32_w]
       rfl
      refine take_ (i := 4) (N := some 29) (v := ?_) (a' := ?_) #[true, true, true, true, true, false, false, false] rfl rfl (take_ofW HT_.out HW_.out (by kernel_rfl)) (fun _ _ _ h => h) (Or.inl ⟨by rfl, ?_⟩) hHeld ?_ ?_
      rotate_left
      ·rintro w' ⟨s0, s1, s2, s3⟩
       go_simp
       with_reducible rfl
      rotate_left
      ·simp only [Act.put, List.setIfInBounds_toArray, List.set_cons_zero, List.set_cons_succ, i64_w, i32_w]
       rfl
      refine pure_ (i := 5) (N := some 30) (v := ?_) (a' := ?_) #[true, true, true, true, true, true, false, false] rfl rfl (any_of HT_.out (by kernel_rfl)) (fun _ _ _ h => h) (Or.inl ⟨by rfl, ?_⟩) ?_ ?_
      rotate_left
      ·intro w'
       go_simp
       with_reducible rfl
      rotate_left
      ·simp only [Act.put, List.setIfInBounds_toArray, List.set_cons_zero, List.set_cons_succ, i64_w, i32_w]
       rfl
      refine one_ (i := 6) (N := some 31) #[true, true, true, true, true, true, true, false] rfl rfl (one_of HT_.out (by kernel_rfl)) (by decide) (fun K hK => ?_)
      refine goes_ Try.func85 (by kernel_rfl) rfl #[.agg #[.int .i64 a1, .int .i64 x332001_4, .int .i64 x332002_4], .int .i64 (l0_0.length : Int)] (by rfl) rfl rfl zl ?_
      with_reducible refine (impl_nodeOk.calls kj4 a1 x332001_4 x332002_4 (l0_0.length : Int) true _ A16.out).mono ?_
      rintro e w27 ⟨rfl, hb⟩
      refine ⟨_, rfl, ?_⟩
      have n0_ := Aside0.mk (Kd.R_below (zr HO_331000.out) hb)
      have n1_ := Aside0.mk (blk_below (zh BK330.out) hb)
      have n2_ := Aside0.mk (blk_below (zh BK331.out) hb)
      have n3_ := Aside0.mk (Kept.below (S := (fun k_ => P0_0_ k_ ∨ k_ = gb330)) (zk HK.out) hb)
      have n4_ := Aside0.mk (below_step (zb HB.out) hb)
      clear HO_331000
      clear BK330
      clear BK331
      clear HK
      clear HB
      have HO_331000 := n0_
      have BK330 := n1_
      have BK331 := n2_
      have HK := n3_
      have HB := n4_
      clear n0_ n1_ n2_ n3_ n4_
      (try clear hb)
      (try clear hb2)
      (try clear hk)
      (try clear hi)
      refine hK.out _ _ ⟨(blk_cell BK331.out 0).trans rfl, (blk_cell BK331.out 1).trans rfl, (blk_cell BK331.out 2).trans rfl, (blk_cell BK330.out 0).trans rfl⟩ (fun hHeld => ?_)
      clear hK K
      refine norm_ (a' := ?_) ?_ ?_
      rotate_left
      ·show Act.put _ (some 31) _ = _
       simp only [Act.put, List.setIfInBounds_toArray, List.set_cons_zero, List.set_cons_succ, i64_w, i32_w]
       rfl
      refine pure_ (i := 7) (N := some 32) (v := ?_) (a' := ?_) #[true, true, true, true, true, true, true, true] rfl rfl (any_of HT_.out (by kernel_rfl)) (fun _ _ _ h => h) (Or.inl ⟨by rfl, ?_⟩) ?_ ?_
      rotate_left
      ·intro w'
       go_simp
       with_reducible rfl
      rotate_left
      ·simp only [Act.put, List.setIfInBounds_toArray, List.set_cons_zero, List.set_cons_succ, i64_w, i32_w]
       rfl
      refine done_ (done_of HT_.out (by kernel_rfl)) ?_
      have hnb28 := NB331_330.out
      have hnc28 := NB330_331.out
      have hcz29_0 : w27.cell? ⟨gb331, 0, none⟩ = some (.int .i64 a1) := (blk_cell BK331.out 0).trans rfl
      have hcz29_1 : w27.cell? ⟨gb331, 1, none⟩ = some (.int .i64 x332001_4) := (blk_cell BK331.out 1).trans rfl
      have hcz29_2 : w27.cell? ⟨gb331, 2, none⟩ = some (.int .i64 x332002_4) := (blk_cell BK331.out 2).trans rfl
      have hfz29_0 := blk_frozen BK331.out 0
      have hfz29_1 := blk_frozen BK331.out 1
      have hfz29_2 := blk_frozen BK331.out 2
      try go_wp2_with (first | ((with_reducible refine gate_callee (f := 111) rfl ?_); refine goesL_ (some 35) rfl rfl Try.func111 (by kernel_rfl) rfl #[.pointer (some ⟨gb330, 0, none⟩), .agg #[.int .i64 a1, .int .i64 x332001_4, .int .i64 x332002_4]] rfl zl ?_; (with_reducible refine (impl_Pool_find.calls kj4 _ Ao6 co6 l0_0 a1 x332001_4 x332002_4 t333 _ ?side1 ?side2 ?side3 A18.out).mono ?_); (case side1 => exact zh BK330.out); (case side2 => exact zc (Kd.R_reads' HO_331000.out).2.2); (case side3 => exact (Kd.R_reads' HO_331000.out).2.1); rintro e w30 ⟨rfl, hb⟩; refine ⟨_, rfl, ?_⟩; have n0_ := Aside0.mk (Kd.R_below (zr HO_331000.out) hb); have n1_ := Aside0.mk (blk_below (zh BK330.out) hb); have n2_ := Aside0.mk (blk_below (zh BK331.out) hb); have n3_ := Aside0.mk (Kept.below (S := (fun k_ => P0_0_ k_ ∨ k_ = gb330)) (zk HK.out) hb); have n4_ := Aside0.mk (below_step (zb HB.out) hb); clear HO_331000; clear BK330; clear BK331; clear HK; clear HB; have HO_331000 := n0_; have BK330 := n1_; have BK331 := n2_; have HK := n3_; have HB := n4_; clear n0_ n1_ n2_ n3_ n4_; (try clear hb); (try clear hb2); (try clear hk); (try clear hi); have hcz31_0 : w30.cell? ⟨gb330, 0, none⟩ = some (.slice Ao6 l0_0.length co6) := (blk_cell BK330.out 0).trans rfl; have hfz31_0 := blk_frozen BK330.out 0))
      go_ret
      exact ⟨ze, zb HB.out, zk HK.out, _, zh BK330.out, zr (Kd.R_mono HO_331000.out (fun _ hk => hk.1))⟩
     ·rw [if_neg c25] at H
      have c25b0 : decide (500 ≤ (l0_0.length : Int)) = false := decide_eq_false c25
      have c25b1 : decide (500 ≤ l0_0.length) = false := decide_eq_false (by omega)
      clear c25
      by_cases c32 : l0_0.length < 5864062014805
      ·rw [if_pos c32] at H
       have LMc32 := Aside0.mk c32
       clear c32
       obtain ⟨y334, hy334⟩ : ∃ y_ : List (S44), y_ = (l0_0 ++ [(⟨a1, x332001_4, x332002_4⟩ : S44)]) := ⟨_, rfl⟩
       replace H : (some (y334, wrap64 ((y334.length : Int) - 1))) = some r := by first | (rw [hy334]; with_reducible exact H) | (have H2_ := (Option.bind_some _ _).symm.trans H; rw [hy334]; with_reducible exact H2_) | (have H2_ := (Option.bind_some _ _).symm.trans H; with_reducible exact H2_) | with_reducible exact H | (rw [hy334]; exact H) | exact H
       have Ny334 := Aside0.mk hy334
       clear hy334
       obtain rfl := Option.some.inj H
       try go_wp2
       have n0_ := Aside0.mk (Kd.R_drew HO_331000.out)
       have n1_ := Aside0.mk (blk_drew BK330.out)
       have n2_ := Aside0.mk (blk_drew BK331.out)
       have n3_ := Aside0.mk (Kept.drew HK.out)
       have n4_ := Aside0.mk (below_drew1 HB.out)
       clear HO_331000
       clear BK330
       clear BK331
       clear HK
       clear HB
       have HO_331000 := n0_
       have BK330 := n1_
       have BK331 := n2_
       have HK := n3_
       have HB := n4_
       clear n0_ n1_ n2_ n3_ n4_
       refine start_ (n := 8) (S := fun w' => w'.cell? ⟨gb331, 0, none⟩ = some (.int .i64 a1) ∧ w'.cell? ⟨gb331, 1, none⟩ = some (.int .i64 x332001_4) ∧ w'.cell? ⟨gb331, 2, none⟩ = some (.int .i64 x332002_4) ∧ w'.cell? ⟨gb330, 0, none⟩ = some (.slice Ao6 l0_0.length co6)) (ds := []) #[false, false, false, false, false, false, false, false] (by kernel_rfl) rfl rfl ⟨(blk_cell BK331.out 0).trans rfl, (blk_cell BK331.out 1).trans rfl, (blk_cell BK331.out 2).trans rfl, (blk_cell BK330.out 0).trans rfl⟩ (fun hHeld => ?_); refine with_tabW impl_Pool_add.tab4 impl_Pool_add.bits4 (fun HT_ HW_ => ?_)
       generalize wc.drew = w33 at HO_331000 BK330 BK331 HK HB hHeld ⊢
       refine pure_ (i := 1) (N := some 26) (v := ?_) (a' := ?_) #[false, true, false, false, false, false, false, false] rfl rfl (any_of HT_.out (by kernel_rfl)) (fun _ _ _ h => h) (Or.inl ⟨by rfl, ?_⟩) ?_ ?_
       rotate_left
       ·intro w'
        go_simp
        with_reducible rfl
       rotate_left
       ·simp only [Act.put, List.setIfInBounds_toArray, List.set_cons_zero, List.set_cons_succ, i64_w, i32_w]
        rfl
       refine pure_ (i := 2) (N := some 27) (v := ?_) (a' := ?_) #[false, true, true, false, false, false, false, false] rfl rfl (any_of HT_.out (by kernel_rfl)) (fun _ _ _ h => h) (Or.inl ⟨by rfl, ?_⟩) ?_ ?_
       rotate_left
       ·intro w'
        go_simp
        with_reducible rfl
       rotate_left
       ·simp only [Act.put, List.setIfInBounds_toArray, List.set_cons_zero, List.set_cons_succ, i64_w, i32_w]
        rfl
       refine pure_ (i := 3) (N := some 28) (v := ?_) (a' := ?_) #[false, true, true, true, false, false, false, false] rfl rfl (any_of HT_.out (by kernel_rfl)) (fun _ _ _ h => h) (Or.inl ⟨by rfl, ?_⟩) ?_ ?_
       rotate_left
       ·intro w'
        go_simp
        with_reducible rfl
       rotate_left
       ·simp only [Act.put, List.setIfInBounds_toArray, List.set_cons_zero, List.set_cons_succ, i64_w, i32_w]
        rfl
       refine take_ (i := 0) (N := some 25) (v := ?_) (a' := ?_) #[true, true, true, true, false, false, false, false] rfl rfl (take_ofW HT_.out HW_.out (by kernel_rfl)) (fun _ _ _ h => h) (Or.inl ⟨by rfl, ?_⟩) hHeld ?_ ?_
       rotate_left
       ·rintro w' ⟨s0, s1, s2, s3⟩
        go_simp
        with_reducible rfl
       rotate_left
       ·simp only [Act.put, List.setIfInBounds_toArray, List.set_cons_zero, List.set_cons_succ, i64_w, i32_w]
        rfl
       refine take_ (i := 4) (N := some 29) (v := ?_) (a' := ?_) #[true, true, true, true, true, false, false, false] rfl rfl (take_ofW HT_.out HW_.out (by kernel_rfl)) (fun _ _ _ h => h) (Or.inl ⟨by rfl, ?_⟩) hHeld ?_ ?_
       rotate_left
       ·rintro w' ⟨s0, s1, s2, s3⟩
        go_simp
        with_reducible rfl
       rotate_left
       ·simp only [Act.put, List.setIfInBounds_toArray, List.set_cons_zero, List.set_cons_succ, i64_w, i32_w]
        rfl
       refine pure_ (i := 5) (N := some 30) (v := ?_) (a' := ?_) #[true, true, true, true, true, true, false, false] rfl rfl (any_of HT_.out (by kernel_rfl)) (fun _ _ _ h => h) (Or.inl ⟨by rfl, ?_⟩) ?_ ?_
       rotate_left
       ·intro w'
        go_simp
        with_reducible rfl
       rotate_left
       ·simp only [Act.put, List.setIfInBounds_toArray, List.set_cons_zero, List.set_cons_succ, i64_w, i32_w]
        rfl
       refine one_ (i := 6) (N := some 31) #[true, true, true, true, true, true, true, false] rfl rfl (one_of HT_.out (by kernel_rfl)) (by decide) (fun K hK => ?_)
       refine goes_ Try.func85 (by kernel_rfl) rfl #[.agg #[.int .i64 a1, .int .i64 x332001_4, .int .i64 x332002_4], .int .i64 (l0_0.length : Int)] (by rfl) rfl rfl zl ?_
       with_reducible refine (impl_nodeOk.calls kj4 a1 x332001_4 x332002_4 (l0_0.length : Int) true _ A16.out).mono ?_
       rintro e w34 ⟨rfl, hb⟩
       refine ⟨_, rfl, ?_⟩
       have n0_ := Aside0.mk (Kd.R_below (zr HO_331000.out) hb)
       have n1_ := Aside0.mk (blk_below (zh BK330.out) hb)
       have n2_ := Aside0.mk (blk_below (zh BK331.out) hb)
       have n3_ := Aside0.mk (Kept.below (S := (fun k_ => P0_0_ k_ ∨ k_ = gb330)) (zk HK.out) hb)
       have n4_ := Aside0.mk (below_step (zb HB.out) hb)
       clear HO_331000
       clear BK330
       clear BK331
       clear HK
       clear HB
       have HO_331000 := n0_
       have BK330 := n1_
       have BK331 := n2_
       have HK := n3_
       have HB := n4_
       clear n0_ n1_ n2_ n3_ n4_
       (try clear hb)
       (try clear hb2)
       (try clear hk)
       (try clear hi)
       refine hK.out _ _ ⟨(blk_cell BK331.out 0).trans rfl, (blk_cell BK331.out 1).trans rfl, (blk_cell BK331.out 2).trans rfl, (blk_cell BK330.out 0).trans rfl⟩ (fun hHeld => ?_)
       clear hK K
       refine norm_ (a' := ?_) ?_ ?_
       rotate_left
       ·show Act.put _ (some 31) _ = _
        simp only [Act.put, List.setIfInBounds_toArray, List.set_cons_zero, List.set_cons_succ, i64_w, i32_w]
        rfl
       refine pure_ (i := 7) (N := some 32) (v := ?_) (a' := ?_) #[true, true, true, true, true, true, true, true] rfl rfl (any_of HT_.out (by kernel_rfl)) (fun _ _ _ h => h) (Or.inl ⟨by rfl, ?_⟩) ?_ ?_
       rotate_left
       ·intro w'
        go_simp
        with_reducible rfl
       rotate_left
       ·simp only [Act.put, List.setIfInBounds_toArray, List.set_cons_zero, List.set_cons_succ, i64_w, i32_w]
        rfl
       refine done_ (done_of HT_.out (by kernel_rfl)) ?_
       have hnb35 := NB331_330.out
       have hnc35 := NB330_331.out
       have hcz36_0 : w34.cell? ⟨gb331, 0, none⟩ = some (.int .i64 a1) := (blk_cell BK331.out 0).trans rfl
       have hcz36_1 : w34.cell? ⟨gb331, 1, none⟩ = some (.int .i64 x332001_4) := (blk_cell BK331.out 1).trans rfl
       have hcz36_2 : w34.cell? ⟨gb331, 2, none⟩ = some (.int .i64 x332002_4) := (blk_cell BK331.out 2).trans rfl
       have hfz36_0 := blk_frozen BK331.out 0
       have hfz36_1 := blk_frozen BK331.out 1
       have hfz36_2 := blk_frozen BK331.out 2
       try go_wp2_with (first | ((with_reducible refine gate_callee (f := 111) rfl ?_); refine goesL_ (some 35) rfl rfl Try.func111 (by kernel_rfl) rfl #[.pointer (some ⟨gb330, 0, none⟩), .agg #[.int .i64 a1, .int .i64 x332001_4, .int .i64 x332002_4]] rfl zl ?_; (with_reducible refine (impl_Pool_find.calls kj4 _ Ao6 co6 l0_0 a1 x332001_4 x332002_4 t333 _ ?side1 ?side2 ?side3 A18.out).mono ?_); (case side1 => exact zh BK330.out); (case side2 => exact zc (Kd.R_reads' HO_331000.out).2.2); (case side3 => exact (Kd.R_reads' HO_331000.out).2.1); rintro e w37 ⟨rfl, hb⟩; refine ⟨_, rfl, ?_⟩; have n0_ := Aside0.mk (Kd.R_below (zr HO_331000.out) hb); have n1_ := Aside0.mk (blk_below (zh BK330.out) hb); have n2_ := Aside0.mk (blk_below (zh BK331.out) hb); have n3_ := Aside0.mk (Kept.below (S := (fun k_ => P0_0_ k_ ∨ k_ = gb330)) (zk HK.out) hb); have n4_ := Aside0.mk (below_step (zb HB.out) hb); clear HO_331000; clear BK330; clear BK331; clear HK; clear HB; have HO_331000 := n0_; have BK330 := n1_; have BK331 := n2_; have HK := n3_; have HB := n4_; clear n0_ n1_ n2_ n3_ n4_; (try clear hb); (try clear hb2); (try clear hk); (try clear hi); have hcz38_0 : w37.cell? ⟨gb330, 0, none⟩ = some (.slice Ao6 l0_0.length co6) := (blk_cell BK330.out 0).trans rfl; have hfz38_0 := blk_frozen BK330.out 0))
       have n0_ := Aside0.mk (Kd.R_drew HO_331000.out)
       have n1_ := Aside0.mk (blk_drew BK330.out)
       have n2_ := Aside0.mk (blk_drew BK331.out)
       have n3_ := Aside0.mk (Kept.drew HK.out)
       have n4_ := Aside0.mk (below_drew1 HB.out)
       clear HO_331000
       clear BK330
       clear BK331
       clear HK
       clear HB
       have HO_331000 := n0_
       have BK330 := n1_
       have BK331 := n2_
       have HK := n3_
       have HB := n4_
       clear n0_ n1_ n2_ n3_ n4_
       refine start_ (n := 11) (S := fun w' => w'.cell? ⟨gb330, 0, none⟩ = some (.slice Ao6 l0_0.length co6) ∧ w'.cell? ⟨gb331, 0, none⟩ = some (.int .i64 a1) ∧ w'.cell? ⟨gb331, 1, none⟩ = some (.int .i64 x332001_4) ∧ w'.cell? ⟨gb331, 2, none⟩ = some (.int .i64 x332002_4)) (ds := [10]) #[false, false, false, false, false, false, false, false, false, false, false] (by kernel_rfl) rfl rfl ⟨(blk_cell BK330.out 0).trans rfl, (blk_cell BK331.out 0).trans rfl, (blk_cell BK331.out 1).trans rfl, (blk_cell BK331.out 2).trans rfl⟩ (fun hHeld => ?_); refine with_tabW impl_Pool_add.tab11 impl_Pool_add.bits11 (fun HT_ HW_ => ?_)
       generalize w37.drew = w39 at HO_331000 BK330 BK331 HK HB hHeld ⊢
       refine pure_ (i := 0) (N := some 45) (v := ?_) (a' := ?_) #[true, false, false, false, false, false, false, false, false, false, false] rfl rfl (any_of HT_.out (by kernel_rfl)) (fun _ _ _ h => h) (Or.inl ⟨by rfl, ?_⟩) ?_ ?_
       rotate_left
       ·intro w'
        go_simp
        with_reducible rfl
       rotate_left
       ·simp only [Act.put, List.setIfInBounds_toArray, List.set_cons_zero, List.set_cons_succ, i64_w, i32_w]
        rfl
       refine pure_ (i := 1) (N := some 46) (v := ?_) (a' := ?_) #[true, true, false, false, false, false, false, false, false, false, false] rfl rfl (any_of HT_.out (by kernel_rfl)) (fun _ _ _ h => h) (Or.inl ⟨by rfl, ?_⟩) ?_ ?_
       rotate_left
       ·intro w'
        go_simp
        with_reducible rfl
       rotate_left
       ·simp only [Act.put, List.setIfInBounds_toArray, List.set_cons_zero, List.set_cons_succ, i64_w, i32_w]
        rfl
       refine pure_ (i := 2) (N := some 47) (v := ?_) (a' := ?_) #[true, true, true, false, false, false, false, false, false, false, false] rfl rfl (any_of HT_.out (by kernel_rfl)) (fun _ _ _ h => h) (Or.inl ⟨by rfl, ?_⟩) ?_ ?_
       rotate_left
       ·intro w'
        go_simp
        with_reducible rfl
       rotate_left
       ·simp only [Act.put, List.setIfInBounds_toArray, List.set_cons_zero, List.set_cons_succ, i64_w, i32_w]
        rfl
       refine pure_ (i := 3) (N := some 48) (v := ?_) (a' := ?_) #[true, true, true, true, false, false, false, false, false, false, false] rfl rfl (any_of HT_.out (by kernel_rfl)) (fun _ _ _ h => h) (Or.inl ⟨by rfl, ?_⟩) ?_ ?_
       rotate_left
       ·intro w'
        go_simp
        with_reducible rfl
       rotate_left
       ·simp only [Act.put, List.setIfInBounds_toArray, List.set_cons_zero, List.set_cons_succ, i64_w, i32_w]
        rfl
       refine take_ (i := 4) (N := some 49) (v := ?_) (a' := ?_) #[true, true, true, true, true, false, false, false, false, false, false] rfl rfl (take_ofW HT_.out HW_.out (by kernel_rfl)) (fun _ _ _ h => h) (Or.inl ⟨by rfl, ?_⟩) hHeld ?_ ?_
       rotate_left
       ·rintro w' ⟨s0, s1, s2, s3⟩
        go_simp
        with_reducible rfl
       rotate_left
       ·simp only [Act.put, List.setIfInBounds_toArray, List.set_cons_zero, List.set_cons_succ, i64_w, i32_w]
        rfl
       refine take_ (i := 5) (N := some 50) (v := ?_) (a' := ?_) #[true, true, true, true, true, true, false, false, false, false, false] rfl rfl (take_ofW HT_.out HW_.out (by kernel_rfl)) (fun _ _ _ h => h) (Or.inl ⟨by rfl, ?_⟩) hHeld ?_ ?_
       rotate_left
       ·rintro w' ⟨s0, s1, s2, s3⟩
        go_simp
        with_reducible rfl
       rotate_left
       ·simp only [Act.put, List.setIfInBounds_toArray, List.set_cons_zero, List.set_cons_succ, i64_w, i32_w]
        rfl
       refine one_ (i := 6) (N := some 51) #[true, true, true, true, true, true, true, false, false, false, false] rfl rfl (one_of HT_.out (by kernel_rfl)) (by decide) (fun K hK => ?_)
       refine value_ (w1 := ?_) (v := ?_) (by rfl) rfl ?_ ?_
       rotate_left 2
       ·go_simp
        constructor
        ·rfl
        ·rfl
       refine hK.out _ _ ⟨(blk_cell (blk_alloc BK330.out _) 0).trans rfl, (blk_cell (blk_alloc BK331.out _) 0).trans rfl, (blk_cell (blk_alloc BK331.out _) 1).trans rfl, (blk_cell (blk_alloc BK331.out _) 2).trans rfl⟩ (fun hHeld => ?_)
       clear hK K
       refine norm_ (a' := ?_) ?_ ?_
       rotate_left
       ·show Act.put _ (some 51) _ = _
        simp only [Act.put, List.setIfInBounds_toArray, List.set_cons_zero, List.set_cons_succ, i64_w, i32_w]
        rfl
       refine one_ (i := 7) (N := some 52) #[true, true, true, true, true, true, true, true, false, false, false] rfl rfl (one_of HT_.out (by kernel_rfl)) (by decide) (fun K hK => ?_)
       refine Kd.R_append_step k44 (w0 := w0) w0.heap.size (by rfl) (.tmp 49) (.tmp 51) 28 44 (.agg #[(.int .i64 0), (.int .i64 0), (.int .i64 0)]) 24 rfl Try.underlying28 info44 rfl (by decide) (by omega) (.slice Ao6 l0_0.length co6) l0_0 (⟨a1, x332001_4, x332002_4⟩ : S44) [.int .i64 a1, .int .i64 x332001_4, .int .i64 x332002_4] (fun k_ => (P0_0_ k_ ∨ w.heap.size ≤ k_) ∧ k_ ≠ gb331) (fun _ => False) rfl rfl ?aP (fun _ hk => hk.elim) ?aF ?aO ?aB ?aS ?aL ?_
       (case aP => exact k44_mkM _ _ _ (⟨a1, x332001_4, x332002_4⟩ : S44))
       (case aB => exact (zb HB.out))
       (case aF => exact (fun k_ hk => ⟨(.inr (Nat.le_trans (by first | exact HK.out.1 | exact (show Kept w _ (fun k_ => P0_0_ k_ ∨ k_ = gb330) from zk HK.out).1) hk)), Kd.freshB (zh BK331.out) k_ hk⟩))
       (case aO => exact (zr HO_331000.out))
       (case aS => exact (below_size (zb HB.out)))
       (case aL => have := LMc32.out; omega)
       intro v335 w40 ho hb hg hat
       rw [← Ny334.out] at ho
       have n0_ := Aside0.mk (blk_grown (zh BK330.out) hg (Kd.R_ne HO_331000.out BK330.out (by decide)))
       have n1_ := Aside0.mk (blk_grown (zh BK331.out) hg (Kd.R_away HO_331000.out (fun _ hk => hk.2)))
       have n2_ := Aside0.mk (hb)
       have n3_ := Aside0.mk (Kept.of_grown (S := (fun k_ => P0_0_ k_ ∨ k_ = gb330)) hg (zk HK.out) (fun k_ e_ => ((HO_331000.out.1 k_ e_).1).imp Or.inl id))
       have n4_ := Aside0.mk (ho)
       clear BK330
       clear BK331
       clear HB
       clear HK
       clear HO_331000
       have BK330 := n0_
       have BK331 := n1_
       have HB := n2_
       have HK := n3_
       have HO336 := n4_
       clear n0_ n1_ n2_ n3_ n4_
       clear ho hb hg hat
       obtain ⟨Ao41, co41, eo41⟩ := Kd.R_slice HO336.out
       (first | subst eo41 | (injection eo41 with f1_ f2_ f3_; have f4_ := f1_.symm; have f5_ := f3_.symm; clear f1_ f2_ f3_; subst f4_; subst f5_))
       refine hK.out _ _ ⟨(blk_cell BK330.out 0).trans rfl, (blk_cell BK331.out 0).trans rfl, (blk_cell BK331.out 1).trans rfl, (blk_cell BK331.out 2).trans rfl⟩ (fun hHeld => ?_)
       clear hK K
       refine norm_ (a' := ?_) ?_ ?_
       rotate_left
       ·show Act.put _ (some 52) _ = _
        simp only [Act.put, List.setIfInBounds_toArray, List.set_cons_zero, List.set_cons_succ, i64_w, i32_w]
        rfl
       refine pure_ (i := 8) (N := some 53) (v := ?_) (a' := ?_) #[true, true, true, true, true, true, true, true, true, false, false] rfl rfl (any_of HT_.out (by kernel_rfl)) (fun _ _ _ h => h) (Or.inl ⟨by rfl, ?_⟩) ?_ ?_
       rotate_left
       ·intro w'
        go_simp
        with_reducible rfl
       rotate_left
       ·simp only [Act.put, List.setIfInBounds_toArray, List.set_cons_zero, List.set_cons_succ, i64_w, i32_w]
        rfl
       refine pure_ (i := 9) (N := some 54) (v := ?_) (a' := ?_) #[true, true, true, true, true, true, true, true, true, true, false] rfl rfl (any_of HT_.out (by kernel_rfl)) (fun _ _ _ h => h) (Or.inl ⟨by rfl, ?_⟩) ?_ ?_
       rotate_left
       ·intro w'
        go_simp
        with_reducible rfl
       rotate_left
       ·simp only [Act.put, List.setIfInBounds_toArray, List.set_cons_zero, List.set_cons_succ, i64_w, i32_w]
        rfl
       refine last_ (i := 10) (N := none) #[true, true, true, true, true, true, true, true, true, true, true] rfl rfl (one_of HT_.out (by kernel_rfl)) (by decide) (fun K hK => ?_)
       have hs42 : w40.cell? ⟨gb330, 0, none⟩ = some (.slice Ao6 l0_0.length co6) := (blk_cell BK330.out 0).trans rfl
       have hfs42 := blk_frozen BK330.out 0
       have hns42_1 := NB331_330.out
       have hms42_1 := NB330_331.out
       refine skip_ (w1 := ?_) (by rfl) rfl ?_ ?_
       rotate_left
       ·go_simp
        rfl
       refine hK.out _ _ ?_
       clear hK K
       refine done_ (done_of HT_.out (by kernel_rfl)) ?_
       have hcz43_0 : w40.cell? ⟨gb330, 0, none⟩ = some (.slice Ao6 l0_0.length co6) := (blk_cell BK330.out 0).trans rfl
       have hfz43_0 := blk_frozen BK330.out 0
       try go_wp2
       go_ret
       exact ⟨ze, zb HB.out, zk HK.out, _, by (with_reducible repeat (first | refine blk_drewN ?_ _ | refine blk_drew ?_ | refine blk_alloc ?_ _)); refine blk_put (cs := #[.slice Ao6 l0_0.length co6]) ?_ 0 _ rfl; (with_reducible repeat (first | refine blk_drewN ?_ _ | refine blk_drew ?_ | refine blk_alloc ?_ _)); exact BK330.out, zr (Kd.R_mono (Kd.R_far (p := ⟨gb330, 0, none⟩) (Kd.R_far1 HO336.out rfl (Kd.R_ne HO336.out BK330.out (by decide))) (fun _ hk => hk.2) _) (fun _ hk => hk.1.1))⟩
      ·rw [if_neg c32] at H
       exact absurd H (by simp)
   ·replace c17 := Bool.eq_false_iff.mpr c17
    subst c17
    have H1 : (some (l0_0, -1)) = some r := by rw [if_neg (show ¬ (false = true) by decide)] at H; exact H
    clear H
    have H := H1
    clear H1
    obtain rfl := Option.some.inj H
    try go_wp2
    have n0_ := Aside0.mk (Kd.R_drew HO_331000.out)
    have n1_ := Aside0.mk (blk_drew BK330.out)
    have n2_ := Aside0.mk (blk_drew BK331.out)
    have n3_ := Aside0.mk (Kept.drew HK.out)
    have n4_ := Aside0.mk (below_drew1 HB.out)
    clear HO_331000
    clear BK330
    clear BK331
    clear HK
    clear HB
    have HO_331000 := n0_
    have BK330 := n1_
    have BK331 := n2_
    have HK := n3_
    have HB := n4_
    clear n0_ n1_ n2_ n3_ n4_
    refine start_ (n := 8) (S := fun w' => w'.cell? ⟨gb331, 0, none⟩ = some (.int .i64 a1) ∧ w'.cell? ⟨gb331, 1, none⟩ = some (.int .i64 x332001_4) ∧ w'.cell? ⟨gb331, 2, none⟩ = some (.int .i64 x332002_4) ∧ w'.cell? ⟨gb330, 0, none⟩ = some (.slice Ao6 l0_0.length co6)) (ds := []) #[false, false, false, false, false, false, false, false] (by kernel_rfl) rfl rfl ⟨(blk_cell BK331.out 0).trans rfl, (blk_cell BK331.out 1).trans rfl, (blk_cell BK331.out 2).trans rfl, (blk_cell BK330.out 0).trans rfl⟩ (fun hHeld => ?_); refine with_tabW impl_Pool_add.tab4 impl_Pool_add.bits4 (fun HT_ HW_ => ?_)
    generalize wc.drew = w44 at HO_331000 BK330 BK331 HK HB hHeld ⊢
    refine pure_ (i := 1) (N := some 26) (v := ?_) (a' := ?_) #[false, true, false, false, false, false, false, false] rfl rfl (any_of HT_.out (by kernel_rfl)) (fun _ _ _ h => h) (Or.inl ⟨by rfl, ?_⟩) ?_ ?_
    rotate_left
    ·intro w'
     go_simp
     with_reducible rfl
    rotate_left
    ·simp only [Act.put, List.setIfInBounds_toArray, List.set_cons_zero, List.set_cons_succ, i64_w, i32_w]
     rfl
    refine pure_ (i := 2) (N := some 27) (v := ?_) (a' := ?_) #[false, true, true, false, false, false, false, false] rfl rfl (any_of HT_.out (by kernel_rfl)) (fun _ _ _ h => h) (Or.inl ⟨by rfl, ?_⟩) ?_ ?_
    rotate_left
    ·intro w'
     go_simp
     with_reducible rfl
    rotate_left
    ·simp only [Act.put, List.setIfInBounds_toArray, List.set_cons_zero, List.set_cons_succ, i64_w, i32_w]
     rfl
    refine pure_ (i := 3) (N := some 28) (v := ?_) (a' := ?_) #[false, true, true, true, false, false, false, false] rfl rfl (any_of HT_.out (by kernel_rfl)) (fun _ _ _ h => h) (Or.inl ⟨by rfl, ?_⟩) ?_ ?_
    rotate_left
    ·intro w'
     go_simp
     with_reducible rfl
    rotate_left
    ·simp only [Act.put, List.setIfInBounds_toArray, List.set_cons_zero, List.set_cons_succ, i64_w, i32_w]
     rfl
    refine take_ (i := 0) (N := some 25) (v := ?_) (a' := ?_) #[true, true, true, true, false, false, false, false] rfl rfl (take_ofW HT_.out HW_.out (by kernel_rfl)) (fun _ _ _ h => h) (Or.inl ⟨by rfl, ?_⟩) hHeld ?_ ?_
    rotate_left
    ·rintro w' ⟨s0, s1, s2, s3⟩
     go_simp
     with_reducible rfl
    rotate_left
    ·simp only [Act.put, List.setIfInBounds_toArray, List.set_cons_zero, List.set_cons_succ, i64_w, i32_w]
     rfl
    refine take_ (i := 4) (N := some 29) (v := ?_) (a' := ?_) #[true, true, true, true, true, false, false, false] rfl rfl (take_ofW HT_.out HW_.out (by kernel_rfl)) (fun _ _ _ h => h) (Or.inl ⟨by rfl, ?_⟩) hHeld ?_ ?_
    rotate_left
    ·rintro w' ⟨s0, s1, s2, s3⟩
     go_simp
     with_reducible rfl
    rotate_left
    ·simp only [Act.put, List.setIfInBounds_toArray, List.set_cons_zero, List.set_cons_succ, i64_w, i32_w]
     rfl
    refine pure_ (i := 5) (N := some 30) (v := ?_) (a' := ?_) #[true, true, true, true, true, true, false, false] rfl rfl (any_of HT_.out (by kernel_rfl)) (fun _ _ _ h => h) (Or.inl ⟨by rfl, ?_⟩) ?_ ?_
    rotate_left
    ·intro w'
     go_simp
     with_reducible rfl
    rotate_left
    ·simp only [Act.put, List.setIfInBounds_toArray, List.set_cons_zero, List.set_cons_succ, i64_w, i32_w]
     rfl
    refine one_ (i := 6) (N := some 31) #[true, true, true, true, true, true, true, false] rfl rfl (one_of HT_.out (by kernel_rfl)) (by decide) (fun K hK => ?_)
    refine goes_ Try.func85 (by kernel_rfl) rfl #[.agg #[.int .i64 a1, .int .i64 x332001_4, .int .i64 x332002_4], .int .i64 (l0_0.length : Int)] (by rfl) rfl rfl zl ?_
    with_reducible refine (impl_nodeOk.calls kj4 a1 x332001_4 x332002_4 (l0_0.length : Int) false _ A16.out).mono ?_
    rintro e w45 ⟨rfl, hb⟩
    refine ⟨_, rfl, ?_⟩
    have n0_ := Aside0.mk (Kd.R_below (zr HO_331000.out) hb)
    have n1_ := Aside0.mk (blk_below (zh BK330.out) hb)
    have n2_ := Aside0.mk (blk_below (zh BK331.out) hb)
    have n3_ := Aside0.mk (Kept.below (S := (fun k_ => P0_0_ k_ ∨ k_ = gb330)) (zk HK.out) hb)
    have n4_ := Aside0.mk (below_step (zb HB.out) hb)
    clear HO_331000
    clear BK330
    clear BK331
    clear HK
    clear HB
    have HO_331000 := n0_
    have BK330 := n1_
    have BK331 := n2_
    have HK := n3_
    have HB := n4_
    clear n0_ n1_ n2_ n3_ n4_
    (try clear hb)
    (try clear hb2)
    (try clear hk)
    (try clear hi)
    refine hK.out _ _ ⟨(blk_cell BK331.out 0).trans rfl, (blk_cell BK331.out 1).trans rfl, (blk_cell BK331.out 2).trans rfl, (blk_cell BK330.out 0).trans rfl⟩ (fun hHeld => ?_)
    clear hK K
    refine norm_ (a' := ?_) ?_ ?_
    rotate_left
    ·show Act.put _ (some 31) _ = _
     simp only [Act.put, List.setIfInBounds_toArray, List.set_cons_zero, List.set_cons_succ, i64_w, i32_w]
     rfl
    refine pure_ (i := 7) (N := some 32) (v := ?_) (a' := ?_) #[true, true, true, true, true, true, true, true] rfl rfl (any_of HT_.out (by kernel_rfl)) (fun _ _ _ h => h) (Or.inl ⟨by rfl, ?_⟩) ?_ ?_
    rotate_left
    ·intro w'
     go_simp
     with_reducible rfl
    rotate_left
    ·simp only [Act.put, List.setIfInBounds_toArray, List.set_cons_zero, List.set_cons_succ, i64_w, i32_w]
     rfl
    refine done_ (done_of HT_.out (by kernel_rfl)) ?_
    try go_wp2
    go_ret
    exact ⟨ze, zb HB.out, zk HK.out, _, zh BK330.out, zr (Kd.R_mono HO_331000.out (fun _ hk => hk.1))⟩



end Go.Proofs.Ytdgahpigcaejbaa.B
end

section
-- Written by this session's program (wip/tools/gprint.py over the kit's print) out of the translation; Lean checks it.
namespace Go.Proofs.Ytdgahpigcaejbaa.B
open Go.RowKit Go.Proofs.YtdgahpigcaejbaaW.PrintWords Go.Proofs.YtdgahpigcaejbaaW.PrintLast Go.Proofs.YtdgahpigcaejbaaW.PrintMore
attribute [local go_sem] max2_int min2_int max_two min_two max_three min_three max_four min_four   -- for this text's walks alone
set_option linter.unusedVariables false
set_option linter.unusedSimpArgs false
set_option maxRecDepth 100000


/-! ### impl_PoolAdd: function 46 -/
def impl_PoolAdd.f (k : Nat) (l0_0 : List (S44)) (a1_0 : Int) (a1_1 : Int) (a1_2 : Int) : Option ((List (S44)) × Int) := (impl_PoolOk.f l0_0).bind fun t335 => (if t335 = true then ((impl_copyPool.f l0_0).bind fun t336 => (impl_Pool_add.f k t336 a1_0 a1_1 a1_2)) else (some (([] : List (S44)), (-1))))
theorem impl_PoolAdd.mono : ∀ a0 x0 x1 x2 k, LeO (impl_PoolAdd.f k a0 x0 x1 x2) (impl_PoolAdd.f (k + 1) a0 x0 x1 x2) := by
 intro a0 x0 x1 x2 k
 unfold impl_PoolAdd.f
 repeat' first
   | (with_reducible exact impl_Pool_add.mono _ _ _ _ _)
   | (with_reducible exact LeO.refl _)
   | (with_reducible refine LeO.ite ?_ ?_)
   | (with_reducible refine LeO.bind ?_ (fun _ => ?_))
set_option maxHeartbeats 8000000 in
set_option maxRecDepth 100000 in
theorem impl_PoolAdd.calls (k : Nat) (A0_0 : Option Addr) (c0_0 : Nat) (l0_0 : List (S44)) (a1_0 : Int) (a1_1 : Int) (a1_2 : Int) (r1 : List (S44)) (r2 : Int) (w : World) (hr0_0 : Kd.C k44 w A0_0 l0_0.length l0_0) (hc0_0 : l0_0.length ≤ c0_0) (h : impl_PoolAdd.f k l0_0 a1_0 a1_1 a1_2 = some (r1, r2)) :
  Calls Try.prog 46 #[.agg #[.slice A0_0 l0_0.length c0_0], .agg #[.int .i64 a1_0, .int .i64 a1_1, .int .i64 a1_2]] w fun e w' => ∃ v0_ : Value, e = .returned (.tuple #[.agg #[v0_], .int .i64 r2]) ∧ Kd.R k44 44 w' w.heap.size (fun _ => True) v0_ r1 ∧ Below w.heap.size w w' := by
 have hu30 := Try.underlying30
 have hu44 := Try.underlying44
 have HR0_0 := Aside0.mk hr0_0
 have HC0_0 := Aside0.mk hc0_0
 clear hr0_0 hc0_0
 have HB := Aside0.mk (Below.refl w.heap.size w)
 have H : ((impl_PoolOk.f l0_0).bind fun t335 => (if t335 = true then ((impl_copyPool.f l0_0).bind fun t336 => (impl_Pool_add.f k t336 a1_0 a1_1 a1_2)) else (some (([] : List (S44)), (-1))))) = some (r1, r2) := h
 clear h
 replace H := Option.bind_eq_some_iff.mp H
 obtain ⟨t335, A30, H⟩ := H
 replace H : (if t335 = true then ((impl_copyPool.f l0_0).bind fun t336 => (impl_Pool_add.f k t336 a1_0 a1_1 a1_2)) else (some (([] : List (S44)), (-1)))) = some (r1, r2) := H
 have A3 := Aside0.mk A30
 clear A30
 by_cases c4 : t335 = true
 ·subst c4
  have H1 : ((impl_copyPool.f l0_0).bind fun t336 => (impl_Pool_add.f k t336 a1_0 a1_1 a1_2)) = some (r1, r2) := by rw [if_pos rfl] at H; exact H
  clear H
  have H := H1
  clear H1
  replace H := Option.bind_eq_some_iff.mp H
  obtain ⟨t336, A50, H⟩ := H
  replace H : (impl_Pool_add.f k t336 a1_0 a1_1 a1_2) = some (r1, r2) := H
  have A5 := Aside0.mk A50
  clear A50
  have A7 := Aside0.mk H
  clear H
  go_enter Try.func46, Try.ntmps46
  go_wp2_with (first | ((with_reducible refine gate_dst (N := 2) rfl ?_); refine box_event ?hg (N := 2) ?hd (cs := #[.slice A0_0 l0_0.length c0_0]) (t := 30) ?hr ?_; (case hd => rfl); (case hg => rfl); (case hr => first | (go_simp; done) | (go_simp; rfl)); intro gb332 hg w6 hbox hb; have n0_ := Aside0.mk (below_step (zb HB.out) hb); have n1_ := Aside0.mk (hbox); have n2_ := Aside0.mk ((by rw [hg]; exact (below_size (zb HB.out)) : w.heap.size ≤ gb332)); have n3_ := Aside0.mk ((by rw [hg]; exact (below_size (zb HB.out)) : w.heap.size ≤ gb332)); clear HB; have HB := n0_; have BK332 := n1_; have GW332 := n2_; have GE332 := n3_; clear n0_ n1_ n2_ n3_; clear hb hbox hg) | ((with_reducible refine gate_dst (N := 3) rfl ?_); refine box_event ?hg (N := 3) ?hd (cs := #[.int .i64 a1_0, .int .i64 a1_1, .int .i64 a1_2]) (t := 44) ?hr ?_; (case hd => rfl); (case hg => rfl); (case hr => first | (go_simp; done) | (go_simp; rfl)); intro gb333 hg w7 hbox hb; have n0_ := Aside0.mk (blk_below (zh BK332.out) hb); have n1_ := Aside0.mk (below_step (zb HB.out) hb); have n2_ := Aside0.mk (hbox); have n3_ := Aside0.mk ((by rw [hg]; exact (below_size (zb HB.out)) : w.heap.size ≤ gb333)); have n4_ := Aside0.mk ((by rw [hg]; exact (below_size (zb HB.out)) : w.heap.size ≤ gb333)); have n5_ := Aside0.mk ((by rw [hg]; exact Nat.ne_of_lt (blk_lt (zh BK332.out)) : gb332 ≠ gb333)); have n6_ := Aside0.mk ((by rw [hg]; exact Nat.ne_of_gt (blk_lt (zh BK332.out)) : gb333 ≠ gb332)); clear BK332; clear HB; have BK332 := n0_; have HB := n1_; have BK333 := n2_; have GW333 := n3_; have GE333 := n4_; have NB332_333 := n5_; have NB333_332 := n6_; clear n0_ n1_ n2_ n3_ n4_ n5_ n6_; clear hb hbox hg) | ((with_reducible refine gate_dst (N := 4) rfl ?_); refine box_event ?hg (N := 4) ?hd (cs := #[.slice none 0 0]) (t := 30) ?hr ?_; (case hd => rfl); (case hg => rfl); (case hr => first | (go_simp; done) | (go_simp; rfl)); intro gb334 hg w8 hbox hb; have n0_ := Aside0.mk (blk_below (zh BK332.out) hb); have n1_ := Aside0.mk (blk_below (zh BK333.out) hb); have n2_ := Aside0.mk (below_step (zb HB.out) hb); have n3_ := Aside0.mk (hbox); have n4_ := Aside0.mk ((by rw [hg]; exact (below_size (zb HB.out)) : w.heap.size ≤ gb334)); have n5_ := Aside0.mk ((by rw [hg]; exact (below_size (zb HB.out)) : w.heap.size ≤ gb334)); have n6_ := Aside0.mk ((by rw [hg]; exact Nat.ne_of_lt (blk_lt (zh BK332.out)) : gb332 ≠ gb334)); have n7_ := Aside0.mk ((by rw [hg]; exact Nat.ne_of_gt (blk_lt (zh BK332.out)) : gb334 ≠ gb332)); have n8_ := Aside0.mk ((by rw [hg]; exact Nat.ne_of_lt (blk_lt (zh BK333.out)) : gb333 ≠ gb334)); have n9_ := Aside0.mk ((by rw [hg]; exact Nat.ne_of_gt (blk_lt (zh BK333.out)) : gb334 ≠ gb333)); clear BK332; clear BK333; clear HB; have BK332 := n0_; have BK333 := n1_; have HB := n2_; have BK334 := n3_; have GW334 := n4_; have GE334 := n5_; have NB332_334 := n6_; have NB334_332 := n7_; have NB333_334 := n8_; have NB334_333 := n9_; clear n0_ n1_ n2_ n3_ n4_ n5_ n6_ n7_ n8_ n9_; clear hb hbox hg; have hnb9 := NB332_333.out; have hnc9 := NB333_332.out; have hnb10 := NB332_334.out; have hnc10 := NB334_332.out; have hcz11_0 : w8.cell? ⟨gb332, 0, none⟩ = some (.slice A0_0 l0_0.length c0_0) := (blk_cell BK332.out 0).trans rfl; have hfz11_0 := blk_frozen BK332.out 0) | ((with_reducible refine gate_callee (f := 52) rfl ?_); refine goesL_ (some 9) rfl rfl Try.func52 (by kernel_rfl) rfl #[.agg #[.slice A0_0 l0_0.length c0_0]] rfl zl ?_; (with_reducible refine (impl_PoolOk.calls _ _ l0_0 true _ ?side1 ?side2 A3.out).mono ?_); (case side1 => exact zc (Kd.C_below HR0_0.out HB.out)); (case side2 => exact HC0_0.out); rintro e w12 ⟨rfl, hb⟩; refine ⟨_, rfl, ?_⟩; have n0_ := Aside0.mk (blk_below (zh BK332.out) hb); have n1_ := Aside0.mk (blk_below (zh BK333.out) hb); have n2_ := Aside0.mk (blk_below (zh BK334.out) hb); have n3_ := Aside0.mk (below_step (zb HB.out) hb); clear BK332; clear BK333; clear BK334; clear HB; have BK332 := n0_; have BK333 := n1_; have BK334 := n2_; have HB := n3_; clear n0_ n1_ n2_ n3_; (try clear hb); (try clear hb2); (try clear hk); (try clear hi); have hcz13_0 : w12.cell? ⟨gb332, 0, none⟩ = some (.slice A0_0 l0_0.length c0_0) := (blk_cell BK332.out 0).trans rfl; have hfz13_0 := blk_frozen BK332.out 0) | ((with_reducible refine gate_callee (f := 80) rfl ?_); refine goesL_ (some 13) rfl rfl Try.func80 (by kernel_rfl) rfl #[.agg #[.slice A0_0 l0_0.length c0_0]] rfl zl ?_; (with_reducible refine (impl_copyPool.calls _ _ l0_0 t336 _ ?side1 ?side2 A5.out).mono ?_); (case side1 => exact zc (Kd.C_below HR0_0.out HB.out)); (case side2 => exact HC0_0.out); rintro e w14 ⟨v337, rfl, ho0, hb⟩; refine ⟨_, rfl, ?_⟩; have n0_ := Aside0.mk (Kd.R_lower (Kd.R_newB ho0 (zh BK333.out)) (below_size (zb HB.out))); have n1_ := Aside0.mk (blk_below (zh BK332.out) hb); have n2_ := Aside0.mk (blk_below (zh BK333.out) hb); have n3_ := Aside0.mk (blk_below (zh BK334.out) hb); have n4_ := Aside0.mk (below_step (zb HB.out) hb); clear BK332; clear BK333; clear BK334; clear HB; have HO338 := n0_; have BK332 := n1_; have BK333 := n2_; have BK334 := n3_; have HB := n4_; clear n0_ n1_ n2_ n3_ n4_; (try clear hb); (try clear hb2); (try clear hk); (try clear hi); (try clear ho0)) | ((with_reducible refine gate_dst (N := 6) rfl ?_); refine box_event ?hg (N := 6) ?hd (cs := #[.slice none 0 0]) (t := 30) ?hr ?_; (case hd => rfl); (case hg => rfl); (case hr => first | (go_simp; done) | (go_simp; rfl)); intro gb339 hg w15 hbox hb; have n0_ := Aside0.mk (Kd.R_below (zr HO338.out) hb); have n1_ := Aside0.mk (blk_below (zh BK332.out) hb); have n2_ := Aside0.mk (blk_below (zh BK333.out) hb); have n3_ := Aside0.mk (blk_below (zh BK334.out) hb); have n4_ := Aside0.mk (below_step (zb HB.out) hb); have n5_ := Aside0.mk (hbox); have n6_ := Aside0.mk ((by rw [hg]; exact (below_size (zb HB.out)) : w.heap.size ≤ gb339)); have n7_ := Aside0.mk ((by rw [hg]; exact (below_size (zb HB.out)) : w.heap.size ≤ gb339)); have n8_ := Aside0.mk ((by rw [hg]; exact Nat.ne_of_lt (blk_lt (zh BK332.out)) : gb332 ≠ gb339)); have n9_ := Aside0.mk ((by rw [hg]; exact Nat.ne_of_gt (blk_lt (zh BK332.out)) : gb339 ≠ gb332)); have n10_ := Aside0.mk ((by rw [hg]; exact Nat.ne_of_lt (blk_lt (zh BK333.out)) : gb333 ≠ gb339)); have n11_ := Aside0.mk ((by rw [hg]; exact Nat.ne_of_gt (blk_lt (zh BK333.out)) : gb339 ≠ gb333)); have n12_ := Aside0.mk ((by rw [hg]; exact Nat.ne_of_lt (blk_lt (zh BK334.out)) : gb334 ≠ gb339)); have n13_ := Aside0.mk ((by rw [hg]; exact Nat.ne_of_gt (blk_lt (zh BK334.out)) : gb339 ≠ gb334)); clear HO338; clear BK332; clear BK333; clear BK334; clear HB; have HO338 := n0_; have BK332 := n1_; have BK333 := n2_; have BK334 := n3_; have HB := n4_; have BK339 := n5_; have GW339 := n6_; have GE339 := n7_; have NB332_339 := n8_; have NB339_332 := n9_; have NB333_339 := n10_; have NB339_333 := n11_; have NB334_339 := n12_; have NB339_334 := n13_; clear n0_ n1_ n2_ n3_ n4_ n5_ n6_ n7_ n8_ n9_ n10_ n11_ n12_ n13_; clear hb hbox hg; obtain ⟨Ao16, co16, eo16⟩ := Kd.R_slice HO338.out; subst eo16; have hnb17 := NB339_332.out; have hnc17 := NB332_339.out; have hnb18 := NB339_333.out; have hnc18 := NB333_339.out; have hnb19 := NB339_334.out; have hnc19 := NB334_339.out; have hcz20_0 : w15.cell? ⟨gb339, 0, none⟩ = some (.slice none 0 0) := (blk_cell BK339.out 0).trans rfl; have hfz20_0 := blk_frozen BK339.out 0; have hnb21 := NB333_334.out; have hnc21 := NB334_333.out; have hcz22_0 : w15.cell? ⟨gb333, 0, none⟩ = some (.int .i64 a1_0) := (blk_cell BK333.out 0).trans rfl; have hcz22_1 : w15.cell? ⟨gb333, 1, none⟩ = some (.int .i64 a1_1) := (blk_cell BK333.out 1).trans rfl; have hcz22_2 : w15.cell? ⟨gb333, 2, none⟩ = some (.int .i64 a1_2) := (blk_cell BK333.out 2).trans rfl; have hfz22_0 := blk_frozen BK333.out 0; have hfz22_1 := blk_frozen BK333.out 1; have hfz22_2 := blk_frozen BK333.out 2; have hcz23_0 : w15.cell? ⟨gb334, 0, none⟩ = some (.slice none 0 0) := (blk_cell BK334.out 0).trans rfl; have hfz23_0 := blk_frozen BK334.out 0) | ((with_reducible refine gate_callee (f := 81) rfl ?_); refine goesL_ (some 20) rfl rfl Try.func81 (by kernel_rfl) rfl #[.pointer (some ⟨gb339, 0, none⟩), .int .i64 a1_0, .int .i64 a1_1, .int .i64 a1_2] rfl zl ?_; (with_reducible refine (impl_Pool_add.calls k gb339 (fun k_ => k_ ≠ gb334) (.slice Ao16 t336.length co16) t336 a1_0 a1_1 a1_2 (r1, r2) w _ ?hB ?hge ?hbx ?ho A7.out).mono ?_); (case hB => exact (zb HB.out)); (case hge => exact GE339.out); (case hbx => (with_reducible repeat (first | refine blk_drewN ?_ _ | refine blk_drew ?_ | refine blk_alloc ?_ _)); refine blk_put (cs := #[.slice none 0 0]) ?_ 0 _ rfl; (with_reducible repeat (first | refine blk_drewN ?_ _ | refine blk_drew ?_ | refine blk_alloc ?_ _)); exact BK339.out); (case ho => (with_reducible repeat (first | apply Kd.R_alloc | apply Kd.R_drewN | apply Kd.R_drew)); exact Kd.R_mono (Kd.R_far (p := ⟨gb339, 0, none⟩) (Kd.R_types (Kd.R_types HO338.out BK339.out (by decide)) BK334.out (by decide)) (fun _ hk => hk.1.2) (.slice Ao16 t336.length co16)) (fun _ hk => hk.2)); rintro e w916 ⟨rfl, hb, hkp, u_, hbx, ho⟩; refine ⟨_, rfl, ?_⟩; have n0_ := Aside0.mk ho; have n1_ := Aside0.mk hbx; have n2_ := Aside0.mk (blk_kept (g := gb334) (o := .cells #[.slice none 0 0] 30 (0, 0)) (zf BK334.out) hkp (fun h_ => h_.elim (fun a_ => a_ rfl) NB334_339.out)); have n3_ := Aside0.mk hb; clear HO338 BK339 BK334 HB; have HO338 := n0_; have BK339 := n1_; have BK334 := n2_; have HB := n3_; clear n0_ n1_ n2_ n3_; clear hb hkp hbx ho; obtain ⟨Ao917, co917, eo917⟩ := Kd.R_slice HO338.out; subst eo917; have hcz920_0 : w916.cell? ⟨gb339, 0, none⟩ = some (.slice Ao917 r1.length co917) := (blk_cell BK339.out 0).trans rfl; have hfz920_0 := blk_frozen BK339.out 0; have hcz923_0 : w916.cell? ⟨gb334, 0, none⟩ = some (.slice none 0 0) := (blk_cell BK334.out 0).trans rfl; have hfz923_0 := blk_frozen BK334.out 0))
  refine bodyPost_ret (results_ct rfl _ _ gb334 30 #[.slice Ao917 r1.length co917] (0, 0) _ rfl (by (with_reducible repeat (first | refine blk_drewN ?_ _ | refine blk_drew ?_ | refine blk_alloc ?_ _)); refine blk_put (cs := #[.slice none 0 0]) ?_ 0 _ rfl; (with_reducible repeat (first | refine blk_drewN ?_ _ | refine blk_drew ?_ | refine blk_alloc ?_ _)); exact BK334.out) Try.underlying30 rfl (by kernel_rfl)) rfl ?_
  exact ⟨_, ze, zr (Kd.R_mono (Kd.R_far (p := ⟨gb334, 0, none⟩) (Kd.R_types HO338.out BK334.out (by decide)) (fun _ hk => hk.2) (.slice Ao917 r1.length co917)) (fun _ hk => trivial)), zb HB.out⟩
 ·replace c4 := Bool.eq_false_iff.mpr c4
  subst c4
  have H1 : (some (([] : List (S44)), (-1))) = some (r1, r2) := by rw [if_neg (show ¬ (false = true) by decide)] at H; exact H
  clear H
  have H := H1
  clear H1
  simp only [Option.some.injEq, Prod.mk.injEq] at H
  obtain ⟨rfl, rfl⟩ := H
  go_enter Try.func46, Try.ntmps46
  go_wp2_with (first | ((with_reducible refine gate_dst (N := 2) rfl ?_); refine box_event ?hg (N := 2) ?hd (cs := #[.slice A0_0 l0_0.length c0_0]) (t := 30) ?hr ?_; (case hd => rfl); (case hg => rfl); (case hr => first | (go_simp; done) | (go_simp; rfl)); intro gb332 hg w24 hbox hb; have n0_ := Aside0.mk (below_step (zb HB.out) hb); have n1_ := Aside0.mk (hbox); have n2_ := Aside0.mk ((by rw [hg]; exact (below_size (zb HB.out)) : w.heap.size ≤ gb332)); have n3_ := Aside0.mk ((by rw [hg]; exact (below_size (zb HB.out)) : w.heap.size ≤ gb332)); clear HB; have HB := n0_; have BK332 := n1_; have GW332 := n2_; have GE332 := n3_; clear n0_ n1_ n2_ n3_; clear hb hbox hg) | ((with_reducible refine gate_dst (N := 3) rfl ?_); refine box_event ?hg (N := 3) ?hd (cs := #[.int .i64 a1_0, .int .i64 a1_1, .int .i64 a1_2]) (t := 44) ?hr ?_; (case hd => rfl); (case hg => rfl); (case hr => first | (go_simp; done) | (go_simp; rfl)); intro gb333 hg w25 hbox hb; have n0_ := Aside0.mk (blk_below (zh BK332.out) hb); have n1_ := Aside0.mk (below_step (zb HB.out) hb); have n2_ := Aside0.mk (hbox); have n3_ := Aside0.mk ((by rw [hg]; exact (below_size (zb HB.out)) : w.heap.size ≤ gb333)); have n4_ := Aside0.mk ((by rw [hg]; exact (below_size (zb HB.out)) : w.heap.size ≤ gb333)); have n5_ := Aside0.mk ((by rw [hg]; exact Nat.ne_of_lt (blk_lt (zh BK332.out)) : gb332 ≠ gb333)); have n6_ := Aside0.mk ((by rw [hg]; exact Nat.ne_of_gt (blk_lt (zh BK332.out)) : gb333 ≠ gb332)); clear BK332; clear HB; have BK332 := n0_; have HB := n1_; have BK333 := n2_; have GW333 := n3_; have GE333 := n4_; have NB332_333 := n5_; have NB333_332 := n6_; clear n0_ n1_ n2_ n3_ n4_ n5_ n6_; clear hb hbox hg) | ((with_reducible refine gate_dst (N := 4) rfl ?_); refine box_event ?hg (N := 4) ?hd (cs := #[.slice none 0 0]) (t := 30) ?hr ?_; (case hd => rfl); (case hg => rfl); (case hr => first | (go_simp; done) | (go_simp; rfl)); intro gb334 hg w26 hbox hb; have n0_ := Aside0.mk (blk_below (zh BK332.out) hb); have n1_ := Aside0.mk (blk_below (zh BK333.out) hb); have n2_ := Aside0.mk (below_step (zb HB.out) hb); have n3_ := Aside0.mk (hbox); have n4_ := Aside0.mk ((by rw [hg]; exact (below_size (zb HB.out)) : w.heap.size ≤ gb334)); have n5_ := Aside0.mk ((by rw [hg]; exact (below_size (zb HB.out)) : w.heap.size ≤ gb334)); have n6_ := Aside0.mk ((by rw [hg]; exact Nat.ne_of_lt (blk_lt (zh BK332.out)) : gb332 ≠ gb334)); have n7_ := Aside0.mk ((by rw [hg]; exact Nat.ne_of_gt (blk_lt (zh BK332.out)) : gb334 ≠ gb332)); have n8_ := Aside0.mk ((by rw [hg]; exact Nat.ne_of_lt (blk_lt (zh BK333.out)) : gb333 ≠ gb334)); have n9_ := Aside0.mk ((by rw [hg]; exact Nat.ne_of_gt (blk_lt (zh BK333.out)) : gb334 ≠ gb333)); clear BK332; clear BK333; clear HB; have BK332 := n0_; have BK333 := n1_; have HB := n2_; have BK334 := n3_; have GW334 := n4_; have GE334 := n5_; have NB332_334 := n6_; have NB334_332 := n7_; have NB333_334 := n8_; have NB334_333 := n9_; clear n0_ n1_ n2_ n3_ n4_ n5_ n6_ n7_ n8_ n9_; clear hb hbox hg; have hnb27 := NB332_333.out; have hnc27 := NB333_332.out; have hnb28 := NB332_334.out; have hnc28 := NB334_332.out; have hcz29_0 : w26.cell? ⟨gb332, 0, none⟩ = some (.slice A0_0 l0_0.length c0_0) := (blk_cell BK332.out 0).trans rfl; have hfz29_0 := blk_frozen BK332.out 0) | ((with_reducible refine gate_callee (f := 52) rfl ?_); refine goesL_ (some 9) rfl rfl Try.func52 (by kernel_rfl) rfl #[.agg #[.slice A0_0 l0_0.length c0_0]] rfl zl ?_; (with_reducible refine (impl_PoolOk.calls _ _ l0_0 false _ ?side1 ?side2 A3.out).mono ?_); (case side1 => exact zc (Kd.C_below HR0_0.out HB.out)); (case side2 => exact HC0_0.out); rintro e w30 ⟨rfl, hb⟩; refine ⟨_, rfl, ?_⟩; have n0_ := Aside0.mk (blk_below (zh BK332.out) hb); have n1_ := Aside0.mk (blk_below (zh BK333.out) hb); have n2_ := Aside0.mk (blk_below (zh BK334.out) hb); have n3_ := Aside0.mk (below_step (zb HB.out) hb); clear BK332; clear BK333; clear BK334; clear HB; have BK332 := n0_; have BK333 := n1_; have BK334 := n2_; have HB := n3_; clear n0_ n1_ n2_ n3_; (try clear hb); (try clear hb2); (try clear hk); (try clear hi); have hnb31 := NB334_333.out; have hnc31 := NB333_334.out; have hcz32_0 : w30.cell? ⟨gb334, 0, none⟩ = some (.slice none 0 0) := (blk_cell BK334.out 0).trans rfl; have hfz32_0 := blk_frozen BK334.out 0))
  refine bodyPost_ret (results_ct rfl _ _ gb334 30 #[.slice none 0 0] (0, 0) _ rfl (by (with_reducible repeat (first | refine blk_drewN ?_ _ | refine blk_drew ?_ | refine blk_alloc ?_ _)); refine blk_put (cs := #[.slice none 0 0]) ?_ 0 _ rfl; (with_reducible repeat (first | refine blk_drewN ?_ _ | refine blk_drew ?_ | refine blk_alloc ?_ _)); exact BK334.out) Try.underlying30 rfl (by kernel_rfl)) rfl ?_
  exact ⟨_, ze, by first | exact Kd.R_nil _ _ _ _ _ | exact Kd.N_nil _ _ _ _ _ | exact Kd.V_nil _ _ _ _ _ | exact Kd.Q_nil _ _ _ _ _ | exact Kd.S_nil _ _ _ _ _, zb HB.out⟩



/-! ### impl_NameOf: function 20 -/
def impl_NameOf.f (k : Nat) (l0_0 : List (S44)) (a1 : Int) : Option ((List (S44)) × Int) := (impl_PoolAdd.f k l0_0 1 a1 0).bind fun bt320 => (some (bt320.1, bt320.2))
theorem impl_NameOf.mono : ∀ a0 a1 k, LeO (impl_NameOf.f k a0 a1) (impl_NameOf.f (k + 1) a0 a1) := by
 intro a0 a1 k
 unfold impl_NameOf.f
 repeat' first
   | (with_reducible exact impl_PoolAdd.mono _ _ _ _ _)
   | (with_reducible exact LeO.refl _)
   | (with_reducible exact LeO.none _)
   | (with_reducible refine LeO.ite ?_ ?_)
   | (with_reducible refine LeO.bind ?_ (fun _ => ?_))
   | exact impl_PoolAdd.mono _ _ _ _ _
   | exact LeO.none _
   | refine LeO.ite ?_ ?_
   | refine LeO.bind ?_ (fun _ => ?_)
set_option maxHeartbeats 8000000 in
set_option maxRecDepth 100000 in
theorem impl_NameOf.calls (k : Nat) (A0_0 : Option Addr) (c0_0 : Nat) (l0_0 : List (S44)) (a1 : Int) (r1 : List (S44)) (r2 : Int) (w : World) (hr0_0 : Kd.C k44 w A0_0 l0_0.length l0_0) (hc0_0 : l0_0.length ≤ c0_0) (h : impl_NameOf.f k l0_0 a1 = some (r1, r2)) :
  Calls Try.prog 20 #[.agg #[.slice A0_0 l0_0.length c0_0], .int .i64 a1] w fun e w' => ∃ v0_ : Value, e = .returned (.tuple #[.agg #[v0_], .int .i64 r2]) ∧ Kd.R k44 44 w' w.heap.size (fun _ => True) v0_ r1 ∧ Below w.heap.size w w' := by
 have hu30 := Try.underlying30
 have hu44 := Try.underlying44
 have HR0_0 := Aside0.mk hr0_0
 have HC0_0 := Aside0.mk hc0_0
 clear hr0_0 hc0_0
 have HB := Aside0.mk (Below.refl w.heap.size w)
 have H : ((impl_PoolAdd.f k l0_0 1 a1 0).bind fun bt320 => (some (bt320.1, bt320.2))) = some (r1, r2) := h
 clear h
 replace H := Option.bind_eq_some_iff.mp H
 obtain ⟨⟨t320, t323⟩, A30, H⟩ := H
 replace H : (some (t320, t323)) = some (r1, r2) := H
 have A3 := Aside0.mk A30
 clear A30
 simp only [Option.some.injEq, Prod.mk.injEq] at H
 obtain ⟨rfl, rfl⟩ := H
 go_enter Try.func20, Try.ntmps20
 go_wp2_with (first | ((with_reducible refine gate_dst (N := 2) rfl ?_); refine box_event ?hg (N := 2) ?hd (cs := #[.slice A0_0 l0_0.length c0_0]) (t := 30) ?hr ?_; (case hd => rfl); (case hg => rfl); (case hr => first | (go_simp; done) | (go_simp; rfl)); intro gb318 hg w4 hbox hb; have n0_ := Aside0.mk (below_step (zb HB.out) hb); have n1_ := Aside0.mk (hbox); have n2_ := Aside0.mk ((by rw [hg]; exact (below_size (zb HB.out)) : w.heap.size ≤ gb318)); have n3_ := Aside0.mk ((by rw [hg]; exact (below_size (zb HB.out)) : w.heap.size ≤ gb318)); clear HB; have HB := n0_; have BK318 := n1_; have GW318 := n2_; have GE318 := n3_; clear n0_ n1_ n2_ n3_; clear hb hbox hg) | ((with_reducible refine gate_dst (N := 4) rfl ?_); refine box_event ?hg (N := 4) ?hd (cs := #[.slice none 0 0]) (t := 30) ?hr ?_; (case hd => rfl); (case hg => rfl); (case hr => first | (go_simp; done) | (go_simp; rfl)); intro gb319 hg w5 hbox hb; have n0_ := Aside0.mk (blk_below (zh BK318.out) hb); have n1_ := Aside0.mk (below_step (zb HB.out) hb); have n2_ := Aside0.mk (hbox); have n3_ := Aside0.mk ((by rw [hg]; exact (below_size (zb HB.out)) : w.heap.size ≤ gb319)); have n4_ := Aside0.mk ((by rw [hg]; exact (below_size (zb HB.out)) : w.heap.size ≤ gb319)); have n5_ := Aside0.mk ((by rw [hg]; exact Nat.ne_of_lt (blk_lt (zh BK318.out)) : gb318 ≠ gb319)); have n6_ := Aside0.mk ((by rw [hg]; exact Nat.ne_of_gt (blk_lt (zh BK318.out)) : gb319 ≠ gb318)); clear BK318; clear HB; have BK318 := n0_; have HB := n1_; have BK319 := n2_; have GW319 := n3_; have GE319 := n4_; have NB318_319 := n5_; have NB319_318 := n6_; clear n0_ n1_ n2_ n3_ n4_ n5_ n6_; clear hb hbox hg; have hnb6 := NB318_319.out; have hnc6 := NB319_318.out; have hcz7_0 : w5.cell? ⟨gb318, 0, none⟩ = some (.slice A0_0 l0_0.length c0_0) := (blk_cell BK318.out 0).trans rfl; have hfz7_0 := blk_frozen BK318.out 0) | ((with_reducible refine gate_callee (f := 46) rfl ?_); refine goesL_ (some 9) rfl rfl Try.func46 (by kernel_rfl) rfl #[.agg #[.slice A0_0 l0_0.length c0_0], .agg #[.int .i64 1, .int .i64 a1, .int .i64 0]] rfl zl ?_; (with_reducible refine (impl_PoolAdd.calls k _ _ l0_0 1 a1 0 t320 t323 _ ?side1 ?side2 A3.out).mono ?_); (case side1 => exact zc (Kd.C_below HR0_0.out HB.out)); (case side2 => exact HC0_0.out); rintro e w8 ⟨v321, rfl, ho0, hb⟩; refine ⟨_, rfl, ?_⟩; have n0_ := Aside0.mk (Kd.R_lower ho0 (below_size (zb HB.out))); have n1_ := Aside0.mk (blk_below (zh BK318.out) hb); have n2_ := Aside0.mk (blk_below (zh BK319.out) hb); have n3_ := Aside0.mk (below_step (zb HB.out) hb); clear BK318; clear BK319; clear HB; have HO322 := n0_; have BK318 := n1_; have BK319 := n2_; have HB := n3_; clear n0_ n1_ n2_ n3_; (try clear hb); (try clear hb2); (try clear hk); (try clear hi); (try clear ho0); obtain ⟨Ao9, co9, eo9⟩ := Kd.R_slice HO322.out; subst eo9; have hcz10_0 : w8.cell? ⟨gb319, 0, none⟩ = some (.slice none 0 0) := (blk_cell BK319.out 0).trans rfl; have hfz10_0 := blk_frozen BK319.out 0))
 refine bodyPost_ret (results_ct rfl _ _ gb319 30 #[.slice Ao9 t320.length co9] (0, 0) _ rfl (by (with_reducible repeat (first | refine blk_drewN ?_ _ | refine blk_drew ?_ | refine blk_alloc ?_ _)); refine blk_put (cs := #[.slice none 0 0]) ?_ 0 _ rfl; (with_reducible repeat (first | refine blk_drewN ?_ _ | refine blk_drew ?_ | refine blk_alloc ?_ _)); exact BK319.out) Try.underlying30 rfl (by kernel_rfl)) rfl ?_
 exact ⟨_, ze, zr (Kd.R_mono (Kd.R_far (p := ⟨gb319, 0, none⟩) (Kd.R_types HO322.out BK319.out (by decide)) (fun _ hk => hk.2) (.slice Ao9 t320.length co9)) (fun _ hk => trivial)), zb HB.out⟩

end Go.Proofs.Ytdgahpigcaejbaa.B
end
