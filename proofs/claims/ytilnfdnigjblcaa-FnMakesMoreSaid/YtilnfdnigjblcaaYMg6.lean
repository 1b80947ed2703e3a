import Derived.Test.YtilnfdnigjblcaaYM0
import Derived.Test.YtilnfdnigjblcaaYMg5
import Derived.Test.YtilnfdnigjblcaaYMg2
import Derived.Test.YtilnfdnigjblcaaYMg4
section
-- Written by this session's program (wip/tools/gprint.py over the kit's print) out of the translation; Lean checks it.
namespace Go.Proofs.Ytilnfdnigjblcaa.M
open Go.RowKit Go.Proofs.YtilnfdnigjblcaaW.PrintWords Go.Proofs.YtilnfdnigjblcaaW.PrintLast Go.Proofs.YtilnfdnigjblcaaW.PrintMore
attribute [local go_sem] max2_int min2_int max_two min_two max_three min_three max_four min_four   -- for this text's walks alone
set_option linter.unusedVariables false
set_option linter.unusedSimpArgs false
set_option maxRecDepth 100000

/-! ### spec_l6Know: function 46 -/
def spec_l6Know.l0 : Nat → List Int → Int → List (S67) → Option (Bool)
 | 0, _, _, _ => none
 | k + 1, x1, x5, x444000 => if x5 < (x1.length : Int) then (if 0 ≤ x5 then ((spec_l1Has.f x444000 (rd x1 x5)).bind fun t445 => (if t445 = true then (if x5 > 0 then (if 0 ≤ (wrap64 (x5 - 1)) then (if (wrap64 (x5 - 1)) < (x1.length : Int) then (if (rd x1 (wrap64 (x5 - 1))) ≥ (rd x1 x5) then (some false) else (spec_l6Know.l0 k x1 (wrap64 (x5 + 1)) x444000)) else (none)) else (none)) else (spec_l6Know.l0 k x1 (wrap64 (x5 + 1)) x444000)) else (some false))) else (none)) else (some true)
def spec_l6Know.f (k : Nat) (l0_0 : List (S67)) (l1 : List Int) : Option (Bool) := if (l1.length : Int) > 200 then (some false) else (spec_l6Know.l0 k l1 0 l0_0)
theorem spec_l6Know.mono_l : ∀ k, (∀ y0 y1 y2, LeO (spec_l6Know.l0 k y0 y1 y2) (spec_l6Know.l0 (k + 1) y0 y1 y2))
 | 0 => fun _ _ _ r h => by simp [spec_l6Know.l0] at h
 | k + 1 => by
  have ih0 := spec_l6Know.mono_l k
  ·intro y0 y1 y2
   unfold spec_l6Know.l0
   repeat' first
   | (with_reducible exact ih0 _ _ _)
   | (with_reducible exact LeO.refl _)
   | (with_reducible exact LeO.none _)
   | (with_reducible refine LeO.ite ?_ ?_)
   | (with_reducible refine LeO.bind ?_ (fun _ => ?_))
   | exact ih0 _ _ _
   | exact LeO.none _
   | refine LeO.ite ?_ ?_
   | refine LeO.bind ?_ (fun _ => ?_)
theorem spec_l6Know.mono : ∀ a0 a1 k, LeO (spec_l6Know.f k a0 a1) (spec_l6Know.f (k + 1) a0 a1) := by
 intro a0 a1 k
 have ih0 := spec_l6Know.mono_l k
 unfold spec_l6Know.f
 repeat' first
   | (with_reducible exact ih0 _ _ _)
   | (with_reducible exact LeO.refl _)
   | (with_reducible exact LeO.none _)
   | (with_reducible refine LeO.ite ?_ ?_)
   | (with_reducible refine LeO.bind ?_ (fun _ => ?_))
   | exact ih0 _ _ _
   | exact LeO.none _
   | refine LeO.ite ?_ ?_
   | refine LeO.bind ?_ (fun _ => ?_)
def spec_l6Know.T6 : Bool × List (List Nat × List Nat) := (true, [([], []), ([], []), ([], []), ([1, 2], [1, 2]), ([3], [3]), ([0, 4], [0, 4]), ([5], [5]), ([6, 5], [6]), ([7], [7]), ([8, 7], [7, 8]), ([9, 7, 7], [7, 9]), ([10], [10]), ([10], [10]), ([12, 10], [10, 12]), ([11, 13, 10], [10, 11, 13]), ([14, 10], [10, 14]), ([10], [10]), ([10], [10]), ([16, 17, 10], [10, 16, 17]), ([18, 10], [10, 18]), ([15, 19, 10], [10, 15, 19]), ([10, 20, 7], [7, 10, 20]), ([7, 21], [7, 21])])
def spec_l6Know.B6 : List Nat := [0, 0, 0, 6, 14, 31, 63, 127, 255, 511, 1023, 2047, 2047, 6143, 16383, 32767, 2047, 2047, 198655, 460799, 1048575, 2097151, 4194303]
theorem spec_l6Know.tab6 : rtab .any (opsOf Try.f46 6) = spec_l6Know.T6 := by kernel_rfl
theorem spec_l6Know.bits6 : waitsOk spec_l6Know.T6.2 spec_l6Know.B6 = true := by kernel_rfl
set_option maxHeartbeats 8000000 in
set_option maxRecDepth 100000 in
theorem spec_l6Know.calls (k : Nat) (A0_0 : Option Addr) (c0_0 : Nat) (l0_0 : List (S67)) (A1 : Option Addr) (c1 : Nat) (l1 : List Int) (r : Bool) (w : World) (hr0_0 : Kd.C k67 w A0_0 l0_0.length l0_0) (hc0_0 : l0_0.length ≤ c0_0) (hr1 : Kd.C (Kd.int .i64) w A1 l1.length l1) (hc1 : l1.length ≤ c1) (h : spec_l6Know.f k l0_0 l1 = some r) :
  Calls Try.prog 46 #[.agg #[.slice A0_0 l0_0.length c0_0], .slice A1 l1.length c1] w fun e w' => e = .returned (.bool r) ∧ Below w.heap.size w w' := by
 have hu31 := Try.underlying31
 have HR0_0 := Aside0.mk hr0_0
 have HC0_0 := Aside0.mk hc0_0
 clear hr0_0 hc0_0
 have HR1 := Aside0.mk hr1
 have HC1 := Aside0.mk hc1
 clear hr1 hc1
 have HB := Aside0.mk (Below.refl w.heap.size w)
 have H : (if (l1.length : Int) > 200 then (some false) else (spec_l6Know.l0 k l1 0 l0_0)) = some r := h
 clear h
 by_cases c3 : (l1.length : Int) > 200
 ·rw [if_pos c3] at H
  have c3b0 : decide (200 < (l1.length : Int)) = true := decide_eq_true c3
  have c3b1 : decide (200 < l1.length) = true := decide_eq_true (by omega)
  clear c3
  obtain rfl := Option.some.inj H
  go_enter Try.func46, Try.ntmps46
  go_wp2_with (first | ((with_reducible refine gate_dst (N := 2) rfl ?_); refine box_event ?hg (N := 2) ?hd (cs := #[.slice A0_0 l0_0.length c0_0]) (t := 31) ?hr ?_; (case hd => rfl); (case hg => rfl); (case hr => first | (go_simp; done) | (go_simp; rfl)); intro gb443 hg w4 hbox hb; have n0_ := Aside0.mk (below_step (zb HB.out) hb); have n1_ := Aside0.mk (hbox); have n2_ := Aside0.mk ((by rw [hg]; exact (below_size (zb HB.out)) : w.heap.size ≤ gb443)); have n3_ := Aside0.mk ((by rw [hg]; exact (below_size (zb HB.out)) : w.heap.size ≤ gb443)); clear HB; have HB := n0_; have BK443 := n1_; have GW443 := n2_; have GE443 := n3_; clear n0_ n1_ n2_ n3_; clear hb hbox hg))
  go_ret
  exact ⟨ze, zb HB.out⟩
 ·rw [if_neg c3] at H
  have c3b0 : decide (200 < (l1.length : Int)) = false := decide_eq_false c3
  have c3b1 : decide (200 < l1.length) = false := decide_eq_false (by omega)
  clear c3
  have H' := Aside0.mk H
  clear H
  go_enter Try.func46, Try.ntmps46
  go_wp2_with (first | ((with_reducible refine gate_dst (N := 2) rfl ?_); refine box_event ?hg (N := 2) ?hd (cs := #[.slice A0_0 l0_0.length c0_0]) (t := 31) ?hr ?_; (case hd => rfl); (case hg => rfl); (case hr => first | (go_simp; done) | (go_simp; rfl)); intro gb443 hg w5 hbox hb; have n0_ := Aside0.mk (below_step (zb HB.out) hb); have n1_ := Aside0.mk (hbox); have n2_ := Aside0.mk ((by rw [hg]; exact (below_size (zb HB.out)) : w.heap.size ≤ gb443)); have n3_ := Aside0.mk ((by rw [hg]; exact (below_size (zb HB.out)) : w.heap.size ≤ gb443)); clear HB; have HB := n0_; have BK443 := n1_; have GW443 := n2_; have GE443 := n3_; clear n0_ n1_ n2_ n3_; clear hb hbox hg))
  go_loopg [5] k (fun kq v5 w' => ∃ (x5_1 : Int), v5 = .int .i64 x5_1 ∧ Aside0 (spec_l6Know.l0 kq l1 x5_1 l0_0 = some r) ∧ Aside0 (kq ≤ k) ∧ Aside0 (w'.heap[gb443]? = some (.cells #[(.slice A0_0 l0_0.length c0_0)] 31 (0, 0))) ∧ Aside0 (Below w.heap.size w w'))
  case atStart => exact ⟨(0), (by first | rfl | (simp; done) | (simp [*]; done)), H', ⟨Nat.le_refl _⟩, ⟨zh BK443.out⟩, ⟨zb HB.out⟩⟩
  case round =>
   clear H'
   try clear c1
   try clear p2
   try clear c3
   try clear c3b0
   try clear c3b1
   try clear c4
   obtain ⟨x5_1, rfl, HA, HK1, BK443, HB⟩ := hrel
   cases gk with
   | zero => exact absurd HA.out (by simp [spec_l6Know.l0])
   | succ k1 =>
    have H := HA.out
    clear HA
    simp only [spec_l6Know.l0] at H
    by_cases c6 : x5_1 < (l1.length : Int)
    ·rw [if_pos c6] at H
     have c6b0 : decide (x5_1 < (l1.length : Int)) = true := decide_eq_true c6
     clear c6
     by_cases c7 : 0 ≤ x5_1
     ·rw [if_pos c7] at H
      have c7b0 : decide (0 ≤ x5_1) = true := decide_eq_true c7
      clear c7
      replace H := Option.bind_eq_some_iff.mp H
      obtain ⟨t445, A80, H⟩ := H
      replace H : (if t445 = true then (if x5_1 > 0 then (if 0 ≤ (wrap64 (x5_1 - 1)) then (if (wrap64 (x5_1 - 1)) < (l1.length : Int) then (if (rd l1 (wrap64 (x5_1 - 1))) ≥ (rd l1 x5_1) then (some false) else (spec_l6Know.l0 k1 l1 (wrap64 (x5_1 + 1)) l0_0)) else (none)) else (none)) else (spec_l6Know.l0 k1 l1 (wrap64 (x5_1 + 1)) l0_0)) else (some false)) = some r := H
      have A8 := Aside0.mk A80
      clear A80
      by_cases c9 : t445 = true
      ·subst c9
       have H1 : (if x5_1 > 0 then (if 0 ≤ (wrap64 (x5_1 - 1)) then (if (wrap64 (x5_1 - 1)) < (l1.length : Int) then (if (rd l1 (wrap64 (x5_1 - 1))) ≥ (rd l1 x5_1) then (some false) else (spec_l6Know.l0 k1 l1 (wrap64 (x5_1 + 1)) l0_0)) else (none)) else (none)) else (spec_l6Know.l0 k1 l1 (wrap64 (x5_1 + 1)) l0_0)) = some r := by rw [if_pos rfl] at H; exact H
       clear H
       have H := H1
       clear H1
       by_cases c10 : x5_1 > 0
       ·rw [if_pos c10] at H
        have c10b0 : decide (0 < x5_1) = true := decide_eq_true c10
        clear c10
        obtain ⟨ji11, hji11⟩ : ∃ j_ : Int, (wrap64 (x5_1 - 1)) = j_ := ⟨_, rfl⟩
        replace H : (if 0 ≤ (ji11) then (if (ji11) < (l1.length : Int) then (if (rd l1 (ji11)) ≥ (rd l1 x5_1) then (some false) else (spec_l6Know.l0 k1 l1 (wrap64 (x5_1 + 1)) l0_0)) else (none)) else (none)) = some r := by first | (rw [hji11] at H; exact H) | (simp only [hji11] at H ⊢; exact H)
        (try rw [hji11] at A8)
        have hji11w : (IntKind.i64.wrap (x5_1 - 1)) = ji11 := (i64_w _).trans hji11
        by_cases c12 : 0 ≤ (ji11)
        ·rw [if_pos c12] at H
         have c12b0 : decide (0 ≤ (ji11)) = true := decide_eq_true c12
         clear c12
         by_cases c13 : (ji11) < (l1.length : Int)
         ·rw [if_pos c13] at H
          have c13b0 : decide ((ji11) < (l1.length : Int)) = true := decide_eq_true c13
          clear c13
          by_cases c14 : (rd l1 (ji11)) ≥ (rd l1 x5_1)
          ·rw [if_pos c14] at H
           have c14b0 : decide ((rd l1 x5_1) ≤ (rd l1 (ji11))) = true := decide_eq_true c14
           clear c14
           obtain rfl := Option.some.inj H
           try go_wp2
           have n0_ := Aside0.mk (blk_drew BK443.out)
           have n1_ := Aside0.mk (below_drew1 HB.out)
           clear BK443
           clear HB
           have BK443 := n0_
           have HB := n1_
           clear n0_ n1_
           have p444 : 0 ≤ (x5_1 : Int) := of_decide_eq_true (by first | (with_reducible assumption) | assumption)
           have q444 : x5_1 < (l1.length : Int) := of_decide_eq_true (by first | (with_reducible assumption) | assumption)
           obtain ⟨ad444, e444, hx444_0⟩ := Kd.at_int HR1.out x5_1 p444 q444
           have hw444_0 := hx444_0
           cases e444
           replace hx444_0 := (HB.out.cell (World.block_lt_of_cell? w _ hx444_0)).trans hx444_0
           replace p444 := eq_true p444
           replace q444 := eq_true q444
           have p446 : 0 ≤ ((ji11) : Int) := of_decide_eq_true (by first | (with_reducible assumption) | assumption)
           have q446 : (ji11) < (l1.length : Int) := of_decide_eq_true (by first | (with_reducible assumption) | assumption)
           obtain ⟨ad446, e446, hx446_0⟩ := Kd.at_int HR1.out (ji11) p446 q446
           have hw446_0 := hx446_0
           obtain rfl : ad444 = ad446 := (by injection e446)
           replace hx446_0 := (HB.out.cell (World.block_lt_of_cell? w _ hx446_0)).trans hx446_0
           replace p446 := eq_true p446
           replace q446 := eq_true q446
           have p447 : 0 ≤ (x5_1 : Int) := of_decide_eq_true (by first | (with_reducible assumption) | assumption)
           have q447 : x5_1 < (l1.length : Int) := of_decide_eq_true (by first | (with_reducible assumption) | assumption)
           obtain ⟨ad447, e447, hx447_0⟩ := Kd.at_int HR1.out x5_1 p447 q447
           have hw447_0 := hx447_0
           obtain rfl : ad444 = ad447 := (by injection e447)
           replace hx447_0 := (HB.out.cell (World.block_lt_of_cell? w _ hx447_0)).trans hx447_0
           replace p447 := eq_true p447
           replace q447 := eq_true q447
           refine start_ (n := 23) (S := fun w' => w'.cell? ⟨gb443, 0, none⟩ = some (.slice A0_0 l0_0.length c0_0) ∧ w'.cell? (ad444.add (x5_1).toNat) = some (.int .i64 (rd l1 x5_1)) ∧ w'.cell? (ad444.add ((ji11)).toNat) = some (.int .i64 (rd l1 (ji11))) ∧ w'.cell? (ad444.add (x5_1).toNat) = some (.int .i64 (rd l1 x5_1))) (ds := []) #[false, false, false, false, false, false, false, false, false, false, false, false, false, false, false, false, false, false, false, false, false, false, false] (by kernel_rfl) rfl rfl ⟨(blk_cell BK443.out 0).trans rfl, ((HB.out.cell (World.block_lt_of_cell? w _ hw444_0)).trans hw444_0), ((HB.out.cell (World.block_lt_of_cell? w _ hw446_0)).trans hw446_0), ((HB.out.cell (World.block_lt_of_cell? w _ hw447_0)).trans hw447_0)⟩ (fun hHeld => ?_); refine with_tabW spec_l6Know.tab6 spec_l6Know.bits6 (fun HT_ HW_ => ?_)
           generalize wr.drew = w15 at BK443 HB hx444_0 hx446_0 hx447_0 hHeld ⊢
           refine pure_ (i := 1) (N := some 16) (v := ?_) (a' := ?_) #[false, true, false, false, false, false, false, false, false, false, false, false, false, false, false, false, false, false, false, false, false, false, false] rfl rfl (any_of HT_.out (by kernel_rfl)) (fun _ _ _ h => h) (Or.inl ⟨by rfl, ?_⟩) ?_ ?_
           rotate_left
           ·intro w'
            go_simp
            with_reducible rfl
           rotate_left
           ·simp only [Act.put, List.setIfInBounds_toArray, List.set_cons_zero, List.set_cons_succ, i64_w, i32_w]
            rfl
           refine pure_ (i := 2) (N := some 17) (v := ?_) (a' := ?_) #[false, true, true, false, false, false, false, false, false, false, false, false, false, false, false, false, false, false, false, false, false, false, false] rfl rfl (any_of HT_.out (by kernel_rfl)) (fun _ _ _ h => h) (Or.inl ⟨by rfl, ?_⟩) ?_ ?_
           rotate_left
           ·intro w'
            go_simp
            with_reducible rfl
           rotate_left
           ·simp only [Act.put, List.setIfInBounds_toArray, List.set_cons_zero, List.set_cons_succ, i64_w, i32_w]
            rfl
           refine pure_ (i := 3) (N := some 18) (v := ?_) (a' := ?_) #[false, true, true, true, false, false, false, false, false, false, false, false, false, false, false, false, false, false, false, false, false, false, false] rfl rfl (any_of HT_.out (by kernel_rfl)) (fun _ _ _ h => h) (Or.inl ⟨by rfl, ?_⟩) ?_ ?_
           rotate_left
           ·intro w'
            go_simp
            with_reducible rfl
           rotate_left
           ·simp only [Act.put, List.setIfInBounds_toArray, List.set_cons_zero, List.set_cons_succ, i64_w, i32_w]
            rfl
           refine take_ (i := 0) (N := some 15) (v := ?_) (a' := ?_) #[true, true, true, true, false, false, false, false, false, false, false, false, false, false, false, false, false, false, false, false, false, false, false] rfl rfl (take_ofW HT_.out HW_.out (by kernel_rfl)) (fun _ _ _ h => h) (Or.inl ⟨by rfl, ?_⟩) hHeld ?_ ?_
           rotate_left
           ·rintro w' ⟨s0, s1, s2, s3⟩
            go_simp
            with_reducible rfl
           rotate_left
           ·simp only [Act.put, List.setIfInBounds_toArray, List.set_cons_zero, List.set_cons_succ, i64_w, i32_w]
            rfl
           refine take_ (i := 4) (N := some 19) (v := ?_) (a' := ?_) #[true, true, true, true, true, false, false, false, false, false, false, false, false, false, false, false, false, false, false, false, false, false, false] rfl rfl (take_ofW HT_.out HW_.out (by kernel_rfl)) (fun _ _ _ h => h) (Or.inl ⟨by rfl, ?_⟩) hHeld ?_ ?_
           rotate_left
           ·rintro w' ⟨s0, s1, s2, s3⟩
            go_simp
            with_reducible rfl
           rotate_left
           ·simp only [Act.put, List.setIfInBounds_toArray, List.set_cons_zero, List.set_cons_succ, i64_w, i32_w]
            rfl
           refine one_ (i := 5) (N := some 20) #[true, true, true, true, true, true, false, false, false, false, false, false, false, false, false, false, false, false, false, false, false, false, false] rfl rfl (one_of HT_.out (by kernel_rfl)) (by decide) (fun K hK => ?_)
           refine goes_ Try.func37 (by kernel_rfl) rfl #[.agg #[.slice A0_0 l0_0.length c0_0], .int .i64 (rd l1 x5_1)] (by rfl) rfl rfl zl ?_
           with_reducible refine (spec_l1Has.calls _ _ l0_0 (rd l1 x5_1) true _ ?side1 ?side2 A8.out).mono ?_
           (case side1 => exact zc (Kd.C_below HR0_0.out HB.out))
           (case side2 => exact HC0_0.out)
           rintro e w16 ⟨rfl, hb⟩
           refine ⟨_, rfl, ?_⟩
           have n0_ := Aside0.mk (blk_below (zh BK443.out) hb)
           have n1_ := Aside0.mk (below_step (zb HB.out) hb)
           clear BK443
           clear HB
           have BK443 := n0_
           have HB := n1_
           clear n0_ n1_
           (try clear hb)
           (try clear hb2)
           (try clear hk)
           (try clear hi)
           refine hK.out _ _ ⟨(blk_cell BK443.out 0).trans rfl, ((HB.out.cell (World.block_lt_of_cell? w _ hw444_0)).trans hw444_0), ((HB.out.cell (World.block_lt_of_cell? w _ hw446_0)).trans hw446_0), ((HB.out.cell (World.block_lt_of_cell? w _ hw447_0)).trans hw447_0)⟩ (fun hHeld => ?_)
           clear hK K
           refine norm_ (a' := ?_) ?_ ?_
           rotate_left
           ·show Act.put _ (some 20) _ = _
            simp only [Act.put, List.setIfInBounds_toArray, List.set_cons_zero, List.set_cons_succ, i64_w, i32_w]
            rfl
           refine pure_ (i := 6) (N := some 21) (v := ?_) (a' := ?_) #[true, true, true, true, true, true, true, false, false, false, false, false, false, false, false, false, false, false, false, false, false, false, false] rfl rfl (any_of HT_.out (by kernel_rfl)) (fun _ _ _ h => h) (Or.inl ⟨by rfl, ?_⟩) ?_ ?_
           rotate_left
           ·intro w'
            go_simp
            with_reducible rfl
           rotate_left
           ·simp only [Act.put, List.setIfInBounds_toArray, List.set_cons_zero, List.set_cons_succ, i64_w, i32_w]
            rfl
           refine pure_ (i := 7) (N := some 22) (v := ?_) (a' := ?_) #[true, true, true, true, true, true, true, true, false, false, false, false, false, false, false, false, false, false, false, false, false, false, false] rfl rfl (any_of HT_.out (by kernel_rfl)) (fun _ _ _ h => h) (Or.inl ⟨by rfl, ?_⟩) ?_ ?_
           rotate_left
           ·intro w'
            go_simp
            with_reducible rfl
           rotate_left
           ·simp only [Act.put, List.setIfInBounds_toArray, List.set_cons_zero, List.set_cons_succ, i64_w, i32_w]
            rfl
           refine pure_ (i := 8) (N := some 23) (v := ?_) (a' := ?_) #[true, true, true, true, true, true, true, true, true, false, false, false, false, false, false, false, false, false, false, false, false, false, false] rfl rfl (any_of HT_.out (by kernel_rfl)) (fun _ _ _ h => h) (Or.inl ⟨by rfl, ?_⟩) ?_ ?_
           rotate_left
           ·intro w'
            go_simp
            with_reducible rfl
           rotate_left
           ·simp only [Act.put, List.setIfInBounds_toArray, List.set_cons_zero, List.set_cons_succ, i64_w, i32_w]
            rfl
           refine pure_ (i := 9) (N := some 24) (v := ?_) (a' := ?_) #[true, true, true, true, true, true, true, true, true, true, false, false, false, false, false, false, false, false, false, false, false, false, false] rfl rfl (any_of HT_.out (by kernel_rfl)) (fun _ _ _ h => h) (Or.inl ⟨by rfl, ?_⟩) ?_ ?_
           rotate_left
           ·intro w'
            go_simp
            with_reducible rfl
           rotate_left
           ·simp only [Act.put, List.setIfInBounds_toArray, List.set_cons_zero, List.set_cons_succ, i64_w, i32_w]
            rfl
           refine pure_ (i := 10) (N := some 25) (v := ?_) (a' := ?_) #[true, true, true, true, true, true, true, true, true, true, true, false, false, false, false, false, false, false, false, false, false, false, false] rfl rfl (any_of HT_.out (by kernel_rfl)) (fun _ _ _ h => h) (Or.inl ⟨by rfl, ?_⟩) ?_ ?_
           rotate_left
           ·intro w'
            go_simp
            with_reducible rfl
           rotate_left
           ·simp only [Act.put, List.setIfInBounds_toArray, List.set_cons_zero, List.set_cons_succ, i64_w, i32_w]
            rfl
           refine pure_ (i := 11) (N := some 26) (v := ?_) (a' := ?_) #[true, true, true, true, true, true, true, true, true, true, true, true, false, false, false, false, false, false, false, false, false, false, false] rfl rfl (any_of HT_.out (by kernel_rfl)) (fun _ _ _ h => h) (Or.inl ⟨by rfl, ?_⟩) ?_ ?_
           rotate_left
           ·intro w'
            go_simp
            with_reducible rfl
           rotate_left
           ·simp only [Act.put, List.setIfInBounds_toArray, List.set_cons_zero, List.set_cons_succ, i64_w, i32_w]
            rfl
           refine pure_ (i := 12) (N := some 27) (v := ?_) (a' := ?_) #[true, true, true, true, true, true, true, true, true, true, true, true, true, false, false, false, false, false, false, false, false, false, false] rfl rfl (any_of HT_.out (by kernel_rfl)) (fun _ _ _ h => h) (Or.inl ⟨by rfl, ?_⟩) ?_ ?_
           rotate_left
           ·intro w'
            go_simp
            with_reducible rfl
           rotate_left
           ·simp only [Act.put, List.setIfInBounds_toArray, List.set_cons_zero, List.set_cons_succ, i64_w, i32_w]
            rfl
           refine pure_ (i := 13) (N := some 28) (v := ?_) (a' := ?_) #[true, true, true, true, true, true, true, true, true, true, true, true, true, true, false, false, false, false, false, false, false, false, false] rfl rfl (any_of HT_.out (by kernel_rfl)) (fun _ _ _ h => h) (Or.inl ⟨by rfl, ?_⟩) ?_ ?_
           rotate_left
           ·intro w'
            go_simp
            with_reducible rfl
           rotate_left
           ·simp only [Act.put, List.setIfInBounds_toArray, List.set_cons_zero, List.set_cons_succ, i64_w, i32_w]
            rfl
           refine pure_ (i := 14) (N := some 29) (v := ?_) (a' := ?_) #[true, true, true, true, true, true, true, true, true, true, true, true, true, true, true, false, false, false, false, false, false, false, false] rfl rfl (any_of HT_.out (by kernel_rfl)) (fun _ _ _ h => h) (Or.inl ⟨by rfl, ?_⟩) ?_ ?_
           rotate_left
           ·intro w'
            go_simp
            with_reducible rfl
           rotate_left
           ·simp only [Act.put, List.setIfInBounds_toArray, List.set_cons_zero, List.set_cons_succ, i64_w, i32_w]
            rfl
           refine pure_ (i := 16) (N := some 31) (v := ?_) (a' := ?_) #[true, true, true, true, true, true, true, true, true, true, true, true, true, true, true, false, true, false, false, false, false, false, false] rfl rfl (any_of HT_.out (by kernel_rfl)) (fun _ _ _ h => h) (Or.inl ⟨by rfl, ?_⟩) ?_ ?_
           rotate_left
           ·intro w'
            go_simp
            with_reducible rfl
           rotate_left
           ·simp only [Act.put, List.setIfInBounds_toArray, List.set_cons_zero, List.set_cons_succ, i64_w, i32_w]
            rfl
           refine pure_ (i := 17) (N := some 32) (v := ?_) (a' := ?_) #[true, true, true, true, true, true, true, true, true, true, true, true, true, true, true, false, true, true, false, false, false, false, false] rfl rfl (any_of HT_.out (by kernel_rfl)) (fun _ _ _ h => h) (Or.inl ⟨by rfl, ?_⟩) ?_ ?_
           rotate_left
           ·intro w'
            go_simp
            with_reducible rfl
           rotate_left
           ·simp only [Act.put, List.setIfInBounds_toArray, List.set_cons_zero, List.set_cons_succ, i64_w, i32_w]
            rfl
           refine pure_ (i := 18) (N := some 33) (v := ?_) (a' := ?_) #[true, true, true, true, true, true, true, true, true, true, true, true, true, true, true, false, true, true, true, false, false, false, false] rfl rfl (any_of HT_.out (by kernel_rfl)) (fun _ _ _ h => h) (Or.inl ⟨by rfl, ?_⟩) ?_ ?_
           rotate_left
           ·intro w'
            go_simp
            with_reducible rfl
           rotate_left
           ·simp only [Act.put, List.setIfInBounds_toArray, List.set_cons_zero, List.set_cons_succ, i64_w, i32_w]
            rfl
           refine take_ (i := 15) (N := some 30) (v := ?_) (a' := ?_) #[true, true, true, true, true, true, true, true, true, true, true, true, true, true, true, true, true, true, true, false, false, false, false] rfl rfl (take_ofW HT_.out HW_.out (by kernel_rfl)) (fun _ _ _ h => h) (Or.inl ⟨by rfl, ?_⟩) hHeld ?_ ?_
           rotate_left
           ·rintro w' ⟨s0, s1, s2, s3⟩
            go_simp
            with_reducible rfl
           rotate_left
           ·simp only [Act.put, List.setIfInBounds_toArray, List.set_cons_zero, List.set_cons_succ, i64_w, i32_w]
            rfl
           refine take_ (i := 19) (N := some 34) (v := ?_) (a' := ?_) #[true, true, true, true, true, true, true, true, true, true, true, true, true, true, true, true, true, true, true, true, false, false, false] rfl rfl (take_ofW HT_.out HW_.out (by kernel_rfl)) (fun _ _ _ h => h) (Or.inl ⟨by rfl, ?_⟩) hHeld ?_ ?_
           rotate_left
           ·rintro w' ⟨s0, s1, s2, s3⟩
            go_simp
            with_reducible rfl
           rotate_left
           ·simp only [Act.put, List.setIfInBounds_toArray, List.set_cons_zero, List.set_cons_succ, i64_w, i32_w]
            rfl
           refine pure_ (i := 20) (N := some 35) (v := ?_) (a' := ?_) #[true, true, true, true, true, true, true, true, true, true, true, true, true, true, true, true, true, true, true, true, true, false, false] rfl rfl (any_of HT_.out (by kernel_rfl)) (fun _ _ _ h => h) (Or.inl ⟨by rfl, ?_⟩) ?_ ?_
           rotate_left
           ·intro w'
            go_simp
            with_reducible rfl
           rotate_left
           ·simp only [Act.put, List.setIfInBounds_toArray, List.set_cons_zero, List.set_cons_succ, i64_w, i32_w]
            rfl
           refine pure_ (i := 21) (N := some 36) (v := ?_) (a' := ?_) #[true, true, true, true, true, true, true, true, true, true, true, true, true, true, true, true, true, true, true, true, true, true, false] rfl rfl (any_of HT_.out (by kernel_rfl)) (fun _ _ _ h => h) (Or.inl ⟨by rfl, ?_⟩) ?_ ?_
           rotate_left
           ·intro w'
            go_simp
            with_reducible rfl
           rotate_left
           ·simp only [Act.put, List.setIfInBounds_toArray, List.set_cons_zero, List.set_cons_succ, i64_w, i32_w]
            rfl
           refine pure_ (i := 22) (N := some 37) (v := ?_) (a' := ?_) #[true, true, true, true, true, true, true, true, true, true, true, true, true, true, true, true, true, true, true, true, true, true, true] rfl rfl (any_of HT_.out (by kernel_rfl)) (fun _ _ _ h => h) (Or.inl ⟨by rfl, ?_⟩) ?_ ?_
           rotate_left
           ·intro w'
            go_simp
            with_reducible rfl
           rotate_left
           ·simp only [Act.put, List.setIfInBounds_toArray, List.set_cons_zero, List.set_cons_succ, i64_w, i32_w]
            rfl
           refine done_ (done_of HT_.out (by kernel_rfl)) ?_
           try go_wp2
           go_ret
           exact ⟨by first | rfl | (simp [errW_none, errW_some] <;> rfl) | (simp only [← hji11]; first | rfl | (simp [errW_none, errW_some] <;> rfl)) | (simp [*, errW_none, errW_some] <;> rfl), zb HB.out⟩
          ·rw [if_neg c14] at H
           have c14b0 : decide ((rd l1 x5_1) ≤ (rd l1 (ji11))) = false := decide_eq_false c14
           clear c14
           have H' := Aside0.mk H
           clear H
           try go_wp2
           have n0_ := Aside0.mk (blk_drew BK443.out)
           have n1_ := Aside0.mk (below_drew1 HB.out)
           clear BK443
           clear HB
           have BK443 := n0_
           have HB := n1_
           clear n0_ n1_
           have p444 : 0 ≤ (x5_1 : Int) := of_decide_eq_true (by first | (with_reducible assumption) | assumption)
           have q444 : x5_1 < (l1.length : Int) := of_decide_eq_true (by first | (with_reducible assumption) | assumption)
           obtain ⟨ad444, e444, hx444_0⟩ := Kd.at_int HR1.out x5_1 p444 q444
           have hw444_0 := hx444_0
           cases e444
           replace hx444_0 := (HB.out.cell (World.block_lt_of_cell? w _ hx444_0)).trans hx444_0
           replace p444 := eq_true p444
           replace q444 := eq_true q444
           have p446 : 0 ≤ ((ji11) : Int) := of_decide_eq_true (by first | (with_reducible assumption) | assumption)
           have q446 : (ji11) < (l1.length : Int) := of_decide_eq_true (by first | (with_reducible assumption) | assumption)
           obtain ⟨ad446, e446, hx446_0⟩ := Kd.at_int HR1.out (ji11) p446 q446
           have hw446_0 := hx446_0
           obtain rfl : ad444 = ad446 := (by injection e446)
           replace hx446_0 := (HB.out.cell (World.block_lt_of_cell? w _ hx446_0)).trans hx446_0
           replace p446 := eq_true p446
           replace q446 := eq_true q446
           have p447 : 0 ≤ (x5_1 : Int) := of_decide_eq_true (by first | (with_reducible assumption) | assumption)
           have q447 : x5_1 < (l1.length : Int) := of_decide_eq_true (by first | (with_reducible assumption) | assumption)
           obtain ⟨ad447, e447, hx447_0⟩ := Kd.at_int HR1.out x5_1 p447 q447
           have hw447_0 := hx447_0
           obtain rfl : ad444 = ad447 := (by injection e447)
           replace hx447_0 := (HB.out.cell (World.block_lt_of_cell? w _ hx447_0)).trans hx447_0
           replace p447 := eq_true p447
           replace q447 := eq_true q447
           refine start_ (n := 23) (S := fun w' => w'.cell? ⟨gb443, 0, none⟩ = some (.slice A0_0 l0_0.length c0_0) ∧ w'.cell? (ad444.add (x5_1).toNat) = some (.int .i64 (rd l1 x5_1)) ∧ w'.cell? (ad444.add ((ji11)).toNat) = some (.int .i64 (rd l1 (ji11))) ∧ w'.cell? (ad444.add (x5_1).toNat) = some (.int .i64 (rd l1 x5_1))) (ds := []) #[false, false, false, false, false, false, false, false, false, false, false, false, false, false, false, false, false, false, false, false, false, false, false] (by kernel_rfl) rfl rfl ⟨(blk_cell BK443.out 0).trans rfl, ((HB.out.cell (World.block_lt_of_cell? w _ hw444_0)).trans hw444_0), ((HB.out.cell (World.block_lt_of_cell? w _ hw446_0)).trans hw446_0), ((HB.out.cell (World.block_lt_of_cell? w _ hw447_0)).trans hw447_0)⟩ (fun hHeld => ?_); refine with_tabW spec_l6Know.tab6 spec_l6Know.bits6 (fun HT_ HW_ => ?_)
           generalize wr.drew = w17 at BK443 HB hx444_0 hx446_0 hx447_0 hHeld ⊢
           refine pure_ (i := 1) (N := some 16) (v := ?_) (a' := ?_) #[false, true, false, false, false, false, false, false, false, false, false, false, false, false, false, false, false, false, false, false, false, false, false] rfl rfl (any_of HT_.out (by kernel_rfl)) (fun _ _ _ h => h) (Or.inl ⟨by rfl, ?_⟩) ?_ ?_
           rotate_left
           ·intro w'
            go_simp
            with_reducible rfl
           rotate_left
           ·simp only [Act.put, List.setIfInBounds_toArray, List.set_cons_zero, List.set_cons_succ, i64_w, i32_w]
            rfl
           refine pure_ (i := 2) (N := some 17) (v := ?_) (a' := ?_) #[false, true, true, false, false, false, false, false, false, false, false, false, false, false, false, false, false, false, false, false, false, false, false] rfl rfl (any_of HT_.out (by kernel_rfl)) (fun _ _ _ h => h) (Or.inl ⟨by rfl, ?_⟩) ?_ ?_
           rotate_left
           ·intro w'
            go_simp
            with_reducible rfl
           rotate_left
           ·simp only [Act.put, List.setIfInBounds_toArray, List.set_cons_zero, List.set_cons_succ, i64_w, i32_w]
            rfl
           refine pure_ (i := 3) (N := some 18) (v := ?_) (a' := ?_) #[false, true, true, true, false, false, false, false, false, false, false, false, false, false, false, false, false, false, false, false, false, false, false] rfl rfl (any_of HT_.out (by kernel_rfl)) (fun _ _ _ h => h) (Or.inl ⟨by rfl, ?_⟩) ?_ ?_
           rotate_left
           ·intro w'
            go_simp
            with_reducible rfl
           rotate_left
           ·simp only [Act.put, List.setIfInBounds_toArray, List.set_cons_zero, List.set_cons_succ, i64_w, i32_w]
            rfl
           refine take_ (i := 0) (N := some 15) (v := ?_) (a' := ?_) #[true, true, true, true, false, false, false, false, false, false, false, false, false, false, false, false, false, false, false, false, false, false, false] rfl rfl (take_ofW HT_.out HW_.out (by kernel_rfl)) (fun _ _ _ h => h) (Or.inl ⟨by rfl, ?_⟩) hHeld ?_ ?_
           rotate_left
           ·rintro w' ⟨s0, s1, s2, s3⟩
            go_simp
            with_reducible rfl
           rotate_left
           ·simp only [Act.put, List.setIfInBounds_toArray, List.set_cons_zero, List.set_cons_succ, i64_w, i32_w]
            rfl
           refine take_ (i := 4) (N := some 19) (v := ?_) (a' := ?_) #[true, true, true, true, true, false, false, false, false, false, false, false, false, false, false, false, false, false, false, false, false, false, false] rfl rfl (take_ofW HT_.out HW_.out (by kernel_rfl)) (fun _ _ _ h => h) (Or.inl ⟨by rfl, ?_⟩) hHeld ?_ ?_
           rotate_left
           ·rintro w' ⟨s0, s1, s2, s3⟩
            go_simp
            with_reducible rfl
           rotate_left
           ·simp only [Act.put, List.setIfInBounds_toArray, List.set_cons_zero, List.set_cons_succ, i64_w, i32_w]
            rfl
           refine one_ (i := 5) (N := some 20) #[true, true, true, true, true, true, false, false, false, false, false, false, false, false, false, false, false, false, false, false, false, false, false] rfl rfl (one_of HT_.out (by kernel_rfl)) (by decide) (fun K hK => ?_)
           refine goes_ Try.func37 (by kernel_rfl) rfl #[.agg #[.slice A0_0 l0_0.length c0_0], .int .i64 (rd l1 x5_1)] (by rfl) rfl rfl zl ?_
           with_reducible refine (spec_l1Has.calls _ _ l0_0 (rd l1 x5_1) true _ ?side1 ?side2 A8.out).mono ?_
           (case side1 => exact zc (Kd.C_below HR0_0.out HB.out))
           (case side2 => exact HC0_0.out)
           rintro e w18 ⟨rfl, hb⟩
           refine ⟨_, rfl, ?_⟩
           have n0_ := Aside0.mk (blk_below (zh BK443.out) hb)
           have n1_ := Aside0.mk (below_step (zb HB.out) hb)
           clear BK443
           clear HB
           have BK443 := n0_
           have HB := n1_
           clear n0_ n1_
           (try clear hb)
           (try clear hb2)
           (try clear hk)
           (try clear hi)
           refine hK.out _ _ ⟨(blk_cell BK443.out 0).trans rfl, ((HB.out.cell (World.block_lt_of_cell? w _ hw444_0)).trans hw444_0), ((HB.out.cell (World.block_lt_of_cell? w _ hw446_0)).trans hw446_0), ((HB.out.cell (World.block_lt_of_cell? w _ hw447_0)).trans hw447_0)⟩ (fun hHeld => ?_)
           clear hK K
           refine norm_ (a' := ?_) ?_ ?_
           rotate_left
           ·show Act.put _ (some 20) _ = _
            simp only [Act.put, List.setIfInBounds_toArray, List.set_cons_zero, List.set_cons_succ, i64_w, i32_w]
            rfl
           refine pure_ (i := 6) (N := some 21) (v := ?_) (a' := ?_) #[true, true, true, true, true, true, true, false, false, false, false, false, false, false, false, false, false, false, false, false, false, false, false] rfl rfl (any_of HT_.out (by kernel_rfl)) (fun _ _ _ h => h) (Or.inl ⟨by rfl, ?_⟩) ?_ ?_
           rotate_left
           ·intro w'
            go_simp
            with_reducible rfl
           rotate_left
           ·simp only [Act.put, List.setIfInBounds_toArray, List.set_cons_zero, List.set_cons_succ, i64_w, i32_w]
            rfl
           refine pure_ (i := 7) (N := some 22) (v := ?_) (a' := ?_) #[true, true, true, true, true, true, true, true, false, false, false, false, false, false, false, false, false, false, false, false, false, false, false] rfl rfl (any_of HT_.out (by kernel_rfl)) (fun _ _ _ h => h) (Or.inl ⟨by rfl, ?_⟩) ?_ ?_
           rotate_left
           ·intro w'
            go_simp
            with_reducible rfl
           rotate_left
           ·simp only [Act.put, List.setIfInBounds_toArray, List.set_cons_zero, List.set_cons_succ, i64_w, i32_w]
            rfl
           refine pure_ (i := 8) (N := some 23) (v := ?_) (a' := ?_) #[true, true, true, true, true, true, true, true, true, false, false, false, false, false, false, false, false, false, false, false, false, false, false] rfl rfl (any_of HT_.out (by kernel_rfl)) (fun _ _ _ h => h) (Or.inl ⟨by rfl, ?_⟩) ?_ ?_
           rotate_left
           ·intro w'
            go_simp
            with_reducible rfl
           rotate_left
           ·simp only [Act.put, List.setIfInBounds_toArray, List.set_cons_zero, List.set_cons_succ, i64_w, i32_w]
            rfl
           refine pure_ (i := 9) (N := some 24) (v := ?_) (a' := ?_) #[true, true, true, true, true, true, true, true, true, true, false, false, false, false, false, false, false, false, false, false, false, false, false] rfl rfl (any_of HT_.out (by kernel_rfl)) (fun _ _ _ h => h) (Or.inl ⟨by rfl, ?_⟩) ?_ ?_
           rotate_left
           ·intro w'
            go_simp
            with_reducible rfl
           rotate_left
           ·simp only [Act.put, List.setIfInBounds_toArray, List.set_cons_zero, List.set_cons_succ, i64_w, i32_w]
            rfl
           refine pure_ (i := 10) (N := some 25) (v := ?_) (a' := ?_) #[true, true, true, true, true, true, true, true, true, true, true, false, false, false, false, false, false, false, false, false, false, false, false] rfl rfl (any_of HT_.out (by kernel_rfl)) (fun _ _ _ h => h) (Or.inl ⟨by rfl, ?_⟩) ?_ ?_
           rotate_left
           ·intro w'
            go_simp
            with_reducible rfl
           rotate_left
           ·simp only [Act.put, List.setIfInBounds_toArray, List.set_cons_zero, List.set_cons_succ, i64_w, i32_w]
            rfl
           refine pure_ (i := 11) (N := some 26) (v := ?_) (a' := ?_) #[true, true, true, true, true, true, true, true, true, true, true, true, false, false, false, false, false, false, false, false, false, false, false] rfl rfl (any_of HT_.out (by kernel_rfl)) (fun _ _ _ h => h) (Or.inl ⟨by rfl, ?_⟩) ?_ ?_
           rotate_left
           ·intro w'
            go_simp
            with_reducible rfl
           rotate_left
           ·simp only [Act.put, List.setIfInBounds_toArray, List.set_cons_zero, List.set_cons_succ, i64_w, i32_w]
            rfl
           refine pure_ (i := 12) (N := some 27) (v := ?_) (a' := ?_) #[true, true, true, true, true, true, true, true, true, true, true, true, true, false, false, false, false, false, false, false, false, false, false] rfl rfl (any_of HT_.out (by kernel_rfl)) (fun _ _ _ h => h) (Or.inl ⟨by rfl, ?_⟩) ?_ ?_
           rotate_left
           ·intro w'
            go_simp
            with_reducible rfl
           rotate_left
           ·simp only [Act.put, List.setIfInBounds_toArray, List.set_cons_zero, List.set_cons_succ, i64_w, i32_w]
            rfl
           refine pure_ (i := 13) (N := some 28) (v := ?_) (a' := ?_) #[true, true, true, true, true, true, true, true, true, true, true, true, true, true, false, false, false, false, false, false, false, false, false] rfl rfl (any_of HT_.out (by kernel_rfl)) (fun _ _ _ h => h) (Or.inl ⟨by rfl, ?_⟩) ?_ ?_
           rotate_left
           ·intro w'
            go_simp
            with_reducible rfl
           rotate_left
           ·simp only [Act.put, List.setIfInBounds_toArray, List.set_cons_zero, List.set_cons_succ, i64_w, i32_w]
            rfl
           refine pure_ (i := 14) (N := some 29) (v := ?_) (a' := ?_) #[true, true, true, true, true, true, true, true, true, true, true, true, true, true, true, false, false, false, false, false, false, false, false] rfl rfl (any_of HT_.out (by kernel_rfl)) (fun _ _ _ h => h) (Or.inl ⟨by rfl, ?_⟩) ?_ ?_
           rotate_left
           ·intro w'
            go_simp
            with_reducible rfl
           rotate_left
           ·simp only [Act.put, List.setIfInBounds_toArray, List.set_cons_zero, List.set_cons_succ, i64_w, i32_w]
            rfl
           refine pure_ (i := 16) (N := some 31) (v := ?_) (a' := ?_) #[true, true, true, true, true, true, true, true, true, true, true, true, true, true, true, false, true, false, false, false, false, false, false] rfl rfl (any_of HT_.out (by kernel_rfl)) (fun _ _ _ h => h) (Or.inl ⟨by rfl, ?_⟩) ?_ ?_
           rotate_left
           ·intro w'
            go_simp
            with_reducible rfl
           rotate_left
           ·simp only [Act.put, List.setIfInBounds_toArray, List.set_cons_zero, List.set_cons_succ, i64_w, i32_w]
            rfl
           refine pure_ (i := 17) (N := some 32) (v := ?_) (a' := ?_) #[true, true, true, true, true, true, true, true, true, true, true, true, true, true, true, false, true, true, false, false, false, false, false] rfl rfl (any_of HT_.out (by kernel_rfl)) (fun _ _ _ h => h) (Or.inl ⟨by rfl, ?_⟩) ?_ ?_
           rotate_left
           ·intro w'
            go_simp
            with_reducible rfl
           rotate_left
           ·simp only [Act.put, List.setIfInBounds_toArray, List.set_cons_zero, List.set_cons_succ, i64_w, i32_w]
            rfl
           refine pure_ (i := 18) (N := some 33) (v := ?_) (a' := ?_) #[true, true, true, true, true, true, true, true, true, true, true, true, true, true, true, false, true, true, true, false, false, false, false] rfl rfl (any_of HT_.out (by kernel_rfl)) (fun _ _ _ h => h) (Or.inl ⟨by rfl, ?_⟩) ?_ ?_
           rotate_left
           ·intro w'
            go_simp
            with_reducible rfl
           rotate_left
           ·simp only [Act.put, List.setIfInBounds_toArray, List.set_cons_zero, List.set_cons_succ, i64_w, i32_w]
            rfl
           refine take_ (i := 15) (N := some 30) (v := ?_) (a' := ?_) #[true, true, true, true, true, true, true, true, true, true, true, true, true, true, true, true, true, true, true, false, false, false, false] rfl rfl (take_ofW HT_.out HW_.out (by kernel_rfl)) (fun _ _ _ h => h) (Or.inl ⟨by rfl, ?_⟩) hHeld ?_ ?_
           rotate_left
           ·rintro w' ⟨s0, s1, s2, s3⟩
            go_simp
            with_reducible rfl
           rotate_left
           ·simp only [Act.put, List.setIfInBounds_toArray, List.set_cons_zero, List.set_cons_succ, i64_w, i32_w]
            rfl
           refine take_ (i := 19) (N := some 34) (v := ?_) (a' := ?_) #[true, true, true, true, true, true, true, true, true, true, true, true, true, true, true, true, true, true, true, true, false, false, false] rfl rfl (take_ofW HT_.out HW_.out (by kernel_rfl)) (fun _ _ _ h => h) (Or.inl ⟨by rfl, ?_⟩) hHeld ?_ ?_
           rotate_left
           ·rintro w' ⟨s0, s1, s2, s3⟩
            go_simp
            with_reducible rfl
           rotate_left
           ·simp only [Act.put, List.setIfInBounds_toArray, List.set_cons_zero, List.set_cons_succ, i64_w, i32_w]
            rfl
           refine pure_ (i := 20) (N := some 35) (v := ?_) (a' := ?_) #[true, true, true, true, true, true, true, true, true, true, true, true, true, true, true, true, true, true, true, true, true, false, false] rfl rfl (any_of HT_.out (by kernel_rfl)) (fun _ _ _ h => h) (Or.inl ⟨by rfl, ?_⟩) ?_ ?_
           rotate_left
           ·intro w'
            go_simp
            with_reducible rfl
           rotate_left
           ·simp only [Act.put, List.setIfInBounds_toArray, List.set_cons_zero, List.set_cons_succ, i64_w, i32_w]
            rfl
           refine pure_ (i := 21) (N := some 36) (v := ?_) (a' := ?_) #[true, true, true, true, true, true, true, true, true, true, true, true, true, true, true, true, true, true, true, true, true, true, false] rfl rfl (any_of HT_.out (by kernel_rfl)) (fun _ _ _ h => h) (Or.inl ⟨by rfl, ?_⟩) ?_ ?_
           rotate_left
           ·intro w'
            go_simp
            with_reducible rfl
           rotate_left
           ·simp only [Act.put, List.setIfInBounds_toArray, List.set_cons_zero, List.set_cons_succ, i64_w, i32_w]
            rfl
           refine pure_ (i := 22) (N := some 37) (v := ?_) (a' := ?_) #[true, true, true, true, true, true, true, true, true, true, true, true, true, true, true, true, true, true, true, true, true, true, true] rfl rfl (any_of HT_.out (by kernel_rfl)) (fun _ _ _ h => h) (Or.inl ⟨by rfl, ?_⟩) ?_ ?_
           rotate_left
           ·intro w'
            go_simp
            with_reducible rfl
           rotate_left
           ·simp only [Act.put, List.setIfInBounds_toArray, List.set_cons_zero, List.set_cons_succ, i64_w, i32_w]
            rfl
           refine done_ (done_of HT_.out (by kernel_rfl)) ?_
           try go_wp2
           go_roundg k1
           case measure => have := HK1.out; omega
           case rel => exact ⟨(wrap64 (x5_1 + 1)), (by first | rfl | (simp; done) | (simp [*]; done)), H', ⟨by have := HK1.out; omega⟩, ⟨zh BK443.out⟩, ⟨zb HB.out⟩⟩
         ·rw [if_neg c13] at H
          exact absurd H (by simp)
        ·rw [if_neg c12] at H
         exact absurd H (by simp)
       ·rw [if_neg c10] at H
        have c10b0 : decide (0 < x5_1) = false := decide_eq_false c10
        clear c10
        have H' := Aside0.mk H
        clear H
        try go_wp2
        have n0_ := Aside0.mk (blk_drew BK443.out)
        have n1_ := Aside0.mk (below_drew1 HB.out)
        clear BK443
        clear HB
        have BK443 := n0_
        have HB := n1_
        clear n0_ n1_
        have p444 : 0 ≤ (x5_1 : Int) := of_decide_eq_true (by first | (with_reducible assumption) | assumption)
        have q444 : x5_1 < (l1.length : Int) := of_decide_eq_true (by first | (with_reducible assumption) | assumption)
        obtain ⟨ad444, e444, hx444_0⟩ := Kd.at_int HR1.out x5_1 p444 q444
        have hw444_0 := hx444_0
        cases e444
        replace hx444_0 := (HB.out.cell (World.block_lt_of_cell? w _ hx444_0)).trans hx444_0
        replace p444 := eq_true p444
        replace q444 := eq_true q444
        refine start_ (n := 23) (S := fun w' => w'.cell? ⟨gb443, 0, none⟩ = some (.slice A0_0 l0_0.length c0_0) ∧ w'.cell? (ad444.add (x5_1).toNat) = some (.int .i64 (rd l1 x5_1))) (ds := []) #[false, false, false, false, false, false, false, false, false, false, false, false, false, false, false, false, false, false, false, false, false, false, false] (by kernel_rfl) rfl rfl ⟨(blk_cell BK443.out 0).trans rfl, ((HB.out.cell (World.block_lt_of_cell? w _ hw444_0)).trans hw444_0)⟩ (fun hHeld => ?_); refine with_tabW spec_l6Know.tab6 spec_l6Know.bits6 (fun HT_ HW_ => ?_)
        generalize wr.drew = w19 at BK443 HB hx444_0 hHeld ⊢
        refine pure_ (i := 1) (N := some 16) (v := ?_) (a' := ?_) #[false, true, false, false, false, false, false, false, false, false, false, false, false, false, false, false, false, false, false, false, false, false, false] rfl rfl (any_of HT_.out (by kernel_rfl)) (fun _ _ _ h => h) (Or.inl ⟨by rfl, ?_⟩) ?_ ?_
        rotate_left
        ·intro w'
         go_simp
         with_reducible rfl
        rotate_left
        ·simp only [Act.put, List.setIfInBounds_toArray, List.set_cons_zero, List.set_cons_succ, i64_w, i32_w]
         rfl
        refine pure_ (i := 2) (N := some 17) (v := ?_) (a' := ?_) #[false, true, true, false, false, false, false, false, false, false, false, false, false, false, false, false, false, false, false, false, false, false, false] rfl rfl (any_of HT_.out (by kernel_rfl)) (fun _ _ _ h => h) (Or.inl ⟨by rfl, ?_⟩) ?_ ?_
        rotate_left
        ·intro w'
         go_simp
         with_reducible rfl
        rotate_left
        ·simp only [Act.put, List.setIfInBounds_toArray, List.set_cons_zero, List.set_cons_succ, i64_w, i32_w]
         rfl
        refine pure_ (i := 3) (N := some 18) (v := ?_) (a' := ?_) #[false, true, true, true, false, false, false, false, false, false, false, false, false, false, false, false, false, false, false, false, false, false, false] rfl rfl (any_of HT_.out (by kernel_rfl)) (fun _ _ _ h => h) (Or.inl ⟨by rfl, ?_⟩) ?_ ?_
        rotate_left
        ·intro w'
         go_simp
         with_reducible rfl
        rotate_left
        ·simp only [Act.put, List.setIfInBounds_toArray, List.set_cons_zero, List.set_cons_succ, i64_w, i32_w]
         rfl
        refine take_ (i := 0) (N := some 15) (v := ?_) (a' := ?_) #[true, true, true, true, false, false, false, false, false, false, false, false, false, false, false, false, false, false, false, false, false, false, false] rfl rfl (take_ofW HT_.out HW_.out (by kernel_rfl)) (fun _ _ _ h => h) (Or.inl ⟨by rfl, ?_⟩) hHeld ?_ ?_
        rotate_left
        ·rintro w' ⟨s0, s1⟩
         go_simp
         with_reducible rfl
        rotate_left
        ·simp only [Act.put, List.setIfInBounds_toArray, List.set_cons_zero, List.set_cons_succ, i64_w, i32_w]
         rfl
        refine take_ (i := 4) (N := some 19) (v := ?_) (a' := ?_) #[true, true, true, true, true, false, false, false, false, false, false, false, false, false, false, false, false, false, false, false, false, false, false] rfl rfl (take_ofW HT_.out HW_.out (by kernel_rfl)) (fun _ _ _ h => h) (Or.inl ⟨by rfl, ?_⟩) hHeld ?_ ?_
        rotate_left
        ·rintro w' ⟨s0, s1⟩
         go_simp
         with_reducible rfl
        rotate_left
        ·simp only [Act.put, List.setIfInBounds_toArray, List.set_cons_zero, List.set_cons_succ, i64_w, i32_w]
         rfl
        refine one_ (i := 5) (N := some 20) #[true, true, true, true, true, true, false, false, false, false, false, false, false, false, false, false, false, false, false, false, false, false, false] rfl rfl (one_of HT_.out (by kernel_rfl)) (by decide) (fun K hK => ?_)
        refine goes_ Try.func37 (by kernel_rfl) rfl #[.agg #[.slice A0_0 l0_0.length c0_0], .int .i64 (rd l1 x5_1)] (by rfl) rfl rfl zl ?_
        with_reducible refine (spec_l1Has.calls _ _ l0_0 (rd l1 x5_1) true _ ?side1 ?side2 A8.out).mono ?_
        (case side1 => exact zc (Kd.C_below HR0_0.out HB.out))
        (case side2 => exact HC0_0.out)
        rintro e w20 ⟨rfl, hb⟩
        refine ⟨_, rfl, ?_⟩
        have n0_ := Aside0.mk (blk_below (zh BK443.out) hb)
        have n1_ := Aside0.mk (below_step (zb HB.out) hb)
        clear BK443
        clear HB
        have BK443 := n0_
        have HB := n1_
        clear n0_ n1_
        (try clear hb)
        (try clear hb2)
        (try clear hk)
        (try clear hi)
        refine hK.out _ _ ⟨(blk_cell BK443.out 0).trans rfl, ((HB.out.cell (World.block_lt_of_cell? w _ hw444_0)).trans hw444_0)⟩ (fun hHeld => ?_)
        clear hK K
        refine norm_ (a' := ?_) ?_ ?_
        rotate_left
        ·show Act.put _ (some 20) _ = _
         simp only [Act.put, List.setIfInBounds_toArray, List.set_cons_zero, List.set_cons_succ, i64_w, i32_w]
         rfl
        refine pure_ (i := 6) (N := some 21) (v := ?_) (a' := ?_) #[true, true, true, true, true, true, true, false, false, false, false, false, false, false, false, false, false, false, false, false, false, false, false] rfl rfl (any_of HT_.out (by kernel_rfl)) (fun _ _ _ h => h) (Or.inl ⟨by rfl, ?_⟩) ?_ ?_
        rotate_left
        ·intro w'
         go_simp
         with_reducible rfl
        rotate_left
        ·simp only [Act.put, List.setIfInBounds_toArray, List.set_cons_zero, List.set_cons_succ, i64_w, i32_w]
         rfl
        refine pure_ (i := 7) (N := some 22) (v := ?_) (a' := ?_) #[true, true, true, true, true, true, true, true, false, false, false, false, false, false, false, false, false, false, false, false, false, false, false] rfl rfl (any_of HT_.out (by kernel_rfl)) (fun _ _ _ h => h) (Or.inl ⟨by rfl, ?_⟩) ?_ ?_
        rotate_left
        ·intro w'
         go_simp
         with_reducible rfl
        rotate_left
        ·simp only [Act.put, List.setIfInBounds_toArray, List.set_cons_zero, List.set_cons_succ, i64_w, i32_w]
         rfl
        refine pure_ (i := 8) (N := some 23) (v := ?_) (a' := ?_) #[true, true, true, true, true, true, true, true, true, false, false, false, false, false, false, false, false, false, false, false, false, false, false] rfl rfl (any_of HT_.out (by kernel_rfl)) (fun _ _ _ h => h) (Or.inl ⟨by rfl, ?_⟩) ?_ ?_
        rotate_left
        ·intro w'
         go_simp
         with_reducible rfl
        rotate_left
        ·simp only [Act.put, List.setIfInBounds_toArray, List.set_cons_zero, List.set_cons_succ, i64_w, i32_w]
         rfl
        refine pure_ (i := 9) (N := some 24) (v := ?_) (a' := ?_) #[true, true, true, true, true, true, true, true, true, true, false, false, false, false, false, false, false, false, false, false, false, false, false] rfl rfl (any_of HT_.out (by kernel_rfl)) (fun _ _ _ h => h) (Or.inl ⟨by rfl, ?_⟩) ?_ ?_
        rotate_left
        ·intro w'
         go_simp
         with_reducible rfl
        rotate_left
        ·simp only [Act.put, List.setIfInBounds_toArray, List.set_cons_zero, List.set_cons_succ, i64_w, i32_w]
         rfl
        refine pure_ (i := 10) (N := some 25) (v := ?_) (a' := ?_) #[true, true, true, true, true, true, true, true, true, true, true, false, false, false, false, false, false, false, false, false, false, false, false] rfl rfl (any_of HT_.out (by kernel_rfl)) (fun _ _ _ h => h) (Or.inl ⟨by rfl, ?_⟩) ?_ ?_
        rotate_left
        ·intro w'
         go_simp
         with_reducible rfl
        rotate_left
        ·simp only [Act.put, List.setIfInBounds_toArray, List.set_cons_zero, List.set_cons_succ, i64_w, i32_w]
         rfl
        refine pure_ (i := 11) (N := some 26) (v := undef) (a' := ?_) #[true, true, true, true, true, true, true, true, true, true, true, true, false, false, false, false, false, false, false, false, false, false, false] rfl rfl (any_of HT_.out (by kernel_rfl)) (fun _ _ _ h => h) (Or.inr ⟨by rfl, rfl⟩) ?_ ?_
        rotate_left
        ·simp only [Act.put, List.setIfInBounds_toArray, List.set_cons_zero, List.set_cons_succ, i64_w, i32_w]
         rfl
        refine pure_ (i := 12) (N := some 27) (v := undef) (a' := ?_) #[true, true, true, true, true, true, true, true, true, true, true, true, true, false, false, false, false, false, false, false, false, false, false] rfl rfl (any_of HT_.out (by kernel_rfl)) (fun _ _ _ h => h) (Or.inr ⟨by rfl, rfl⟩) ?_ ?_
        rotate_left
        ·simp only [Act.put, List.setIfInBounds_toArray, List.set_cons_zero, List.set_cons_succ, i64_w, i32_w]
         rfl
        refine pure_ (i := 13) (N := some 28) (v := undef) (a' := ?_) #[true, true, true, true, true, true, true, true, true, true, true, true, true, true, false, false, false, false, false, false, false, false, false] rfl rfl (any_of HT_.out (by kernel_rfl)) (fun _ _ _ h => h) (Or.inr ⟨by rfl, rfl⟩) ?_ ?_
        rotate_left
        ·simp only [Act.put, List.setIfInBounds_toArray, List.set_cons_zero, List.set_cons_succ, i64_w, i32_w]
         rfl
        refine pure_ (i := 14) (N := some 29) (v := undef) (a' := ?_) #[true, true, true, true, true, true, true, true, true, true, true, true, true, true, true, false, false, false, false, false, false, false, false] rfl rfl (any_of HT_.out (by kernel_rfl)) (fun _ _ _ h => h) (Or.inr ⟨by rfl, rfl⟩) ?_ ?_
        rotate_left
        ·simp only [Act.put, List.setIfInBounds_toArray, List.set_cons_zero, List.set_cons_succ, i64_w, i32_w]
         rfl
        refine pure_ (i := 15) (N := some 30) (v := undef) (a' := ?_) #[true, true, true, true, true, true, true, true, true, true, true, true, true, true, true, true, false, false, false, false, false, false, false] rfl rfl (any_of HT_.out (by kernel_rfl)) (fun _ _ _ h => h) (Or.inr ⟨by rfl, rfl⟩) ?_ ?_
        rotate_left
        ·simp only [Act.put, List.setIfInBounds_toArray, List.set_cons_zero, List.set_cons_succ, i64_w, i32_w]
         rfl
        refine pure_ (i := 16) (N := some 31) (v := undef) (a' := ?_) #[true, true, true, true, true, true, true, true, true, true, true, true, true, true, true, true, true, false, false, false, false, false, false] rfl rfl (any_of HT_.out (by kernel_rfl)) (fun _ _ _ h => h) (Or.inr ⟨by rfl, rfl⟩) ?_ ?_
        rotate_left
        ·simp only [Act.put, List.setIfInBounds_toArray, List.set_cons_zero, List.set_cons_succ, i64_w, i32_w]
         rfl
        refine pure_ (i := 17) (N := some 32) (v := undef) (a' := ?_) #[true, true, true, true, true, true, true, true, true, true, true, true, true, true, true, true, true, true, false, false, false, false, false] rfl rfl (any_of HT_.out (by kernel_rfl)) (fun _ _ _ h => h) (Or.inr ⟨by rfl, rfl⟩) ?_ ?_
        rotate_left
        ·simp only [Act.put, List.setIfInBounds_toArray, List.set_cons_zero, List.set_cons_succ, i64_w, i32_w]
         rfl
        refine pure_ (i := 18) (N := some 33) (v := undef) (a' := ?_) #[true, true, true, true, true, true, true, true, true, true, true, true, true, true, true, true, true, true, true, false, false, false, false] rfl rfl (any_of HT_.out (by kernel_rfl)) (fun _ _ _ h => h) (Or.inr ⟨by rfl, rfl⟩) ?_ ?_
        rotate_left
        ·simp only [Act.put, List.setIfInBounds_toArray, List.set_cons_zero, List.set_cons_succ, i64_w, i32_w]
         rfl
        refine pure_ (i := 19) (N := some 34) (v := undef) (a' := ?_) #[true, true, true, true, true, true, true, true, true, true, true, true, true, true, true, true, true, true, true, true, false, false, false] rfl rfl (any_of HT_.out (by kernel_rfl)) (fun _ _ _ h => h) (Or.inr ⟨by rfl, rfl⟩) ?_ ?_
        rotate_left
        ·simp only [Act.put, List.setIfInBounds_toArray, List.set_cons_zero, List.set_cons_succ, i64_w, i32_w]
         rfl
        refine pure_ (i := 20) (N := some 35) (v := undef) (a' := ?_) #[true, true, true, true, true, true, true, true, true, true, true, true, true, true, true, true, true, true, true, true, true, false, false] rfl rfl (any_of HT_.out (by kernel_rfl)) (fun _ _ _ h => h) (Or.inr ⟨by rfl, rfl⟩) ?_ ?_
        rotate_left
        ·simp only [Act.put, List.setIfInBounds_toArray, List.set_cons_zero, List.set_cons_succ, i64_w, i32_w]
         rfl
        refine pure_ (i := 21) (N := some 36) (v := ?_) (a' := ?_) #[true, true, true, true, true, true, true, true, true, true, true, true, true, true, true, true, true, true, true, true, true, true, false] rfl rfl (any_of HT_.out (by kernel_rfl)) (fun _ _ _ h => h) (Or.inl ⟨by rfl, ?_⟩) ?_ ?_
        rotate_left
        ·intro w'
         go_simp
         with_reducible rfl
        rotate_left
        ·simp only [Act.put, List.setIfInBounds_toArray, List.set_cons_zero, List.set_cons_succ, i64_w, i32_w]
         rfl
        refine pure_ (i := 22) (N := some 37) (v := ?_) (a' := ?_) #[true, true, true, true, true, true, true, true, true, true, true, true, true, true, true, true, true, true, true, true, true, true, true] rfl rfl (any_of HT_.out (by kernel_rfl)) (fun _ _ _ h => h) (Or.inl ⟨by rfl, ?_⟩) ?_ ?_
        rotate_left
        ·intro w'
         go_simp
         with_reducible rfl
        rotate_left
        ·simp only [Act.put, List.setIfInBounds_toArray, List.set_cons_zero, List.set_cons_succ, i64_w, i32_w]
         rfl
        refine done_ (done_of HT_.out (by kernel_rfl)) ?_
        try go_wp2
        go_roundg k1
        case measure => have := HK1.out; omega
        case rel => exact ⟨(wrap64 (x5_1 + 1)), (by first | rfl | (simp; done) | (simp [*]; done)), H', ⟨by have := HK1.out; omega⟩, ⟨zh BK443.out⟩, ⟨zb HB.out⟩⟩
      ·replace c9 := Bool.eq_false_iff.mpr c9
       subst c9
       have H1 : (some false) = some r := by rw [if_neg (show ¬ (false = true) by decide)] at H; exact H
       clear H
       have H := H1
       clear H1
       obtain rfl := Option.some.inj H
       try go_wp2
       have n0_ := Aside0.mk (blk_drew BK443.out)
       have n1_ := Aside0.mk (below_drew1 HB.out)
       clear BK443
       clear HB
       have BK443 := n0_
       have HB := n1_
       clear n0_ n1_
       have p444 : 0 ≤ (x5_1 : Int) := of_decide_eq_true (by first | (with_reducible assumption) | assumption)
       have q444 : x5_1 < (l1.length : Int) := of_decide_eq_true (by first | (with_reducible assumption) | assumption)
       obtain ⟨ad444, e444, hx444_0⟩ := Kd.at_int HR1.out x5_1 p444 q444
       have hw444_0 := hx444_0
       cases e444
       replace hx444_0 := (HB.out.cell (World.block_lt_of_cell? w _ hx444_0)).trans hx444_0
       replace p444 := eq_true p444
       replace q444 := eq_true q444
       refine start_ (n := 23) (S := fun w' => w'.cell? ⟨gb443, 0, none⟩ = some (.slice A0_0 l0_0.length c0_0) ∧ w'.cell? (ad444.add (x5_1).toNat) = some (.int .i64 (rd l1 x5_1))) (ds := []) #[false, false, false, false, false, false, false, false, false, false, false, false, false, false, false, false, false, false, false, false, false, false, false] (by kernel_rfl) rfl rfl ⟨(blk_cell BK443.out 0).trans rfl, ((HB.out.cell (World.block_lt_of_cell? w _ hw444_0)).trans hw444_0)⟩ (fun hHeld => ?_); refine with_tabW spec_l6Know.tab6 spec_l6Know.bits6 (fun HT_ HW_ => ?_)
       generalize wr.drew = w21 at BK443 HB hx444_0 hHeld ⊢
       refine pure_ (i := 1) (N := some 16) (v := ?_) (a' := ?_) #[false, true, false, false, false, false, false, false, false, false, false, false, false, false, false, false, false, false, false, false, false, false, false] rfl rfl (any_of HT_.out (by kernel_rfl)) (fun _ _ _ h => h) (Or.inl ⟨by rfl, ?_⟩) ?_ ?_
       rotate_left
       ·intro w'
        go_simp
        with_reducible rfl
       rotate_left
       ·simp only [Act.put, List.setIfInBounds_toArray, List.set_cons_zero, List.set_cons_succ, i64_w, i32_w]
        rfl
       refine pure_ (i := 2) (N := some 17) (v := ?_) (a' := ?_) #[false, true, true, false, false, false, false, false, false, false, false, false, false, false, false, false, false, false, false, false, false, false, false] rfl rfl (any_of HT_.out (by kernel_rfl)) (fun _ _ _ h => h) (Or.inl ⟨by rfl, ?_⟩) ?_ ?_
       rotate_left
       ·intro w'
        go_simp
        with_reducible rfl
       rotate_left
       ·simp only [Act.put, List.setIfInBounds_toArray, List.set_cons_zero, List.set_cons_succ, i64_w, i32_w]
        rfl
       refine pure_ (i := 3) (N := some 18) (v := ?_) (a' := ?_) #[false, true, true, true, false, false, false, false, false, false, false, false, false, false, false, false, false, false, false, false, false, false, false] rfl rfl (any_of HT_.out (by kernel_rfl)) (fun _ _ _ h => h) (Or.inl ⟨by rfl, ?_⟩) ?_ ?_
       rotate_left
       ·intro w'
        go_simp
        with_reducible rfl
       rotate_left
       ·simp only [Act.put, List.setIfInBounds_toArray, List.set_cons_zero, List.set_cons_succ, i64_w, i32_w]
        rfl
       refine take_ (i := 0) (N := some 15) (v := ?_) (a' := ?_) #[true, true, true, true, false, false, false, false, false, false, false, false, false, false, false, false, false, false, false, false, false, false, false] rfl rfl (take_ofW HT_.out HW_.out (by kernel_rfl)) (fun _ _ _ h => h) (Or.inl ⟨by rfl, ?_⟩) hHeld ?_ ?_
       rotate_left
       ·rintro w' ⟨s0, s1⟩
        go_simp
        with_reducible rfl
       rotate_left
       ·simp only [Act.put, List.setIfInBounds_toArray, List.set_cons_zero, List.set_cons_succ, i64_w, i32_w]
        rfl
       refine take_ (i := 4) (N := some 19) (v := ?_) (a' := ?_) #[true, true, true, true, true, false, false, false, false, false, false, false, false, false, false, false, false, false, false, false, false, false, false] rfl rfl (take_ofW HT_.out HW_.out (by kernel_rfl)) (fun _ _ _ h => h) (Or.inl ⟨by rfl, ?_⟩) hHeld ?_ ?_
       rotate_left
       ·rintro w' ⟨s0, s1⟩
        go_simp
        with_reducible rfl
       rotate_left
       ·simp only [Act.put, List.setIfInBounds_toArray, List.set_cons_zero, List.set_cons_succ, i64_w, i32_w]
        rfl
       refine one_ (i := 5) (N := some 20) #[true, true, true, true, true, true, false, false, false, false, false, false, false, false, false, false, false, false, false, false, false, false, false] rfl rfl (one_of HT_.out (by kernel_rfl)) (by decide) (fun K hK => ?_)
       refine goes_ Try.func37 (by kernel_rfl) rfl #[.agg #[.slice A0_0 l0_0.length c0_0], .int .i64 (rd l1 x5_1)] (by rfl) rfl rfl zl ?_
       with_reducible refine (spec_l1Has.calls _ _ l0_0 (rd l1 x5_1) false _ ?side1 ?side2 A8.out).mono ?_
       (case side1 => exact zc (Kd.C_below HR0_0.out HB.out))
       (case side2 => exact HC0_0.out)
       rintro e w22 ⟨rfl, hb⟩
       refine ⟨_, rfl, ?_⟩
       have n0_ := Aside0.mk (blk_below (zh BK443.out) hb)
       have n1_ := Aside0.mk (below_step (zb HB.out) hb)
       clear BK443
       clear HB
       have BK443 := n0_
       have HB := n1_
       clear n0_ n1_
       (try clear hb)
       (try clear hb2)
       (try clear hk)
       (try clear hi)
       refine hK.out _ _ ⟨(blk_cell BK443.out 0).trans rfl, ((HB.out.cell (World.block_lt_of_cell? w _ hw444_0)).trans hw444_0)⟩ (fun hHeld => ?_)
       clear hK K
       refine norm_ (a' := ?_) ?_ ?_
       rotate_left
       ·show Act.put _ (some 20) _ = _
        simp only [Act.put, List.setIfInBounds_toArray, List.set_cons_zero, List.set_cons_succ, i64_w, i32_w]
        rfl
       refine pure_ (i := 6) (N := some 21) (v := ?_) (a' := ?_) #[true, true, true, true, true, true, true, false, false, false, false, false, false, false, false, false, false, false, false, false, false, false, false] rfl rfl (any_of HT_.out (by kernel_rfl)) (fun _ _ _ h => h) (Or.inl ⟨by rfl, ?_⟩) ?_ ?_
       rotate_left
       ·intro w'
        go_simp
        with_reducible rfl
       rotate_left
       ·simp only [Act.put, List.setIfInBounds_toArray, List.set_cons_zero, List.set_cons_succ, i64_w, i32_w]
        rfl
       refine pure_ (i := 7) (N := some 22) (v := ?_) (a' := ?_) #[true, true, true, true, true, true, true, true, false, false, false, false, false, false, false, false, false, false, false, false, false, false, false] rfl rfl (any_of HT_.out (by kernel_rfl)) (fun _ _ _ h => h) (Or.inl ⟨by rfl, ?_⟩) ?_ ?_
       rotate_left
       ·intro w'
        go_simp
        with_reducible rfl
       rotate_left
       ·simp only [Act.put, List.setIfInBounds_toArray, List.set_cons_zero, List.set_cons_succ, i64_w, i32_w]
        rfl
       refine pure_ (i := 8) (N := some 23) (v := undef) (a' := ?_) #[true, true, true, true, true, true, true, true, true, false, false, false, false, false, false, false, false, false, false, false, false, false, false] rfl rfl (any_of HT_.out (by kernel_rfl)) (fun _ _ _ h => h) (Or.inr ⟨by rfl, rfl⟩) ?_ ?_
       rotate_left
       ·simp only [Act.put, List.setIfInBounds_toArray, List.set_cons_zero, List.set_cons_succ, i64_w, i32_w]
        rfl
       refine pure_ (i := 9) (N := some 24) (v := undef) (a' := ?_) #[true, true, true, true, true, true, true, true, true, true, false, false, false, false, false, false, false, false, false, false, false, false, false] rfl rfl (any_of HT_.out (by kernel_rfl)) (fun _ _ _ h => h) (Or.inr ⟨by rfl, rfl⟩) ?_ ?_
       rotate_left
       ·simp only [Act.put, List.setIfInBounds_toArray, List.set_cons_zero, List.set_cons_succ, i64_w, i32_w]
        rfl
       refine pure_ (i := 10) (N := some 25) (v := undef) (a' := ?_) #[true, true, true, true, true, true, true, true, true, true, true, false, false, false, false, false, false, false, false, false, false, false, false] rfl rfl (any_of HT_.out (by kernel_rfl)) (fun _ _ _ h => h) (Or.inr ⟨by rfl, rfl⟩) ?_ ?_
       rotate_left
       ·simp only [Act.put, List.setIfInBounds_toArray, List.set_cons_zero, List.set_cons_succ, i64_w, i32_w]
        rfl
       refine pure_ (i := 11) (N := some 26) (v := undef) (a' := ?_) #[true, true, true, true, true, true, true, true, true, true, true, true, false, false, false, false, false, false, false, false, false, false, false] rfl rfl (any_of HT_.out (by kernel_rfl)) (fun _ _ _ h => h) (Or.inr ⟨by rfl, rfl⟩) ?_ ?_
       rotate_left
       ·simp only [Act.put, List.setIfInBounds_toArray, List.set_cons_zero, List.set_cons_succ, i64_w, i32_w]
        rfl
       refine pure_ (i := 12) (N := some 27) (v := undef) (a' := ?_) #[true, true, true, true, true, true, true, true, true, true, true, true, true, false, false, false, false, false, false, false, false, false, false] rfl rfl (any_of HT_.out (by kernel_rfl)) (fun _ _ _ h => h) (Or.inr ⟨by rfl, rfl⟩) ?_ ?_
       rotate_left
       ·simp only [Act.put, List.setIfInBounds_toArray, List.set_cons_zero, List.set_cons_succ, i64_w, i32_w]
        rfl
       refine pure_ (i := 13) (N := some 28) (v := undef) (a' := ?_) #[true, true, true, true, true, true, true, true, true, true, true, true, true, true, false, false, false, false, false, false, false, false, false] rfl rfl (any_of HT_.out (by kernel_rfl)) (fun _ _ _ h => h) (Or.inr ⟨by rfl, rfl⟩) ?_ ?_
       rotate_left
       ·simp only [Act.put, List.setIfInBounds_toArray, List.set_cons_zero, List.set_cons_succ, i64_w, i32_w]
        rfl
       refine pure_ (i := 14) (N := some 29) (v := undef) (a' := ?_) #[true, true, true, true, true, true, true, true, true, true, true, true, true, true, true, false, false, false, false, false, false, false, false] rfl rfl (any_of HT_.out (by kernel_rfl)) (fun _ _ _ h => h) (Or.inr ⟨by rfl, rfl⟩) ?_ ?_
       rotate_left
       ·simp only [Act.put, List.setIfInBounds_toArray, List.set_cons_zero, List.set_cons_succ, i64_w, i32_w]
        rfl
       refine pure_ (i := 15) (N := some 30) (v := undef) (a' := ?_) #[true, true, true, true, true, true, true, true, true, true, true, true, true, true, true, true, false, false, false, false, false, false, false] rfl rfl (any_of HT_.out (by kernel_rfl)) (fun _ _ _ h => h) (Or.inr ⟨by rfl, rfl⟩) ?_ ?_
       rotate_left
       ·simp only [Act.put, List.setIfInBounds_toArray, List.set_cons_zero, List.set_cons_succ, i64_w, i32_w]
        rfl
       refine pure_ (i := 16) (N := some 31) (v := undef) (a' := ?_) #[true, true, true, true, true, true, true, true, true, true, true, true, true, true, true, true, true, false, false, false, false, false, false] rfl rfl (any_of HT_.out (by kernel_rfl)) (fun _ _ _ h => h) (Or.inr ⟨by rfl, rfl⟩) ?_ ?_
       rotate_left
       ·simp only [Act.put, List.setIfInBounds_toArray, List.set_cons_zero, List.set_cons_succ, i64_w, i32_w]
        rfl
       refine pure_ (i := 17) (N := some 32) (v := undef) (a' := ?_) #[true, true, true, true, true, true, true, true, true, true, true, true, true, true, true, true, true, true, false, false, false, false, false] rfl rfl (any_of HT_.out (by kernel_rfl)) (fun _ _ _ h => h) (Or.inr ⟨by rfl, rfl⟩) ?_ ?_
       rotate_left
       ·simp only [Act.put, List.setIfInBounds_toArray, List.set_cons_zero, List.set_cons_succ, i64_w, i32_w]
        rfl
       refine pure_ (i := 18) (N := some 33) (v := undef) (a' := ?_) #[true, true, true, true, true, true, true, true, true, true, true, true, true, true, true, true, true, true, true, false, false, false, false] rfl rfl (any_of HT_.out (by kernel_rfl)) (fun _ _ _ h => h) (Or.inr ⟨by rfl, rfl⟩) ?_ ?_
       rotate_left
       ·simp only [Act.put, List.setIfInBounds_toArray, List.set_cons_zero, List.set_cons_succ, i64_w, i32_w]
        rfl
       refine pure_ (i := 19) (N := some 34) (v := undef) (a' := ?_) #[true, true, true, true, true, true, true, true, true, true, true, true, true, true, true, true, true, true, true, true, false, false, false] rfl rfl (any_of HT_.out (by kernel_rfl)) (fun _ _ _ h => h) (Or.inr ⟨by rfl, rfl⟩) ?_ ?_
       rotate_left
       ·simp only [Act.put, List.setIfInBounds_toArray, List.set_cons_zero, List.set_cons_succ, i64_w, i32_w]
        rfl
       refine pure_ (i := 20) (N := some 35) (v := undef) (a' := ?_) #[true, true, true, true, true, true, true, true, true, true, true, true, true, true, true, true, true, true, true, true, true, false, false] rfl rfl (any_of HT_.out (by kernel_rfl)) (fun _ _ _ h => h) (Or.inr ⟨by rfl, rfl⟩) ?_ ?_
       rotate_left
       ·simp only [Act.put, List.setIfInBounds_toArray, List.set_cons_zero, List.set_cons_succ, i64_w, i32_w]
        rfl
       refine pure_ (i := 21) (N := some 36) (v := undef) (a' := ?_) #[true, true, true, true, true, true, true, true, true, true, true, true, true, true, true, true, true, true, true, true, true, true, false] rfl rfl (any_of HT_.out (by kernel_rfl)) (fun _ _ _ h => h) (Or.inr ⟨by rfl, rfl⟩) ?_ ?_
       rotate_left
       ·simp only [Act.put, List.setIfInBounds_toArray, List.set_cons_zero, List.set_cons_succ, i64_w, i32_w]
        rfl
       refine pure_ (i := 22) (N := some 37) (v := ?_) (a' := ?_) #[true, true, true, true, true, true, true, true, true, true, true, true, true, true, true, true, true, true, true, true, true, true, true] rfl rfl (any_of HT_.out (by kernel_rfl)) (fun _ _ _ h => h) (Or.inl ⟨by rfl, ?_⟩) ?_ ?_
       rotate_left
       ·intro w'
        go_simp
        with_reducible rfl
       rotate_left
       ·simp only [Act.put, List.setIfInBounds_toArray, List.set_cons_zero, List.set_cons_succ, i64_w, i32_w]
        rfl
       refine done_ (done_of HT_.out (by kernel_rfl)) ?_
       try go_wp2
       go_ret
       exact ⟨ze, zb HB.out⟩
     ·rw [if_neg c7] at H
      exact absurd H (by simp)
    ·rw [if_neg c6] at H
     have c6b0 : decide (x5_1 < (l1.length : Int)) = false := decide_eq_false c6
     clear c6
     obtain rfl := Option.some.inj H
     go_wp2
     go_ret
     exact ⟨ze, zb HB.out⟩

end Go.Proofs.Ytilnfdnigjblcaa.M
end

section
-- Written by this session's program (wip/tools/gprint.py over the kit's print) out of the translation; Lean checks it.
namespace Go.Proofs.Ytilnfdnigjblcaa.M
open Go.RowKit Go.Proofs.YtilnfdnigjblcaaW.PrintWords Go.Proofs.YtilnfdnigjblcaaW.PrintLast Go.Proofs.YtilnfdnigjblcaaW.PrintMore
attribute [local go_sem] max2_int min2_int max_two min_two max_three min_three max_four min_four   -- for this text's walks alone
set_option linter.unusedVariables false
set_option linter.unusedSimpArgs false
set_option maxRecDepth 100000

/-! ### spec_KnowOk: function 19 -/
def spec_KnowOk.f (k : Nat) (l0_0 : List (S67)) (l1 : List Int) : Option (Bool) := (spec_PoolOk.f k l0_0).bind fun t449 => (if t449 = true then ((spec_l6Know.f k l0_0 l1).bind fun t450 => (some t450)) else (some false))
theorem spec_KnowOk.mono : ∀ a0 a1 k, LeO (spec_KnowOk.f k a0 a1) (spec_KnowOk.f (k + 1) a0 a1) := by
 intro a0 a1 k
 unfold spec_KnowOk.f
 repeat' first
   | (with_reducible exact spec_PoolOk.mono _ _)
   | (with_reducible exact spec_l6Know.mono _ _ _)
   | (with_reducible exact LeO.refl _)
   | (with_reducible exact LeO.none _)
   | (with_reducible refine LeO.ite ?_ ?_)
   | (with_reducible refine LeO.bind ?_ (fun _ => ?_))
   | exact spec_PoolOk.mono _ _
   | exact spec_l6Know.mono _ _ _
   | exact LeO.none _
   | refine LeO.ite ?_ ?_
   | refine LeO.bind ?_ (fun _ => ?_)
set_option maxHeartbeats 8000000 in
set_option maxRecDepth 100000 in
theorem spec_KnowOk.calls (k : Nat) (A0_0 : Option Addr) (c0_0 : Nat) (l0_0 : List (S67)) (A1 : Option Addr) (c1 : Nat) (l1 : List Int) (r : Bool) (w : World) (hr0_0 : Kd.C k67 w A0_0 l0_0.length l0_0) (hc0_0 : l0_0.length ≤ c0_0) (hr1 : Kd.C (Kd.int .i64) w A1 l1.length l1) (hc1 : l1.length ≤ c1) (h : spec_KnowOk.f k l0_0 l1 = some r) :
  Calls Try.prog 19 #[.agg #[.slice A0_0 l0_0.length c0_0], .slice A1 l1.length c1] w fun e w' => e = .returned (.bool r) ∧ Below w.heap.size w w' := by
 have hu31 := Try.underlying31
 have HR0_0 := Aside0.mk hr0_0
 have HC0_0 := Aside0.mk hc0_0
 clear hr0_0 hc0_0
 have HR1 := Aside0.mk hr1
 have HC1 := Aside0.mk hc1
 clear hr1 hc1
 have HB := Aside0.mk (Below.refl w.heap.size w)
 have H : ((spec_PoolOk.f k l0_0).bind fun t449 => (if t449 = true then ((spec_l6Know.f k l0_0 l1).bind fun t450 => (some t450)) else (some false))) = some r := h
 clear h
 replace H := Option.bind_eq_some_iff.mp H
 obtain ⟨t449, A30, H⟩ := H
 replace H : (if t449 = true then ((spec_l6Know.f k l0_0 l1).bind fun t450 => (some t450)) else (some false)) = some r := H
 have A3 := Aside0.mk A30
 clear A30
 by_cases c4 : t449 = true
 ·subst c4
  have H1 : ((spec_l6Know.f k l0_0 l1).bind fun t450 => (some t450)) = some r := by rw [if_pos rfl] at H; exact H
  clear H
  have H := H1
  clear H1
  replace H := Option.bind_eq_some_iff.mp H
  obtain ⟨t450, A50, H⟩ := H
  replace H : (some t450) = some r := H
  have A5 := Aside0.mk A50
  clear A50
  obtain rfl := Option.some.inj H
  go_enter Try.func19, Try.ntmps19
  go_wp2_with (first | ((with_reducible refine gate_dst (N := 2) rfl ?_); refine box_event ?hg (N := 2) ?hd (cs := #[.slice A0_0 l0_0.length c0_0]) (t := 31) ?hr ?_; (case hd => rfl); (case hg => rfl); (case hr => first | (go_simp; done) | (go_simp; rfl)); intro gb448 hg w6 hbox hb; have n0_ := Aside0.mk (below_step (zb HB.out) hb); have n1_ := Aside0.mk (hbox); have n2_ := Aside0.mk ((by rw [hg]; exact (below_size (zb HB.out)) : w.heap.size ≤ gb448)); have n3_ := Aside0.mk ((by rw [hg]; exact (below_size (zb HB.out)) : w.heap.size ≤ gb448)); clear HB; have HB := n0_; have BK448 := n1_; have GW448 := n2_; have GE448 := n3_; clear n0_ n1_ n2_ n3_; clear hb hbox hg; have hcz7_0 : w6.cell? ⟨gb448, 0, none⟩ = some (.slice A0_0 l0_0.length c0_0) := (blk_cell BK448.out 0).trans rfl; have hfz7_0 := blk_frozen BK448.out 0) | ((with_reducible refine gate_callee (f := 45) rfl ?_); refine goesL_ (some 6) rfl rfl Try.func45 (by kernel_rfl) rfl #[.agg #[.slice A0_0 l0_0.length c0_0]] rfl zl ?_; (with_reducible refine (spec_PoolOk.calls k _ _ l0_0 true _ ?side1 ?side2 A3.out).mono ?_); (case side1 => exact zc (Kd.C_below HR0_0.out HB.out)); (case side2 => exact HC0_0.out); rintro e w8 ⟨rfl, hb⟩; refine ⟨_, rfl, ?_⟩; have n0_ := Aside0.mk (blk_below (zh BK448.out) hb); have n1_ := Aside0.mk (below_step (zb HB.out) hb); clear BK448; clear HB; have BK448 := n0_; have HB := n1_; clear n0_ n1_; (try clear hb); (try clear hb2); (try clear hk); (try clear hi); have hcz9_0 : w8.cell? ⟨gb448, 0, none⟩ = some (.slice A0_0 l0_0.length c0_0) := (blk_cell BK448.out 0).trans rfl; have hfz9_0 := blk_frozen BK448.out 0) | (go_at_call 46; (with_reducible refine (spec_l6Know.calls k _ _ l0_0 _ _ l1 t450 _ ?side1 ?side2 ?side3 ?side4 A5.out).mono ?_); (case side1 => exact zc (Kd.C_below HR0_0.out HB.out)); (case side2 => exact HC0_0.out); (case side3 => exact zc (Kd.C_below HR1.out HB.out)); (case side4 => exact HC1.out); rintro e w10 ⟨rfl, hb⟩; have n0_ := Aside0.mk (blk_below (zh BK448.out) hb); have n1_ := Aside0.mk (below_step (zb HB.out) hb); clear BK448; clear HB; have BK448 := n0_; have HB := n1_; clear n0_ n1_; (try clear hb); (try clear hb2); (try clear hk); (try clear hi)))
  go_ret
  exact ⟨ze, zb HB.out⟩
 ·replace c4 := Bool.eq_false_iff.mpr c4
  subst c4
  have H1 : (some false) = some r := by rw [if_neg (show ¬ (false = true) by decide)] at H; exact H
  clear H
  have H := H1
  clear H1
  obtain rfl := Option.some.inj H
  go_enter Try.func19, Try.ntmps19
  go_wp2_with (first | ((with_reducible refine gate_dst (N := 2) rfl ?_); refine box_event ?hg (N := 2) ?hd (cs := #[.slice A0_0 l0_0.length c0_0]) (t := 31) ?hr ?_; (case hd => rfl); (case hg => rfl); (case hr => first | (go_simp; done) | (go_simp; rfl)); intro gb448 hg w11 hbox hb; have n0_ := Aside0.mk (below_step (zb HB.out) hb); have n1_ := Aside0.mk (hbox); have n2_ := Aside0.mk ((by rw [hg]; exact (below_size (zb HB.out)) : w.heap.size ≤ gb448)); have n3_ := Aside0.mk ((by rw [hg]; exact (below_size (zb HB.out)) : w.heap.size ≤ gb448)); clear HB; have HB := n0_; have BK448 := n1_; have GW448 := n2_; have GE448 := n3_; clear n0_ n1_ n2_ n3_; clear hb hbox hg; have hcz12_0 : w11.cell? ⟨gb448, 0, none⟩ = some (.slice A0_0 l0_0.length c0_0) := (blk_cell BK448.out 0).trans rfl; have hfz12_0 := blk_frozen BK448.out 0) | ((with_reducible refine gate_callee (f := 45) rfl ?_); refine goesL_ (some 6) rfl rfl Try.func45 (by kernel_rfl) rfl #[.agg #[.slice A0_0 l0_0.length c0_0]] rfl zl ?_; (with_reducible refine (spec_PoolOk.calls k _ _ l0_0 false _ ?side1 ?side2 A3.out).mono ?_); (case side1 => exact zc (Kd.C_below HR0_0.out HB.out)); (case side2 => exact HC0_0.out); rintro e w13 ⟨rfl, hb⟩; refine ⟨_, rfl, ?_⟩; have n0_ := Aside0.mk (blk_below (zh BK448.out) hb); have n1_ := Aside0.mk (below_step (zb HB.out) hb); clear BK448; clear HB; have BK448 := n0_; have HB := n1_; clear n0_ n1_; (try clear hb); (try clear hb2); (try clear hk); (try clear hi)))
  go_ret
  exact ⟨ze, zb HB.out⟩

/-! ### spec_IsPublic: function 93 -/
def spec_IsPublic.f (a0 : Int) : Option (Bool) := (spec_l1In.f a0 0 49).bind fun t451 => (some t451)
set_option maxHeartbeats 8000000 in
set_option maxRecDepth 100000 in
theorem spec_IsPublic.calls (a0 : Int) (r : Bool) (w : World) (h : spec_IsPublic.f a0 = some r) :
  Calls Try.prog 93 #[.int .i64 a0] w fun e w' => e = .returned (.bool r) ∧ Drawn0 w w' := by
 have H : ((spec_l1In.f a0 0 49).bind fun t451 => (some t451)) = some r := h
 clear h
 replace H := Option.bind_eq_some_iff.mp H
 obtain ⟨t451, A20, H⟩ := H
 replace H : (some t451) = some r := H
 have A2 := Aside0.mk A20
 clear A20
 obtain rfl := Option.some.inj H
 go_enter Try.func93, Try.ntmps93
 go_wp2_with (first | ((with_reducible refine gate_callee (f := 54) rfl ?_); refine goesL_ (some 4) rfl rfl Try.func54 (by kernel_rfl) rfl #[.int .i64 a0, .int .i64 0, .int .i64 49] rfl zl ?_; (with_reducible refine (spec_l1In.calls a0 0 49 t451 _ A2.out).mono ?_); rintro e w' ⟨rfl, ⟨nd, rfl⟩⟩; refine ⟨_, rfl, ?_⟩))
 go_ret
 exact ⟨by first | rfl | (simp; done) | (simp [*]; done), by repeat (first | exact Drawn0.refl _ | apply Drawn0.step)⟩

/-! ### spec_l7Power: function 94 -/
def spec_l7Power.f (k : Nat) (l0_0 : List (S67)) (l1 : List Bool) (l2 : List Int) (a3 : Int) : Option (Bool) := (spec_l1Find.f k l0_0 7 a3 0).bind fun t453 => (if t453 ≥ 0 then (if 0 ≤ a3 then (if a3 < (l1.length : Int) then (if rdOf false l1 a3 = true then (some true) else ((spec_KnowHas.f k l2 t453).bind fun t455 => (some t455))) else (none)) else (none)) else (some false))
theorem spec_l7Power.mono : ∀ a0 a1 a2 a3 k, LeO (spec_l7Power.f k a0 a1 a2 a3) (spec_l7Power.f (k + 1) a0 a1 a2 a3) := by
 intro a0 a1 a2 a3 k
 unfold spec_l7Power.f
 repeat' first
   | (with_reducible exact spec_KnowHas.mono _ _ _)
   | (with_reducible exact spec_l1Find.mono _ _ _ _ _)
   | (with_reducible exact LeO.refl _)
   | (with_reducible exact LeO.none _)
   | (with_reducible refine LeO.ite ?_ ?_)
   | (with_reducible refine LeO.bind ?_ (fun _ => ?_))
   | exact spec_KnowHas.mono _ _ _
   | exact spec_l1Find.mono _ _ _ _ _
   | exact LeO.none _
   | refine LeO.ite ?_ ?_
   | refine LeO.bind ?_ (fun _ => ?_)
set_option maxHeartbeats 8000000 in
set_option maxRecDepth 100000 in
theorem spec_l7Power.calls (k : Nat) (A0_0 : Option Addr) (c0_0 : Nat) (l0_0 : List (S67)) (A1 : Option Addr) (c1 : Nat) (l1 : List Bool) (A2 : Option Addr) (c2 : Nat) (l2 : List Int) (a3 : Int) (r : Bool) (w : World) (hr0_0 : Kd.C k67 w A0_0 l0_0.length l0_0) (hc0_0 : l0_0.length ≤ c0_0) (hr1 : Kd.C Kd.bool w A1 l1.length l1) (hc1 : l1.length ≤ c1) (hr2 : Kd.C (Kd.int .i64) w A2 l2.length l2) (hc2 : l2.length ≤ c2) (h : spec_l7Power.f k l0_0 l1 l2 a3 = some r) :
  Calls Try.prog 94 #[.agg #[.slice A0_0 l0_0.length c0_0], .slice A1 l1.length c1, .slice A2 l2.length c2, .int .i64 a3] w fun e w' => e = .returned (.bool r) ∧ Below w.heap.size w w' := by
 have hu31 := Try.underlying31
 have hu67 := Try.underlying67
 have HR0_0 := Aside0.mk hr0_0
 have HC0_0 := Aside0.mk hc0_0
 clear hr0_0 hc0_0
 have HR1 := Aside0.mk hr1
 have HC1 := Aside0.mk hc1
 clear hr1 hc1
 have HR2 := Aside0.mk hr2
 have HC2 := Aside0.mk hc2
 clear hr2 hc2
 have HB := Aside0.mk (Below.refl w.heap.size w)
 have H : ((spec_l1Find.f k l0_0 7 a3 0).bind fun t453 => (if t453 ≥ 0 then (if 0 ≤ a3 then (if a3 < (l1.length : Int) then (if rdOf false l1 a3 = true then (some true) else ((spec_KnowHas.f k l2 t453).bind fun t455 => (some t455))) else (none)) else (none)) else (some false))) = some r := h
 clear h
 replace H := Option.bind_eq_some_iff.mp H
 obtain ⟨t453, A50, H⟩ := H
 replace H : (if t453 ≥ 0 then (if 0 ≤ a3 then (if a3 < (l1.length : Int) then (if rdOf false l1 a3 = true then (some true) else ((spec_KnowHas.f k l2 t453).bind fun t455 => (some t455))) else (none)) else (none)) else (some false)) = some r := H
 have A5 := Aside0.mk A50
 clear A50
 by_cases c6 : t453 ≥ 0
 ·rw [if_pos c6] at H
  have c6b0 : decide (0 ≤ t453) = true := decide_eq_true c6
  clear c6
  by_cases c7 : 0 ≤ a3
  ·rw [if_pos c7] at H
   have c7b0 : decide (0 ≤ a3) = true := decide_eq_true c7
   clear c7
   by_cases c8 : a3 < (l1.length : Int)
   ·rw [if_pos c8] at H
    have c8b0 : decide (a3 < (l1.length : Int)) = true := decide_eq_true c8
    clear c8
    obtain ⟨bq9, hbq9⟩ : ∃ b_ : Bool, b_ = (rdOf false l1 a3) := ⟨_, rfl⟩
    replace H : (if bq9 = true then (some true) else ((spec_KnowHas.f k l2 t453).bind fun t455 => (some t455))) = some r := by rw [← hbq9] at H; exact H
    have Nbq9 := Aside0.mk hbq9
    clear hbq9
    by_cases c10 : bq9 = true
    ·subst c10
     have H1 : (some true) = some r := by rw [if_pos rfl] at H; exact H
     clear H
     have H := H1
     clear H1
     obtain rfl := Option.some.inj H
     go_enter Try.func94, Try.ntmps94
     go_wp2_with (first | ((with_reducible refine gate_dst (N := 4) rfl ?_); refine box_event ?hg (N := 4) ?hd (cs := #[.slice A0_0 l0_0.length c0_0]) (t := 31) ?hr ?_; (case hd => rfl); (case hg => rfl); (case hr => first | (go_simp; done) | (go_simp; rfl)); intro gb452 hg w11 hbox hb; have n0_ := Aside0.mk (below_step (zb HB.out) hb); have n1_ := Aside0.mk (hbox); have n2_ := Aside0.mk ((by rw [hg]; exact (below_size (zb HB.out)) : w.heap.size ≤ gb452)); have n3_ := Aside0.mk ((by rw [hg]; exact (below_size (zb HB.out)) : w.heap.size ≤ gb452)); clear HB; have HB := n0_; have BK452 := n1_; have GW452 := n2_; have GE452 := n3_; clear n0_ n1_ n2_ n3_; clear hb hbox hg; have hcz12_0 : w11.cell? ⟨gb452, 0, none⟩ = some (.slice A0_0 l0_0.length c0_0) := (blk_cell BK452.out 0).trans rfl; have hfz12_0 := blk_frozen BK452.out 0) | ((with_reducible refine gate_callee (f := 65) rfl ?_); refine goesL_ (some 13) rfl rfl Try.func65 (by kernel_rfl) rfl #[.agg #[.slice A0_0 l0_0.length c0_0], .agg #[.int .i64 7, .int .i64 a3, .int .i64 0]] rfl zl ?_; (with_reducible refine (spec_l1Find.calls k _ _ l0_0 7 a3 0 t453 _ ?side1 ?side2 A5.out).mono ?_); (case side1 => exact zc (Kd.C_below HR0_0.out HB.out)); (case side2 => exact HC0_0.out); rintro e w13 ⟨rfl, hb⟩; refine ⟨_, rfl, ?_⟩; have n0_ := Aside0.mk (blk_below (zh BK452.out) hb); have n1_ := Aside0.mk (below_step (zb HB.out) hb); clear BK452; clear HB; have BK452 := n0_; have HB := n1_; clear n0_ n1_; (try clear hb); (try clear hb2); (try clear hk); (try clear hi); have p454 : 0 ≤ (a3 : Int) := of_decide_eq_true (by first | (with_reducible assumption) | assumption); have q454 : a3 < (l1.length : Int) := of_decide_eq_true (by first | (with_reducible assumption) | assumption); obtain ⟨ad454, e454, hx454_0⟩ := Kd.at_bool HR1.out a3 p454 q454; (try rw [← Nbq9.out] at hx454_0); cases e454; replace hx454_0 := (HB.out.cell (World.block_lt_of_cell? w _ hx454_0)).trans hx454_0; replace p454 := eq_true p454; replace q454 := eq_true q454))
     go_ret
     exact ⟨ze, zb HB.out⟩
    ·replace c10 := Bool.eq_false_iff.mpr c10
     subst c10
     have H1 : ((spec_KnowHas.f k l2 t453).bind fun t455 => (some t455)) = some r := by rw [if_neg (show ¬ (false = true) by decide)] at H; exact H
     clear H
     have H := H1
     clear H1
     replace H := Option.bind_eq_some_iff.mp H
     obtain ⟨t455, A140, H⟩ := H
     replace H : (some t455) = some r := H
     have A14 := Aside0.mk A140
     clear A140
     obtain rfl := Option.some.inj H
     go_enter Try.func94, Try.ntmps94
     go_wp2_with (first | ((with_reducible refine gate_dst (N := 4) rfl ?_); refine box_event ?hg (N := 4) ?hd (cs := #[.slice A0_0 l0_0.length c0_0]) (t := 31) ?hr ?_; (case hd => rfl); (case hg => rfl); (case hr => first | (go_simp; done) | (go_simp; rfl)); intro gb452 hg w15 hbox hb; have n0_ := Aside0.mk (below_step (zb HB.out) hb); have n1_ := Aside0.mk (hbox); have n2_ := Aside0.mk ((by rw [hg]; exact (below_size (zb HB.out)) : w.heap.size ≤ gb452)); have n3_ := Aside0.mk ((by rw [hg]; exact (below_size (zb HB.out)) : w.heap.size ≤ gb452)); clear HB; have HB := n0_; have BK452 := n1_; have GW452 := n2_; have GE452 := n3_; clear n0_ n1_ n2_ n3_; clear hb hbox hg; have hcz16_0 : w15.cell? ⟨gb452, 0, none⟩ = some (.slice A0_0 l0_0.length c0_0) := (blk_cell BK452.out 0).trans rfl; have hfz16_0 := blk_frozen BK452.out 0) | ((with_reducible refine gate_callee (f := 65) rfl ?_); refine goesL_ (some 13) rfl rfl Try.func65 (by kernel_rfl) rfl #[.agg #[.slice A0_0 l0_0.length c0_0], .agg #[.int .i64 7, .int .i64 a3, .int .i64 0]] rfl zl ?_; (with_reducible refine (spec_l1Find.calls k _ _ l0_0 7 a3 0 t453 _ ?side1 ?side2 A5.out).mono ?_); (case side1 => exact zc (Kd.C_below HR0_0.out HB.out)); (case side2 => exact HC0_0.out); rintro e w17 ⟨rfl, hb⟩; refine ⟨_, rfl, ?_⟩; have n0_ := Aside0.mk (blk_below (zh BK452.out) hb); have n1_ := Aside0.mk (below_step (zb HB.out) hb); clear BK452; clear HB; have BK452 := n0_; have HB := n1_; clear n0_ n1_; (try clear hb); (try clear hb2); (try clear hk); (try clear hi); have p454 : 0 ≤ (a3 : Int) := of_decide_eq_true (by first | (with_reducible assumption) | assumption); have q454 : a3 < (l1.length : Int) := of_decide_eq_true (by first | (with_reducible assumption) | assumption); obtain ⟨ad454, e454, hx454_0⟩ := Kd.at_bool HR1.out a3 p454 q454; (try rw [← Nbq9.out] at hx454_0); cases e454; replace hx454_0 := (HB.out.cell (World.block_lt_of_cell? w _ hx454_0)).trans hx454_0; replace p454 := eq_true p454; replace q454 := eq_true q454) | (go_at_call 53; (with_reducible refine (spec_KnowHas.calls k _ _ l2 t453 t455 _ ?side1 ?side2 A14.out).mono ?_); (case side1 => exact zc (Kd.C_below HR2.out HB.out)); (case side2 => exact HC2.out); rintro e w' ⟨rfl, ⟨nd, rfl⟩⟩))
     go_ret
     exact ⟨ze, zb HB.out⟩
   ·rw [if_neg c8] at H
    exact absurd H (by simp)
  ·rw [if_neg c7] at H
   exact absurd H (by simp)
 ·rw [if_neg c6] at H
  have c6b0 : decide (0 ≤ t453) = false := decide_eq_false c6
  clear c6
  obtain rfl := Option.some.inj H
  go_enter Try.func94, Try.ntmps94
  go_wp2_with (first | ((with_reducible refine gate_dst (N := 4) rfl ?_); refine box_event ?hg (N := 4) ?hd (cs := #[.slice A0_0 l0_0.length c0_0]) (t := 31) ?hr ?_; (case hd => rfl); (case hg => rfl); (case hr => first | (go_simp; done) | (go_simp; rfl)); intro gb452 hg w18 hbox hb; have n0_ := Aside0.mk (below_step (zb HB.out) hb); have n1_ := Aside0.mk (hbox); have n2_ := Aside0.mk ((by rw [hg]; exact (below_size (zb HB.out)) : w.heap.size ≤ gb452)); have n3_ := Aside0.mk ((by rw [hg]; exact (below_size (zb HB.out)) : w.heap.size ≤ gb452)); clear HB; have HB := n0_; have BK452 := n1_; have GW452 := n2_; have GE452 := n3_; clear n0_ n1_ n2_ n3_; clear hb hbox hg; have hcz19_0 : w18.cell? ⟨gb452, 0, none⟩ = some (.slice A0_0 l0_0.length c0_0) := (blk_cell BK452.out 0).trans rfl; have hfz19_0 := blk_frozen BK452.out 0) | ((with_reducible refine gate_callee (f := 65) rfl ?_); refine goesL_ (some 13) rfl rfl Try.func65 (by kernel_rfl) rfl #[.agg #[.slice A0_0 l0_0.length c0_0], .agg #[.int .i64 7, .int .i64 a3, .int .i64 0]] rfl zl ?_; (with_reducible refine (spec_l1Find.calls k _ _ l0_0 7 a3 0 t453 _ ?side1 ?side2 A5.out).mono ?_); (case side1 => exact zc (Kd.C_below HR0_0.out HB.out)); (case side2 => exact HC0_0.out); rintro e w20 ⟨rfl, hb⟩; refine ⟨_, rfl, ?_⟩; have n0_ := Aside0.mk (blk_below (zh BK452.out) hb); have n1_ := Aside0.mk (below_step (zb HB.out) hb); clear BK452; clear HB; have BK452 := n0_; have HB := n1_; clear n0_ n1_; (try clear hb); (try clear hb2); (try clear hk); (try clear hi)))
  go_ret
  exact ⟨ze, zb HB.out⟩

end Go.Proofs.Ytilnfdnigjblcaa.M
end

section
-- Written by this session's program (wip/tools/gprint.py over the kit's print) out of the translation; Lean checks it.
namespace Go.Proofs.Ytilnfdnigjblcaa.M
open Go.RowKit Go.Proofs.YtilnfdnigjblcaaW.PrintWords Go.Proofs.YtilnfdnigjblcaaW.PrintLast Go.Proofs.YtilnfdnigjblcaaW.PrintMore
attribute [local go_sem] max2_int min2_int max_two min_two max_three min_three max_four min_four   -- for this text's walks alone
set_option linter.unusedVariables false
set_option linter.unusedSimpArgs false
set_option maxRecDepth 100000

/-! ### spec_l7Made: function 73 -/
def spec_l7Made.j0 : Nat → List Bool → List Int → Bool → List (S67) → Int → Int → Int → Option (Bool)
 | 0, _, _, _, _, _, _, _ => none
 | k + 1, x1, x3, x32, x457000, x459000, x459001, x459002 => if x32 = true then (some true) else (if x459000 = 8 then (if 0 ≤ x459001 then (if x459001 < (x1.length : Int) then (if rdOf false x1 x459001 = true then ((spec_l7Power.f k x457000 x1 x3 x459002).bind fun t465 => (if t465 = true then (some true) else (if 0 ≤ x459002 then (if x459002 < (x1.length : Int) then (if rdOf false x1 x459002 = true then ((spec_l7Power.f k x457000 x1 x3 x459001).bind fun t467 => (some t467)) else (some false)) else (none)) else (none)))) else (if 0 ≤ x459002 then (if x459002 < (x1.length : Int) then (if rdOf false x1 x459002 = true then ((spec_l7Power.f k x457000 x1 x3 x459001).bind fun t469 => (some t469)) else (some false)) else (none)) else (none))) else (none)) else (none)) else (some false))
def spec_l7Made.f (k : Nat) (l0_0 : List (S67)) (l1 : List Bool) (a2 : Int) (l3 : List Int) : Option (Bool) := if 0 ≤ a2 then (if a2 < (l0_0.length : Int) then (if ((rd_T67 l0_0 a2).f0) = 1 then ((spec_IsPublic.f ((rd_T67 l0_0 a2).f1)).bind fun t459 => (some t459)) else ((spec_l1Parts.f k ((rd_T67 l0_0 a2).f0)).bind fun t460 => (if t460 = 1 then (if 0 ≤ ((rd_T67 l0_0 a2).f1) then (if ((rd_T67 l0_0 a2).f1) < (l1.length : Int) then (some (rdOf false l1 ((rd_T67 l0_0 a2).f1))) else (none)) else (none)) else (if 0 ≤ ((rd_T67 l0_0 a2).f1) then (if ((rd_T67 l0_0 a2).f1) < (l1.length : Int) then (if rdOf false l1 ((rd_T67 l0_0 a2).f1) = true then (if 0 ≤ ((rd_T67 l0_0 a2).f2) then (if ((rd_T67 l0_0 a2).f2) < (l1.length : Int) then (spec_l7Made.j0 k l1 l3 (rdOf false l1 ((rd_T67 l0_0 a2).f2)) l0_0 ((rd_T67 l0_0 a2).f0) ((rd_T67 l0_0 a2).f1) ((rd_T67 l0_0 a2).f2)) else (none)) else (none)) else (spec_l7Made.j0 k l1 l3 false l0_0 ((rd_T67 l0_0 a2).f0) ((rd_T67 l0_0 a2).f1) ((rd_T67 l0_0 a2).f2))) else (none)) else (none))))) else (none)) else (none)
theorem spec_l7Made.mono_l : ∀ k, (∀ y0 y1 y2 y3 y4 y5 y6, LeO (spec_l7Made.j0 k y0 y1 y2 y3 y4 y5 y6) (spec_l7Made.j0 (k + 1) y0 y1 y2 y3 y4 y5 y6))
 | 0 => fun _ _ _ _ _ _ _ r h => by simp [spec_l7Made.j0] at h
 | k + 1 => by
  have ih0 := spec_l7Made.mono_l k
  ·intro y0 y1 y2 y3 y4 y5 y6
   unfold spec_l7Made.j0
   repeat' first
   | (with_reducible exact ih0 _ _ _ _ _ _ _)
   | (with_reducible exact spec_l1Parts.mono _ _)
   | (with_reducible exact spec_l7Power.mono _ _ _ _ _)
   | (with_reducible exact LeO.refl _)
   | (with_reducible exact LeO.none _)
   | (with_reducible refine LeO.ite ?_ ?_)
   | (with_reducible refine LeO.bind ?_ (fun _ => ?_))
   | exact ih0 _ _ _ _ _ _ _
   | exact spec_l1Parts.mono _ _
   | exact spec_l7Power.mono _ _ _ _ _
   | exact LeO.none _
   | refine LeO.ite ?_ ?_
   | refine LeO.bind ?_ (fun _ => ?_)
theorem spec_l7Made.mono : ∀ a0 a1 a2 a3 k, LeO (spec_l7Made.f k a0 a1 a2 a3) (spec_l7Made.f (k + 1) a0 a1 a2 a3) := by
 intro a0 a1 a2 a3 k
 have ih0 := spec_l7Made.mono_l k
 unfold spec_l7Made.f
 repeat' first
   | (with_reducible exact ih0 _ _ _ _ _ _ _)
   | (with_reducible exact spec_l1Parts.mono _ _)
   | (with_reducible exact spec_l7Power.mono _ _ _ _ _)
   | (with_reducible exact LeO.refl _)
   | (with_reducible exact LeO.none _)
   | (with_reducible refine LeO.ite ?_ ?_)
   | (with_reducible refine LeO.bind ?_ (fun _ => ?_))
   | exact ih0 _ _ _ _ _ _ _
   | exact spec_l1Parts.mono _ _
   | exact spec_l7Power.mono _ _ _ _ _
   | exact LeO.none _
   | refine LeO.ite ?_ ?_
   | refine LeO.bind ?_ (fun _ => ?_)
set_option maxHeartbeats 8000000 in
set_option maxRecDepth 100000 in
theorem spec_l7Made.calls (k : Nat) (A0_0 : Option Addr) (c0_0 : Nat) (l0_0 : List (S67)) (A1 : Option Addr) (c1 : Nat) (l1 : List Bool) (a2 : Int) (A3 : Option Addr) (c3 : Nat) (l3 : List Int) (r : Bool) (w : World) (hr0_0 : Kd.C k67 w A0_0 l0_0.length l0_0) (hc0_0 : l0_0.length ≤ c0_0) (hr1 : Kd.C Kd.bool w A1 l1.length l1) (hc1 : l1.length ≤ c1) (hr3 : Kd.C (Kd.int .i64) w A3 l3.length l3) (hc3 : l3.length ≤ c3) (h : spec_l7Made.f k l0_0 l1 a2 l3 = some r) :
  Calls Try.prog 73 #[.agg #[.slice A0_0 l0_0.length c0_0], .slice A1 l1.length c1, .int .i64 a2, .slice A3 l3.length c3] w fun e w' => e = .returned (.bool r) ∧ Below w.heap.size w w' := by
 have hu31 := Try.underlying31
 have hu67 := Try.underlying67
 have HR0_0 := Aside0.mk hr0_0
 have HC0_0 := Aside0.mk hc0_0
 clear hr0_0 hc0_0
 have HR1 := Aside0.mk hr1
 have HC1 := Aside0.mk hc1
 clear hr1 hc1
 have HR3 := Aside0.mk hr3
 have HC3 := Aside0.mk hc3
 clear hr3 hc3
 have HB := Aside0.mk (Below.refl w.heap.size w)
 have H : (if 0 ≤ a2 then (if a2 < (l0_0.length : Int) then (if ((rd_T67 l0_0 a2).f0) = 1 then ((spec_IsPublic.f ((rd_T67 l0_0 a2).f1)).bind fun t459 => (some t459)) else ((spec_l1Parts.f k ((rd_T67 l0_0 a2).f0)).bind fun t460 => (if t460 = 1 then (if 0 ≤ ((rd_T67 l0_0 a2).f1) then (if ((rd_T67 l0_0 a2).f1) < (l1.length : Int) then (some (rdOf false l1 ((rd_T67 l0_0 a2).f1))) else (none)) else (none)) else (if 0 ≤ ((rd_T67 l0_0 a2).f1) then (if ((rd_T67 l0_0 a2).f1) < (l1.length : Int) then (if rdOf false l1 ((rd_T67 l0_0 a2).f1) = true then (if 0 ≤ ((rd_T67 l0_0 a2).f2) then (if ((rd_T67 l0_0 a2).f2) < (l1.length : Int) then (spec_l7Made.j0 k l1 l3 (rdOf false l1 ((rd_T67 l0_0 a2).f2)) l0_0 ((rd_T67 l0_0 a2).f0) ((rd_T67 l0_0 a2).f1) ((rd_T67 l0_0 a2).f2)) else (none)) else (none)) else (spec_l7Made.j0 k l1 l3 false l0_0 ((rd_T67 l0_0 a2).f0) ((rd_T67 l0_0 a2).f1) ((rd_T67 l0_0 a2).f2))) else (none)) else (none))))) else (none)) else (none)) = some r := h
 clear h
 by_cases c5 : 0 ≤ a2
 ·rw [if_pos c5] at H
  have c5b0 : decide (0 ≤ a2) = true := decide_eq_true c5
  clear c5
  by_cases c6 : a2 < (l0_0.length : Int)
  ·rw [if_pos c6] at H
   have c6b0 : decide (a2 < (l0_0.length : Int)) = true := decide_eq_true c6
   clear c6
   by_cases c7 : ((rd_T67 l0_0 a2).f0) = 1
   ·rw [if_pos c7] at H
    have c7b0 : (((rd_T67 l0_0 a2).f0) == 1) = true := beq_iff_eq.mpr c7
    have c7b1 : (((rd_T67 l0_0 a2).f0) != 1) = false := bne_eq_false_iff_eq.mpr c7
    clear c7
    replace H := Option.bind_eq_some_iff.mp H
    obtain ⟨t459, A80, H⟩ := H
    replace H : (some t459) = some r := H
    have A8 := Aside0.mk A80
    clear A80
    obtain rfl := Option.some.inj H
    go_enter Try.func73, Try.ntmps73
    go_wp2_with (first | ((with_reducible refine gate_dst (N := 4) rfl ?_); refine box_event ?hg (N := 4) ?hd (cs := #[.slice A0_0 l0_0.length c0_0]) (t := 31) ?hr ?_; (case hd => rfl); (case hg => rfl); (case hr => first | (go_simp; done) | (go_simp; rfl)); intro gb456 hg w9 hbox hb; have n0_ := Aside0.mk (below_step (zb HB.out) hb); have n1_ := Aside0.mk (hbox); have n2_ := Aside0.mk ((by rw [hg]; exact (below_size (zb HB.out)) : w.heap.size ≤ gb456)); have n3_ := Aside0.mk ((by rw [hg]; exact (below_size (zb HB.out)) : w.heap.size ≤ gb456)); clear HB; have HB := n0_; have BK456 := n1_; have GW456 := n2_; have GE456 := n3_; clear n0_ n1_ n2_ n3_; clear hb hbox hg; have hcz10_0 : w9.cell? ⟨gb456, 0, none⟩ = some (.slice A0_0 l0_0.length c0_0) := (blk_cell BK456.out 0).trans rfl; have hfz10_0 := blk_frozen BK456.out 0; have p457 : 0 ≤ (a2 : Int) := of_decide_eq_true (by first | (with_reducible assumption) | assumption); have q457 : a2 < (l0_0.length : Int) := of_decide_eq_true (by first | (with_reducible assumption) | assumption); obtain ⟨ad457, e457, hx457_0, hx457_1, hx457_2⟩ := at_T67 HR0_0.out a2 p457 q457; cases e457; replace hx457_0 := (HB.out.cell (World.block_lt_of_cell? w _ hx457_0)).trans hx457_0; replace hx457_1 := (HB.out.cell (World.block_lt_of_cell? w _ hx457_1)).trans hx457_1; replace hx457_2 := (HB.out.cell (World.block_lt_of_cell? w _ hx457_2)).trans hx457_2; replace p457 := eq_true p457; replace q457 := eq_true q457) | ((with_reducible refine gate_dst (N := 9) rfl ?_); refine box_event ?hg (N := 9) ?hd (cs := #[.int .i64 0, .int .i64 0, .int .i64 0]) (t := 67) ?hr ?_; (case hd => rfl); (case hg => rfl); (case hr => first | (go_simp; done) | (go_simp; rfl)); intro gb458 hg w11 hbox hb; have n0_ := Aside0.mk (blk_below (zh BK456.out) hb); have n1_ := Aside0.mk (below_step (zb HB.out) hb); have n2_ := Aside0.mk (hbox); have n3_ := Aside0.mk ((by rw [hg]; exact (below_size (zb HB.out)) : w.heap.size ≤ gb458)); have n4_ := Aside0.mk ((by rw [hg]; exact (below_size (zb HB.out)) : w.heap.size ≤ gb458)); have n5_ := Aside0.mk ((by rw [hg]; exact Nat.ne_of_lt (blk_lt (zh BK456.out)) : gb456 ≠ gb458)); have n6_ := Aside0.mk ((by rw [hg]; exact Nat.ne_of_gt (blk_lt (zh BK456.out)) : gb458 ≠ gb456)); clear BK456; clear HB; have BK456 := n0_; have HB := n1_; have BK458 := n2_; have GW458 := n3_; have GE458 := n4_; have NB456_458 := n5_; have NB458_456 := n6_; clear n0_ n1_ n2_ n3_ n4_ n5_ n6_; clear hb hbox hg; have hnb12 := NB458_456.out; have hnc12 := NB456_458.out; have hcz13_0 : w11.cell? ⟨gb458, 0, none⟩ = some (.int .i64 0) := (blk_cell BK458.out 0).trans rfl; have hcz13_1 : w11.cell? ⟨gb458, 1, none⟩ = some (.int .i64 0) := (blk_cell BK458.out 1).trans rfl; have hcz13_2 : w11.cell? ⟨gb458, 2, none⟩ = some (.int .i64 0) := (blk_cell BK458.out 2).trans rfl; have hfz13_0 := blk_frozen BK458.out 0; have hfz13_1 := blk_frozen BK458.out 1; have hfz13_2 := blk_frozen BK458.out 2) | ((with_reducible refine gate_callee (f := 93) rfl ?_); refine goesL_ (some 21) rfl rfl Try.func93 (by kernel_rfl) rfl #[.int .i64 ((rd_T67 l0_0 a2).f1)] rfl zl ?_; (with_reducible refine (spec_IsPublic.calls ((rd_T67 l0_0 a2).f1) t459 _ A8.out).mono ?_); rintro e w' ⟨rfl, ⟨nd, rfl⟩⟩; refine ⟨_, rfl, ?_⟩))
    go_ret
    exact ⟨ze, zb HB.out⟩
   ·rw [if_neg c7] at H
    have c7b0 : (((rd_T67 l0_0 a2).f0) == 1) = false := beq_eq_false_iff_ne.mpr c7
    have c7b1 : (((rd_T67 l0_0 a2).f0) != 1) = true := bne_iff_ne.mpr c7
    replace H := Option.bind_eq_some_iff.mp H
    obtain ⟨t460, A140, H⟩ := H
    replace H : (if t460 = 1 then (if 0 ≤ ((rd_T67 l0_0 a2).f1) then (if ((rd_T67 l0_0 a2).f1) < (l1.length : Int) then (some (rdOf false l1 ((rd_T67 l0_0 a2).f1))) else (none)) else (none)) else (if 0 ≤ ((rd_T67 l0_0 a2).f1) then (if ((rd_T67 l0_0 a2).f1) < (l1.length : Int) then (if rdOf false l1 ((rd_T67 l0_0 a2).f1) = true then (if 0 ≤ ((rd_T67 l0_0 a2).f2) then (if ((rd_T67 l0_0 a2).f2) < (l1.length : Int) then (spec_l7Made.j0 k l1 l3 (rdOf false l1 ((rd_T67 l0_0 a2).f2)) l0_0 ((rd_T67 l0_0 a2).f0) ((rd_T67 l0_0 a2).f1) ((rd_T67 l0_0 a2).f2)) else (none)) else (none)) else (spec_l7Made.j0 k l1 l3 false l0_0 ((rd_T67 l0_0 a2).f0) ((rd_T67 l0_0 a2).f1) ((rd_T67 l0_0 a2).f2))) else (none)) else (none))) = some r := H
    have A14 := Aside0.mk A140
    clear A140
    by_cases c15 : t460 = 1
    ·rw [if_pos c15] at H
     have c15b0 : (t460 == 1) = true := beq_iff_eq.mpr c15
     have c15b1 : (t460 != 1) = false := bne_eq_false_iff_eq.mpr c15
     clear c15
     by_cases c16 : 0 ≤ ((rd_T67 l0_0 a2).f1)
     ·rw [if_pos c16] at H
      have c16b0 : decide (0 ≤ ((rd_T67 l0_0 a2).f1)) = true := decide_eq_true c16
      clear c16
      by_cases c17 : ((rd_T67 l0_0 a2).f1) < (l1.length : Int)
      ·rw [if_pos c17] at H
       have c17b0 : decide (((rd_T67 l0_0 a2).f1) < (l1.length : Int)) = true := decide_eq_true c17
       clear c17
       obtain rfl := Option.some.inj H
       go_enter Try.func73, Try.ntmps73
       go_wp2_with (first | ((with_reducible refine gate_dst (N := 4) rfl ?_); refine box_event ?hg (N := 4) ?hd (cs := #[.slice A0_0 l0_0.length c0_0]) (t := 31) ?hr ?_; (case hd => rfl); (case hg => rfl); (case hr => first | (go_simp; done) | (go_simp; rfl)); intro gb456 hg w18 hbox hb; have n0_ := Aside0.mk (below_step (zb HB.out) hb); have n1_ := Aside0.mk (hbox); have n2_ := Aside0.mk ((by rw [hg]; exact (below_size (zb HB.out)) : w.heap.size ≤ gb456)); have n3_ := Aside0.mk ((by rw [hg]; exact (below_size (zb HB.out)) : w.heap.size ≤ gb456)); clear HB; have HB := n0_; have BK456 := n1_; have GW456 := n2_; have GE456 := n3_; clear n0_ n1_ n2_ n3_; clear hb hbox hg; have hcz19_0 : w18.cell? ⟨gb456, 0, none⟩ = some (.slice A0_0 l0_0.length c0_0) := (blk_cell BK456.out 0).trans rfl; have hfz19_0 := blk_frozen BK456.out 0; have p457 : 0 ≤ (a2 : Int) := of_decide_eq_true (by first | (with_reducible assumption) | assumption); have q457 : a2 < (l0_0.length : Int) := of_decide_eq_true (by first | (with_reducible assumption) | assumption); obtain ⟨ad457, e457, hx457_0, hx457_1, hx457_2⟩ := at_T67 HR0_0.out a2 p457 q457; cases e457; replace hx457_0 := (HB.out.cell (World.block_lt_of_cell? w _ hx457_0)).trans hx457_0; replace hx457_1 := (HB.out.cell (World.block_lt_of_cell? w _ hx457_1)).trans hx457_1; replace hx457_2 := (HB.out.cell (World.block_lt_of_cell? w _ hx457_2)).trans hx457_2; replace p457 := eq_true p457; replace q457 := eq_true q457) | ((with_reducible refine gate_dst (N := 9) rfl ?_); refine box_event ?hg (N := 9) ?hd (cs := #[.int .i64 0, .int .i64 0, .int .i64 0]) (t := 67) ?hr ?_; (case hd => rfl); (case hg => rfl); (case hr => first | (go_simp; done) | (go_simp; rfl)); intro gb458 hg w20 hbox hb; have n0_ := Aside0.mk (blk_below (zh BK456.out) hb); have n1_ := Aside0.mk (below_step (zb HB.out) hb); have n2_ := Aside0.mk (hbox); have n3_ := Aside0.mk ((by rw [hg]; exact (below_size (zb HB.out)) : w.heap.size ≤ gb458)); have n4_ := Aside0.mk ((by rw [hg]; exact (below_size (zb HB.out)) : w.heap.size ≤ gb458)); have n5_ := Aside0.mk ((by rw [hg]; exact Nat.ne_of_lt (blk_lt (zh BK456.out)) : gb456 ≠ gb458)); have n6_ := Aside0.mk ((by rw [hg]; exact Nat.ne_of_gt (blk_lt (zh BK456.out)) : gb458 ≠ gb456)); clear BK456; clear HB; have BK456 := n0_; have HB := n1_; have BK458 := n2_; have GW458 := n3_; have GE458 := n4_; have NB456_458 := n5_; have NB458_456 := n6_; clear n0_ n1_ n2_ n3_ n4_ n5_ n6_; clear hb hbox hg; have hnb21 := NB458_456.out; have hnc21 := NB456_458.out; have hcz22_0 : w20.cell? ⟨gb458, 0, none⟩ = some (.int .i64 0) := (blk_cell BK458.out 0).trans rfl; have hcz22_1 : w20.cell? ⟨gb458, 1, none⟩ = some (.int .i64 0) := (blk_cell BK458.out 1).trans rfl; have hcz22_2 : w20.cell? ⟨gb458, 2, none⟩ = some (.int .i64 0) := (blk_cell BK458.out 2).trans rfl; have hfz22_0 := blk_frozen BK458.out 0; have hfz22_1 := blk_frozen BK458.out 1; have hfz22_2 := blk_frozen BK458.out 2) | ((with_reducible refine gate_callee (f := 86) rfl ?_); refine goesL_ (some 25) rfl rfl Try.func86 (by kernel_rfl) rfl #[.int .i64 ((rd_T67 l0_0 a2).f0)] rfl zl ?_; (with_reducible refine (spec_l1Parts.calls k ((rd_T67 l0_0 a2).f0) t460 _ A14.out).mono ?_); rintro e w' ⟨rfl, ⟨nd, rfl⟩⟩; refine ⟨_, rfl, ?_⟩; have p461 : 0 ≤ (((rd_T67 l0_0 a2).f1) : Int) := of_decide_eq_true (by first | (with_reducible assumption) | assumption); have q461 : ((rd_T67 l0_0 a2).f1) < (l1.length : Int) := of_decide_eq_true (by first | (with_reducible assumption) | assumption); obtain ⟨ad461, e461, hx461_0⟩ := Kd.at_bool HR1.out ((rd_T67 l0_0 a2).f1) p461 q461; cases e461; have hn461_0 : ad461.block ≠ gb458 := Nat.ne_of_lt (Nat.lt_of_lt_of_le (by have := World.block_lt_of_cell? _ _ hx461_0; first | rwa [add_block] at this | exact this) GW458.out); have hn461_1 : ad461.block ≠ gb458 := Nat.ne_of_lt (Nat.lt_of_lt_of_le (by have := World.block_lt_of_cell? _ _ hx461_0; first | rwa [add_block] at this | exact this) GW458.out); have hn461_2 : ad461.block ≠ gb458 := Nat.ne_of_lt (Nat.lt_of_lt_of_le (by have := World.block_lt_of_cell? _ _ hx461_0; first | rwa [add_block] at this | exact this) GW458.out); replace hx461_0 := (HB.out.cell (World.block_lt_of_cell? w _ hx461_0)).trans hx461_0; replace hx461_0 := (cell_far (p := ⟨gb458, 0, none⟩) (by first | (rw [add_block]; exact hn461_0) | (show (Addr.add _ _).block ≠ _; rw [add_block]; exact hn461_0) | exact hn461_0) (.int .i64 ((rd_T67 l0_0 a2).f0))).trans hx461_0; replace hx461_0 := (cell_far (p := ⟨gb458, 1, none⟩) (by first | (rw [add_block]; exact hn461_1) | (show (Addr.add _ _).block ≠ _; rw [add_block]; exact hn461_1) | exact hn461_1) (.int .i64 ((rd_T67 l0_0 a2).f1))).trans hx461_0; replace hx461_0 := (cell_far (p := ⟨gb458, 2, none⟩) (by first | (rw [add_block]; exact hn461_2) | (show (Addr.add _ _).block ≠ _; rw [add_block]; exact hn461_2) | exact hn461_2) (.int .i64 ((rd_T67 l0_0 a2).f2))).trans hx461_0; clear hn461_0; clear hn461_1; clear hn461_2; replace p461 := eq_true p461; replace q461 := eq_true q461))
       go_ret
       exact ⟨ze, zb HB.out⟩
      ·rw [if_neg c17] at H
       exact absurd H (by simp)
     ·rw [if_neg c16] at H
      exact absurd H (by simp)
    ·rw [if_neg c15] at H
     have c15b0 : (t460 == 1) = false := beq_eq_false_iff_ne.mpr c15
     have c15b1 : (t460 != 1) = true := bne_iff_ne.mpr c15
     have HC23 := Aside0.mk H
     clear H
     go_enter Try.func73, Try.ntmps73
     go_upto_region 6 with (first | ((with_reducible refine gate_dst (N := 4) rfl ?_); refine box_event ?hg (N := 4) ?hd (cs := #[.slice A0_0 l0_0.length c0_0]) (t := 31) ?hr ?_; (case hd => rfl); (case hg => rfl); (case hr => first | (go_simp; done) | (go_simp; rfl)); intro gb456 hg w24 hbox hb; have n0_ := Aside0.mk (below_step (zb HB.out) hb); have n1_ := Aside0.mk (hbox); have n2_ := Aside0.mk ((by rw [hg]; exact (below_size (zb HB.out)) : w.heap.size ≤ gb456)); have n3_ := Aside0.mk ((by rw [hg]; exact (below_size (zb HB.out)) : w.heap.size ≤ gb456)); clear HB; have HB := n0_; have BK456 := n1_; have GW456 := n2_; have GE456 := n3_; clear n0_ n1_ n2_ n3_; clear hb hbox hg; have hcz25_0 : w24.cell? ⟨gb456, 0, none⟩ = some (.slice A0_0 l0_0.length c0_0) := (blk_cell BK456.out 0).trans rfl; have hfz25_0 := blk_frozen BK456.out 0; have p457 : 0 ≤ (a2 : Int) := of_decide_eq_true (by first | (with_reducible assumption) | assumption); have q457 : a2 < (l0_0.length : Int) := of_decide_eq_true (by first | (with_reducible assumption) | assumption); obtain ⟨ad457, e457, hx457_0, hx457_1, hx457_2⟩ := at_T67 HR0_0.out a2 p457 q457; cases e457; replace hx457_0 := (HB.out.cell (World.block_lt_of_cell? w _ hx457_0)).trans hx457_0; replace hx457_1 := (HB.out.cell (World.block_lt_of_cell? w _ hx457_1)).trans hx457_1; replace hx457_2 := (HB.out.cell (World.block_lt_of_cell? w _ hx457_2)).trans hx457_2; replace p457 := eq_true p457; replace q457 := eq_true q457) | ((with_reducible refine gate_dst (N := 9) rfl ?_); refine box_event ?hg (N := 9) ?hd (cs := #[.int .i64 0, .int .i64 0, .int .i64 0]) (t := 67) ?hr ?_; (case hd => rfl); (case hg => rfl); (case hr => first | (go_simp; done) | (go_simp; rfl)); intro gb458 hg w26 hbox hb; have n0_ := Aside0.mk (blk_below (zh BK456.out) hb); have n1_ := Aside0.mk (below_step (zb HB.out) hb); have n2_ := Aside0.mk (hbox); have n3_ := Aside0.mk ((by rw [hg]; exact (below_size (zb HB.out)) : w.heap.size ≤ gb458)); have n4_ := Aside0.mk ((by rw [hg]; exact (below_size (zb HB.out)) : w.heap.size ≤ gb458)); have n5_ := Aside0.mk ((by rw [hg]; exact Nat.ne_of_lt (blk_lt (zh BK456.out)) : gb456 ≠ gb458)); have n6_ := Aside0.mk ((by rw [hg]; exact Nat.ne_of_gt (blk_lt (zh BK456.out)) : gb458 ≠ gb456)); clear BK456; clear HB; have BK456 := n0_; have HB := n1_; have BK458 := n2_; have GW458 := n3_; have GE458 := n4_; have NB456_458 := n5_; have NB458_456 := n6_; clear n0_ n1_ n2_ n3_ n4_ n5_ n6_; clear hb hbox hg; have hnb27 := NB458_456.out; have hnc27 := NB456_458.out; have hcz28_0 : w26.cell? ⟨gb458, 0, none⟩ = some (.int .i64 0) := (blk_cell BK458.out 0).trans rfl; have hcz28_1 : w26.cell? ⟨gb458, 1, none⟩ = some (.int .i64 0) := (blk_cell BK458.out 1).trans rfl; have hcz28_2 : w26.cell? ⟨gb458, 2, none⟩ = some (.int .i64 0) := (blk_cell BK458.out 2).trans rfl; have hfz28_0 := blk_frozen BK458.out 0; have hfz28_1 := blk_frozen BK458.out 1; have hfz28_2 := blk_frozen BK458.out 2) | ((with_reducible refine gate_callee (f := 86) rfl ?_); refine goesL_ (some 25) rfl rfl Try.func86 (by kernel_rfl) rfl #[.int .i64 ((rd_T67 l0_0 a2).f0)] rfl zl ?_; (with_reducible refine (spec_l1Parts.calls k ((rd_T67 l0_0 a2).f0) t460 _ A14.out).mono ?_); rintro e w' ⟨rfl, ⟨nd, rfl⟩⟩; refine ⟨_, rfl, ?_⟩))
     (try simp only [Act.put, List.setIfInBounds_toArray, List.set_cons_zero, List.set_cons_succ])
     go_cut [32] (fun v32 wc => ∃ (kq : Nat) (x32_22 : Bool), v32 = .bool x32_22 ∧ Aside0 (spec_l7Made.j0 kq l1 l3 x32_22 l0_0 ((rd_T67 l0_0 a2).f0) ((rd_T67 l0_0 a2).f1) ((rd_T67 l0_0 a2).f2) = some r) ∧ Aside0 (kq ≤ k) ∧ Aside0 (wc.heap[gb456]? = some (.cells #[(.slice (some ad457) l0_0.length c0_0)] 31 (0, 0))) ∧ Aside0 (wc.heap[gb458]? = some (.cells #[.int .i64 ((rd_T67 l0_0 a2).f0), .int .i64 ((rd_T67 l0_0 a2).f1), .int .i64 ((rd_T67 l0_0 a2).f2)] 67 (0, 0))) ∧ Aside0 (Below w.heap.size w wc))
     case first =>
      have H := HC23.out
      clear HC23
      by_cases c29 : 0 ≤ ((rd_T67 l0_0 a2).f1)
      ·rw [if_pos c29] at H
       have c29b0 : decide (0 ≤ ((rd_T67 l0_0 a2).f1)) = true := decide_eq_true c29
       clear c29
       (first | rw [c29b0] | (simp only [i64_w, i32_w]; rw [c29b0]) | skip)
       by_cases c30 : ((rd_T67 l0_0 a2).f1) < (l1.length : Int)
       ·rw [if_pos c30] at H
        have c30b0 : decide (((rd_T67 l0_0 a2).f1) < (l1.length : Int)) = true := decide_eq_true c30
        clear c30
        obtain ⟨bq31, hbq31⟩ : ∃ b_ : Bool, b_ = (rdOf false l1 ((rd_T67 l0_0 a2).f1)) := ⟨_, rfl⟩
        replace H : (if bq31 = true then (if 0 ≤ ((rd_T67 l0_0 a2).f2) then (if ((rd_T67 l0_0 a2).f2) < (l1.length : Int) then (spec_l7Made.j0 k l1 l3 (rdOf false l1 ((rd_T67 l0_0 a2).f2)) l0_0 ((rd_T67 l0_0 a2).f0) ((rd_T67 l0_0 a2).f1) ((rd_T67 l0_0 a2).f2)) else (none)) else (none)) else (spec_l7Made.j0 k l1 l3 false l0_0 ((rd_T67 l0_0 a2).f0) ((rd_T67 l0_0 a2).f1) ((rd_T67 l0_0 a2).f2))) = some r := by rw [← hbq31] at H; exact H
        have Nbq31 := Aside0.mk hbq31
        clear hbq31
        by_cases c32 : bq31 = true
        ·subst c32
         have H1 : (if 0 ≤ ((rd_T67 l0_0 a2).f2) then (if ((rd_T67 l0_0 a2).f2) < (l1.length : Int) then (spec_l7Made.j0 k l1 l3 (rdOf false l1 ((rd_T67 l0_0 a2).f2)) l0_0 ((rd_T67 l0_0 a2).f0) ((rd_T67 l0_0 a2).f1) ((rd_T67 l0_0 a2).f2)) else (none)) else (none)) = some r := by rw [if_pos rfl] at H; exact H
         clear H
         have H := H1
         clear H1
         by_cases c33 : 0 ≤ ((rd_T67 l0_0 a2).f2)
         ·rw [if_pos c33] at H
          have c33b0 : decide (0 ≤ ((rd_T67 l0_0 a2).f2)) = true := decide_eq_true c33
          clear c33
          by_cases c34 : ((rd_T67 l0_0 a2).f2) < (l1.length : Int)
          ·rw [if_pos c34] at H
           have c34b0 : decide (((rd_T67 l0_0 a2).f2) < (l1.length : Int)) = true := decide_eq_true c34
           clear c34
           have H' := Aside0.mk H
           clear H
           have hnb35 := NB458_456.out
           have hnc35 := NB456_458.out
           have hcz36_0 : w26.cell? ⟨gb458, 0, none⟩ = some (.int .i64 0) := (blk_cell BK458.out 0).trans rfl
           have hcz36_1 : w26.cell? ⟨gb458, 1, none⟩ = some (.int .i64 0) := (blk_cell BK458.out 1).trans rfl
           have hcz36_2 : w26.cell? ⟨gb458, 2, none⟩ = some (.int .i64 0) := (blk_cell BK458.out 2).trans rfl
           have hfz36_0 := blk_frozen BK458.out 0
           have hfz36_1 := blk_frozen BK458.out 1
           have hfz36_2 := blk_frozen BK458.out 2
           have p462 : 0 ≤ (((rd_T67 l0_0 a2).f1) : Int) := of_decide_eq_true (by first | (with_reducible assumption) | assumption)
           have q462 : ((rd_T67 l0_0 a2).f1) < (l1.length : Int) := of_decide_eq_true (by first | (with_reducible assumption) | assumption)
           obtain ⟨ad462, e462, hx462_0⟩ := Kd.at_bool HR1.out ((rd_T67 l0_0 a2).f1) p462 q462
           (try rw [← Nbq31.out] at hx462_0)
           cases e462
           have hn462_0 : ad462.block ≠ gb458 := Nat.ne_of_lt (Nat.lt_of_lt_of_le (by have := World.block_lt_of_cell? _ _ hx462_0; first | rwa [add_block] at this | exact this) GW458.out)
           have hn462_1 : ad462.block ≠ gb458 := Nat.ne_of_lt (Nat.lt_of_lt_of_le (by have := World.block_lt_of_cell? _ _ hx462_0; first | rwa [add_block] at this | exact this) GW458.out)
           have hn462_2 : ad462.block ≠ gb458 := Nat.ne_of_lt (Nat.lt_of_lt_of_le (by have := World.block_lt_of_cell? _ _ hx462_0; first | rwa [add_block] at this | exact this) GW458.out)
           replace hx462_0 := (HB.out.cell (World.block_lt_of_cell? w _ hx462_0)).trans hx462_0
           replace hx462_0 := (cell_far (p := ⟨gb458, 0, none⟩) (by first | (rw [add_block]; exact hn462_0) | (show (Addr.add _ _).block ≠ _; rw [add_block]; exact hn462_0) | exact hn462_0) (.int .i64 ((rd_T67 l0_0 a2).f0))).trans hx462_0
           replace hx462_0 := (cell_far (p := ⟨gb458, 1, none⟩) (by first | (rw [add_block]; exact hn462_1) | (show (Addr.add _ _).block ≠ _; rw [add_block]; exact hn462_1) | exact hn462_1) (.int .i64 ((rd_T67 l0_0 a2).f1))).trans hx462_0
           replace hx462_0 := (cell_far (p := ⟨gb458, 2, none⟩) (by first | (rw [add_block]; exact hn462_2) | (show (Addr.add _ _).block ≠ _; rw [add_block]; exact hn462_2) | exact hn462_2) (.int .i64 ((rd_T67 l0_0 a2).f2))).trans hx462_0
           clear hn462_0
           clear hn462_1
           clear hn462_2
           replace p462 := eq_true p462
           replace q462 := eq_true q462
           have p463 : 0 ≤ (((rd_T67 l0_0 a2).f2) : Int) := of_decide_eq_true (by first | (with_reducible assumption) | assumption)
           have q463 : ((rd_T67 l0_0 a2).f2) < (l1.length : Int) := of_decide_eq_true (by first | (with_reducible assumption) | assumption)
           obtain ⟨ad463, e463, hx463_0⟩ := Kd.at_bool HR1.out ((rd_T67 l0_0 a2).f2) p463 q463
           (try rw [← Nbq31.out] at hx463_0)
           obtain rfl : ad462 = ad463 := (by injection e463)
           have hn463_0 : ad462.block ≠ gb458 := Nat.ne_of_lt (Nat.lt_of_lt_of_le (by have := World.block_lt_of_cell? _ _ hx463_0; first | rwa [add_block] at this | exact this) GW458.out)
           have hn463_1 : ad462.block ≠ gb458 := Nat.ne_of_lt (Nat.lt_of_lt_of_le (by have := World.block_lt_of_cell? _ _ hx463_0; first | rwa [add_block] at this | exact this) GW458.out)
           have hn463_2 : ad462.block ≠ gb458 := Nat.ne_of_lt (Nat.lt_of_lt_of_le (by have := World.block_lt_of_cell? _ _ hx463_0; first | rwa [add_block] at this | exact this) GW458.out)
           replace hx463_0 := (HB.out.cell (World.block_lt_of_cell? w _ hx463_0)).trans hx463_0
           replace hx463_0 := (cell_far (p := ⟨gb458, 0, none⟩) (by first | (rw [add_block]; exact hn463_0) | (show (Addr.add _ _).block ≠ _; rw [add_block]; exact hn463_0) | exact hn463_0) (.int .i64 ((rd_T67 l0_0 a2).f0))).trans hx463_0
           replace hx463_0 := (cell_far (p := ⟨gb458, 1, none⟩) (by first | (rw [add_block]; exact hn463_1) | (show (Addr.add _ _).block ≠ _; rw [add_block]; exact hn463_1) | exact hn463_1) (.int .i64 ((rd_T67 l0_0 a2).f1))).trans hx463_0
           replace hx463_0 := (cell_far (p := ⟨gb458, 2, none⟩) (by first | (rw [add_block]; exact hn463_2) | (show (Addr.add _ _).block ≠ _; rw [add_block]; exact hn463_2) | exact hn463_2) (.int .i64 ((rd_T67 l0_0 a2).f2))).trans hx463_0
           clear hn463_0
           clear hn463_1
           clear hn463_2
           replace p463 := eq_true p463
           replace q463 := eq_true q463
           go_wp2
           go_meet
           case rel => exact ⟨_, (rdOf false l1 ((rd_T67 l0_0 a2).f2)), (by first | rfl | (simp; done) | (simp [*]; done)), H', ⟨by first | omega | exact Nat.le_refl _⟩, ⟨zf BK456.out⟩, ⟨by (with_reducible repeat (first | refine blk_drewN ?_ _ | refine blk_drew ?_ | refine blk_alloc ?_ _)); refine blk_put (cs := #[.int .i64 ((rd_T67 l0_0 a2).f0), .int .i64 ((rd_T67 l0_0 a2).f1), .int .i64 0]) ?_ 2 _ rfl; (with_reducible repeat (first | refine blk_drewN ?_ _ | refine blk_drew ?_ | refine blk_alloc ?_ _)); refine blk_put (cs := #[.int .i64 ((rd_T67 l0_0 a2).f0), .int .i64 0, .int .i64 0]) ?_ 1 _ rfl; (with_reducible repeat (first | refine blk_drewN ?_ _ | refine blk_drew ?_ | refine blk_alloc ?_ _)); refine blk_put (cs := #[.int .i64 0, .int .i64 0, .int .i64 0]) ?_ 0 _ rfl; (with_reducible repeat (first | refine blk_drewN ?_ _ | refine blk_drew ?_ | refine blk_alloc ?_ _)); exact BK458.out⟩, ⟨zb HB.out⟩⟩
          ·rw [if_neg c34] at H
           exact absurd H (by simp)
         ·rw [if_neg c33] at H
          exact absurd H (by simp)
        ·replace c32 := Bool.eq_false_iff.mpr c32
         subst c32
         have H1 : (spec_l7Made.j0 k l1 l3 false l0_0 ((rd_T67 l0_0 a2).f0) ((rd_T67 l0_0 a2).f1) ((rd_T67 l0_0 a2).f2)) = some r := by rw [if_neg (show ¬ (false = true) by decide)] at H; exact H
         clear H
         have H := H1
         clear H1
         have H' := Aside0.mk H
         clear H
         have hnb37 := NB458_456.out
         have hnc37 := NB456_458.out
         have hcz38_0 : w26.cell? ⟨gb458, 0, none⟩ = some (.int .i64 0) := (blk_cell BK458.out 0).trans rfl
         have hcz38_1 : w26.cell? ⟨gb458, 1, none⟩ = some (.int .i64 0) := (blk_cell BK458.out 1).trans rfl
         have hcz38_2 : w26.cell? ⟨gb458, 2, none⟩ = some (.int .i64 0) := (blk_cell BK458.out 2).trans rfl
         have hfz38_0 := blk_frozen BK458.out 0
         have hfz38_1 := blk_frozen BK458.out 1
         have hfz38_2 := blk_frozen BK458.out 2
         have p462 : 0 ≤ (((rd_T67 l0_0 a2).f1) : Int) := of_decide_eq_true (by first | (with_reducible assumption) | assumption)
         have q462 : ((rd_T67 l0_0 a2).f1) < (l1.length : Int) := of_decide_eq_true (by first | (with_reducible assumption) | assumption)
         obtain ⟨ad462, e462, hx462_0⟩ := Kd.at_bool HR1.out ((rd_T67 l0_0 a2).f1) p462 q462
         (try rw [← Nbq31.out] at hx462_0)
         cases e462
         have hn462_0 : ad462.block ≠ gb458 := Nat.ne_of_lt (Nat.lt_of_lt_of_le (by have := World.block_lt_of_cell? _ _ hx462_0; first | rwa [add_block] at this | exact this) GW458.out)
         have hn462_1 : ad462.block ≠ gb458 := Nat.ne_of_lt (Nat.lt_of_lt_of_le (by have := World.block_lt_of_cell? _ _ hx462_0; first | rwa [add_block] at this | exact this) GW458.out)
         have hn462_2 : ad462.block ≠ gb458 := Nat.ne_of_lt (Nat.lt_of_lt_of_le (by have := World.block_lt_of_cell? _ _ hx462_0; first | rwa [add_block] at this | exact this) GW458.out)
         replace hx462_0 := (HB.out.cell (World.block_lt_of_cell? w _ hx462_0)).trans hx462_0
         replace hx462_0 := (cell_far (p := ⟨gb458, 0, none⟩) (by first | (rw [add_block]; exact hn462_0) | (show (Addr.add _ _).block ≠ _; rw [add_block]; exact hn462_0) | exact hn462_0) (.int .i64 ((rd_T67 l0_0 a2).f0))).trans hx462_0
         replace hx462_0 := (cell_far (p := ⟨gb458, 1, none⟩) (by first | (rw [add_block]; exact hn462_1) | (show (Addr.add _ _).block ≠ _; rw [add_block]; exact hn462_1) | exact hn462_1) (.int .i64 ((rd_T67 l0_0 a2).f1))).trans hx462_0
         replace hx462_0 := (cell_far (p := ⟨gb458, 2, none⟩) (by first | (rw [add_block]; exact hn462_2) | (show (Addr.add _ _).block ≠ _; rw [add_block]; exact hn462_2) | exact hn462_2) (.int .i64 ((rd_T67 l0_0 a2).f2))).trans hx462_0
         clear hn462_0
         clear hn462_1
         clear hn462_2
         replace p462 := eq_true p462
         replace q462 := eq_true q462
         go_wp2
         go_meet
         case rel => exact ⟨_, (false), (by first | rfl | (simp; done) | (simp [*]; done)), H', ⟨by first | omega | exact Nat.le_refl _⟩, ⟨zf BK456.out⟩, ⟨by (with_reducible repeat (first | refine blk_drewN ?_ _ | refine blk_drew ?_ | refine blk_alloc ?_ _)); refine blk_put (cs := #[.int .i64 ((rd_T67 l0_0 a2).f0), .int .i64 ((rd_T67 l0_0 a2).f1), .int .i64 0]) ?_ 2 _ rfl; (with_reducible repeat (first | refine blk_drewN ?_ _ | refine blk_drew ?_ | refine blk_alloc ?_ _)); refine blk_put (cs := #[.int .i64 ((rd_T67 l0_0 a2).f0), .int .i64 0, .int .i64 0]) ?_ 1 _ rfl; (with_reducible repeat (first | refine blk_drewN ?_ _ | refine blk_drew ?_ | refine blk_alloc ?_ _)); refine blk_put (cs := #[.int .i64 0, .int .i64 0, .int .i64 0]) ?_ 0 _ rfl; (with_reducible repeat (first | refine blk_drewN ?_ _ | refine blk_drew ?_ | refine blk_alloc ?_ _)); exact BK458.out⟩, ⟨zb HB.out⟩⟩
       ·rw [if_neg c30] at H
        exact absurd H (by simp)
      ·rw [if_neg c29] at H
       exact absurd H (by simp)
     case rest =>
      clear HC23
      try clear c1
      try clear c2
      try clear p2
      try clear c3
      try clear q3
      try clear p4
      try clear q4
      try clear hx4
      try clear c5
      try clear c5b0
      try clear c6
      try clear c6b0
      try clear c7
      try clear c7b0
      try clear c7b1
      try clear c8
      try clear c9
      try clear c12
      try clear c15
      try clear c15b0
      try clear c15b1
      try clear c16
      try clear c16b0
      try clear c17
      try clear c17b0
      try clear c21
      try clear c27
      try clear c29
      try clear c29b0
      try clear c30
      try clear c30b0
      try clear q31
      try clear c32
      try clear c33
      try clear c33b0
      try clear c34
      try clear c34b0
      try clear c35
      try clear c37
      try clear hcz10_0
      try clear hcz13_0
      try clear hcz13_1
      try clear hcz13_2
      try clear hcz19_0
      try clear hcz22_0
      try clear hcz22_1
      try clear hcz22_2
      try clear hcz25_0
      try clear hcz28_0
      try clear hcz28_1
      try clear hcz28_2
      try clear hcz36_0
      try clear hcz36_1
      try clear hcz36_2
      try clear hcz38_0
      try clear hcz38_1
      try clear hcz38_2
      try clear hfz10_0
      try clear hfz13_0
      try clear hfz13_1
      try clear hfz13_2
      try clear hfz19_0
      try clear hfz22_0
      try clear hfz22_1
      try clear hfz22_2
      try clear hfz25_0
      try clear hfz28_0
      try clear hfz28_1
      try clear hfz28_2
      try clear hfz36_0
      try clear hfz36_1
      try clear hfz36_2
      try clear hfz38_0
      try clear hfz38_1
      try clear hfz38_2
      try clear hx457_0
      try clear hx457_1
      try clear hx457_2
      try clear hx461_0
      try clear hx462_0
      try clear hx463_0
      try clear p457
      try clear p461
      try clear p462
      try clear p463
      try clear q457
      try clear q461
      try clear q462
      try clear q463
      obtain ⟨kq, x32_22, rfl, HA, HJ22, BK456, BK458, HB⟩ := hcut
      cases kq with
      | zero => exact absurd HA.out (by simp [spec_l7Made.j0])
      | succ kj22 =>
       have H := HA.out
       clear HA
       simp only [spec_l7Made.j0] at H
       by_cases c39 : x32_22 = true
       ·subst c39
        have H1 : (some true) = some r := by rw [if_pos rfl] at H; exact H
        clear H
        have H := H1
        clear H1
        obtain rfl := Option.some.inj H
        go_wp2
        go_ret
        exact ⟨ze, zb HB.out⟩
       ·replace c39 := Bool.eq_false_iff.mpr c39
        subst c39
        have H1 : (if ((rd_T67 l0_0 a2).f0) = 8 then (if 0 ≤ ((rd_T67 l0_0 a2).f1) then (if ((rd_T67 l0_0 a2).f1) < (l1.length : Int) then (if rdOf false l1 ((rd_T67 l0_0 a2).f1) = true then ((spec_l7Power.f kj22 l0_0 l1 l3 ((rd_T67 l0_0 a2).f2)).bind fun t465 => (if t465 = true then (some true) else (if 0 ≤ ((rd_T67 l0_0 a2).f2) then (if ((rd_T67 l0_0 a2).f2) < (l1.length : Int) then (if rdOf false l1 ((rd_T67 l0_0 a2).f2) = true then ((spec_l7Power.f kj22 l0_0 l1 l3 ((rd_T67 l0_0 a2).f1)).bind fun t467 => (some t467)) else (some false)) else (none)) else (none)))) else (if 0 ≤ ((rd_T67 l0_0 a2).f2) then (if ((rd_T67 l0_0 a2).f2) < (l1.length : Int) then (if rdOf false l1 ((rd_T67 l0_0 a2).f2) = true then ((spec_l7Power.f kj22 l0_0 l1 l3 ((rd_T67 l0_0 a2).f1)).bind fun t469 => (some t469)) else (some false)) else (none)) else (none))) else (none)) else (none)) else (some false)) = some r := by rw [if_neg (show ¬ (false = true) by decide)] at H; exact H
        clear H
        have H := H1
        clear H1
        by_cases c40 : ((rd_T67 l0_0 a2).f0) = 8
        ·rw [if_pos c40] at H
         have c40b0 : (((rd_T67 l0_0 a2).f0) == 8) = true := beq_iff_eq.mpr c40
         have c40b1 : (((rd_T67 l0_0 a2).f0) != 8) = false := bne_eq_false_iff_eq.mpr c40
         clear c40
         by_cases c41 : 0 ≤ ((rd_T67 l0_0 a2).f1)
         ·rw [if_pos c41] at H
          have c41b0 : decide (0 ≤ ((rd_T67 l0_0 a2).f1)) = true := decide_eq_true c41
          clear c41
          by_cases c42 : ((rd_T67 l0_0 a2).f1) < (l1.length : Int)
          ·rw [if_pos c42] at H
           have c42b0 : decide (((rd_T67 l0_0 a2).f1) < (l1.length : Int)) = true := decide_eq_true c42
           clear c42
           obtain ⟨bq43, hbq43⟩ : ∃ b_ : Bool, b_ = (rdOf false l1 ((rd_T67 l0_0 a2).f1)) := ⟨_, rfl⟩
           replace H : (if bq43 = true then ((spec_l7Power.f kj22 l0_0 l1 l3 ((rd_T67 l0_0 a2).f2)).bind fun t465 => (if t465 = true then (some true) else (if 0 ≤ ((rd_T67 l0_0 a2).f2) then (if ((rd_T67 l0_0 a2).f2) < (l1.length : Int) then (if rdOf false l1 ((rd_T67 l0_0 a2).f2) = true then ((spec_l7Power.f kj22 l0_0 l1 l3 ((rd_T67 l0_0 a2).f1)).bind fun t467 => (some t467)) else (some false)) else (none)) else (none)))) else (if 0 ≤ ((rd_T67 l0_0 a2).f2) then (if ((rd_T67 l0_0 a2).f2) < (l1.length : Int) then (if rdOf false l1 ((rd_T67 l0_0 a2).f2) = true then ((spec_l7Power.f kj22 l0_0 l1 l3 ((rd_T67 l0_0 a2).f1)).bind fun t469 => (some t469)) else (some false)) else (none)) else (none))) = some r := by rw [← hbq43] at H; exact H
           have Nbq43 := Aside0.mk hbq43
           clear hbq43
           by_cases c44 : bq43 = true
           ·subst c44
            have H1 : ((spec_l7Power.f kj22 l0_0 l1 l3 ((rd_T67 l0_0 a2).f2)).bind fun t465 => (if t465 = true then (some true) else (if 0 ≤ ((rd_T67 l0_0 a2).f2) then (if ((rd_T67 l0_0 a2).f2) < (l1.length : Int) then (if rdOf false l1 ((rd_T67 l0_0 a2).f2) = true then ((spec_l7Power.f kj22 l0_0 l1 l3 ((rd_T67 l0_0 a2).f1)).bind fun t467 => (some t467)) else (some false)) else (none)) else (none)))) = some r := by rw [if_pos rfl] at H; exact H
            clear H
            have H := H1
            clear H1
            replace H := Option.bind_eq_some_iff.mp H
            obtain ⟨t465, A450, H⟩ := H
            replace H : (if t465 = true then (some true) else (if 0 ≤ ((rd_T67 l0_0 a2).f2) then (if ((rd_T67 l0_0 a2).f2) < (l1.length : Int) then (if rdOf false l1 ((rd_T67 l0_0 a2).f2) = true then ((spec_l7Power.f kj22 l0_0 l1 l3 ((rd_T67 l0_0 a2).f1)).bind fun t467 => (some t467)) else (some false)) else (none)) else (none))) = some r := H
            have A45 := Aside0.mk A450
            clear A450
            by_cases c46 : t465 = true
            ·subst c46
             have H1 : (some true) = some r := by rw [if_pos rfl] at H; exact H
             clear H
             have H := H1
             clear H1
             obtain rfl := Option.some.inj H
             have hnb47 := NB458_456.out
             have hnc47 := NB456_458.out
             have hcz48_0 : wc.cell? ⟨gb458, 0, none⟩ = some (.int .i64 ((rd_T67 l0_0 a2).f0)) := (blk_cell BK458.out 0).trans rfl
             have hcz48_1 : wc.cell? ⟨gb458, 1, none⟩ = some (.int .i64 ((rd_T67 l0_0 a2).f1)) := (blk_cell BK458.out 1).trans rfl
             have hcz48_2 : wc.cell? ⟨gb458, 2, none⟩ = some (.int .i64 ((rd_T67 l0_0 a2).f2)) := (blk_cell BK458.out 2).trans rfl
             have hfz48_0 := blk_frozen BK458.out 0
             have hfz48_1 := blk_frozen BK458.out 1
             have hfz48_2 := blk_frozen BK458.out 2
             have p464 : 0 ≤ (((rd_T67 l0_0 a2).f1) : Int) := of_decide_eq_true (by first | (with_reducible assumption) | assumption)
             have q464 : ((rd_T67 l0_0 a2).f1) < (l1.length : Int) := of_decide_eq_true (by first | (with_reducible assumption) | assumption)
             obtain ⟨ad464, e464, hx464_0⟩ := Kd.at_bool HR1.out ((rd_T67 l0_0 a2).f1) p464 q464
             (try rw [← Nbq43.out] at hx464_0)
             cases e464
             replace hx464_0 := (HB.out.cell (World.block_lt_of_cell? w _ hx464_0)).trans hx464_0
             replace p464 := eq_true p464
             replace q464 := eq_true q464
             have hcz49_0 : wc.cell? ⟨gb456, 0, none⟩ = some (.slice (some ad457) l0_0.length c0_0) := (blk_cell BK456.out 0).trans rfl
             have hfz49_0 := blk_frozen BK456.out 0
             go_wp2_with (first | (go_at_call 94; (with_reducible refine (spec_l7Power.calls kj22 _ _ l0_0 _ _ l1 _ _ l3 ((rd_T67 l0_0 a2).f2) true _ ?side1 ?side2 ?side3 ?side4 ?side5 ?side6 A45.out).mono ?_); (case side1 => exact zc (Kd.C_below HR0_0.out HB.out)); (case side2 => exact HC0_0.out); (case side3 => exact zc (Kd.C_below HR1.out HB.out)); (case side4 => exact HC1.out); (case side5 => exact zc (Kd.C_below HR3.out HB.out)); (case side6 => exact HC3.out); rintro e w50 ⟨rfl, hb⟩; have n0_ := Aside0.mk (blk_below (zh BK456.out) hb); have n1_ := Aside0.mk (blk_below (zh BK458.out) hb); have n2_ := Aside0.mk (below_step (zb HB.out) hb); clear BK456; clear BK458; clear HB; have BK456 := n0_; have BK458 := n1_; have HB := n2_; clear n0_ n1_ n2_; (try clear hb); (try clear hb2); (try clear hk); (try clear hi)))
             go_ret
             exact ⟨ze, zb HB.out⟩
            ·replace c46 := Bool.eq_false_iff.mpr c46
             subst c46
             have H1 : (if 0 ≤ ((rd_T67 l0_0 a2).f2) then (if ((rd_T67 l0_0 a2).f2) < (l1.length : Int) then (if rdOf false l1 ((rd_T67 l0_0 a2).f2) = true then ((spec_l7Power.f kj22 l0_0 l1 l3 ((rd_T67 l0_0 a2).f1)).bind fun t467 => (some t467)) else (some false)) else (none)) else (none)) = some r := by rw [if_neg (show ¬ (false = true) by decide)] at H; exact H
             clear H
             have H := H1
             clear H1
             by_cases c51 : 0 ≤ ((rd_T67 l0_0 a2).f2)
             ·rw [if_pos c51] at H
              have c51b0 : decide (0 ≤ ((rd_T67 l0_0 a2).f2)) = true := decide_eq_true c51
              clear c51
              by_cases c52 : ((rd_T67 l0_0 a2).f2) < (l1.length : Int)
              ·rw [if_pos c52] at H
               have c52b0 : decide (((rd_T67 l0_0 a2).f2) < (l1.length : Int)) = true := decide_eq_true c52
               clear c52
               obtain ⟨bq53, hbq53⟩ : ∃ b_ : Bool, b_ = (rdOf false l1 ((rd_T67 l0_0 a2).f2)) := ⟨_, rfl⟩
               replace H : (if bq53 = true then ((spec_l7Power.f kj22 l0_0 l1 l3 ((rd_T67 l0_0 a2).f1)).bind fun t467 => (some t467)) else (some false)) = some r := by rw [← hbq53] at H; exact H
               have Nbq53 := Aside0.mk hbq53
               clear hbq53
               by_cases c54 : bq53 = true
               ·subst c54
                have H1 : ((spec_l7Power.f kj22 l0_0 l1 l3 ((rd_T67 l0_0 a2).f1)).bind fun t467 => (some t467)) = some r := by rw [if_pos rfl] at H; exact H
                clear H
                have H := H1
                clear H1
                replace H := Option.bind_eq_some_iff.mp H
                obtain ⟨t467, A550, H⟩ := H
                replace H : (some t467) = some r := H
                have A55 := Aside0.mk A550
                clear A550
                obtain rfl := Option.some.inj H
                have hnb56 := NB458_456.out
                have hnc56 := NB456_458.out
                have hcz57_0 : wc.cell? ⟨gb458, 0, none⟩ = some (.int .i64 ((rd_T67 l0_0 a2).f0)) := (blk_cell BK458.out 0).trans rfl
                have hcz57_1 : wc.cell? ⟨gb458, 1, none⟩ = some (.int .i64 ((rd_T67 l0_0 a2).f1)) := (blk_cell BK458.out 1).trans rfl
                have hcz57_2 : wc.cell? ⟨gb458, 2, none⟩ = some (.int .i64 ((rd_T67 l0_0 a2).f2)) := (blk_cell BK458.out 2).trans rfl
                have hfz57_0 := blk_frozen BK458.out 0
                have hfz57_1 := blk_frozen BK458.out 1
                have hfz57_2 := blk_frozen BK458.out 2
                have p464 : 0 ≤ (((rd_T67 l0_0 a2).f1) : Int) := of_decide_eq_true (by first | (with_reducible assumption) | assumption)
                have q464 : ((rd_T67 l0_0 a2).f1) < (l1.length : Int) := of_decide_eq_true (by first | (with_reducible assumption) | assumption)
                obtain ⟨ad464, e464, hx464_0⟩ := Kd.at_bool HR1.out ((rd_T67 l0_0 a2).f1) p464 q464
                (try rw [← Nbq43.out] at hx464_0)
                (try rw [← Nbq53.out] at hx464_0)
                cases e464
                replace hx464_0 := (HB.out.cell (World.block_lt_of_cell? w _ hx464_0)).trans hx464_0
                replace p464 := eq_true p464
                replace q464 := eq_true q464
                have hcz58_0 : wc.cell? ⟨gb456, 0, none⟩ = some (.slice (some ad457) l0_0.length c0_0) := (blk_cell BK456.out 0).trans rfl
                have hfz58_0 := blk_frozen BK456.out 0
                go_wp2_with (first | (go_at_call 94; (with_reducible refine (spec_l7Power.calls kj22 _ _ l0_0 _ _ l1 _ _ l3 ((rd_T67 l0_0 a2).f2) false _ ?side1 ?side2 ?side3 ?side4 ?side5 ?side6 A45.out).mono ?_); (case side1 => exact zc (Kd.C_below HR0_0.out HB.out)); (case side2 => exact HC0_0.out); (case side3 => exact zc (Kd.C_below HR1.out HB.out)); (case side4 => exact HC1.out); (case side5 => exact zc (Kd.C_below HR3.out HB.out)); (case side6 => exact HC3.out); rintro e w59 ⟨rfl, hb⟩; have n0_ := Aside0.mk (blk_below (zh BK456.out) hb); have n1_ := Aside0.mk (blk_below (zh BK458.out) hb); have n2_ := Aside0.mk (below_step (zb HB.out) hb); clear BK456; clear BK458; clear HB; have BK456 := n0_; have BK458 := n1_; have HB := n2_; clear n0_ n1_ n2_; (try clear hb); (try clear hb2); (try clear hk); (try clear hi); have hcz60_0 : w59.cell? ⟨gb458, 0, none⟩ = some (.int .i64 ((rd_T67 l0_0 a2).f0)) := (blk_cell BK458.out 0).trans rfl; have hcz60_1 : w59.cell? ⟨gb458, 1, none⟩ = some (.int .i64 ((rd_T67 l0_0 a2).f1)) := (blk_cell BK458.out 1).trans rfl; have hcz60_2 : w59.cell? ⟨gb458, 2, none⟩ = some (.int .i64 ((rd_T67 l0_0 a2).f2)) := (blk_cell BK458.out 2).trans rfl; have hfz60_0 := blk_frozen BK458.out 0; have hfz60_1 := blk_frozen BK458.out 1; have hfz60_2 := blk_frozen BK458.out 2; have p466 : 0 ≤ (((rd_T67 l0_0 a2).f2) : Int) := of_decide_eq_true (by first | (with_reducible assumption) | assumption); have q466 : ((rd_T67 l0_0 a2).f2) < (l1.length : Int) := of_decide_eq_true (by first | (with_reducible assumption) | assumption); obtain ⟨ad466, e466, hx466_0⟩ := Kd.at_bool HR1.out ((rd_T67 l0_0 a2).f2) p466 q466; (try rw [← Nbq43.out] at hx466_0); (try rw [← Nbq53.out] at hx466_0); obtain rfl : ad464 = ad466 := (by injection e466); replace hx466_0 := (HB.out.cell (World.block_lt_of_cell? w _ hx466_0)).trans hx466_0; replace p466 := eq_true p466; replace q466 := eq_true q466; have hcz61_0 : w59.cell? ⟨gb456, 0, none⟩ = some (.slice (some ad457) l0_0.length c0_0) := (blk_cell BK456.out 0).trans rfl; have hfz61_0 := blk_frozen BK456.out 0) | (go_at_call 94; (with_reducible refine (spec_l7Power.calls kj22 _ _ l0_0 _ _ l1 _ _ l3 ((rd_T67 l0_0 a2).f1) t467 _ ?side1 ?side2 ?side3 ?side4 ?side5 ?side6 A55.out).mono ?_); (case side1 => exact zc (Kd.C_below HR0_0.out HB.out)); (case side2 => exact HC0_0.out); (case side3 => exact zc (Kd.C_below HR1.out HB.out)); (case side4 => exact HC1.out); (case side5 => exact zc (Kd.C_below HR3.out HB.out)); (case side6 => exact HC3.out); rintro e w62 ⟨rfl, hb⟩; have n0_ := Aside0.mk (blk_below (zh BK456.out) hb); have n1_ := Aside0.mk (blk_below (zh BK458.out) hb); have n2_ := Aside0.mk (below_step (zb HB.out) hb); clear BK456; clear BK458; clear HB; have BK456 := n0_; have BK458 := n1_; have HB := n2_; clear n0_ n1_ n2_; (try clear hb); (try clear hb2); (try clear hk); (try clear hi)))
                go_ret
                exact ⟨ze, zb HB.out⟩
               ·replace c54 := Bool.eq_false_iff.mpr c54
                subst c54
                have H1 : (some false) = some r := by rw [if_neg (show ¬ (false = true) by decide)] at H; exact H
                clear H
                have H := H1
                clear H1
                obtain rfl := Option.some.inj H
                have hnb63 := NB458_456.out
                have hnc63 := NB456_458.out
                have hcz64_0 : wc.cell? ⟨gb458, 0, none⟩ = some (.int .i64 ((rd_T67 l0_0 a2).f0)) := (blk_cell BK458.out 0).trans rfl
                have hcz64_1 : wc.cell? ⟨gb458, 1, none⟩ = some (.int .i64 ((rd_T67 l0_0 a2).f1)) := (blk_cell BK458.out 1).trans rfl
                have hcz64_2 : wc.cell? ⟨gb458, 2, none⟩ = some (.int .i64 ((rd_T67 l0_0 a2).f2)) := (blk_cell BK458.out 2).trans rfl
                have hfz64_0 := blk_frozen BK458.out 0
                have hfz64_1 := blk_frozen BK458.out 1
                have hfz64_2 := blk_frozen BK458.out 2
                have p464 : 0 ≤ (((rd_T67 l0_0 a2).f1) : Int) := of_decide_eq_true (by first | (with_reducible assumption) | assumption)
                have q464 : ((rd_T67 l0_0 a2).f1) < (l1.length : Int) := of_decide_eq_true (by first | (with_reducible assumption) | assumption)
                obtain ⟨ad464, e464, hx464_0⟩ := Kd.at_bool HR1.out ((rd_T67 l0_0 a2).f1) p464 q464
                (try rw [← Nbq43.out] at hx464_0)
                (try rw [← Nbq53.out] at hx464_0)
                cases e464
                replace hx464_0 := (HB.out.cell (World.block_lt_of_cell? w _ hx464_0)).trans hx464_0
                replace p464 := eq_true p464
                replace q464 := eq_true q464
                have hcz65_0 : wc.cell? ⟨gb456, 0, none⟩ = some (.slice (some ad457) l0_0.length c0_0) := (blk_cell BK456.out 0).trans rfl
                have hfz65_0 := blk_frozen BK456.out 0
                go_wp2_with (first | (go_at_call 94; (with_reducible refine (spec_l7Power.calls kj22 _ _ l0_0 _ _ l1 _ _ l3 ((rd_T67 l0_0 a2).f2) false _ ?side1 ?side2 ?side3 ?side4 ?side5 ?side6 A45.out).mono ?_); (case side1 => exact zc (Kd.C_below HR0_0.out HB.out)); (case side2 => exact HC0_0.out); (case side3 => exact zc (Kd.C_below HR1.out HB.out)); (case side4 => exact HC1.out); (case side5 => exact zc (Kd.C_below HR3.out HB.out)); (case side6 => exact HC3.out); rintro e w66 ⟨rfl, hb⟩; have n0_ := Aside0.mk (blk_below (zh BK456.out) hb); have n1_ := Aside0.mk (blk_below (zh BK458.out) hb); have n2_ := Aside0.mk (below_step (zb HB.out) hb); clear BK456; clear BK458; clear HB; have BK456 := n0_; have BK458 := n1_; have HB := n2_; clear n0_ n1_ n2_; (try clear hb); (try clear hb2); (try clear hk); (try clear hi); have hcz67_0 : w66.cell? ⟨gb458, 0, none⟩ = some (.int .i64 ((rd_T67 l0_0 a2).f0)) := (blk_cell BK458.out 0).trans rfl; have hcz67_1 : w66.cell? ⟨gb458, 1, none⟩ = some (.int .i64 ((rd_T67 l0_0 a2).f1)) := (blk_cell BK458.out 1).trans rfl; have hcz67_2 : w66.cell? ⟨gb458, 2, none⟩ = some (.int .i64 ((rd_T67 l0_0 a2).f2)) := (blk_cell BK458.out 2).trans rfl; have hfz67_0 := blk_frozen BK458.out 0; have hfz67_1 := blk_frozen BK458.out 1; have hfz67_2 := blk_frozen BK458.out 2; have p466 : 0 ≤ (((rd_T67 l0_0 a2).f2) : Int) := of_decide_eq_true (by first | (with_reducible assumption) | assumption); have q466 : ((rd_T67 l0_0 a2).f2) < (l1.length : Int) := of_decide_eq_true (by first | (with_reducible assumption) | assumption); obtain ⟨ad466, e466, hx466_0⟩ := Kd.at_bool HR1.out ((rd_T67 l0_0 a2).f2) p466 q466; (try rw [← Nbq43.out] at hx466_0); (try rw [← Nbq53.out] at hx466_0); obtain rfl : ad464 = ad466 := (by injection e466); replace hx466_0 := (HB.out.cell (World.block_lt_of_cell? w _ hx466_0)).trans hx466_0; replace p466 := eq_true p466; replace q466 := eq_true q466))
                go_ret
                exact ⟨ze, zb HB.out⟩
              ·rw [if_neg c52] at H
               exact absurd H (by simp)
             ·rw [if_neg c51] at H
              exact absurd H (by simp)
           ·replace c44 := Bool.eq_false_iff.mpr c44
            subst c44
            have H1 : (if 0 ≤ ((rd_T67 l0_0 a2).f2) then (if ((rd_T67 l0_0 a2).f2) < (l1.length : Int) then (if rdOf false l1 ((rd_T67 l0_0 a2).f2) = true then ((spec_l7Power.f kj22 l0_0 l1 l3 ((rd_T67 l0_0 a2).f1)).bind fun t469 => (some t469)) else (some false)) else (none)) else (none)) = some r := by rw [if_neg (show ¬ (false = true) by decide)] at H; exact H
            clear H
            have H := H1
            clear H1
            by_cases c68 : 0 ≤ ((rd_T67 l0_0 a2).f2)
            ·rw [if_pos c68] at H
             have c68b0 : decide (0 ≤ ((rd_T67 l0_0 a2).f2)) = true := decide_eq_true c68
             clear c68
             by_cases c69 : ((rd_T67 l0_0 a2).f2) < (l1.length : Int)
             ·rw [if_pos c69] at H
              have c69b0 : decide (((rd_T67 l0_0 a2).f2) < (l1.length : Int)) = true := decide_eq_true c69
              clear c69
              obtain ⟨bq70, hbq70⟩ : ∃ b_ : Bool, b_ = (rdOf false l1 ((rd_T67 l0_0 a2).f2)) := ⟨_, rfl⟩
              replace H : (if bq70 = true then ((spec_l7Power.f kj22 l0_0 l1 l3 ((rd_T67 l0_0 a2).f1)).bind fun t469 => (some t469)) else (some false)) = some r := by rw [← hbq70] at H; exact H
              have Nbq70 := Aside0.mk hbq70
              clear hbq70
              by_cases c71 : bq70 = true
              ·subst c71
               have H1 : ((spec_l7Power.f kj22 l0_0 l1 l3 ((rd_T67 l0_0 a2).f1)).bind fun t469 => (some t469)) = some r := by rw [if_pos rfl] at H; exact H
               clear H
               have H := H1
               clear H1
               replace H := Option.bind_eq_some_iff.mp H
               obtain ⟨t469, A720, H⟩ := H
               replace H : (some t469) = some r := H
               have A72 := Aside0.mk A720
               clear A720
               obtain rfl := Option.some.inj H
               have hnb73 := NB458_456.out
               have hnc73 := NB456_458.out
               have hcz74_0 : wc.cell? ⟨gb458, 0, none⟩ = some (.int .i64 ((rd_T67 l0_0 a2).f0)) := (blk_cell BK458.out 0).trans rfl
               have hcz74_1 : wc.cell? ⟨gb458, 1, none⟩ = some (.int .i64 ((rd_T67 l0_0 a2).f1)) := (blk_cell BK458.out 1).trans rfl
               have hcz74_2 : wc.cell? ⟨gb458, 2, none⟩ = some (.int .i64 ((rd_T67 l0_0 a2).f2)) := (blk_cell BK458.out 2).trans rfl
               have hfz74_0 := blk_frozen BK458.out 0
               have hfz74_1 := blk_frozen BK458.out 1
               have hfz74_2 := blk_frozen BK458.out 2
               have p464 : 0 ≤ (((rd_T67 l0_0 a2).f1) : Int) := of_decide_eq_true (by first | (with_reducible assumption) | assumption)
               have q464 : ((rd_T67 l0_0 a2).f1) < (l1.length : Int) := of_decide_eq_true (by first | (with_reducible assumption) | assumption)
               obtain ⟨ad464, e464, hx464_0⟩ := Kd.at_bool HR1.out ((rd_T67 l0_0 a2).f1) p464 q464
               (try rw [← Nbq43.out] at hx464_0)
               (try rw [← Nbq70.out] at hx464_0)
               cases e464
               replace hx464_0 := (HB.out.cell (World.block_lt_of_cell? w _ hx464_0)).trans hx464_0
               replace p464 := eq_true p464
               replace q464 := eq_true q464
               have p468 : 0 ≤ (((rd_T67 l0_0 a2).f2) : Int) := of_decide_eq_true (by first | (with_reducible assumption) | assumption)
               have q468 : ((rd_T67 l0_0 a2).f2) < (l1.length : Int) := of_decide_eq_true (by first | (with_reducible assumption) | assumption)
               obtain ⟨ad468, e468, hx468_0⟩ := Kd.at_bool HR1.out ((rd_T67 l0_0 a2).f2) p468 q468
               (try rw [← Nbq43.out] at hx468_0)
               (try rw [← Nbq70.out] at hx468_0)
               obtain rfl : ad464 = ad468 := (by injection e468)
               replace hx468_0 := (HB.out.cell (World.block_lt_of_cell? w _ hx468_0)).trans hx468_0
               replace p468 := eq_true p468
               replace q468 := eq_true q468
               have hcz75_0 : wc.cell? ⟨gb456, 0, none⟩ = some (.slice (some ad457) l0_0.length c0_0) := (blk_cell BK456.out 0).trans rfl
               have hfz75_0 := blk_frozen BK456.out 0
               go_wp2_with (first | (go_at_call 94; (with_reducible refine (spec_l7Power.calls kj22 _ _ l0_0 _ _ l1 _ _ l3 ((rd_T67 l0_0 a2).f1) t469 _ ?side1 ?side2 ?side3 ?side4 ?side5 ?side6 A72.out).mono ?_); (case side1 => exact zc (Kd.C_below HR0_0.out HB.out)); (case side2 => exact HC0_0.out); (case side3 => exact zc (Kd.C_below HR1.out HB.out)); (case side4 => exact HC1.out); (case side5 => exact zc (Kd.C_below HR3.out HB.out)); (case side6 => exact HC3.out); rintro e w76 ⟨rfl, hb⟩; have n0_ := Aside0.mk (blk_below (zh BK456.out) hb); have n1_ := Aside0.mk (blk_below (zh BK458.out) hb); have n2_ := Aside0.mk (below_step (zb HB.out) hb); clear BK456; clear BK458; clear HB; have BK456 := n0_; have BK458 := n1_; have HB := n2_; clear n0_ n1_ n2_; (try clear hb); (try clear hb2); (try clear hk); (try clear hi)))
               go_ret
               exact ⟨ze, zb HB.out⟩
              ·replace c71 := Bool.eq_false_iff.mpr c71
               subst c71
               have H1 : (some false) = some r := by rw [if_neg (show ¬ (false = true) by decide)] at H; exact H
               clear H
               have H := H1
               clear H1
               obtain rfl := Option.some.inj H
               have hnb77 := NB458_456.out
               have hnc77 := NB456_458.out
               have hcz78_0 : wc.cell? ⟨gb458, 0, none⟩ = some (.int .i64 ((rd_T67 l0_0 a2).f0)) := (blk_cell BK458.out 0).trans rfl
               have hcz78_1 : wc.cell? ⟨gb458, 1, none⟩ = some (.int .i64 ((rd_T67 l0_0 a2).f1)) := (blk_cell BK458.out 1).trans rfl
               have hcz78_2 : wc.cell? ⟨gb458, 2, none⟩ = some (.int .i64 ((rd_T67 l0_0 a2).f2)) := (blk_cell BK458.out 2).trans rfl
               have hfz78_0 := blk_frozen BK458.out 0
               have hfz78_1 := blk_frozen BK458.out 1
               have hfz78_2 := blk_frozen BK458.out 2
               have p464 : 0 ≤ (((rd_T67 l0_0 a2).f1) : Int) := of_decide_eq_true (by first | (with_reducible assumption) | assumption)
               have q464 : ((rd_T67 l0_0 a2).f1) < (l1.length : Int) := of_decide_eq_true (by first | (with_reducible assumption) | assumption)
               obtain ⟨ad464, e464, hx464_0⟩ := Kd.at_bool HR1.out ((rd_T67 l0_0 a2).f1) p464 q464
               (try rw [← Nbq43.out] at hx464_0)
               (try rw [← Nbq70.out] at hx464_0)
               cases e464
               replace hx464_0 := (HB.out.cell (World.block_lt_of_cell? w _ hx464_0)).trans hx464_0
               replace p464 := eq_true p464
               replace q464 := eq_true q464
               have p468 : 0 ≤ (((rd_T67 l0_0 a2).f2) : Int) := of_decide_eq_true (by first | (with_reducible assumption) | assumption)
               have q468 : ((rd_T67 l0_0 a2).f2) < (l1.length : Int) := of_decide_eq_true (by first | (with_reducible assumption) | assumption)
               obtain ⟨ad468, e468, hx468_0⟩ := Kd.at_bool HR1.out ((rd_T67 l0_0 a2).f2) p468 q468
               (try rw [← Nbq43.out] at hx468_0)
               (try rw [← Nbq70.out] at hx468_0)
               obtain rfl : ad464 = ad468 := (by injection e468)
               replace hx468_0 := (HB.out.cell (World.block_lt_of_cell? w _ hx468_0)).trans hx468_0
               replace p468 := eq_true p468
               replace q468 := eq_true q468
               go_wp2
               go_ret
               exact ⟨ze, zb HB.out⟩
             ·rw [if_neg c69] at H
              exact absurd H (by simp)
            ·rw [if_neg c68] at H
             exact absurd H (by simp)
          ·rw [if_neg c42] at H
           exact absurd H (by simp)
         ·rw [if_neg c41] at H
          exact absurd H (by simp)
        ·rw [if_neg c40] at H
         have c40b0 : (((rd_T67 l0_0 a2).f0) == 8) = false := beq_eq_false_iff_ne.mpr c40
         have c40b1 : (((rd_T67 l0_0 a2).f0) != 8) = true := bne_iff_ne.mpr c40
         obtain rfl := Option.some.inj H
         have hnb79 := NB458_456.out
         have hnc79 := NB456_458.out
         have hcz80_0 : wc.cell? ⟨gb458, 0, none⟩ = some (.int .i64 ((rd_T67 l0_0 a2).f0)) := (blk_cell BK458.out 0).trans rfl
         have hcz80_1 : wc.cell? ⟨gb458, 1, none⟩ = some (.int .i64 ((rd_T67 l0_0 a2).f1)) := (blk_cell BK458.out 1).trans rfl
         have hcz80_2 : wc.cell? ⟨gb458, 2, none⟩ = some (.int .i64 ((rd_T67 l0_0 a2).f2)) := (blk_cell BK458.out 2).trans rfl
         have hfz80_0 := blk_frozen BK458.out 0
         have hfz80_1 := blk_frozen BK458.out 1
         have hfz80_2 := blk_frozen BK458.out 2
         go_wp2
         go_ret
         exact ⟨ze, zb HB.out⟩
  ·rw [if_neg c6] at H
   exact absurd H (by simp)
 ·rw [if_neg c5] at H
  exact absurd H (by simp)

end Go.Proofs.Ytilnfdnigjblcaa.M
end
