import Derived.Test.YtafahnellnfclaaTR0
import Derived.Test.YtafahnellnfclaaTRg0
import Derived.Test.YtafahnellnfclaaTRg1
section
-- Written by this session's program (wip/tools/gprint.py over the kit's print) out of the translation; Lean checks it.
namespace Go.Proofs.Ytafahnellnfclaa.R
open Go.RowKit Go.Proofs.YtafahnellnfclaaW.PrintWords Go.Proofs.YtafahnellnfclaaW.PrintLast Go.Proofs.YtafahnellnfclaaW.PrintMore
attribute [local go_sem] max2_int min2_int max_two min_two max_three min_three max_four min_four   -- for this text's walks alone
set_option linter.unusedVariables false
set_option linter.unusedSimpArgs false
set_option maxRecDepth 100000


/-! ### spec_PoolAdd: function 16 -/
def spec_PoolAdd.f0 (k : Nat) (l0_0 : List (S34)) (a1_0 : Int) (a1_1 : Int) (a1_2 : Int) : Option ((List (S34)) × Int) := (spec_PoolOk.f k l0_0).bind fun t140 => (if t140 = true then ((spec_l1Add.f k l0_0 a1_0 a1_1 a1_2).bind fun bt141 => ((spec_l1Copy.f bt141.1).bind fun t146 => (some (t146, bt141.2)))) else (some (([] : List (S34)), (-1))))
def spec_PoolAdd.f (k : Nat) (l0_0 : List (S34)) (a1_0 : Int) (a1_1 : Int) (a1_2 : Int) : Option ((List (S34)) × Int × (List (S34))) := (spec_PoolAdd.f0 k l0_0 a1_0 a1_1 a1_2).bind fun r_ => some (r_.1, r_.2, l0_0)
theorem spec_PoolAdd.mono0 : ∀ a0 a1 a2 a3 k, LeO (spec_PoolAdd.f0 k a0 a1 a2 a3) (spec_PoolAdd.f0 (k + 1) a0 a1 a2 a3) := by
 intro a0 a1 a2 a3 k
 unfold spec_PoolAdd.f0
 repeat' first
   | (with_reducible exact spec_PoolOk.mono _ _)
   | (with_reducible exact spec_l1Add.mono _ _ _ _ _)
   | (with_reducible exact LeO.refl _)
   | (with_reducible exact LeO.none _)
   | (with_reducible refine LeO.ite ?_ ?_)
   | (with_reducible refine LeO.bind ?_ (fun _ => ?_))
   | exact spec_PoolOk.mono _ _
   | exact spec_l1Add.mono _ _ _ _ _
   | exact LeO.none _
   | refine LeO.ite ?_ ?_
   | refine LeO.bind ?_ (fun _ => ?_)
theorem spec_PoolAdd.mono : ∀ a0 a1 a2 a3 k, LeO (spec_PoolAdd.f k a0 a1 a2 a3) (spec_PoolAdd.f (k + 1) a0 a1 a2 a3) := by
 intro a0 a1 a2 a3 k
 unfold spec_PoolAdd.f
 exact LeO.bind (spec_PoolAdd.mono0 a0 a1 a2 a3 k) (fun _ => LeO.refl _)
theorem spec_PoolAdd.apart {W : World} {b : Nat} {ok : Nat → Prop} {v u : Value} {xs : List (S34)} (h : Kd.R k34 34 W b ok v xs) (ha : ∀ k, v.ownBlock = some k → some k ≠ u.ownBlock) :
  Kd.R k34 34 W b (fun k => ok k ∧ some k ≠ u.ownBlock) v xs := Kd.R_mono (Kd.R_tight rfl h) (fun k hk => ⟨h.1 k hk.symm, ha k hk.symm⟩)
set_option maxHeartbeats 8000000 in
set_option maxRecDepth 100000 in
theorem spec_PoolAdd.calls (k : Nat) (P0_0_ : Nat → Prop) (u9000_ : Value) (l0_0 : List (S34)) (a1_0 : Int) (a1_1 : Int) (a1_2 : Int) (r1 : List (S34)) (r2 : Int) (r3 : List (S34)) (w0 w : World) (hB : Below w0.heap.size w0 w) (ho0_0 : Kd.R k34 34 w w0.heap.size P0_0_ u9000_ l0_0) (h : spec_PoolAdd.f k l0_0 a1_0 a1_1 a1_2 = some (r1, r2, r3)) :
  Calls Try.prog 16 #[.agg #[u9000_], .agg #[.int .i64 a1_0, .int .i64 a1_1, .int .i64 a1_2]] w fun e w' => ∃ v0_ : Value, e = .returned (.tuple #[.agg #[v0_], .int .i64 r2]) ∧ Kd.R k34 34 w' w0.heap.size (fun k_ => (P0_0_ k_ ∨ w.heap.size ≤ k_) ∧ some k_ ≠ u9000_.ownBlock) v0_ r1 ∧ Kd.R k34 34 w' w0.heap.size (fun k_ => (P0_0_ k_ ∨ w.heap.size ≤ k_)) u9000_ r3 ∧ Below w0.heap.size w0 w' ∧ Kept w w' (fun k_ => P0_0_ k_) := by
 have h' : spec_PoolAdd.f0 k l0_0 a1_0 a1_1 a1_2 = some (r1, r2) ∧ l0_0 = r3 := by
  unfold spec_PoolAdd.f at h
  obtain ⟨r_, e1, e2⟩ := Option.bind_eq_some_iff.mp h
  simp only [Option.some.injEq, Prod.mk.injEq] at e2
  obtain ⟨rfl, rfl, rfl⟩ := e2
  exact ⟨e1, rfl⟩
 clear h
 obtain ⟨h, rfl⟩ := h'
 have hu30 := Try.underlying30
 have hu34 := Try.underlying34
 have HO0_0 := Aside0.mk (show Kd.R k34 34 w w0.heap.size (fun k_ => (P0_0_ k_ ∨ w.heap.size ≤ k_)) u9000_ l0_0 from Kd.R_mono ho0_0 (fun k_ hk => (.inl hk)))
 have HK := Aside0.mk (Kept.refl w (fun k_ => P0_0_ k_))
 have HW0 := Aside0.mk hB.size
 have HB := Aside0.mk hB
 clear hB
 have H : ((spec_PoolOk.f k l0_0).bind fun t140 => (if t140 = true then ((spec_l1Add.f k l0_0 a1_0 a1_1 a1_2).bind fun bt141 => ((spec_l1Copy.f bt141.1).bind fun t146 => (some (t146, bt141.2)))) else (some (([] : List (S34)), (-1))))) = some (r1, r2) := h
 clear h
 replace H := Option.bind_eq_some_iff.mp H
 obtain ⟨t140, A30, H⟩ := H
 replace H : (if t140 = true then ((spec_l1Add.f k l0_0 a1_0 a1_1 a1_2).bind fun bt141 => ((spec_l1Copy.f bt141.1).bind fun t146 => (some (t146, bt141.2)))) else (some (([] : List (S34)), (-1)))) = some (r1, r2) := H
 have A3 := Aside0.mk A30
 clear A30
 by_cases c4 : t140 = true
 ·subst c4
  have H1 : ((spec_l1Add.f k l0_0 a1_0 a1_1 a1_2).bind fun bt141 => ((spec_l1Copy.f bt141.1).bind fun t146 => (some (t146, bt141.2)))) = some (r1, r2) := by rw [if_pos rfl] at H; exact H
  clear H
  have H := H1
  clear H1
  replace H := Option.bind_eq_some_iff.mp H
  obtain ⟨⟨t141, t144⟩, A50, H⟩ := H
  replace H : ((spec_l1Copy.f t141).bind fun t146 => (some (t146, t144))) = some (r1, r2) := H
  have A5 := Aside0.mk A50
  clear A50
  replace H := Option.bind_eq_some_iff.mp H
  obtain ⟨t146, A60, H⟩ := H
  replace H : (some (t146, t144)) = some (r1, r2) := H
  have A6 := Aside0.mk A60
  clear A60
  simp only [Option.some.injEq, Prod.mk.injEq] at H
  obtain ⟨rfl, rfl⟩ := H
  obtain ⟨Ao7, co7, eo7⟩ := Kd.R_slice HO0_0.out
  subst eo7
  go_enter Try.func16, Try.ntmps16
  go_wp2_with (first | ((with_reducible refine gate_dst (N := 2) rfl ?_); refine box_event ?hg (N := 2) ?hd (cs := #[.slice Ao7 l0_0.length co7]) (t := 30) ?hr ?_; (case hd => rfl); (case hg => rfl); (case hr => first | (go_simp; done) | (go_simp; rfl)); intro gb137 hg w8 hbox hb; have n0_ := Aside0.mk (Kd.R_below (zr HO0_0.out) hb); have n1_ := Aside0.mk (Kept.below (S := (fun k_ => P0_0_ k_)) (zk HK.out) hb); have n2_ := Aside0.mk (below_step (zb HB.out) hb); have n3_ := Aside0.mk (hbox); have n4_ := Aside0.mk ((by rw [hg]; exact (by first | exact HK.out.1 | exact (show Kept w _ (fun k_ => P0_0_ k_) from zk HK.out).1) : w.heap.size ≤ gb137)); have n5_ := Aside0.mk ((by rw [hg]; exact (below_size (zb HB.out)) : w0.heap.size ≤ gb137)); clear HO0_0; clear HK; clear HB; have HO0_0 := n0_; have HK := n1_; have HB := n2_; have BK137 := n3_; have GW137 := n4_; have GE137 := n5_; clear n0_ n1_ n2_ n3_ n4_ n5_; clear hb hbox hg) | ((with_reducible refine gate_dst (N := 3) rfl ?_); refine box_event ?hg (N := 3) ?hd (cs := #[.int .i64 a1_0, .int .i64 a1_1, .int .i64 a1_2]) (t := 34) ?hr ?_; (case hd => rfl); (case hg => rfl); (case hr => first | (go_simp; done) | (go_simp; rfl)); intro gb138 hg w9 hbox hb; have n0_ := Aside0.mk (Kd.R_below (Kd.R_elderB (zr HO0_0.out) gb138 (Nat.le_of_eq hg.symm)) hb); have n1_ := Aside0.mk (blk_below (zh BK137.out) hb); have n2_ := Aside0.mk (Kept.below (S := (fun k_ => P0_0_ k_)) (zk HK.out) hb); have n3_ := Aside0.mk (below_step (zb HB.out) hb); have n4_ := Aside0.mk (hbox); have n5_ := Aside0.mk ((by rw [hg]; exact (by first | exact HK.out.1 | exact (show Kept w _ (fun k_ => P0_0_ k_) from zk HK.out).1) : w.heap.size ≤ gb138)); have n6_ := Aside0.mk ((by rw [hg]; exact (below_size (zb HB.out)) : w0.heap.size ≤ gb138)); have n7_ := Aside0.mk ((by rw [hg]; exact Nat.ne_of_lt (blk_lt (zh BK137.out)) : gb137 ≠ gb138)); have n8_ := Aside0.mk ((by rw [hg]; exact Nat.ne_of_gt (blk_lt (zh BK137.out)) : gb138 ≠ gb137)); clear HO0_0; clear BK137; clear HK; clear HB; have HO0_0 := n0_; have BK137 := n1_; have HK := n2_; have HB := n3_; have BK138 := n4_; have GW138 := n5_; have GE138 := n6_; have NB137_138 := n7_; have NB138_137 := n8_; clear n0_ n1_ n2_ n3_ n4_ n5_ n6_ n7_ n8_; clear hb hbox hg) | ((with_reducible refine gate_dst (N := 4) rfl ?_); refine box_event ?hg (N := 4) ?hd (cs := #[.slice none 0 0]) (t := 30) ?hr ?_; (case hd => rfl); (case hg => rfl); (case hr => first | (go_simp; done) | (go_simp; rfl)); intro gb139 hg w10 hbox hb; have n0_ := Aside0.mk (Kd.R_below (zr HO0_0.out) hb); have n1_ := Aside0.mk (blk_below (zh BK137.out) hb); have n2_ := Aside0.mk (blk_below (zh BK138.out) hb); have n3_ := Aside0.mk (Kept.below (S := (fun k_ => P0_0_ k_)) (zk HK.out) hb); have n4_ := Aside0.mk (below_step (zb HB.out) hb); have n5_ := Aside0.mk (hbox); have n6_ := Aside0.mk ((by rw [hg]; exact (by first | exact HK.out.1 | exact (show Kept w _ (fun k_ => P0_0_ k_) from zk HK.out).1) : w.heap.size ≤ gb139)); have n7_ := Aside0.mk ((by rw [hg]; exact (below_size (zb HB.out)) : w0.heap.size ≤ gb139)); have n8_ := Aside0.mk ((by rw [hg]; exact Nat.ne_of_lt (blk_lt (zh BK137.out)) : gb137 ≠ gb139)); have n9_ := Aside0.mk ((by rw [hg]; exact Nat.ne_of_gt (blk_lt (zh BK137.out)) : gb139 ≠ gb137)); have n10_ := Aside0.mk ((by rw [hg]; exact Nat.ne_of_lt (blk_lt (zh BK138.out)) : gb138 ≠ gb139)); have n11_ := Aside0.mk ((by rw [hg]; exact Nat.ne_of_gt (blk_lt (zh BK138.out)) : gb139 ≠ gb138)); clear HO0_0; clear BK137; clear BK138; clear HK; clear HB; have HO0_0 := n0_; have BK137 := n1_; have BK138 := n2_; have HK := n3_; have HB := n4_; have BK139 := n5_; have GW139 := n6_; have GE139 := n7_; have NB137_139 := n8_; have NB139_137 := n9_; have NB138_139 := n10_; have NB139_138 := n11_; clear n0_ n1_ n2_ n3_ n4_ n5_ n6_ n7_ n8_ n9_ n10_ n11_; clear hb hbox hg; have hnb11 := NB137_138.out; have hnc11 := NB138_137.out; have hnb12 := NB137_139.out; have hnc12 := NB139_137.out; have hcz13_0 : w10.cell? ⟨gb137, 0, none⟩ = some (.slice Ao7 l0_0.length co7) := (blk_cell BK137.out 0).trans rfl; have hfz13_0 := blk_frozen BK137.out 0) | ((with_reducible refine gate_callee (f := 36) rfl ?_); refine goesL_ (some 9) rfl rfl Try.func36 (by kernel_rfl) rfl #[.agg #[.slice Ao7 l0_0.length co7]] rfl zl ?_; (with_reducible refine (spec_PoolOk.calls k _ _ l0_0 true _ ?side1 ?side2 A3.out).mono ?_); (case side1 => exact zc (Kd.R_reads' HO0_0.out).2.2); (case side2 => exact (Kd.R_reads' HO0_0.out).2.1); rintro e w14 ⟨rfl, hb⟩; refine ⟨_, rfl, ?_⟩; have n0_ := Aside0.mk (Kd.R_below (zr HO0_0.out) hb); have n1_ := Aside0.mk (blk_below (zh BK137.out) hb); have n2_ := Aside0.mk (blk_below (zh BK138.out) hb); have n3_ := Aside0.mk (blk_below (zh BK139.out) hb); have n4_ := Aside0.mk (Kept.below (S := (fun k_ => P0_0_ k_)) (zk HK.out) hb); have n5_ := Aside0.mk (below_step (zb HB.out) hb); clear HO0_0; clear BK137; clear BK138; clear BK139; clear HK; clear HB; have HO0_0 := n0_; have BK137 := n1_; have BK138 := n2_; have BK139 := n3_; have HK := n4_; have HB := n5_; clear n0_ n1_ n2_ n3_ n4_ n5_; (try clear hb); (try clear hb2); (try clear hk); (try clear hi); have hcz15_0 : w14.cell? ⟨gb137, 0, none⟩ = some (.slice Ao7 l0_0.length co7) := (blk_cell BK137.out 0).trans rfl; have hfz15_0 := blk_frozen BK137.out 0; have hnb16 := NB138_139.out; have hnc16 := NB139_138.out; have hcz17_0 : w14.cell? ⟨gb138, 0, none⟩ = some (.int .i64 a1_0) := (blk_cell BK138.out 0).trans rfl; have hcz17_1 : w14.cell? ⟨gb138, 1, none⟩ = some (.int .i64 a1_1) := (blk_cell BK138.out 1).trans rfl; have hcz17_2 : w14.cell? ⟨gb138, 2, none⟩ = some (.int .i64 a1_2) := (blk_cell BK138.out 2).trans rfl; have hfz17_0 := blk_frozen BK138.out 0; have hfz17_1 := blk_frozen BK138.out 1; have hfz17_2 := blk_frozen BK138.out 2) | ((with_reducible refine gate_callee (f := 58) rfl ?_); refine goesL_ (some 15) rfl rfl Try.func58 (by kernel_rfl) rfl #[.agg #[.slice Ao7 l0_0.length co7], .agg #[.int .i64 a1_0, .int .i64 a1_1, .int .i64 a1_2]] rfl zl ?_; (with_reducible refine (spec_l1Add.calls2 k (fun k_ => some k_ = (.slice Ao7 l0_0.length co7 : Value).ownBlock) (.slice Ao7 l0_0.length co7) l0_0 a1_0 a1_1 a1_2 t141 t144 w0 _ ?side1 ?side2 A5.out).mono ?_); (case side1 => repeat (first | (with_reducible first | exact HB.out | apply below_alloc | apply pw_below_drewN | apply below_drew1 | refine below_set ?_ GE137.out | refine below_set ?_ GE138.out | refine below_set ?_ GE139.out) | exact HB.out)); (case side2 => exact Kd.R_tight rfl HO0_0.out); rintro e w18 ⟨v142, rfl, ho0, hb, hkp, hyy⟩; refine ⟨_, rfl, ?_⟩; have HY := Aside0.mk (Kd.R_reok rfl hyy (fun k_ e_ => HO0_0.out.1 k_ e_)); clear hyy; have n0_ := Aside0.mk (blk_kept (zh BK137.out) hkp (fun hs_ => (fun e_ => (Kd.R_ne HO0_0.out BK137.out (by decide)) e_) hs_)); have n1_ := Aside0.mk (blk_kept (zh BK138.out) hkp (fun hs_ => (fun e_ => (Kd.R_away HO0_0.out (fun _ hk => hk.2)) e_) hs_)); have n2_ := Aside0.mk (blk_kept (zh BK139.out) hkp (fun hs_ => (fun e_ => (Kd.R_ne HO0_0.out BK139.out (by decide)) e_) hs_)); have n3_ := Aside0.mk (Kd.R_mono (ok' := fun k_ => (P0_0_ k_ ∨ w.heap.size ≤ k_) ∧ k_ ≠ gb138) ho0 (fun k_ hk_ => by first | exact ⟨Or.elim hk_ (fun hs_ => (HO0_0.out.1 k_ (hs_).symm).1) (fun hn_ => (.inr (Nat.le_trans (by first | exact HK.out.1 | exact (show Kept w _ (fun k_ => P0_0_ k_) from zk HK.out).1) hn_))), Or.elim hk_ (fun hs_ => fun e_ => (Kd.R_away HO0_0.out (fun _ hk => hk.2)) (by rw [← e_]; exact hs_)) (fun hn_ => (Kd.freshB (zh BK138.out) k_ hn_))⟩ | (revert hk_; simp only [and_imp]; intros; and_intros <;> assumption))); have n4_ := Aside0.mk (Kept.then_ (S := (fun k_ => P0_0_ k_)) (zk HK.out) hkp (fun k_ hs_ => (fun e_ => (HO0_0.out.1 k_ e_.symm).1) hs_)); have n5_ := Aside0.mk (hb); clear BK137; clear BK138; clear BK139; clear HK; clear HB; clear HO0_0; have BK137 := n0_; have BK138 := n1_; have BK139 := n2_; have HO143 := n3_; have HK := n4_; have HB := n5_; clear n0_ n1_ n2_ n3_ n4_ n5_; (try clear hb); (try clear hkp); (try clear ho0)) | ((with_reducible refine gate_dst (N := 6) rfl ?_); refine box_event ?hg (N := 6) ?hd (cs := #[.slice none 0 0]) (t := 30) ?hr ?_; (case hd => rfl); (case hg => rfl); (case hr => first | (go_simp; done) | (go_simp; rfl)); intro gb145 hg w19 hbox hb; have HYn := Aside0.mk (Kd.R_below HY.out hb); clear HY; have HY := HYn; clear HYn; have n0_ := Aside0.mk (Kd.R_below (zr HO143.out) hb); have n1_ := Aside0.mk (blk_below (zh BK137.out) hb); have n2_ := Aside0.mk (blk_below (zh BK138.out) hb); have n3_ := Aside0.mk (blk_below (zh BK139.out) hb); have n4_ := Aside0.mk (Kept.below (S := (fun k_ => P0_0_ k_)) (zk HK.out) hb); have n5_ := Aside0.mk (below_step (zb HB.out) hb); have n6_ := Aside0.mk (hbox); have n7_ := Aside0.mk ((by rw [hg]; exact (by first | exact HK.out.1 | exact (show Kept w _ (fun k_ => P0_0_ k_) from zk HK.out).1) : w.heap.size ≤ gb145)); have n8_ := Aside0.mk ((by rw [hg]; exact (below_size (zb HB.out)) : w0.heap.size ≤ gb145)); have n9_ := Aside0.mk ((by rw [hg]; exact Nat.ne_of_lt (blk_lt (zh BK137.out)) : gb137 ≠ gb145)); have n10_ := Aside0.mk ((by rw [hg]; exact Nat.ne_of_gt (blk_lt (zh BK137.out)) : gb145 ≠ gb137)); have n11_ := Aside0.mk ((by rw [hg]; exact Nat.ne_of_lt (blk_lt (zh BK138.out)) : gb138 ≠ gb145)); have n12_ := Aside0.mk ((by rw [hg]; exact Nat.ne_of_gt (blk_lt (zh BK138.out)) : gb145 ≠ gb138)); have n13_ := Aside0.mk ((by rw [hg]; exact Nat.ne_of_lt (blk_lt (zh BK139.out)) : gb139 ≠ gb145)); have n14_ := Aside0.mk ((by rw [hg]; exact Nat.ne_of_gt (blk_lt (zh BK139.out)) : gb145 ≠ gb139)); clear HO143; clear BK137; clear BK138; clear BK139; clear HK; clear HB; have HO143 := n0_; have BK137 := n1_; have BK138 := n2_; have BK139 := n3_; have HK := n4_; have HB := n5_; have BK145 := n6_; have GW145 := n7_; have GE145 := n8_; have NB137_145 := n9_; have NB145_137 := n10_; have NB138_145 := n11_; have NB145_138 := n12_; have NB139_145 := n13_; have NB145_139 := n14_; clear n0_ n1_ n2_ n3_ n4_ n5_ n6_ n7_ n8_ n9_ n10_ n11_ n12_ n13_ n14_; clear hb hbox hg; obtain ⟨Ao20, co20, eo20⟩ := Kd.R_slice HO143.out; subst eo20; have hnb21 := NB145_137.out; have hnc21 := NB137_145.out; have hnb22 := NB145_138.out; have hnc22 := NB138_145.out; have hnb23 := NB145_139.out; have hnc23 := NB139_145.out; have hcz24_0 : w19.cell? ⟨gb145, 0, none⟩ = some (.slice none 0 0) := (blk_cell BK145.out 0).trans rfl; have hfz24_0 := blk_frozen BK145.out 0) | ((with_reducible refine gate_callee (f := 59) rfl ?_); refine goesL_ (some 19) rfl rfl Try.func59 (by kernel_rfl) rfl #[.agg #[.slice Ao20 t141.length co20]] rfl zl ?_; (with_reducible refine (spec_l1Copy.calls _ _ t141 t146 _ ?side1 ?side2 A6.out).mono ?_); (case side1 => refine (Kd.R_reads' (e := 34) (base := w0.heap.size) (ok := fun k_ => ((P0_0_ k_ ∨ w.heap.size ≤ k_) ∧ k_ ≠ gb138)) (n := t141.length) (c := co20) ?_).2.2; exact (by (with_reducible repeat (first | apply Kd.R_alloc | apply Kd.R_drewN | apply Kd.R_drew)); exact (Kd.R_mono (Kd.R_far (p := ⟨gb145, 0, none⟩) (Kd.R_types HO143.out BK145.out (by decide)) (fun _ hk => hk.2) (.slice Ao20 t141.length co20)) (fun _ h_ => h_.1)))); (case side2 => exact (Kd.R_reads' HO143.out).2.1); rintro e w25 ⟨v147, rfl, ho0, hb⟩; refine ⟨_, rfl, ?_⟩; have HAP := Aside0.mk (fun k_ e_ => ((Kd.R_new' ho0 (Kd.R_lt (Kd.R_far (p := ⟨gb145, 0, none⟩) (Kd.R_types HY.out BK145.out (by decide)) (fun _ hk => hk.2) _))).1 k_ e_).2); have HYn := Aside0.mk (Kd.R_mono (Kd.R_below (Kd.R_far (p := ⟨gb145, 0, none⟩) (Kd.R_types HY.out BK145.out (by decide)) (fun _ hk => hk.2) _) hb) (fun _ hk => hk.1)); clear HY; have HY := HYn; clear HYn; have n0_ := Aside0.mk (Kd.R_elder' (by (with_reducible repeat (first | apply Kd.R_alloc | apply Kd.R_drewN | apply Kd.R_drew)); exact (Kd.R_mono (Kd.R_far (p := ⟨gb145, 0, none⟩) (Kd.R_types HO143.out BK145.out (by decide)) (fun _ hk => hk.2) (.slice Ao20 t141.length co20)) (fun _ h_ => h_.1))) (Kd.R_base ho0) hb); have n1_ := Aside0.mk (Kd.R_lower (Kd.R_newB (Kd.R_new' (Kd.R_newM (M := fun k_ => (P0_0_ k_ ∨ w.heap.size ≤ k_)) ho0 (show Kept w _ (fun k_ => P0_0_ k_) from zk HK.out).1 (fun k_ h_ => .inr h_)) (Kd.R_lt (by (with_reducible repeat (first | apply Kd.R_alloc | apply Kd.R_drewN | apply Kd.R_drew)); exact (Kd.R_mono (Kd.R_far (p := ⟨gb145, 0, none⟩) (Kd.R_types HO143.out BK145.out (by decide)) (fun _ hk => hk.2) (.slice Ao20 t141.length co20)) (fun _ h_ => h_.1))))) (g := gb138) (o := .cells #[.int .i64 a1_0, .int .i64 a1_1, .int .i64 a1_2] 34 (0, 0)) (zf BK138.out)) (below_size (zb HB.out))); have n2_ := Aside0.mk (blk_below (g := gb137) (o := .cells #[.slice Ao7 l0_0.length co7] 30 (0, 0)) (zf BK137.out) hb); have n3_ := Aside0.mk (blk_below (g := gb138) (o := .cells #[.int .i64 a1_0, .int .i64 a1_1, .int .i64 a1_2] 34 (0, 0)) (zf BK138.out) hb); have n4_ := Aside0.mk (blk_below (g := gb139) (o := .cells #[.slice none 0 0] 30 (0, 0)) (zf BK139.out) hb); have n5_ := Aside0.mk (blk_below (g := gb145) (o := .cells #[.slice Ao20 t141.length co20] 30 (0, 0)) (by (with_reducible repeat (first | refine blk_drewN ?_ _ | refine blk_drew ?_ | refine blk_alloc ?_ _)); refine blk_put (cs := #[.slice none 0 0]) ?_ 0 _ rfl; (with_reducible repeat (first | refine blk_drewN ?_ _ | refine blk_drew ?_ | refine blk_alloc ?_ _)); exact BK145.out) hb); have n6_ := Aside0.mk (Kept.below (S := (fun k_ => P0_0_ k_)) (zk HK.out) hb); have n7_ := Aside0.mk (below_step (zb HB.out) hb); clear HO143; clear BK137; clear BK138; clear BK139; clear BK145; clear HK; clear HB; have HO143 := n0_; have HO148 := n1_; have BK137 := n2_; have BK138 := n3_; have BK139 := n4_; have BK145 := n5_; have HK := n6_; have HB := n7_; clear n0_ n1_ n2_ n3_ n4_ n5_ n6_ n7_; (try clear hb); (try clear hb2); (try clear hk); (try clear hi); (try clear ho0); obtain ⟨Ao26, co26, eo26⟩ := Kd.R_slice HO148.out; subst eo26; have hcz27_0 : w25.cell? ⟨gb139, 0, none⟩ = some (.slice none 0 0) := (blk_cell BK139.out 0).trans rfl; have hfz27_0 := blk_frozen BK139.out 0))
  refine bodyPost_ret (results_ct rfl _ _ gb139 30 #[.slice Ao26 t146.length co26] (0, 0) _ rfl (by (with_reducible repeat (first | refine blk_drewN ?_ _ | refine blk_drew ?_ | refine blk_alloc ?_ _)); refine blk_put (cs := #[.slice none 0 0]) ?_ 0 _ rfl; (with_reducible repeat (first | refine blk_drewN ?_ _ | refine blk_drew ?_ | refine blk_alloc ?_ _)); exact BK139.out) Try.underlying30 rfl (by kernel_rfl)) rfl ?_
  exact ⟨_, ze, spec_PoolAdd.apart (by (with_reducible repeat (first | apply Kd.R_alloc | apply Kd.R_drewN | apply Kd.R_drew)); exact Kd.R_mono (Kd.R_far (p := ⟨gb139, 0, none⟩) (Kd.R_types HO148.out BK139.out (by decide)) (fun _ hk => hk.2) (.slice Ao26 t146.length co26)) (fun _ hk => hk.1.1.1.1)) HAP.out, zr (Kd.R_mono (Kd.R_far (p := ⟨gb139, 0, none⟩) (Kd.R_types HY.out BK139.out (by decide)) (fun _ hk => hk.2) (.slice Ao26 t146.length co26)) (fun _ hk => by first | exact hk | exact hk.1 | exact hk.1.1 | exact hk.1.1.1 | exact hk.1.1.1.1 | exact hk.1.1.1.1.1)), zb HB.out, zk HK.out⟩
 ·replace c4 := Bool.eq_false_iff.mpr c4
  subst c4
  have H1 : (some (([] : List (S34)), (-1))) = some (r1, r2) := by rw [if_neg (show ¬ (false = true) by decide)] at H; exact H
  clear H
  have H := H1
  clear H1
  simp only [Option.some.injEq, Prod.mk.injEq] at H
  obtain ⟨rfl, rfl⟩ := H
  obtain ⟨Ao28, co28, eo28⟩ := Kd.R_slice HO0_0.out
  subst eo28
  go_enter Try.func16, Try.ntmps16
  go_wp2_with (first | ((with_reducible refine gate_dst (N := 2) rfl ?_); refine box_event ?hg (N := 2) ?hd (cs := #[.slice Ao28 l0_0.length co28]) (t := 30) ?hr ?_; (case hd => rfl); (case hg => rfl); (case hr => first | (go_simp; done) | (go_simp; rfl)); intro gb137 hg w29 hbox hb; have n0_ := Aside0.mk (Kd.R_below (zr HO0_0.out) hb); have n1_ := Aside0.mk (Kept.below (S := (fun k_ => P0_0_ k_)) (zk HK.out) hb); have n2_ := Aside0.mk (below_step (zb HB.out) hb); have n3_ := Aside0.mk (hbox); have n4_ := Aside0.mk ((by rw [hg]; exact (by first | exact HK.out.1 | exact (show Kept w _ (fun k_ => P0_0_ k_) from zk HK.out).1) : w.heap.size ≤ gb137)); have n5_ := Aside0.mk ((by rw [hg]; exact (below_size (zb HB.out)) : w0.heap.size ≤ gb137)); clear HO0_0; clear HK; clear HB; have HO0_0 := n0_; have HK := n1_; have HB := n2_; have BK137 := n3_; have GW137 := n4_; have GE137 := n5_; clear n0_ n1_ n2_ n3_ n4_ n5_; clear hb hbox hg) | ((with_reducible refine gate_dst (N := 3) rfl ?_); refine box_event ?hg (N := 3) ?hd (cs := #[.int .i64 a1_0, .int .i64 a1_1, .int .i64 a1_2]) (t := 34) ?hr ?_; (case hd => rfl); (case hg => rfl); (case hr => first | (go_simp; done) | (go_simp; rfl)); intro gb138 hg w30 hbox hb; have n0_ := Aside0.mk (Kd.R_below (Kd.R_elderB (zr HO0_0.out) gb138 (Nat.le_of_eq hg.symm)) hb); have n1_ := Aside0.mk (blk_below (zh BK137.out) hb); have n2_ := Aside0.mk (Kept.below (S := (fun k_ => P0_0_ k_)) (zk HK.out) hb); have n3_ := Aside0.mk (below_step (zb HB.out) hb); have n4_ := Aside0.mk (hbox); have n5_ := Aside0.mk ((by rw [hg]; exact (by first | exact HK.out.1 | exact (show Kept w _ (fun k_ => P0_0_ k_) from zk HK.out).1) : w.heap.size ≤ gb138)); have n6_ := Aside0.mk ((by rw [hg]; exact (below_size (zb HB.out)) : w0.heap.size ≤ gb138)); have n7_ := Aside0.mk ((by rw [hg]; exact Nat.ne_of_lt (blk_lt (zh BK137.out)) : gb137 ≠ gb138)); have n8_ := Aside0.mk ((by rw [hg]; exact Nat.ne_of_gt (blk_lt (zh BK137.out)) : gb138 ≠ gb137)); clear HO0_0; clear BK137; clear HK; clear HB; have HO0_0 := n0_; have BK137 := n1_; have HK := n2_; have HB := n3_; have BK138 := n4_; have GW138 := n5_; have GE138 := n6_; have NB137_138 := n7_; have NB138_137 := n8_; clear n0_ n1_ n2_ n3_ n4_ n5_ n6_ n7_ n8_; clear hb hbox hg) | ((with_reducible refine gate_dst (N := 4) rfl ?_); refine box_event ?hg (N := 4) ?hd (cs := #[.slice none 0 0]) (t := 30) ?hr ?_; (case hd => rfl); (case hg => rfl); (case hr => first | (go_simp; done) | (go_simp; rfl)); intro gb139 hg w31 hbox hb; have n0_ := Aside0.mk (Kd.R_below (zr HO0_0.out) hb); have n1_ := Aside0.mk (blk_below (zh BK137.out) hb); have n2_ := Aside0.mk (blk_below (zh BK138.out) hb); have n3_ := Aside0.mk (Kept.below (S := (fun k_ => P0_0_ k_)) (zk HK.out) hb); have n4_ := Aside0.mk (below_step (zb HB.out) hb); have n5_ := Aside0.mk (hbox); have n6_ := Aside0.mk ((by rw [hg]; exact (by first | exact HK.out.1 | exact (show Kept w _ (fun k_ => P0_0_ k_) from zk HK.out).1) : w.heap.size ≤ gb139)); have n7_ := Aside0.mk ((by rw [hg]; exact (below_size (zb HB.out)) : w0.heap.size ≤ gb139)); have n8_ := Aside0.mk ((by rw [hg]; exact Nat.ne_of_lt (blk_lt (zh BK137.out)) : gb137 ≠ gb139)); have n9_ := Aside0.mk ((by rw [hg]; exact Nat.ne_of_gt (blk_lt (zh BK137.out)) : gb139 ≠ gb137)); have n10_ := Aside0.mk ((by rw [hg]; exact Nat.ne_of_lt (blk_lt (zh BK138.out)) : gb138 ≠ gb139)); have n11_ := Aside0.mk ((by rw [hg]; exact Nat.ne_of_gt (blk_lt (zh BK138.out)) : gb139 ≠ gb138)); clear HO0_0; clear BK137; clear BK138; clear HK; clear HB; have HO0_0 := n0_; have BK137 := n1_; have BK138 := n2_; have HK := n3_; have HB := n4_; have BK139 := n5_; have GW139 := n6_; have GE139 := n7_; have NB137_139 := n8_; have NB139_137 := n9_; have NB138_139 := n10_; have NB139_138 := n11_; clear n0_ n1_ n2_ n3_ n4_ n5_ n6_ n7_ n8_ n9_ n10_ n11_; clear hb hbox hg; have hnb32 := NB137_138.out; have hnc32 := NB138_137.out; have hnb33 := NB137_139.out; have hnc33 := NB139_137.out; have hcz34_0 : w31.cell? ⟨gb137, 0, none⟩ = some (.slice Ao28 l0_0.length co28) := (blk_cell BK137.out 0).trans rfl; have hfz34_0 := blk_frozen BK137.out 0) | ((with_reducible refine gate_callee (f := 36) rfl ?_); refine goesL_ (some 9) rfl rfl Try.func36 (by kernel_rfl) rfl #[.agg #[.slice Ao28 l0_0.length co28]] rfl zl ?_; (with_reducible refine (spec_PoolOk.calls k _ _ l0_0 false _ ?side1 ?side2 A3.out).mono ?_); (case side1 => exact zc (Kd.R_reads' HO0_0.out).2.2); (case side2 => exact (Kd.R_reads' HO0_0.out).2.1); rintro e w35 ⟨rfl, hb⟩; refine ⟨_, rfl, ?_⟩; have n0_ := Aside0.mk (Kd.R_below (zr HO0_0.out) hb); have n1_ := Aside0.mk (blk_below (zh BK137.out) hb); have n2_ := Aside0.mk (blk_below (zh BK138.out) hb); have n3_ := Aside0.mk (blk_below (zh BK139.out) hb); have n4_ := Aside0.mk (Kept.below (S := (fun k_ => P0_0_ k_)) (zk HK.out) hb); have n5_ := Aside0.mk (below_step (zb HB.out) hb); clear HO0_0; clear BK137; clear BK138; clear BK139; clear HK; clear HB; have HO0_0 := n0_; have BK137 := n1_; have BK138 := n2_; have BK139 := n3_; have HK := n4_; have HB := n5_; clear n0_ n1_ n2_ n3_ n4_ n5_; (try clear hb); (try clear hb2); (try clear hk); (try clear hi); have hnb36 := NB139_138.out; have hnc36 := NB138_139.out; have hcz37_0 : w35.cell? ⟨gb139, 0, none⟩ = some (.slice none 0 0) := (blk_cell BK139.out 0).trans rfl; have hfz37_0 := blk_frozen BK139.out 0))
  refine bodyPost_ret (results_ct rfl _ _ gb139 30 #[.slice none 0 0] (0, 0) _ rfl (by (with_reducible repeat (first | refine blk_drewN ?_ _ | refine blk_drew ?_ | refine blk_alloc ?_ _)); refine blk_put (cs := #[.slice none 0 0]) ?_ 0 _ rfl; (with_reducible repeat (first | refine blk_drewN ?_ _ | refine blk_drew ?_ | refine blk_alloc ?_ _)); exact BK139.out) Try.underlying30 rfl (by kernel_rfl)) rfl ?_
  exact ⟨_, ze, by first | exact Kd.R_nil _ _ _ _ _ | exact Kd.N_nil _ _ _ _ _ | exact Kd.V_nil _ _ _ _ _ | exact Kd.Q_nil _ _ _ _ _ | exact Kd.S_nil _ _ _ _ _, zr (Kd.R_mono (Kd.R_far (p := ⟨gb139, 0, none⟩) (Kd.R_types HO0_0.out BK139.out (by decide)) (fun _ hk => hk.2) (.slice none 0 0)) (fun _ hk => by first | exact hk | exact hk.1 | exact hk.1.1 | exact hk.1.1.1 | exact hk.1.1.1.1 | exact hk.1.1.1.1.1)), zb HB.out, zk HK.out⟩



/-! ### spec_l1Has: function 66 -/
def spec_l1Has.f (l0_0 : List (S34)) (a1 : Int) : Option (Bool) := (spec_l1In.f a1 0 (wrap64 ((l0_0.length : Int) - 1))).bind fun t124 => (some t124)
set_option maxHeartbeats 8000000 in
set_option maxRecDepth 100000 in
theorem spec_l1Has.calls (A0_0 : Option Addr) (c0_0 : Nat) (l0_0 : List (S34)) (a1 : Int) (r : Bool) (w : World) (hr0_0 : Kd.C k34 w A0_0 l0_0.length l0_0) (hc0_0 : l0_0.length ≤ c0_0) (h : spec_l1Has.f l0_0 a1 = some r) :
  Calls Try.prog 66 #[.agg #[.slice A0_0 l0_0.length c0_0], .int .i64 a1] w fun e w' => e = .returned (.bool r) ∧ Below w.heap.size w w' := by
 have hu30 := Try.underlying30
 have HR0_0 := Aside0.mk hr0_0
 have HC0_0 := Aside0.mk hc0_0
 clear hr0_0 hc0_0
 have HB := Aside0.mk (Below.refl w.heap.size w)
 have H : ((spec_l1In.f a1 0 (wrap64 ((l0_0.length : Int) - 1))).bind fun t124 => (some t124)) = some r := h
 clear h
 replace H := Option.bind_eq_some_iff.mp H
 obtain ⟨t124, A30, H⟩ := H
 replace H : (some t124) = some r := H
 have A3 := Aside0.mk A30
 clear A30
 obtain rfl := Option.some.inj H
 go_enter Try.func66, Try.ntmps66
 go_wp2_with (first | ((with_reducible refine gate_dst (N := 2) rfl ?_); refine box_event ?hg (N := 2) ?hd (cs := #[.slice A0_0 l0_0.length c0_0]) (t := 30) ?hr ?_; (case hd => rfl); (case hg => rfl); (case hr => first | (go_simp; done) | (go_simp; rfl)); intro gb123 hg w4 hbox hb; have n0_ := Aside0.mk (below_step (zb HB.out) hb); have n1_ := Aside0.mk (hbox); have n2_ := Aside0.mk ((by rw [hg]; exact (below_size (zb HB.out)) : w.heap.size ≤ gb123)); have n3_ := Aside0.mk ((by rw [hg]; exact (below_size (zb HB.out)) : w.heap.size ≤ gb123)); clear HB; have HB := n0_; have BK123 := n1_; have GW123 := n2_; have GE123 := n3_; clear n0_ n1_ n2_ n3_; clear hb hbox hg; have hcz5_0 : w4.cell? ⟨gb123, 0, none⟩ = some (.slice A0_0 l0_0.length c0_0) := (blk_cell BK123.out 0).trans rfl; have hfz5_0 := blk_frozen BK123.out 0) | ((with_reducible refine gate_callee (f := 93) rfl ?_); refine goesL_ (some 10) rfl rfl Try.func93 (by kernel_rfl) rfl #[.int .i64 a1, .int .i64 0, .int .i64 (wrap64 ((l0_0.length : Int) - 1))] rfl zl ?_; (with_reducible refine (spec_l1In.calls a1 0 (wrap64 ((l0_0.length : Int) - 1)) t124 _ A3.out).mono ?_); rintro e w' ⟨rfl, ⟨nd, rfl⟩⟩; refine ⟨_, rfl, ?_⟩))
 go_ret
 exact ⟨ze, zb HB.out⟩


/-! ### spec_l3Raise: function 86 -/
def spec_l3Raise.f (k : Nat) (l0_0 : List (S34)) (a1 : Int) (a2 : Int) : Option ((List (S34)) × Int) := (spec_l1Has.f l0_0 a1).bind fun t254 => (if t254 = true then ((spec_l1Has.f l0_0 a2).bind fun t255 => (if t255 = true then (if 0 ≤ a1 then (if a1 < (l0_0.length : Int) then (if ((rd_T34 l0_0 a1).f0) = 7 then ((spec_l1Add.f k l0_0 8 a2 ((rd_T34 l0_0 a1).f1)).bind fun bt258 => (some (bt258.1, bt258.2))) else (some (l0_0, (-1)))) else (none)) else (none)) else (some (l0_0, (-1))))) else (some (l0_0, (-1))))
theorem spec_l3Raise.mono : ∀ a0 a1 a2 k, LeO (spec_l3Raise.f k a0 a1 a2) (spec_l3Raise.f (k + 1) a0 a1 a2) := by
 intro a0 a1 a2 k
 unfold spec_l3Raise.f
 repeat' first
   | (with_reducible exact spec_l1Add.mono _ _ _ _ _)
   | (with_reducible exact LeO.refl _)
   | (with_reducible exact LeO.none _)
   | (with_reducible refine LeO.ite ?_ ?_)
   | (with_reducible refine LeO.bind ?_ (fun _ => ?_))
   | exact spec_l1Add.mono _ _ _ _ _
   | exact LeO.none _
   | refine LeO.ite ?_ ?_
   | refine LeO.bind ?_ (fun _ => ?_)
def spec_l3Raise.T3 : Bool × List (List Nat × List Nat) := (true, [([], []), ([], []), ([], []), ([2], [2]), ([], []), ([3, 4], [3, 4]), ([5], [5]), ([6], [6]), ([1, 7], [1, 7]), ([0, 8], [0, 8]), ([9], [9]), ([9], [9]), ([10, 9, 0, 1, 2, 3, 4, 5, 6, 7, 8, 9, 10, 11], [10]), ([11, 12, 0, 1, 2, 3, 4, 5, 6, 7, 8, 9, 10, 11, 12], [11])])
def spec_l3Raise.B3 : List Nat := [0, 0, 0, 4, 0, 28, 60, 124, 254, 511, 1023, 1023, 4095, 8191]
theorem spec_l3Raise.tab3 : rtab .any (opsOf Try.f86 3) = spec_l3Raise.T3 := by kernel_rfl
theorem spec_l3Raise.bits3 : waitsOk spec_l3Raise.T3.2 spec_l3Raise.B3 = true := by kernel_rfl
set_option maxHeartbeats 8000000 in
set_option maxRecDepth 100000 in
theorem spec_l3Raise.calls2 (k : Nat) (P0_0_ : Nat → Prop) (u9000_ : Value) (l0_0 : List (S34)) (a1 : Int) (a2 : Int) (r1 : List (S34)) (r2 : Int) (w0 w : World) (hB : Below w0.heap.size w0 w) (ho0_0 : Kd.R k34 34 w w0.heap.size P0_0_ u9000_ l0_0) (h : spec_l3Raise.f k l0_0 a1 a2 = some (r1, r2)) :
  Calls Try.prog 86 #[.agg #[u9000_], .int .i64 a1, .int .i64 a2] w fun e w' => ∃ v0_ : Value, e = .returned (.tuple #[.agg #[v0_], .int .i64 r2]) ∧ Kd.R k34 34 w' w0.heap.size (fun k_ => (P0_0_ k_ ∨ w.heap.size ≤ k_)) v0_ r1 ∧ Below w0.heap.size w0 w' ∧ Kept w w' (fun k_ => P0_0_ k_) ∧ Kd.R k34 34 w' w0.heap.size (fun k_ => (P0_0_ k_ ∨ w.heap.size ≤ k_)) u9000_ l0_0 := by
 have hu30 := Try.underlying30
 have hu34 := Try.underlying34
 have HO0_0 := Aside0.mk (show Kd.R k34 34 w w0.heap.size (fun k_ => (P0_0_ k_ ∨ w.heap.size ≤ k_)) u9000_ l0_0 from Kd.R_mono ho0_0 (fun k_ hk => (.inl hk)))
 have HK := Aside0.mk (Kept.refl w (fun k_ => P0_0_ k_))
 have HW0 := Aside0.mk hB.size
 have HB := Aside0.mk hB
 clear hB
 have H : ((spec_l1Has.f l0_0 a1).bind fun t254 => (if t254 = true then ((spec_l1Has.f l0_0 a2).bind fun t255 => (if t255 = true then (if 0 ≤ a1 then (if a1 < (l0_0.length : Int) then (if ((rd_T34 l0_0 a1).f0) = 7 then ((spec_l1Add.f k l0_0 8 a2 ((rd_T34 l0_0 a1).f1)).bind fun bt258 => (some (bt258.1, bt258.2))) else (some (l0_0, (-1)))) else (none)) else (none)) else (some (l0_0, (-1))))) else (some (l0_0, (-1))))) = some (r1, r2) := h
 clear h
 replace H := Option.bind_eq_some_iff.mp H
 obtain ⟨t254, A40, H⟩ := H
 replace H : (if t254 = true then ((spec_l1Has.f l0_0 a2).bind fun t255 => (if t255 = true then (if 0 ≤ a1 then (if a1 < (l0_0.length : Int) then (if ((rd_T34 l0_0 a1).f0) = 7 then ((spec_l1Add.f k l0_0 8 a2 ((rd_T34 l0_0 a1).f1)).bind fun bt258 => (some (bt258.1, bt258.2))) else (some (l0_0, (-1)))) else (none)) else (none)) else (some (l0_0, (-1))))) else (some (l0_0, (-1)))) = some (r1, r2) := H
 have A4 := Aside0.mk A40
 clear A40
 by_cases c5 : t254 = true
 ·subst c5
  have H1 : ((spec_l1Has.f l0_0 a2).bind fun t255 => (if t255 = true then (if 0 ≤ a1 then (if a1 < (l0_0.length : Int) then (if ((rd_T34 l0_0 a1).f0) = 7 then ((spec_l1Add.f k l0_0 8 a2 ((rd_T34 l0_0 a1).f1)).bind fun bt258 => (some (bt258.1, bt258.2))) else (some (l0_0, (-1)))) else (none)) else (none)) else (some (l0_0, (-1))))) = some (r1, r2) := by rw [if_pos rfl] at H; exact H
  clear H
  have H := H1
  clear H1
  replace H := Option.bind_eq_some_iff.mp H
  obtain ⟨t255, A60, H⟩ := H
  replace H : (if t255 = true then (if 0 ≤ a1 then (if a1 < (l0_0.length : Int) then (if ((rd_T34 l0_0 a1).f0) = 7 then ((spec_l1Add.f k l0_0 8 a2 ((rd_T34 l0_0 a1).f1)).bind fun bt258 => (some (bt258.1, bt258.2))) else (some (l0_0, (-1)))) else (none)) else (none)) else (some (l0_0, (-1)))) = some (r1, r2) := H
  have A6 := Aside0.mk A60
  clear A60
  by_cases c7 : t255 = true
  ·subst c7
   have H1 : (if 0 ≤ a1 then (if a1 < (l0_0.length : Int) then (if ((rd_T34 l0_0 a1).f0) = 7 then ((spec_l1Add.f k l0_0 8 a2 ((rd_T34 l0_0 a1).f1)).bind fun bt258 => (some (bt258.1, bt258.2))) else (some (l0_0, (-1)))) else (none)) else (none)) = some (r1, r2) := by rw [if_pos rfl] at H; exact H
   clear H
   have H := H1
   clear H1
   by_cases c8 : 0 ≤ a1
   ·rw [if_pos c8] at H
    have c8b0 : decide (0 ≤ a1) = true := decide_eq_true c8
    clear c8
    by_cases c9 : a1 < (l0_0.length : Int)
    ·rw [if_pos c9] at H
     have c9b0 : decide (a1 < (l0_0.length : Int)) = true := decide_eq_true c9
     clear c9
     by_cases c10 : ((rd_T34 l0_0 a1).f0) = 7
     ·rw [if_pos c10] at H
      have c10b0 : (((rd_T34 l0_0 a1).f0) == 7) = true := beq_iff_eq.mpr c10
      have c10b1 : (((rd_T34 l0_0 a1).f0) != 7) = false := bne_eq_false_iff_eq.mpr c10
      clear c10
      replace H := Option.bind_eq_some_iff.mp H
      obtain ⟨⟨t258, t261⟩, A110, H⟩ := H
      replace H : (some (t258, t261)) = some (r1, r2) := H
      have A11 := Aside0.mk A110
      clear A110
      simp only [Option.some.injEq, Prod.mk.injEq] at H
      obtain ⟨rfl, rfl⟩ := H
      obtain ⟨Ao12, co12, eo12⟩ := Kd.R_slice HO0_0.out
      subst eo12
      go_enter Try.func86, Try.ntmps86
      try go_wp2_with (first | ((with_reducible refine gate_dst (N := 3) rfl ?_); refine box_event ?hg (N := 3) ?hd (cs := #[.slice Ao12 l0_0.length co12]) (t := 30) ?hr ?_; (case hd => rfl); (case hg => rfl); (case hr => first | (go_simp; done) | (go_simp; rfl)); intro gb252 hg w13 hbox hb; have n0_ := Aside0.mk (Kd.R_below (zr HO0_0.out) hb); have n1_ := Aside0.mk (Kept.below (S := (fun k_ => P0_0_ k_)) (zk HK.out) hb); have n2_ := Aside0.mk (below_step (zb HB.out) hb); have n3_ := Aside0.mk (hbox); have n4_ := Aside0.mk ((by rw [hg]; exact (by first | exact HK.out.1 | exact (show Kept w _ (fun k_ => P0_0_ k_) from zk HK.out).1) : w.heap.size ≤ gb252)); have n5_ := Aside0.mk ((by rw [hg]; exact (below_size (zb HB.out)) : w0.heap.size ≤ gb252)); clear HO0_0; clear HK; clear HB; have HO0_0 := n0_; have HK := n1_; have HB := n2_; have BK252 := n3_; have GW252 := n4_; have GE252 := n5_; clear n0_ n1_ n2_ n3_ n4_ n5_; clear hb hbox hg) | ((with_reducible refine gate_dst (N := 6) rfl ?_); refine box_event ?hg (N := 6) ?hd (cs := #[.slice none 0 0]) (t := 30) ?hr ?_; (case hd => rfl); (case hg => rfl); (case hr => first | (go_simp; done) | (go_simp; rfl)); intro gb253 hg w14 hbox hb; have n0_ := Aside0.mk (Kd.R_below (zr HO0_0.out) hb); have n1_ := Aside0.mk (blk_below (zh BK252.out) hb); have n2_ := Aside0.mk (Kept.below (S := (fun k_ => P0_0_ k_)) (zk HK.out) hb); have n3_ := Aside0.mk (below_step (zb HB.out) hb); have n4_ := Aside0.mk (hbox); have n5_ := Aside0.mk ((by rw [hg]; exact (by first | exact HK.out.1 | exact (show Kept w _ (fun k_ => P0_0_ k_) from zk HK.out).1) : w.heap.size ≤ gb253)); have n6_ := Aside0.mk ((by rw [hg]; exact (below_size (zb HB.out)) : w0.heap.size ≤ gb253)); have n7_ := Aside0.mk ((by rw [hg]; exact Nat.ne_of_lt (blk_lt (zh BK252.out)) : gb252 ≠ gb253)); have n8_ := Aside0.mk ((by rw [hg]; exact Nat.ne_of_gt (blk_lt (zh BK252.out)) : gb253 ≠ gb252)); clear HO0_0; clear BK252; clear HK; clear HB; have HO0_0 := n0_; have BK252 := n1_; have HK := n2_; have HB := n3_; have BK253 := n4_; have GW253 := n5_; have GE253 := n6_; have NB252_253 := n7_; have NB253_252 := n8_; clear n0_ n1_ n2_ n3_ n4_ n5_ n6_ n7_ n8_; clear hb hbox hg; have hnb15 := NB252_253.out; have hnc15 := NB253_252.out; have hcz16_0 : w14.cell? ⟨gb252, 0, none⟩ = some (.slice Ao12 l0_0.length co12) := (blk_cell BK252.out 0).trans rfl; have hfz16_0 := blk_frozen BK252.out 0) | ((with_reducible refine gate_callee (f := 66) rfl ?_); refine goesL_ (some 10) rfl rfl Try.func66 (by kernel_rfl) rfl #[.agg #[.slice Ao12 l0_0.length co12], .int .i64 a1] rfl zl ?_; (with_reducible refine (spec_l1Has.calls _ _ l0_0 a1 true _ ?side1 ?side2 A4.out).mono ?_); (case side1 => exact zc (Kd.R_reads' HO0_0.out).2.2); (case side2 => exact (Kd.R_reads' HO0_0.out).2.1); rintro e w17 ⟨rfl, hb⟩; refine ⟨_, rfl, ?_⟩; have n0_ := Aside0.mk (Kd.R_below (zr HO0_0.out) hb); have n1_ := Aside0.mk (blk_below (zh BK252.out) hb); have n2_ := Aside0.mk (blk_below (zh BK253.out) hb); have n3_ := Aside0.mk (Kept.below (S := (fun k_ => P0_0_ k_)) (zk HK.out) hb); have n4_ := Aside0.mk (below_step (zb HB.out) hb); clear HO0_0; clear BK252; clear BK253; clear HK; clear HB; have HO0_0 := n0_; have BK252 := n1_; have BK253 := n2_; have HK := n3_; have HB := n4_; clear n0_ n1_ n2_ n3_ n4_; (try clear hb); (try clear hb2); (try clear hk); (try clear hi); have hcz18_0 : w17.cell? ⟨gb252, 0, none⟩ = some (.slice Ao12 l0_0.length co12) := (blk_cell BK252.out 0).trans rfl; have hfz18_0 := blk_frozen BK252.out 0) | (go_at_call 66; (with_reducible refine (spec_l1Has.calls _ _ l0_0 a2 true _ ?side1 ?side2 A6.out).mono ?_); (case side1 => exact zc (Kd.R_reads' HO0_0.out).2.2); (case side2 => exact (Kd.R_reads' HO0_0.out).2.1); rintro e w19 ⟨rfl, hb⟩; have n0_ := Aside0.mk (Kd.R_below (zr HO0_0.out) hb); have n1_ := Aside0.mk (blk_below (zh BK252.out) hb); have n2_ := Aside0.mk (blk_below (zh BK253.out) hb); have n3_ := Aside0.mk (Kept.below (S := (fun k_ => P0_0_ k_)) (zk HK.out) hb); have n4_ := Aside0.mk (below_step (zb HB.out) hb); clear HO0_0; clear BK252; clear BK253; clear HK; clear HB; have HO0_0 := n0_; have BK252 := n1_; have BK253 := n2_; have HK := n3_; have HB := n4_; clear n0_ n1_ n2_ n3_ n4_; (try clear hb); (try clear hb2); (try clear hk); (try clear hi); have hcz20_0 : w19.cell? ⟨gb252, 0, none⟩ = some (.slice Ao12 l0_0.length co12) := (blk_cell BK252.out 0).trans rfl; have hfz20_0 := blk_frozen BK252.out 0; have p256 : 0 ≤ (a1 : Int) := of_decide_eq_true (by first | (with_reducible assumption) | assumption); have q256 : a1 < (l0_0.length : Int) := of_decide_eq_true (by first | (with_reducible assumption) | assumption); obtain ⟨ad256, e256, hx256_0, hx256_1, hx256_2⟩ := at_T34 (Kd.R_reads' HO0_0.out).2.2 a1 p256 q256; cases e256; replace p256 := eq_true p256; replace q256 := eq_true q256))
      have n0_ := Aside0.mk (Kd.R_drew HO0_0.out)
      have n1_ := Aside0.mk (blk_drew BK252.out)
      have n2_ := Aside0.mk (blk_drew BK253.out)
      have n3_ := Aside0.mk (Kept.drew HK.out)
      have n4_ := Aside0.mk (below_drew1 HB.out)
      clear HO0_0
      clear BK252
      clear BK253
      clear HK
      clear HB
      have HO0_0 := n0_
      have BK252 := n1_
      have BK253 := n2_
      have HK := n3_
      have HB := n4_
      clear n0_ n1_ n2_ n3_ n4_
      have p257 : 0 ≤ (a1 : Int) := of_decide_eq_true (by first | (with_reducible assumption) | assumption)
      have q257 : a1 < (l0_0.length : Int) := of_decide_eq_true (by first | (with_reducible assumption) | assumption)
      obtain ⟨ad257, e257, hx257_0, hx257_1, hx257_2⟩ := at_T34 (Kd.R_reads' HO0_0.out).2.2 a1 p257 q257
      obtain rfl : ad256 = ad257 := (by injection e257)
      replace p257 := eq_true p257
      replace q257 := eq_true q257
      refine start_ (n := 14) (S := fun w' => w'.cell? ⟨gb252, 0, none⟩ = some (.slice (some ad256) l0_0.length co12) ∧ w'.cell? (ad256.add ((a1).toNat * 3)) = some (.int .i64 ((rd_T34 l0_0 a1).f0)) ∧ w'.cell? ⟨(ad256.add ((a1).toNat * 3)).block, (ad256.add ((a1).toNat * 3)).off + 1, none⟩ = some (.int .i64 ((rd_T34 l0_0 a1).f1)) ∧ w'.cell? ⟨(ad256.add ((a1).toNat * 3)).block, (ad256.add ((a1).toNat * 3)).off + 2, none⟩ = some (.int .i64 ((rd_T34 l0_0 a1).f2))) (ds := [9, 12]) #[false, false, false, false, false, false, false, false, false, false, false, false, false, false] (by kernel_rfl) rfl rfl ⟨(blk_cell BK252.out 0).trans rfl, hx257_0, hx257_1, hx257_2⟩ (fun hHeld => ?_); refine with_tabW spec_l3Raise.tab3 spec_l3Raise.bits3 (fun HT_ HW_ => ?_)
      generalize w19.drew = w21 at HO0_0 BK252 BK253 HK HB hx257_0 hx257_1 hx257_2 hHeld ⊢
      refine pure_ (i := 1) (N := some 29) (v := ?_) (a' := ?_) #[false, true, false, false, false, false, false, false, false, false, false, false, false, false] rfl rfl (any_of HT_.out (by kernel_rfl)) (fun _ _ _ h => h) (Or.inl ⟨by rfl, ?_⟩) ?_ ?_
      rotate_left
      ·intro w'
       go_simp
       with_reducible rfl
      rotate_left
      ·simp only [Act.put, List.setIfInBounds_toArray, List.set_cons_zero, List.set_cons_succ, i64_w, i32_w]
       rfl
      refine pure_ (i := 2) (N := some 30) (v := ?_) (a' := ?_) #[false, true, true, false, false, false, false, false, false, false, false, false, false, false] rfl rfl (any_of HT_.out (by kernel_rfl)) (fun _ _ _ h => h) (Or.inl ⟨by rfl, ?_⟩) ?_ ?_
      rotate_left
      ·intro w'
       go_simp
       with_reducible rfl
      rotate_left
      ·simp only [Act.put, List.setIfInBounds_toArray, List.set_cons_zero, List.set_cons_succ, i64_w, i32_w]
       rfl
      refine pure_ (i := 4) (N := some 32) (v := ?_) (a' := ?_) #[false, true, true, false, true, false, false, false, false, false, false, false, false, false] rfl rfl (any_of HT_.out (by kernel_rfl)) (fun _ _ _ h => h) (Or.inl ⟨by rfl, ?_⟩) ?_ ?_
      rotate_left
      ·intro w'
       go_simp
       with_reducible rfl
      rotate_left
      ·simp only [Act.put, List.setIfInBounds_toArray, List.set_cons_zero, List.set_cons_succ, i64_w, i32_w]
       rfl
      refine take_ (i := 0) (N := some 28) (v := ?_) (a' := ?_) #[true, true, true, false, true, false, false, false, false, false, false, false, false, false] rfl rfl (take_ofW HT_.out HW_.out (by kernel_rfl)) (fun _ _ _ h => h) (Or.inl ⟨by rfl, ?_⟩) hHeld ?_ ?_
      rotate_left
      ·rintro w' ⟨s0, s1, s2, s3⟩
       go_simp
       with_reducible rfl
      rotate_left
      ·simp only [Act.put, List.setIfInBounds_toArray, List.set_cons_zero, List.set_cons_succ, i64_w, i32_w]
       rfl
      refine take_ (i := 3) (N := some 31) (v := ?_) (a' := ?_) #[true, true, true, true, true, false, false, false, false, false, false, false, false, false] rfl rfl (take_ofW HT_.out HW_.out (by kernel_rfl)) (fun _ _ _ h => h) (Or.inl ⟨by rfl, ?_⟩) hHeld ?_ ?_
      rotate_left
      ·rintro w' ⟨s0, s1, s2, s3⟩
       go_simp
       with_reducible rfl
      rotate_left
      ·simp only [Act.put, List.setIfInBounds_toArray, List.set_cons_zero, List.set_cons_succ, i64_w, i32_w]
       rfl
      refine pure_ (i := 5) (N := some 33) (v := ?_) (a' := ?_) #[true, true, true, true, true, true, false, false, false, false, false, false, false, false] rfl rfl (any_of HT_.out (by kernel_rfl)) (fun _ _ _ h => h) (Or.inl ⟨by rfl, ?_⟩) ?_ ?_
      rotate_left
      ·intro w'
       go_simp
       with_reducible rfl
      rotate_left
      ·simp only [Act.put, List.setIfInBounds_toArray, List.set_cons_zero, List.set_cons_succ, i64_w, i32_w]
       rfl
      refine pure_ (i := 6) (N := some 34) (v := ?_) (a' := ?_) #[true, true, true, true, true, true, true, false, false, false, false, false, false, false] rfl rfl (any_of HT_.out (by kernel_rfl)) (fun _ _ _ h => h) (Or.inl ⟨by rfl, ?_⟩) ?_ ?_
      rotate_left
      ·intro w'
       go_simp
       with_reducible rfl
      rotate_left
      ·simp only [Act.put, List.setIfInBounds_toArray, List.set_cons_zero, List.set_cons_succ, i64_w, i32_w]
       rfl
      refine take_ (i := 7) (N := some 35) (v := ?_) (a' := ?_) #[true, true, true, true, true, true, true, true, false, false, false, false, false, false] rfl rfl (take_ofW HT_.out HW_.out (by kernel_rfl)) (fun _ _ _ h => h) (Or.inl ⟨by rfl, ?_⟩) hHeld ?_ ?_
      rotate_left
      ·rintro w' ⟨s0, s1, s2, s3⟩
       go_simp
       with_reducible rfl
      rotate_left
      ·simp only [Act.put, List.setIfInBounds_toArray, List.set_cons_zero, List.set_cons_succ, i64_w, i32_w]
       rfl
      refine pure_ (i := 8) (N := some 36) (v := ?_) (a' := ?_) #[true, true, true, true, true, true, true, true, true, false, false, false, false, false] rfl rfl (any_of HT_.out (by kernel_rfl)) (fun _ _ _ h => h) (Or.inl ⟨by rfl, ?_⟩) ?_ ?_
      rotate_left
      ·intro w'
       go_simp
       with_reducible rfl
      rotate_left
      ·simp only [Act.put, List.setIfInBounds_toArray, List.set_cons_zero, List.set_cons_succ, i64_w, i32_w]
       rfl
      refine last_ (i := 9) (N := some 37) #[true, true, true, true, true, true, true, true, true, true, false, false, false, false] rfl rfl (one_of HT_.out (by kernel_rfl)) (by decide) (fun K hK => ?_)
      refine goes_ Try.func58 (by kernel_rfl) rfl #[.agg #[.slice (some ad256) l0_0.length co12], .agg #[.int .i64 8, .int .i64 a2, .int .i64 ((rd_T34 l0_0 a1).f1)]] (by rfl) rfl rfl zl ?_
      with_reducible refine (spec_l1Add.calls2 k (fun k_ => some k_ = (.slice (some ad256) l0_0.length co12 : Value).ownBlock) (.slice (some ad256) l0_0.length co12) l0_0 8 a2 ((rd_T34 l0_0 a1).f1) t258 t261 w0 _ ?side1 ?side2 A11.out).mono ?_
      (case side1 => repeat (first | (with_reducible first | exact HB.out | apply below_alloc | apply pw_below_drewN | apply below_drew1 | refine below_set ?_ GE252.out | refine below_set ?_ GE253.out) | exact HB.out))
      (case side2 => exact Kd.R_tight rfl HO0_0.out)
      rintro e w22 ⟨v259, rfl, ho0, hb, hkp, hyy⟩
      refine ⟨_, rfl, ?_⟩
      have HY := Aside0.mk (Kd.R_reok rfl hyy (fun k_ e_ => HO0_0.out.1 k_ e_))
      clear hyy
      have n0_ := Aside0.mk (blk_kept (zh BK252.out) hkp (fun hs_ => (fun e_ => (Kd.R_ne HO0_0.out BK252.out (by decide)) e_) hs_))
      have n1_ := Aside0.mk (blk_kept (zh BK253.out) hkp (fun hs_ => (fun e_ => (Kd.R_ne HO0_0.out BK253.out (by decide)) e_) hs_))
      have n2_ := Aside0.mk (Kd.R_mono (ok' := fun k_ => (P0_0_ k_ ∨ w.heap.size ≤ k_)) ho0 (fun k_ hk_ => Or.elim hk_ (fun hs_ => (HO0_0.out.1 k_ (hs_).symm)) (fun hn_ => (.inr (Nat.le_trans (by first | exact HK.out.1 | exact (show Kept w _ (fun k_ => P0_0_ k_) from zk HK.out).1) hn_)))))
      have n3_ := Aside0.mk (Kept.then_ (S := (fun k_ => P0_0_ k_)) (zk HK.out) hkp (fun k_ hs_ => (fun e_ => (HO0_0.out.1 k_ e_.symm)) hs_))
      have n4_ := Aside0.mk (hb)
      clear BK252
      clear BK253
      clear HK
      clear HB
      clear HO0_0
      have BK252 := n0_
      have BK253 := n1_
      have HO260 := n2_
      have HK := n3_
      have HB := n4_
      clear n0_ n1_ n2_ n3_ n4_
      (try clear hb)
      (try clear hkp)
      (try clear ho0)
      obtain ⟨Ao23, co23, eo23⟩ := Kd.R_slice HO260.out
      (first | subst eo23 | (injection eo23 with f1_ f2_ f3_; have f4_ := f1_.symm; have f5_ := f3_.symm; clear f1_ f2_ f3_; subst f4_; subst f5_))
      refine hK.out _ _ ?_
      clear hK K
      refine norm_ (a' := ?_) ?_ ?_
      rotate_left
      ·show Act.put _ (some 37) _ = _
       simp only [Act.put, List.setIfInBounds_toArray, List.set_cons_zero, List.set_cons_succ, i64_w, i32_w]
       rfl
      refine pure_ (i := 10) (N := some 38) (v := ?_) (a' := ?_) #[true, true, true, true, true, true, true, true, true, true, true, false, false, false] rfl rfl (any_of HT_.out (by kernel_rfl)) (fun _ _ _ h => h) (Or.inl ⟨by rfl, ?_⟩) ?_ ?_
      rotate_left
      ·intro w'
       go_simp
       with_reducible rfl
      rotate_left
      ·simp only [Act.put, List.setIfInBounds_toArray, List.set_cons_zero, List.set_cons_succ, i64_w, i32_w]
       rfl
      refine pure_ (i := 11) (N := some 39) (v := ?_) (a' := ?_) #[true, true, true, true, true, true, true, true, true, true, true, true, false, false] rfl rfl (any_of HT_.out (by kernel_rfl)) (fun _ _ _ h => h) (Or.inl ⟨by rfl, ?_⟩) ?_ ?_
      rotate_left
      ·intro w'
       go_simp
       with_reducible rfl
      rotate_left
      ·simp only [Act.put, List.setIfInBounds_toArray, List.set_cons_zero, List.set_cons_succ, i64_w, i32_w]
       rfl
      refine last_ (i := 12) (N := none) #[true, true, true, true, true, true, true, true, true, true, true, true, true, false] rfl rfl (one_of HT_.out (by kernel_rfl)) (by decide) (fun K hK => ?_)
      have hs24 : w22.cell? ⟨gb253, 0, none⟩ = some (.slice none 0 0) := (blk_cell BK253.out 0).trans rfl
      have hfs24 := blk_frozen BK253.out 0
      have hns24_0 := NB252_253.out
      have hms24_0 := NB253_252.out
      refine skip_ (w1 := ?_) (by rfl) rfl ?_ ?_
      rotate_left
      ·go_simp
       rfl
      refine hK.out _ _ ?_
      clear hK K
      refine pure_ (i := 13) (N := some 7) (v := ?_) (a' := ?_) #[true, true, true, true, true, true, true, true, true, true, true, true, true, true] rfl rfl (any_of HT_.out (by kernel_rfl)) (fun _ _ _ h => h) (Or.inl ⟨by rfl, ?_⟩) ?_ ?_
      rotate_left
      ·intro w'
       go_simp
       with_reducible rfl
      rotate_left
      ·simp only [Act.put, List.setIfInBounds_toArray, List.set_cons_zero, List.set_cons_succ, i64_w, i32_w]
       rfl
      refine done_ (done_of HT_.out (by kernel_rfl)) ?_
      try go_wp2
      refine bodyPost_ret (results_ct rfl _ _ gb253 30 #[.slice Ao23 t258.length co23] (0, 0) _ rfl (by (with_reducible repeat (first | refine blk_drewN ?_ _ | refine blk_drew ?_ | refine blk_alloc ?_ _)); refine blk_put (cs := #[.slice none 0 0]) ?_ 0 _ rfl; (with_reducible repeat (first | refine blk_drewN ?_ _ | refine blk_drew ?_ | refine blk_alloc ?_ _)); exact BK253.out) Try.underlying30 rfl (by kernel_rfl)) rfl ?_
      exact ⟨_, ze, zr (Kd.R_mono (Kd.R_far (p := ⟨gb253, 0, none⟩) (Kd.R_types HO260.out BK253.out (by decide)) (fun _ hk => hk.2) (.slice Ao23 t258.length co23)) (fun _ hk => hk.1)), zb HB.out, zk HK.out, zr (Kd.R_mono (Kd.R_far (p := ⟨gb253, 0, none⟩) (Kd.R_types HY.out BK253.out (by decide)) (fun _ hk => hk.2) (.slice Ao23 t258.length co23)) (fun _ hk => by first | exact hk | exact hk.1 | exact hk.1.1 | exact hk.1.1.1 | exact hk.1.1.1.1 | exact hk.1.1.1.1.1))⟩
     ·rw [if_neg c10] at H
      have c10b0 : (((rd_T34 l0_0 a1).f0) == 7) = false := beq_eq_false_iff_ne.mpr c10
      have c10b1 : (((rd_T34 l0_0 a1).f0) != 7) = true := bne_iff_ne.mpr c10
      simp only [Option.some.injEq, Prod.mk.injEq] at H
      obtain ⟨rfl, rfl⟩ := H
      obtain ⟨Ao25, co25, eo25⟩ := Kd.R_slice HO0_0.out
      subst eo25
      go_enter Try.func86, Try.ntmps86
      go_wp2_with (first | ((with_reducible refine gate_dst (N := 3) rfl ?_); refine box_event ?hg (N := 3) ?hd (cs := #[.slice Ao25 l0_0.length co25]) (t := 30) ?hr ?_; (case hd => rfl); (case hg => rfl); (case hr => first | (go_simp; done) | (go_simp; rfl)); intro gb252 hg w26 hbox hb; have n0_ := Aside0.mk (Kd.R_below (zr HO0_0.out) hb); have n1_ := Aside0.mk (Kept.below (S := (fun k_ => P0_0_ k_)) (zk HK.out) hb); have n2_ := Aside0.mk (below_step (zb HB.out) hb); have n3_ := Aside0.mk (hbox); have n4_ := Aside0.mk ((by rw [hg]; exact (by first | exact HK.out.1 | exact (show Kept w _ (fun k_ => P0_0_ k_) from zk HK.out).1) : w.heap.size ≤ gb252)); have n5_ := Aside0.mk ((by rw [hg]; exact (below_size (zb HB.out)) : w0.heap.size ≤ gb252)); clear HO0_0; clear HK; clear HB; have HO0_0 := n0_; have HK := n1_; have HB := n2_; have BK252 := n3_; have GW252 := n4_; have GE252 := n5_; clear n0_ n1_ n2_ n3_ n4_ n5_; clear hb hbox hg) | ((with_reducible refine gate_dst (N := 6) rfl ?_); refine box_event ?hg (N := 6) ?hd (cs := #[.slice none 0 0]) (t := 30) ?hr ?_; (case hd => rfl); (case hg => rfl); (case hr => first | (go_simp; done) | (go_simp; rfl)); intro gb253 hg w27 hbox hb; have n0_ := Aside0.mk (Kd.R_below (zr HO0_0.out) hb); have n1_ := Aside0.mk (blk_below (zh BK252.out) hb); have n2_ := Aside0.mk (Kept.below (S := (fun k_ => P0_0_ k_)) (zk HK.out) hb); have n3_ := Aside0.mk (below_step (zb HB.out) hb); have n4_ := Aside0.mk (hbox); have n5_ := Aside0.mk ((by rw [hg]; exact (by first | exact HK.out.1 | exact (show Kept w _ (fun k_ => P0_0_ k_) from zk HK.out).1) : w.heap.size ≤ gb253)); have n6_ := Aside0.mk ((by rw [hg]; exact (below_size (zb HB.out)) : w0.heap.size ≤ gb253)); have n7_ := Aside0.mk ((by rw [hg]; exact Nat.ne_of_lt (blk_lt (zh BK252.out)) : gb252 ≠ gb253)); have n8_ := Aside0.mk ((by rw [hg]; exact Nat.ne_of_gt (blk_lt (zh BK252.out)) : gb253 ≠ gb252)); clear HO0_0; clear BK252; clear HK; clear HB; have HO0_0 := n0_; have BK252 := n1_; have HK := n2_; have HB := n3_; have BK253 := n4_; have GW253 := n5_; have GE253 := n6_; have NB252_253 := n7_; have NB253_252 := n8_; clear n0_ n1_ n2_ n3_ n4_ n5_ n6_ n7_ n8_; clear hb hbox hg; have hnb28 := NB252_253.out; have hnc28 := NB253_252.out; have hcz29_0 : w27.cell? ⟨gb252, 0, none⟩ = some (.slice Ao25 l0_0.length co25) := (blk_cell BK252.out 0).trans rfl; have hfz29_0 := blk_frozen BK252.out 0) | ((with_reducible refine gate_callee (f := 66) rfl ?_); refine goesL_ (some 10) rfl rfl Try.func66 (by kernel_rfl) rfl #[.agg #[.slice Ao25 l0_0.length co25], .int .i64 a1] rfl zl ?_; (with_reducible refine (spec_l1Has.calls _ _ l0_0 a1 true _ ?side1 ?side2 A4.out).mono ?_); (case side1 => exact zc (Kd.R_reads' HO0_0.out).2.2); (case side2 => exact (Kd.R_reads' HO0_0.out).2.1); rintro e w30 ⟨rfl, hb⟩; refine ⟨_, rfl, ?_⟩; have n0_ := Aside0.mk (Kd.R_below (zr HO0_0.out) hb); have n1_ := Aside0.mk (blk_below (zh BK252.out) hb); have n2_ := Aside0.mk (blk_below (zh BK253.out) hb); have n3_ := Aside0.mk (Kept.below (S := (fun k_ => P0_0_ k_)) (zk HK.out) hb); have n4_ := Aside0.mk (below_step (zb HB.out) hb); clear HO0_0; clear BK252; clear BK253; clear HK; clear HB; have HO0_0 := n0_; have BK252 := n1_; have BK253 := n2_; have HK := n3_; have HB := n4_; clear n0_ n1_ n2_ n3_ n4_; (try clear hb); (try clear hb2); (try clear hk); (try clear hi); have hcz31_0 : w30.cell? ⟨gb252, 0, none⟩ = some (.slice Ao25 l0_0.length co25) := (blk_cell BK252.out 0).trans rfl; have hfz31_0 := blk_frozen BK252.out 0) | (go_at_call 66; (with_reducible refine (spec_l1Has.calls _ _ l0_0 a2 true _ ?side1 ?side2 A6.out).mono ?_); (case side1 => exact zc (Kd.R_reads' HO0_0.out).2.2); (case side2 => exact (Kd.R_reads' HO0_0.out).2.1); rintro e w32 ⟨rfl, hb⟩; have n0_ := Aside0.mk (Kd.R_below (zr HO0_0.out) hb); have n1_ := Aside0.mk (blk_below (zh BK252.out) hb); have n2_ := Aside0.mk (blk_below (zh BK253.out) hb); have n3_ := Aside0.mk (Kept.below (S := (fun k_ => P0_0_ k_)) (zk HK.out) hb); have n4_ := Aside0.mk (below_step (zb HB.out) hb); clear HO0_0; clear BK252; clear BK253; clear HK; clear HB; have HO0_0 := n0_; have BK252 := n1_; have BK253 := n2_; have HK := n3_; have HB := n4_; clear n0_ n1_ n2_ n3_ n4_; (try clear hb); (try clear hb2); (try clear hk); (try clear hi); have hcz33_0 : w32.cell? ⟨gb252, 0, none⟩ = some (.slice Ao25 l0_0.length co25) := (blk_cell BK252.out 0).trans rfl; have hfz33_0 := blk_frozen BK252.out 0; have p256 : 0 ≤ (a1 : Int) := of_decide_eq_true (by first | (with_reducible assumption) | assumption); have q256 : a1 < (l0_0.length : Int) := of_decide_eq_true (by first | (with_reducible assumption) | assumption); obtain ⟨ad256, e256, hx256_0, hx256_1, hx256_2⟩ := at_T34 (Kd.R_reads' HO0_0.out).2.2 a1 p256 q256; cases e256; replace p256 := eq_true p256; replace q256 := eq_true q256; have hcz34_0 : w32.cell? ⟨gb253, 0, none⟩ = some (.slice none 0 0) := (blk_cell BK253.out 0).trans rfl; have hfz34_0 := blk_frozen BK253.out 0))
      refine bodyPost_ret (results_ct rfl _ _ gb253 30 #[.slice (some ad256) l0_0.length co25] (0, 0) _ rfl (by (with_reducible repeat (first | refine blk_drewN ?_ _ | refine blk_drew ?_ | refine blk_alloc ?_ _)); refine blk_put (cs := #[.slice none 0 0]) ?_ 0 _ rfl; (with_reducible repeat (first | refine blk_drewN ?_ _ | refine blk_drew ?_ | refine blk_alloc ?_ _)); exact BK253.out) Try.underlying30 rfl (by kernel_rfl)) rfl ?_
      exact ⟨_, ze, zr (Kd.R_mono (Kd.R_far (p := ⟨gb253, 0, none⟩) (Kd.R_types HO0_0.out BK253.out (by decide)) (fun _ hk => hk.2) (.slice (some ad256) l0_0.length co25)) (fun _ hk => hk.1)), zb HB.out, zk HK.out, zr (Kd.R_mono (Kd.R_far (p := ⟨gb253, 0, none⟩) (Kd.R_types HO0_0.out BK253.out (by decide)) (fun _ hk => hk.2) (.slice (some ad256) l0_0.length co25)) (fun _ hk => by first | exact hk | exact hk.1 | exact hk.1.1 | exact hk.1.1.1 | exact hk.1.1.1.1 | exact hk.1.1.1.1.1))⟩
    ·rw [if_neg c9] at H
     exact absurd H (by simp)
   ·rw [if_neg c8] at H
    exact absurd H (by simp)
  ·replace c7 := Bool.eq_false_iff.mpr c7
   subst c7
   have H1 : (some (l0_0, (-1))) = some (r1, r2) := by rw [if_neg (show ¬ (false = true) by decide)] at H; exact H
   clear H
   have H := H1
   clear H1
   simp only [Option.some.injEq, Prod.mk.injEq] at H
   obtain ⟨rfl, rfl⟩ := H
   obtain ⟨Ao35, co35, eo35⟩ := Kd.R_slice HO0_0.out
   subst eo35
   go_enter Try.func86, Try.ntmps86
   go_wp2_with (first | ((with_reducible refine gate_dst (N := 3) rfl ?_); refine box_event ?hg (N := 3) ?hd (cs := #[.slice Ao35 l0_0.length co35]) (t := 30) ?hr ?_; (case hd => rfl); (case hg => rfl); (case hr => first | (go_simp; done) | (go_simp; rfl)); intro gb252 hg w36 hbox hb; have n0_ := Aside0.mk (Kd.R_below (zr HO0_0.out) hb); have n1_ := Aside0.mk (Kept.below (S := (fun k_ => P0_0_ k_)) (zk HK.out) hb); have n2_ := Aside0.mk (below_step (zb HB.out) hb); have n3_ := Aside0.mk (hbox); have n4_ := Aside0.mk ((by rw [hg]; exact (by first | exact HK.out.1 | exact (show Kept w _ (fun k_ => P0_0_ k_) from zk HK.out).1) : w.heap.size ≤ gb252)); have n5_ := Aside0.mk ((by rw [hg]; exact (below_size (zb HB.out)) : w0.heap.size ≤ gb252)); clear HO0_0; clear HK; clear HB; have HO0_0 := n0_; have HK := n1_; have HB := n2_; have BK252 := n3_; have GW252 := n4_; have GE252 := n5_; clear n0_ n1_ n2_ n3_ n4_ n5_; clear hb hbox hg) | ((with_reducible refine gate_dst (N := 6) rfl ?_); refine box_event ?hg (N := 6) ?hd (cs := #[.slice none 0 0]) (t := 30) ?hr ?_; (case hd => rfl); (case hg => rfl); (case hr => first | (go_simp; done) | (go_simp; rfl)); intro gb253 hg w37 hbox hb; have n0_ := Aside0.mk (Kd.R_below (zr HO0_0.out) hb); have n1_ := Aside0.mk (blk_below (zh BK252.out) hb); have n2_ := Aside0.mk (Kept.below (S := (fun k_ => P0_0_ k_)) (zk HK.out) hb); have n3_ := Aside0.mk (below_step (zb HB.out) hb); have n4_ := Aside0.mk (hbox); have n5_ := Aside0.mk ((by rw [hg]; exact (by first | exact HK.out.1 | exact (show Kept w _ (fun k_ => P0_0_ k_) from zk HK.out).1) : w.heap.size ≤ gb253)); have n6_ := Aside0.mk ((by rw [hg]; exact (below_size (zb HB.out)) : w0.heap.size ≤ gb253)); have n7_ := Aside0.mk ((by rw [hg]; exact Nat.ne_of_lt (blk_lt (zh BK252.out)) : gb252 ≠ gb253)); have n8_ := Aside0.mk ((by rw [hg]; exact Nat.ne_of_gt (blk_lt (zh BK252.out)) : gb253 ≠ gb252)); clear HO0_0; clear BK252; clear HK; clear HB; have HO0_0 := n0_; have BK252 := n1_; have HK := n2_; have HB := n3_; have BK253 := n4_; have GW253 := n5_; have GE253 := n6_; have NB252_253 := n7_; have NB253_252 := n8_; clear n0_ n1_ n2_ n3_ n4_ n5_ n6_ n7_ n8_; clear hb hbox hg; have hnb38 := NB252_253.out; have hnc38 := NB253_252.out; have hcz39_0 : w37.cell? ⟨gb252, 0, none⟩ = some (.slice Ao35 l0_0.length co35) := (blk_cell BK252.out 0).trans rfl; have hfz39_0 := blk_frozen BK252.out 0) | ((with_reducible refine gate_callee (f := 66) rfl ?_); refine goesL_ (some 10) rfl rfl Try.func66 (by kernel_rfl) rfl #[.agg #[.slice Ao35 l0_0.length co35], .int .i64 a1] rfl zl ?_; (with_reducible refine (spec_l1Has.calls _ _ l0_0 a1 true _ ?side1 ?side2 A4.out).mono ?_); (case side1 => exact zc (Kd.R_reads' HO0_0.out).2.2); (case side2 => exact (Kd.R_reads' HO0_0.out).2.1); rintro e w40 ⟨rfl, hb⟩; refine ⟨_, rfl, ?_⟩; have n0_ := Aside0.mk (Kd.R_below (zr HO0_0.out) hb); have n1_ := Aside0.mk (blk_below (zh BK252.out) hb); have n2_ := Aside0.mk (blk_below (zh BK253.out) hb); have n3_ := Aside0.mk (Kept.below (S := (fun k_ => P0_0_ k_)) (zk HK.out) hb); have n4_ := Aside0.mk (below_step (zb HB.out) hb); clear HO0_0; clear BK252; clear BK253; clear HK; clear HB; have HO0_0 := n0_; have BK252 := n1_; have BK253 := n2_; have HK := n3_; have HB := n4_; clear n0_ n1_ n2_ n3_ n4_; (try clear hb); (try clear hb2); (try clear hk); (try clear hi); have hcz41_0 : w40.cell? ⟨gb252, 0, none⟩ = some (.slice Ao35 l0_0.length co35) := (blk_cell BK252.out 0).trans rfl; have hfz41_0 := blk_frozen BK252.out 0) | (go_at_call 66; (with_reducible refine (spec_l1Has.calls _ _ l0_0 a2 false _ ?side1 ?side2 A6.out).mono ?_); (case side1 => exact zc (Kd.R_reads' HO0_0.out).2.2); (case side2 => exact (Kd.R_reads' HO0_0.out).2.1); rintro e w42 ⟨rfl, hb⟩; have n0_ := Aside0.mk (Kd.R_below (zr HO0_0.out) hb); have n1_ := Aside0.mk (blk_below (zh BK252.out) hb); have n2_ := Aside0.mk (blk_below (zh BK253.out) hb); have n3_ := Aside0.mk (Kept.below (S := (fun k_ => P0_0_ k_)) (zk HK.out) hb); have n4_ := Aside0.mk (below_step (zb HB.out) hb); clear HO0_0; clear BK252; clear BK253; clear HK; clear HB; have HO0_0 := n0_; have BK252 := n1_; have BK253 := n2_; have HK := n3_; have HB := n4_; clear n0_ n1_ n2_ n3_ n4_; (try clear hb); (try clear hb2); (try clear hk); (try clear hi); have hcz43_0 : w42.cell? ⟨gb252, 0, none⟩ = some (.slice Ao35 l0_0.length co35) := (blk_cell BK252.out 0).trans rfl; have hfz43_0 := blk_frozen BK252.out 0; have hcz44_0 : w42.cell? ⟨gb253, 0, none⟩ = some (.slice none 0 0) := (blk_cell BK253.out 0).trans rfl; have hfz44_0 := blk_frozen BK253.out 0))
   refine bodyPost_ret (results_ct rfl _ _ gb253 30 #[.slice Ao35 l0_0.length co35] (0, 0) _ rfl (by (with_reducible repeat (first | refine blk_drewN ?_ _ | refine blk_drew ?_ | refine blk_alloc ?_ _)); refine blk_put (cs := #[.slice none 0 0]) ?_ 0 _ rfl; (with_reducible repeat (first | refine blk_drewN ?_ _ | refine blk_drew ?_ | refine blk_alloc ?_ _)); exact BK253.out) Try.underlying30 rfl (by kernel_rfl)) rfl ?_
   exact ⟨_, ze, zr (Kd.R_mono (Kd.R_far (p := ⟨gb253, 0, none⟩) (Kd.R_types HO0_0.out BK253.out (by decide)) (fun _ hk => hk.2) (.slice Ao35 l0_0.length co35)) (fun _ hk => hk.1)), zb HB.out, zk HK.out, zr (Kd.R_mono (Kd.R_far (p := ⟨gb253, 0, none⟩) (Kd.R_types HO0_0.out BK253.out (by decide)) (fun _ hk => hk.2) (.slice Ao35 l0_0.length co35)) (fun _ hk => by first | exact hk | exact hk.1 | exact hk.1.1 | exact hk.1.1.1 | exact hk.1.1.1.1 | exact hk.1.1.1.1.1))⟩
 ·replace c5 := Bool.eq_false_iff.mpr c5
  subst c5
  have H1 : (some (l0_0, (-1))) = some (r1, r2) := by rw [if_neg (show ¬ (false = true) by decide)] at H; exact H
  clear H
  have H := H1
  clear H1
  simp only [Option.some.injEq, Prod.mk.injEq] at H
  obtain ⟨rfl, rfl⟩ := H
  obtain ⟨Ao45, co45, eo45⟩ := Kd.R_slice HO0_0.out
  subst eo45
  go_enter Try.func86, Try.ntmps86
  go_wp2_with (first | ((with_reducible refine gate_dst (N := 3) rfl ?_); refine box_event ?hg (N := 3) ?hd (cs := #[.slice Ao45 l0_0.length co45]) (t := 30) ?hr ?_; (case hd => rfl); (case hg => rfl); (case hr => first | (go_simp; done) | (go_simp; rfl)); intro gb252 hg w46 hbox hb; have n0_ := Aside0.mk (Kd.R_below (zr HO0_0.out) hb); have n1_ := Aside0.mk (Kept.below (S := (fun k_ => P0_0_ k_)) (zk HK.out) hb); have n2_ := Aside0.mk (below_step (zb HB.out) hb); have n3_ := Aside0.mk (hbox); have n4_ := Aside0.mk ((by rw [hg]; exact (by first | exact HK.out.1 | exact (show Kept w _ (fun k_ => P0_0_ k_) from zk HK.out).1) : w.heap.size ≤ gb252)); have n5_ := Aside0.mk ((by rw [hg]; exact (below_size (zb HB.out)) : w0.heap.size ≤ gb252)); clear HO0_0; clear HK; clear HB; have HO0_0 := n0_; have HK := n1_; have HB := n2_; have BK252 := n3_; have GW252 := n4_; have GE252 := n5_; clear n0_ n1_ n2_ n3_ n4_ n5_; clear hb hbox hg) | ((with_reducible refine gate_dst (N := 6) rfl ?_); refine box_event ?hg (N := 6) ?hd (cs := #[.slice none 0 0]) (t := 30) ?hr ?_; (case hd => rfl); (case hg => rfl); (case hr => first | (go_simp; done) | (go_simp; rfl)); intro gb253 hg w47 hbox hb; have n0_ := Aside0.mk (Kd.R_below (zr HO0_0.out) hb); have n1_ := Aside0.mk (blk_below (zh BK252.out) hb); have n2_ := Aside0.mk (Kept.below (S := (fun k_ => P0_0_ k_)) (zk HK.out) hb); have n3_ := Aside0.mk (below_step (zb HB.out) hb); have n4_ := Aside0.mk (hbox); have n5_ := Aside0.mk ((by rw [hg]; exact (by first | exact HK.out.1 | exact (show Kept w _ (fun k_ => P0_0_ k_) from zk HK.out).1) : w.heap.size ≤ gb253)); have n6_ := Aside0.mk ((by rw [hg]; exact (below_size (zb HB.out)) : w0.heap.size ≤ gb253)); have n7_ := Aside0.mk ((by rw [hg]; exact Nat.ne_of_lt (blk_lt (zh BK252.out)) : gb252 ≠ gb253)); have n8_ := Aside0.mk ((by rw [hg]; exact Nat.ne_of_gt (blk_lt (zh BK252.out)) : gb253 ≠ gb252)); clear HO0_0; clear BK252; clear HK; clear HB; have HO0_0 := n0_; have BK252 := n1_; have HK := n2_; have HB := n3_; have BK253 := n4_; have GW253 := n5_; have GE253 := n6_; have NB252_253 := n7_; have NB253_252 := n8_; clear n0_ n1_ n2_ n3_ n4_ n5_ n6_ n7_ n8_; clear hb hbox hg; have hnb48 := NB252_253.out; have hnc48 := NB253_252.out; have hcz49_0 : w47.cell? ⟨gb252, 0, none⟩ = some (.slice Ao45 l0_0.length co45) := (blk_cell BK252.out 0).trans rfl; have hfz49_0 := blk_frozen BK252.out 0) | ((with_reducible refine gate_callee (f := 66) rfl ?_); refine goesL_ (some 10) rfl rfl Try.func66 (by kernel_rfl) rfl #[.agg #[.slice Ao45 l0_0.length co45], .int .i64 a1] rfl zl ?_; (with_reducible refine (spec_l1Has.calls _ _ l0_0 a1 false _ ?side1 ?side2 A4.out).mono ?_); (case side1 => exact zc (Kd.R_reads' HO0_0.out).2.2); (case side2 => exact (Kd.R_reads' HO0_0.out).2.1); rintro e w50 ⟨rfl, hb⟩; refine ⟨_, rfl, ?_⟩; have n0_ := Aside0.mk (Kd.R_below (zr HO0_0.out) hb); have n1_ := Aside0.mk (blk_below (zh BK252.out) hb); have n2_ := Aside0.mk (blk_below (zh BK253.out) hb); have n3_ := Aside0.mk (Kept.below (S := (fun k_ => P0_0_ k_)) (zk HK.out) hb); have n4_ := Aside0.mk (below_step (zb HB.out) hb); clear HO0_0; clear BK252; clear BK253; clear HK; clear HB; have HO0_0 := n0_; have BK252 := n1_; have BK253 := n2_; have HK := n3_; have HB := n4_; clear n0_ n1_ n2_ n3_ n4_; (try clear hb); (try clear hb2); (try clear hk); (try clear hi); have hcz51_0 : w50.cell? ⟨gb252, 0, none⟩ = some (.slice Ao45 l0_0.length co45) := (blk_cell BK252.out 0).trans rfl; have hfz51_0 := blk_frozen BK252.out 0; have hcz52_0 : w50.cell? ⟨gb253, 0, none⟩ = some (.slice none 0 0) := (blk_cell BK253.out 0).trans rfl; have hfz52_0 := blk_frozen BK253.out 0))
  refine bodyPost_ret (results_ct rfl _ _ gb253 30 #[.slice Ao45 l0_0.length co45] (0, 0) _ rfl (by (with_reducible repeat (first | refine blk_drewN ?_ _ | refine blk_drew ?_ | refine blk_alloc ?_ _)); refine blk_put (cs := #[.slice none 0 0]) ?_ 0 _ rfl; (with_reducible repeat (first | refine blk_drewN ?_ _ | refine blk_drew ?_ | refine blk_alloc ?_ _)); exact BK253.out) Try.underlying30 rfl (by kernel_rfl)) rfl ?_
  exact ⟨_, ze, zr (Kd.R_mono (Kd.R_far (p := ⟨gb253, 0, none⟩) (Kd.R_types HO0_0.out BK253.out (by decide)) (fun _ hk => hk.2) (.slice Ao45 l0_0.length co45)) (fun _ hk => hk.1)), zb HB.out, zk HK.out, zr (Kd.R_mono (Kd.R_far (p := ⟨gb253, 0, none⟩) (Kd.R_types HO0_0.out BK253.out (by decide)) (fun _ hk => hk.2) (.slice Ao45 l0_0.length co45)) (fun _ hk => by first | exact hk | exact hk.1 | exact hk.1.1 | exact hk.1.1.1 | exact hk.1.1.1.1 | exact hk.1.1.1.1.1))⟩

theorem spec_l3Raise.calls (k : Nat) (P0_0_ : Nat → Prop) (u9000_ : Value) (l0_0 : List (S34)) (a1 : Int) (a2 : Int) (r1 : List (S34)) (r2 : Int) (w0 w : World) (hB : Below w0.heap.size w0 w) (ho0_0 : Kd.R k34 34 w w0.heap.size P0_0_ u9000_ l0_0) (h : spec_l3Raise.f k l0_0 a1 a2 = some (r1, r2)) :
  Calls Try.prog 86 #[.agg #[u9000_], .int .i64 a1, .int .i64 a2] w fun e w' => ∃ v0_ : Value, e = .returned (.tuple #[.agg #[v0_], .int .i64 r2]) ∧ Kd.R k34 34 w' w0.heap.size (fun k_ => (P0_0_ k_ ∨ w.heap.size ≤ k_)) v0_ r1 ∧ Below w0.heap.size w0 w' ∧ Kept w w' (fun k_ => P0_0_ k_) :=
 (spec_l3Raise.calls2 k P0_0_ u9000_ l0_0 a1 a2 r1 r2 w0 w hB ho0_0 h).mono (fun _ _ h => by obtain ⟨v, a, b, c, d, _⟩ := h; exact ⟨v, a, b, c, d⟩)




/-! ### spec_Raise: function 45 -/
def spec_Raise.f0 (k : Nat) (l0_0 : List (S34)) (a1 : Int) (a2 : Int) : Option ((List (S34)) × Int) := (spec_PoolOk.f k l0_0).bind fun t264 => (if t264 = true then ((spec_l3Raise.f k l0_0 a1 a2).bind fun bt265 => ((spec_l1Copy.f bt265.1).bind fun t270 => (some (t270, bt265.2)))) else (some (([] : List (S34)), (-1))))
def spec_Raise.f (k : Nat) (l0_0 : List (S34)) (a1 : Int) (a2 : Int) : Option ((List (S34)) × Int × (List (S34))) := (spec_Raise.f0 k l0_0 a1 a2).bind fun r_ => some (r_.1, r_.2, l0_0)
theorem spec_Raise.mono0 : ∀ a0 a1 a2 k, LeO (spec_Raise.f0 k a0 a1 a2) (spec_Raise.f0 (k + 1) a0 a1 a2) := by
 intro a0 a1 a2 k
 unfold spec_Raise.f0
 repeat' first
   | (with_reducible exact spec_PoolOk.mono _ _)
   | (with_reducible exact spec_l3Raise.mono _ _ _ _)
   | (with_reducible exact LeO.refl _)
   | (with_reducible exact LeO.none _)
   | (with_reducible refine LeO.ite ?_ ?_)
   | (with_reducible refine LeO.bind ?_ (fun _ => ?_))
   | exact spec_PoolOk.mono _ _
   | exact spec_l3Raise.mono _ _ _ _
   | exact LeO.none _
   | refine LeO.ite ?_ ?_
   | refine LeO.bind ?_ (fun _ => ?_)
theorem spec_Raise.mono : ∀ a0 a1 a2 k, LeO (spec_Raise.f k a0 a1 a2 ) (spec_Raise.f (k + 1) a0 a1 a2 ) := by
 intro a0 a1 a2 k
 unfold spec_Raise.f
 exact LeO.bind (spec_Raise.mono0 a0 a1 a2 k) (fun _ => LeO.refl _)
set_option maxHeartbeats 8000000 in
set_option maxRecDepth 100000 in
theorem spec_Raise.calls (k : Nat) (P0_0_ : Nat → Prop) (u9000_ : Value) (l0_0 : List (S34)) (a1 : Int) (a2 : Int) (r1 : List (S34)) (r2 : Int) (r3 : List (S34)) (w0 w : World) (hB : Below w0.heap.size w0 w) (ho0_0 : Kd.R k34 34 w w0.heap.size P0_0_ u9000_ l0_0) (h : spec_Raise.f k l0_0 a1 a2 = some (r1, r2, r3)) :
  Calls Try.prog 45 #[.agg #[u9000_], .int .i64 a1, .int .i64 a2] w fun e w' => ∃ v0_ : Value, e = .returned (.tuple #[.agg #[v0_], .int .i64 r2]) ∧ Kd.R k34 34 w' w0.heap.size (fun k_ => (P0_0_ k_ ∨ w.heap.size ≤ k_) ∧ some k_ ≠ u9000_.ownBlock) v0_ r1 ∧ Kd.R k34 34 w' w0.heap.size (fun k_ => (P0_0_ k_ ∨ w.heap.size ≤ k_)) u9000_ r3 ∧ Below w0.heap.size w0 w' ∧ Kept w w' (fun k_ => P0_0_ k_) := by
 have h' : spec_Raise.f0 k l0_0 a1 a2 = some (r1, r2) ∧ l0_0 = r3 := by
  unfold spec_Raise.f at h
  obtain ⟨r_, e1, e2⟩ := Option.bind_eq_some_iff.mp h
  simp only [Option.some.injEq, Prod.mk.injEq] at e2
  obtain ⟨rfl, rfl, rfl⟩ := e2
  exact ⟨e1, rfl⟩
 clear h
 obtain ⟨h, rfl⟩ := h'
 have hu30 := Try.underlying30
 have HO0_0 := Aside0.mk (show Kd.R k34 34 w w0.heap.size (fun k_ => (P0_0_ k_ ∨ w.heap.size ≤ k_)) u9000_ l0_0 from Kd.R_mono ho0_0 (fun k_ hk => (.inl hk)))
 have HK := Aside0.mk (Kept.refl w (fun k_ => P0_0_ k_))
 have HW0 := Aside0.mk hB.size
 have HB := Aside0.mk hB
 clear hB
 have H : ((spec_PoolOk.f k l0_0).bind fun t264 => (if t264 = true then ((spec_l3Raise.f k l0_0 a1 a2).bind fun bt265 => ((spec_l1Copy.f bt265.1).bind fun t270 => (some (t270, bt265.2)))) else (some (([] : List (S34)), (-1))))) = some (r1, r2) := h
 clear h
 replace H := Option.bind_eq_some_iff.mp H
 obtain ⟨t264, A40, H⟩ := H
 replace H : (if t264 = true then ((spec_l3Raise.f k l0_0 a1 a2).bind fun bt265 => ((spec_l1Copy.f bt265.1).bind fun t270 => (some (t270, bt265.2)))) else (some (([] : List (S34)), (-1)))) = some (r1, r2) := H
 have A4 := Aside0.mk A40
 clear A40
 by_cases c5 : t264 = true
 ·subst c5
  have H1 : ((spec_l3Raise.f k l0_0 a1 a2).bind fun bt265 => ((spec_l1Copy.f bt265.1).bind fun t270 => (some (t270, bt265.2)))) = some (r1, r2) := by rw [if_pos rfl] at H; exact H
  clear H
  have H := H1
  clear H1
  replace H := Option.bind_eq_some_iff.mp H
  obtain ⟨⟨t265, t268⟩, A60, H⟩ := H
  replace H : ((spec_l1Copy.f t265).bind fun t270 => (some (t270, t268))) = some (r1, r2) := H
  have A6 := Aside0.mk A60
  clear A60
  replace H := Option.bind_eq_some_iff.mp H
  obtain ⟨t270, A70, H⟩ := H
  replace H : (some (t270, t268)) = some (r1, r2) := H
  have A7 := Aside0.mk A70
  clear A70
  simp only [Option.some.injEq, Prod.mk.injEq] at H
  obtain ⟨rfl, rfl⟩ := H
  obtain ⟨Ao8, co8, eo8⟩ := Kd.R_slice HO0_0.out
  subst eo8
  go_enter Try.func45, Try.ntmps45
  go_wp2_with (first | ((with_reducible refine gate_dst (N := 3) rfl ?_); refine box_event ?hg (N := 3) ?hd (cs := #[.slice Ao8 l0_0.length co8]) (t := 30) ?hr ?_; (case hd => rfl); (case hg => rfl); (case hr => first | (go_simp; done) | (go_simp; rfl)); intro gb262 hg w9 hbox hb; have n0_ := Aside0.mk (Kd.R_below (zr HO0_0.out) hb); have n1_ := Aside0.mk (Kept.below (S := (fun k_ => P0_0_ k_)) (zk HK.out) hb); have n2_ := Aside0.mk (below_step (zb HB.out) hb); have n3_ := Aside0.mk (hbox); have n4_ := Aside0.mk ((by rw [hg]; exact (by first | exact HK.out.1 | exact (show Kept w _ (fun k_ => P0_0_ k_) from zk HK.out).1) : w.heap.size ≤ gb262)); have n5_ := Aside0.mk ((by rw [hg]; exact (below_size (zb HB.out)) : w0.heap.size ≤ gb262)); clear HO0_0; clear HK; clear HB; have HO0_0 := n0_; have HK := n1_; have HB := n2_; have BK262 := n3_; have GW262 := n4_; have GE262 := n5_; clear n0_ n1_ n2_ n3_ n4_ n5_; clear hb hbox hg) | ((with_reducible refine gate_dst (N := 6) rfl ?_); refine box_event ?hg (N := 6) ?hd (cs := #[.slice none 0 0]) (t := 30) ?hr ?_; (case hd => rfl); (case hg => rfl); (case hr => first | (go_simp; done) | (go_simp; rfl)); intro gb263 hg w10 hbox hb; have n0_ := Aside0.mk (Kd.R_below (zr HO0_0.out) hb); have n1_ := Aside0.mk (blk_below (zh BK262.out) hb); have n2_ := Aside0.mk (Kept.below (S := (fun k_ => P0_0_ k_)) (zk HK.out) hb); have n3_ := Aside0.mk (below_step (zb HB.out) hb); have n4_ := Aside0.mk (hbox); have n5_ := Aside0.mk ((by rw [hg]; exact (by first | exact HK.out.1 | exact (show Kept w _ (fun k_ => P0_0_ k_) from zk HK.out).1) : w.heap.size ≤ gb263)); have n6_ := Aside0.mk ((by rw [hg]; exact (below_size (zb HB.out)) : w0.heap.size ≤ gb263)); have n7_ := Aside0.mk ((by rw [hg]; exact Nat.ne_of_lt (blk_lt (zh BK262.out)) : gb262 ≠ gb263)); have n8_ := Aside0.mk ((by rw [hg]; exact Nat.ne_of_gt (blk_lt (zh BK262.out)) : gb263 ≠ gb262)); clear HO0_0; clear BK262; clear HK; clear HB; have HO0_0 := n0_; have BK262 := n1_; have HK := n2_; have HB := n3_; have BK263 := n4_; have GW263 := n5_; have GE263 := n6_; have NB262_263 := n7_; have NB263_262 := n8_; clear n0_ n1_ n2_ n3_ n4_ n5_ n6_ n7_ n8_; clear hb hbox hg; have hnb11 := NB262_263.out; have hnc11 := NB263_262.out; have hcz12_0 : w10.cell? ⟨gb262, 0, none⟩ = some (.slice Ao8 l0_0.length co8) := (blk_cell BK262.out 0).trans rfl; have hfz12_0 := blk_frozen BK262.out 0) | ((with_reducible refine gate_callee (f := 36) rfl ?_); refine goesL_ (some 11) rfl rfl Try.func36 (by kernel_rfl) rfl #[.agg #[.slice Ao8 l0_0.length co8]] rfl zl ?_; (with_reducible refine (spec_PoolOk.calls k _ _ l0_0 true _ ?side1 ?side2 A4.out).mono ?_); (case side1 => exact zc (Kd.R_reads' HO0_0.out).2.2); (case side2 => exact (Kd.R_reads' HO0_0.out).2.1); rintro e w13 ⟨rfl, hb⟩; refine ⟨_, rfl, ?_⟩; have n0_ := Aside0.mk (Kd.R_below (zr HO0_0.out) hb); have n1_ := Aside0.mk (blk_below (zh BK262.out) hb); have n2_ := Aside0.mk (blk_below (zh BK263.out) hb); have n3_ := Aside0.mk (Kept.below (S := (fun k_ => P0_0_ k_)) (zk HK.out) hb); have n4_ := Aside0.mk (below_step (zb HB.out) hb); clear HO0_0; clear BK262; clear BK263; clear HK; clear HB; have HO0_0 := n0_; have BK262 := n1_; have BK263 := n2_; have HK := n3_; have HB := n4_; clear n0_ n1_ n2_ n3_ n4_; (try clear hb); (try clear hb2); (try clear hk); (try clear hi); have hcz14_0 : w13.cell? ⟨gb262, 0, none⟩ = some (.slice Ao8 l0_0.length co8) := (blk_cell BK262.out 0).trans rfl; have hfz14_0 := blk_frozen BK262.out 0) | ((with_reducible refine gate_callee (f := 86) rfl ?_); refine goesL_ (some 18) rfl rfl Try.func86 (by kernel_rfl) rfl #[.agg #[.slice Ao8 l0_0.length co8], .int .i64 a1, .int .i64 a2] rfl zl ?_; (with_reducible refine (spec_l3Raise.calls2 k (fun k_ => some k_ = (.slice Ao8 l0_0.length co8 : Value).ownBlock) (.slice Ao8 l0_0.length co8) l0_0 a1 a2 t265 t268 w0 _ ?side1 ?side2 A6.out).mono ?_); (case side1 => repeat (first | (with_reducible first | exact HB.out | apply below_alloc | apply pw_below_drewN | apply below_drew1 | refine below_set ?_ GE262.out | refine below_set ?_ GE263.out) | exact HB.out)); (case side2 => exact Kd.R_tight rfl HO0_0.out); rintro e w15 ⟨v266, rfl, ho0, hb, hkp, hyy⟩; refine ⟨_, rfl, ?_⟩; have HY := Aside0.mk (Kd.R_reok rfl hyy (fun k_ e_ => HO0_0.out.1 k_ e_)); clear hyy; have n0_ := Aside0.mk (blk_kept (zh BK262.out) hkp (fun hs_ => (fun e_ => (Kd.R_ne HO0_0.out BK262.out (by decide)) e_) hs_)); have n1_ := Aside0.mk (blk_kept (zh BK263.out) hkp (fun hs_ => (fun e_ => (Kd.R_ne HO0_0.out BK263.out (by decide)) e_) hs_)); have n2_ := Aside0.mk (Kd.R_mono (ok' := fun k_ => (P0_0_ k_ ∨ w.heap.size ≤ k_)) ho0 (fun k_ hk_ => Or.elim hk_ (fun hs_ => (HO0_0.out.1 k_ (hs_).symm)) (fun hn_ => (.inr (Nat.le_trans (by first | exact HK.out.1 | exact (show Kept w _ (fun k_ => P0_0_ k_) from zk HK.out).1) hn_))))); have n3_ := Aside0.mk (Kept.then_ (S := (fun k_ => P0_0_ k_)) (zk HK.out) hkp (fun k_ hs_ => (fun e_ => (HO0_0.out.1 k_ e_.symm)) hs_)); have n4_ := Aside0.mk (hb); clear BK262; clear BK263; clear HK; clear HB; clear HO0_0; have BK262 := n0_; have BK263 := n1_; have HO267 := n2_; have HK := n3_; have HB := n4_; clear n0_ n1_ n2_ n3_ n4_; (try clear hb); (try clear hkp); (try clear ho0)) | ((with_reducible refine gate_dst (N := 8) rfl ?_); refine box_event ?hg (N := 8) ?hd (cs := #[.slice none 0 0]) (t := 30) ?hr ?_; (case hd => rfl); (case hg => rfl); (case hr => first | (go_simp; done) | (go_simp; rfl)); intro gb269 hg w16 hbox hb; have HYn := Aside0.mk (Kd.R_below HY.out hb); clear HY; have HY := HYn; clear HYn; have n0_ := Aside0.mk (Kd.R_below (zr HO267.out) hb); have n1_ := Aside0.mk (blk_below (zh BK262.out) hb); have n2_ := Aside0.mk (blk_below (zh BK263.out) hb); have n3_ := Aside0.mk (Kept.below (S := (fun k_ => P0_0_ k_)) (zk HK.out) hb); have n4_ := Aside0.mk (below_step (zb HB.out) hb); have n5_ := Aside0.mk (hbox); have n6_ := Aside0.mk ((by rw [hg]; exact (by first | exact HK.out.1 | exact (show Kept w _ (fun k_ => P0_0_ k_) from zk HK.out).1) : w.heap.size ≤ gb269)); have n7_ := Aside0.mk ((by rw [hg]; exact (below_size (zb HB.out)) : w0.heap.size ≤ gb269)); have n8_ := Aside0.mk ((by rw [hg]; exact Nat.ne_of_lt (blk_lt (zh BK262.out)) : gb262 ≠ gb269)); have n9_ := Aside0.mk ((by rw [hg]; exact Nat.ne_of_gt (blk_lt (zh BK262.out)) : gb269 ≠ gb262)); have n10_ := Aside0.mk ((by rw [hg]; exact Nat.ne_of_lt (blk_lt (zh BK263.out)) : gb263 ≠ gb269)); have n11_ := Aside0.mk ((by rw [hg]; exact Nat.ne_of_gt (blk_lt (zh BK263.out)) : gb269 ≠ gb263)); clear HO267; clear BK262; clear BK263; clear HK; clear HB; have HO267 := n0_; have BK262 := n1_; have BK263 := n2_; have HK := n3_; have HB := n4_; have BK269 := n5_; have GW269 := n6_; have GE269 := n7_; have NB262_269 := n8_; have NB269_262 := n9_; have NB263_269 := n10_; have NB269_263 := n11_; clear n0_ n1_ n2_ n3_ n4_ n5_ n6_ n7_ n8_ n9_ n10_ n11_; clear hb hbox hg; obtain ⟨Ao17, co17, eo17⟩ := Kd.R_slice HO267.out; subst eo17; have hnb18 := NB269_262.out; have hnc18 := NB262_269.out; have hnb19 := NB269_263.out; have hnc19 := NB263_269.out; have hcz20_0 : w16.cell? ⟨gb269, 0, none⟩ = some (.slice none 0 0) := (blk_cell BK269.out 0).trans rfl; have hfz20_0 := blk_frozen BK269.out 0) | ((with_reducible refine gate_callee (f := 59) rfl ?_); refine goesL_ (some 22) rfl rfl Try.func59 (by kernel_rfl) rfl #[.agg #[.slice Ao17 t265.length co17]] rfl zl ?_; (with_reducible refine (spec_l1Copy.calls _ _ t265 t270 _ ?side1 ?side2 A7.out).mono ?_); (case side1 => refine (Kd.R_reads' (e := 34) (base := w0.heap.size) (ok := fun k_ => (P0_0_ k_ ∨ w.heap.size ≤ k_)) (n := t265.length) (c := co17) ?_).2.2; exact (by (with_reducible repeat (first | apply Kd.R_alloc | apply Kd.R_drewN | apply Kd.R_drew)); exact (Kd.R_mono (Kd.R_far (p := ⟨gb269, 0, none⟩) (Kd.R_types HO267.out BK269.out (by decide)) (fun _ hk => hk.2) (.slice Ao17 t265.length co17)) (fun _ h_ => h_.1)))); (case side2 => exact (Kd.R_reads' HO267.out).2.1); rintro e w21 ⟨v271, rfl, ho0, hb⟩; refine ⟨_, rfl, ?_⟩; have HAP := Aside0.mk (fun k_ e_ => ((Kd.R_new' ho0 (Kd.R_lt (Kd.R_far (p := ⟨gb269, 0, none⟩) (Kd.R_types HY.out BK269.out (by decide)) (fun _ hk => hk.2) _))).1 k_ e_).2); have HYn := Aside0.mk (Kd.R_mono (Kd.R_below (Kd.R_far (p := ⟨gb269, 0, none⟩) (Kd.R_types HY.out BK269.out (by decide)) (fun _ hk => hk.2) _) hb) (fun _ hk => hk.1)); clear HY; have HY := HYn; clear HYn; have n0_ := Aside0.mk (Kd.R_elder' (by (with_reducible repeat (first | apply Kd.R_alloc | apply Kd.R_drewN | apply Kd.R_drew)); exact (Kd.R_mono (Kd.R_far (p := ⟨gb269, 0, none⟩) (Kd.R_types HO267.out BK269.out (by decide)) (fun _ hk => hk.2) (.slice Ao17 t265.length co17)) (fun _ h_ => h_.1))) (Kd.R_base ho0) hb); have n1_ := Aside0.mk (Kd.R_lower (Kd.R_new' (Kd.R_newM (M := fun k_ => (P0_0_ k_ ∨ w.heap.size ≤ k_)) ho0 (show Kept w _ (fun k_ => P0_0_ k_) from zk HK.out).1 (fun k_ h_ => .inr h_)) (Kd.R_lt (by (with_reducible repeat (first | apply Kd.R_alloc | apply Kd.R_drewN | apply Kd.R_drew)); exact (Kd.R_mono (Kd.R_far (p := ⟨gb269, 0, none⟩) (Kd.R_types HO267.out BK269.out (by decide)) (fun _ hk => hk.2) (.slice Ao17 t265.length co17)) (fun _ h_ => h_.1))))) (below_size (zb HB.out))); have n2_ := Aside0.mk (blk_below (g := gb262) (o := .cells #[.slice Ao8 l0_0.length co8] 30 (0, 0)) (zf BK262.out) hb); have n3_ := Aside0.mk (blk_below (g := gb263) (o := .cells #[.slice none 0 0] 30 (0, 0)) (zf BK263.out) hb); have n4_ := Aside0.mk (blk_below (g := gb269) (o := .cells #[.slice Ao17 t265.length co17] 30 (0, 0)) (by (with_reducible repeat (first | refine blk_drewN ?_ _ | refine blk_drew ?_ | refine blk_alloc ?_ _)); refine blk_put (cs := #[.slice none 0 0]) ?_ 0 _ rfl; (with_reducible repeat (first | refine blk_drewN ?_ _ | refine blk_drew ?_ | refine blk_alloc ?_ _)); exact BK269.out) hb); have n5_ := Aside0.mk (Kept.below (S := (fun k_ => P0_0_ k_)) (zk HK.out) hb); have n6_ := Aside0.mk (below_step (zb HB.out) hb); clear HO267; clear BK262; clear BK263; clear BK269; clear HK; clear HB; have HO267 := n0_; have HO272 := n1_; have BK262 := n2_; have BK263 := n3_; have BK269 := n4_; have HK := n5_; have HB := n6_; clear n0_ n1_ n2_ n3_ n4_ n5_ n6_; (try clear hb); (try clear hb2); (try clear hk); (try clear hi); (try clear ho0); obtain ⟨Ao22, co22, eo22⟩ := Kd.R_slice HO272.out; subst eo22; have hcz23_0 : w21.cell? ⟨gb263, 0, none⟩ = some (.slice none 0 0) := (blk_cell BK263.out 0).trans rfl; have hfz23_0 := blk_frozen BK263.out 0))
  refine bodyPost_ret (results_ct rfl _ _ gb263 30 #[.slice Ao22 t270.length co22] (0, 0) _ rfl (by (with_reducible repeat (first | refine blk_drewN ?_ _ | refine blk_drew ?_ | refine blk_alloc ?_ _)); refine blk_put (cs := #[.slice none 0 0]) ?_ 0 _ rfl; (with_reducible repeat (first | refine blk_drewN ?_ _ | refine blk_drew ?_ | refine blk_alloc ?_ _)); exact BK263.out) Try.underlying30 rfl (by kernel_rfl)) rfl ?_
  exact ⟨_, ze, spec_PoolAdd.apart (by (with_reducible repeat (first | apply Kd.R_alloc | apply Kd.R_drewN | apply Kd.R_drew)); exact Kd.R_mono (Kd.R_far (p := ⟨gb263, 0, none⟩) (Kd.R_types HO272.out BK263.out (by decide)) (fun _ hk => hk.2) (.slice Ao22 t270.length co22)) (fun _ hk => hk.1.1.1)) HAP.out, zr (Kd.R_mono (Kd.R_far (p := ⟨gb263, 0, none⟩) (Kd.R_types HY.out BK263.out (by decide)) (fun _ hk => hk.2) (.slice Ao22 t270.length co22)) (fun _ hk => by first | exact hk | exact hk.1 | exact hk.1.1 | exact hk.1.1.1 | exact hk.1.1.1.1 | exact hk.1.1.1.1.1)), zb HB.out, zk HK.out⟩
 ·replace c5 := Bool.eq_false_iff.mpr c5
  subst c5
  have H1 : (some (([] : List (S34)), (-1))) = some (r1, r2) := by rw [if_neg (show ¬ (false = true) by decide)] at H; exact H
  clear H
  have H := H1
  clear H1
  simp only [Option.some.injEq, Prod.mk.injEq] at H
  obtain ⟨rfl, rfl⟩ := H
  obtain ⟨Ao24, co24, eo24⟩ := Kd.R_slice HO0_0.out
  subst eo24
  go_enter Try.func45, Try.ntmps45
  go_wp2_with (first | ((with_reducible refine gate_dst (N := 3) rfl ?_); refine box_event ?hg (N := 3) ?hd (cs := #[.slice Ao24 l0_0.length co24]) (t := 30) ?hr ?_; (case hd => rfl); (case hg => rfl); (case hr => first | (go_simp; done) | (go_simp; rfl)); intro gb262 hg w25 hbox hb; have n0_ := Aside0.mk (Kd.R_below (zr HO0_0.out) hb); have n1_ := Aside0.mk (Kept.below (S := (fun k_ => P0_0_ k_)) (zk HK.out) hb); have n2_ := Aside0.mk (below_step (zb HB.out) hb); have n3_ := Aside0.mk (hbox); have n4_ := Aside0.mk ((by rw [hg]; exact (by first | exact HK.out.1 | exact (show Kept w _ (fun k_ => P0_0_ k_) from zk HK.out).1) : w.heap.size ≤ gb262)); have n5_ := Aside0.mk ((by rw [hg]; exact (below_size (zb HB.out)) : w0.heap.size ≤ gb262)); clear HO0_0; clear HK; clear HB; have HO0_0 := n0_; have HK := n1_; have HB := n2_; have BK262 := n3_; have GW262 := n4_; have GE262 := n5_; clear n0_ n1_ n2_ n3_ n4_ n5_; clear hb hbox hg) | ((with_reducible refine gate_dst (N := 6) rfl ?_); refine box_event ?hg (N := 6) ?hd (cs := #[.slice none 0 0]) (t := 30) ?hr ?_; (case hd => rfl); (case hg => rfl); (case hr => first | (go_simp; done) | (go_simp; rfl)); intro gb263 hg w26 hbox hb; have n0_ := Aside0.mk (Kd.R_below (zr HO0_0.out) hb); have n1_ := Aside0.mk (blk_below (zh BK262.out) hb); have n2_ := Aside0.mk (Kept.below (S := (fun k_ => P0_0_ k_)) (zk HK.out) hb); have n3_ := Aside0.mk (below_step (zb HB.out) hb); have n4_ := Aside0.mk (hbox); have n5_ := Aside0.mk ((by rw [hg]; exact (by first | exact HK.out.1 | exact (show Kept w _ (fun k_ => P0_0_ k_) from zk HK.out).1) : w.heap.size ≤ gb263)); have n6_ := Aside0.mk ((by rw [hg]; exact (below_size (zb HB.out)) : w0.heap.size ≤ gb263)); have n7_ := Aside0.mk ((by rw [hg]; exact Nat.ne_of_lt (blk_lt (zh BK262.out)) : gb262 ≠ gb263)); have n8_ := Aside0.mk ((by rw [hg]; exact Nat.ne_of_gt (blk_lt (zh BK262.out)) : gb263 ≠ gb262)); clear HO0_0; clear BK262; clear HK; clear HB; have HO0_0 := n0_; have BK262 := n1_; have HK := n2_; have HB := n3_; have BK263 := n4_; have GW263 := n5_; have GE263 := n6_; have NB262_263 := n7_; have NB263_262 := n8_; clear n0_ n1_ n2_ n3_ n4_ n5_ n6_ n7_ n8_; clear hb hbox hg; have hnb27 := NB262_263.out; have hnc27 := NB263_262.out; have hcz28_0 : w26.cell? ⟨gb262, 0, none⟩ = some (.slice Ao24 l0_0.length co24) := (blk_cell BK262.out 0).trans rfl; have hfz28_0 := blk_frozen BK262.out 0) | ((with_reducible refine gate_callee (f := 36) rfl ?_); refine goesL_ (some 11) rfl rfl Try.func36 (by kernel_rfl) rfl #[.agg #[.slice Ao24 l0_0.length co24]] rfl zl ?_; (with_reducible refine (spec_PoolOk.calls k _ _ l0_0 false _ ?side1 ?side2 A4.out).mono ?_); (case side1 => exact zc (Kd.R_reads' HO0_0.out).2.2); (case side2 => exact (Kd.R_reads' HO0_0.out).2.1); rintro e w29 ⟨rfl, hb⟩; refine ⟨_, rfl, ?_⟩; have n0_ := Aside0.mk (Kd.R_below (zr HO0_0.out) hb); have n1_ := Aside0.mk (blk_below (zh BK262.out) hb); have n2_ := Aside0.mk (blk_below (zh BK263.out) hb); have n3_ := Aside0.mk (Kept.below (S := (fun k_ => P0_0_ k_)) (zk HK.out) hb); have n4_ := Aside0.mk (below_step (zb HB.out) hb); clear HO0_0; clear BK262; clear BK263; clear HK; clear HB; have HO0_0 := n0_; have BK262 := n1_; have BK263 := n2_; have HK := n3_; have HB := n4_; clear n0_ n1_ n2_ n3_ n4_; (try clear hb); (try clear hb2); (try clear hk); (try clear hi); have hcz30_0 : w29.cell? ⟨gb263, 0, none⟩ = some (.slice none 0 0) := (blk_cell BK263.out 0).trans rfl; have hfz30_0 := blk_frozen BK263.out 0))
  refine bodyPost_ret (results_ct rfl _ _ gb263 30 #[.slice none 0 0] (0, 0) _ rfl (by (with_reducible repeat (first | refine blk_drewN ?_ _ | refine blk_drew ?_ | refine blk_alloc ?_ _)); refine blk_put (cs := #[.slice none 0 0]) ?_ 0 _ rfl; (with_reducible repeat (first | refine blk_drewN ?_ _ | refine blk_drew ?_ | refine blk_alloc ?_ _)); exact BK263.out) Try.underlying30 rfl (by kernel_rfl)) rfl ?_
  exact ⟨_, ze, by first | exact Kd.R_nil _ _ _ _ _ | exact Kd.N_nil _ _ _ _ _ | exact Kd.V_nil _ _ _ _ _ | exact Kd.Q_nil _ _ _ _ _ | exact Kd.S_nil _ _ _ _ _, zr (Kd.R_mono (Kd.R_far (p := ⟨gb263, 0, none⟩) (Kd.R_types HO0_0.out BK263.out (by decide)) (fun _ hk => hk.2) (.slice none 0 0)) (fun _ hk => by first | exact hk | exact hk.1 | exact hk.1.1 | exact hk.1.1.1 | exact hk.1.1.1.1 | exact hk.1.1.1.1.1)), zb HB.out, zk HK.out⟩



/-! ### impl_inRange: function 95 -/
def impl_inRange.f (a0 : Int) (a1 : Int) (a2 : Int) : Option (Bool) := if a0 ≥ a1 then (some (decide (a0 ≤ a2))) else (some false)
set_option maxHeartbeats 8000000 in
set_option maxRecDepth 100000 in
theorem impl_inRange.calls (a0 : Int) (a1 : Int) (a2 : Int) (r : Bool) (w : World) (h : impl_inRange.f a0 a1 a2 = some r) :
  Calls Try.prog 95 #[.int .i64 a0, .int .i64 a1, .int .i64 a2] w fun e w' => e = .returned (.bool r) ∧ Drawn0 w w' := by
 have H : (if a0 ≥ a1 then (some (decide (a0 ≤ a2))) else (some false)) = some r := h
 clear h
 by_cases c4 : a0 ≥ a1
 ·rw [if_pos c4] at H
  have c4b0 : decide (a1 ≤ a0) = true := decide_eq_true c4
  clear c4
  obtain rfl := Option.some.inj H
  go_enter Try.func95, Try.ntmps95
  go_wp2
  go_ret
  exact ⟨by first | rfl | (simp; done) | (simp [*]; done), by repeat (first | exact Drawn0.refl _ | apply Drawn0.step)⟩
 ·rw [if_neg c4] at H
  have c4b0 : decide (a1 ≤ a0) = false := decide_eq_false c4
  clear c4
  obtain rfl := Option.some.inj H
  go_enter Try.func95, Try.ntmps95
  go_wp2
  go_ret
  exact ⟨by first | rfl | (simp; done) | (simp [*]; done), by repeat (first | exact Drawn0.refl _ | apply Drawn0.step)⟩

end Go.Proofs.Ytafahnellnfclaa.R
end

section
-- Written by this session's program (wip/tools/gprint.py over the kit's print) out of the translation; Lean checks it.
namespace Go.Proofs.Ytafahnellnfclaa.R
open Go.RowKit Go.Proofs.YtafahnellnfclaaW.PrintWords Go.Proofs.YtafahnellnfclaaW.PrintLast Go.Proofs.YtafahnellnfclaaW.PrintMore
attribute [local go_sem] max2_int min2_int max_two min_two max_three min_three max_four min_four   -- for this text's walks alone
set_option linter.unusedVariables false
set_option linter.unusedSimpArgs false
set_option maxRecDepth 100000

/-! ### impl_count: function 96 -/
def impl_count.j0 : Nat → Int → Bool → Option (Int)
 | 0, _, _ => none
 | k + 1, x3, x6 => if x6 = true then (some 1) else (if x3 = 2 then (some 2) else (if x3 = 3 then (some 2) else (if x3 = 4 then (some 2) else (if x3 = 6 then (some 2) else (if x3 = 8 then (some 2) else (some (-1)))))))
def impl_count.f (k : Nat) (a0 : Int) : Option (Int) := if a0 = 1 then (some 0) else (if a0 = 5 then (impl_count.j0 k a0 (a0 == 5)) else (impl_count.j0 k a0 (a0 == 7)))
theorem impl_count.mono_l : ∀ k, (∀ y0 y1, LeO (impl_count.j0 k y0 y1) (impl_count.j0 (k + 1) y0 y1))
 | 0 => fun _ _ r h => by simp [impl_count.j0] at h
 | k + 1 => by
  have ih0 := impl_count.mono_l k
  ·intro y0 y1
   unfold impl_count.j0
   repeat' first
   | (with_reducible exact ih0 _ _)
   | (with_reducible exact LeO.refl _)
   | (with_reducible exact LeO.none _)
   | (with_reducible refine LeO.ite ?_ ?_)
   | (with_reducible refine LeO.bind ?_ (fun _ => ?_))
   | exact ih0 _ _
   | exact LeO.none _
   | refine LeO.ite ?_ ?_
   | refine LeO.bind ?_ (fun _ => ?_)
theorem impl_count.mono : ∀ a0 k, LeO (impl_count.f k a0) (impl_count.f (k + 1) a0) := by
 intro a0 k
 have ih0 := impl_count.mono_l k
 unfold impl_count.f
 repeat' first
   | (with_reducible exact ih0 _ _)
   | (with_reducible exact LeO.refl _)
   | (with_reducible exact LeO.none _)
   | (with_reducible refine LeO.ite ?_ ?_)
   | (with_reducible refine LeO.bind ?_ (fun _ => ?_))
   | exact ih0 _ _
   | exact LeO.none _
   | refine LeO.ite ?_ ?_
   | refine LeO.bind ?_ (fun _ => ?_)
set_option maxHeartbeats 8000000 in
set_option maxRecDepth 100000 in
theorem impl_count.calls (k : Nat) (a0 : Int) (r : Int) (w : World) (h : impl_count.f k a0 = some r) :
  Calls Try.prog 96 #[.int .i64 a0] w fun e w' => e = .returned (.int .i64 r) ∧ Drawn0 w w' := by
 have H : (if a0 = 1 then (some 0) else (if a0 = 5 then (impl_count.j0 k a0 (a0 == 5)) else (impl_count.j0 k a0 (a0 == 7)))) = some r := h
 clear h
 by_cases c2 : a0 = 1
 ·rw [if_pos c2] at H
  have c2b0 : (a0 == 1) = true := beq_iff_eq.mpr c2
  have c2b1 : (a0 != 1) = false := bne_eq_false_iff_eq.mpr c2
  clear c2
  obtain rfl := Option.some.inj H
  go_enter Try.func96, Try.ntmps96
  go_wp2
  go_ret
  exact ⟨by first | rfl | (simp; done) | (simp [*]; done), by repeat (first | exact Drawn0.refl _ | apply Drawn0.step)⟩
 ·rw [if_neg c2] at H
  have c2b0 : (a0 == 1) = false := beq_eq_false_iff_ne.mpr c2
  have c2b1 : (a0 != 1) = true := bne_iff_ne.mpr c2
  have HC3 := Aside0.mk H
  clear H
  go_enter Try.func96, Try.ntmps96
  go_upto_if 6 with (fail)
  go_cut [6] (fun v6 wc => ∃ (kq : Nat) (x6_2 : Bool), v6 = .bool x6_2 ∧ Aside0 (impl_count.j0 kq a0 x6_2 = some r) ∧ Aside0 (kq ≤ k) ∧ Drawn0 w wc)
  case first =>
   have H := HC3.out
   clear HC3
   by_cases c4 : a0 = 5
   ·rw [if_pos c4] at H
    have c4b0 : (a0 == 5) = true := beq_iff_eq.mpr c4
    have c4b1 : (a0 != 5) = false := bne_eq_false_iff_eq.mpr c4
    clear c4
    (first | rw [c4b0] | (simp only [i64_w, i32_w]; rw [c4b0]) | skip)
    have H' := Aside0.mk H
    clear H
    go_wp2
    go_meet
    case rel => exact ⟨_, ((a0 == 5)), (by first | rfl | (simp; done) | (simp [*]; done)), H', ⟨by first | omega | exact Nat.le_refl _⟩, by repeat (first | exact Drawn0.refl _ | apply Drawn0.step)⟩
   ·rw [if_neg c4] at H
    have c4b0 : (a0 == 5) = false := beq_eq_false_iff_ne.mpr c4
    have c4b1 : (a0 != 5) = true := bne_iff_ne.mpr c4
    (first | rw [c4b0] | (simp only [i64_w, i32_w]; rw [c4b0]) | skip)
    have H' := Aside0.mk H
    clear H
    go_wp2
    go_meet
    case rel => exact ⟨_, ((a0 == 7)), (by first | rfl | (simp; done) | (simp [*]; done)), H', ⟨by first | omega | exact Nat.le_refl _⟩, by repeat (first | exact Drawn0.refl _ | apply Drawn0.step)⟩
  case rest =>
   clear HC3
   try clear c2
   try clear c2b0
   try clear c2b1
   try clear p2
   try clear c4
   try clear c4b0
   try clear c4b1
   obtain ⟨kq, x6_2, rfl, HA, HJ2, ⟨mc2, rfl⟩⟩ := hcut
   cases kq with
   | zero => exact absurd HA.out (by simp [impl_count.j0])
   | succ kj2 =>
    have H := HA.out
    clear HA
    simp only [impl_count.j0] at H
    by_cases c5 : x6_2 = true
    ·subst c5
     have H1 : (some 1) = some r := by rw [if_pos rfl] at H; exact H
     clear H
     have H := H1
     clear H1
     obtain rfl := Option.some.inj H
     go_wp2
     go_ret
     exact ⟨by first | rfl | (simp; done) | (simp [*]; done), by repeat (first | exact Drawn0.refl _ | apply Drawn0.step)⟩
    ·replace c5 := Bool.eq_false_iff.mpr c5
     subst c5
     have H1 : (if a0 = 2 then (some 2) else (if a0 = 3 then (some 2) else (if a0 = 4 then (some 2) else (if a0 = 6 then (some 2) else (if a0 = 8 then (some 2) else (some (-1))))))) = some r := by rw [if_neg (show ¬ (false = true) by decide)] at H; exact H
     clear H
     have H := H1
     clear H1
     by_cases c6 : a0 = 2
     ·rw [if_pos c6] at H
      have c6b0 : (a0 == 2) = true := beq_iff_eq.mpr c6
      have c6b1 : (a0 != 2) = false := bne_eq_false_iff_eq.mpr c6
      clear c6
      obtain rfl := Option.some.inj H
      go_wp2
      go_ret
      exact ⟨by first | rfl | (simp; done) | (simp [*]; done), by repeat (first | exact Drawn0.refl _ | apply Drawn0.step)⟩
     ·rw [if_neg c6] at H
      have c6b0 : (a0 == 2) = false := beq_eq_false_iff_ne.mpr c6
      have c6b1 : (a0 != 2) = true := bne_iff_ne.mpr c6
      by_cases c7 : a0 = 3
      ·rw [if_pos c7] at H
       have c7b0 : (a0 == 3) = true := beq_iff_eq.mpr c7
       have c7b1 : (a0 != 3) = false := bne_eq_false_iff_eq.mpr c7
       clear c7
       obtain rfl := Option.some.inj H
       go_wp2
       go_ret
       exact ⟨by first | rfl | (simp; done) | (simp [*]; done), by repeat (first | exact Drawn0.refl _ | apply Drawn0.step)⟩
      ·rw [if_neg c7] at H
       have c7b0 : (a0 == 3) = false := beq_eq_false_iff_ne.mpr c7
       have c7b1 : (a0 != 3) = true := bne_iff_ne.mpr c7
       by_cases c8 : a0 = 4
       ·rw [if_pos c8] at H
        have c8b0 : (a0 == 4) = true := beq_iff_eq.mpr c8
        have c8b1 : (a0 != 4) = false := bne_eq_false_iff_eq.mpr c8
        clear c8
        obtain rfl := Option.some.inj H
        go_wp2
        go_ret
        exact ⟨by first | rfl | (simp; done) | (simp [*]; done), by repeat (first | exact Drawn0.refl _ | apply Drawn0.step)⟩
       ·rw [if_neg c8] at H
        have c8b0 : (a0 == 4) = false := beq_eq_false_iff_ne.mpr c8
        have c8b1 : (a0 != 4) = true := bne_iff_ne.mpr c8
        by_cases c9 : a0 = 6
        ·rw [if_pos c9] at H
         have c9b0 : (a0 == 6) = true := beq_iff_eq.mpr c9
         have c9b1 : (a0 != 6) = false := bne_eq_false_iff_eq.mpr c9
         clear c9
         obtain rfl := Option.some.inj H
         go_wp2
         go_ret
         exact ⟨by first | rfl | (simp; done) | (simp [*]; done), by repeat (first | exact Drawn0.refl _ | apply Drawn0.step)⟩
        ·rw [if_neg c9] at H
         have c9b0 : (a0 == 6) = false := beq_eq_false_iff_ne.mpr c9
         have c9b1 : (a0 != 6) = true := bne_iff_ne.mpr c9
         by_cases c10 : a0 = 8
         ·rw [if_pos c10] at H
          have c10b0 : (a0 == 8) = true := beq_iff_eq.mpr c10
          have c10b1 : (a0 != 8) = false := bne_eq_false_iff_eq.mpr c10
          clear c10
          obtain rfl := Option.some.inj H
          go_wp2
          go_ret
          exact ⟨by first | rfl | (simp; done) | (simp [*]; done), by repeat (first | exact Drawn0.refl _ | apply Drawn0.step)⟩
         ·rw [if_neg c10] at H
          have c10b0 : (a0 == 8) = false := beq_eq_false_iff_ne.mpr c10
          have c10b1 : (a0 != 8) = true := bne_iff_ne.mpr c10
          obtain rfl := Option.some.inj H
          go_wp2
          go_ret
          exact ⟨by first | rfl | (simp; done) | (simp [*]; done), by repeat (first | exact Drawn0.refl _ | apply Drawn0.step)⟩

/-! ### impl_nodeOk: function 83 -/
def impl_nodeOk.f (k : Nat) (a0_0 : Int) (a0_1 : Int) (a0_2 : Int) (a1 : Int) : Option (Bool) := (impl_count.f k a0_0).bind fun t126 => (if t126 = 0 then ((impl_inRange.f a0_1 0 199).bind fun t127 => (if t127 = true then (some (a0_2 == 0)) else (some false))) else (if t126 = 1 then ((impl_inRange.f a0_1 0 (wrap64 (a1 - 1))).bind fun t128 => (if t128 = true then (some (a0_2 == 0)) else (some false))) else (if t126 = 2 then ((impl_inRange.f a0_1 0 (wrap64 (a1 - 1))).bind fun t129 => (if t129 = true then ((impl_inRange.f a0_2 0 (wrap64 (a1 - 1))).bind fun t130 => (if t130 = true then (if a0_0 = 8 then (some (decide (a0_1 ≤ a0_2))) else (some true)) else (some false))) else (some false))) else (some false))))
theorem impl_nodeOk.mono : ∀ a0 a1 a2 a3 k, LeO (impl_nodeOk.f k a0 a1 a2 a3) (impl_nodeOk.f (k + 1) a0 a1 a2 a3) := by
 intro a0 a1 a2 a3 k
 unfold impl_nodeOk.f
 repeat' first
   | (with_reducible exact impl_count.mono _ _)
   | (with_reducible exact LeO.refl _)
   | (with_reducible exact LeO.none _)
   | (with_reducible refine LeO.ite ?_ ?_)
   | (with_reducible refine LeO.bind ?_ (fun _ => ?_))
   | exact impl_count.mono _ _
   | exact LeO.none _
   | refine LeO.ite ?_ ?_
   | refine LeO.bind ?_ (fun _ => ?_)
set_option maxHeartbeats 8000000 in
set_option maxRecDepth 100000 in
theorem impl_nodeOk.calls (k : Nat) (a0_0 : Int) (a0_1 : Int) (a0_2 : Int) (a1 : Int) (r : Bool) (w : World) (h : impl_nodeOk.f k a0_0 a0_1 a0_2 a1 = some r) :
  Calls Try.prog 83 #[.agg #[.int .i64 a0_0, .int .i64 a0_1, .int .i64 a0_2], .int .i64 a1] w fun e w' => e = .returned (.bool r) ∧ Below w.heap.size w w' := by
 have hu34 := Try.underlying34
 have HB := Aside0.mk (Below.refl w.heap.size w)
 have H : ((impl_count.f k a0_0).bind fun t126 => (if t126 = 0 then ((impl_inRange.f a0_1 0 199).bind fun t127 => (if t127 = true then (some (a0_2 == 0)) else (some false))) else (if t126 = 1 then ((impl_inRange.f a0_1 0 (wrap64 (a1 - 1))).bind fun t128 => (if t128 = true then (some (a0_2 == 0)) else (some false))) else (if t126 = 2 then ((impl_inRange.f a0_1 0 (wrap64 (a1 - 1))).bind fun t129 => (if t129 = true then ((impl_inRange.f a0_2 0 (wrap64 (a1 - 1))).bind fun t130 => (if t130 = true then (if a0_0 = 8 then (some (decide (a0_1 ≤ a0_2))) else (some true)) else (some false))) else (some false))) else (some false))))) = some r := h
 clear h
 replace H := Option.bind_eq_some_iff.mp H
 obtain ⟨t126, A30, H⟩ := H
 replace H : (if t126 = 0 then ((impl_inRange.f a0_1 0 199).bind fun t127 => (if t127 = true then (some (a0_2 == 0)) else (some false))) else (if t126 = 1 then ((impl_inRange.f a0_1 0 (wrap64 (a1 - 1))).bind fun t128 => (if t128 = true then (some (a0_2 == 0)) else (some false))) else (if t126 = 2 then ((impl_inRange.f a0_1 0 (wrap64 (a1 - 1))).bind fun t129 => (if t129 = true then ((impl_inRange.f a0_2 0 (wrap64 (a1 - 1))).bind fun t130 => (if t130 = true then (if a0_0 = 8 then (some (decide (a0_1 ≤ a0_2))) else (some true)) else (some false))) else (some false))) else (some false)))) = some r := H
 have A3 := Aside0.mk A30
 clear A30
 by_cases c4 : t126 = 0
 ·rw [if_pos c4] at H
  have c4b0 : (t126 == 0) = true := beq_iff_eq.mpr c4
  have c4b1 : (t126 != 0) = false := bne_eq_false_iff_eq.mpr c4
  clear c4
  replace H := Option.bind_eq_some_iff.mp H
  obtain ⟨t127, A50, H⟩ := H
  replace H : (if t127 = true then (some (a0_2 == 0)) else (some false)) = some r := H
  have A5 := Aside0.mk A50
  clear A50
  by_cases c6 : t127 = true
  ·subst c6
   have H1 : (some (a0_2 == 0)) = some r := by rw [if_pos rfl] at H; exact H
   clear H
   have H := H1
   clear H1
   obtain rfl := Option.some.inj H
   go_enter Try.func83, Try.ntmps83
   go_wp2_with (first | ((with_reducible refine gate_dst (N := 2) rfl ?_); refine box_event ?hg (N := 2) ?hd (cs := #[.int .i64 a0_0, .int .i64 a0_1, .int .i64 a0_2]) (t := 34) ?hr ?_; (case hd => rfl); (case hg => rfl); (case hr => first | (go_simp; done) | (go_simp; rfl)); intro gb125 hg w7 hbox hb; have n0_ := Aside0.mk (below_step (zb HB.out) hb); have n1_ := Aside0.mk (hbox); have n2_ := Aside0.mk ((by rw [hg]; exact (below_size (zb HB.out)) : w.heap.size ≤ gb125)); have n3_ := Aside0.mk ((by rw [hg]; exact (below_size (zb HB.out)) : w.heap.size ≤ gb125)); clear HB; have HB := n0_; have BK125 := n1_; have GW125 := n2_; have GE125 := n3_; clear n0_ n1_ n2_ n3_; clear hb hbox hg; have hcz8_0 : w7.cell? ⟨gb125, 0, none⟩ = some (.int .i64 a0_0) := (blk_cell BK125.out 0).trans rfl; have hcz8_1 : w7.cell? ⟨gb125, 1, none⟩ = some (.int .i64 a0_1) := (blk_cell BK125.out 1).trans rfl; have hcz8_2 : w7.cell? ⟨gb125, 2, none⟩ = some (.int .i64 a0_2) := (blk_cell BK125.out 2).trans rfl; have hfz8_0 := blk_frozen BK125.out 0; have hfz8_1 := blk_frozen BK125.out 1; have hfz8_2 := blk_frozen BK125.out 2) | ((with_reducible refine gate_callee (f := 96) rfl ?_); refine goesL_ (some 7) rfl rfl Try.func96 (by kernel_rfl) rfl #[.int .i64 a0_0] rfl zl ?_; (with_reducible refine (impl_count.calls k a0_0 t126 _ A3.out).mono ?_); rintro e w' ⟨rfl, ⟨nd, rfl⟩⟩; refine ⟨_, rfl, ?_⟩) | ((with_reducible refine gate_callee (f := 95) rfl ?_); refine goesL_ (some 12) rfl rfl Try.func95 (by kernel_rfl) rfl #[.int .i64 a0_1, .int .i64 0, .int .i64 199] rfl zl ?_; (with_reducible refine (impl_inRange.calls a0_1 0 199 true _ A5.out).mono ?_); rintro e w' ⟨rfl, ⟨nd, rfl⟩⟩; refine ⟨_, rfl, ?_⟩))
   go_ret
   exact ⟨ze, zb HB.out⟩
  ·replace c6 := Bool.eq_false_iff.mpr c6
   subst c6
   have H1 : (some false) = some r := by rw [if_neg (show ¬ (false = true) by decide)] at H; exact H
   clear H
   have H := H1
   clear H1
   obtain rfl := Option.some.inj H
   go_enter Try.func83, Try.ntmps83
   go_wp2_with (first | ((with_reducible refine gate_dst (N := 2) rfl ?_); refine box_event ?hg (N := 2) ?hd (cs := #[.int .i64 a0_0, .int .i64 a0_1, .int .i64 a0_2]) (t := 34) ?hr ?_; (case hd => rfl); (case hg => rfl); (case hr => first | (go_simp; done) | (go_simp; rfl)); intro gb125 hg w9 hbox hb; have n0_ := Aside0.mk (below_step (zb HB.out) hb); have n1_ := Aside0.mk (hbox); have n2_ := Aside0.mk ((by rw [hg]; exact (below_size (zb HB.out)) : w.heap.size ≤ gb125)); have n3_ := Aside0.mk ((by rw [hg]; exact (below_size (zb HB.out)) : w.heap.size ≤ gb125)); clear HB; have HB := n0_; have BK125 := n1_; have GW125 := n2_; have GE125 := n3_; clear n0_ n1_ n2_ n3_; clear hb hbox hg; have hcz10_0 : w9.cell? ⟨gb125, 0, none⟩ = some (.int .i64 a0_0) := (blk_cell BK125.out 0).trans rfl; have hcz10_1 : w9.cell? ⟨gb125, 1, none⟩ = some (.int .i64 a0_1) := (blk_cell BK125.out 1).trans rfl; have hcz10_2 : w9.cell? ⟨gb125, 2, none⟩ = some (.int .i64 a0_2) := (blk_cell BK125.out 2).trans rfl; have hfz10_0 := blk_frozen BK125.out 0; have hfz10_1 := blk_frozen BK125.out 1; have hfz10_2 := blk_frozen BK125.out 2) | ((with_reducible refine gate_callee (f := 96) rfl ?_); refine goesL_ (some 7) rfl rfl Try.func96 (by kernel_rfl) rfl #[.int .i64 a0_0] rfl zl ?_; (with_reducible refine (impl_count.calls k a0_0 t126 _ A3.out).mono ?_); rintro e w' ⟨rfl, ⟨nd, rfl⟩⟩; refine ⟨_, rfl, ?_⟩) | ((with_reducible refine gate_callee (f := 95) rfl ?_); refine goesL_ (some 12) rfl rfl Try.func95 (by kernel_rfl) rfl #[.int .i64 a0_1, .int .i64 0, .int .i64 199] rfl zl ?_; (with_reducible refine (impl_inRange.calls a0_1 0 199 false _ A5.out).mono ?_); rintro e w' ⟨rfl, ⟨nd, rfl⟩⟩; refine ⟨_, rfl, ?_⟩))
   go_ret
   exact ⟨ze, zb HB.out⟩
 ·rw [if_neg c4] at H
  have c4b0 : (t126 == 0) = false := beq_eq_false_iff_ne.mpr c4
  have c4b1 : (t126 != 0) = true := bne_iff_ne.mpr c4
  by_cases c11 : t126 = 1
  ·rw [if_pos c11] at H
   have c11b0 : (t126 == 1) = true := beq_iff_eq.mpr c11
   have c11b1 : (t126 != 1) = false := bne_eq_false_iff_eq.mpr c11
   clear c11
   replace H := Option.bind_eq_some_iff.mp H
   obtain ⟨t128, A120, H⟩ := H
   replace H : (if t128 = true then (some (a0_2 == 0)) else (some false)) = some r := H
   have A12 := Aside0.mk A120
   clear A120
   by_cases c13 : t128 = true
   ·subst c13
    have H1 : (some (a0_2 == 0)) = some r := by rw [if_pos rfl] at H; exact H
    clear H
    have H := H1
    clear H1
    obtain rfl := Option.some.inj H
    go_enter Try.func83, Try.ntmps83
    go_wp2_with (first | ((with_reducible refine gate_dst (N := 2) rfl ?_); refine box_event ?hg (N := 2) ?hd (cs := #[.int .i64 a0_0, .int .i64 a0_1, .int .i64 a0_2]) (t := 34) ?hr ?_; (case hd => rfl); (case hg => rfl); (case hr => first | (go_simp; done) | (go_simp; rfl)); intro gb125 hg w14 hbox hb; have n0_ := Aside0.mk (below_step (zb HB.out) hb); have n1_ := Aside0.mk (hbox); have n2_ := Aside0.mk ((by rw [hg]; exact (below_size (zb HB.out)) : w.heap.size ≤ gb125)); have n3_ := Aside0.mk ((by rw [hg]; exact (below_size (zb HB.out)) : w.heap.size ≤ gb125)); clear HB; have HB := n0_; have BK125 := n1_; have GW125 := n2_; have GE125 := n3_; clear n0_ n1_ n2_ n3_; clear hb hbox hg; have hcz15_0 : w14.cell? ⟨gb125, 0, none⟩ = some (.int .i64 a0_0) := (blk_cell BK125.out 0).trans rfl; have hcz15_1 : w14.cell? ⟨gb125, 1, none⟩ = some (.int .i64 a0_1) := (blk_cell BK125.out 1).trans rfl; have hcz15_2 : w14.cell? ⟨gb125, 2, none⟩ = some (.int .i64 a0_2) := (blk_cell BK125.out 2).trans rfl; have hfz15_0 := blk_frozen BK125.out 0; have hfz15_1 := blk_frozen BK125.out 1; have hfz15_2 := blk_frozen BK125.out 2) | ((with_reducible refine gate_callee (f := 96) rfl ?_); refine goesL_ (some 7) rfl rfl Try.func96 (by kernel_rfl) rfl #[.int .i64 a0_0] rfl zl ?_; (with_reducible refine (impl_count.calls k a0_0 t126 _ A3.out).mono ?_); rintro e w' ⟨rfl, ⟨nd, rfl⟩⟩; refine ⟨_, rfl, ?_⟩) | ((with_reducible refine gate_callee (f := 95) rfl ?_); refine goesL_ (some 24) rfl rfl Try.func95 (by kernel_rfl) rfl #[.int .i64 a0_1, .int .i64 0, .int .i64 (wrap64 (a1 - 1))] rfl zl ?_; (with_reducible refine (impl_inRange.calls a0_1 0 (wrap64 (a1 - 1)) true _ A12.out).mono ?_); rintro e w' ⟨rfl, ⟨nd, rfl⟩⟩; refine ⟨_, rfl, ?_⟩))
    go_ret
    exact ⟨ze, zb HB.out⟩
   ·replace c13 := Bool.eq_false_iff.mpr c13
    subst c13
    have H1 : (some false) = some r := by rw [if_neg (show ¬ (false = true) by decide)] at H; exact H
    clear H
    have H := H1
    clear H1
    obtain rfl := Option.some.inj H
    go_enter Try.func83, Try.ntmps83
    go_wp2_with (first | ((with_reducible refine gate_dst (N := 2) rfl ?_); refine box_event ?hg (N := 2) ?hd (cs := #[.int .i64 a0_0, .int .i64 a0_1, .int .i64 a0_2]) (t := 34) ?hr ?_; (case hd => rfl); (case hg => rfl); (case hr => first | (go_simp; done) | (go_simp; rfl)); intro gb125 hg w16 hbox hb; have n0_ := Aside0.mk (below_step (zb HB.out) hb); have n1_ := Aside0.mk (hbox); have n2_ := Aside0.mk ((by rw [hg]; exact (below_size (zb HB.out)) : w.heap.size ≤ gb125)); have n3_ := Aside0.mk ((by rw [hg]; exact (below_size (zb HB.out)) : w.heap.size ≤ gb125)); clear HB; have HB := n0_; have BK125 := n1_; have GW125 := n2_; have GE125 := n3_; clear n0_ n1_ n2_ n3_; clear hb hbox hg; have hcz17_0 : w16.cell? ⟨gb125, 0, none⟩ = some (.int .i64 a0_0) := (blk_cell BK125.out 0).trans rfl; have hcz17_1 : w16.cell? ⟨gb125, 1, none⟩ = some (.int .i64 a0_1) := (blk_cell BK125.out 1).trans rfl; have hcz17_2 : w16.cell? ⟨gb125, 2, none⟩ = some (.int .i64 a0_2) := (blk_cell BK125.out 2).trans rfl; have hfz17_0 := blk_frozen BK125.out 0; have hfz17_1 := blk_frozen BK125.out 1; have hfz17_2 := blk_frozen BK125.out 2) | ((with_reducible refine gate_callee (f := 96) rfl ?_); refine goesL_ (some 7) rfl rfl Try.func96 (by kernel_rfl) rfl #[.int .i64 a0_0] rfl zl ?_; (with_reducible refine (impl_count.calls k a0_0 t126 _ A3.out).mono ?_); rintro e w' ⟨rfl, ⟨nd, rfl⟩⟩; refine ⟨_, rfl, ?_⟩) | ((with_reducible refine gate_callee (f := 95) rfl ?_); refine goesL_ (some 24) rfl rfl Try.func95 (by kernel_rfl) rfl #[.int .i64 a0_1, .int .i64 0, .int .i64 (wrap64 (a1 - 1))] rfl zl ?_; (with_reducible refine (impl_inRange.calls a0_1 0 (wrap64 (a1 - 1)) false _ A12.out).mono ?_); rintro e w' ⟨rfl, ⟨nd, rfl⟩⟩; refine ⟨_, rfl, ?_⟩))
    go_ret
    exact ⟨ze, zb HB.out⟩
  ·rw [if_neg c11] at H
   have c11b0 : (t126 == 1) = false := beq_eq_false_iff_ne.mpr c11
   have c11b1 : (t126 != 1) = true := bne_iff_ne.mpr c11
   by_cases c18 : t126 = 2
   ·rw [if_pos c18] at H
    have c18b0 : (t126 == 2) = true := beq_iff_eq.mpr c18
    have c18b1 : (t126 != 2) = false := bne_eq_false_iff_eq.mpr c18
    clear c18
    replace H := Option.bind_eq_some_iff.mp H
    obtain ⟨t129, A190, H⟩ := H
    replace H : (if t129 = true then ((impl_inRange.f a0_2 0 (wrap64 (a1 - 1))).bind fun t130 => (if t130 = true then (if a0_0 = 8 then (some (decide (a0_1 ≤ a0_2))) else (some true)) else (some false))) else (some false)) = some r := H
    have A19 := Aside0.mk A190
    clear A190
    by_cases c20 : t129 = true
    ·subst c20
     have H1 : ((impl_inRange.f a0_2 0 (wrap64 (a1 - 1))).bind fun t130 => (if t130 = true then (if a0_0 = 8 then (some (decide (a0_1 ≤ a0_2))) else (some true)) else (some false))) = some r := by rw [if_pos rfl] at H; exact H
     clear H
     have H := H1
     clear H1
     replace H := Option.bind_eq_some_iff.mp H
     obtain ⟨t130, A210, H⟩ := H
     replace H : (if t130 = true then (if a0_0 = 8 then (some (decide (a0_1 ≤ a0_2))) else (some true)) else (some false)) = some r := H
     have A21 := Aside0.mk A210
     clear A210
     by_cases c22 : t130 = true
     ·subst c22
      have H1 : (if a0_0 = 8 then (some (decide (a0_1 ≤ a0_2))) else (some true)) = some r := by rw [if_pos rfl] at H; exact H
      clear H
      have H := H1
      clear H1
      by_cases c23 : a0_0 = 8
      ·rw [if_pos c23] at H
       have c23b0 : (a0_0 == 8) = true := beq_iff_eq.mpr c23
       have c23b1 : (a0_0 != 8) = false := bne_eq_false_iff_eq.mpr c23
       clear c23
       obtain rfl := Option.some.inj H
       go_enter Try.func83, Try.ntmps83
       go_wp2_with (first | ((with_reducible refine gate_dst (N := 2) rfl ?_); refine box_event ?hg (N := 2) ?hd (cs := #[.int .i64 a0_0, .int .i64 a0_1, .int .i64 a0_2]) (t := 34) ?hr ?_; (case hd => rfl); (case hg => rfl); (case hr => first | (go_simp; done) | (go_simp; rfl)); intro gb125 hg w24 hbox hb; have n0_ := Aside0.mk (below_step (zb HB.out) hb); have n1_ := Aside0.mk (hbox); have n2_ := Aside0.mk ((by rw [hg]; exact (below_size (zb HB.out)) : w.heap.size ≤ gb125)); have n3_ := Aside0.mk ((by rw [hg]; exact (below_size (zb HB.out)) : w.heap.size ≤ gb125)); clear HB; have HB := n0_; have BK125 := n1_; have GW125 := n2_; have GE125 := n3_; clear n0_ n1_ n2_ n3_; clear hb hbox hg; have hcz25_0 : w24.cell? ⟨gb125, 0, none⟩ = some (.int .i64 a0_0) := (blk_cell BK125.out 0).trans rfl; have hcz25_1 : w24.cell? ⟨gb125, 1, none⟩ = some (.int .i64 a0_1) := (blk_cell BK125.out 1).trans rfl; have hcz25_2 : w24.cell? ⟨gb125, 2, none⟩ = some (.int .i64 a0_2) := (blk_cell BK125.out 2).trans rfl; have hfz25_0 := blk_frozen BK125.out 0; have hfz25_1 := blk_frozen BK125.out 1; have hfz25_2 := blk_frozen BK125.out 2) | ((with_reducible refine gate_callee (f := 96) rfl ?_); refine goesL_ (some 7) rfl rfl Try.func96 (by kernel_rfl) rfl #[.int .i64 a0_0] rfl zl ?_; (with_reducible refine (impl_count.calls k a0_0 t126 _ A3.out).mono ?_); rintro e w' ⟨rfl, ⟨nd, rfl⟩⟩; refine ⟨_, rfl, ?_⟩) | ((with_reducible refine gate_callee (f := 95) rfl ?_); refine goesL_ (some 36) rfl rfl Try.func95 (by kernel_rfl) rfl #[.int .i64 a0_1, .int .i64 0, .int .i64 (wrap64 (a1 - 1))] rfl zl ?_; (with_reducible refine (impl_inRange.calls a0_1 0 (wrap64 (a1 - 1)) true _ A19.out).mono ?_); rintro e w' ⟨rfl, ⟨nd, rfl⟩⟩; refine ⟨_, rfl, ?_⟩) | (go_at_call 95; (with_reducible refine (impl_inRange.calls a0_2 0 (wrap64 (a1 - 1)) true _ A21.out).mono ?_); rintro e w' ⟨rfl, ⟨nd, rfl⟩⟩))
       go_ret
       exact ⟨ze, zb HB.out⟩
      ·rw [if_neg c23] at H
       have c23b0 : (a0_0 == 8) = false := beq_eq_false_iff_ne.mpr c23
       have c23b1 : (a0_0 != 8) = true := bne_iff_ne.mpr c23
       obtain rfl := Option.some.inj H
       go_enter Try.func83, Try.ntmps83
       go_wp2_with (first | ((with_reducible refine gate_dst (N := 2) rfl ?_); refine box_event ?hg (N := 2) ?hd (cs := #[.int .i64 a0_0, .int .i64 a0_1, .int .i64 a0_2]) (t := 34) ?hr ?_; (case hd => rfl); (case hg => rfl); (case hr => first | (go_simp; done) | (go_simp; rfl)); intro gb125 hg w26 hbox hb; have n0_ := Aside0.mk (below_step (zb HB.out) hb); have n1_ := Aside0.mk (hbox); have n2_ := Aside0.mk ((by rw [hg]; exact (below_size (zb HB.out)) : w.heap.size ≤ gb125)); have n3_ := Aside0.mk ((by rw [hg]; exact (below_size (zb HB.out)) : w.heap.size ≤ gb125)); clear HB; have HB := n0_; have BK125 := n1_; have GW125 := n2_; have GE125 := n3_; clear n0_ n1_ n2_ n3_; clear hb hbox hg; have hcz27_0 : w26.cell? ⟨gb125, 0, none⟩ = some (.int .i64 a0_0) := (blk_cell BK125.out 0).trans rfl; have hcz27_1 : w26.cell? ⟨gb125, 1, none⟩ = some (.int .i64 a0_1) := (blk_cell BK125.out 1).trans rfl; have hcz27_2 : w26.cell? ⟨gb125, 2, none⟩ = some (.int .i64 a0_2) := (blk_cell BK125.out 2).trans rfl; have hfz27_0 := blk_frozen BK125.out 0; have hfz27_1 := blk_frozen BK125.out 1; have hfz27_2 := blk_frozen BK125.out 2) | ((with_reducible refine gate_callee (f := 96) rfl ?_); refine goesL_ (some 7) rfl rfl Try.func96 (by kernel_rfl) rfl #[.int .i64 a0_0] rfl zl ?_; (with_reducible refine (impl_count.calls k a0_0 t126 _ A3.out).mono ?_); rintro e w' ⟨rfl, ⟨nd, rfl⟩⟩; refine ⟨_, rfl, ?_⟩) | ((with_reducible refine gate_callee (f := 95) rfl ?_); refine goesL_ (some 36) rfl rfl Try.func95 (by kernel_rfl) rfl #[.int .i64 a0_1, .int .i64 0, .int .i64 (wrap64 (a1 - 1))] rfl zl ?_; (with_reducible refine (impl_inRange.calls a0_1 0 (wrap64 (a1 - 1)) true _ A19.out).mono ?_); rintro e w' ⟨rfl, ⟨nd, rfl⟩⟩; refine ⟨_, rfl, ?_⟩) | (go_at_call 95; (with_reducible refine (impl_inRange.calls a0_2 0 (wrap64 (a1 - 1)) true _ A21.out).mono ?_); rintro e w' ⟨rfl, ⟨nd, rfl⟩⟩))
       go_ret
       exact ⟨ze, zb HB.out⟩
     ·replace c22 := Bool.eq_false_iff.mpr c22
      subst c22
      have H1 : (some false) = some r := by rw [if_neg (show ¬ (false = true) by decide)] at H; exact H
      clear H
      have H := H1
      clear H1
      obtain rfl := Option.some.inj H
      go_enter Try.func83, Try.ntmps83
      go_wp2_with (first | ((with_reducible refine gate_dst (N := 2) rfl ?_); refine box_event ?hg (N := 2) ?hd (cs := #[.int .i64 a0_0, .int .i64 a0_1, .int .i64 a0_2]) (t := 34) ?hr ?_; (case hd => rfl); (case hg => rfl); (case hr => first | (go_simp; done) | (go_simp; rfl)); intro gb125 hg w28 hbox hb; have n0_ := Aside0.mk (below_step (zb HB.out) hb); have n1_ := Aside0.mk (hbox); have n2_ := Aside0.mk ((by rw [hg]; exact (below_size (zb HB.out)) : w.heap.size ≤ gb125)); have n3_ := Aside0.mk ((by rw [hg]; exact (below_size (zb HB.out)) : w.heap.size ≤ gb125)); clear HB; have HB := n0_; have BK125 := n1_; have GW125 := n2_; have GE125 := n3_; clear n0_ n1_ n2_ n3_; clear hb hbox hg; have hcz29_0 : w28.cell? ⟨gb125, 0, none⟩ = some (.int .i64 a0_0) := (blk_cell BK125.out 0).trans rfl; have hcz29_1 : w28.cell? ⟨gb125, 1, none⟩ = some (.int .i64 a0_1) := (blk_cell BK125.out 1).trans rfl; have hcz29_2 : w28.cell? ⟨gb125, 2, none⟩ = some (.int .i64 a0_2) := (blk_cell BK125.out 2).trans rfl; have hfz29_0 := blk_frozen BK125.out 0; have hfz29_1 := blk_frozen BK125.out 1; have hfz29_2 := blk_frozen BK125.out 2) | ((with_reducible refine gate_callee (f := 96) rfl ?_); refine goesL_ (some 7) rfl rfl Try.func96 (by kernel_rfl) rfl #[.int .i64 a0_0] rfl zl ?_; (with_reducible refine (impl_count.calls k a0_0 t126 _ A3.out).mono ?_); rintro e w' ⟨rfl, ⟨nd, rfl⟩⟩; refine ⟨_, rfl, ?_⟩) | ((with_reducible refine gate_callee (f := 95) rfl ?_); refine goesL_ (some 36) rfl rfl Try.func95 (by kernel_rfl) rfl #[.int .i64 a0_1, .int .i64 0, .int .i64 (wrap64 (a1 - 1))] rfl zl ?_; (with_reducible refine (impl_inRange.calls a0_1 0 (wrap64 (a1 - 1)) true _ A19.out).mono ?_); rintro e w' ⟨rfl, ⟨nd, rfl⟩⟩; refine ⟨_, rfl, ?_⟩) | (go_at_call 95; (with_reducible refine (impl_inRange.calls a0_2 0 (wrap64 (a1 - 1)) false _ A21.out).mono ?_); rintro e w' ⟨rfl, ⟨nd, rfl⟩⟩))
      go_ret
      exact ⟨ze, zb HB.out⟩
    ·replace c20 := Bool.eq_false_iff.mpr c20
     subst c20
     have H1 : (some false) = some r := by rw [if_neg (show ¬ (false = true) by decide)] at H; exact H
     clear H
     have H := H1
     clear H1
     obtain rfl := Option.some.inj H
     go_enter Try.func83, Try.ntmps83
     go_wp2_with (first | ((with_reducible refine gate_dst (N := 2) rfl ?_); refine box_event ?hg (N := 2) ?hd (cs := #[.int .i64 a0_0, .int .i64 a0_1, .int .i64 a0_2]) (t := 34) ?hr ?_; (case hd => rfl); (case hg => rfl); (case hr => first | (go_simp; done) | (go_simp; rfl)); intro gb125 hg w30 hbox hb; have n0_ := Aside0.mk (below_step (zb HB.out) hb); have n1_ := Aside0.mk (hbox); have n2_ := Aside0.mk ((by rw [hg]; exact (below_size (zb HB.out)) : w.heap.size ≤ gb125)); have n3_ := Aside0.mk ((by rw [hg]; exact (below_size (zb HB.out)) : w.heap.size ≤ gb125)); clear HB; have HB := n0_; have BK125 := n1_; have GW125 := n2_; have GE125 := n3_; clear n0_ n1_ n2_ n3_; clear hb hbox hg; have hcz31_0 : w30.cell? ⟨gb125, 0, none⟩ = some (.int .i64 a0_0) := (blk_cell BK125.out 0).trans rfl; have hcz31_1 : w30.cell? ⟨gb125, 1, none⟩ = some (.int .i64 a0_1) := (blk_cell BK125.out 1).trans rfl; have hcz31_2 : w30.cell? ⟨gb125, 2, none⟩ = some (.int .i64 a0_2) := (blk_cell BK125.out 2).trans rfl; have hfz31_0 := blk_frozen BK125.out 0; have hfz31_1 := blk_frozen BK125.out 1; have hfz31_2 := blk_frozen BK125.out 2) | ((with_reducible refine gate_callee (f := 96) rfl ?_); refine goesL_ (some 7) rfl rfl Try.func96 (by kernel_rfl) rfl #[.int .i64 a0_0] rfl zl ?_; (with_reducible refine (impl_count.calls k a0_0 t126 _ A3.out).mono ?_); rintro e w' ⟨rfl, ⟨nd, rfl⟩⟩; refine ⟨_, rfl, ?_⟩) | ((with_reducible refine gate_callee (f := 95) rfl ?_); refine goesL_ (some 36) rfl rfl Try.func95 (by kernel_rfl) rfl #[.int .i64 a0_1, .int .i64 0, .int .i64 (wrap64 (a1 - 1))] rfl zl ?_; (with_reducible refine (impl_inRange.calls a0_1 0 (wrap64 (a1 - 1)) false _ A19.out).mono ?_); rintro e w' ⟨rfl, ⟨nd, rfl⟩⟩; refine ⟨_, rfl, ?_⟩))
     go_ret
     exact ⟨ze, zb HB.out⟩
   ·rw [if_neg c18] at H
    have c18b0 : (t126 == 2) = false := beq_eq_false_iff_ne.mpr c18
    have c18b1 : (t126 != 2) = true := bne_iff_ne.mpr c18
    obtain rfl := Option.some.inj H
    go_enter Try.func83, Try.ntmps83
    go_wp2_with (first | ((with_reducible refine gate_dst (N := 2) rfl ?_); refine box_event ?hg (N := 2) ?hd (cs := #[.int .i64 a0_0, .int .i64 a0_1, .int .i64 a0_2]) (t := 34) ?hr ?_; (case hd => rfl); (case hg => rfl); (case hr => first | (go_simp; done) | (go_simp; rfl)); intro gb125 hg w32 hbox hb; have n0_ := Aside0.mk (below_step (zb HB.out) hb); have n1_ := Aside0.mk (hbox); have n2_ := Aside0.mk ((by rw [hg]; exact (below_size (zb HB.out)) : w.heap.size ≤ gb125)); have n3_ := Aside0.mk ((by rw [hg]; exact (below_size (zb HB.out)) : w.heap.size ≤ gb125)); clear HB; have HB := n0_; have BK125 := n1_; have GW125 := n2_; have GE125 := n3_; clear n0_ n1_ n2_ n3_; clear hb hbox hg; have hcz33_0 : w32.cell? ⟨gb125, 0, none⟩ = some (.int .i64 a0_0) := (blk_cell BK125.out 0).trans rfl; have hcz33_1 : w32.cell? ⟨gb125, 1, none⟩ = some (.int .i64 a0_1) := (blk_cell BK125.out 1).trans rfl; have hcz33_2 : w32.cell? ⟨gb125, 2, none⟩ = some (.int .i64 a0_2) := (blk_cell BK125.out 2).trans rfl; have hfz33_0 := blk_frozen BK125.out 0; have hfz33_1 := blk_frozen BK125.out 1; have hfz33_2 := blk_frozen BK125.out 2) | ((with_reducible refine gate_callee (f := 96) rfl ?_); refine goesL_ (some 7) rfl rfl Try.func96 (by kernel_rfl) rfl #[.int .i64 a0_0] rfl zl ?_; (with_reducible refine (impl_count.calls k a0_0 t126 _ A3.out).mono ?_); rintro e w' ⟨rfl, ⟨nd, rfl⟩⟩; refine ⟨_, rfl, ?_⟩))
    go_ret
    exact ⟨ze, zb HB.out⟩

end Go.Proofs.Ytafahnellnfclaa.R
end
