import Derived.Test.YtgohebghlgamiaaYP0
import Derived.Test.YtgohebghlgamiaaYPg0
import Derived.Test.YtgohebghlgamiaaYPg2
section
-- Written by this session's program (wip/tools/gprint.py over the kit's print) out of the translation; Lean checks it.
namespace Go.Proofs.Ytgohebghlgamiaa.P
open Go.RowKit Go.Proofs.YtgohebghlgamiaaW.PrintWords Go.Proofs.YtgohebghlgamiaaW.PrintLast Go.Proofs.YtgohebghlgamiaaW.PrintMore
attribute [local go_sem] max2_int min2_int max_two min_two max_three min_three max_four min_four   -- for this text's walks alone
set_option linter.unusedVariables false
set_option linter.unusedSimpArgs false
set_option maxRecDepth 100000

attribute [local go_sem high] eqA51
/-! ### impl_KnowOk: function 38 -/
def impl_KnowOk.l0 : Nat → List Int → List Int → Int → Int → List (S51) → Option (Bool)
 | 0, _, _, _, _, _ => none
 | k + 1, x1, x7, x8, x9, x173000 => if x9 < x8 then (if 0 ≤ x9 then (if x9 < (x7.length : Int) then ((impl_Pool_isTerm.f x173000 (rd x7 x9)).bind fun t174 => (if t174 = true then (if x9 > 0 then (if 0 ≤ (wrap64 (x9 - 1)) then (if (wrap64 (x9 - 1)) < (x1.length : Int) then (if (rd x7 x9) ≤ (rd x1 (wrap64 (x9 - 1))) then (some false) else (impl_KnowOk.l0 k x1 x7 x8 (wrap64 (x9 + 1)) x173000)) else (none)) else (none)) else (impl_KnowOk.l0 k x1 x7 x8 (wrap64 (x9 + 1)) x173000)) else (some false))) else (none)) else (none)) else (if (x1.length : Int) ≤ 200 then ((impl_PoolOk.f x173000).bind fun t176 => (some t176)) else (some false))
def impl_KnowOk.f (k : Nat) (l0_0 : List (S51)) (l1 : List Int) : Option (Bool) := impl_KnowOk.l0 k l1 l1 (l1.length : Int) 0 l0_0
theorem impl_KnowOk.mono_l : ∀ k, (∀ y0 y1 y2 y3 y4, LeO (impl_KnowOk.l0 k y0 y1 y2 y3 y4) (impl_KnowOk.l0 (k + 1) y0 y1 y2 y3 y4))
 | 0 => fun _ _ _ _ _ r h => by simp [impl_KnowOk.l0] at h
 | k + 1 => by
  have ih0 := impl_KnowOk.mono_l k
  ·intro y0 y1 y2 y3 y4
   unfold impl_KnowOk.l0
   repeat' first
   | (with_reducible exact ih0 _ _ _ _ _)
   | (with_reducible exact LeO.refl _)
   | (with_reducible exact LeO.none _)
   | (with_reducible refine LeO.ite ?_ ?_)
   | (with_reducible refine LeO.bind ?_ (fun _ => ?_))
   | exact ih0 _ _ _ _ _
   | exact LeO.none _
   | refine LeO.ite ?_ ?_
   | refine LeO.bind ?_ (fun _ => ?_)
theorem impl_KnowOk.mono : ∀ a0 a1 k, LeO (impl_KnowOk.f k a0 a1) (impl_KnowOk.f (k + 1) a0 a1) := by
 intro a0 a1 k
 have ih0 := impl_KnowOk.mono_l k
 unfold impl_KnowOk.f
 repeat' first
   | (with_reducible exact ih0 _ _ _ _ _)
   | (with_reducible exact LeO.refl _)
   | (with_reducible exact LeO.none _)
   | (with_reducible refine LeO.ite ?_ ?_)
   | (with_reducible refine LeO.bind ?_ (fun _ => ?_))
   | exact ih0 _ _ _ _ _
   | exact LeO.none _
   | refine LeO.ite ?_ ?_
   | refine LeO.bind ?_ (fun _ => ?_)
set_option maxHeartbeats 8000000 in
set_option maxRecDepth 100000 in
theorem impl_KnowOk.calls (k : Nat) (A0_0 : Option Addr) (c0_0 : Nat) (l0_0 : List (S51)) (A1 : Option Addr) (c1 : Nat) (l1 : List Int) (r : Bool) (w : World) (hr0_0 : Kd.C k51 w A0_0 l0_0.length l0_0) (hc0_0 : l0_0.length ≤ c0_0) (hr1 : Kd.C (Kd.int .i64) w A1 l1.length l1) (hc1 : l1.length ≤ c1) (h : impl_KnowOk.f k l0_0 l1 = some r) :
  Calls Try.prog 38 #[.agg #[.slice A0_0 l0_0.length c0_0], .slice A1 l1.length c1] w fun e w' => e = .returned (.bool r) ∧ Below w.heap.size w w' := by
 have hu30 := Try.underlying30
 have HR0_0 := Aside0.mk hr0_0
 have HC0_0 := Aside0.mk hc0_0
 clear hr0_0 hc0_0
 have HR1 := Aside0.mk hr1
 have HC1 := Aside0.mk hc1
 clear hr1 hc1
 have HB := Aside0.mk (Below.refl w.heap.size w)
 have H : (impl_KnowOk.l0 k l1 l1 (l1.length : Int) 0 l0_0) = some r := h
 clear h
 have H' := Aside0.mk H
 clear H
 go_enter Try.func38, Try.ntmps38
 go_wp2_with (first | ((with_reducible refine gate_dst (N := 2) rfl ?_); refine box_event ?hg (N := 2) ?hd (cs := #[.slice A0_0 l0_0.length c0_0]) (t := 30) ?hr ?_; (case hd => rfl); (case hg => rfl); (case hr => first | (go_simp; done) | (go_simp; rfl)); intro gb172 hg w3 hbox hb; have n0_ := Aside0.mk (below_step (zb HB.out) hb); have n1_ := Aside0.mk (hbox); have n2_ := Aside0.mk ((by rw [hg]; exact (below_size (zb HB.out)) : w.heap.size ≤ gb172)); have n3_ := Aside0.mk ((by rw [hg]; exact (below_size (zb HB.out)) : w.heap.size ≤ gb172)); clear HB; have HB := n0_; have BK172 := n1_; have GW172 := n2_; have GE172 := n3_; clear n0_ n1_ n2_ n3_; clear hb hbox hg))
 go_loopg [9] k (fun kq v9 w' => ∃ (x9_1 : Int), v9 = .int .i64 x9_1 ∧ Aside0 (impl_KnowOk.l0 kq l1 l1 (l1.length : Int) x9_1 l0_0 = some r) ∧ Aside0 (kq ≤ k) ∧ Aside0 (w'.heap[gb172]? = some (.cells #[(.slice A0_0 l0_0.length c0_0)] 30 (0, 0))) ∧ Aside0 (Below w.heap.size w w'))
 case atStart => exact ⟨(0), (by first | rfl | (simp; done) | (simp [*]; done)), H', ⟨Nat.le_refl _⟩, ⟨zh BK172.out⟩, ⟨zb HB.out⟩⟩
 case round =>
  clear H'
  try clear c1
  try clear p2
  try clear c3
  obtain ⟨x9_1, rfl, HA, HK1, BK172, HB⟩ := hrel
  cases gk with
  | zero => exact absurd HA.out (by simp [impl_KnowOk.l0])
  | succ k1 =>
   have H := HA.out
   clear HA
   simp only [impl_KnowOk.l0] at H
   by_cases c4 : x9_1 < (l1.length : Int)
   ·rw [if_pos c4] at H
    have c4b0 : decide (x9_1 < (l1.length : Int)) = true := decide_eq_true c4
    clear c4
    by_cases c5 : 0 ≤ x9_1
    ·rw [if_pos c5] at H
     have c5b0 : decide (0 ≤ x9_1) = true := decide_eq_true c5
     clear c5
     by_cases c6 : x9_1 < (l1.length : Int)
     ·rw [if_pos c6] at H
      have c6b0 : decide (x9_1 < (l1.length : Int)) = true := decide_eq_true c6
      clear c6
      replace H := Option.bind_eq_some_iff.mp H
      obtain ⟨t174, A70, H⟩ := H
      replace H : (if t174 = true then (if x9_1 > 0 then (if 0 ≤ (wrap64 (x9_1 - 1)) then (if (wrap64 (x9_1 - 1)) < (l1.length : Int) then (if (rd l1 x9_1) ≤ (rd l1 (wrap64 (x9_1 - 1))) then (some false) else (impl_KnowOk.l0 k1 l1 l1 (l1.length : Int) (wrap64 (x9_1 + 1)) l0_0)) else (none)) else (none)) else (impl_KnowOk.l0 k1 l1 l1 (l1.length : Int) (wrap64 (x9_1 + 1)) l0_0)) else (some false)) = some r := H
      have A7 := Aside0.mk A70
      clear A70
      by_cases c8 : t174 = true
      ·subst c8
       have H1 : (if x9_1 > 0 then (if 0 ≤ (wrap64 (x9_1 - 1)) then (if (wrap64 (x9_1 - 1)) < (l1.length : Int) then (if (rd l1 x9_1) ≤ (rd l1 (wrap64 (x9_1 - 1))) then (some false) else (impl_KnowOk.l0 k1 l1 l1 (l1.length : Int) (wrap64 (x9_1 + 1)) l0_0)) else (none)) else (none)) else (impl_KnowOk.l0 k1 l1 l1 (l1.length : Int) (wrap64 (x9_1 + 1)) l0_0)) = some r := by rw [if_pos rfl] at H; exact H
       clear H
       have H := H1
       clear H1
       by_cases c9 : x9_1 > 0
       ·rw [if_pos c9] at H
        have c9b0 : decide (0 < x9_1) = true := decide_eq_true c9
        clear c9
        obtain ⟨ji10, hji10⟩ : ∃ j_ : Int, (wrap64 (x9_1 - 1)) = j_ := ⟨_, rfl⟩
        replace H : (if 0 ≤ (ji10) then (if (ji10) < (l1.length : Int) then (if (rd l1 x9_1) ≤ (rd l1 (ji10)) then (some false) else (impl_KnowOk.l0 k1 l1 l1 (l1.length : Int) (wrap64 (x9_1 + 1)) l0_0)) else (none)) else (none)) = some r := by first | (rw [hji10] at H; exact H) | (simp only [hji10] at H ⊢; exact H)
        (try rw [hji10] at A7)
        have hji10w : (IntKind.i64.wrap (x9_1 - 1)) = ji10 := (i64_w _).trans hji10
        by_cases c11 : 0 ≤ (ji10)
        ·rw [if_pos c11] at H
         have c11b0 : decide (0 ≤ (ji10)) = true := decide_eq_true c11
         clear c11
         by_cases c12 : (ji10) < (l1.length : Int)
         ·rw [if_pos c12] at H
          have c12b0 : decide ((ji10) < (l1.length : Int)) = true := decide_eq_true c12
          clear c12
          by_cases c13 : (rd l1 x9_1) ≤ (rd l1 (ji10))
          ·rw [if_pos c13] at H
           have c13b0 : decide ((rd l1 x9_1) ≤ (rd l1 (ji10))) = true := decide_eq_true c13
           clear c13
           obtain rfl := Option.some.inj H
           have p173 : 0 ≤ (x9_1 : Int) := of_decide_eq_true (by first | (with_reducible assumption) | assumption)
           have q173 : x9_1 < (l1.length : Int) := of_decide_eq_true (by first | (with_reducible assumption) | assumption)
           obtain ⟨ad173, e173, hx173_0⟩ := Kd.at_int HR1.out x9_1 p173 q173
           cases e173
           replace hx173_0 := (HB.out.cell (World.block_lt_of_cell? w _ hx173_0)).trans hx173_0
           replace p173 := eq_true p173
           replace q173 := eq_true q173
           go_wp2_with (first | ((with_reducible refine gate_callee (f := 50) rfl ?_); refine goesL_ (some 15) rfl rfl Try.func50 (by kernel_rfl) rfl #[.pointer (some ⟨gb172, 0, none⟩), .int .i64 (rd l1 x9_1)] rfl zl ?_; (with_reducible refine (impl_Pool_isTerm.calls _ A0_0 c0_0 l0_0 (rd l1 x9_1) true _ ?side1 ?side2 ?side3 A7.out).mono ?_); (case side1 => exact zh BK172.out); (case side2 => exact zc (Kd.C_below HR0_0.out HB.out)); (case side3 => exact HC0_0.out); rintro e w14 ⟨rfl, hb⟩; refine ⟨_, rfl, ?_⟩; have n0_ := Aside0.mk (blk_below (zh BK172.out) hb); have n1_ := Aside0.mk (below_step (zb HB.out) hb); clear BK172; clear HB; have BK172 := n0_; have HB := n1_; clear n0_ n1_; (try clear hb); (try clear hb2); (try clear hk); (try clear hi); have p175 : 0 ≤ ((ji10) : Int) := of_decide_eq_true (by first | (with_reducible assumption) | assumption); have q175 : (ji10) < (l1.length : Int) := of_decide_eq_true (by first | (with_reducible assumption) | assumption); obtain ⟨ad175, e175, hx175_0⟩ := Kd.at_int HR1.out (ji10) p175 q175; obtain rfl : ad173 = ad175 := (by injection e175); replace hx175_0 := (HB.out.cell (World.block_lt_of_cell? w _ hx175_0)).trans hx175_0; replace p175 := eq_true p175; replace q175 := eq_true q175))
           go_ret
           exact ⟨by first | rfl | (simp [errW_none, errW_some] <;> rfl) | (simp only [← hji10]; first | rfl | (simp [errW_none, errW_some] <;> rfl)) | (simp [*, errW_none, errW_some] <;> rfl), zb HB.out⟩
          ·rw [if_neg c13] at H
           have c13b0 : decide ((rd l1 x9_1) ≤ (rd l1 (ji10))) = false := decide_eq_false c13
           clear c13
           have H' := Aside0.mk H
           clear H
           have p173 : 0 ≤ (x9_1 : Int) := of_decide_eq_true (by first | (with_reducible assumption) | assumption)
           have q173 : x9_1 < (l1.length : Int) := of_decide_eq_true (by first | (with_reducible assumption) | assumption)
           obtain ⟨ad173, e173, hx173_0⟩ := Kd.at_int HR1.out x9_1 p173 q173
           cases e173
           replace hx173_0 := (HB.out.cell (World.block_lt_of_cell? w _ hx173_0)).trans hx173_0
           replace p173 := eq_true p173
           replace q173 := eq_true q173
           go_wp2_with (first | ((with_reducible refine gate_callee (f := 50) rfl ?_); refine goesL_ (some 15) rfl rfl Try.func50 (by kernel_rfl) rfl #[.pointer (some ⟨gb172, 0, none⟩), .int .i64 (rd l1 x9_1)] rfl zl ?_; (with_reducible refine (impl_Pool_isTerm.calls _ A0_0 c0_0 l0_0 (rd l1 x9_1) true _ ?side1 ?side2 ?side3 A7.out).mono ?_); (case side1 => exact zh BK172.out); (case side2 => exact zc (Kd.C_below HR0_0.out HB.out)); (case side3 => exact HC0_0.out); rintro e w15 ⟨rfl, hb⟩; refine ⟨_, rfl, ?_⟩; have n0_ := Aside0.mk (blk_below (zh BK172.out) hb); have n1_ := Aside0.mk (below_step (zb HB.out) hb); clear BK172; clear HB; have BK172 := n0_; have HB := n1_; clear n0_ n1_; (try clear hb); (try clear hb2); (try clear hk); (try clear hi); have p175 : 0 ≤ ((ji10) : Int) := of_decide_eq_true (by first | (with_reducible assumption) | assumption); have q175 : (ji10) < (l1.length : Int) := of_decide_eq_true (by first | (with_reducible assumption) | assumption); obtain ⟨ad175, e175, hx175_0⟩ := Kd.at_int HR1.out (ji10) p175 q175; obtain rfl : ad173 = ad175 := (by injection e175); replace hx175_0 := (HB.out.cell (World.block_lt_of_cell? w _ hx175_0)).trans hx175_0; replace p175 := eq_true p175; replace q175 := eq_true q175))
           go_roundg k1
           case measure => have := HK1.out; omega
           case rel => exact ⟨(wrap64 (x9_1 + 1)), (by first | rfl | (simp; done) | (simp [*]; done)), H', ⟨by have := HK1.out; omega⟩, ⟨zh BK172.out⟩, ⟨zb HB.out⟩⟩
         ·rw [if_neg c12] at H
          exact absurd H (by simp)
        ·rw [if_neg c11] at H
         exact absurd H (by simp)
       ·rw [if_neg c9] at H
        have c9b0 : decide (0 < x9_1) = false := decide_eq_false c9
        clear c9
        have H' := Aside0.mk H
        clear H
        have p173 : 0 ≤ (x9_1 : Int) := of_decide_eq_true (by first | (with_reducible assumption) | assumption)
        have q173 : x9_1 < (l1.length : Int) := of_decide_eq_true (by first | (with_reducible assumption) | assumption)
        obtain ⟨ad173, e173, hx173_0⟩ := Kd.at_int HR1.out x9_1 p173 q173
        cases e173
        replace hx173_0 := (HB.out.cell (World.block_lt_of_cell? w _ hx173_0)).trans hx173_0
        replace p173 := eq_true p173
        replace q173 := eq_true q173
        go_wp2_with (first | ((with_reducible refine gate_callee (f := 50) rfl ?_); refine goesL_ (some 15) rfl rfl Try.func50 (by kernel_rfl) rfl #[.pointer (some ⟨gb172, 0, none⟩), .int .i64 (rd l1 x9_1)] rfl zl ?_; (with_reducible refine (impl_Pool_isTerm.calls _ A0_0 c0_0 l0_0 (rd l1 x9_1) true _ ?side1 ?side2 ?side3 A7.out).mono ?_); (case side1 => exact zh BK172.out); (case side2 => exact zc (Kd.C_below HR0_0.out HB.out)); (case side3 => exact HC0_0.out); rintro e w16 ⟨rfl, hb⟩; refine ⟨_, rfl, ?_⟩; have n0_ := Aside0.mk (blk_below (zh BK172.out) hb); have n1_ := Aside0.mk (below_step (zb HB.out) hb); clear BK172; clear HB; have BK172 := n0_; have HB := n1_; clear n0_ n1_; (try clear hb); (try clear hb2); (try clear hk); (try clear hi)))
        go_roundg k1
        case measure => have := HK1.out; omega
        case rel => exact ⟨(wrap64 (x9_1 + 1)), (by first | rfl | (simp; done) | (simp [*]; done)), H', ⟨by have := HK1.out; omega⟩, ⟨zh BK172.out⟩, ⟨zb HB.out⟩⟩
      ·replace c8 := Bool.eq_false_iff.mpr c8
       subst c8
       have H1 : (some false) = some r := by rw [if_neg (show ¬ (false = true) by decide)] at H; exact H
       clear H
       have H := H1
       clear H1
       obtain rfl := Option.some.inj H
       have p173 : 0 ≤ (x9_1 : Int) := of_decide_eq_true (by first | (with_reducible assumption) | assumption)
       have q173 : x9_1 < (l1.length : Int) := of_decide_eq_true (by first | (with_reducible assumption) | assumption)
       obtain ⟨ad173, e173, hx173_0⟩ := Kd.at_int HR1.out x9_1 p173 q173
       cases e173
       replace hx173_0 := (HB.out.cell (World.block_lt_of_cell? w _ hx173_0)).trans hx173_0
       replace p173 := eq_true p173
       replace q173 := eq_true q173
       go_wp2_with (first | ((with_reducible refine gate_callee (f := 50) rfl ?_); refine goesL_ (some 15) rfl rfl Try.func50 (by kernel_rfl) rfl #[.pointer (some ⟨gb172, 0, none⟩), .int .i64 (rd l1 x9_1)] rfl zl ?_; (with_reducible refine (impl_Pool_isTerm.calls _ A0_0 c0_0 l0_0 (rd l1 x9_1) false _ ?side1 ?side2 ?side3 A7.out).mono ?_); (case side1 => exact zh BK172.out); (case side2 => exact zc (Kd.C_below HR0_0.out HB.out)); (case side3 => exact HC0_0.out); rintro e w17 ⟨rfl, hb⟩; refine ⟨_, rfl, ?_⟩; have n0_ := Aside0.mk (blk_below (zh BK172.out) hb); have n1_ := Aside0.mk (below_step (zb HB.out) hb); clear BK172; clear HB; have BK172 := n0_; have HB := n1_; clear n0_ n1_; (try clear hb); (try clear hb2); (try clear hk); (try clear hi)))
       go_ret
       exact ⟨ze, zb HB.out⟩
     ·rw [if_neg c6] at H
      exact absurd H (by simp)
    ·rw [if_neg c5] at H
     exact absurd H (by simp)
   ·rw [if_neg c4] at H
    have c4b0 : decide (x9_1 < (l1.length : Int)) = false := decide_eq_false c4
    clear c4
    by_cases c18 : (l1.length : Int) ≤ 200
    ·rw [if_pos c18] at H
     have c18b0 : decide ((l1.length : Int) ≤ 200) = true := decide_eq_true c18
     have c18b1 : decide (l1.length ≤ 200) = true := decide_eq_true (by omega)
     clear c18
     replace H := Option.bind_eq_some_iff.mp H
     obtain ⟨t176, A190, H⟩ := H
     replace H : (some t176) = some r := H
     have A19 := Aside0.mk A190
     clear A190
     obtain rfl := Option.some.inj H
     have hcz20_0 : wr.cell? ⟨gb172, 0, none⟩ = some (.slice A0_0 l0_0.length c0_0) := (blk_cell BK172.out 0).trans rfl
     have hfz20_0 := blk_frozen BK172.out 0
     go_wp2_with (first | (go_at_call 56; (with_reducible refine (impl_PoolOk.calls _ _ l0_0 t176 _ ?side1 ?side2 A19.out).mono ?_); (case side1 => exact zc (Kd.C_below HR0_0.out HB.out)); (case side2 => exact HC0_0.out); rintro e w21 ⟨rfl, hb⟩; have n0_ := Aside0.mk (blk_below (zh BK172.out) hb); have n1_ := Aside0.mk (below_step (zb HB.out) hb); clear BK172; clear HB; have BK172 := n0_; have HB := n1_; clear n0_ n1_; (try clear hb); (try clear hb2); (try clear hk); (try clear hi)))
     go_ret
     exact ⟨ze, zb HB.out⟩
    ·rw [if_neg c18] at H
     have c18b0 : decide ((l1.length : Int) ≤ 200) = false := decide_eq_false c18
     have c18b1 : decide (l1.length ≤ 200) = false := decide_eq_false (by omega)
     clear c18
     obtain rfl := Option.some.inj H
     go_wp2
     go_ret
     exact ⟨ze, zb HB.out⟩

/-! ### impl_IsPublic: function 32 -/
def impl_IsPublic.f (a0 : Int) : Option (Bool) := (impl_inRange.f a0 0 49).bind fun t177 => (some t177)
set_option maxHeartbeats 8000000 in
set_option maxRecDepth 100000 in
theorem impl_IsPublic.calls (a0 : Int) (r : Bool) (w : World) (h : impl_IsPublic.f a0 = some r) :
  Calls Try.prog 32 #[.int .i64 a0] w fun e w' => e = .returned (.bool r) ∧ Drawn0 w w' := by
 have H : ((impl_inRange.f a0 0 49).bind fun t177 => (some t177)) = some r := h
 clear h
 replace H := Option.bind_eq_some_iff.mp H
 obtain ⟨t177, A20, H⟩ := H
 replace H : (some t177) = some r := H
 have A2 := Aside0.mk A20
 clear A20
 obtain rfl := Option.some.inj H
 go_enter Try.func32, Try.ntmps32
 go_wp2_with (first | ((with_reducible refine gate_callee (f := 59) rfl ?_); refine goesL_ (some 4) rfl rfl Try.func59 (by kernel_rfl) rfl #[.int .i64 a0, .int .i64 0, .int .i64 49] rfl zl ?_; (with_reducible refine (impl_inRange.calls a0 0 49 t177 _ A2.out).mono ?_); rintro e w' ⟨rfl, ⟨nd, rfl⟩⟩; refine ⟨_, rfl, ?_⟩))
 go_ret
 exact ⟨by first | rfl | (simp; done) | (simp [*]; done), by repeat (first | exact Drawn0.refl _ | apply Drawn0.step)⟩

/-! ### impl_Pool_parts: function 57 -/
def impl_Pool_parts.f (k : Nat) (l0_0 : List (S51)) (a1 : Int) : Option (List Int) := if 0 ≤ a1 then (if a1 < (l0_0.length : Int) then ((impl_count.f k ((rd_T51 l0_0 a1).f0)).bind fun t180 => (if t180 = 1 then (some (([(rd_T51 l0_0 a1).f1] : List Int))) else (if t180 = 2 then (some (([(rd_T51 l0_0 a1).f1, (rd_T51 l0_0 a1).f2] : List Int))) else (some ([] : List Int))))) else (none)) else (none)
theorem impl_Pool_parts.mono : ∀ a0 a1 k, LeO (impl_Pool_parts.f k a0 a1) (impl_Pool_parts.f (k + 1) a0 a1) := by
 intro a0 a1 k
 unfold impl_Pool_parts.f
 repeat' first
   | (with_reducible exact impl_count.mono _ _)
   | (with_reducible exact LeO.refl _)
   | (with_reducible exact LeO.none _)
   | (with_reducible refine LeO.ite ?_ ?_)
   | (with_reducible refine LeO.bind ?_ (fun _ => ?_))
   | exact impl_count.mono _ _
   | exact LeO.none _
   | refine LeO.ite ?_ ?_
   | refine LeO.bind ?_ (fun _ => ?_)
set_option maxHeartbeats 8000000 in
set_option maxRecDepth 100000 in
theorem impl_Pool_parts.calls (k : Nat) (g0_ : Nat) (A0_0 : Option Addr) (c0_0 : Nat) (l0_0 : List (S51)) (a1 : Int) (r : List Int) (w : World) (hk0_ : w.heap[g0_]? = some (.cells #[.slice A0_0 l0_0.length c0_0] 30 (0, 0))) (hr0_0 : Kd.C k51 w A0_0 l0_0.length l0_0) (hc0_0 : l0_0.length ≤ c0_0) (h : impl_Pool_parts.f k l0_0 a1 = some r) :
  Calls Try.prog 57 #[.pointer (some ⟨g0_, 0, none⟩), .int .i64 a1] w fun e w' => ∃ v0_ : Value, e = .returned (v0_) ∧ Kd.R (Kd.int .i64) 3 w' w.heap.size (fun _ => True) v0_ r ∧ Below w.heap.size w w' := by
 have hu51 := Try.underlying51
 have HR0_0 := Aside0.mk hr0_0
 have HC0_0 := Aside0.mk hc0_0
 clear hr0_0 hc0_0
 have BK0 := Aside0.mk hk0_
 clear hk0_
 have HB := Aside0.mk (Below.refl w.heap.size w)
 have H : (if 0 ≤ a1 then (if a1 < (l0_0.length : Int) then ((impl_count.f k ((rd_T51 l0_0 a1).f0)).bind fun t180 => (if t180 = 1 then (some (([(rd_T51 l0_0 a1).f1] : List Int))) else (if t180 = 2 then (some (([(rd_T51 l0_0 a1).f1, (rd_T51 l0_0 a1).f2] : List Int))) else (some ([] : List Int))))) else (none)) else (none)) = some r := h
 clear h
 by_cases c3 : 0 ≤ a1
 ·rw [if_pos c3] at H
  have c3b0 : decide (0 ≤ a1) = true := decide_eq_true c3
  clear c3
  by_cases c4 : a1 < (l0_0.length : Int)
  ·rw [if_pos c4] at H
   have c4b0 : decide (a1 < (l0_0.length : Int)) = true := decide_eq_true c4
   clear c4
   replace H := Option.bind_eq_some_iff.mp H
   obtain ⟨t180, A50, H⟩ := H
   replace H : (if t180 = 1 then (some (([(rd_T51 l0_0 a1).f1] : List Int))) else (if t180 = 2 then (some (([(rd_T51 l0_0 a1).f1, (rd_T51 l0_0 a1).f2] : List Int))) else (some ([] : List Int)))) = some r := H
   have A5 := Aside0.mk A50
   clear A50
   by_cases c6 : t180 = 1
   ·rw [if_pos c6] at H
    have c6b0 : (t180 == 1) = true := beq_iff_eq.mpr c6
    have c6b1 : (t180 != 1) = false := bne_eq_false_iff_eq.mpr c6
    clear c6
    obtain ⟨y181, hy181⟩ : ∃ y_ : List Int, y_ = (([(rd_T51 l0_0 a1).f1] : List Int)) := ⟨_, rfl⟩
    replace H : (some y181) = some r := by first | (rw [hy181]; with_reducible exact H) | (have H2_ := (Option.bind_some _ _).symm.trans H; rw [hy181]; with_reducible exact H2_) | (have H2_ := (Option.bind_some _ _).symm.trans H; with_reducible exact H2_) | with_reducible exact H | (rw [hy181]; exact H) | exact H
    have Ny181 := Aside0.mk hy181
    clear hy181
    obtain rfl := Option.some.inj H
    have hcz7_0 : w.cell? ⟨g0_, 0, none⟩ = some (.slice A0_0 l0_0.length c0_0) := (blk_cell BK0.out 0).trans rfl
    have hfz7_0 := blk_frozen BK0.out 0
    have p178 : 0 ≤ (a1 : Int) := of_decide_eq_true (by first | (with_reducible assumption) | assumption)
    have q178 : a1 < (l0_0.length : Int) := of_decide_eq_true (by first | (with_reducible assumption) | assumption)
    obtain ⟨ad178, e178, hx178_0, hx178_1, hx178_2⟩ := at_T51 HR0_0.out a1 p178 q178
    cases e178
    replace p178 := eq_true p178
    replace q178 := eq_true q178
    go_enter Try.func57, Try.ntmps57
    go_wp2_with (first | ((with_reducible refine gate_dst (N := 5) rfl ?_); refine box_event ?hg (N := 5) ?hd (cs := #[.int .i64 0, .int .i64 0, .int .i64 0]) (t := 51) ?hr ?_; (case hd => rfl); (case hg => rfl); (case hr => first | (go_simp; done) | (go_simp; rfl)); intro gb179 hg w8 hbox hb; have n0_ := Aside0.mk (blk_below (zh BK0.out) hb); have n1_ := Aside0.mk (below_step (zb HB.out) hb); have n2_ := Aside0.mk (hbox); have n3_ := Aside0.mk ((by rw [hg]; exact (below_size (zb HB.out)) : w.heap.size ≤ gb179)); have n4_ := Aside0.mk ((by rw [hg]; exact (below_size (zb HB.out)) : w.heap.size ≤ gb179)); have n5_ := Aside0.mk ((by rw [hg]; exact Nat.ne_of_lt (blk_lt (zh BK0.out)) : g0_ ≠ gb179)); have n6_ := Aside0.mk ((by rw [hg]; exact Nat.ne_of_gt (blk_lt (zh BK0.out)) : gb179 ≠ g0_)); clear BK0; clear HB; have BK0 := n0_; have HB := n1_; have BK179 := n2_; have GW179 := n3_; have GE179 := n4_; have NB0_179 := n5_; have NB179_0 := n6_; clear n0_ n1_ n2_ n3_ n4_ n5_ n6_; clear hb hbox hg; have hnb9 := NB179_0.out; have hnc9 := NB0_179.out; have hcz10_0 : w8.cell? ⟨gb179, 0, none⟩ = some (.int .i64 0) := (blk_cell BK179.out 0).trans rfl; have hcz10_1 : w8.cell? ⟨gb179, 1, none⟩ = some (.int .i64 0) := (blk_cell BK179.out 1).trans rfl; have hcz10_2 : w8.cell? ⟨gb179, 2, none⟩ = some (.int .i64 0) := (blk_cell BK179.out 2).trans rfl; have hfz10_0 := blk_frozen BK179.out 0; have hfz10_1 := blk_frozen BK179.out 1; have hfz10_2 := blk_frozen BK179.out 2) | ((with_reducible refine gate_callee (f := 78) rfl ?_); refine goesL_ (some 15) rfl rfl Try.func78 (by kernel_rfl) rfl #[.int .i64 ((rd_T51 l0_0 a1).f0)] rfl zl ?_; (with_reducible refine (impl_count.calls k ((rd_T51 l0_0 a1).f0) t180 _ A5.out).mono ?_); rintro e w' ⟨rfl, ⟨nd, rfl⟩⟩; refine ⟨_, rfl, ?_⟩) | ((with_reducible refine gate_dst (N := 20) rfl ?_); refine Kd.R_lit (Kd.int .i64) _ 3 ?hg (N := 20) ?hd (xs := ([(rd_T51 l0_0 a1).f1] : List Int)) (inner := [.int .i64 ((rd_T51 l0_0 a1).f1)]) (ok := fun _ => True) (okp := fun _ => True) ?hr ?hp (fun _ hk => hk) trivial (Below.refl _ _) (Nat.le_refl _) (by simp) ?_; (case hd => rfl); (case hg => rfl); (case hr => first | (go_simp; done) | (go_simp; rfl)); (case hp => exact (Reps.one (show Kd.M (Kd.int .i64) _ _ _ ((rd_T51 l0_0 a1).f1) [.int .i64 ((rd_T51 l0_0 a1).f1)] from rfl) (Reps.none _ _))); intro v182 w11 ho12 hb hg_ hnew_; clear hg_ hnew_; (first | rw [← Ny181.out] at ho12 | (simp only [Int.reduceToNat] at ho12; rw [← Ny181.out] at ho12)); have n0_ := Aside0.mk (Kd.R_lower ho12 (below_size (zb HB.out))); have n1_ := Aside0.mk (blk_below (g := g0_) (o := .cells #[.slice (some ad178) l0_0.length c0_0] 30 (0, 0)) (zf BK0.out) hb); have n2_ := Aside0.mk (blk_below (g := gb179) (o := .cells #[.int .i64 ((rd_T51 l0_0 a1).f0), .int .i64 ((rd_T51 l0_0 a1).f1), .int .i64 ((rd_T51 l0_0 a1).f2)] 51 (0, 0)) (by (with_reducible repeat (first | refine blk_drewN ?_ _ | refine blk_drew ?_ | refine blk_alloc ?_ _)); refine blk_put (cs := #[.int .i64 ((rd_T51 l0_0 a1).f0), .int .i64 ((rd_T51 l0_0 a1).f1), .int .i64 0]) ?_ 2 _ rfl; (with_reducible repeat (first | refine blk_drewN ?_ _ | refine blk_drew ?_ | refine blk_alloc ?_ _)); refine blk_put (cs := #[.int .i64 ((rd_T51 l0_0 a1).f0), .int .i64 0, .int .i64 0]) ?_ 1 _ rfl; (with_reducible repeat (first | refine blk_drewN ?_ _ | refine blk_drew ?_ | refine blk_alloc ?_ _)); refine blk_put (cs := #[.int .i64 0, .int .i64 0, .int .i64 0]) ?_ 0 _ rfl; (with_reducible repeat (first | refine blk_drewN ?_ _ | refine blk_drew ?_ | refine blk_alloc ?_ _)); exact BK179.out) hb); have n3_ := Aside0.mk (below_step (zb HB.out) hb); clear BK0; clear BK179; clear HB; have HO183 := n0_; have BK0 := n1_; have BK179 := n2_; have HB := n3_; clear n0_ n1_ n2_ n3_; clear hb ho12))
    go_ret
    exact ⟨_, ze, zr HO183.out, zb HB.out⟩
   ·rw [if_neg c6] at H
    have c6b0 : (t180 == 1) = false := beq_eq_false_iff_ne.mpr c6
    have c6b1 : (t180 != 1) = true := bne_iff_ne.mpr c6
    by_cases c13 : t180 = 2
    ·rw [if_pos c13] at H
     have c13b0 : (t180 == 2) = true := beq_iff_eq.mpr c13
     have c13b1 : (t180 != 2) = false := bne_eq_false_iff_eq.mpr c13
     clear c13
     obtain ⟨y184, hy184⟩ : ∃ y_ : List Int, y_ = (([(rd_T51 l0_0 a1).f1, (rd_T51 l0_0 a1).f2] : List Int)) := ⟨_, rfl⟩
     replace H : (some y184) = some r := by first | (rw [hy184]; with_reducible exact H) | (have H2_ := (Option.bind_some _ _).symm.trans H; rw [hy184]; with_reducible exact H2_) | (have H2_ := (Option.bind_some _ _).symm.trans H; with_reducible exact H2_) | with_reducible exact H | (rw [hy184]; exact H) | exact H
     have Ny184 := Aside0.mk hy184
     clear hy184
     obtain rfl := Option.some.inj H
     have hcz14_0 : w.cell? ⟨g0_, 0, none⟩ = some (.slice A0_0 l0_0.length c0_0) := (blk_cell BK0.out 0).trans rfl
     have hfz14_0 := blk_frozen BK0.out 0
     have p178 : 0 ≤ (a1 : Int) := of_decide_eq_true (by first | (with_reducible assumption) | assumption)
     have q178 : a1 < (l0_0.length : Int) := of_decide_eq_true (by first | (with_reducible assumption) | assumption)
     obtain ⟨ad178, e178, hx178_0, hx178_1, hx178_2⟩ := at_T51 HR0_0.out a1 p178 q178
     cases e178
     replace p178 := eq_true p178
     replace q178 := eq_true q178
     go_enter Try.func57, Try.ntmps57
     go_wp2_with (first | ((with_reducible refine gate_dst (N := 5) rfl ?_); refine box_event ?hg (N := 5) ?hd (cs := #[.int .i64 0, .int .i64 0, .int .i64 0]) (t := 51) ?hr ?_; (case hd => rfl); (case hg => rfl); (case hr => first | (go_simp; done) | (go_simp; rfl)); intro gb179 hg w15 hbox hb; have n0_ := Aside0.mk (blk_below (zh BK0.out) hb); have n1_ := Aside0.mk (below_step (zb HB.out) hb); have n2_ := Aside0.mk (hbox); have n3_ := Aside0.mk ((by rw [hg]; exact (below_size (zb HB.out)) : w.heap.size ≤ gb179)); have n4_ := Aside0.mk ((by rw [hg]; exact (below_size (zb HB.out)) : w.heap.size ≤ gb179)); have n5_ := Aside0.mk ((by rw [hg]; exact Nat.ne_of_lt (blk_lt (zh BK0.out)) : g0_ ≠ gb179)); have n6_ := Aside0.mk ((by rw [hg]; exact Nat.ne_of_gt (blk_lt (zh BK0.out)) : gb179 ≠ g0_)); clear BK0; clear HB; have BK0 := n0_; have HB := n1_; have BK179 := n2_; have GW179 := n3_; have GE179 := n4_; have NB0_179 := n5_; have NB179_0 := n6_; clear n0_ n1_ n2_ n3_ n4_ n5_ n6_; clear hb hbox hg; have hnb16 := NB179_0.out; have hnc16 := NB0_179.out; have hcz17_0 : w15.cell? ⟨gb179, 0, none⟩ = some (.int .i64 0) := (blk_cell BK179.out 0).trans rfl; have hcz17_1 : w15.cell? ⟨gb179, 1, none⟩ = some (.int .i64 0) := (blk_cell BK179.out 1).trans rfl; have hcz17_2 : w15.cell? ⟨gb179, 2, none⟩ = some (.int .i64 0) := (blk_cell BK179.out 2).trans rfl; have hfz17_0 := blk_frozen BK179.out 0; have hfz17_1 := blk_frozen BK179.out 1; have hfz17_2 := blk_frozen BK179.out 2) | ((with_reducible refine gate_callee (f := 78) rfl ?_); refine goesL_ (some 15) rfl rfl Try.func78 (by kernel_rfl) rfl #[.int .i64 ((rd_T51 l0_0 a1).f0)] rfl zl ?_; (with_reducible refine (impl_count.calls k ((rd_T51 l0_0 a1).f0) t180 _ A5.out).mono ?_); rintro e w' ⟨rfl, ⟨nd, rfl⟩⟩; refine ⟨_, rfl, ?_⟩) | ((with_reducible refine gate_dst (N := 27) rfl ?_); refine Kd.R_lit (Kd.int .i64) _ 3 ?hg (N := 27) ?hd (xs := ([(rd_T51 l0_0 a1).f1, (rd_T51 l0_0 a1).f2] : List Int)) (inner := [.int .i64 ((rd_T51 l0_0 a1).f1), .int .i64 ((rd_T51 l0_0 a1).f2)]) (ok := fun _ => True) (okp := fun _ => True) ?hr ?hp (fun _ hk => hk) trivial (Below.refl _ _) (Nat.le_refl _) (by simp) ?_; (case hd => rfl); (case hg => rfl); (case hr => first | (go_simp; done) | (go_simp; rfl)); (case hp => exact (Reps.one (show Kd.M (Kd.int .i64) _ _ _ ((rd_T51 l0_0 a1).f1) [.int .i64 ((rd_T51 l0_0 a1).f1)] from rfl) (Reps.one (show Kd.M (Kd.int .i64) _ _ _ ((rd_T51 l0_0 a1).f2) [.int .i64 ((rd_T51 l0_0 a1).f2)] from rfl) (Reps.none _ _)))); intro v185 w18 ho19 hb hg_ hnew_; clear hg_ hnew_; (first | rw [← Ny184.out] at ho19 | (simp only [Int.reduceToNat] at ho19; rw [← Ny184.out] at ho19)); have n0_ := Aside0.mk (Kd.R_lower ho19 (below_size (zb HB.out))); have n1_ := Aside0.mk (blk_below (g := g0_) (o := .cells #[.slice (some ad178) l0_0.length c0_0] 30 (0, 0)) (zf BK0.out) hb); have n2_ := Aside0.mk (blk_below (g := gb179) (o := .cells #[.int .i64 ((rd_T51 l0_0 a1).f0), .int .i64 ((rd_T51 l0_0 a1).f1), .int .i64 ((rd_T51 l0_0 a1).f2)] 51 (0, 0)) (by (with_reducible repeat (first | refine blk_drewN ?_ _ | refine blk_drew ?_ | refine blk_alloc ?_ _)); refine blk_put (cs := #[.int .i64 ((rd_T51 l0_0 a1).f0), .int .i64 ((rd_T51 l0_0 a1).f1), .int .i64 0]) ?_ 2 _ rfl; (with_reducible repeat (first | refine blk_drewN ?_ _ | refine blk_drew ?_ | refine blk_alloc ?_ _)); refine blk_put (cs := #[.int .i64 ((rd_T51 l0_0 a1).f0), .int .i64 0, .int .i64 0]) ?_ 1 _ rfl; (with_reducible repeat (first | refine blk_drewN ?_ _ | refine blk_drew ?_ | refine blk_alloc ?_ _)); refine blk_put (cs := #[.int .i64 0, .int .i64 0, .int .i64 0]) ?_ 0 _ rfl; (with_reducible repeat (first | refine blk_drewN ?_ _ | refine blk_drew ?_ | refine blk_alloc ?_ _)); exact BK179.out) hb); have n3_ := Aside0.mk (below_step (zb HB.out) hb); clear BK0; clear BK179; clear HB; have HO186 := n0_; have BK0 := n1_; have BK179 := n2_; have HB := n3_; clear n0_ n1_ n2_ n3_; clear hb ho19))
     go_ret
     exact ⟨_, ze, zr HO186.out, zb HB.out⟩
    ·rw [if_neg c13] at H
     have c13b0 : (t180 == 2) = false := beq_eq_false_iff_ne.mpr c13
     have c13b1 : (t180 != 2) = true := bne_iff_ne.mpr c13
     obtain rfl := Option.some.inj H
     have hcz20_0 : w.cell? ⟨g0_, 0, none⟩ = some (.slice A0_0 l0_0.length c0_0) := (blk_cell BK0.out 0).trans rfl
     have hfz20_0 := blk_frozen BK0.out 0
     have p178 : 0 ≤ (a1 : Int) := of_decide_eq_true (by first | (with_reducible assumption) | assumption)
     have q178 : a1 < (l0_0.length : Int) := of_decide_eq_true (by first | (with_reducible assumption) | assumption)
     obtain ⟨ad178, e178, hx178_0, hx178_1, hx178_2⟩ := at_T51 HR0_0.out a1 p178 q178
     cases e178
     replace p178 := eq_true p178
     replace q178 := eq_true q178
     go_enter Try.func57, Try.ntmps57
     go_wp2_with (first | ((with_reducible refine gate_dst (N := 5) rfl ?_); refine box_event ?hg (N := 5) ?hd (cs := #[.int .i64 0, .int .i64 0, .int .i64 0]) (t := 51) ?hr ?_; (case hd => rfl); (case hg => rfl); (case hr => first | (go_simp; done) | (go_simp; rfl)); intro gb179 hg w21 hbox hb; have n0_ := Aside0.mk (blk_below (zh BK0.out) hb); have n1_ := Aside0.mk (below_step (zb HB.out) hb); have n2_ := Aside0.mk (hbox); have n3_ := Aside0.mk ((by rw [hg]; exact (below_size (zb HB.out)) : w.heap.size ≤ gb179)); have n4_ := Aside0.mk ((by rw [hg]; exact (below_size (zb HB.out)) : w.heap.size ≤ gb179)); have n5_ := Aside0.mk ((by rw [hg]; exact Nat.ne_of_lt (blk_lt (zh BK0.out)) : g0_ ≠ gb179)); have n6_ := Aside0.mk ((by rw [hg]; exact Nat.ne_of_gt (blk_lt (zh BK0.out)) : gb179 ≠ g0_)); clear BK0; clear HB; have BK0 := n0_; have HB := n1_; have BK179 := n2_; have GW179 := n3_; have GE179 := n4_; have NB0_179 := n5_; have NB179_0 := n6_; clear n0_ n1_ n2_ n3_ n4_ n5_ n6_; clear hb hbox hg; have hnb22 := NB179_0.out; have hnc22 := NB0_179.out; have hcz23_0 : w21.cell? ⟨gb179, 0, none⟩ = some (.int .i64 0) := (blk_cell BK179.out 0).trans rfl; have hcz23_1 : w21.cell? ⟨gb179, 1, none⟩ = some (.int .i64 0) := (blk_cell BK179.out 1).trans rfl; have hcz23_2 : w21.cell? ⟨gb179, 2, none⟩ = some (.int .i64 0) := (blk_cell BK179.out 2).trans rfl; have hfz23_0 := blk_frozen BK179.out 0; have hfz23_1 := blk_frozen BK179.out 1; have hfz23_2 := blk_frozen BK179.out 2) | ((with_reducible refine gate_callee (f := 78) rfl ?_); refine goesL_ (some 15) rfl rfl Try.func78 (by kernel_rfl) rfl #[.int .i64 ((rd_T51 l0_0 a1).f0)] rfl zl ?_; (with_reducible refine (impl_count.calls k ((rd_T51 l0_0 a1).f0) t180 _ A5.out).mono ?_); rintro e w' ⟨rfl, ⟨nd, rfl⟩⟩; refine ⟨_, rfl, ?_⟩))
     go_ret
     exact ⟨_, ze, by first | exact Kd.R_nil _ _ _ _ _ | exact Kd.N_nil _ _ _ _ _ | exact Kd.V_nil _ _ _ _ _ | exact Kd.Q_nil _ _ _ _ _ | exact Kd.S_nil _ _ _ _ _, zb HB.out⟩
  ·rw [if_neg c4] at H
   exact absurd H (by simp)
 ·rw [if_neg c3] at H
  exact absurd H (by simp)

/-! ### impl_Node: function 109 -/
def impl_Node.l0 : Nat → List (S51) → Int → Int → Int → Int → Int → Option (Int)
 | 0, _, _, _, _, _, _ => none
 | k + 1, x0, x7, x8, x188000, x188001, x188002 => if x8 < x7 then (if 0 ≤ x8 then (if x8 < (x0.length : Int) then (if (x188000 == ((rd_T51 x0 x8).f0) && (x188001 == ((rd_T51 x0 x8).f1) && (x188002 == ((rd_T51 x0 x8).f2)))) = true then (some x8) else (impl_Node.l0 k x0 x7 (wrap64 (x8 + 1)) x188000 x188001 x188002)) else (none)) else (none)) else (some (-1))
def impl_Node.f (k : Nat) (l0 : List (S51)) (a1_0 : Int) (a1_1 : Int) (a1_2 : Int) : Option (Int) := impl_Node.l0 k l0 (l0.length : Int) 0 a1_0 a1_1 a1_2
theorem impl_Node.mono_l : ∀ k, (∀ y0 y1 y2 y3 y4 y5, LeO (impl_Node.l0 k y0 y1 y2 y3 y4 y5) (impl_Node.l0 (k + 1) y0 y1 y2 y3 y4 y5))
 | 0 => fun _ _ _ _ _ _ r h => by simp [impl_Node.l0] at h
 | k + 1 => by
  have ih0 := impl_Node.mono_l k
  ·intro y0 y1 y2 y3 y4 y5
   unfold impl_Node.l0
   repeat' first
   | (with_reducible exact ih0 _ _ _ _ _ _)
   | (with_reducible exact LeO.refl _)
   | (with_reducible exact LeO.none _)
   | (with_reducible refine LeO.ite ?_ ?_)
   | (with_reducible refine LeO.bind ?_ (fun _ => ?_))
   | exact ih0 _ _ _ _ _ _
   | exact LeO.none _
   | refine LeO.ite ?_ ?_
   | refine LeO.bind ?_ (fun _ => ?_)
theorem impl_Node.mono : ∀ a0 a1 a2 a3 k, LeO (impl_Node.f k a0 a1 a2 a3) (impl_Node.f (k + 1) a0 a1 a2 a3) := by
 intro a0 a1 a2 a3 k
 have ih0 := impl_Node.mono_l k
 unfold impl_Node.f
 repeat' first
   | (with_reducible exact ih0 _ _ _ _ _ _)
   | (with_reducible exact LeO.refl _)
   | (with_reducible exact LeO.none _)
   | (with_reducible refine LeO.ite ?_ ?_)
   | (with_reducible refine LeO.bind ?_ (fun _ => ?_))
   | exact ih0 _ _ _ _ _ _
   | exact LeO.none _
   | refine LeO.ite ?_ ?_
   | refine LeO.bind ?_ (fun _ => ?_)
set_option maxHeartbeats 8000000 in
set_option maxRecDepth 100000 in
theorem impl_Node.calls (k : Nat) (A0 : Option Addr) (c0 : Nat) (l0 : List (S51)) (a1_0 : Int) (a1_1 : Int) (a1_2 : Int) (r : Int) (w : World) (hr0 : Kd.C k51 w A0 l0.length l0) (hc0 : l0.length ≤ c0) (h : impl_Node.f k l0 a1_0 a1_1 a1_2 = some r) :
  Calls Try.prog 109 #[.slice A0 l0.length c0, .agg #[.int .i64 a1_0, .int .i64 a1_1, .int .i64 a1_2]] w fun e w' => e = .returned (.int .i64 r) ∧ Below w.heap.size w w' := by
 have hu51 := Try.underlying51
 have HR0 := Aside0.mk hr0
 have HC0 := Aside0.mk hc0
 clear hr0 hc0
 have HB := Aside0.mk (Below.refl w.heap.size w)
 have H : (impl_Node.l0 k l0 (l0.length : Int) 0 a1_0 a1_1 a1_2) = some r := h
 clear h
 have H' := Aside0.mk H
 clear H
 go_enter Try.func109, Try.ntmps109
 go_wp2_with (first | ((with_reducible refine gate_dst (N := 3) rfl ?_); refine box_event ?hg (N := 3) ?hd (cs := #[.int .i64 a1_0, .int .i64 a1_1, .int .i64 a1_2]) (t := 51) ?hr ?_; (case hd => rfl); (case hg => rfl); (case hr => first | (go_simp; done) | (go_simp; rfl)); intro gb187 hg w3 hbox hb; have n0_ := Aside0.mk (below_step (zb HB.out) hb); have n1_ := Aside0.mk (hbox); have n2_ := Aside0.mk ((by rw [hg]; exact (below_size (zb HB.out)) : w.heap.size ≤ gb187)); have n3_ := Aside0.mk ((by rw [hg]; exact (below_size (zb HB.out)) : w.heap.size ≤ gb187)); clear HB; have HB := n0_; have BK187 := n1_; have GW187 := n2_; have GE187 := n3_; clear n0_ n1_ n2_ n3_; clear hb hbox hg))
 repeat (go_quiet (first | ((with_reducible refine gate_dst (N := 3) rfl ?_); refine box_event ?hg (N := 3) ?hd (cs := #[.int .i64 a1_0, .int .i64 a1_1, .int .i64 a1_2]) (t := 51) ?hr ?_; (case hd => rfl); (case hg => rfl); (case hr => first | (go_simp; done) | (go_simp; rfl)); intro gb187 hg w3 hbox hb; have n0_ := Aside0.mk (below_step (zb HB.out) hb); have n1_ := Aside0.mk (hbox); have n2_ := Aside0.mk ((by rw [hg]; exact (below_size (zb HB.out)) : w.heap.size ≤ gb187)); have n3_ := Aside0.mk ((by rw [hg]; exact (below_size (zb HB.out)) : w.heap.size ≤ gb187)); clear HB; have HB := n0_; have BK187 := n1_; have GW187 := n2_; have GE187 := n3_; clear n0_ n1_ n2_ n3_; clear hb hbox hg)); try go_wp2_with (first | ((with_reducible refine gate_dst (N := 3) rfl ?_); refine box_event ?hg (N := 3) ?hd (cs := #[.int .i64 a1_0, .int .i64 a1_1, .int .i64 a1_2]) (t := 51) ?hr ?_; (case hd => rfl); (case hg => rfl); (case hr => first | (go_simp; done) | (go_simp; rfl)); intro gb187 hg w3 hbox hb; have n0_ := Aside0.mk (below_step (zb HB.out) hb); have n1_ := Aside0.mk (hbox); have n2_ := Aside0.mk ((by rw [hg]; exact (below_size (zb HB.out)) : w.heap.size ≤ gb187)); have n3_ := Aside0.mk ((by rw [hg]; exact (below_size (zb HB.out)) : w.heap.size ≤ gb187)); clear HB; have HB := n0_; have BK187 := n1_; have GW187 := n2_; have GE187 := n3_; clear n0_ n1_ n2_ n3_; clear hb hbox hg)))
 go_loopg [8] k (fun kq v8 w' => ∃ (x8_1 : Int), v8 = .int .i64 x8_1 ∧ Aside0 (impl_Node.l0 kq l0 (l0.length : Int) x8_1 a1_0 a1_1 a1_2 = some r) ∧ Aside0 (kq ≤ k) ∧ Aside0 (w'.heap[gb187]? = some (.cells #[.int .i64 a1_0, .int .i64 a1_1, .int .i64 a1_2] 51 (0, 0))) ∧ Aside0 (Below w.heap.size w w'))
 case atStart => exact ⟨(0), (by first | rfl | (simp; done) | (simp [*]; done)), H', ⟨Nat.le_refl _⟩, ⟨zh BK187.out⟩, ⟨zb HB.out⟩⟩
 case round =>
  clear H'
  try clear c1
  try clear p2
  obtain ⟨x8_1, rfl, HA, HK1, BK187, HB⟩ := hrel
  cases gk with
  | zero => exact absurd HA.out (by simp [impl_Node.l0])
  | succ k1 =>
   have H := HA.out
   clear HA
   simp only [impl_Node.l0] at H
   by_cases c4 : x8_1 < (l0.length : Int)
   ·rw [if_pos c4] at H
    have c4b0 : decide (x8_1 < (l0.length : Int)) = true := decide_eq_true c4
    clear c4
    by_cases c5 : 0 ≤ x8_1
    ·rw [if_pos c5] at H
     have c5b0 : decide (0 ≤ x8_1) = true := decide_eq_true c5
     clear c5
     by_cases c6 : x8_1 < (l0.length : Int)
     ·rw [if_pos c6] at H
      have c6b0 : decide (x8_1 < (l0.length : Int)) = true := decide_eq_true c6
      clear c6
      by_cases c7 : (a1_0 == ((rd_T51 l0 x8_1).f0) && (a1_1 == ((rd_T51 l0 x8_1).f1) && (a1_2 == ((rd_T51 l0 x8_1).f2)))) = true
      ·rw [if_pos c7] at H
       have c7b0 : (a1_0 == ((rd_T51 l0 x8_1).f0) && (a1_1 == ((rd_T51 l0 x8_1).f1) && (a1_2 == ((rd_T51 l0 x8_1).f2)))) = true := c7
       (try (have c7b1 : decide (a1_0 = ((rd_T51 l0 x8_1).f0) && (a1_1 == ((rd_T51 l0 x8_1).f1) && (a1_2 == ((rd_T51 l0 x8_1).f2)))) = true := by simpa using c7))
       (try (have c7b2 : (a1_0 == ((rd_T51 l0 x8_1).f0) && (a1_1 == ((rd_T51 l0 x8_1).f1) && (a1_2 == ((rd_T51 l0 x8_1).f2)))) = true := by simpa using c7))
       clear c7
       obtain rfl := Option.some.inj H
       have hcz8_0 : wr.cell? ⟨gb187, 0, none⟩ = some (.int .i64 a1_0) := (blk_cell BK187.out 0).trans rfl
       have hcz8_1 : wr.cell? ⟨gb187, 1, none⟩ = some (.int .i64 a1_1) := (blk_cell BK187.out 1).trans rfl
       have hcz8_2 : wr.cell? ⟨gb187, 2, none⟩ = some (.int .i64 a1_2) := (blk_cell BK187.out 2).trans rfl
       have hfz8_0 := blk_frozen BK187.out 0
       have hfz8_1 := blk_frozen BK187.out 1
       have hfz8_2 := blk_frozen BK187.out 2
       have p188 : 0 ≤ (x8_1 : Int) := of_decide_eq_true (by first | (with_reducible assumption) | assumption)
       have q188 : x8_1 < (l0.length : Int) := of_decide_eq_true (by first | (with_reducible assumption) | assumption)
       obtain ⟨ad188, e188, hx188_0, hx188_1, hx188_2⟩ := at_T51 HR0.out x8_1 p188 q188
       cases e188
       replace hx188_0 := (HB.out.cell (World.block_lt_of_cell? w _ hx188_0)).trans hx188_0
       replace hx188_1 := (HB.out.cell (World.block_lt_of_cell? w _ hx188_1)).trans hx188_1
       replace hx188_2 := (HB.out.cell (World.block_lt_of_cell? w _ hx188_2)).trans hx188_2
       replace p188 := eq_true p188
       replace q188 := eq_true q188
       go_wp2
       repeat (go_quiet (fail); try go_wp2)
       go_ret
       exact ⟨ze, zb HB.out⟩
      ·rw [if_neg c7] at H
       have c7b0 : (a1_0 == ((rd_T51 l0 x8_1).f0) && (a1_1 == ((rd_T51 l0 x8_1).f1) && (a1_2 == ((rd_T51 l0 x8_1).f2)))) = false := by simpa using c7
       (try (have c7b1 : decide (a1_0 = ((rd_T51 l0 x8_1).f0) && (a1_1 == ((rd_T51 l0 x8_1).f1) && (a1_2 == ((rd_T51 l0 x8_1).f2)))) = false := by simpa using c7))
       (try (have c7b2 : (a1_0 == ((rd_T51 l0 x8_1).f0) && (a1_1 == ((rd_T51 l0 x8_1).f1) && (a1_2 == ((rd_T51 l0 x8_1).f2)))) = false := by simpa using c7))
       (try (have c7b3 : ¬ (a1_0 = ((rd_T51 l0 x8_1).f0) && (a1_1 == ((rd_T51 l0 x8_1).f1) && (a1_2 == ((rd_T51 l0 x8_1).f2)))) := by simpa using c7))
       clear c7
       have H' := Aside0.mk H
       clear H
       have hcz9_0 : wr.cell? ⟨gb187, 0, none⟩ = some (.int .i64 a1_0) := (blk_cell BK187.out 0).trans rfl
       have hcz9_1 : wr.cell? ⟨gb187, 1, none⟩ = some (.int .i64 a1_1) := (blk_cell BK187.out 1).trans rfl
       have hcz9_2 : wr.cell? ⟨gb187, 2, none⟩ = some (.int .i64 a1_2) := (blk_cell BK187.out 2).trans rfl
       have hfz9_0 := blk_frozen BK187.out 0
       have hfz9_1 := blk_frozen BK187.out 1
       have hfz9_2 := blk_frozen BK187.out 2
       have p188 : 0 ≤ (x8_1 : Int) := of_decide_eq_true (by first | (with_reducible assumption) | assumption)
       have q188 : x8_1 < (l0.length : Int) := of_decide_eq_true (by first | (with_reducible assumption) | assumption)
       obtain ⟨ad188, e188, hx188_0, hx188_1, hx188_2⟩ := at_T51 HR0.out x8_1 p188 q188
       cases e188
       replace hx188_0 := (HB.out.cell (World.block_lt_of_cell? w _ hx188_0)).trans hx188_0
       replace hx188_1 := (HB.out.cell (World.block_lt_of_cell? w _ hx188_1)).trans hx188_1
       replace hx188_2 := (HB.out.cell (World.block_lt_of_cell? w _ hx188_2)).trans hx188_2
       replace p188 := eq_true p188
       replace q188 := eq_true q188
       go_wp2
       repeat (go_quiet (fail); try go_wp2)
       go_roundg k1
       case measure => have := HK1.out; omega
       case rel => exact ⟨(wrap64 (x8_1 + 1)), (by first | rfl | (simp; done) | (simp [*]; done)), H', ⟨by have := HK1.out; omega⟩, ⟨zh BK187.out⟩, ⟨zb HB.out⟩⟩
     ·rw [if_neg c6] at H
      exact absurd H (by simp)
    ·rw [if_neg c5] at H
     exact absurd H (by simp)
   ·rw [if_neg c4] at H
    have c4b0 : decide (x8_1 < (l0.length : Int)) = false := decide_eq_false c4
    clear c4
    obtain rfl := Option.some.inj H
    go_wp2
    repeat (go_quiet (fail); try go_wp2)
    go_ret
    exact ⟨ze, zb HB.out⟩

/-! ### impl_Pool_find: function 105 -/
def impl_Pool_find.f (k : Nat) (l0_0 : List (S51)) (a1_0 : Int) (a1_1 : Int) (a1_2 : Int) : Option (Int) := (impl_Node.f k l0_0 a1_0 a1_1 a1_2).bind fun t190 => (some t190)
theorem impl_Pool_find.mono : ∀ a0 a1 a2 a3 k, LeO (impl_Pool_find.f k a0 a1 a2 a3) (impl_Pool_find.f (k + 1) a0 a1 a2 a3) := by
 intro a0 a1 a2 a3 k
 unfold impl_Pool_find.f
 repeat' first
   | (with_reducible exact impl_Node.mono _ _ _ _ _)
   | (with_reducible exact LeO.refl _)
   | (with_reducible exact LeO.none _)
   | (with_reducible refine LeO.ite ?_ ?_)
   | (with_reducible refine LeO.bind ?_ (fun _ => ?_))
   | exact impl_Node.mono _ _ _ _ _
   | exact LeO.none _
   | refine LeO.ite ?_ ?_
   | refine LeO.bind ?_ (fun _ => ?_)
set_option maxHeartbeats 8000000 in
set_option maxRecDepth 100000 in
theorem impl_Pool_find.calls (k : Nat) (g0_ : Nat) (A0_0 : Option Addr) (c0_0 : Nat) (l0_0 : List (S51)) (a1_0 : Int) (a1_1 : Int) (a1_2 : Int) (r : Int) (w : World) (hk0_ : w.heap[g0_]? = some (.cells #[.slice A0_0 l0_0.length c0_0] 30 (0, 0))) (hr0_0 : Kd.C k51 w A0_0 l0_0.length l0_0) (hc0_0 : l0_0.length ≤ c0_0) (h : impl_Pool_find.f k l0_0 a1_0 a1_1 a1_2 = some r) :
  Calls Try.prog 105 #[.pointer (some ⟨g0_, 0, none⟩), .agg #[.int .i64 a1_0, .int .i64 a1_1, .int .i64 a1_2]] w fun e w' => e = .returned (.int .i64 r) ∧ Below w.heap.size w w' := by
 have hu51 := Try.underlying51
 have HR0_0 := Aside0.mk hr0_0
 have HC0_0 := Aside0.mk hc0_0
 clear hr0_0 hc0_0
 have BK0 := Aside0.mk hk0_
 clear hk0_
 have HB := Aside0.mk (Below.refl w.heap.size w)
 have H : ((impl_Node.f k l0_0 a1_0 a1_1 a1_2).bind fun t190 => (some t190)) = some r := h
 clear h
 replace H := Option.bind_eq_some_iff.mp H
 obtain ⟨t190, A30, H⟩ := H
 replace H : (some t190) = some r := H
 have A3 := Aside0.mk A30
 clear A30
 obtain rfl := Option.some.inj H
 go_enter Try.func105, Try.ntmps105
 try go_wp2_with (first | ((with_reducible refine gate_dst (N := 3) rfl ?_); refine box_event ?hg (N := 3) ?hd (cs := #[.int .i64 a1_0, .int .i64 a1_1, .int .i64 a1_2]) (t := 51) ?hr ?_; (case hd => rfl); (case hg => rfl); (case hr => first | (go_simp; done) | (go_simp; rfl)); intro gb189 hg w4 hbox hb; have n0_ := Aside0.mk (blk_below (zh BK0.out) hb); have n1_ := Aside0.mk (below_step (zb HB.out) hb); have n2_ := Aside0.mk (hbox); have n3_ := Aside0.mk ((by rw [hg]; exact (below_size (zb HB.out)) : w.heap.size ≤ gb189)); have n4_ := Aside0.mk ((by rw [hg]; exact (below_size (zb HB.out)) : w.heap.size ≤ gb189)); have n5_ := Aside0.mk ((by rw [hg]; exact Nat.ne_of_lt (blk_lt (zh BK0.out)) : g0_ ≠ gb189)); have n6_ := Aside0.mk ((by rw [hg]; exact Nat.ne_of_gt (blk_lt (zh BK0.out)) : gb189 ≠ g0_)); clear BK0; clear HB; have BK0 := n0_; have HB := n1_; have BK189 := n2_; have GW189 := n3_; have GE189 := n4_; have NB0_189 := n5_; have NB189_0 := n6_; clear n0_ n1_ n2_ n3_ n4_ n5_ n6_; clear hb hbox hg))
 have n0_ := Aside0.mk (blk_drew BK0.out)
 have n1_ := Aside0.mk (blk_drew BK189.out)
 have n2_ := Aside0.mk (below_drew1 HB.out)
 clear BK0
 clear BK189
 clear HB
 have BK0 := n0_
 have BK189 := n1_
 have HB := n2_
 clear n0_ n1_ n2_
 refine start_ (n := 7) (S := fun w' => w'.cell? ⟨g0_, 0, none⟩ = some (.slice A0_0 l0_0.length c0_0) ∧ w'.cell? ⟨gb189, 0, none⟩ = some (.int .i64 a1_0) ∧ w'.cell? ⟨gb189, 1, none⟩ = some (.int .i64 a1_1) ∧ w'.cell? ⟨gb189, 2, none⟩ = some (.int .i64 a1_2)) (ds := []) #[false, false, false, false, false, false, false] (by kernel_rfl) rfl rfl ⟨(blk_cell BK0.out 0).trans rfl, (blk_cell BK189.out 0).trans rfl, (blk_cell BK189.out 1).trans rfl, (blk_cell BK189.out 2).trans rfl⟩ (fun hHeld => ?_)
 generalize w4.drew = w5 at BK0 BK189 HB hHeld ⊢
 refine pure_ (i := 0) (N := some 5) (v := ?_) (a' := ?_) #[true, false, false, false, false, false, false] rfl rfl (by kernel_rfl) (fun _ _ _ h => h) (Or.inl ⟨by rfl, ?_⟩) ?_ ?_
 rotate_left
 ·intro w'
  go_simp
  with_reducible rfl
 rotate_left
 ·simp only [Act.put, List.setIfInBounds_toArray, List.set_cons_zero, List.set_cons_succ, i64_w, i32_w]
  rfl
 refine pure_ (i := 1) (N := some 6) (v := ?_) (a' := ?_) #[true, true, false, false, false, false, false] rfl rfl (by kernel_rfl) (fun _ _ _ h => h) (Or.inl ⟨by rfl, ?_⟩) ?_ ?_
 rotate_left
 ·intro w'
  go_simp
  with_reducible rfl
 rotate_left
 ·simp only [Act.put, List.setIfInBounds_toArray, List.set_cons_zero, List.set_cons_succ, i64_w, i32_w]
  rfl
 refine pure_ (i := 2) (N := some 7) (v := ?_) (a' := ?_) #[true, true, true, false, false, false, false] rfl rfl (by kernel_rfl) (fun _ _ _ h => h) (Or.inl ⟨by rfl, ?_⟩) ?_ ?_
 rotate_left
 ·intro w'
  go_simp
  with_reducible rfl
 rotate_left
 ·simp only [Act.put, List.setIfInBounds_toArray, List.set_cons_zero, List.set_cons_succ, i64_w, i32_w]
  rfl
 refine take_ (i := 3) (N := some 8) (v := ?_) (a' := ?_) #[true, true, true, true, false, false, false] rfl rfl (by kernel_rfl) (fun _ _ _ h => h) (Or.inl ⟨by rfl, ?_⟩) hHeld ?_ ?_
 rotate_left
 ·rintro w' ⟨s0, s1, s2, s3⟩
  go_simp
  with_reducible rfl
 rotate_left
 ·simp only [Act.put, List.setIfInBounds_toArray, List.set_cons_zero, List.set_cons_succ, i64_w, i32_w]
  rfl
 refine take_ (i := 4) (N := some 9) (v := ?_) (a' := ?_) #[true, true, true, true, true, false, false] rfl rfl (by kernel_rfl) (fun _ _ _ h => h) (Or.inl ⟨by rfl, ?_⟩) hHeld ?_ ?_
 rotate_left
 ·rintro w' ⟨s0, s1, s2, s3⟩
  go_simp
  with_reducible rfl
 rotate_left
 ·simp only [Act.put, List.setIfInBounds_toArray, List.set_cons_zero, List.set_cons_succ, i64_w, i32_w]
  rfl
 refine one_ (i := 5) (N := some 10) #[true, true, true, true, true, true, false] rfl rfl (by kernel_rfl) (by decide) (fun K hK => ?_)
 refine goes_ Try.func109 (by kernel_rfl) rfl #[.slice A0_0 l0_0.length c0_0, .agg #[.int .i64 a1_0, .int .i64 a1_1, .int .i64 a1_2]] (by rfl) rfl rfl zl ?_
 with_reducible refine (impl_Node.calls k _ _ l0_0 a1_0 a1_1 a1_2 t190 _ ?side1 ?side2 A3.out).mono ?_
 (case side1 => exact zc (Kd.C_below HR0_0.out HB.out))
 (case side2 => exact HC0_0.out)
 rintro e w6 ⟨rfl, hb⟩
 refine ⟨_, rfl, ?_⟩
 have n0_ := Aside0.mk (blk_below (zh BK0.out) hb)
 have n1_ := Aside0.mk (blk_below (zh BK189.out) hb)
 have n2_ := Aside0.mk (below_step (zb HB.out) hb)
 clear BK0
 clear BK189
 clear HB
 have BK0 := n0_
 have BK189 := n1_
 have HB := n2_
 clear n0_ n1_ n2_
 (try clear hb)
 (try clear hb2)
 (try clear hk)
 (try clear hi)
 refine hK.out _ _ ⟨(blk_cell BK0.out 0).trans rfl, (blk_cell BK189.out 0).trans rfl, (blk_cell BK189.out 1).trans rfl, (blk_cell BK189.out 2).trans rfl⟩ (fun hHeld => ?_)
 clear hK K
 refine norm_ (a' := ?_) ?_ ?_
 rotate_left
 ·show Act.put _ (some 10) _ = _
  simp only [Act.put, List.setIfInBounds_toArray, List.set_cons_zero, List.set_cons_succ, i64_w, i32_w]
  rfl
 refine pure_ (i := 6) (N := some 4) (v := ?_) (a' := ?_) #[true, true, true, true, true, true, true] rfl rfl (by kernel_rfl) (fun _ _ _ h => h) (Or.inl ⟨by rfl, ?_⟩) ?_ ?_
 rotate_left
 ·intro w'
  go_simp
  with_reducible rfl
 rotate_left
 ·simp only [Act.put, List.setIfInBounds_toArray, List.set_cons_zero, List.set_cons_succ, i64_w, i32_w]
  rfl
 refine done_ (by kernel_rfl) ?_
 try go_wp2
 go_ret
 exact ⟨ze, zb HB.out⟩

/-! ### impl_Pool_isMade: function 91 -/
def impl_Pool_isMade.f (k : Nat) (l0_0 : List (S51)) (a1_0 : Int) (a1_1 : Int) (a1_2 : Int) (l2 : List Bool) : Option (Bool) := (impl_Pool_find.f k l0_0 a1_0 a1_1 a1_2).bind fun t192 => (if t192 ≥ 0 then (if 0 ≤ t192 then (if t192 < (l2.length : Int) then (some (rdOf false l2 t192)) else (none)) else (none)) else (some false))
theorem impl_Pool_isMade.mono : ∀ a0 a1 a2 a3 a4 k, LeO (impl_Pool_isMade.f k a0 a1 a2 a3 a4) (impl_Pool_isMade.f (k + 1) a0 a1 a2 a3 a4) := by
 intro a0 a1 a2 a3 a4 k
 unfold impl_Pool_isMade.f
 repeat' first
   | (with_reducible exact impl_Pool_find.mono _ _ _ _ _)
   | (with_reducible exact LeO.refl _)
   | (with_reducible exact LeO.none _)
   | (with_reducible refine LeO.ite ?_ ?_)
   | (with_reducible refine LeO.bind ?_ (fun _ => ?_))
   | exact impl_Pool_find.mono _ _ _ _ _
   | exact LeO.none _
   | refine LeO.ite ?_ ?_
   | refine LeO.bind ?_ (fun _ => ?_)
set_option maxHeartbeats 8000000 in
set_option maxRecDepth 100000 in
theorem impl_Pool_isMade.calls (k : Nat) (g0_ : Nat) (A0_0 : Option Addr) (c0_0 : Nat) (l0_0 : List (S51)) (a1_0 : Int) (a1_1 : Int) (a1_2 : Int) (A2 : Option Addr) (c2 : Nat) (l2 : List Bool) (r : Bool) (w : World) (hk0_ : w.heap[g0_]? = some (.cells #[.slice A0_0 l0_0.length c0_0] 30 (0, 0))) (hr0_0 : Kd.C k51 w A0_0 l0_0.length l0_0) (hc0_0 : l0_0.length ≤ c0_0) (hr2 : Kd.C Kd.bool w A2 l2.length l2) (hc2 : l2.length ≤ c2) (h : impl_Pool_isMade.f k l0_0 a1_0 a1_1 a1_2 l2 = some r) :
  Calls Try.prog 91 #[.pointer (some ⟨g0_, 0, none⟩), .agg #[.int .i64 a1_0, .int .i64 a1_1, .int .i64 a1_2], .slice A2 l2.length c2] w fun e w' => e = .returned (.bool r) ∧ Below w.heap.size w w' := by
 have hu51 := Try.underlying51
 have HR0_0 := Aside0.mk hr0_0
 have HC0_0 := Aside0.mk hc0_0
 clear hr0_0 hc0_0
 have HR2 := Aside0.mk hr2
 have HC2 := Aside0.mk hc2
 clear hr2 hc2
 have BK0 := Aside0.mk hk0_
 clear hk0_
 have HB := Aside0.mk (Below.refl w.heap.size w)
 have H : ((impl_Pool_find.f k l0_0 a1_0 a1_1 a1_2).bind fun t192 => (if t192 ≥ 0 then (if 0 ≤ t192 then (if t192 < (l2.length : Int) then (some (rdOf false l2 t192)) else (none)) else (none)) else (some false))) = some r := h
 clear h
 replace H := Option.bind_eq_some_iff.mp H
 obtain ⟨t192, A40, H⟩ := H
 replace H : (if t192 ≥ 0 then (if 0 ≤ t192 then (if t192 < (l2.length : Int) then (some (rdOf false l2 t192)) else (none)) else (none)) else (some false)) = some r := H
 have A4 := Aside0.mk A40
 clear A40
 by_cases c5 : t192 ≥ 0
 ·rw [if_pos c5] at H
  have c5b0 : decide (0 ≤ t192) = true := decide_eq_true c5
  clear c5
  by_cases c6 : 0 ≤ t192
  ·rw [if_pos c6] at H
   have c6b0 : decide (0 ≤ t192) = true := decide_eq_true c6
   clear c6
   by_cases c7 : t192 < (l2.length : Int)
   ·rw [if_pos c7] at H
    have c7b0 : decide (t192 < (l2.length : Int)) = true := decide_eq_true c7
    clear c7
    obtain rfl := Option.some.inj H
    go_enter Try.func91, Try.ntmps91
    go_wp2_with (first | ((with_reducible refine gate_dst (N := 4) rfl ?_); refine box_event ?hg (N := 4) ?hd (cs := #[.int .i64 a1_0, .int .i64 a1_1, .int .i64 a1_2]) (t := 51) ?hr ?_; (case hd => rfl); (case hg => rfl); (case hr => first | (go_simp; done) | (go_simp; rfl)); intro gb191 hg w8 hbox hb; have n0_ := Aside0.mk (blk_below (zh BK0.out) hb); have n1_ := Aside0.mk (below_step (zb HB.out) hb); have n2_ := Aside0.mk (hbox); have n3_ := Aside0.mk ((by rw [hg]; exact (below_size (zb HB.out)) : w.heap.size ≤ gb191)); have n4_ := Aside0.mk ((by rw [hg]; exact (below_size (zb HB.out)) : w.heap.size ≤ gb191)); have n5_ := Aside0.mk ((by rw [hg]; exact Nat.ne_of_lt (blk_lt (zh BK0.out)) : g0_ ≠ gb191)); have n6_ := Aside0.mk ((by rw [hg]; exact Nat.ne_of_gt (blk_lt (zh BK0.out)) : gb191 ≠ g0_)); clear BK0; clear HB; have BK0 := n0_; have HB := n1_; have BK191 := n2_; have GW191 := n3_; have GE191 := n4_; have NB0_191 := n5_; have NB191_0 := n6_; clear n0_ n1_ n2_ n3_ n4_ n5_ n6_; clear hb hbox hg; have hnb9 := NB191_0.out; have hnc9 := NB0_191.out; have hcz10_0 : w8.cell? ⟨gb191, 0, none⟩ = some (.int .i64 a1_0) := (blk_cell BK191.out 0).trans rfl; have hcz10_1 : w8.cell? ⟨gb191, 1, none⟩ = some (.int .i64 a1_1) := (blk_cell BK191.out 1).trans rfl; have hcz10_2 : w8.cell? ⟨gb191, 2, none⟩ = some (.int .i64 a1_2) := (blk_cell BK191.out 2).trans rfl; have hfz10_0 := blk_frozen BK191.out 0; have hfz10_1 := blk_frozen BK191.out 1; have hfz10_2 := blk_frozen BK191.out 2) | ((with_reducible refine gate_callee (f := 105) rfl ?_); refine goesL_ (some 10) rfl rfl Try.func105 (by kernel_rfl) rfl #[.pointer (some ⟨g0_, 0, none⟩), .agg #[.int .i64 a1_0, .int .i64 a1_1, .int .i64 a1_2]] rfl zl ?_; (with_reducible refine (impl_Pool_find.calls k _ A0_0 c0_0 l0_0 a1_0 a1_1 a1_2 t192 _ ?side1 ?side2 ?side3 A4.out).mono ?_); (case side1 => exact zh BK0.out); (case side2 => exact zc (Kd.C_below HR0_0.out HB.out)); (case side3 => exact HC0_0.out); rintro e w11 ⟨rfl, hb⟩; refine ⟨_, rfl, ?_⟩; have n0_ := Aside0.mk (blk_below (zh BK0.out) hb); have n1_ := Aside0.mk (blk_below (zh BK191.out) hb); have n2_ := Aside0.mk (below_step (zb HB.out) hb); clear BK0; clear BK191; clear HB; have BK0 := n0_; have BK191 := n1_; have HB := n2_; clear n0_ n1_ n2_; (try clear hb); (try clear hb2); (try clear hk); (try clear hi); have p193 : 0 ≤ (t192 : Int) := of_decide_eq_true (by first | (with_reducible assumption) | assumption); have q193 : t192 < (l2.length : Int) := of_decide_eq_true (by first | (with_reducible assumption) | assumption); obtain ⟨ad193, e193, hx193_0⟩ := Kd.at_bool HR2.out t192 p193 q193; cases e193; replace hx193_0 := (HB.out.cell (World.block_lt_of_cell? w _ hx193_0)).trans hx193_0; replace p193 := eq_true p193; replace q193 := eq_true q193))
    go_ret
    exact ⟨ze, zb HB.out⟩
   ·rw [if_neg c7] at H
    exact absurd H (by simp)
  ·rw [if_neg c6] at H
   exact absurd H (by simp)
 ·rw [if_neg c5] at H
  have c5b0 : decide (0 ≤ t192) = false := decide_eq_false c5
  clear c5
  obtain rfl := Option.some.inj H
  go_enter Try.func91, Try.ntmps91
  go_wp2_with (first | ((with_reducible refine gate_dst (N := 4) rfl ?_); refine box_event ?hg (N := 4) ?hd (cs := #[.int .i64 a1_0, .int .i64 a1_1, .int .i64 a1_2]) (t := 51) ?hr ?_; (case hd => rfl); (case hg => rfl); (case hr => first | (go_simp; done) | (go_simp; rfl)); intro gb191 hg w12 hbox hb; have n0_ := Aside0.mk (blk_below (zh BK0.out) hb); have n1_ := Aside0.mk (below_step (zb HB.out) hb); have n2_ := Aside0.mk (hbox); have n3_ := Aside0.mk ((by rw [hg]; exact (below_size (zb HB.out)) : w.heap.size ≤ gb191)); have n4_ := Aside0.mk ((by rw [hg]; exact (below_size (zb HB.out)) : w.heap.size ≤ gb191)); have n5_ := Aside0.mk ((by rw [hg]; exact Nat.ne_of_lt (blk_lt (zh BK0.out)) : g0_ ≠ gb191)); have n6_ := Aside0.mk ((by rw [hg]; exact Nat.ne_of_gt (blk_lt (zh BK0.out)) : gb191 ≠ g0_)); clear BK0; clear HB; have BK0 := n0_; have HB := n1_; have BK191 := n2_; have GW191 := n3_; have GE191 := n4_; have NB0_191 := n5_; have NB191_0 := n6_; clear n0_ n1_ n2_ n3_ n4_ n5_ n6_; clear hb hbox hg; have hnb13 := NB191_0.out; have hnc13 := NB0_191.out; have hcz14_0 : w12.cell? ⟨gb191, 0, none⟩ = some (.int .i64 a1_0) := (blk_cell BK191.out 0).trans rfl; have hcz14_1 : w12.cell? ⟨gb191, 1, none⟩ = some (.int .i64 a1_1) := (blk_cell BK191.out 1).trans rfl; have hcz14_2 : w12.cell? ⟨gb191, 2, none⟩ = some (.int .i64 a1_2) := (blk_cell BK191.out 2).trans rfl; have hfz14_0 := blk_frozen BK191.out 0; have hfz14_1 := blk_frozen BK191.out 1; have hfz14_2 := blk_frozen BK191.out 2) | ((with_reducible refine gate_callee (f := 105) rfl ?_); refine goesL_ (some 10) rfl rfl Try.func105 (by kernel_rfl) rfl #[.pointer (some ⟨g0_, 0, none⟩), .agg #[.int .i64 a1_0, .int .i64 a1_1, .int .i64 a1_2]] rfl zl ?_; (with_reducible refine (impl_Pool_find.calls k _ A0_0 c0_0 l0_0 a1_0 a1_1 a1_2 t192 _ ?side1 ?side2 ?side3 A4.out).mono ?_); (case side1 => exact zh BK0.out); (case side2 => exact zc (Kd.C_below HR0_0.out HB.out)); (case side3 => exact HC0_0.out); rintro e w15 ⟨rfl, hb⟩; refine ⟨_, rfl, ?_⟩; have n0_ := Aside0.mk (blk_below (zh BK0.out) hb); have n1_ := Aside0.mk (blk_below (zh BK191.out) hb); have n2_ := Aside0.mk (below_step (zb HB.out) hb); clear BK0; clear BK191; clear HB; have BK0 := n0_; have BK191 := n1_; have HB := n2_; clear n0_ n1_ n2_; (try clear hb); (try clear hb2); (try clear hk); (try clear hi)))
  go_ret
  exact ⟨ze, zb HB.out⟩

end Go.Proofs.Ytgohebghlgamiaa.P
end

section
-- Written by this session's program (wip/tools/gprint.py over the kit's print) out of the translation; Lean checks it.
namespace Go.Proofs.Ytgohebghlgamiaa.P
open Go.RowKit Go.Proofs.YtgohebghlgamiaaW.PrintWords Go.Proofs.YtgohebghlgamiaaW.PrintLast Go.Proofs.YtgohebghlgamiaaW.PrintMore
attribute [local go_sem] max2_int min2_int max_two min_two max_three min_three max_four min_four   -- for this text's walks alone
set_option linter.unusedVariables false
set_option linter.unusedSimpArgs false
set_option maxRecDepth 100000

/-! ### impl_Pool_canMake: function 71 -/
mutual
def impl_Pool_canMake.l0 : Nat → List Bool → Bool → List Int → Int → Int → List (S51) → Int → Int → Int → Option (Bool)
 | 0, _, _, _, _, _, _, _, _, _ => none
 | k + 1, x2, x8, x26, x27, x28, x1000, x196000, x196001, x196002 => if x28 < x27 then (if 0 ≤ x28 then (if x28 < (x26.length : Int) then (if x8 = true then (if 0 ≤ (rd x26 x28) then (if (rd x26 x28) < (x2.length : Int) then (impl_Pool_canMake.l0 k x2 (rdOf false x2 (rd x26 x28)) x26 x27 (wrap64 (x28 + 1)) x1000 x196000 x196001 x196002) else (none)) else (none)) else (impl_Pool_canMake.l0 k x2 false x26 x27 (wrap64 (x28 + 1)) x1000 x196000 x196001 x196002)) else (none)) else (none)) else (if x8 = true then (impl_Pool_canMake.j1 k x2 x8 true x1000 x196000 x196001 x196002) else (impl_Pool_canMake.j1 k x2 x8 (x196000 != 8) x1000 x196000 x196001 x196002))
def impl_Pool_canMake.j1 : Nat → List Bool → Bool → Bool → List (S51) → Int → Int → Int → Option (Bool)
 | 0, _, _, _, _, _, _, _ => none
 | k + 1, x2, x8, x45, x1000, x196000, x196001, x196002 => if x45 = true then (some x8) else (if 0 ≤ x196001 then (if x196001 < (x2.length : Int) then (if rdOf false x2 x196001 = true then ((impl_Pool_isMade.f k x1000 7 x196002 0 x2).bind fun t203 => (if t203 = true then (some true) else (if 0 ≤ x196002 then (if x196002 < (x2.length : Int) then (if rdOf false x2 x196002 = true then ((impl_Pool_isMade.f k x1000 7 x196001 0 x2).bind fun t205 => (some t205)) else (some false)) else (none)) else (none)))) else (if 0 ≤ x196002 then (if x196002 < (x2.length : Int) then (if rdOf false x2 x196002 = true then ((impl_Pool_isMade.f k x1000 7 x196001 0 x2).bind fun t207 => (some t207)) else (some false)) else (none)) else (none))) else (none)) else (none))
end
def impl_Pool_canMake.f (k : Nat) (l0_0 : List (S51)) (a1 : Int) (l2 : List Bool) : Option (Bool) := if 0 ≤ a1 then (if a1 < (l0_0.length : Int) then (if ((rd_T51 l0_0 a1).f0) = 1 then ((impl_IsPublic.f ((rd_T51 l0_0 a1).f1)).bind fun t196 => (some t196)) else ((impl_Pool_parts.f k l0_0 a1).bind fun t197 => (impl_Pool_canMake.l0 k l2 true t197 (t197.length : Int) 0 l0_0 ((rd_T51 l0_0 a1).f0) ((rd_T51 l0_0 a1).f1) ((rd_T51 l0_0 a1).f2)))) else (none)) else (none)
theorem impl_Pool_canMake.mono_l : ∀ k, (∀ y0 y1 y2 y3 y4 y5 y6 y7 y8, LeO (impl_Pool_canMake.l0 k y0 y1 y2 y3 y4 y5 y6 y7 y8) (impl_Pool_canMake.l0 (k + 1) y0 y1 y2 y3 y4 y5 y6 y7 y8)) ∧ (∀ y0 y1 y2 y3 y4 y5 y6, LeO (impl_Pool_canMake.j1 k y0 y1 y2 y3 y4 y5 y6) (impl_Pool_canMake.j1 (k + 1) y0 y1 y2 y3 y4 y5 y6))
 | 0 => ⟨fun _ _ _ _ _ _ _ _ _ r h => by simp [impl_Pool_canMake.l0] at h, fun _ _ _ _ _ _ _ r h => by simp [impl_Pool_canMake.j1] at h⟩
 | k + 1 => by
  obtain ⟨ih0, ih1⟩ := impl_Pool_canMake.mono_l k
  refine ⟨?_, ?_⟩
  ·intro y0 y1 y2 y3 y4 y5 y6 y7 y8
   unfold impl_Pool_canMake.l0
   repeat' first
   | (with_reducible exact ih0 _ _ _ _ _ _ _ _ _)
   | (with_reducible exact ih1 _ _ _ _ _ _ _)
   | (with_reducible exact impl_Pool_isMade.mono _ _ _ _ _ _)
   | (with_reducible exact impl_Pool_parts.mono _ _ _)
   | (with_reducible exact LeO.refl _)
   | (with_reducible exact LeO.none _)
   | (with_reducible refine LeO.ite ?_ ?_)
   | (with_reducible refine LeO.bind ?_ (fun _ => ?_))
   | exact ih0 _ _ _ _ _ _ _ _ _
   | exact ih1 _ _ _ _ _ _ _
   | exact impl_Pool_isMade.mono _ _ _ _ _ _
   | exact impl_Pool_parts.mono _ _ _
   | exact LeO.none _
   | refine LeO.ite ?_ ?_
   | refine LeO.bind ?_ (fun _ => ?_)
  ·intro y0 y1 y2 y3 y4 y5 y6
   unfold impl_Pool_canMake.j1
   repeat' first
   | (with_reducible exact ih0 _ _ _ _ _ _ _ _ _)
   | (with_reducible exact ih1 _ _ _ _ _ _ _)
   | (with_reducible exact impl_Pool_isMade.mono _ _ _ _ _ _)
   | (with_reducible exact impl_Pool_parts.mono _ _ _)
   | (with_reducible exact LeO.refl _)
   | (with_reducible exact LeO.none _)
   | (with_reducible refine LeO.ite ?_ ?_)
   | (with_reducible refine LeO.bind ?_ (fun _ => ?_))
   | exact ih0 _ _ _ _ _ _ _ _ _
   | exact ih1 _ _ _ _ _ _ _
   | exact impl_Pool_isMade.mono _ _ _ _ _ _
   | exact impl_Pool_parts.mono _ _ _
   | exact LeO.none _
   | refine LeO.ite ?_ ?_
   | refine LeO.bind ?_ (fun _ => ?_)
theorem impl_Pool_canMake.mono : ∀ a0 a1 a2 k, LeO (impl_Pool_canMake.f k a0 a1 a2) (impl_Pool_canMake.f (k + 1) a0 a1 a2) := by
 intro a0 a1 a2 k
 obtain ⟨ih0, ih1⟩ := impl_Pool_canMake.mono_l k
 unfold impl_Pool_canMake.f
 repeat' first
   | (with_reducible exact ih0 _ _ _ _ _ _ _ _ _)
   | (with_reducible exact ih1 _ _ _ _ _ _ _)
   | (with_reducible exact impl_Pool_isMade.mono _ _ _ _ _ _)
   | (with_reducible exact impl_Pool_parts.mono _ _ _)
   | (with_reducible exact LeO.refl _)
   | (with_reducible exact LeO.none _)
   | (with_reducible refine LeO.ite ?_ ?_)
   | (with_reducible refine LeO.bind ?_ (fun _ => ?_))
   | exact ih0 _ _ _ _ _ _ _ _ _
   | exact ih1 _ _ _ _ _ _ _
   | exact impl_Pool_isMade.mono _ _ _ _ _ _
   | exact impl_Pool_parts.mono _ _ _
   | exact LeO.none _
   | refine LeO.ite ?_ ?_
   | refine LeO.bind ?_ (fun _ => ?_)
set_option maxHeartbeats 8000000 in
set_option maxRecDepth 100000 in
theorem impl_Pool_canMake.calls (k : Nat) (g0_ : Nat) (A0_0 : Option Addr) (c0_0 : Nat) (l0_0 : List (S51)) (a1 : Int) (A2 : Option Addr) (c2 : Nat) (l2 : List Bool) (r : Bool) (w : World) (hk0_ : w.heap[g0_]? = some (.cells #[.slice A0_0 l0_0.length c0_0] 30 (0, 0))) (hr0_0 : Kd.C k51 w A0_0 l0_0.length l0_0) (hc0_0 : l0_0.length ≤ c0_0) (hr2 : Kd.C Kd.bool w A2 l2.length l2) (hc2 : l2.length ≤ c2) (h : impl_Pool_canMake.f k l0_0 a1 l2 = some r) :
  Calls Try.prog 71 #[.pointer (some ⟨g0_, 0, none⟩), .int .i64 a1, .slice A2 l2.length c2] w fun e w' => e = .returned (.bool r) ∧ Below w.heap.size w w' := by
 have hu51 := Try.underlying51
 have HR0_0 := Aside0.mk hr0_0
 have HC0_0 := Aside0.mk hc0_0
 clear hr0_0 hc0_0
 have HR2 := Aside0.mk hr2
 have HC2 := Aside0.mk hc2
 clear hr2 hc2
 have BK0 := Aside0.mk hk0_
 clear hk0_
 have HB := Aside0.mk (Below.refl w.heap.size w)
 have H : (if 0 ≤ a1 then (if a1 < (l0_0.length : Int) then (if ((rd_T51 l0_0 a1).f0) = 1 then ((impl_IsPublic.f ((rd_T51 l0_0 a1).f1)).bind fun t196 => (some t196)) else ((impl_Pool_parts.f k l0_0 a1).bind fun t197 => (impl_Pool_canMake.l0 k l2 true t197 (t197.length : Int) 0 l0_0 ((rd_T51 l0_0 a1).f0) ((rd_T51 l0_0 a1).f1) ((rd_T51 l0_0 a1).f2)))) else (none)) else (none)) = some r := h
 clear h
 by_cases c4 : 0 ≤ a1
 ·rw [if_pos c4] at H
  have c4b0 : decide (0 ≤ a1) = true := decide_eq_true c4
  clear c4
  by_cases c5 : a1 < (l0_0.length : Int)
  ·rw [if_pos c5] at H
   have c5b0 : decide (a1 < (l0_0.length : Int)) = true := decide_eq_true c5
   clear c5
   by_cases c6 : ((rd_T51 l0_0 a1).f0) = 1
   ·rw [if_pos c6] at H
    have c6b0 : (((rd_T51 l0_0 a1).f0) == 1) = true := beq_iff_eq.mpr c6
    have c6b1 : (((rd_T51 l0_0 a1).f0) != 1) = false := bne_eq_false_iff_eq.mpr c6
    clear c6
    replace H := Option.bind_eq_some_iff.mp H
    obtain ⟨t196, A70, H⟩ := H
    replace H : (some t196) = some r := H
    have A7 := Aside0.mk A70
    clear A70
    obtain rfl := Option.some.inj H
    have hcz8_0 : w.cell? ⟨g0_, 0, none⟩ = some (.slice A0_0 l0_0.length c0_0) := (blk_cell BK0.out 0).trans rfl
    have hfz8_0 := blk_frozen BK0.out 0
    have p194 : 0 ≤ (a1 : Int) := of_decide_eq_true (by first | (with_reducible assumption) | assumption)
    have q194 : a1 < (l0_0.length : Int) := of_decide_eq_true (by first | (with_reducible assumption) | assumption)
    obtain ⟨ad194, e194, hx194_0, hx194_1, hx194_2⟩ := at_T51 HR0_0.out a1 p194 q194
    cases e194
    replace p194 := eq_true p194
    replace q194 := eq_true q194
    go_enter Try.func71, Try.ntmps71
    go_wp2_with (first | ((with_reducible refine gate_dst (N := 7) rfl ?_); refine box_event ?hg (N := 7) ?hd (cs := #[.int .i64 0, .int .i64 0, .int .i64 0]) (t := 51) ?hr ?_; (case hd => rfl); (case hg => rfl); (case hr => first | (go_simp; done) | (go_simp; rfl)); intro gb195 hg w9 hbox hb; have n0_ := Aside0.mk (blk_below (zh BK0.out) hb); have n1_ := Aside0.mk (below_step (zb HB.out) hb); have n2_ := Aside0.mk (hbox); have n3_ := Aside0.mk ((by rw [hg]; exact (below_size (zb HB.out)) : w.heap.size ≤ gb195)); have n4_ := Aside0.mk ((by rw [hg]; exact (below_size (zb HB.out)) : w.heap.size ≤ gb195)); have n5_ := Aside0.mk ((by rw [hg]; exact Nat.ne_of_lt (blk_lt (zh BK0.out)) : g0_ ≠ gb195)); have n6_ := Aside0.mk ((by rw [hg]; exact Nat.ne_of_gt (blk_lt (zh BK0.out)) : gb195 ≠ g0_)); clear BK0; clear HB; have BK0 := n0_; have HB := n1_; have BK195 := n2_; have GW195 := n3_; have GE195 := n4_; have NB0_195 := n5_; have NB195_0 := n6_; clear n0_ n1_ n2_ n3_ n4_ n5_ n6_; clear hb hbox hg; have hnb10 := NB195_0.out; have hnc10 := NB0_195.out; have hcz11_0 : w9.cell? ⟨gb195, 0, none⟩ = some (.int .i64 0) := (blk_cell BK195.out 0).trans rfl; have hcz11_1 : w9.cell? ⟨gb195, 1, none⟩ = some (.int .i64 0) := (blk_cell BK195.out 1).trans rfl; have hcz11_2 : w9.cell? ⟨gb195, 2, none⟩ = some (.int .i64 0) := (blk_cell BK195.out 2).trans rfl; have hfz11_0 := blk_frozen BK195.out 0; have hfz11_1 := blk_frozen BK195.out 1; have hfz11_2 := blk_frozen BK195.out 2) | ((with_reducible refine gate_callee (f := 32) rfl ?_); refine goesL_ (some 23) rfl rfl Try.func32 (by kernel_rfl) rfl #[.int .i64 ((rd_T51 l0_0 a1).f1)] rfl zl ?_; (with_reducible refine (impl_IsPublic.calls ((rd_T51 l0_0 a1).f1) t196 _ A7.out).mono ?_); rintro e w' ⟨rfl, ⟨nd, rfl⟩⟩; refine ⟨_, rfl, ?_⟩))
    go_ret
    exact ⟨ze, zb HB.out⟩
   ·rw [if_neg c6] at H
    have c6b0 : (((rd_T51 l0_0 a1).f0) == 1) = false := beq_eq_false_iff_ne.mpr c6
    have c6b1 : (((rd_T51 l0_0 a1).f0) != 1) = true := bne_iff_ne.mpr c6
    replace H := Option.bind_eq_some_iff.mp H
    obtain ⟨t197, A120, H⟩ := H
    replace H : (impl_Pool_canMake.l0 k l2 true t197 (t197.length : Int) 0 l0_0 ((rd_T51 l0_0 a1).f0) ((rd_T51 l0_0 a1).f1) ((rd_T51 l0_0 a1).f2)) = some r := H
    have A12 := Aside0.mk A120
    clear A120
    have H' := Aside0.mk H
    clear H
    have hcz13_0 : w.cell? ⟨g0_, 0, none⟩ = some (.slice A0_0 l0_0.length c0_0) := (blk_cell BK0.out 0).trans rfl
    have hfz13_0 := blk_frozen BK0.out 0
    have p194 : 0 ≤ (a1 : Int) := of_decide_eq_true (by first | (with_reducible assumption) | assumption)
    have q194 : a1 < (l0_0.length : Int) := of_decide_eq_true (by first | (with_reducible assumption) | assumption)
    obtain ⟨ad194, e194, hx194_0, hx194_1, hx194_2⟩ := at_T51 HR0_0.out a1 p194 q194
    cases e194
    replace p194 := eq_true p194
    replace q194 := eq_true q194
    go_enter Try.func71, Try.ntmps71
    go_wp2_with (first | ((with_reducible refine gate_dst (N := 7) rfl ?_); refine box_event ?hg (N := 7) ?hd (cs := #[.int .i64 0, .int .i64 0, .int .i64 0]) (t := 51) ?hr ?_; (case hd => rfl); (case hg => rfl); (case hr => first | (go_simp; done) | (go_simp; rfl)); intro gb195 hg w14 hbox hb; have n0_ := Aside0.mk (blk_below (zh BK0.out) hb); have n1_ := Aside0.mk (below_step (zb HB.out) hb); have n2_ := Aside0.mk (hbox); have n3_ := Aside0.mk ((by rw [hg]; exact (below_size (zb HB.out)) : w.heap.size ≤ gb195)); have n4_ := Aside0.mk ((by rw [hg]; exact (below_size (zb HB.out)) : w.heap.size ≤ gb195)); have n5_ := Aside0.mk ((by rw [hg]; exact Nat.ne_of_lt (blk_lt (zh BK0.out)) : g0_ ≠ gb195)); have n6_ := Aside0.mk ((by rw [hg]; exact Nat.ne_of_gt (blk_lt (zh BK0.out)) : gb195 ≠ g0_)); clear BK0; clear HB; have BK0 := n0_; have HB := n1_; have BK195 := n2_; have GW195 := n3_; have GE195 := n4_; have NB0_195 := n5_; have NB195_0 := n6_; clear n0_ n1_ n2_ n3_ n4_ n5_ n6_; clear hb hbox hg; have hnb15 := NB195_0.out; have hnc15 := NB0_195.out; have hcz16_0 : w14.cell? ⟨gb195, 0, none⟩ = some (.int .i64 0) := (blk_cell BK195.out 0).trans rfl; have hcz16_1 : w14.cell? ⟨gb195, 1, none⟩ = some (.int .i64 0) := (blk_cell BK195.out 1).trans rfl; have hcz16_2 : w14.cell? ⟨gb195, 2, none⟩ = some (.int .i64 0) := (blk_cell BK195.out 2).trans rfl; have hfz16_0 := blk_frozen BK195.out 0; have hfz16_1 := blk_frozen BK195.out 1; have hfz16_2 := blk_frozen BK195.out 2) | ((with_reducible refine gate_callee (f := 57) rfl ?_); refine goesL_ (some 26) rfl rfl Try.func57 (by kernel_rfl) rfl #[.pointer (some ⟨g0_, 0, none⟩), .int .i64 a1] rfl zl ?_; (with_reducible refine (impl_Pool_parts.calls k _ (some ad194) c0_0 l0_0 a1 t197 _ ?side1 ?side2 ?side3 A12.out).mono ?_); (case side1 => exact zf BK0.out); (case side2 => exact Kd.C_below HR0_0.out (zb HB.out)); (case side3 => exact HC0_0.out); rintro e w17 ⟨v198, rfl, ho0, hb⟩; refine ⟨_, rfl, ?_⟩; have n0_ := Aside0.mk (Kd.R_lower ho0 (below_size (zb HB.out))); have n1_ := Aside0.mk (blk_below (g := g0_) (o := .cells #[.slice (some ad194) l0_0.length c0_0] 30 (0, 0)) (zf BK0.out) hb); have n2_ := Aside0.mk (blk_below (g := gb195) (o := .cells #[.int .i64 ((rd_T51 l0_0 a1).f0), .int .i64 ((rd_T51 l0_0 a1).f1), .int .i64 ((rd_T51 l0_0 a1).f2)] 51 (0, 0)) (by (with_reducible repeat (first | refine blk_drewN ?_ _ | refine blk_drew ?_ | refine blk_alloc ?_ _)); refine blk_put (cs := #[.int .i64 ((rd_T51 l0_0 a1).f0), .int .i64 ((rd_T51 l0_0 a1).f1), .int .i64 0]) ?_ 2 _ rfl; (with_reducible repeat (first | refine blk_drewN ?_ _ | refine blk_drew ?_ | refine blk_alloc ?_ _)); refine blk_put (cs := #[.int .i64 ((rd_T51 l0_0 a1).f0), .int .i64 0, .int .i64 0]) ?_ 1 _ rfl; (with_reducible repeat (first | refine blk_drewN ?_ _ | refine blk_drew ?_ | refine blk_alloc ?_ _)); refine blk_put (cs := #[.int .i64 0, .int .i64 0, .int .i64 0]) ?_ 0 _ rfl; (with_reducible repeat (first | refine blk_drewN ?_ _ | refine blk_drew ?_ | refine blk_alloc ?_ _)); exact BK195.out) hb); have n3_ := Aside0.mk (below_step (zb HB.out) hb); clear BK0; clear BK195; clear HB; have HO199 := n0_; have BK0 := n1_; have BK195 := n2_; have HB := n3_; clear n0_ n1_ n2_ n3_; (try clear hb); (try clear hb2); (try clear hk); (try clear hi); (try clear ho0); obtain ⟨Ao18, co18, eo18⟩ := Kd.R_slice HO199.out; subst eo18))
    go_loopg [8, 28] k (fun kq v8 v28 w' => ∃ (x8_1 : Bool) (x28_1 : Int), v8 = .bool x8_1 ∧ v28 = .int .i64 x28_1 ∧ Aside0 (impl_Pool_canMake.l0 kq l2 x8_1 t197 (t197.length : Int) x28_1 l0_0 ((rd_T51 l0_0 a1).f0) ((rd_T51 l0_0 a1).f1) ((rd_T51 l0_0 a1).f2) = some r) ∧ Aside0 (kq ≤ k) ∧ Aside0 (Kd.R (Kd.int .i64) 3 w' w.heap.size (fun _ => True) (.slice Ao18 t197.length co18) t197) ∧ Aside0 (w'.heap[g0_]? = some (.cells #[(.slice (some ad194) l0_0.length c0_0)] 30 (0, 0))) ∧ Aside0 (w'.heap[gb195]? = some (.cells #[.int .i64 ((rd_T51 l0_0 a1).f0), .int .i64 ((rd_T51 l0_0 a1).f1), .int .i64 ((rd_T51 l0_0 a1).f2)] 51 (0, 0))) ∧ Aside0 (Below w.heap.size w w'))
    case atStart => exact ⟨(true), (0), (by first | rfl | (simp; done) | (simp [*]; done)), (by first | rfl | (simp; done) | (simp [*]; done)), H', ⟨Nat.le_refl _⟩, ⟨zr HO199.out⟩, ⟨zh BK0.out⟩, ⟨zh BK195.out⟩, ⟨zb HB.out⟩⟩
    case round =>
     clear H'
     try clear c1
     try clear p1
     try clear q1
     try clear hx1
     try clear c2
     try clear p2
     try clear c3
     try clear c4
     try clear c4b0
     try clear c5
     try clear c5b0
     try clear c6
     try clear c6b0
     try clear c6b1
     try clear c7
     try clear c10
     try clear c15
     try clear hcz11_0
     try clear hcz11_1
     try clear hcz11_2
     try clear hcz13_0
     try clear hcz16_0
     try clear hcz16_1
     try clear hcz16_2
     try clear hcz8_0
     try clear hfz11_0
     try clear hfz11_1
     try clear hfz11_2
     try clear hfz13_0
     try clear hfz16_0
     try clear hfz16_1
     try clear hfz16_2
     try clear hfz8_0
     try clear hx194_0
     try clear hx194_1
     try clear hx194_2
     try clear p194
     try clear q194
     obtain ⟨x8_1, x28_1, rfl, rfl, HA, HK1, HO_26, BK0, BK195, HB⟩ := hrel
     cases gk with
     | zero => exact absurd HA.out (by simp [impl_Pool_canMake.l0])
     | succ k1 =>
      have H := HA.out
      clear HA
      simp only [impl_Pool_canMake.l0] at H
      by_cases c19 : x28_1 < (t197.length : Int)
      ·rw [if_pos c19] at H
       have c19b0 : decide (x28_1 < (t197.length : Int)) = true := decide_eq_true c19
       clear c19
       by_cases c20 : 0 ≤ x28_1
       ·rw [if_pos c20] at H
        have c20b0 : decide (0 ≤ x28_1) = true := decide_eq_true c20
        clear c20
        by_cases c21 : x28_1 < (t197.length : Int)
        ·rw [if_pos c21] at H
         have c21b0 : decide (x28_1 < (t197.length : Int)) = true := decide_eq_true c21
         clear c21
         by_cases c22 : x8_1 = true
         ·subst c22
          have H1 : (if 0 ≤ (rd t197 x28_1) then (if (rd t197 x28_1) < (l2.length : Int) then (impl_Pool_canMake.l0 k1 l2 (rdOf false l2 (rd t197 x28_1)) t197 (t197.length : Int) (wrap64 (x28_1 + 1)) l0_0 ((rd_T51 l0_0 a1).f0) ((rd_T51 l0_0 a1).f1) ((rd_T51 l0_0 a1).f2)) else (none)) else (none)) = some r := by rw [if_pos rfl] at H; exact H
          clear H
          have H := H1
          clear H1
          by_cases c23 : 0 ≤ (rd t197 x28_1)
          ·rw [if_pos c23] at H
           have c23b0 : decide (0 ≤ (rd t197 x28_1)) = true := decide_eq_true c23
           clear c23
           by_cases c24 : (rd t197 x28_1) < (l2.length : Int)
           ·rw [if_pos c24] at H
            have c24b0 : decide ((rd t197 x28_1) < (l2.length : Int)) = true := decide_eq_true c24
            clear c24
            have H' := Aside0.mk H
            clear H
            have p200 : 0 ≤ (x28_1 : Int) := of_decide_eq_true (by first | (with_reducible assumption) | assumption)
            have q200 : x28_1 < (t197.length : Int) := of_decide_eq_true (by first | (with_reducible assumption) | assumption)
            obtain ⟨ad200, e200, hx200_0⟩ := Kd.at_int (Kd.R_reads' HO_26.out).2.2 x28_1 p200 q200
            cases e200
            replace p200 := eq_true p200
            replace q200 := eq_true q200
            have p201 : 0 ≤ ((rd t197 x28_1) : Int) := of_decide_eq_true (by first | (with_reducible assumption) | assumption)
            have q201 : (rd t197 x28_1) < (l2.length : Int) := of_decide_eq_true (by first | (with_reducible assumption) | assumption)
            obtain ⟨ad201, e201, hx201_0⟩ := Kd.at_bool HR2.out (rd t197 x28_1) p201 q201
            cases e201
            replace hx201_0 := (HB.out.cell (World.block_lt_of_cell? w _ hx201_0)).trans hx201_0
            replace p201 := eq_true p201
            replace q201 := eq_true q201
            go_wp2
            go_roundg k1
            case measure => have := HK1.out; omega
            case rel => exact ⟨(rdOf false l2 (rd t197 x28_1)), (wrap64 (x28_1 + 1)), (by first | rfl | (simp; done) | (simp [*]; done)), (by first | rfl | (simp; done) | (simp [*]; done)), H', ⟨by have := HK1.out; omega⟩, ⟨zr HO_26.out⟩, ⟨zh BK0.out⟩, ⟨zh BK195.out⟩, ⟨zb HB.out⟩⟩
           ·rw [if_neg c24] at H
            exact absurd H (by simp)
          ·rw [if_neg c23] at H
           exact absurd H (by simp)
         ·replace c22 := Bool.eq_false_iff.mpr c22
          subst c22
          have H1 : (impl_Pool_canMake.l0 k1 l2 false t197 (t197.length : Int) (wrap64 (x28_1 + 1)) l0_0 ((rd_T51 l0_0 a1).f0) ((rd_T51 l0_0 a1).f1) ((rd_T51 l0_0 a1).f2)) = some r := by rw [if_neg (show ¬ (false = true) by decide)] at H; exact H
          clear H
          have H := H1
          clear H1
          have H' := Aside0.mk H
          clear H
          have p200 : 0 ≤ (x28_1 : Int) := of_decide_eq_true (by first | (with_reducible assumption) | assumption)
          have q200 : x28_1 < (t197.length : Int) := of_decide_eq_true (by first | (with_reducible assumption) | assumption)
          obtain ⟨ad200, e200, hx200_0⟩ := Kd.at_int (Kd.R_reads' HO_26.out).2.2 x28_1 p200 q200
          cases e200
          replace p200 := eq_true p200
          replace q200 := eq_true q200
          go_wp2
          go_roundg k1
          case measure => have := HK1.out; omega
          case rel => exact ⟨(false), (wrap64 (x28_1 + 1)), (by first | rfl | (simp; done) | (simp [*]; done)), (by first | rfl | (simp; done) | (simp [*]; done)), H', ⟨by have := HK1.out; omega⟩, ⟨zr HO_26.out⟩, ⟨zh BK0.out⟩, ⟨zh BK195.out⟩, ⟨zb HB.out⟩⟩
        ·rw [if_neg c21] at H
         exact absurd H (by simp)
       ·rw [if_neg c20] at H
        exact absurd H (by simp)
      ·rw [if_neg c19] at H
       have c19b0 : decide (x28_1 < (t197.length : Int)) = false := decide_eq_false c19
       clear c19
       have HC25 := Aside0.mk H
       clear H
       go_upto_region 10 with (fail)
       go_cut [45] (fun v45 wc => ∃ (kq : Nat) (x45_24 : Bool), v45 = .bool x45_24 ∧ Aside0 (impl_Pool_canMake.j1 kq l2 x8_1 x45_24 l0_0 ((rd_T51 l0_0 a1).f0) ((rd_T51 l0_0 a1).f1) ((rd_T51 l0_0 a1).f2) = some r) ∧ Aside0 (kq ≤ k1) ∧ Aside0 (wc.heap[g0_]? = some (.cells #[(.slice (some ad194) l0_0.length c0_0)] 30 (0, 0))) ∧ Aside0 (wc.heap[gb195]? = some (.cells #[.int .i64 ((rd_T51 l0_0 a1).f0), .int .i64 ((rd_T51 l0_0 a1).f1), .int .i64 ((rd_T51 l0_0 a1).f2)] 51 (0, 0))) ∧ Aside0 (Below w.heap.size w wc))
       case first =>
        have H := HC25.out
        clear HC25
        by_cases c26 : x8_1 = true
        ·subst c26
         have H1 : (impl_Pool_canMake.j1 k1 l2 true true l0_0 ((rd_T51 l0_0 a1).f0) ((rd_T51 l0_0 a1).f1) ((rd_T51 l0_0 a1).f2)) = some r := by rw [if_pos rfl] at H; exact H
         clear H
         have H := H1
         clear H1
         have H' := Aside0.mk H
         clear H
         go_wp2
         go_meet
         case rel => exact ⟨_, (true), (by first | rfl | (simp; done) | (simp [*]; done)), H', ⟨by have := HK1.out; first | omega | exact Nat.le_refl _⟩, ⟨zh BK0.out⟩, ⟨zh BK195.out⟩, ⟨zb HB.out⟩⟩
        ·replace c26 := Bool.eq_false_iff.mpr c26
         subst c26
         have H1 : (impl_Pool_canMake.j1 k1 l2 false (((rd_T51 l0_0 a1).f0) != 8) l0_0 ((rd_T51 l0_0 a1).f0) ((rd_T51 l0_0 a1).f1) ((rd_T51 l0_0 a1).f2)) = some r := by rw [if_neg (show ¬ (false = true) by decide)] at H; exact H
         clear H
         have H := H1
         clear H1
         have H' := Aside0.mk H
         clear H
         have hnb27 := NB195_0.out
         have hnc27 := NB0_195.out
         have hcz28_0 : wr.cell? ⟨gb195, 0, none⟩ = some (.int .i64 ((rd_T51 l0_0 a1).f0)) := (blk_cell BK195.out 0).trans rfl
         have hcz28_1 : wr.cell? ⟨gb195, 1, none⟩ = some (.int .i64 ((rd_T51 l0_0 a1).f1)) := (blk_cell BK195.out 1).trans rfl
         have hcz28_2 : wr.cell? ⟨gb195, 2, none⟩ = some (.int .i64 ((rd_T51 l0_0 a1).f2)) := (blk_cell BK195.out 2).trans rfl
         have hfz28_0 := blk_frozen BK195.out 0
         have hfz28_1 := blk_frozen BK195.out 1
         have hfz28_2 := blk_frozen BK195.out 2
         go_wp2
         go_meet
         case rel => exact ⟨_, ((((rd_T51 l0_0 a1).f0) != 8)), (by first | rfl | (simp; done) | (simp [*]; done)), H', ⟨by have := HK1.out; first | omega | exact Nat.le_refl _⟩, ⟨zh BK0.out⟩, ⟨zh BK195.out⟩, ⟨zb HB.out⟩⟩
       case rest =>
        clear HC25
        try clear c1
        try clear p1
        try clear q1
        try clear hx1
        try clear c2
        try clear p2
        try clear q2
        try clear hx2
        try clear c3
        try clear c4
        try clear c4b0
        try clear c5
        try clear c5b0
        try clear c6
        try clear c6b0
        try clear c6b1
        try clear p6
        try clear c7
        try clear c10
        try clear c15
        try clear c19
        try clear c19b0
        try clear p19
        try clear q19
        try clear hx19
        try clear c20
        try clear c20b0
        try clear p20
        try clear q20
        try clear hx20
        try clear c21
        try clear c21b0
        try clear c22
        try clear c23
        try clear c23b0
        try clear c24
        try clear c24b0
        try clear c26
        try clear c27
        try clear hcz11_0
        try clear hcz11_1
        try clear hcz11_2
        try clear hcz13_0
        try clear hcz16_0
        try clear hcz16_1
        try clear hcz16_2
        try clear hcz28_0
        try clear hcz28_1
        try clear hcz28_2
        try clear hcz8_0
        try clear hfz11_0
        try clear hfz11_1
        try clear hfz11_2
        try clear hfz13_0
        try clear hfz16_0
        try clear hfz16_1
        try clear hfz16_2
        try clear hfz28_0
        try clear hfz28_1
        try clear hfz28_2
        try clear hfz8_0
        try clear hx194_0
        try clear hx194_1
        try clear hx194_2
        try clear hx200_0
        try clear hx201_0
        try clear p1
        try clear p194
        try clear p2
        try clear p200
        try clear p201
        try clear q1
        try clear q194
        try clear q200
        try clear q201
        obtain ⟨kq, x45_24, rfl, HA, HJ24, BK0, BK195, HB⟩ := hcut
        cases kq with
        | zero => exact absurd HA.out (by simp [impl_Pool_canMake.j1])
        | succ kj24 =>
         have H := HA.out
         clear HA
         simp only [impl_Pool_canMake.j1] at H
         by_cases c29 : x45_24 = true
         ·subst c29
          have H1 : (some x8_1) = some r := by rw [if_pos rfl] at H; exact H
          clear H
          have H := H1
          clear H1
          obtain rfl := Option.some.inj H
          go_wp2
          go_ret
          exact ⟨ze, zb HB.out⟩
         ·replace c29 := Bool.eq_false_iff.mpr c29
          subst c29
          have H1 : (if 0 ≤ ((rd_T51 l0_0 a1).f1) then (if ((rd_T51 l0_0 a1).f1) < (l2.length : Int) then (if rdOf false l2 ((rd_T51 l0_0 a1).f1) = true then ((impl_Pool_isMade.f kj24 l0_0 7 ((rd_T51 l0_0 a1).f2) 0 l2).bind fun t203 => (if t203 = true then (some true) else (if 0 ≤ ((rd_T51 l0_0 a1).f2) then (if ((rd_T51 l0_0 a1).f2) < (l2.length : Int) then (if rdOf false l2 ((rd_T51 l0_0 a1).f2) = true then ((impl_Pool_isMade.f kj24 l0_0 7 ((rd_T51 l0_0 a1).f1) 0 l2).bind fun t205 => (some t205)) else (some false)) else (none)) else (none)))) else (if 0 ≤ ((rd_T51 l0_0 a1).f2) then (if ((rd_T51 l0_0 a1).f2) < (l2.length : Int) then (if rdOf false l2 ((rd_T51 l0_0 a1).f2) = true then ((impl_Pool_isMade.f kj24 l0_0 7 ((rd_T51 l0_0 a1).f1) 0 l2).bind fun t207 => (some t207)) else (some false)) else (none)) else (none))) else (none)) else (none)) = some r := by rw [if_neg (show ¬ (false = true) by decide)] at H; exact H
          clear H
          have H := H1
          clear H1
          by_cases c30 : 0 ≤ ((rd_T51 l0_0 a1).f1)
          ·rw [if_pos c30] at H
           have c30b0 : decide (0 ≤ ((rd_T51 l0_0 a1).f1)) = true := decide_eq_true c30
           clear c30
           by_cases c31 : ((rd_T51 l0_0 a1).f1) < (l2.length : Int)
           ·rw [if_pos c31] at H
            have c31b0 : decide (((rd_T51 l0_0 a1).f1) < (l2.length : Int)) = true := decide_eq_true c31
            clear c31
            obtain ⟨bq32, hbq32⟩ : ∃ b_ : Bool, b_ = (rdOf false l2 ((rd_T51 l0_0 a1).f1)) := ⟨_, rfl⟩
            replace H : (if bq32 = true then ((impl_Pool_isMade.f kj24 l0_0 7 ((rd_T51 l0_0 a1).f2) 0 l2).bind fun t203 => (if t203 = true then (some true) else (if 0 ≤ ((rd_T51 l0_0 a1).f2) then (if ((rd_T51 l0_0 a1).f2) < (l2.length : Int) then (if rdOf false l2 ((rd_T51 l0_0 a1).f2) = true then ((impl_Pool_isMade.f kj24 l0_0 7 ((rd_T51 l0_0 a1).f1) 0 l2).bind fun t205 => (some t205)) else (some false)) else (none)) else (none)))) else (if 0 ≤ ((rd_T51 l0_0 a1).f2) then (if ((rd_T51 l0_0 a1).f2) < (l2.length : Int) then (if rdOf false l2 ((rd_T51 l0_0 a1).f2) = true then ((impl_Pool_isMade.f kj24 l0_0 7 ((rd_T51 l0_0 a1).f1) 0 l2).bind fun t207 => (some t207)) else (some false)) else (none)) else (none))) = some r := by rw [← hbq32] at H; exact H
            have Nbq32 := Aside0.mk hbq32
            clear hbq32
            by_cases c33 : bq32 = true
            ·subst c33
             have H1 : ((impl_Pool_isMade.f kj24 l0_0 7 ((rd_T51 l0_0 a1).f2) 0 l2).bind fun t203 => (if t203 = true then (some true) else (if 0 ≤ ((rd_T51 l0_0 a1).f2) then (if ((rd_T51 l0_0 a1).f2) < (l2.length : Int) then (if rdOf false l2 ((rd_T51 l0_0 a1).f2) = true then ((impl_Pool_isMade.f kj24 l0_0 7 ((rd_T51 l0_0 a1).f1) 0 l2).bind fun t205 => (some t205)) else (some false)) else (none)) else (none)))) = some r := by rw [if_pos rfl] at H; exact H
             clear H
             have H := H1
             clear H1
             replace H := Option.bind_eq_some_iff.mp H
             obtain ⟨t203, A340, H⟩ := H
             replace H : (if t203 = true then (some true) else (if 0 ≤ ((rd_T51 l0_0 a1).f2) then (if ((rd_T51 l0_0 a1).f2) < (l2.length : Int) then (if rdOf false l2 ((rd_T51 l0_0 a1).f2) = true then ((impl_Pool_isMade.f kj24 l0_0 7 ((rd_T51 l0_0 a1).f1) 0 l2).bind fun t205 => (some t205)) else (some false)) else (none)) else (none))) = some r := H
             have A34 := Aside0.mk A340
             clear A340
             by_cases c35 : t203 = true
             ·subst c35
              have H1 : (some true) = some r := by rw [if_pos rfl] at H; exact H
              clear H
              have H := H1
              clear H1
              obtain rfl := Option.some.inj H
              have hnb36 := NB195_0.out
              have hnc36 := NB0_195.out
              have hcz37_0 : wc.cell? ⟨gb195, 0, none⟩ = some (.int .i64 ((rd_T51 l0_0 a1).f0)) := (blk_cell BK195.out 0).trans rfl
              have hcz37_1 : wc.cell? ⟨gb195, 1, none⟩ = some (.int .i64 ((rd_T51 l0_0 a1).f1)) := (blk_cell BK195.out 1).trans rfl
              have hcz37_2 : wc.cell? ⟨gb195, 2, none⟩ = some (.int .i64 ((rd_T51 l0_0 a1).f2)) := (blk_cell BK195.out 2).trans rfl
              have hfz37_0 := blk_frozen BK195.out 0
              have hfz37_1 := blk_frozen BK195.out 1
              have hfz37_2 := blk_frozen BK195.out 2
              have p202 : 0 ≤ (((rd_T51 l0_0 a1).f1) : Int) := of_decide_eq_true (by first | (with_reducible assumption) | assumption)
              have q202 : ((rd_T51 l0_0 a1).f1) < (l2.length : Int) := of_decide_eq_true (by first | (with_reducible assumption) | assumption)
              obtain ⟨ad202, e202, hx202_0⟩ := Kd.at_bool HR2.out ((rd_T51 l0_0 a1).f1) p202 q202
              (try rw [← Nbq32.out] at hx202_0)
              cases e202
              replace hx202_0 := (HB.out.cell (World.block_lt_of_cell? w _ hx202_0)).trans hx202_0
              replace p202 := eq_true p202
              replace q202 := eq_true q202
              go_wp2_with (first | (go_at_call 91; (with_reducible refine (impl_Pool_isMade.calls kj24 _ (some ad194) c0_0 l0_0 7 ((rd_T51 l0_0 a1).f2) 0 _ _ l2 true _ ?side1 ?side2 ?side3 ?side4 ?side5 A34.out).mono ?_); (case side1 => exact zh BK0.out); (case side2 => exact zc (Kd.C_below HR0_0.out HB.out)); (case side3 => exact HC0_0.out); (case side4 => exact zc (Kd.C_below HR2.out HB.out)); (case side5 => exact HC2.out); rintro e w38 ⟨rfl, hb⟩; have n0_ := Aside0.mk (blk_below (zh BK0.out) hb); have n1_ := Aside0.mk (blk_below (zh BK195.out) hb); have n2_ := Aside0.mk (below_step (zb HB.out) hb); clear BK0; clear BK195; clear HB; have BK0 := n0_; have BK195 := n1_; have HB := n2_; clear n0_ n1_ n2_; (try clear hb); (try clear hb2); (try clear hk); (try clear hi)))
              go_ret
              exact ⟨ze, zb HB.out⟩
             ·replace c35 := Bool.eq_false_iff.mpr c35
              subst c35
              have H1 : (if 0 ≤ ((rd_T51 l0_0 a1).f2) then (if ((rd_T51 l0_0 a1).f2) < (l2.length : Int) then (if rdOf false l2 ((rd_T51 l0_0 a1).f2) = true then ((impl_Pool_isMade.f kj24 l0_0 7 ((rd_T51 l0_0 a1).f1) 0 l2).bind fun t205 => (some t205)) else (some false)) else (none)) else (none)) = some r := by rw [if_neg (show ¬ (false = true) by decide)] at H; exact H
              clear H
              have H := H1
              clear H1
              by_cases c39 : 0 ≤ ((rd_T51 l0_0 a1).f2)
              ·rw [if_pos c39] at H
               have c39b0 : decide (0 ≤ ((rd_T51 l0_0 a1).f2)) = true := decide_eq_true c39
               clear c39
               by_cases c40 : ((rd_T51 l0_0 a1).f2) < (l2.length : Int)
               ·rw [if_pos c40] at H
                have c40b0 : decide (((rd_T51 l0_0 a1).f2) < (l2.length : Int)) = true := decide_eq_true c40
                clear c40
                obtain ⟨bq41, hbq41⟩ : ∃ b_ : Bool, b_ = (rdOf false l2 ((rd_T51 l0_0 a1).f2)) := ⟨_, rfl⟩
                replace H : (if bq41 = true then ((impl_Pool_isMade.f kj24 l0_0 7 ((rd_T51 l0_0 a1).f1) 0 l2).bind fun t205 => (some t205)) else (some false)) = some r := by rw [← hbq41] at H; exact H
                have Nbq41 := Aside0.mk hbq41
                clear hbq41
                by_cases c42 : bq41 = true
                ·subst c42
                 have H1 : ((impl_Pool_isMade.f kj24 l0_0 7 ((rd_T51 l0_0 a1).f1) 0 l2).bind fun t205 => (some t205)) = some r := by rw [if_pos rfl] at H; exact H
                 clear H
                 have H := H1
                 clear H1
                 replace H := Option.bind_eq_some_iff.mp H
                 obtain ⟨t205, A430, H⟩ := H
                 replace H : (some t205) = some r := H
                 have A43 := Aside0.mk A430
                 clear A430
                 obtain rfl := Option.some.inj H
                 have hnb44 := NB195_0.out
                 have hnc44 := NB0_195.out
                 have hcz45_0 : wc.cell? ⟨gb195, 0, none⟩ = some (.int .i64 ((rd_T51 l0_0 a1).f0)) := (blk_cell BK195.out 0).trans rfl
                 have hcz45_1 : wc.cell? ⟨gb195, 1, none⟩ = some (.int .i64 ((rd_T51 l0_0 a1).f1)) := (blk_cell BK195.out 1).trans rfl
                 have hcz45_2 : wc.cell? ⟨gb195, 2, none⟩ = some (.int .i64 ((rd_T51 l0_0 a1).f2)) := (blk_cell BK195.out 2).trans rfl
                 have hfz45_0 := blk_frozen BK195.out 0
                 have hfz45_1 := blk_frozen BK195.out 1
                 have hfz45_2 := blk_frozen BK195.out 2
                 have p202 : 0 ≤ (((rd_T51 l0_0 a1).f1) : Int) := of_decide_eq_true (by first | (with_reducible assumption) | assumption)
                 have q202 : ((rd_T51 l0_0 a1).f1) < (l2.length : Int) := of_decide_eq_true (by first | (with_reducible assumption) | assumption)
                 obtain ⟨ad202, e202, hx202_0⟩ := Kd.at_bool HR2.out ((rd_T51 l0_0 a1).f1) p202 q202
                 (try rw [← Nbq32.out] at hx202_0)
                 (try rw [← Nbq41.out] at hx202_0)
                 cases e202
                 replace hx202_0 := (HB.out.cell (World.block_lt_of_cell? w _ hx202_0)).trans hx202_0
                 replace p202 := eq_true p202
                 replace q202 := eq_true q202
                 go_wp2_with (first | (go_at_call 91; (with_reducible refine (impl_Pool_isMade.calls kj24 _ (some ad194) c0_0 l0_0 7 ((rd_T51 l0_0 a1).f2) 0 _ _ l2 false _ ?side1 ?side2 ?side3 ?side4 ?side5 A34.out).mono ?_); (case side1 => exact zh BK0.out); (case side2 => exact zc (Kd.C_below HR0_0.out HB.out)); (case side3 => exact HC0_0.out); (case side4 => exact zc (Kd.C_below HR2.out HB.out)); (case side5 => exact HC2.out); rintro e w46 ⟨rfl, hb⟩; have n0_ := Aside0.mk (blk_below (zh BK0.out) hb); have n1_ := Aside0.mk (blk_below (zh BK195.out) hb); have n2_ := Aside0.mk (below_step (zb HB.out) hb); clear BK0; clear BK195; clear HB; have BK0 := n0_; have BK195 := n1_; have HB := n2_; clear n0_ n1_ n2_; (try clear hb); (try clear hb2); (try clear hk); (try clear hi); have hcz47_0 : w46.cell? ⟨gb195, 0, none⟩ = some (.int .i64 ((rd_T51 l0_0 a1).f0)) := (blk_cell BK195.out 0).trans rfl; have hcz47_1 : w46.cell? ⟨gb195, 1, none⟩ = some (.int .i64 ((rd_T51 l0_0 a1).f1)) := (blk_cell BK195.out 1).trans rfl; have hcz47_2 : w46.cell? ⟨gb195, 2, none⟩ = some (.int .i64 ((rd_T51 l0_0 a1).f2)) := (blk_cell BK195.out 2).trans rfl; have hfz47_0 := blk_frozen BK195.out 0; have hfz47_1 := blk_frozen BK195.out 1; have hfz47_2 := blk_frozen BK195.out 2; have p204 : 0 ≤ (((rd_T51 l0_0 a1).f2) : Int) := of_decide_eq_true (by first | (with_reducible assumption) | assumption); have q204 : ((rd_T51 l0_0 a1).f2) < (l2.length : Int) := of_decide_eq_true (by first | (with_reducible assumption) | assumption); obtain ⟨ad204, e204, hx204_0⟩ := Kd.at_bool HR2.out ((rd_T51 l0_0 a1).f2) p204 q204; (try rw [← Nbq32.out] at hx204_0); (try rw [← Nbq41.out] at hx204_0); obtain rfl : ad202 = ad204 := (by injection e204); replace hx204_0 := (HB.out.cell (World.block_lt_of_cell? w _ hx204_0)).trans hx204_0; replace p204 := eq_true p204; replace q204 := eq_true q204) | (go_at_call 91; (with_reducible refine (impl_Pool_isMade.calls kj24 _ (some ad194) c0_0 l0_0 7 ((rd_T51 l0_0 a1).f1) 0 _ _ l2 t205 _ ?side1 ?side2 ?side3 ?side4 ?side5 A43.out).mono ?_); (case side1 => exact zh BK0.out); (case side2 => exact zc (Kd.C_below HR0_0.out HB.out)); (case side3 => exact HC0_0.out); (case side4 => exact zc (Kd.C_below HR2.out HB.out)); (case side5 => exact HC2.out); rintro e w48 ⟨rfl, hb⟩; have n0_ := Aside0.mk (blk_below (zh BK0.out) hb); have n1_ := Aside0.mk (blk_below (zh BK195.out) hb); have n2_ := Aside0.mk (below_step (zb HB.out) hb); clear BK0; clear BK195; clear HB; have BK0 := n0_; have BK195 := n1_; have HB := n2_; clear n0_ n1_ n2_; (try clear hb); (try clear hb2); (try clear hk); (try clear hi)))
                 go_ret
                 exact ⟨ze, zb HB.out⟩
                ·replace c42 := Bool.eq_false_iff.mpr c42
                 subst c42
                 have H1 : (some false) = some r := by rw [if_neg (show ¬ (false = true) by decide)] at H; exact H
                 clear H
                 have H := H1
                 clear H1
                 obtain rfl := Option.some.inj H
                 have hnb49 := NB195_0.out
                 have hnc49 := NB0_195.out
                 have hcz50_0 : wc.cell? ⟨gb195, 0, none⟩ = some (.int .i64 ((rd_T51 l0_0 a1).f0)) := (blk_cell BK195.out 0).trans rfl
                 have hcz50_1 : wc.cell? ⟨gb195, 1, none⟩ = some (.int .i64 ((rd_T51 l0_0 a1).f1)) := (blk_cell BK195.out 1).trans rfl
                 have hcz50_2 : wc.cell? ⟨gb195, 2, none⟩ = some (.int .i64 ((rd_T51 l0_0 a1).f2)) := (blk_cell BK195.out 2).trans rfl
                 have hfz50_0 := blk_frozen BK195.out 0
                 have hfz50_1 := blk_frozen BK195.out 1
                 have hfz50_2 := blk_frozen BK195.out 2
                 have p202 : 0 ≤ (((rd_T51 l0_0 a1).f1) : Int) := of_decide_eq_true (by first | (with_reducible assumption) | assumption)
                 have q202 : ((rd_T51 l0_0 a1).f1) < (l2.length : Int) := of_decide_eq_true (by first | (with_reducible assumption) | assumption)
                 obtain ⟨ad202, e202, hx202_0⟩ := Kd.at_bool HR2.out ((rd_T51 l0_0 a1).f1) p202 q202
                 (try rw [← Nbq32.out] at hx202_0)
                 (try rw [← Nbq41.out] at hx202_0)
                 cases e202
                 replace hx202_0 := (HB.out.cell (World.block_lt_of_cell? w _ hx202_0)).trans hx202_0
                 replace p202 := eq_true p202
                 replace q202 := eq_true q202
                 go_wp2_with (first | (go_at_call 91; (with_reducible refine (impl_Pool_isMade.calls kj24 _ (some ad194) c0_0 l0_0 7 ((rd_T51 l0_0 a1).f2) 0 _ _ l2 false _ ?side1 ?side2 ?side3 ?side4 ?side5 A34.out).mono ?_); (case side1 => exact zh BK0.out); (case side2 => exact zc (Kd.C_below HR0_0.out HB.out)); (case side3 => exact HC0_0.out); (case side4 => exact zc (Kd.C_below HR2.out HB.out)); (case side5 => exact HC2.out); rintro e w51 ⟨rfl, hb⟩; have n0_ := Aside0.mk (blk_below (zh BK0.out) hb); have n1_ := Aside0.mk (blk_below (zh BK195.out) hb); have n2_ := Aside0.mk (below_step (zb HB.out) hb); clear BK0; clear BK195; clear HB; have BK0 := n0_; have BK195 := n1_; have HB := n2_; clear n0_ n1_ n2_; (try clear hb); (try clear hb2); (try clear hk); (try clear hi); have hcz52_0 : w51.cell? ⟨gb195, 0, none⟩ = some (.int .i64 ((rd_T51 l0_0 a1).f0)) := (blk_cell BK195.out 0).trans rfl; have hcz52_1 : w51.cell? ⟨gb195, 1, none⟩ = some (.int .i64 ((rd_T51 l0_0 a1).f1)) := (blk_cell BK195.out 1).trans rfl; have hcz52_2 : w51.cell? ⟨gb195, 2, none⟩ = some (.int .i64 ((rd_T51 l0_0 a1).f2)) := (blk_cell BK195.out 2).trans rfl; have hfz52_0 := blk_frozen BK195.out 0; have hfz52_1 := blk_frozen BK195.out 1; have hfz52_2 := blk_frozen BK195.out 2; have p204 : 0 ≤ (((rd_T51 l0_0 a1).f2) : Int) := of_decide_eq_true (by first | (with_reducible assumption) | assumption); have q204 : ((rd_T51 l0_0 a1).f2) < (l2.length : Int) := of_decide_eq_true (by first | (with_reducible assumption) | assumption); obtain ⟨ad204, e204, hx204_0⟩ := Kd.at_bool HR2.out ((rd_T51 l0_0 a1).f2) p204 q204; (try rw [← Nbq32.out] at hx204_0); (try rw [← Nbq41.out] at hx204_0); obtain rfl : ad202 = ad204 := (by injection e204); replace hx204_0 := (HB.out.cell (World.block_lt_of_cell? w _ hx204_0)).trans hx204_0; replace p204 := eq_true p204; replace q204 := eq_true q204))
                 go_ret
                 exact ⟨ze, zb HB.out⟩
               ·rw [if_neg c40] at H
                exact absurd H (by simp)
              ·rw [if_neg c39] at H
               exact absurd H (by simp)
            ·replace c33 := Bool.eq_false_iff.mpr c33
             subst c33
             have H1 : (if 0 ≤ ((rd_T51 l0_0 a1).f2) then (if ((rd_T51 l0_0 a1).f2) < (l2.length : Int) then (if rdOf false l2 ((rd_T51 l0_0 a1).f2) = true then ((impl_Pool_isMade.f kj24 l0_0 7 ((rd_T51 l0_0 a1).f1) 0 l2).bind fun t207 => (some t207)) else (some false)) else (none)) else (none)) = some r := by rw [if_neg (show ¬ (false = true) by decide)] at H; exact H
             clear H
             have H := H1
             clear H1
             by_cases c53 : 0 ≤ ((rd_T51 l0_0 a1).f2)
             ·rw [if_pos c53] at H
              have c53b0 : decide (0 ≤ ((rd_T51 l0_0 a1).f2)) = true := decide_eq_true c53
              clear c53
              by_cases c54 : ((rd_T51 l0_0 a1).f2) < (l2.length : Int)
              ·rw [if_pos c54] at H
               have c54b0 : decide (((rd_T51 l0_0 a1).f2) < (l2.length : Int)) = true := decide_eq_true c54
               clear c54
               obtain ⟨bq55, hbq55⟩ : ∃ b_ : Bool, b_ = (rdOf false l2 ((rd_T51 l0_0 a1).f2)) := ⟨_, rfl⟩
               replace H : (if bq55 = true then ((impl_Pool_isMade.f kj24 l0_0 7 ((rd_T51 l0_0 a1).f1) 0 l2).bind fun t207 => (some t207)) else (some false)) = some r := by rw [← hbq55] at H; exact H
               have Nbq55 := Aside0.mk hbq55
               clear hbq55
               by_cases c56 : bq55 = true
               ·subst c56
                have H1 : ((impl_Pool_isMade.f kj24 l0_0 7 ((rd_T51 l0_0 a1).f1) 0 l2).bind fun t207 => (some t207)) = some r := by rw [if_pos rfl] at H; exact H
                clear H
                have H := H1
                clear H1
                replace H := Option.bind_eq_some_iff.mp H
                obtain ⟨t207, A570, H⟩ := H
                replace H : (some t207) = some r := H
                have A57 := Aside0.mk A570
                clear A570
                obtain rfl := Option.some.inj H
                have hnb58 := NB195_0.out
                have hnc58 := NB0_195.out
                have hcz59_0 : wc.cell? ⟨gb195, 0, none⟩ = some (.int .i64 ((rd_T51 l0_0 a1).f0)) := (blk_cell BK195.out 0).trans rfl
                have hcz59_1 : wc.cell? ⟨gb195, 1, none⟩ = some (.int .i64 ((rd_T51 l0_0 a1).f1)) := (blk_cell BK195.out 1).trans rfl
                have hcz59_2 : wc.cell? ⟨gb195, 2, none⟩ = some (.int .i64 ((rd_T51 l0_0 a1).f2)) := (blk_cell BK195.out 2).trans rfl
                have hfz59_0 := blk_frozen BK195.out 0
                have hfz59_1 := blk_frozen BK195.out 1
                have hfz59_2 := blk_frozen BK195.out 2
                have p202 : 0 ≤ (((rd_T51 l0_0 a1).f1) : Int) := of_decide_eq_true (by first | (with_reducible assumption) | assumption)
                have q202 : ((rd_T51 l0_0 a1).f1) < (l2.length : Int) := of_decide_eq_true (by first | (with_reducible assumption) | assumption)
                obtain ⟨ad202, e202, hx202_0⟩ := Kd.at_bool HR2.out ((rd_T51 l0_0 a1).f1) p202 q202
                (try rw [← Nbq32.out] at hx202_0)
                (try rw [← Nbq55.out] at hx202_0)
                cases e202
                replace hx202_0 := (HB.out.cell (World.block_lt_of_cell? w _ hx202_0)).trans hx202_0
                replace p202 := eq_true p202
                replace q202 := eq_true q202
                have p206 : 0 ≤ (((rd_T51 l0_0 a1).f2) : Int) := of_decide_eq_true (by first | (with_reducible assumption) | assumption)
                have q206 : ((rd_T51 l0_0 a1).f2) < (l2.length : Int) := of_decide_eq_true (by first | (with_reducible assumption) | assumption)
                obtain ⟨ad206, e206, hx206_0⟩ := Kd.at_bool HR2.out ((rd_T51 l0_0 a1).f2) p206 q206
                (try rw [← Nbq32.out] at hx206_0)
                (try rw [← Nbq55.out] at hx206_0)
                obtain rfl : ad202 = ad206 := (by injection e206)
                replace hx206_0 := (HB.out.cell (World.block_lt_of_cell? w _ hx206_0)).trans hx206_0
                replace p206 := eq_true p206
                replace q206 := eq_true q206
                go_wp2_with (first | (go_at_call 91; (with_reducible refine (impl_Pool_isMade.calls kj24 _ (some ad194) c0_0 l0_0 7 ((rd_T51 l0_0 a1).f1) 0 _ _ l2 t207 _ ?side1 ?side2 ?side3 ?side4 ?side5 A57.out).mono ?_); (case side1 => exact zh BK0.out); (case side2 => exact zc (Kd.C_below HR0_0.out HB.out)); (case side3 => exact HC0_0.out); (case side4 => exact zc (Kd.C_below HR2.out HB.out)); (case side5 => exact HC2.out); rintro e w60 ⟨rfl, hb⟩; have n0_ := Aside0.mk (blk_below (zh BK0.out) hb); have n1_ := Aside0.mk (blk_below (zh BK195.out) hb); have n2_ := Aside0.mk (below_step (zb HB.out) hb); clear BK0; clear BK195; clear HB; have BK0 := n0_; have BK195 := n1_; have HB := n2_; clear n0_ n1_ n2_; (try clear hb); (try clear hb2); (try clear hk); (try clear hi)))
                go_ret
                exact ⟨ze, zb HB.out⟩
               ·replace c56 := Bool.eq_false_iff.mpr c56
                subst c56
                have H1 : (some false) = some r := by rw [if_neg (show ¬ (false = true) by decide)] at H; exact H
                clear H
                have H := H1
                clear H1
                obtain rfl := Option.some.inj H
                have hnb61 := NB195_0.out
                have hnc61 := NB0_195.out
                have hcz62_0 : wc.cell? ⟨gb195, 0, none⟩ = some (.int .i64 ((rd_T51 l0_0 a1).f0)) := (blk_cell BK195.out 0).trans rfl
                have hcz62_1 : wc.cell? ⟨gb195, 1, none⟩ = some (.int .i64 ((rd_T51 l0_0 a1).f1)) := (blk_cell BK195.out 1).trans rfl
                have hcz62_2 : wc.cell? ⟨gb195, 2, none⟩ = some (.int .i64 ((rd_T51 l0_0 a1).f2)) := (blk_cell BK195.out 2).trans rfl
                have hfz62_0 := blk_frozen BK195.out 0
                have hfz62_1 := blk_frozen BK195.out 1
                have hfz62_2 := blk_frozen BK195.out 2
                have p202 : 0 ≤ (((rd_T51 l0_0 a1).f1) : Int) := of_decide_eq_true (by first | (with_reducible assumption) | assumption)
                have q202 : ((rd_T51 l0_0 a1).f1) < (l2.length : Int) := of_decide_eq_true (by first | (with_reducible assumption) | assumption)
                obtain ⟨ad202, e202, hx202_0⟩ := Kd.at_bool HR2.out ((rd_T51 l0_0 a1).f1) p202 q202
                (try rw [← Nbq32.out] at hx202_0)
                (try rw [← Nbq55.out] at hx202_0)
                cases e202
                replace hx202_0 := (HB.out.cell (World.block_lt_of_cell? w _ hx202_0)).trans hx202_0
                replace p202 := eq_true p202
                replace q202 := eq_true q202
                have p206 : 0 ≤ (((rd_T51 l0_0 a1).f2) : Int) := of_decide_eq_true (by first | (with_reducible assumption) | assumption)
                have q206 : ((rd_T51 l0_0 a1).f2) < (l2.length : Int) := of_decide_eq_true (by first | (with_reducible assumption) | assumption)
                obtain ⟨ad206, e206, hx206_0⟩ := Kd.at_bool HR2.out ((rd_T51 l0_0 a1).f2) p206 q206
                (try rw [← Nbq32.out] at hx206_0)
                (try rw [← Nbq55.out] at hx206_0)
                obtain rfl : ad202 = ad206 := (by injection e206)
                replace hx206_0 := (HB.out.cell (World.block_lt_of_cell? w _ hx206_0)).trans hx206_0
                replace p206 := eq_true p206
                replace q206 := eq_true q206
                go_wp2
                go_ret
                exact ⟨ze, zb HB.out⟩
              ·rw [if_neg c54] at H
               exact absurd H (by simp)
             ·rw [if_neg c53] at H
              exact absurd H (by simp)
           ·rw [if_neg c31] at H
            exact absurd H (by simp)
          ·rw [if_neg c30] at H
           exact absurd H (by simp)
  ·rw [if_neg c5] at H
   exact absurd H (by simp)
 ·rw [if_neg c4] at H
  exact absurd H (by simp)

end Go.Proofs.Ytgohebghlgamiaa.P
end
