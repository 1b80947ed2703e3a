import Derived.Test.YtgohebghlgamiaaYP0
import Derived.Test.YtgohebghlgamiaaYPg3
import Derived.Test.YtgohebghlgamiaaYPg0
section
-- Written by this session's program (wip/tools/gprint.py over the kit's print) out of the translation; Lean checks it.
namespace Go.Proofs.Ytgohebghlgamiaa.P
open Go.RowKit Go.Proofs.YtgohebghlgamiaaW.PrintWords Go.Proofs.YtgohebghlgamiaaW.PrintLast Go.Proofs.YtgohebghlgamiaaW.PrintMore
attribute [local go_sem] max2_int min2_int max_two min_two max_three min_three max_four min_four   -- for this text's walks alone
set_option linter.unusedVariables false
set_option linter.unusedSimpArgs false
set_option maxRecDepth 100000

/-! ### impl_Pool_makes: function 51 -/
mutual
def impl_Pool_makes.l0 : Nat → List Bool → List Int → Int → Int → List (S51) → Option (List Bool)
 | 0, _, _, _, _, _ => none
 | k + 1, x5, x16, x17, x18, x1000 => if x18 < x17 then (if 0 ≤ x18 then (if x18 < (x16.length : Int) then (if 0 ≤ (rd x16 x18) then (if (rd x16 x18) < (x5.length : Int) then (impl_Pool_makes.l0 k (x5.set ((rd x16 x18) : Int).toNat true) x16 x17 (wrap64 (x18 + 1)) x1000) else (none)) else (none)) else (none)) else (none)) else (impl_Pool_makes.l1 k x5 true x1000)
def impl_Pool_makes.l1 : Nat → List Bool → Bool → List (S51) → Option (List Bool)
 | 0, _, _, _ => none
 | k + 1, x5, x8, x1000 => if x8 = true then (impl_Pool_makes.l2 k x5 false (x5.length : Int) 0 x1000) else (some x5)
def impl_Pool_makes.l2 : Nat → List Bool → Bool → Int → Int → List (S51) → Option (List Bool)
 | 0, _, _, _, _, _ => none
 | k + 1, x5, x8, x28, x29, x1000 => if x29 < x28 then (if 0 ≤ x29 then (if x29 < (x5.length : Int) then (if rdOf false x5 x29 = true then (impl_Pool_makes.l2 k x5 x8 x28 (wrap64 (x29 + 1)) x1000) else ((impl_Pool_canMake.f k x1000 x29 x5).bind fun t214 => (if t214 = true then (impl_Pool_makes.l2 k (x5.set (x29 : Int).toNat true) true x28 (wrap64 (x29 + 1)) x1000) else (impl_Pool_makes.l2 k x5 x8 x28 (wrap64 (x29 + 1)) x1000)))) else (none)) else (none)) else (impl_Pool_makes.l1 k x5 x8 x1000)
end
def impl_Pool_makes.f (k : Nat) (l0_0 : List (S51)) (l1 : List Int) : Option (List Bool) := if 0 ≤ (l0_0.length : Int) then (if ((l0_0.length : Int) : Int).toNat ≤ 281474976710656 then (impl_Pool_makes.l0 k (List.replicate ((l0_0.length : Int) : Int).toNat false) l1 (l1.length : Int) 0 l0_0) else (none)) else (none)
theorem impl_Pool_makes.mono_l : ∀ k, (∀ y0 y1 y2 y3 y4, LeO (impl_Pool_makes.l0 k y0 y1 y2 y3 y4) (impl_Pool_makes.l0 (k + 1) y0 y1 y2 y3 y4)) ∧ (∀ y0 y1 y2, LeO (impl_Pool_makes.l1 k y0 y1 y2) (impl_Pool_makes.l1 (k + 1) y0 y1 y2)) ∧ (∀ y0 y1 y2 y3 y4, LeO (impl_Pool_makes.l2 k y0 y1 y2 y3 y4) (impl_Pool_makes.l2 (k + 1) y0 y1 y2 y3 y4))
 | 0 => ⟨fun _ _ _ _ _ r h => by simp [impl_Pool_makes.l0] at h, fun _ _ _ r h => by simp [impl_Pool_makes.l1] at h, fun _ _ _ _ _ r h => by simp [impl_Pool_makes.l2] at h⟩
 | k + 1 => by
  obtain ⟨ih0, ih1, ih2⟩ := impl_Pool_makes.mono_l k
  refine ⟨?_, ?_, ?_⟩
  ·intro y0 y1 y2 y3 y4
   unfold impl_Pool_makes.l0
   repeat' first
   | (with_reducible exact ih0 _ _ _ _ _)
   | (with_reducible exact ih1 _ _ _)
   | (with_reducible exact ih2 _ _ _ _ _)
   | (with_reducible exact impl_Pool_canMake.mono _ _ _ _)
   | (with_reducible exact LeO.refl _)
   | (with_reducible exact LeO.none _)
   | (with_reducible refine LeO.ite ?_ ?_)
   | (with_reducible refine LeO.bind ?_ (fun _ => ?_))
   | exact ih0 _ _ _ _ _
   | exact ih1 _ _ _
   | exact ih2 _ _ _ _ _
   | exact impl_Pool_canMake.mono _ _ _ _
   | exact LeO.none _
   | refine LeO.ite ?_ ?_
   | refine LeO.bind ?_ (fun _ => ?_)
  ·intro y0 y1 y2
   unfold impl_Pool_makes.l1
   repeat' first
   | (with_reducible exact ih0 _ _ _ _ _)
   | (with_reducible exact ih1 _ _ _)
   | (with_reducible exact ih2 _ _ _ _ _)
   | (with_reducible exact impl_Pool_canMake.mono _ _ _ _)
   | (with_reducible exact LeO.refl _)
   | (with_reducible exact LeO.none _)
   | (with_reducible refine LeO.ite ?_ ?_)
   | (with_reducible refine LeO.bind ?_ (fun _ => ?_))
   | exact ih0 _ _ _ _ _
   | exact ih1 _ _ _
   | exact ih2 _ _ _ _ _
   | exact impl_Pool_canMake.mono _ _ _ _
   | exact LeO.none _
   | refine LeO.ite ?_ ?_
   | refine LeO.bind ?_ (fun _ => ?_)
  ·intro y0 y1 y2 y3 y4
   unfold impl_Pool_makes.l2
   repeat' first
   | (with_reducible exact ih0 _ _ _ _ _)
   | (with_reducible exact ih1 _ _ _)
   | (with_reducible exact ih2 _ _ _ _ _)
   | (with_reducible exact impl_Pool_canMake.mono _ _ _ _)
   | (with_reducible exact LeO.refl _)
   | (with_reducible exact LeO.none _)
   | (with_reducible refine LeO.ite ?_ ?_)
   | (with_reducible refine LeO.bind ?_ (fun _ => ?_))
   | exact ih0 _ _ _ _ _
   | exact ih1 _ _ _
   | exact ih2 _ _ _ _ _
   | exact impl_Pool_canMake.mono _ _ _ _
   | exact LeO.none _
   | refine LeO.ite ?_ ?_
   | refine LeO.bind ?_ (fun _ => ?_)
theorem impl_Pool_makes.mono : ∀ a0 a1 k, LeO (impl_Pool_makes.f k a0 a1) (impl_Pool_makes.f (k + 1) a0 a1) := by
 intro a0 a1 k
 obtain ⟨ih0, ih1, ih2⟩ := impl_Pool_makes.mono_l k
 unfold impl_Pool_makes.f
 repeat' first
   | (with_reducible exact ih0 _ _ _ _ _)
   | (with_reducible exact ih1 _ _ _)
   | (with_reducible exact ih2 _ _ _ _ _)
   | (with_reducible exact impl_Pool_canMake.mono _ _ _ _)
   | (with_reducible exact LeO.refl _)
   | (with_reducible exact LeO.none _)
   | (with_reducible refine LeO.ite ?_ ?_)
   | (with_reducible refine LeO.bind ?_ (fun _ => ?_))
   | exact ih0 _ _ _ _ _
   | exact ih1 _ _ _
   | exact ih2 _ _ _ _ _
   | exact impl_Pool_canMake.mono _ _ _ _
   | exact LeO.none _
   | refine LeO.ite ?_ ?_
   | refine LeO.bind ?_ (fun _ => ?_)
set_option maxHeartbeats 8000000 in
set_option maxRecDepth 100000 in
theorem impl_Pool_makes.calls (k : Nat) (g0_ : Nat) (A0_0 : Option Addr) (c0_0 : Nat) (l0_0 : List (S51)) (A1 : Option Addr) (c1 : Nat) (l1 : List Int) (r : List Bool) (w : World) (hk0_ : w.heap[g0_]? = some (.cells #[.slice A0_0 l0_0.length c0_0] 30 (0, 0))) (hr0_0 : Kd.C k51 w A0_0 l0_0.length l0_0) (hc0_0 : l0_0.length ≤ c0_0) (hr1 : Kd.C (Kd.int .i64) w A1 l1.length l1) (hc1 : l1.length ≤ c1) (h : impl_Pool_makes.f k l0_0 l1 = some r) :
  Calls Try.prog 51 #[.pointer (some ⟨g0_, 0, none⟩), .slice A1 l1.length c1] w fun e w' => ∃ v0_ : Value, e = .returned (v0_) ∧ Kd.R Kd.bool 4 w' w.heap.size (fun _ => True) v0_ r ∧ Below w.heap.size w w' := by
 have HR0_0 := Aside0.mk hr0_0
 have HC0_0 := Aside0.mk hc0_0
 clear hr0_0 hc0_0
 have HR1 := Aside0.mk hr1
 have HC1 := Aside0.mk hc1
 clear hr1 hc1
 have BK0 := Aside0.mk hk0_
 clear hk0_
 have HB := Aside0.mk (Below.refl w.heap.size w)
 have H : (if 0 ≤ (l0_0.length : Int) then (if ((l0_0.length : Int) : Int).toNat ≤ 281474976710656 then (impl_Pool_makes.l0 k (List.replicate ((l0_0.length : Int) : Int).toNat false) l1 (l1.length : Int) 0 l0_0) else (none)) else (none)) = some r := h
 clear h
 by_cases c3 : 0 ≤ (l0_0.length : Int)
 ·rw [if_pos c3] at H
  have c3b0 := eq_true c3
  have c3b1 : decide (0 ≤ (l0_0.length : Int)) = true := decide_eq_true c3
  clear c3
  by_cases c4 : ((l0_0.length : Int) : Int).toNat ≤ 281474976710656
  ·rw [if_pos c4] at H
   have c4b0 := eq_true c4
   have c4b1 : decide (((l0_0.length : Int) : Int).toNat ≤ 281474976710656) = true := decide_eq_true c4
   clear c4
   obtain ⟨y208, hy208⟩ : ∃ y_ : List Bool, y_ = (List.replicate ((l0_0.length : Int) : Int).toNat false) := ⟨_, rfl⟩
   replace H : (impl_Pool_makes.l0 k y208 l1 (l1.length : Int) 0 l0_0) = some r := by first | (rw [hy208]; with_reducible exact H) | (have H2_ := (Option.bind_some _ _).symm.trans H; rw [hy208]; with_reducible exact H2_) | (have H2_ := (Option.bind_some _ _).symm.trans H; with_reducible exact H2_) | with_reducible exact H | (rw [hy208]; exact H) | exact H
   have Ny208 := Aside0.mk hy208
   clear hy208
   have H' := Aside0.mk H
   clear H
   have hcz5_0 : w.cell? ⟨g0_, 0, none⟩ = some (.slice A0_0 l0_0.length c0_0) := (blk_cell BK0.out 0).trans rfl
   have hfz5_0 := blk_frozen BK0.out 0
   go_enter Try.func51, Try.ntmps51
   go_wp2_with (first | ((with_reducible refine gate_dst (N := 15) rfl ?_); refine Kd.R_make Kd.bool _ 4 rfl (N := 15) rfl 36 _ _ rfl (l0_0.length : Int) rfl rfl Try.underlying36 (.bool false) 1 info4 rfl (by decide) (by omega) false (ok := fun _ => True) (okp := fun _ => True) rfl (fun _ hk => hk) trivial (of_decide_eq_true (by first | (with_reducible assumption) | assumption)) (Nat.le_trans (Nat.mul_le_mul_right _ (of_decide_eq_true (by first | (with_reducible assumption) | assumption) : (l0_0.length : Int).toNat ≤ 281474976710656)) (by omega)) (Below.refl _ _) (Nat.le_refl _) ?_; intro v209 w6 ho7 hb hg_ hnew_; clear hg_ hnew_; (first | rw [← Ny208.out] at ho7 | (simp only [Int.reduceToNat] at ho7; rw [← Ny208.out] at ho7)); have n0_ := Aside0.mk (Kd.R_lower ho7 (below_size (zb HB.out))); have n1_ := Aside0.mk (blk_below (zh BK0.out) hb); have n2_ := Aside0.mk (below_step (zb HB.out) hb); clear BK0; clear HB; have HO210 := n0_; have BK0 := n1_; have HB := n2_; clear n0_ n1_ n2_; clear hb ho7))
   go_loopg [18] k (fun kq v18 w' => ∃ (x5_1 : List Bool) (x18_1 : Int), v18 = .int .i64 x18_1 ∧ Aside0 (impl_Pool_makes.l0 kq x5_1 l1 (l1.length : Int) x18_1 l0_0 = some r) ∧ Aside0 (kq ≤ k) ∧ Aside0 (Kd.R Kd.bool 4 w' w.heap.size (fun _ => True) v209 x5_1) ∧ Aside0 (w'.heap[g0_]? = some (.cells #[(.slice A0_0 l0_0.length c0_0)] 30 (0, 0))) ∧ Aside0 (Below w.heap.size w w'))
   case atStart => exact ⟨(y208), (0), (by first | rfl | (simp; done) | (simp [*]; done)), H', ⟨Nat.le_refl _⟩, ⟨zr HO210.out⟩, ⟨zh BK0.out⟩, ⟨zb HB.out⟩⟩
   case round =>
    clear H'
    try clear c1
    try clear p2
    try clear c3
    try clear c3b0
    try clear c3b1
    try clear c4
    try clear c4b0
    try clear c4b1
    try clear c5
    try clear hcz5_0
    try clear hfz5_0
    obtain ⟨x5_1, x18_1, rfl, HA, HK1, HO_5, BK0, HB⟩ := hrel
    cases gk with
    | zero => exact absurd HA.out (by simp [impl_Pool_makes.l0])
    | succ k1 =>
     have H := HA.out
     clear HA
     simp only [impl_Pool_makes.l0] at H
     by_cases c8 : x18_1 < (l1.length : Int)
     ·rw [if_pos c8] at H
      have c8b0 : decide (x18_1 < (l1.length : Int)) = true := decide_eq_true c8
      clear c8
      by_cases c9 : 0 ≤ x18_1
      ·rw [if_pos c9] at H
       have c9b0 : decide (0 ≤ x18_1) = true := decide_eq_true c9
       clear c9
       by_cases c10 : x18_1 < (l1.length : Int)
       ·rw [if_pos c10] at H
        have c10b0 : decide (x18_1 < (l1.length : Int)) = true := decide_eq_true c10
        clear c10
        by_cases c11 : 0 ≤ (rd l1 x18_1)
        ·rw [if_pos c11] at H
         have c11b0 : decide (0 ≤ (rd l1 x18_1)) = true := decide_eq_true c11
         clear c11
         by_cases c12 : (rd l1 x18_1) < (x5_1.length : Int)
         ·rw [if_pos c12] at H
          have c12b0 : decide ((rd l1 x18_1) < (x5_1.length : Int)) = true := decide_eq_true c12
          clear c12
          obtain ⟨y212, hy212⟩ : ∃ y_ : List Bool, y_ = (x5_1.set ((rd l1 x18_1) : Int).toNat true) := ⟨_, rfl⟩
          replace H : (impl_Pool_makes.l0 k1 y212 l1 (l1.length : Int) (wrap64 (x18_1 + 1)) l0_0) = some r := by first | (rw [hy212]; with_reducible exact H) | (have H2_ := (Option.bind_some _ _).symm.trans H; rw [hy212]; with_reducible exact H2_) | (have H2_ := (Option.bind_some _ _).symm.trans H; with_reducible exact H2_) | with_reducible exact H | (rw [hy212]; exact H) | exact H
          have Ny212 := Aside0.mk hy212
          clear hy212
          have H' := Aside0.mk H
          clear H
          have p211 : 0 ≤ (x18_1 : Int) := of_decide_eq_true (by first | (with_reducible assumption) | assumption)
          have q211 : x18_1 < (l1.length : Int) := of_decide_eq_true (by first | (with_reducible assumption) | assumption)
          obtain ⟨ad211, e211, hx211_0⟩ := Kd.at_int HR1.out x18_1 p211 q211
          cases e211
          replace hx211_0 := (HB.out.cell (World.block_lt_of_cell? w _ hx211_0)).trans hx211_0
          replace p211 := eq_true p211
          replace q211 := eq_true q211
          have p13 : 0 ≤ ((rd l1 x18_1) : Int) := of_decide_eq_true (by first | (with_reducible assumption) | assumption)
          have q13 : ((rd l1 x18_1) : Int) < ((x5_1.length : Int) : Int) := of_decide_eq_true (by first | (with_reducible assumption) | assumption)
          obtain ⟨go13, co13, eo13, gb13, gl13, cl13, HG13⟩ := Kd.R_form HO_5.out (by omega)
          (first | cases eo13 | (injection eo13 with ea_ en_ ec_; (first | subst ea_ | (injection ea_ with ea_; subst ea_)); subst ec_; clear en_))
          have GB13 := Aside0.mk gb13
          have GG13 := Aside0.mk HG13
          clear gb13 gl13 HG13
          obtain ⟨hx13_0, hf13_0⟩ := Kd.R_celln false HO_5.out ((rd l1 x18_1) : Int) p13 q13
          replace p13 := eq_true p13
          replace q13 := eq_true q13
          have HP14 := Kd.R_putg HO_5.out ((rd l1 x18_1) : Int) true
          go_wp2_with (first | ((with_reducible refine gate_store (t := 4) (p := 24) rfl ?_); refine store_event (t := 4) (p := 24) (v := ?vo_w15) (w1 := (wr.setCell ⟨go13, ((rd l1 x18_1) : Int).toNat, none⟩ (.bool true))) ?hg ?ho ?hn ?hr ?_; (case ho => rfl); (case hg => rfl); (case hn => rfl); (case hr => first | (go_simp; done) | (go_simp; rfl)); intro w15 hw; have hg : wr.grownBy w15 (some go13) := (by rw [hw]; exact HP14.2); have hp_ : Kd.R Kd.bool 4 w15 w.heap.size (fun _ => True) (.slice (some ⟨go13, 0, none⟩) x5_1.length co13) y212 := (by rw [hw, Ny212.out]; exact HP14.1); clear HP14; have n0_ := Aside0.mk (hp_); have n1_ := Aside0.mk (blk_grown (zh BK0.out) hg (Kd.R_ne HO_5.out BK0.out (by decide))); have n2_ := Aside0.mk ((by rw [hw]; exact below_set (HB.out) GB13.out : Below w.heap.size w w15)); clear HO_5; clear BK0; clear HB; have HO_5 := n0_; have BK0 := n1_; have HB := n2_; clear n0_ n1_ n2_; clear hg hw hp_))
          go_roundg k1
          case measure => have := HK1.out; omega
          case rel => exact ⟨(y212), (wrap64 (x18_1 + 1)), (by first | rfl | (simp; done) | (simp [*]; done)), H', ⟨by have := HK1.out; omega⟩, ⟨zr HO_5.out⟩, ⟨zh BK0.out⟩, ⟨zb HB.out⟩⟩
         ·rw [if_neg c12] at H
          exact absurd H (by simp)
        ·rw [if_neg c11] at H
         exact absurd H (by simp)
       ·rw [if_neg c10] at H
        exact absurd H (by simp)
      ·rw [if_neg c9] at H
       exact absurd H (by simp)
     ·rw [if_neg c8] at H
      have c8b0 : decide (x18_1 < (l1.length : Int)) = false := decide_eq_false c8
      clear c8
      have H' := Aside0.mk H
      clear H
      go_wp2
      go_loopg [8] k1 (fun kq v8 w' => ∃ (x5_2 : List Bool) (x8_2 : Bool), v8 = .bool x8_2 ∧ Aside0 (impl_Pool_makes.l1 kq x5_2 x8_2 l0_0 = some r) ∧ Aside0 (kq ≤ k1) ∧ Aside0 (Kd.R Kd.bool 4 w' w.heap.size (fun _ => True) v209 x5_2) ∧ Aside0 (w'.heap[g0_]? = some (.cells #[(.slice A0_0 l0_0.length c0_0)] 30 (0, 0))) ∧ Aside0 (Below w.heap.size w w'))
      case atStart => exact ⟨(x5_1), (true), (by first | rfl | (simp; done) | (simp [*]; done)), H', ⟨Nat.le_refl _⟩, ⟨zr HO_5.out⟩, ⟨zh BK0.out⟩, ⟨zb HB.out⟩⟩
      case round =>
       clear H'
       try clear c1
       try clear p1
       try clear q1
       try clear hx1
       try clear p2
       try clear q2
       try clear hx2
       try clear c3
       try clear c3b0
       try clear c3b1
       try clear c4
       try clear c4b0
       try clear c4b1
       try clear c5
       try clear p6
       try clear c8
       try clear c8b0
       try clear c9
       try clear c9b0
       try clear c10
       try clear c10b0
       try clear c11
       try clear c11b0
       try clear c12
       try clear c12b0
       try clear p13
       try clear q13
       try clear hx13
       try clear hf13
       try clear hcz5_0
       try clear hfz5_0
       try clear hx13_0
       try clear hx211_0
       try clear p13
       try clear p2
       try clear p211
       try clear q13
       try clear q211
       obtain ⟨x5_2, x8_2, rfl, HA, HK2, HO_5, BK0, HB⟩ := hrel
       cases gk with
       | zero => exact absurd HA.out (by simp [impl_Pool_makes.l1])
       | succ k2 =>
        have H := HA.out
        clear HA
        simp only [impl_Pool_makes.l1] at H
        by_cases c16 : x8_2 = true
        ·subst c16
         have H1 : (impl_Pool_makes.l2 k2 x5_2 false (x5_2.length : Int) 0 l0_0) = some r := by rw [if_pos rfl] at H; exact H
         clear H
         have H := H1
         clear H1
         have H' := Aside0.mk H
         clear H
         obtain ⟨Ao17, co17, eo17⟩ := Kd.R_slice HO_5.out
         subst eo17
         go_wp2
         go_loopg [8, 29] k2 (fun kq v8 v29 w' => ∃ (x5_3 : List Bool) (x8_3 : Bool) (x29_3 : Int), v8 = .bool x8_3 ∧ v29 = .int .i64 x29_3 ∧ Aside0 (impl_Pool_makes.l2 kq x5_3 x8_3 (x5_2.length : Int) x29_3 l0_0 = some r) ∧ Aside0 (kq ≤ k2) ∧ Aside0 (Kd.R Kd.bool 4 w' w.heap.size (fun _ => True) (.slice Ao17 x5_2.length co17) x5_3) ∧ Aside0 (w'.heap[g0_]? = some (.cells #[(.slice A0_0 l0_0.length c0_0)] 30 (0, 0))) ∧ Aside0 (Below w.heap.size w w'))
         case atStart => exact ⟨(x5_2), (false), (0), (by first | rfl | (simp; done) | (simp [*]; done)), (by first | rfl | (simp; done) | (simp [*]; done)), H', ⟨Nat.le_refl _⟩, ⟨zr HO_5.out⟩, ⟨zh BK0.out⟩, ⟨zb HB.out⟩⟩
         case round =>
          clear H'
          try clear c1
          try clear p1
          try clear q1
          try clear hx1
          try clear p2
          try clear q2
          try clear hx2
          try clear c3
          try clear c3b0
          try clear c3b1
          try clear c4
          try clear c4b0
          try clear c4b1
          try clear c5
          try clear p6
          try clear c8
          try clear c8b0
          try clear c9
          try clear c9b0
          try clear c10
          try clear c10b0
          try clear c11
          try clear c11b0
          try clear c12
          try clear c12b0
          try clear p13
          try clear q13
          try clear hx13
          try clear hf13
          try clear c16
          try clear hcz5_0
          try clear hfz5_0
          try clear hx13_0
          try clear hx211_0
          try clear p1
          try clear p13
          try clear p2
          try clear p211
          try clear p6
          try clear q1
          try clear q13
          try clear q2
          try clear q211
          obtain ⟨x5_3, x8_3, x29_3, rfl, rfl, HA, HK3, HO_5, BK0, HB⟩ := hrel
          have hl5_3 := (Kd.R_reads' HO_5.out).1
          rw [hl5_3] at HO_5
          (try simp only [hl5_3])
          (try simp only [hl5_3] at BK0)
          cases gk with
          | zero => exact absurd HA.out (by simp [impl_Pool_makes.l2])
          | succ k3 =>
           have H := HA.out
           clear HA
           simp only [impl_Pool_makes.l2] at H
           by_cases c18 : x29_3 < (x5_2.length : Int)
           ·rw [if_pos c18] at H
            have c18b0 : decide (x29_3 < (x5_2.length : Int)) = true := decide_eq_true c18
            (try (have c18b0h := c18b0; simp only [hl5_3] at c18b0h))
            clear c18
            by_cases c19 : 0 ≤ x29_3
            ·rw [if_pos c19] at H
             have c19b0 : decide (0 ≤ x29_3) = true := decide_eq_true c19
             clear c19
             by_cases c20 : x29_3 < (x5_3.length : Int)
             ·rw [if_pos c20] at H
              have c20b0 : decide (x29_3 < (x5_3.length : Int)) = true := decide_eq_true c20
              (try (have c20b0h := c20b0; simp only [hl5_3] at c20b0h))
              clear c20
              obtain ⟨bq21, hbq21⟩ : ∃ b_ : Bool, b_ = (rdOf false x5_3 x29_3) := ⟨_, rfl⟩
              replace H : (if bq21 = true then (impl_Pool_makes.l2 k3 x5_3 x8_3 (x5_2.length : Int) (wrap64 (x29_3 + 1)) l0_0) else ((impl_Pool_canMake.f k3 l0_0 x29_3 x5_3).bind fun t214 => (if t214 = true then (impl_Pool_makes.l2 k3 (x5_3.set (x29_3 : Int).toNat true) true (x5_2.length : Int) (wrap64 (x29_3 + 1)) l0_0) else (impl_Pool_makes.l2 k3 x5_3 x8_3 (x5_2.length : Int) (wrap64 (x29_3 + 1)) l0_0)))) = some r := by rw [← hbq21] at H; exact H
              have Nbq21 := Aside0.mk hbq21
              clear hbq21
              by_cases c22 : bq21 = true
              ·subst c22
               have H1 : (impl_Pool_makes.l2 k3 x5_3 x8_3 (x5_2.length : Int) (wrap64 (x29_3 + 1)) l0_0) = some r := by rw [if_pos rfl] at H; exact H
               clear H
               have H := H1
               clear H1
               have H' := Aside0.mk H
               clear H
               have p213 : 0 ≤ (x29_3 : Int) := of_decide_eq_true (by first | (with_reducible assumption) | assumption)
               have q213 : x29_3 < (x5_3.length : Int) := of_decide_eq_true (by first | (with_reducible assumption) | assumption)
               obtain ⟨ad213, e213, hx213_0⟩ := Kd.at_bool (Kd.R_reads' HO_5.out).2.2 x29_3 p213 q213
               (try rw [← Nbq21.out] at hx213_0)
               cases e213
               replace p213 := eq_true p213
               replace q213 := eq_true q213
               go_wp2
               (try simp only [← hl5_3])
               go_roundg k3
               case measure => have := HK1.out; have := HK2.out; have := HK3.out; omega
               case rel => exact ⟨(x5_3), (x8_3), (wrap64 (x29_3 + 1)), (by first | rfl | (simp; done) | (simp [*]; done)), (by first | rfl | (simp; done) | (simp [*]; done)), H', ⟨by have := HK1.out; have := HK2.out; have := HK3.out; omega⟩, ⟨by (try simp only [hl5_3]); (with_reducible repeat (first | apply Kd.R_alloc | apply Kd.R_drewN | apply Kd.R_drew)); exact HO_5.out⟩, ⟨by (try simp only [hl5_3]); (with_reducible repeat (first | refine blk_drewN ?_ _ | refine blk_drew ?_ | refine blk_alloc ?_ _)); exact BK0.out⟩, ⟨zb HB.out⟩⟩
              ·replace c22 := Bool.eq_false_iff.mpr c22
               subst c22
               have H1 : ((impl_Pool_canMake.f k3 l0_0 x29_3 x5_3).bind fun t214 => (if t214 = true then (impl_Pool_makes.l2 k3 (x5_3.set (x29_3 : Int).toNat true) true (x5_2.length : Int) (wrap64 (x29_3 + 1)) l0_0) else (impl_Pool_makes.l2 k3 x5_3 x8_3 (x5_2.length : Int) (wrap64 (x29_3 + 1)) l0_0))) = some r := by rw [if_neg (show ¬ (false = true) by decide)] at H; exact H
               clear H
               have H := H1
               clear H1
               replace H := Option.bind_eq_some_iff.mp H
               obtain ⟨t214, A230, H⟩ := H
               replace H : (if t214 = true then (impl_Pool_makes.l2 k3 (x5_3.set (x29_3 : Int).toNat true) true (x5_2.length : Int) (wrap64 (x29_3 + 1)) l0_0) else (impl_Pool_makes.l2 k3 x5_3 x8_3 (x5_2.length : Int) (wrap64 (x29_3 + 1)) l0_0)) = some r := H
               have A23 := Aside0.mk A230
               clear A230
               by_cases c24 : t214 = true
               ·subst c24
                have H1 : (impl_Pool_makes.l2 k3 (x5_3.set (x29_3 : Int).toNat true) true (x5_2.length : Int) (wrap64 (x29_3 + 1)) l0_0) = some r := by rw [if_pos rfl] at H; exact H
                clear H
                have H := H1
                clear H1
                obtain ⟨y215, hy215⟩ : ∃ y_ : List Bool, y_ = (x5_3.set (x29_3 : Int).toNat true) := ⟨_, rfl⟩
                replace H : (impl_Pool_makes.l2 k3 y215 true (x5_2.length : Int) (wrap64 (x29_3 + 1)) l0_0) = some r := by first | (rw [hy215]; with_reducible exact H) | (have H2_ := (Option.bind_some _ _).symm.trans H; rw [hy215]; with_reducible exact H2_) | (have H2_ := (Option.bind_some _ _).symm.trans H; with_reducible exact H2_) | with_reducible exact H | (rw [hy215]; exact H) | exact H
                have Ny215 := Aside0.mk hy215
                clear hy215
                have H' := Aside0.mk H
                clear H
                have p213 : 0 ≤ (x29_3 : Int) := of_decide_eq_true (by first | (with_reducible assumption) | assumption)
                have q213 : x29_3 < (x5_3.length : Int) := of_decide_eq_true (by first | (with_reducible assumption) | assumption)
                obtain ⟨ad213, e213, hx213_0⟩ := Kd.at_bool (Kd.R_reads' HO_5.out).2.2 x29_3 p213 q213
                (try rw [← Nbq21.out] at hx213_0)
                cases e213
                replace p213 := eq_true p213
                replace q213 := eq_true q213
                go_wp2_with (first | (go_at_call 71; (with_reducible refine (impl_Pool_canMake.calls k3 _ A0_0 c0_0 l0_0 x29_3 _ _ x5_3 true _ ?side1 ?side2 ?side3 ?side4 ?side5 A23.out).mono ?_); (case side1 => exact zh BK0.out); (case side2 => exact zc (Kd.C_below HR0_0.out HB.out)); (case side3 => exact HC0_0.out); (case side4 => exact zc (Kd.R_reads' HO_5.out).2.2); (case side5 => exact (Kd.R_reads' HO_5.out).2.1); rintro e w26 ⟨rfl, hb⟩; have n0_ := Aside0.mk (Kd.R_below (zr HO_5.out) hb); have n1_ := Aside0.mk (blk_below (zh BK0.out) hb); have n2_ := Aside0.mk (below_step (zb HB.out) hb); clear HO_5; clear BK0; clear HB; have HO_5 := n0_; have BK0 := n1_; have HB := n2_; clear n0_ n1_ n2_; (try clear hb); (try clear hb2); (try clear hk); (try clear hi); have p25 : 0 ≤ (x29_3 : Int) := of_decide_eq_true (by first | (with_reducible assumption) | assumption); have q25 : (x29_3 : Int) < ((x5_3.length : Int) : Int) := of_decide_eq_true (by first | (with_reducible assumption) | assumption); obtain ⟨go25, co25, eo25, gb25, gl25, cl25, HG25⟩ := Kd.R_form HO_5.out (by omega); (first | cases eo25 | (injection eo25 with ea_ en_ ec_; (first | subst ea_ | (injection ea_ with ea_; subst ea_)); subst ec_; clear en_)); have GB25 := Aside0.mk gb25; have GG25 := Aside0.mk HG25; clear gb25 gl25 HG25; (first | simp only [add_plain] at hx213_0 | skip); obtain ⟨hx25_0, hf25_0⟩ := Kd.R_celln false HO_5.out (x29_3 : Int) p25 q25; replace p25 := eq_true p25; replace q25 := eq_true q25; obtain ⟨hy27_, hz27_⟩ := Kd.R_celln false HO_5.out (x29_3 : Int) (of_decide_eq_true (by first | (with_reducible assumption) | assumption)) (of_decide_eq_true (by first | (with_reducible assumption) | assumption)); have HP27 := Kd.R_putg HO_5.out (x29_3 : Int) true) | ((with_reducible refine gate_store (t := 4) (p := 45) rfl ?_); refine store_event (t := 4) (p := 45) (v := ?vo_w28) (w1 := (w26.setCell ⟨go25, (x29_3 : Int).toNat, none⟩ (.bool true))) ?hg ?ho ?hn ?hr ?_; (case ho => rfl); (case hg => rfl); (case hn => rfl); (case hr => first | (go_simp; done) | (go_simp; rfl)); intro w28 hw; have hg : w26.grownBy w28 (some go25) := (by rw [hw]; exact HP27.2); have hp_ : Kd.R Kd.bool 4 w28 w.heap.size (fun _ => True) (.slice (some ⟨go25, 0, none⟩) x5_3.length co17) y215 := (by rw [hw, Ny215.out]; exact HP27.1); clear HP27; have n0_ := Aside0.mk (hp_); have n1_ := Aside0.mk (blk_grown (zh BK0.out) hg (Kd.R_ne HO_5.out BK0.out (by decide))); have n2_ := Aside0.mk ((by rw [hw]; exact below_set (HB.out) GB25.out : Below w.heap.size w w28)); clear HO_5; clear BK0; clear HB; have HO_5 := n0_; have BK0 := n1_; have HB := n2_; clear n0_ n1_ n2_; clear hg hw hp_))
                (try simp only [← hl5_3])
                go_roundg k3
                case measure => have := HK1.out; have := HK2.out; have := HK3.out; omega
                case rel => exact ⟨(y215), (true), (wrap64 (x29_3 + 1)), (by first | rfl | (simp; done) | (simp [*]; done)), (by first | rfl | (simp; done) | (simp [*]; done)), H', ⟨by have := HK1.out; have := HK2.out; have := HK3.out; omega⟩, ⟨by (try simp only [hl5_3]); (with_reducible repeat (first | apply Kd.R_alloc | apply Kd.R_drewN | apply Kd.R_drew)); exact HO_5.out⟩, ⟨by (try simp only [hl5_3]); (with_reducible repeat (first | refine blk_drewN ?_ _ | refine blk_drew ?_ | refine blk_alloc ?_ _)); exact BK0.out⟩, ⟨zb HB.out⟩⟩
               ·replace c24 := Bool.eq_false_iff.mpr c24
                subst c24
                have H1 : (impl_Pool_makes.l2 k3 x5_3 x8_3 (x5_2.length : Int) (wrap64 (x29_3 + 1)) l0_0) = some r := by rw [if_neg (show ¬ (false = true) by decide)] at H; exact H
                clear H
                have H := H1
                clear H1
                have H' := Aside0.mk H
                clear H
                have p213 : 0 ≤ (x29_3 : Int) := of_decide_eq_true (by first | (with_reducible assumption) | assumption)
                have q213 : x29_3 < (x5_3.length : Int) := of_decide_eq_true (by first | (with_reducible assumption) | assumption)
                obtain ⟨ad213, e213, hx213_0⟩ := Kd.at_bool (Kd.R_reads' HO_5.out).2.2 x29_3 p213 q213
                (try rw [← Nbq21.out] at hx213_0)
                cases e213
                replace p213 := eq_true p213
                replace q213 := eq_true q213
                go_wp2_with (first | (go_at_call 71; (with_reducible refine (impl_Pool_canMake.calls k3 _ A0_0 c0_0 l0_0 x29_3 _ _ x5_3 false _ ?side1 ?side2 ?side3 ?side4 ?side5 A23.out).mono ?_); (case side1 => exact zh BK0.out); (case side2 => exact zc (Kd.C_below HR0_0.out HB.out)); (case side3 => exact HC0_0.out); (case side4 => exact zc (Kd.R_reads' HO_5.out).2.2); (case side5 => exact (Kd.R_reads' HO_5.out).2.1); rintro e w29 ⟨rfl, hb⟩; have n0_ := Aside0.mk (Kd.R_below (zr HO_5.out) hb); have n1_ := Aside0.mk (blk_below (zh BK0.out) hb); have n2_ := Aside0.mk (below_step (zb HB.out) hb); clear HO_5; clear BK0; clear HB; have HO_5 := n0_; have BK0 := n1_; have HB := n2_; clear n0_ n1_ n2_; (try clear hb); (try clear hb2); (try clear hk); (try clear hi)))
                (try simp only [← hl5_3])
                go_roundg k3
                case measure => have := HK1.out; have := HK2.out; have := HK3.out; omega
                case rel => exact ⟨(x5_3), (x8_3), (wrap64 (x29_3 + 1)), (by first | rfl | (simp; done) | (simp [*]; done)), (by first | rfl | (simp; done) | (simp [*]; done)), H', ⟨by have := HK1.out; have := HK2.out; have := HK3.out; omega⟩, ⟨by (try simp only [hl5_3]); (with_reducible repeat (first | apply Kd.R_alloc | apply Kd.R_drewN | apply Kd.R_drew)); exact HO_5.out⟩, ⟨by (try simp only [hl5_3]); (with_reducible repeat (first | refine blk_drewN ?_ _ | refine blk_drew ?_ | refine blk_alloc ?_ _)); exact BK0.out⟩, ⟨zb HB.out⟩⟩
             ·rw [if_neg c20] at H
              exact absurd H (by simp)
            ·rw [if_neg c19] at H
             exact absurd H (by simp)
           ·rw [if_neg c18] at H
            have c18b0 : decide (x29_3 < (x5_2.length : Int)) = false := decide_eq_false c18
            (try (have c18b0h := c18b0; simp only [hl5_3] at c18b0h))
            clear c18
            have H' := Aside0.mk H
            clear H
            go_wp2
            (try simp only [← hl5_3])
            go_roundg k3
            case measure => have := HK1.out; have := HK2.out; have := HK3.out; omega
            case rel => exact ⟨(x5_3), (x8_3), (by first | rfl | (simp; done) | (simp [*]; done)), H', ⟨by have := HK1.out; have := HK2.out; have := HK3.out; omega⟩, ⟨by (try simp only [hl5_3]); (with_reducible repeat (first | apply Kd.R_alloc | apply Kd.R_drewN | apply Kd.R_drew)); exact HO_5.out⟩, ⟨by (try simp only [hl5_3]); (with_reducible repeat (first | refine blk_drewN ?_ _ | refine blk_drew ?_ | refine blk_alloc ?_ _)); exact BK0.out⟩, ⟨zb HB.out⟩⟩
        ·replace c16 := Bool.eq_false_iff.mpr c16
         subst c16
         have H1 : (some x5_2) = some r := by rw [if_neg (show ¬ (false = true) by decide)] at H; exact H
         clear H
         have H := H1
         clear H1
         obtain rfl := Option.some.inj H
         go_wp2
         go_ret
         exact ⟨_, ze, zr HO_5.out, zb HB.out⟩
  ·rw [if_neg c4] at H
   exact absurd H (by simp)
 ·rw [if_neg c3] at H
  exact absurd H (by simp)

/-! ### impl_MakesAll: function 19 -/
def impl_MakesAll.f (k : Nat) (l0_0 : List (S51)) (l1 : List Int) : Option (List Bool) := (impl_KnowOk.f k l0_0 l1).bind fun t217 => (if t217 = true then ((impl_Pool_makes.f k l0_0 l1).bind fun t218 => (some t218)) else (some ([] : List Bool)))
theorem impl_MakesAll.mono : ∀ a0 a1 k, LeO (impl_MakesAll.f k a0 a1) (impl_MakesAll.f (k + 1) a0 a1) := by
 intro a0 a1 k
 unfold impl_MakesAll.f
 repeat' first
   | (with_reducible exact impl_KnowOk.mono _ _ _)
   | (with_reducible exact impl_Pool_makes.mono _ _ _)
   | (with_reducible exact LeO.refl _)
   | (with_reducible exact LeO.none _)
   | (with_reducible refine LeO.ite ?_ ?_)
   | (with_reducible refine LeO.bind ?_ (fun _ => ?_))
   | exact impl_KnowOk.mono _ _ _
   | exact impl_Pool_makes.mono _ _ _
   | exact LeO.none _
   | refine LeO.ite ?_ ?_
   | refine LeO.bind ?_ (fun _ => ?_)
set_option maxHeartbeats 8000000 in
set_option maxRecDepth 100000 in
theorem impl_MakesAll.calls (k : Nat) (A0_0 : Option Addr) (c0_0 : Nat) (l0_0 : List (S51)) (A1 : Option Addr) (c1 : Nat) (l1 : List Int) (r : List Bool) (w : World) (hr0_0 : Kd.C k51 w A0_0 l0_0.length l0_0) (hc0_0 : l0_0.length ≤ c0_0) (hr1 : Kd.C (Kd.int .i64) w A1 l1.length l1) (hc1 : l1.length ≤ c1) (h : impl_MakesAll.f k l0_0 l1 = some r) :
  Calls Try.prog 19 #[.agg #[.slice A0_0 l0_0.length c0_0], .slice A1 l1.length c1] w fun e w' => ∃ v0_ : Value, e = .returned (v0_) ∧ Kd.R Kd.bool 4 w' w.heap.size (fun _ => True) v0_ r ∧ Below w.heap.size w w' := by
 have hu30 := Try.underlying30
 have HR0_0 := Aside0.mk hr0_0
 have HC0_0 := Aside0.mk hc0_0
 clear hr0_0 hc0_0
 have HR1 := Aside0.mk hr1
 have HC1 := Aside0.mk hc1
 clear hr1 hc1
 have HB := Aside0.mk (Below.refl w.heap.size w)
 have H : ((impl_KnowOk.f k l0_0 l1).bind fun t217 => (if t217 = true then ((impl_Pool_makes.f k l0_0 l1).bind fun t218 => (some t218)) else (some ([] : List Bool)))) = some r := h
 clear h
 replace H := Option.bind_eq_some_iff.mp H
 obtain ⟨t217, A30, H⟩ := H
 replace H : (if t217 = true then ((impl_Pool_makes.f k l0_0 l1).bind fun t218 => (some t218)) else (some ([] : List Bool))) = some r := H
 have A3 := Aside0.mk A30
 clear A30
 by_cases c4 : t217 = true
 ·subst c4
  have H1 : ((impl_Pool_makes.f k l0_0 l1).bind fun t218 => (some t218)) = some r := by rw [if_pos rfl] at H; exact H
  clear H
  have H := H1
  clear H1
  replace H := Option.bind_eq_some_iff.mp H
  obtain ⟨t218, A50, H⟩ := H
  replace H : (some t218) = some r := H
  have A5 := Aside0.mk A50
  clear A50
  obtain rfl := Option.some.inj H
  go_enter Try.func19, Try.ntmps19
  go_wp2_with (first | ((with_reducible refine gate_dst (N := 2) rfl ?_); refine box_event ?hg (N := 2) ?hd (cs := #[.slice A0_0 l0_0.length c0_0]) (t := 30) ?hr ?_; (case hd => rfl); (case hg => rfl); (case hr => first | (go_simp; done) | (go_simp; rfl)); intro gb216 hg w6 hbox hb; have n0_ := Aside0.mk (below_step (zb HB.out) hb); have n1_ := Aside0.mk (hbox); have n2_ := Aside0.mk ((by rw [hg]; exact (below_size (zb HB.out)) : w.heap.size ≤ gb216)); have n3_ := Aside0.mk ((by rw [hg]; exact (below_size (zb HB.out)) : w.heap.size ≤ gb216)); clear HB; have HB := n0_; have BK216 := n1_; have GW216 := n2_; have GE216 := n3_; clear n0_ n1_ n2_ n3_; clear hb hbox hg; have hcz7_0 : w6.cell? ⟨gb216, 0, none⟩ = some (.slice A0_0 l0_0.length c0_0) := (blk_cell BK216.out 0).trans rfl; have hfz7_0 := blk_frozen BK216.out 0) | ((with_reducible refine gate_callee (f := 38) rfl ?_); refine goesL_ (some 7) rfl rfl Try.func38 (by kernel_rfl) rfl #[.agg #[.slice A0_0 l0_0.length c0_0], .slice A1 l1.length c1] rfl zl ?_; (with_reducible refine (impl_KnowOk.calls k _ _ l0_0 _ _ l1 true _ ?side1 ?side2 ?side3 ?side4 A3.out).mono ?_); (case side1 => exact zc (Kd.C_below HR0_0.out HB.out)); (case side2 => exact HC0_0.out); (case side3 => exact zc (Kd.C_below HR1.out HB.out)); (case side4 => exact HC1.out); rintro e w8 ⟨rfl, hb⟩; refine ⟨_, rfl, ?_⟩; have n0_ := Aside0.mk (blk_below (zh BK216.out) hb); have n1_ := Aside0.mk (below_step (zb HB.out) hb); clear BK216; clear HB; have BK216 := n0_; have HB := n1_; clear n0_ n1_; (try clear hb); (try clear hb2); (try clear hk); (try clear hi)) | ((with_reducible refine gate_callee (f := 51) rfl ?_); refine goesL_ (some 10) rfl rfl Try.func51 (by kernel_rfl) rfl #[.pointer (some ⟨gb216, 0, none⟩), .slice A1 l1.length c1] rfl zl ?_; (with_reducible refine (impl_Pool_makes.calls k _ A0_0 c0_0 l0_0 _ _ l1 t218 _ ?side1 ?side2 ?side3 ?side4 ?side5 A5.out).mono ?_); (case side1 => exact zh BK216.out); (case side2 => exact zc (Kd.C_below HR0_0.out HB.out)); (case side3 => exact HC0_0.out); (case side4 => exact zc (Kd.C_below HR1.out HB.out)); (case side5 => exact HC1.out); rintro e w9 ⟨v219, rfl, ho0, hb⟩; refine ⟨_, rfl, ?_⟩; have n0_ := Aside0.mk (Kd.R_lower ho0 (below_size (zb HB.out))); have n1_ := Aside0.mk (blk_below (zh BK216.out) hb); have n2_ := Aside0.mk (below_step (zb HB.out) hb); clear BK216; clear HB; have HO220 := n0_; have BK216 := n1_; have HB := n2_; clear n0_ n1_ n2_; (try clear hb); (try clear hb2); (try clear hk); (try clear hi); (try clear ho0)))
  go_ret
  exact ⟨_, ze, zr HO220.out, zb HB.out⟩
 ·replace c4 := Bool.eq_false_iff.mpr c4
  subst c4
  have H1 : (some ([] : List Bool)) = some r := by rw [if_neg (show ¬ (false = true) by decide)] at H; exact H
  clear H
  have H := H1
  clear H1
  obtain rfl := Option.some.inj H
  go_enter Try.func19, Try.ntmps19
  go_wp2_with (first | ((with_reducible refine gate_dst (N := 2) rfl ?_); refine box_event ?hg (N := 2) ?hd (cs := #[.slice A0_0 l0_0.length c0_0]) (t := 30) ?hr ?_; (case hd => rfl); (case hg => rfl); (case hr => first | (go_simp; done) | (go_simp; rfl)); intro gb216 hg w10 hbox hb; have n0_ := Aside0.mk (below_step (zb HB.out) hb); have n1_ := Aside0.mk (hbox); have n2_ := Aside0.mk ((by rw [hg]; exact (below_size (zb HB.out)) : w.heap.size ≤ gb216)); have n3_ := Aside0.mk ((by rw [hg]; exact (below_size (zb HB.out)) : w.heap.size ≤ gb216)); clear HB; have HB := n0_; have BK216 := n1_; have GW216 := n2_; have GE216 := n3_; clear n0_ n1_ n2_ n3_; clear hb hbox hg; have hcz11_0 : w10.cell? ⟨gb216, 0, none⟩ = some (.slice A0_0 l0_0.length c0_0) := (blk_cell BK216.out 0).trans rfl; have hfz11_0 := blk_frozen BK216.out 0) | ((with_reducible refine gate_callee (f := 38) rfl ?_); refine goesL_ (some 7) rfl rfl Try.func38 (by kernel_rfl) rfl #[.agg #[.slice A0_0 l0_0.length c0_0], .slice A1 l1.length c1] rfl zl ?_; (with_reducible refine (impl_KnowOk.calls k _ _ l0_0 _ _ l1 false _ ?side1 ?side2 ?side3 ?side4 A3.out).mono ?_); (case side1 => exact zc (Kd.C_below HR0_0.out HB.out)); (case side2 => exact HC0_0.out); (case side3 => exact zc (Kd.C_below HR1.out HB.out)); (case side4 => exact HC1.out); rintro e w12 ⟨rfl, hb⟩; refine ⟨_, rfl, ?_⟩; have n0_ := Aside0.mk (blk_below (zh BK216.out) hb); have n1_ := Aside0.mk (below_step (zb HB.out) hb); clear BK216; clear HB; have BK216 := n0_; have HB := n1_; clear n0_ n1_; (try clear hb); (try clear hb2); (try clear hk); (try clear hi)))
  go_ret
  exact ⟨_, ze, by first | exact Kd.R_nil _ _ _ _ _ | exact Kd.N_nil _ _ _ _ _ | exact Kd.V_nil _ _ _ _ _ | exact Kd.Q_nil _ _ _ _ _ | exact Kd.S_nil _ _ _ _ _, zb HB.out⟩

/-! ### laws_big: function 28 -/
def laws_big.f (l0 : List Int) : Option (Bool) := some (decide ((l0.length : Int) > 1048576))
set_option maxHeartbeats 8000000 in
set_option maxRecDepth 100000 in
theorem laws_big.calls (A0 : Option Addr) (c0 : Nat) (l0 : List Int) (r : Bool) (w : World) (hr0 : Kd.C (Kd.int .u8) w A0 l0.length l0) (hc0 : l0.length ≤ c0) (h : laws_big.f l0 = some r) :
  Calls Try.prog 28 #[.slice A0 l0.length c0] w fun e w' => e = .returned (.bool r) ∧ Drawn0 w w' := by
 have HR0 := Aside0.mk hr0
 have HC0 := Aside0.mk hc0
 clear hr0 hc0
 have H : (some (decide ((l0.length : Int) > 1048576))) = some r := h
 clear h
 obtain rfl := Option.some.inj H
 go_enter Try.func28, Try.ntmps28
 go_wp2
 go_ret
 exact ⟨by first | rfl | (simp; done) | (simp [*]; done), by repeat (first | exact Drawn0.refl _ | apply Drawn0.step)⟩

end Go.Proofs.Ytgohebghlgamiaa.P
end

section
-- Written by this session's program (wip/tools/gprint.py over the kit's print) out of the translation; Lean checks it.
namespace Go.Proofs.Ytgohebghlgamiaa.P
open Go.RowKit Go.Proofs.YtgohebghlgamiaaW.PrintWords Go.Proofs.YtgohebghlgamiaaW.PrintLast Go.Proofs.YtgohebghlgamiaaW.PrintMore
attribute [local go_sem] max2_int min2_int max_two min_two max_three min_three max_four min_four   -- for this text's walks alone
set_option linter.unusedVariables false
set_option linter.unusedSimpArgs false
set_option maxRecDepth 100000

def IsS98 (w0 W : World) (g : Nat) (f0 : List Int) (f1 : Int) (f2 : Int) : Prop := ∃ A0 c0, W.heap[g]? = some (.cells #[.slice A0 f0.length c0, .int .i64 f1, .int .i64 f2] 98 (0, 0)) ∧ w0.heap.size ≤ g ∧ Kd.C (Kd.int .u8) w0 A0 f0.length f0
theorem IsS98.grown {w0 W : World} {g : Nat} {f0 : List Int} {f1 : Int} {f2 : Int} {W1 : World} {row : Option Nat} (h : IsS98 w0 W g f0 f1 f2) (hw : W.grownBy W1 row) (hne : some g ≠ row) : IsS98 w0 W1 g f0 f1 f2 := by
 obtain ⟨A0, c0, hb, hg, hr0⟩ := h
 exact ⟨A0, c0, blk_grown hb hw hne, hg, hr0⟩
theorem IsS98.kept {w0 W : World} {g : Nat} {f0 : List Int} {f1 : Int} {f2 : Int} {W1 : World} {S : Nat → Prop} (h : IsS98 w0 W g f0 f1 f2) (hk : Kept W W1 S) (hne : ¬ S g) : IsS98 w0 W1 g f0 f1 f2 := by
 obtain ⟨A0, c0, hb, hg, hr0⟩ := h
 exact ⟨A0, c0, blk_kept hb hk hne, hg, hr0⟩
theorem IsS98.below {w0 W : World} {g : Nat} {f0 : List Int} {f1 : Int} {f2 : Int} {W1 : World} (h : IsS98 w0 W g f0 f1 f2) (hw : Below W.heap.size W W1) : IsS98 w0 W1 g f0 f1 f2 := h.grown (grown_of_below hw none) (by simp)
theorem IsS98.alloc {w0 W : World} {g : Nat} {f0 : List Int} {f1 : Int} {f2 : Int} (h : IsS98 w0 W g f0 f1 f2) (o : Obj) : IsS98 w0 (W.alloc o) g f0 f1 f2 := h.below (below_alloc (Below.refl _ _) o)
theorem IsS98.drewN {w0 W : World} {g : Nat} {f0 : List Int} {f1 : Int} {f2 : Int} (h : IsS98 w0 W g f0 f1 f2) (m : Nat) : IsS98 w0 (W.drewN m) g f0 f1 f2 := h
theorem IsS98.drew {w0 W : World} {g : Nat} {f0 : List Int} {f1 : Int} {f2 : Int} (h : IsS98 w0 W g f0 f1 f2) : IsS98 w0 W.drew g f0 f1 f2 := h
theorem IsS98.at_ {w0 W : World} {g : Nat} {f0 : List Int} {f1 : Int} {f2 : Int} {w' : World} {m : Nat} (hq : W.drewN m = w') (h : IsS98 w0 W g f0 f1 f2) : IsS98 w0 w' g f0 f1 f2 := by subst hq; exact IsS98.drewN h m
theorem IsS98.apart {w0 W : World} {g : Nat} {f0 : List Int} {f1 : Int} {f2 : Int} {α : Type} {d : Kd α} {e : Nat} {base : Nat} {ok : Nat → Prop} {v : Value} {xs : List α} (h : IsS98 w0 W g f0 f1 f2) (ho : d.R e W base ok v xs) (ht : ∀ q, q ∈ e :: d.E → q ≠ 98) : d.R e W base (fun k => ok k ∧ k ≠ g) v xs := by
 obtain ⟨A0, c0, hb, hg, hr0⟩ := h
 exact Kd.R_types ho hb ht
theorem IsS98.own_ne {w0 W : World} {g : Nat} {f0 : List Int} {f1 : Int} {f2 : Int} {α : Type} {d : Kd α} {e : Nat} {base : Nat} {ok : Nat → Prop} {v : Value} {xs : List α} (h : IsS98 w0 W g f0 f1 f2) (ho : d.R e W base ok v xs) (ht : e ≠ 98) : some g ≠ v.ownBlock := by
 obtain ⟨A0, c0, hb, hg, hr0⟩ := h
 exact Kd.R_ne ho hb ht
theorem IsS98.lt {w0 W : World} {g : Nat} {f0 : List Int} {f1 : Int} {f2 : Int} (h : IsS98 w0 W g f0 f1 f2) : g < W.heap.size := by
 obtain ⟨A0, c0, hb, hg, hr0⟩ := h
 exact blk_lt hb
theorem IsS98.ge {w0 W : World} {g : Nat} {f0 : List Int} {f1 : Int} {f2 : Int} (h : IsS98 w0 W g f0 f1 f2) : w0.heap.size ≤ g := by
 obtain ⟨A0, c0, hb, hg, hr0⟩ := h
 exact hg
theorem IsS98.ne_blk {w0 W : World} {g : Nat} {f0 : List Int} {f1 : Int} {f2 : Int} {a : Nat} {cs : Array Value} {t : TypeId} {fr : Nat × Nat} (h : IsS98 w0 W g f0 f1 f2) (hb2 : W.heap[a]? = some (.cells cs t fr)) (ht : t ≠ 98) : g ≠ a := by
 obtain ⟨A0, c0, hb, hg, hr0⟩ := h
 rintro rfl
 rw [hb] at hb2
 injection hb2 with hb2
 injection hb2 with _ ht2
 exact ht ht2.symm
theorem IsS98.far {w0 W : World} {g : Nat} {f0 : List Int} {f1 : Int} {f2 : Int} {p : Addr} (h : IsS98 w0 W g f0 f1 f2) (hne : g ≠ p.block) (u : Value) : IsS98 w0 (W.setCell p u) g f0 f1 f2 := by
 obtain ⟨A0, c0, hb, hg, hr0⟩ := h
 exact ⟨A0, c0, blk_far hb hne u, hg, hr0⟩
theorem cellS98_0 {W : World} {g : Nat} {A0 : Option Addr} {c0 : Nat} {f0 : List Int} {f1 : Int} {f2 : Int} (h : W.heap[g]? = some (.cells #[.slice A0 f0.length c0, .int .i64 f1, .int .i64 f2] 98 (0, 0))) : W.cell? ⟨g, 0, none⟩ = some (.slice A0 f0.length c0) := (blk_cell h 0).trans rfl
theorem cellS98_1 {W : World} {g : Nat} {A0 : Option Addr} {c0 : Nat} {f0 : List Int} {f1 : Int} {f2 : Int} (h : W.heap[g]? = some (.cells #[.slice A0 f0.length c0, .int .i64 f1, .int .i64 f2] 98 (0, 0))) : W.cell? ⟨g, 1, none⟩ = some (.int .i64 f1) := (blk_cell h 1).trans rfl
theorem IsS98.set_1 {w0 W : World} {g : Nat} {f0 : List Int} {f1 : Int} {f2 : Int} (h : IsS98 w0 W g f0 f1 f2) (x : Int) : IsS98 w0 (W.setCell ⟨g, 1, none⟩ (.int .i64 x)) g f0 x f2 := by
 obtain ⟨A0, c0, hb, hg, hr0⟩ := h
 exact ⟨A0, c0, by simpa using blk_set hb 1 (.int .i64 x), hg, hr0⟩
theorem cellS98_2 {W : World} {g : Nat} {A0 : Option Addr} {c0 : Nat} {f0 : List Int} {f1 : Int} {f2 : Int} (h : W.heap[g]? = some (.cells #[.slice A0 f0.length c0, .int .i64 f1, .int .i64 f2] 98 (0, 0))) : W.cell? ⟨g, 2, none⟩ = some (.int .i64 f2) := (blk_cell h 2).trans rfl
theorem IsS98.set_2 {w0 W : World} {g : Nat} {f0 : List Int} {f1 : Int} {f2 : Int} (h : IsS98 w0 W g f0 f1 f2) (x : Int) : IsS98 w0 (W.setCell ⟨g, 2, none⟩ (.int .i64 x)) g f0 f1 x := by
 obtain ⟨A0, c0, hb, hg, hr0⟩ := h
 exact ⟨A0, c0, by simpa using blk_set hb 2 (.int .i64 x), hg, hr0⟩
theorem IsS98.new (w0 W : World) (A0 : Option Addr) (c0 : Nat) (f0 : List Int) (f1 : Int) (f2 : Int) (hB : Below w0.heap.size w0 W) (hr0 : Kd.C (Kd.int .u8) w0 A0 f0.length f0) : IsS98 w0 (W.alloc (.cells #[.slice A0 f0.length c0, .int .i64 f1, .int .i64 f2] 98)) W.heap.size f0 f1 f2 := ⟨A0, c0, by simpa using heap_alloc_new W _, hB.size, hr0⟩

/-! ### spec_l1New: function 73 -/
def spec_l1New.l0 : Nat → List Int → Int → Int → Option (List Int × Int × Int)
 | 0, _, _, _ => none
 | k + 1, x0, x3, x4 => if x4 < (x0.length : Int) then (if x4 < 4000 then (if 0 ≤ x4 then (spec_l1New.l0 k x0 (Go.bits .and .i64 (wrap64 ((wrap64 ((wrap64 (x3 * 131)) + (wrap64 (rd x0 x4)))) + 7)) 1073741823) (wrap64 (x4 + 1))) else (none)) else (some (x0, 0, x3))) else (some (x0, 0, x3))
def spec_l1New.f (k : Nat) (l0 : List Int) : Option (List Int × Int × Int) := spec_l1New.l0 k l0 (wrap64 (12241 + (l0.length : Int))) 0
theorem spec_l1New.mono_l : ∀ k, (∀ y0 y1 y2, LeO (spec_l1New.l0 k y0 y1 y2) (spec_l1New.l0 (k + 1) y0 y1 y2))
 | 0 => fun _ _ _ r h => by simp [spec_l1New.l0] at h
 | k + 1 => by
  have ih0 := spec_l1New.mono_l k
  ·intro y0 y1 y2
   unfold spec_l1New.l0
   repeat' first
   | (with_reducible exact ih0 _ _ _)
   | (with_reducible exact LeO.refl _)
   | (with_reducible exact LeO.none _)
   | (with_reducible refine LeO.ite ?_ ?_)
   | (with_reducible refine LeO.bind ?_ (fun _ => ?_))
   | exact ih0 _ _ _
   | exact LeO.none _
   | refine LeO.ite ?_ ?_
   | refine LeO.bind ?_ (fun _ => ?_)
theorem spec_l1New.mono : ∀ a0 k, LeO (spec_l1New.f k a0) (spec_l1New.f (k + 1) a0) := by
 intro a0 k
 have ih0 := spec_l1New.mono_l k
 unfold spec_l1New.f
 repeat' first
   | (with_reducible exact ih0 _ _ _)
   | (with_reducible exact LeO.refl _)
   | (with_reducible exact LeO.none _)
   | (with_reducible refine LeO.ite ?_ ?_)
   | (with_reducible refine LeO.bind ?_ (fun _ => ?_))
   | exact ih0 _ _ _
   | exact LeO.none _
   | refine LeO.ite ?_ ?_
   | refine LeO.bind ?_ (fun _ => ?_)
set_option maxHeartbeats 8000000 in
set_option maxRecDepth 100000 in
theorem spec_l1New.calls (k : Nat) (A0 : Option Addr) (c0 : Nat) (l0 : List Int) (r1 : List Int) (r2 : Int) (r3 : Int) (w0 w : World) (hB : Below w0.heap.size w0 w) (hr0 : Kd.C (Kd.int .u8) w0 A0 l0.length l0) (hc0 : l0.length ≤ c0) (h : spec_l1New.f k l0 = some (r1, r2, r3)) :
  Calls Try.prog 73 #[.slice A0 l0.length c0] w fun e w' => ∃ g_ : Nat, e = .returned (.pointer (some ⟨g_, 0, none⟩)) ∧ IsS98 w0 w' g_ r1 r2 r3 ∧ Below w0.heap.size w0 w' ∧ Below w.heap.size w w' := by
 have hu98 := Try.underlying98
 have HR0 := Aside0.mk hr0
 have HC0 := Aside0.mk hc0
 clear hr0 hc0
 have HBW := Aside0.mk (Below.refl w.heap.size w)
 have HW0 := Aside0.mk hB.size
 have HB := Aside0.mk hB
 clear hB
 have H : (spec_l1New.l0 k l0 (wrap64 (12241 + (l0.length : Int))) 0) = some (r1, r2, r3) := h
 clear h
 have H' := Aside0.mk H
 clear H
 go_enter Try.func73, Try.ntmps73
 go_wp2
 go_loopg [3, 4] k (fun kq v3 v4 w' => ∃ (x3_1 : Int) (x4_1 : Int), v3 = .int .i64 x3_1 ∧ v4 = .int .i64 x4_1 ∧ Aside0 (spec_l1New.l0 kq l0 x3_1 x4_1 = some (r1, r2, r3)) ∧ Aside0 (kq ≤ k) ∧ Aside0 (Below w0.heap.size w0 w') ∧ Aside0 (Below w.heap.size w w'))
 case atStart => exact ⟨(wrap64 (12241 + (l0.length : Int))), (0), (by first | rfl | (simp; done) | (simp [*]; done)), (by first | rfl | (simp; done) | (simp [*]; done)), H', ⟨Nat.le_refl _⟩, ⟨zb HB.out⟩, ⟨zb HBW.out⟩⟩
 case round =>
  clear H'
  obtain ⟨x3_1, x4_1, rfl, rfl, HA, HK1, HB, HBW⟩ := hrel
  cases gk with
  | zero => exact absurd HA.out (by simp [spec_l1New.l0])
  | succ k1 =>
   have H := HA.out
   clear HA
   simp only [spec_l1New.l0] at H
   by_cases c2 : x4_1 < (l0.length : Int)
   ·rw [if_pos c2] at H
    have c2b0 : decide (x4_1 < (l0.length : Int)) = true := decide_eq_true c2
    clear c2
    by_cases c3 : x4_1 < 4000
    ·rw [if_pos c3] at H
     have c3b0 : decide (x4_1 < 4000) = true := decide_eq_true c3
     clear c3
     by_cases c4 : 0 ≤ x4_1
     ·rw [if_pos c4] at H
      have c4b0 : decide (0 ≤ x4_1) = true := decide_eq_true c4
      clear c4
      have H' := Aside0.mk H
      clear H
      have p221 : 0 ≤ (x4_1 : Int) := of_decide_eq_true (by first | (with_reducible assumption) | assumption)
      have q221 : x4_1 < (l0.length : Int) := of_decide_eq_true (by first | (with_reducible assumption) | assumption)
      obtain ⟨ad221, e221, hx221_0⟩ := Kd.at_int HR0.out x4_1 p221 q221
      cases e221
      replace hx221_0 := pw_cell_below HB.out hx221_0
      replace p221 := eq_true p221
      replace q221 := eq_true q221
      go_wp2
      go_roundg k1
      case measure => have := HK1.out; omega
      case rel => exact ⟨(Go.bits .and .i64 (wrap64 ((wrap64 ((wrap64 (x3_1 * 131)) + (wrap64 (rd l0 x4_1)))) + 7)) 1073741823), (wrap64 (x4_1 + 1)), (by first | rfl | (simp; done) | (simp [*]; done)), (by first | rfl | (simp; done) | (simp [*]; done)), H', ⟨by have := HK1.out; omega⟩, ⟨zb HB.out⟩, ⟨zb HBW.out⟩⟩
     ·rw [if_neg c4] at H
      exact absurd H (by simp)
    ·rw [if_neg c3] at H
     have c3b0 : decide (x4_1 < 4000) = false := decide_eq_false c3
     clear c3
     simp only [Option.some.injEq, Prod.mk.injEq] at H
     obtain ⟨rfl, rfl, rfl⟩ := H
     go_wp2_with (first | ((with_reducible refine gate_dst (N := 31) rfl ?_); refine box_event ?hg (N := 31) ?hd (cs := #[.slice A0 l0.length c0, .int .i64 0, .int .i64 x3_1]) (t := 98) ?hr ?_; (case hd => rfl); (case hg => rfl); (case hr => first | (go_simp; done) | (go_simp; rfl)); intro gb222 hg w5 hbox hb; have n0_ := Aside0.mk (below_step HBW.out hb); have n1_ := Aside0.mk (below_step (zb HB.out) hb); have n2_ := Aside0.mk (hbox); have n3_ := Aside0.mk ((by rw [hg]; exact (below_size (zb HBW.out)) : w.heap.size ≤ gb222)); have n4_ := Aside0.mk ((Nat.le_trans HW0.out (by rw [hg]; exact (below_size (zb HBW.out)) : w.heap.size ≤ gb222) : w0.heap.size ≤ gb222)); clear HBW; clear HB; have HBW := n0_; have HB := n1_; have BK222 := n2_; have GW222 := n3_; have GE222 := n4_; clear n0_ n1_ n2_ n3_ n4_; clear hb hbox hg))
     go_ret
     exact ⟨_, rfl, (show IsS98 w0 _ gb222 l0 0 x3_1 from ⟨_, _, zh BK222.out, GE222.out, HR0.out⟩), zb HB.out, zb HBW.out⟩
   ·rw [if_neg c2] at H
    have c2b0 : decide (x4_1 < (l0.length : Int)) = false := decide_eq_false c2
    clear c2
    simp only [Option.some.injEq, Prod.mk.injEq] at H
    obtain ⟨rfl, rfl, rfl⟩ := H
    go_wp2_with (first | ((with_reducible refine gate_dst (N := 31) rfl ?_); refine box_event ?hg (N := 31) ?hd (cs := #[.slice A0 l0.length c0, .int .i64 0, .int .i64 x3_1]) (t := 98) ?hr ?_; (case hd => rfl); (case hg => rfl); (case hr => first | (go_simp; done) | (go_simp; rfl)); intro gb223 hg w6 hbox hb; have n0_ := Aside0.mk (below_step HBW.out hb); have n1_ := Aside0.mk (below_step (zb HB.out) hb); have n2_ := Aside0.mk (hbox); have n3_ := Aside0.mk ((by rw [hg]; exact (below_size (zb HBW.out)) : w.heap.size ≤ gb223)); have n4_ := Aside0.mk ((Nat.le_trans HW0.out (by rw [hg]; exact (below_size (zb HBW.out)) : w.heap.size ≤ gb223) : w0.heap.size ≤ gb223)); clear HBW; clear HB; have HBW := n0_; have HB := n1_; have BK223 := n2_; have GW223 := n3_; have GE223 := n4_; clear n0_ n1_ n2_ n3_ n4_; clear hb hbox hg))
    go_ret
    exact ⟨_, rfl, (show IsS98 w0 _ gb223 l0 0 x3_1 from ⟨_, _, zh BK223.out, GE223.out, HR0.out⟩), zb HB.out, zb HBW.out⟩

/-! ### spec_l1Copy: function 87 -/
def spec_l1Copy.f (l0_0 : List (S51)) : Option ((List (S51))) := (some (([] : List (S51)) : List (S51))).bind fun y226 => (if y226.length + l0_0.length < 5864062014805 then (some (y226 ++ l0_0)) else (none))
set_option maxHeartbeats 8000000 in
set_option maxRecDepth 100000 in
theorem spec_l1Copy.calls (A0_0 : Option Addr) (c0_0 : Nat) (l0_0 : List (S51)) (r : List (S51)) (w : World) (hr0_0 : Kd.C k51 w A0_0 l0_0.length l0_0) (hc0_0 : l0_0.length ≤ c0_0) (h : spec_l1Copy.f l0_0 = some r) :
  Calls Try.prog 87 #[.agg #[.slice A0_0 l0_0.length c0_0]] w fun e w' => ∃ v0_ : Value, e = .returned (.agg #[v0_]) ∧ Kd.R k51 51 w' w.heap.size (fun _ => True) v0_ r ∧ Below w.heap.size w w' := by
 have hu30 := Try.underlying30
 have HR0_0 := Aside0.mk hr0_0
 have HC0_0 := Aside0.mk hc0_0
 clear hr0_0 hc0_0
 have HB := Aside0.mk (Below.refl w.heap.size w)
 have H : ((some (([] : List (S51)) : List (S51))).bind fun y226 => (if y226.length + l0_0.length < 5864062014805 then (some (y226 ++ l0_0)) else (none))) = some r := h
 clear h
 obtain ⟨y226, hy226⟩ : ∃ y_ : List (S51), y_ = (([] : List (S51))) := ⟨_, rfl⟩
 replace H : (if y226.length + l0_0.length < 5864062014805 then (some (y226 ++ l0_0)) else (none)) = some r := by first | (rw [hy226]; with_reducible exact H) | (have H2_ := (Option.bind_some _ _).symm.trans H; rw [hy226]; with_reducible exact H2_) | (have H2_ := (Option.bind_some _ _).symm.trans H; with_reducible exact H2_) | with_reducible exact H | (rw [hy226]; exact H) | exact H
 have Ny226 := Aside0.mk hy226
 clear hy226
 by_cases c2 : y226.length + l0_0.length < 5864062014805
 ·rw [if_pos c2] at H
  have LMc2 := Aside0.mk c2
  clear c2
  obtain ⟨y229, hy229⟩ : ∃ y_ : List (S51), y_ = (y226 ++ l0_0) := ⟨_, rfl⟩
  replace H : (some y229) = some r := by first | (rw [hy229]; with_reducible exact H) | (have H2_ := (Option.bind_some _ _).symm.trans H; rw [hy229]; with_reducible exact H2_) | (have H2_ := (Option.bind_some _ _).symm.trans H; with_reducible exact H2_) | with_reducible exact H | (rw [hy229]; exact H) | exact H
  have Ny229 := Aside0.mk hy229
  clear hy229
  obtain rfl := Option.some.inj H
  go_enter Try.func87, Try.ntmps87
  go_wp2_with (first | ((with_reducible refine gate_dst (N := 1) rfl ?_); refine box_event ?hg (N := 1) ?hd (cs := #[.slice A0_0 l0_0.length c0_0]) (t := 30) ?hr ?_; (case hd => rfl); (case hg => rfl); (case hr => first | (go_simp; done) | (go_simp; rfl)); intro gb224 hg w3 hbox hb; have n0_ := Aside0.mk (below_step (zb HB.out) hb); have n1_ := Aside0.mk (hbox); have n2_ := Aside0.mk ((by rw [hg]; exact (below_size (zb HB.out)) : w.heap.size ≤ gb224)); have n3_ := Aside0.mk ((by rw [hg]; exact (below_size (zb HB.out)) : w.heap.size ≤ gb224)); clear HB; have HB := n0_; have BK224 := n1_; have GW224 := n2_; have GE224 := n3_; clear n0_ n1_ n2_ n3_; clear hb hbox hg) | ((with_reducible refine gate_dst (N := 2) rfl ?_); refine box_event ?hg (N := 2) ?hd (cs := #[.slice none 0 0]) (t := 30) ?hr ?_; (case hd => rfl); (case hg => rfl); (case hr => first | (go_simp; done) | (go_simp; rfl)); intro gb225 hg w4 hbox hb; have n0_ := Aside0.mk (blk_below (zh BK224.out) hb); have n1_ := Aside0.mk (below_step (zb HB.out) hb); have n2_ := Aside0.mk (hbox); have n3_ := Aside0.mk ((by rw [hg]; exact (below_size (zb HB.out)) : w.heap.size ≤ gb225)); have n4_ := Aside0.mk ((by rw [hg]; exact (below_size (zb HB.out)) : w.heap.size ≤ gb225)); have n5_ := Aside0.mk ((by rw [hg]; exact Nat.ne_of_lt (blk_lt (zh BK224.out)) : gb224 ≠ gb225)); have n6_ := Aside0.mk ((by rw [hg]; exact Nat.ne_of_gt (blk_lt (zh BK224.out)) : gb225 ≠ gb224)); clear BK224; clear HB; have BK224 := n0_; have HB := n1_; have BK225 := n2_; have GW225 := n3_; have GE225 := n4_; have NB224_225 := n5_; have NB225_224 := n6_; clear n0_ n1_ n2_ n3_ n4_ n5_ n6_; clear hb hbox hg) | ((with_reducible refine gate_dst (N := 3) rfl ?_); refine Kd.R_lit k51 _ 51 ?hg (N := 3) ?hd (xs := ([] : List (S51))) (inner := []) (ok := fun _ => True) (okp := fun _ => True) ?hr ?hp (fun _ hk => hk) trivial (Below.refl _ _) (Nat.le_refl _) (by simp) ?_; (case hd => rfl); (case hg => rfl); (case hr => first | (go_simp; done) | (go_simp; rfl)); (case hp => exact (Reps.none _ _)); intro v227 w5 ho6 hb hg_ hnew_; clear hg_ hnew_; (first | rw [← Ny226.out] at ho6 | (simp only [Int.reduceToNat] at ho6; rw [← Ny226.out] at ho6)); have n0_ := Aside0.mk (Kd.R_lower ho6 (below_size (zb HB.out))); have n1_ := Aside0.mk (blk_below (zh BK224.out) hb); have n2_ := Aside0.mk (blk_below (zh BK225.out) hb); have n3_ := Aside0.mk (below_step (zb HB.out) hb); clear BK224; clear BK225; clear HB; have HO228 := n0_; have BK224 := n1_; have BK225 := n2_; have HB := n3_; clear n0_ n1_ n2_ n3_; clear hb ho6; have hnb7 := NB224_225.out; have hnc7 := NB225_224.out; have hcz8_0 : w5.cell? ⟨gb224, 0, none⟩ = some (.slice A0_0 l0_0.length c0_0) := (blk_cell BK224.out 0).trans rfl; have hfz8_0 := blk_frozen BK224.out 0) | ((with_reducible refine gate_builtin (b := .append) (xs := #[.tmp 3, .tmp 5]) rfl ?_); at_builtin; refine Kd.R_append_rows k51 (w0 := w) w.heap.size rfl (.tmp 3) (.tmp 5) 28 51 (.agg #[(.int .i64 0), (.int .i64 0), (.int .i64 0)]) 24 rfl Try.underlying28 info51 rfl (by decide) (by omega) v227 y226 l0_0 _ _ _ (fun _ => True) (fun _ => False) rfl rfl ?aO ?aR (fun _ _ h => h) (fun _ h => h.elim) ?aF ?aB ?aS ?aL ?_; (case aR => exact zc (Kd.C_below HR0_0.out HB.out)); (case aB => exact (zb HB.out)); (case aF => exact (fun _ _ => trivial)); (case aO => exact (zr HO228.out)); (case aS => exact (below_size (zb HB.out))); (case aL => have := LMc2.out; omega); intro v230 w9 ho hb hg hat; rw [← Ny229.out] at ho; have n0_ := Aside0.mk (blk_grown (zh BK224.out) hg (Kd.R_ne HO228.out BK224.out (by decide))); have n1_ := Aside0.mk (blk_grown (zh BK225.out) hg (Kd.R_ne HO228.out BK225.out (by decide))); have n2_ := Aside0.mk (hb); have n3_ := Aside0.mk (ho); clear BK224; clear BK225; clear HB; clear HO228; have BK224 := n0_; have BK225 := n1_; have HB := n2_; have HO231 := n3_; clear n0_ n1_ n2_ n3_; clear ho hb hg hat; obtain ⟨Ao10, co10, eo10⟩ := Kd.R_slice HO231.out; subst eo10; have hcz11_0 : w9.cell? ⟨gb225, 0, none⟩ = some (.slice none 0 0) := (blk_cell BK225.out 0).trans rfl; have hfz11_0 := blk_frozen BK225.out 0))
  refine bodyPost_ret (results_cell_row rfl _ _ gb225 30 #[.slice Ao10 y229.length co10] (0, 0) _ rfl (by (with_reducible repeat (first | refine blk_drewN ?_ _ | refine blk_drew ?_ | refine blk_alloc ?_ _)); refine blk_put (cs := #[.slice none 0 0]) ?_ 0 _ rfl; (with_reducible repeat (first | refine blk_drewN ?_ _ | refine blk_drew ?_ | refine blk_alloc ?_ _)); exact BK225.out) Try.underlying30 rfl (by kernel_rfl)) rfl ?_
  exact ⟨_, ze, zr (Kd.R_mono (Kd.R_far (p := ⟨gb225, 0, none⟩) (Kd.R_types HO231.out BK225.out (by decide)) (fun _ hk => hk.2) (.slice Ao10 y229.length co10)) (fun _ hk => trivial)), zb HB.out⟩
 ·rw [if_neg c2] at H
  exact absurd H (by simp)

/-! ### spec_l1Add: function 86 -/
mutual
def spec_l1Add.j0 : Nat → Bool → List (S51) → Int → Int → Int → Option ((List (S51)) × Int)
 | 0, _, _, _, _, _ => none
 | k + 1, x17, x233000, x234000, x234001, x234002 => if x17 = true then (spec_l1Add.j1 k x233000 x234000 x234002 x234001) else (spec_l1Add.j1 k x233000 x234000 x234001 x234002)
def spec_l1Add.j1 : Nat → List (S51) → Int → Int → Int → Option ((List (S51)) × Int)
 | 0, _, _, _, _ => none
 | k + 1, x233000, x234000, x234001, x234002 => (spec_l1Find.f k x233000 x234000 x234001 x234002).bind fun t235 => (if t235 ≥ 0 then (some (x233000, t235)) else ((spec_l1Right.f k x234000 x234001 x234002 (x233000.length : Int)).bind fun t236 => (if t236 = true then (if (x233000.length : Int) = 500 then (some (x233000, (-1))) else ((spec_l1Copy.f x233000).bind fun t237 => (if t237.length < 5864062014805 then (some ((t237 ++ [(⟨x234000, x234001, x234002⟩ : S51)]), (x233000.length : Int))) else (none)))) else (some (x233000, (-1))))))
end
def spec_l1Add.f (k : Nat) (l0_0 : List (S51)) (a1_0 : Int) (a1_1 : Int) (a1_2 : Int) : Option ((List (S51)) × Int) := if a1_0 = 8 then (spec_l1Add.j0 k (decide (a1_1 > a1_2)) l0_0 a1_0 a1_1 a1_2) else (spec_l1Add.j0 k false l0_0 a1_0 a1_1 a1_2)
theorem spec_l1Add.mono_l : ∀ k, (∀ y0 y1 y2 y3 y4, LeO (spec_l1Add.j0 k y0 y1 y2 y3 y4) (spec_l1Add.j0 (k + 1) y0 y1 y2 y3 y4)) ∧ (∀ y0 y1 y2 y3, LeO (spec_l1Add.j1 k y0 y1 y2 y3) (spec_l1Add.j1 (k + 1) y0 y1 y2 y3))
 | 0 => ⟨fun _ _ _ _ _ r h => by simp [spec_l1Add.j0] at h, fun _ _ _ _ r h => by simp [spec_l1Add.j1] at h⟩
 | k + 1 => by
  obtain ⟨ih0, ih1⟩ := spec_l1Add.mono_l k
  refine ⟨?_, ?_⟩
  ·intro y0 y1 y2 y3 y4
   unfold spec_l1Add.j0
   repeat' first
   | (with_reducible exact ih0 _ _ _ _ _)
   | (with_reducible exact ih1 _ _ _ _)
   | (with_reducible exact spec_l1Find.mono _ _ _ _ _)
   | (with_reducible exact spec_l1Right.mono _ _ _ _ _)
   | (with_reducible exact LeO.refl _)
   | (with_reducible exact LeO.none _)
   | (with_reducible refine LeO.ite ?_ ?_)
   | (with_reducible refine LeO.bind ?_ (fun _ => ?_))
   | exact ih0 _ _ _ _ _
   | exact ih1 _ _ _ _
   | exact spec_l1Find.mono _ _ _ _ _
   | exact spec_l1Right.mono _ _ _ _ _
   | exact LeO.none _
   | refine LeO.ite ?_ ?_
   | refine LeO.bind ?_ (fun _ => ?_)
  ·intro y0 y1 y2 y3
   unfold spec_l1Add.j1
   repeat' first
   | (with_reducible exact ih0 _ _ _ _ _)
   | (with_reducible exact ih1 _ _ _ _)
   | (with_reducible exact spec_l1Find.mono _ _ _ _ _)
   | (with_reducible exact spec_l1Right.mono _ _ _ _ _)
   | (with_reducible exact LeO.refl _)
   | (with_reducible exact LeO.none _)
   | (with_reducible refine LeO.ite ?_ ?_)
   | (with_reducible refine LeO.bind ?_ (fun _ => ?_))
   | exact ih0 _ _ _ _ _
   | exact ih1 _ _ _ _
   | exact spec_l1Find.mono _ _ _ _ _
   | exact spec_l1Right.mono _ _ _ _ _
   | exact LeO.none _
   | refine LeO.ite ?_ ?_
   | refine LeO.bind ?_ (fun _ => ?_)
theorem spec_l1Add.mono : ∀ a0 a1 a2 a3 k, LeO (spec_l1Add.f k a0 a1 a2 a3) (spec_l1Add.f (k + 1) a0 a1 a2 a3) := by
 intro a0 a1 a2 a3 k
 obtain ⟨ih0, ih1⟩ := spec_l1Add.mono_l k
 unfold spec_l1Add.f
 repeat' first
   | (with_reducible exact ih0 _ _ _ _ _)
   | (with_reducible exact ih1 _ _ _ _)
   | (with_reducible exact spec_l1Find.mono _ _ _ _ _)
   | (with_reducible exact spec_l1Right.mono _ _ _ _ _)
   | (with_reducible exact LeO.refl _)
   | (with_reducible exact LeO.none _)
   | (with_reducible refine LeO.ite ?_ ?_)
   | (with_reducible refine LeO.bind ?_ (fun _ => ?_))
   | exact ih0 _ _ _ _ _
   | exact ih1 _ _ _ _
   | exact spec_l1Find.mono _ _ _ _ _
   | exact spec_l1Right.mono _ _ _ _ _
   | exact LeO.none _
   | refine LeO.ite ?_ ?_
   | refine LeO.bind ?_ (fun _ => ?_)
set_option maxHeartbeats 8000000 in
set_option maxRecDepth 100000 in
theorem spec_l1Add.calls (k : Nat) (P0_0_ : Nat → Prop) (u9000_ : Value) (l0_0 : List (S51)) (a1_0 : Int) (a1_1 : Int) (a1_2 : Int) (r1 : List (S51)) (r2 : Int) (w0 w : World) (hB : Below w0.heap.size w0 w) (ho0_0 : Kd.R k51 51 w w0.heap.size P0_0_ u9000_ l0_0) (h : spec_l1Add.f k l0_0 a1_0 a1_1 a1_2 = some (r1, r2)) :
  Calls Try.prog 86 #[.agg #[u9000_], .agg #[.int .i64 a1_0, .int .i64 a1_1, .int .i64 a1_2]] w fun e w' => ∃ v0_ : Value, e = .returned (.tuple #[.agg #[v0_], .int .i64 r2]) ∧ Kd.R k51 51 w' w0.heap.size (fun k_ => (P0_0_ k_ ∨ w.heap.size ≤ k_)) v0_ r1 ∧ Below w0.heap.size w0 w' ∧ Kept w w' (fun k_ => P0_0_ k_) := by
 have hu30 := Try.underlying30
 have hu51 := Try.underlying51
 have HO0_0 := Aside0.mk (show Kd.R k51 51 w w0.heap.size (fun k_ => (P0_0_ k_ ∨ w.heap.size ≤ k_)) u9000_ l0_0 from Kd.R_mono ho0_0 (fun k_ hk => (.inl hk)))
 have HK := Aside0.mk (Kept.refl w (fun k_ => P0_0_ k_))
 have HW0 := Aside0.mk hB.size
 have HB := Aside0.mk hB
 clear hB
 have H : (if a1_0 = 8 then (spec_l1Add.j0 k (decide (a1_1 > a1_2)) l0_0 a1_0 a1_1 a1_2) else (spec_l1Add.j0 k false l0_0 a1_0 a1_1 a1_2)) = some (r1, r2) := h
 clear h
 have HC3 := Aside0.mk H
 clear H
 obtain ⟨Ao4, co4, eo4⟩ := Kd.R_slice HO0_0.out
 subst eo4
 go_enter Try.func86, Try.ntmps86
 go_upto_region 1 with (first | ((with_reducible refine gate_dst (N := 2) rfl ?_); (try (refine gate_guard (by rfl) ?_; dsimp only)); refine box_event ?hg (N := 2) ?hd (cs := #[.slice Ao4 l0_0.length co4]) (t := 30) ?hr ?_; (case hd => rfl); (case hg => rfl); (case hr => first | (go_simp; done) | (go_simp; rfl)); intro gb232 hg w5 hbox hb; have n0_ := Aside0.mk (Kd.R_below (zr HO0_0.out) hb); have n1_ := Aside0.mk (Kept.below (S := (fun k_ => P0_0_ k_)) (zk HK.out) hb); have n2_ := Aside0.mk (below_step (zb HB.out) hb); have n3_ := Aside0.mk (hbox); have n4_ := Aside0.mk ((by rw [hg]; exact (by first | exact HK.out.1 | exact (show Kept w _ (fun k_ => P0_0_ k_) from zk HK.out).1) : w.heap.size ≤ gb232)); have n5_ := Aside0.mk ((by rw [hg]; exact (below_size (zb HB.out)) : w0.heap.size ≤ gb232)); clear HO0_0; clear HK; clear HB; have HO0_0 := n0_; have HK := n1_; have HB := n2_; have BK232 := n3_; have GW232 := n4_; have GE232 := n5_; clear n0_ n1_ n2_ n3_ n4_ n5_; clear hb hbox hg) | ((with_reducible refine gate_dst (N := 3) rfl ?_); (try (refine gate_guard (by rfl) ?_; dsimp only)); refine box_event ?hg (N := 3) ?hd (cs := #[.int .i64 a1_0, .int .i64 a1_1, .int .i64 a1_2]) (t := 51) ?hr ?_; (case hd => rfl); (case hg => rfl); (case hr => first | (go_simp; done) | (go_simp; rfl)); intro gb233 hg w6 hbox hb; have n0_ := Aside0.mk (Kd.R_below (Kd.R_elderB (zr HO0_0.out) gb233 (Nat.le_of_eq hg.symm)) hb); have n1_ := Aside0.mk (blk_below (zh BK232.out) hb); have n2_ := Aside0.mk (Kept.below (S := (fun k_ => P0_0_ k_)) (zk HK.out) hb); have n3_ := Aside0.mk (below_step (zb HB.out) hb); have n4_ := Aside0.mk (hbox); have n5_ := Aside0.mk ((by rw [hg]; exact (by first | exact HK.out.1 | exact (show Kept w _ (fun k_ => P0_0_ k_) from zk HK.out).1) : w.heap.size ≤ gb233)); have n6_ := Aside0.mk ((by rw [hg]; exact (below_size (zb HB.out)) : w0.heap.size ≤ gb233)); have n7_ := Aside0.mk ((by rw [hg]; exact Nat.ne_of_lt (blk_lt (zh BK232.out)) : gb232 ≠ gb233)); have n8_ := Aside0.mk ((by rw [hg]; exact Nat.ne_of_gt (blk_lt (zh BK232.out)) : gb233 ≠ gb232)); clear HO0_0; clear BK232; clear HK; clear HB; have HO0_0 := n0_; have BK232 := n1_; have HK := n2_; have HB := n3_; have BK233 := n4_; have GW233 := n5_; have GE233 := n6_; have NB232_233 := n7_; have NB233_232 := n8_; clear n0_ n1_ n2_ n3_ n4_ n5_ n6_ n7_ n8_; clear hb hbox hg) | ((with_reducible refine gate_dst (N := 4) rfl ?_); (try (refine gate_guard (by rfl) ?_; dsimp only)); refine box_event ?hg (N := 4) ?hd (cs := #[.slice none 0 0]) (t := 30) ?hr ?_; (case hd => rfl); (case hg => rfl); (case hr => first | (go_simp; done) | (go_simp; rfl)); intro gb234 hg w7 hbox hb; have n0_ := Aside0.mk (Kd.R_below (zr HO0_0.out) hb); have n1_ := Aside0.mk (blk_below (zh BK232.out) hb); have n2_ := Aside0.mk (blk_below (zh BK233.out) hb); have n3_ := Aside0.mk (Kept.below (S := (fun k_ => P0_0_ k_)) (zk HK.out) hb); have n4_ := Aside0.mk (below_step (zb HB.out) hb); have n5_ := Aside0.mk (hbox); have n6_ := Aside0.mk ((by rw [hg]; exact (by first | exact HK.out.1 | exact (show Kept w _ (fun k_ => P0_0_ k_) from zk HK.out).1) : w.heap.size ≤ gb234)); have n7_ := Aside0.mk ((by rw [hg]; exact (below_size (zb HB.out)) : w0.heap.size ≤ gb234)); have n8_ := Aside0.mk ((by rw [hg]; exact Nat.ne_of_lt (blk_lt (zh BK232.out)) : gb232 ≠ gb234)); have n9_ := Aside0.mk ((by rw [hg]; exact Nat.ne_of_gt (blk_lt (zh BK232.out)) : gb234 ≠ gb232)); have n10_ := Aside0.mk ((by rw [hg]; exact Nat.ne_of_lt (blk_lt (zh BK233.out)) : gb233 ≠ gb234)); have n11_ := Aside0.mk ((by rw [hg]; exact Nat.ne_of_gt (blk_lt (zh BK233.out)) : gb234 ≠ gb233)); clear HO0_0; clear BK232; clear BK233; clear HK; clear HB; have HO0_0 := n0_; have BK232 := n1_; have BK233 := n2_; have HK := n3_; have HB := n4_; have BK234 := n5_; have GW234 := n6_; have GE234 := n7_; have NB232_234 := n8_; have NB234_232 := n9_; have NB233_234 := n10_; have NB234_233 := n11_; clear n0_ n1_ n2_ n3_ n4_ n5_ n6_ n7_ n8_ n9_ n10_ n11_; clear hb hbox hg))
 (try simp only [Act.put, List.setIfInBounds_toArray, List.set_cons_zero, List.set_cons_succ])
 go_cut [17] (fun v17 wc => ∃ (kq : Nat) (x17_2 : Bool), v17 = .bool x17_2 ∧ Aside0 (spec_l1Add.j0 kq x17_2 l0_0 a1_0 a1_1 a1_2 = some (r1, r2)) ∧ Aside0 (kq ≤ k) ∧ Aside0 (Kd.R k51 51 wc w0.heap.size (fun k_ => (P0_0_ k_ ∨ w.heap.size ≤ k_) ∧ k_ ≠ gb233) (.slice Ao4 l0_0.length co4) l0_0) ∧ Aside0 (wc.heap[gb232]? = some (.cells #[(.slice Ao4 l0_0.length co4)] 30 (0, 0))) ∧ Aside0 (wc.heap[gb233]? = some (.cells #[.int .i64 a1_0, .int .i64 a1_1, .int .i64 a1_2] 51 (0, 0))) ∧ Aside0 (wc.heap[gb234]? = some (.cells #[(.slice none 0 0)] 30 (0, 0))) ∧ Aside0 (Kept w wc (fun k_ => P0_0_ k_)) ∧ Aside0 (Below w0.heap.size w0 wc))
 case first =>
  have H := HC3.out
  clear HC3
  by_cases c8 : a1_0 = 8
  ·rw [if_pos c8] at H
   have c8b0 : (a1_0 == 8) = true := beq_iff_eq.mpr c8
   have c8b1 : (a1_0 != 8) = false := bne_eq_false_iff_eq.mpr c8
   clear c8
   (first | rw [c8b0] | (simp only [i64_w, i32_w]; rw [c8b0]) | skip)
   have H' := Aside0.mk H
   clear H
   have hnb9 := NB233_232.out
   have hnc9 := NB232_233.out
   have hnb10 := NB233_234.out
   have hnc10 := NB234_233.out
   have hcz11_0 : w7.cell? ⟨gb233, 0, none⟩ = some (.int .i64 a1_0) := (blk_cell BK233.out 0).trans rfl
   have hcz11_1 : w7.cell? ⟨gb233, 1, none⟩ = some (.int .i64 a1_1) := (blk_cell BK233.out 1).trans rfl
   have hcz11_2 : w7.cell? ⟨gb233, 2, none⟩ = some (.int .i64 a1_2) := (blk_cell BK233.out 2).trans rfl
   have hfz11_0 := blk_frozen BK233.out 0
   have hfz11_1 := blk_frozen BK233.out 1
   have hfz11_2 := blk_frozen BK233.out 2
   go_wp2
   go_meet
   case rel => exact ⟨_, (decide (a1_1 > a1_2)), (by first | rfl | (simp; done) | (simp [*]; done)), H', ⟨by first | omega | exact Nat.le_refl _⟩, ⟨zr HO0_0.out⟩, ⟨zh BK232.out⟩, ⟨zh BK233.out⟩, ⟨zh BK234.out⟩, ⟨zk HK.out⟩, ⟨zb HB.out⟩⟩
  ·rw [if_neg c8] at H
   have c8b0 : (a1_0 == 8) = false := beq_eq_false_iff_ne.mpr c8
   have c8b1 : (a1_0 != 8) = true := bne_iff_ne.mpr c8
   (first | rw [c8b0] | (simp only [i64_w, i32_w]; rw [c8b0]) | skip)
   have H' := Aside0.mk H
   clear H
   have hnb12 := NB233_232.out
   have hnc12 := NB232_233.out
   have hnb13 := NB233_234.out
   have hnc13 := NB234_233.out
   have hcz14_0 : w7.cell? ⟨gb233, 0, none⟩ = some (.int .i64 a1_0) := (blk_cell BK233.out 0).trans rfl
   have hcz14_1 : w7.cell? ⟨gb233, 1, none⟩ = some (.int .i64 a1_1) := (blk_cell BK233.out 1).trans rfl
   have hcz14_2 : w7.cell? ⟨gb233, 2, none⟩ = some (.int .i64 a1_2) := (blk_cell BK233.out 2).trans rfl
   have hfz14_0 := blk_frozen BK233.out 0
   have hfz14_1 := blk_frozen BK233.out 1
   have hfz14_2 := blk_frozen BK233.out 2
   go_wp2
   go_meet
   case rel => exact ⟨_, (false), (by first | rfl | (simp; done) | (simp [*]; done)), H', ⟨by first | omega | exact Nat.le_refl _⟩, ⟨zr HO0_0.out⟩, ⟨zh BK232.out⟩, ⟨zh BK233.out⟩, ⟨zh BK234.out⟩, ⟨zk HK.out⟩, ⟨zb HB.out⟩⟩
 case rest =>
  clear HC3
  try clear c1
  try clear p2
  try clear c8
  try clear c8b0
  try clear c8b1
  try clear c9
  try clear c10
  try clear c12
  try clear c13
  try clear hcz11_0
  try clear hcz11_1
  try clear hcz11_2
  try clear hcz14_0
  try clear hcz14_1
  try clear hcz14_2
  try clear hfz11_0
  try clear hfz11_1
  try clear hfz11_2
  try clear hfz14_0
  try clear hfz14_1
  try clear hfz14_2
  obtain ⟨kq, x17_2, rfl, HA, HJ2, HO_233000, BK232, BK233, BK234, HK, HB⟩ := hcut
  cases kq with
  | zero => exact absurd HA.out (by simp [spec_l1Add.j0])
  | succ kj2 =>
   have H := HA.out
   clear HA
   simp only [spec_l1Add.j0] at H
   have HC15 := Aside0.mk H
   clear H
   go_upto_if 17 with (fail)
   go_cut [] (fun wc => ∃ (kq : Nat) (x234000_14 : Int) (x234001_14 : Int) (x234002_14 : Int), Aside0 (spec_l1Add.j1 kq l0_0 x234000_14 x234001_14 x234002_14 = some (r1, r2)) ∧ Aside0 (kq ≤ kj2) ∧ Aside0 (Kd.R k51 51 wc w0.heap.size (fun k_ => (P0_0_ k_ ∨ w.heap.size ≤ k_) ∧ k_ ≠ gb233) (.slice Ao4 l0_0.length co4) l0_0) ∧ Aside0 (wc.heap[gb232]? = some (.cells #[(.slice Ao4 l0_0.length co4)] 30 (0, 0))) ∧ Aside0 (wc.heap[gb233]? = some (.cells #[.int .i64 x234000_14, .int .i64 x234001_14, .int .i64 x234002_14] 51 (0, 0))) ∧ Aside0 (wc.heap[gb234]? = some (.cells #[(.slice none 0 0)] 30 (0, 0))) ∧ Aside0 (Kept w wc (fun k_ => P0_0_ k_)) ∧ Aside0 (Below w0.heap.size w0 wc))
   case first =>
    have H := HC15.out
    clear HC15
    by_cases c16 : x17_2 = true
    ·subst c16
     have H1 : (spec_l1Add.j1 kj2 l0_0 a1_0 a1_2 a1_1) = some (r1, r2) := by rw [if_pos rfl] at H; exact H
     clear H
     have H := H1
     clear H1
     have H' := Aside0.mk H
     clear H
     have hnb17 := NB233_232.out
     have hnc17 := NB232_233.out
     have hnb18 := NB233_234.out
     have hnc18 := NB234_233.out
     have hcz19_0 : wc.cell? ⟨gb233, 0, none⟩ = some (.int .i64 a1_0) := (blk_cell BK233.out 0).trans rfl
     have hcz19_1 : wc.cell? ⟨gb233, 1, none⟩ = some (.int .i64 a1_1) := (blk_cell BK233.out 1).trans rfl
     have hcz19_2 : wc.cell? ⟨gb233, 2, none⟩ = some (.int .i64 a1_2) := (blk_cell BK233.out 2).trans rfl
     have hfz19_0 := blk_frozen BK233.out 0
     have hfz19_1 := blk_frozen BK233.out 1
     have hfz19_2 := blk_frozen BK233.out 2
     go_wp2
     go_meet
     case rel => exact ⟨_, (a1_0), (a1_2), (a1_1), H', ⟨by have := HJ2.out; first | omega | exact Nat.le_refl _⟩, ⟨zr (Kd.R_mono (Kd.R_far (p := ⟨gb233, 2, none⟩) (Kd.R_far (p := ⟨gb233, 1, none⟩) (Kd.R_far (p := ⟨gb233, 0, none⟩) (Kd.R_mono HO_233000.out (fun k_ hk => (⟨hk, hk.2⟩ : _ ∧ k_ ≠ gb233))) (fun _ hk => hk.2) (.int .i64 a1_0)) (fun _ hk => hk.2) (.int .i64 a1_2)) (fun _ hk => hk.2) (.int .i64 a1_1)) (fun _ hk => ⟨hk.1.1, hk.1.2⟩))⟩, ⟨zf BK232.out⟩, ⟨by (with_reducible repeat (first | refine blk_drewN ?_ _ | refine blk_drew ?_ | refine blk_alloc ?_ _)); refine blk_put (cs := #[.int .i64 a1_0, .int .i64 a1_2, .int .i64 a1_2]) ?_ 2 _ rfl; (with_reducible repeat (first | refine blk_drewN ?_ _ | refine blk_drew ?_ | refine blk_alloc ?_ _)); refine blk_put (cs := #[.int .i64 a1_0, .int .i64 a1_1, .int .i64 a1_2]) ?_ 1 _ rfl; (with_reducible repeat (first | refine blk_drewN ?_ _ | refine blk_drew ?_ | refine blk_alloc ?_ _)); refine blk_put (cs := #[.int .i64 a1_0, .int .i64 a1_1, .int .i64 a1_2]) ?_ 0 _ rfl; (with_reducible repeat (first | refine blk_drewN ?_ _ | refine blk_drew ?_ | refine blk_alloc ?_ _)); exact BK233.out⟩, ⟨zf BK234.out⟩, ⟨zk HK.out⟩, ⟨zb HB.out⟩⟩
    ·replace c16 := Bool.eq_false_iff.mpr c16
     subst c16
     have H1 : (spec_l1Add.j1 kj2 l0_0 a1_0 a1_1 a1_2) = some (r1, r2) := by rw [if_neg (show ¬ (false = true) by decide)] at H; exact H
     clear H
     have H := H1
     clear H1
     have H' := Aside0.mk H
     clear H
     go_wp2
     go_meet
     case rel => exact ⟨_, (a1_0), (a1_1), (a1_2), H', ⟨by have := HJ2.out; first | omega | exact Nat.le_refl _⟩, ⟨zr HO_233000.out⟩, ⟨zh BK232.out⟩, ⟨zh BK233.out⟩, ⟨zh BK234.out⟩, ⟨zk HK.out⟩, ⟨zb HB.out⟩⟩
   case rest =>
    clear HC15
    try clear c1
    try clear p2
    try clear c8
    try clear c8b0
    try clear c8b1
    try clear c9
    try clear c10
    try clear c12
    try clear c13
    try clear c16
    try clear c17
    try clear c18
    try clear hcz11_0
    try clear hcz11_1
    try clear hcz11_2
    try clear hcz14_0
    try clear hcz14_1
    try clear hcz14_2
    try clear hcz19_0
    try clear hcz19_1
    try clear hcz19_2
    try clear hfz11_0
    try clear hfz11_1
    try clear hfz11_2
    try clear hfz14_0
    try clear hfz14_1
    try clear hfz14_2
    try clear hfz19_0
    try clear hfz19_1
    try clear hfz19_2
    try clear p2
    obtain ⟨kq, x234000_14, x234001_14, x234002_14, HA, HJ14, HO_233000, BK232, BK233, BK234, HK, HB⟩ := hcut
    cases kq with
    | zero => exact absurd HA.out (by simp [spec_l1Add.j1])
    | succ kj14 =>
     have H := HA.out
     clear HA
     simp only [spec_l1Add.j1] at H
     replace H := Option.bind_eq_some_iff.mp H
     obtain ⟨t235, A200, H⟩ := H
     replace H : (if t235 ≥ 0 then (some (l0_0, t235)) else ((spec_l1Right.f kj14 x234000_14 x234001_14 x234002_14 (l0_0.length : Int)).bind fun t236 => (if t236 = true then (if (l0_0.length : Int) = 500 then (some (l0_0, (-1))) else ((spec_l1Copy.f l0_0).bind fun t237 => (if t237.length < 5864062014805 then (some ((t237 ++ [(⟨x234000_14, x234001_14, x234002_14⟩ : S51)]), (l0_0.length : Int))) else (none)))) else (some (l0_0, (-1)))))) = some (r1, r2) := H
     have A20 := Aside0.mk A200
     clear A200
     by_cases c21 : t235 ≥ 0
     ·rw [if_pos c21] at H
      have c21b0 : decide (0 ≤ t235) = true := decide_eq_true c21
      clear c21
      simp only [Option.some.injEq, Prod.mk.injEq] at H
      obtain ⟨rfl, rfl⟩ := H
      have hnb22 := NB232_233.out
      have hnc22 := NB233_232.out
      have hnb23 := NB232_234.out
      have hnc23 := NB234_232.out
      have hcz24_0 : wc.cell? ⟨gb232, 0, none⟩ = some (.slice Ao4 l0_0.length co4) := (blk_cell BK232.out 0).trans rfl
      have hfz24_0 := blk_frozen BK232.out 0
      have hnb25 := NB233_234.out
      have hnc25 := NB234_233.out
      have hcz26_0 : wc.cell? ⟨gb233, 0, none⟩ = some (.int .i64 x234000_14) := (blk_cell BK233.out 0).trans rfl
      have hcz26_1 : wc.cell? ⟨gb233, 1, none⟩ = some (.int .i64 x234001_14) := (blk_cell BK233.out 1).trans rfl
      have hcz26_2 : wc.cell? ⟨gb233, 2, none⟩ = some (.int .i64 x234002_14) := (blk_cell BK233.out 2).trans rfl
      have hfz26_0 := blk_frozen BK233.out 0
      have hfz26_1 := blk_frozen BK233.out 1
      have hfz26_2 := blk_frozen BK233.out 2
      go_wp2_with (first | ((with_reducible refine gate_callee (f := 83) rfl ?_); refine goesL_ (some 27) rfl rfl Try.func83 (by kernel_rfl) rfl #[.agg #[.slice Ao4 l0_0.length co4], .agg #[.int .i64 x234000_14, .int .i64 x234001_14, .int .i64 x234002_14]] rfl zl ?_; (with_reducible refine (spec_l1Find.calls kj14 _ _ l0_0 x234000_14 x234001_14 x234002_14 t235 _ ?side1 ?side2 A20.out).mono ?_); (case side1 => exact zc (Kd.R_reads' HO_233000.out).2.2); (case side2 => exact (Kd.R_reads' HO_233000.out).2.1); rintro e w27 ⟨rfl, hb⟩; refine ⟨_, rfl, ?_⟩; have n0_ := Aside0.mk (Kd.R_below (zr HO_233000.out) hb); have n1_ := Aside0.mk (blk_below (zh BK232.out) hb); have n2_ := Aside0.mk (blk_below (zh BK233.out) hb); have n3_ := Aside0.mk (blk_below (zh BK234.out) hb); have n4_ := Aside0.mk (Kept.below (S := (fun k_ => P0_0_ k_)) (zk HK.out) hb); have n5_ := Aside0.mk (below_step (zb HB.out) hb); clear HO_233000; clear BK232; clear BK233; clear BK234; clear HK; clear HB; have HO_233000 := n0_; have BK232 := n1_; have BK233 := n2_; have BK234 := n3_; have HK := n4_; have HB := n5_; clear n0_ n1_ n2_ n3_ n4_ n5_; (try clear hb); (try clear hb2); (try clear hk); (try clear hi); have hcz28_0 : w27.cell? ⟨gb232, 0, none⟩ = some (.slice Ao4 l0_0.length co4) := (blk_cell BK232.out 0).trans rfl; have hfz28_0 := blk_frozen BK232.out 0; have hcz29_0 : w27.cell? ⟨gb234, 0, none⟩ = some (.slice none 0 0) := (blk_cell BK234.out 0).trans rfl; have hfz29_0 := blk_frozen BK234.out 0))
      refine bodyPost_ret (results_ct rfl _ _ gb234 30 #[.slice Ao4 l0_0.length co4] (0, 0) _ rfl (by (with_reducible repeat (first | refine blk_drewN ?_ _ | refine blk_drew ?_ | refine blk_alloc ?_ _)); refine blk_put (cs := #[.slice none 0 0]) ?_ 0 _ rfl; (with_reducible repeat (first | refine blk_drewN ?_ _ | refine blk_drew ?_ | refine blk_alloc ?_ _)); exact BK234.out) Try.underlying30 rfl (by kernel_rfl)) rfl ?_
      exact ⟨_, ze, zr (Kd.R_mono (Kd.R_far (p := ⟨gb234, 0, none⟩) (Kd.R_types HO_233000.out BK234.out (by decide)) (fun _ hk => hk.2) (.slice Ao4 l0_0.length co4)) (fun _ hk => hk.1.1)), zb HB.out, zk HK.out⟩
     ·rw [if_neg c21] at H
      have c21b0 : decide (0 ≤ t235) = false := decide_eq_false c21
      clear c21
      replace H := Option.bind_eq_some_iff.mp H
      obtain ⟨t236, A300, H⟩ := H
      replace H : (if t236 = true then (if (l0_0.length : Int) = 500 then (some (l0_0, (-1))) else ((spec_l1Copy.f l0_0).bind fun t237 => (if t237.length < 5864062014805 then (some ((t237 ++ [(⟨x234000_14, x234001_14, x234002_14⟩ : S51)]), (l0_0.length : Int))) else (none)))) else (some (l0_0, (-1)))) = some (r1, r2) := H
      have A30 := Aside0.mk A300
      clear A300
      by_cases c31 : t236 = true
      ·subst c31
       have H1 : (if (l0_0.length : Int) = 500 then (some (l0_0, (-1))) else ((spec_l1Copy.f l0_0).bind fun t237 => (if t237.length < 5864062014805 then (some ((t237 ++ [(⟨x234000_14, x234001_14, x234002_14⟩ : S51)]), (l0_0.length : Int))) else (none)))) = some (r1, r2) := by rw [if_pos rfl] at H; exact H
       clear H
       have H := H1
       clear H1
       by_cases c32 : (l0_0.length : Int) = 500
       ·rw [if_pos c32] at H
        have c32b0 : ((l0_0.length : Int) == 500) = true := beq_iff_eq.mpr c32
        have c32b1 : ((l0_0.length : Int) != 500) = false := bne_eq_false_iff_eq.mpr c32
        clear c32
        simp only [Option.some.injEq, Prod.mk.injEq] at H
        obtain ⟨rfl, rfl⟩ := H
        have hnb33 := NB232_233.out
        have hnc33 := NB233_232.out
        have hnb34 := NB232_234.out
        have hnc34 := NB234_232.out
        have hcz35_0 : wc.cell? ⟨gb232, 0, none⟩ = some (.slice Ao4 l0_0.length co4) := (blk_cell BK232.out 0).trans rfl
        have hfz35_0 := blk_frozen BK232.out 0
        have hnb36 := NB233_234.out
        have hnc36 := NB234_233.out
        have hcz37_0 : wc.cell? ⟨gb233, 0, none⟩ = some (.int .i64 x234000_14) := (blk_cell BK233.out 0).trans rfl
        have hcz37_1 : wc.cell? ⟨gb233, 1, none⟩ = some (.int .i64 x234001_14) := (blk_cell BK233.out 1).trans rfl
        have hcz37_2 : wc.cell? ⟨gb233, 2, none⟩ = some (.int .i64 x234002_14) := (blk_cell BK233.out 2).trans rfl
        have hfz37_0 := blk_frozen BK233.out 0
        have hfz37_1 := blk_frozen BK233.out 1
        have hfz37_2 := blk_frozen BK233.out 2
        go_wp2_with (first | ((with_reducible refine gate_callee (f := 83) rfl ?_); refine goesL_ (some 27) rfl rfl Try.func83 (by kernel_rfl) rfl #[.agg #[.slice Ao4 l0_0.length co4], .agg #[.int .i64 x234000_14, .int .i64 x234001_14, .int .i64 x234002_14]] rfl zl ?_; (with_reducible refine (spec_l1Find.calls kj14 _ _ l0_0 x234000_14 x234001_14 x234002_14 t235 _ ?side1 ?side2 A20.out).mono ?_); (case side1 => exact zc (Kd.R_reads' HO_233000.out).2.2); (case side2 => exact (Kd.R_reads' HO_233000.out).2.1); rintro e w38 ⟨rfl, hb⟩; refine ⟨_, rfl, ?_⟩; have n0_ := Aside0.mk (Kd.R_below (zr HO_233000.out) hb); have n1_ := Aside0.mk (blk_below (zh BK232.out) hb); have n2_ := Aside0.mk (blk_below (zh BK233.out) hb); have n3_ := Aside0.mk (blk_below (zh BK234.out) hb); have n4_ := Aside0.mk (Kept.below (S := (fun k_ => P0_0_ k_)) (zk HK.out) hb); have n5_ := Aside0.mk (below_step (zb HB.out) hb); clear HO_233000; clear BK232; clear BK233; clear BK234; clear HK; clear HB; have HO_233000 := n0_; have BK232 := n1_; have BK233 := n2_; have BK234 := n3_; have HK := n4_; have HB := n5_; clear n0_ n1_ n2_ n3_ n4_ n5_; (try clear hb); (try clear hb2); (try clear hk); (try clear hi); have hcz39_0 : w38.cell? ⟨gb233, 0, none⟩ = some (.int .i64 x234000_14) := (blk_cell BK233.out 0).trans rfl; have hcz39_1 : w38.cell? ⟨gb233, 1, none⟩ = some (.int .i64 x234001_14) := (blk_cell BK233.out 1).trans rfl; have hcz39_2 : w38.cell? ⟨gb233, 2, none⟩ = some (.int .i64 x234002_14) := (blk_cell BK233.out 2).trans rfl; have hfz39_0 := blk_frozen BK233.out 0; have hfz39_1 := blk_frozen BK233.out 1; have hfz39_2 := blk_frozen BK233.out 2; have hcz40_0 : w38.cell? ⟨gb232, 0, none⟩ = some (.slice Ao4 l0_0.length co4) := (blk_cell BK232.out 0).trans rfl; have hfz40_0 := blk_frozen BK232.out 0) | ((with_reducible refine gate_callee (f := 82) rfl ?_); refine goesL_ (some 36) rfl rfl Try.func82 (by kernel_rfl) rfl #[.agg #[.int .i64 x234000_14, .int .i64 x234001_14, .int .i64 x234002_14], .int .i64 (l0_0.length : Int)] rfl zl ?_; (with_reducible refine (spec_l1Right.calls kj14 x234000_14 x234001_14 x234002_14 (l0_0.length : Int) true _ A30.out).mono ?_); rintro e w41 ⟨rfl, hb⟩; refine ⟨_, rfl, ?_⟩; have n0_ := Aside0.mk (Kd.R_below (zr HO_233000.out) hb); have n1_ := Aside0.mk (blk_below (zh BK232.out) hb); have n2_ := Aside0.mk (blk_below (zh BK233.out) hb); have n3_ := Aside0.mk (blk_below (zh BK234.out) hb); have n4_ := Aside0.mk (Kept.below (S := (fun k_ => P0_0_ k_)) (zk HK.out) hb); have n5_ := Aside0.mk (below_step (zb HB.out) hb); clear HO_233000; clear BK232; clear BK233; clear BK234; clear HK; clear HB; have HO_233000 := n0_; have BK232 := n1_; have BK233 := n2_; have BK234 := n3_; have HK := n4_; have HB := n5_; clear n0_ n1_ n2_ n3_ n4_ n5_; (try clear hb); (try clear hb2); (try clear hk); (try clear hi); have hcz42_0 : w41.cell? ⟨gb232, 0, none⟩ = some (.slice Ao4 l0_0.length co4) := (blk_cell BK232.out 0).trans rfl; have hfz42_0 := blk_frozen BK232.out 0; have hcz43_0 : w41.cell? ⟨gb234, 0, none⟩ = some (.slice none 0 0) := (blk_cell BK234.out 0).trans rfl; have hfz43_0 := blk_frozen BK234.out 0))
        refine bodyPost_ret (results_ct rfl _ _ gb234 30 #[.slice Ao4 l0_0.length co4] (0, 0) _ rfl (by (with_reducible repeat (first | refine blk_drewN ?_ _ | refine blk_drew ?_ | refine blk_alloc ?_ _)); refine blk_put (cs := #[.slice none 0 0]) ?_ 0 _ rfl; (with_reducible repeat (first | refine blk_drewN ?_ _ | refine blk_drew ?_ | refine blk_alloc ?_ _)); exact BK234.out) Try.underlying30 rfl (by kernel_rfl)) rfl ?_
        exact ⟨_, ze, zr (Kd.R_mono (Kd.R_far (p := ⟨gb234, 0, none⟩) (Kd.R_types HO_233000.out BK234.out (by decide)) (fun _ hk => hk.2) (.slice Ao4 l0_0.length co4)) (fun _ hk => hk.1.1)), zb HB.out, zk HK.out⟩
       ·rw [if_neg c32] at H
        have c32b0 : ((l0_0.length : Int) == 500) = false := beq_eq_false_iff_ne.mpr c32
        have c32b1 : ((l0_0.length : Int) != 500) = true := bne_iff_ne.mpr c32
        replace H := Option.bind_eq_some_iff.mp H
        obtain ⟨t237, A440, H⟩ := H
        replace H : (if t237.length < 5864062014805 then (some ((t237 ++ [(⟨x234000_14, x234001_14, x234002_14⟩ : S51)]), (l0_0.length : Int))) else (none)) = some (r1, r2) := H
        have A44 := Aside0.mk A440
        clear A440
        by_cases c45 : t237.length < 5864062014805
        ·rw [if_pos c45] at H
         have LMc45 := Aside0.mk c45
         clear c45
         obtain ⟨y241, hy241⟩ : ∃ y_ : List (S51), y_ = (t237 ++ [(⟨x234000_14, x234001_14, x234002_14⟩ : S51)]) := ⟨_, rfl⟩
         replace H : (some (y241, (l0_0.length : Int))) = some (r1, r2) := by first | (rw [hy241]; with_reducible exact H) | (have H2_ := (Option.bind_some _ _).symm.trans H; rw [hy241]; with_reducible exact H2_) | (have H2_ := (Option.bind_some _ _).symm.trans H; with_reducible exact H2_) | with_reducible exact H | (rw [hy241]; exact H) | exact H
         have Ny241 := Aside0.mk hy241
         clear hy241
         simp only [Option.some.injEq, Prod.mk.injEq] at H
         obtain ⟨rfl, rfl⟩ := H
         have hnb46 := NB232_233.out
         have hnc46 := NB233_232.out
         have hnb47 := NB232_234.out
         have hnc47 := NB234_232.out
         have hcz48_0 : wc.cell? ⟨gb232, 0, none⟩ = some (.slice Ao4 l0_0.length co4) := (blk_cell BK232.out 0).trans rfl
         have hfz48_0 := blk_frozen BK232.out 0
         have hnb49 := NB233_234.out
         have hnc49 := NB234_233.out
         have hcz50_0 : wc.cell? ⟨gb233, 0, none⟩ = some (.int .i64 x234000_14) := (blk_cell BK233.out 0).trans rfl
         have hcz50_1 : wc.cell? ⟨gb233, 1, none⟩ = some (.int .i64 x234001_14) := (blk_cell BK233.out 1).trans rfl
         have hcz50_2 : wc.cell? ⟨gb233, 2, none⟩ = some (.int .i64 x234002_14) := (blk_cell BK233.out 2).trans rfl
         have hfz50_0 := blk_frozen BK233.out 0
         have hfz50_1 := blk_frozen BK233.out 1
         have hfz50_2 := blk_frozen BK233.out 2
         try go_wp2_with (first | ((with_reducible refine gate_callee (f := 83) rfl ?_); refine goesL_ (some 27) rfl rfl Try.func83 (by kernel_rfl) rfl #[.agg #[.slice Ao4 l0_0.length co4], .agg #[.int .i64 x234000_14, .int .i64 x234001_14, .int .i64 x234002_14]] rfl zl ?_; (with_reducible refine (spec_l1Find.calls kj14 _ _ l0_0 x234000_14 x234001_14 x234002_14 t235 _ ?side1 ?side2 A20.out).mono ?_); (case side1 => exact zc (Kd.R_reads' HO_233000.out).2.2); (case side2 => exact (Kd.R_reads' HO_233000.out).2.1); rintro e w51 ⟨rfl, hb⟩; refine ⟨_, rfl, ?_⟩; have n0_ := Aside0.mk (Kd.R_below (zr HO_233000.out) hb); have n1_ := Aside0.mk (blk_below (zh BK232.out) hb); have n2_ := Aside0.mk (blk_below (zh BK233.out) hb); have n3_ := Aside0.mk (blk_below (zh BK234.out) hb); have n4_ := Aside0.mk (Kept.below (S := (fun k_ => P0_0_ k_)) (zk HK.out) hb); have n5_ := Aside0.mk (below_step (zb HB.out) hb); clear HO_233000; clear BK232; clear BK233; clear BK234; clear HK; clear HB; have HO_233000 := n0_; have BK232 := n1_; have BK233 := n2_; have BK234 := n3_; have HK := n4_; have HB := n5_; clear n0_ n1_ n2_ n3_ n4_ n5_; (try clear hb); (try clear hb2); (try clear hk); (try clear hi); have hcz52_0 : w51.cell? ⟨gb233, 0, none⟩ = some (.int .i64 x234000_14) := (blk_cell BK233.out 0).trans rfl; have hcz52_1 : w51.cell? ⟨gb233, 1, none⟩ = some (.int .i64 x234001_14) := (blk_cell BK233.out 1).trans rfl; have hcz52_2 : w51.cell? ⟨gb233, 2, none⟩ = some (.int .i64 x234002_14) := (blk_cell BK233.out 2).trans rfl; have hfz52_0 := blk_frozen BK233.out 0; have hfz52_1 := blk_frozen BK233.out 1; have hfz52_2 := blk_frozen BK233.out 2; have hcz53_0 : w51.cell? ⟨gb232, 0, none⟩ = some (.slice Ao4 l0_0.length co4) := (blk_cell BK232.out 0).trans rfl; have hfz53_0 := blk_frozen BK232.out 0) | ((with_reducible refine gate_callee (f := 82) rfl ?_); refine goesL_ (some 36) rfl rfl Try.func82 (by kernel_rfl) rfl #[.agg #[.int .i64 x234000_14, .int .i64 x234001_14, .int .i64 x234002_14], .int .i64 (l0_0.length : Int)] rfl zl ?_; (with_reducible refine (spec_l1Right.calls kj14 x234000_14 x234001_14 x234002_14 (l0_0.length : Int) true _ A30.out).mono ?_); rintro e w54 ⟨rfl, hb⟩; refine ⟨_, rfl, ?_⟩; have n0_ := Aside0.mk (Kd.R_below (zr HO_233000.out) hb); have n1_ := Aside0.mk (blk_below (zh BK232.out) hb); have n2_ := Aside0.mk (blk_below (zh BK233.out) hb); have n3_ := Aside0.mk (blk_below (zh BK234.out) hb); have n4_ := Aside0.mk (Kept.below (S := (fun k_ => P0_0_ k_)) (zk HK.out) hb); have n5_ := Aside0.mk (below_step (zb HB.out) hb); clear HO_233000; clear BK232; clear BK233; clear BK234; clear HK; clear HB; have HO_233000 := n0_; have BK232 := n1_; have BK233 := n2_; have BK234 := n3_; have HK := n4_; have HB := n5_; clear n0_ n1_ n2_ n3_ n4_ n5_; (try clear hb); (try clear hb2); (try clear hk); (try clear hi); have hcz55_0 : w54.cell? ⟨gb232, 0, none⟩ = some (.slice Ao4 l0_0.length co4) := (blk_cell BK232.out 0).trans rfl; have hfz55_0 := blk_frozen BK232.out 0) | ((with_reducible refine gate_callee (f := 87) rfl ?_); refine goesL_ (some 46) rfl rfl Try.func87 (by kernel_rfl) rfl #[.agg #[.slice Ao4 l0_0.length co4]] rfl zl ?_; (with_reducible refine (spec_l1Copy.calls _ _ l0_0 t237 _ ?side1 ?side2 A44.out).mono ?_); (case side1 => exact zc (Kd.R_reads' HO_233000.out).2.2); (case side2 => exact (Kd.R_reads' HO_233000.out).2.1); rintro e w56 ⟨v238, rfl, ho0, hb⟩; refine ⟨_, rfl, ?_⟩; have n0_ := Aside0.mk (Kd.R_elder' (zr HO_233000.out) (Kd.R_base ho0) hb); have n1_ := Aside0.mk (Kd.R_lower (Kd.R_newB (Kd.R_new' (Kd.R_newM (M := fun k_ => (P0_0_ k_ ∨ w.heap.size ≤ k_)) ho0 (by first | exact HK.out.1 | exact (show Kept w _ (fun k_ => P0_0_ k_) from zk HK.out).1) (fun k_ h_ => .inr h_)) (Kd.R_lt (zr HO_233000.out))) (zh BK233.out)) (below_size (zb HB.out))); have n2_ := Aside0.mk (blk_below (zh BK232.out) hb); have n3_ := Aside0.mk (blk_below (zh BK233.out) hb); have n4_ := Aside0.mk (blk_below (zh BK234.out) hb); have n5_ := Aside0.mk (Kept.below (S := (fun k_ => P0_0_ k_)) (zk HK.out) hb); have n6_ := Aside0.mk (below_step (zb HB.out) hb); clear HO_233000; clear BK232; clear BK233; clear BK234; clear HK; clear HB; have HO_233000 := n0_; have HO239 := n1_; have BK232 := n2_; have BK233 := n3_; have BK234 := n4_; have HK := n5_; have HB := n6_; clear n0_ n1_ n2_ n3_ n4_ n5_ n6_; (try clear hb); (try clear hb2); (try clear hk); (try clear hi); (try clear ho0)) | ((with_reducible refine gate_dst (N := 7) rfl ?_); (try (refine gate_guard (by rfl) ?_; dsimp only)); refine box_event ?hg (N := 7) ?hd (cs := #[.slice none 0 0]) (t := 30) ?hr ?_; (case hd => rfl); (case hg => rfl); (case hr => first | (go_simp; done) | (go_simp; rfl)); intro gb240 hg w57 hbox hb; have n0_ := Aside0.mk (Kd.R_below (zr HO_233000.out) hb); have n1_ := Aside0.mk (Kd.R_below (zr HO239.out) hb); have n2_ := Aside0.mk (blk_below (zh BK232.out) hb); have n3_ := Aside0.mk (blk_below (zh BK233.out) hb); have n4_ := Aside0.mk (blk_below (zh BK234.out) hb); have n5_ := Aside0.mk (Kept.below (S := (fun k_ => P0_0_ k_)) (zk HK.out) hb); have n6_ := Aside0.mk (below_step (zb HB.out) hb); have n7_ := Aside0.mk (hbox); have n8_ := Aside0.mk ((by rw [hg]; exact (by first | exact HK.out.1 | exact (show Kept w _ (fun k_ => P0_0_ k_) from zk HK.out).1) : w.heap.size ≤ gb240)); have n9_ := Aside0.mk ((by rw [hg]; exact (below_size (zb HB.out)) : w0.heap.size ≤ gb240)); have n10_ := Aside0.mk ((by rw [hg]; exact Nat.ne_of_lt (blk_lt (zh BK232.out)) : gb232 ≠ gb240)); have n11_ := Aside0.mk ((by rw [hg]; exact Nat.ne_of_gt (blk_lt (zh BK232.out)) : gb240 ≠ gb232)); have n12_ := Aside0.mk ((by rw [hg]; exact Nat.ne_of_lt (blk_lt (zh BK233.out)) : gb233 ≠ gb240)); have n13_ := Aside0.mk ((by rw [hg]; exact Nat.ne_of_gt (blk_lt (zh BK233.out)) : gb240 ≠ gb233)); have n14_ := Aside0.mk ((by rw [hg]; exact Nat.ne_of_lt (blk_lt (zh BK234.out)) : gb234 ≠ gb240)); have n15_ := Aside0.mk ((by rw [hg]; exact Nat.ne_of_gt (blk_lt (zh BK234.out)) : gb240 ≠ gb234)); clear HO_233000; clear HO239; clear BK232; clear BK233; clear BK234; clear HK; clear HB; have HO_233000 := n0_; have HO239 := n1_; have BK232 := n2_; have BK233 := n3_; have BK234 := n4_; have HK := n5_; have HB := n6_; have BK240 := n7_; have GW240 := n8_; have GE240 := n9_; have NB232_240 := n10_; have NB240_232 := n11_; have NB233_240 := n12_; have NB240_233 := n13_; have NB234_240 := n14_; have NB240_234 := n15_; clear n0_ n1_ n2_ n3_ n4_ n5_ n6_ n7_ n8_ n9_ n10_ n11_ n12_ n13_ n14_ n15_; clear hb hbox hg; obtain ⟨Ao58, co58, eo58⟩ := Kd.R_slice HO239.out; subst eo58; have hnb59 := NB240_232.out; have hnc59 := NB232_240.out; have hnb60 := NB240_233.out; have hnc60 := NB233_240.out; have hnb61 := NB240_234.out; have hnc61 := NB234_240.out; have hcz62_0 : w57.cell? ⟨gb240, 0, none⟩ = some (.slice none 0 0) := (blk_cell BK240.out 0).trans rfl; have hfz62_0 := blk_frozen BK240.out 0; have hcz63_0 : w57.cell? ⟨gb233, 0, none⟩ = some (.int .i64 x234000_14) := (blk_cell BK233.out 0).trans rfl; have hcz63_1 : w57.cell? ⟨gb233, 1, none⟩ = some (.int .i64 x234001_14) := (blk_cell BK233.out 1).trans rfl; have hcz63_2 : w57.cell? ⟨gb233, 2, none⟩ = some (.int .i64 x234002_14) := (blk_cell BK233.out 2).trans rfl; have hfz63_0 := blk_frozen BK233.out 0; have hfz63_1 := blk_frozen BK233.out 1; have hfz63_2 := blk_frozen BK233.out 2) | ((with_reducible refine gate_builtin (b := .append) (xs := #[.tmp 48, .tmp 50]) rfl ?_); (try (refine gate_guard (by rfl) ?_; dsimp only)); at_builtin; refine Kd.R_append k51 (w0 := w0) w0.heap.size rfl (.tmp 48) (.tmp 50) 28 51 (.agg #[(.int .i64 0), (.int .i64 0), (.int .i64 0)]) 24 rfl Try.underlying28 info51 rfl (by decide) (by omega) (.slice Ao58 t237.length co58) t237 (⟨x234000_14, x234001_14, x234002_14⟩ : S51) [.int .i64 x234000_14, .int .i64 x234001_14, .int .i64 x234002_14] (fun k_ => (P0_0_ k_ ∨ w.heap.size ≤ k_) ∧ some k_ ≠ (.slice Ao4 l0_0.length co4 : Value).ownBlock ∧ k_ ≠ gb233) (fun _ => False) rfl (by first | (go_simp; done) | (go_simp; rfl)) ?aP (fun _ hk => hk.elim) ?aF ?aO ?aB ?aS ?aL ?_; (case aP => exact k51_mkM _ _ _ (⟨x234000_14, x234001_14, x234002_14⟩ : S51)); (case aB => exact (zb HB.out)); (case aF => exact (fun k_ hk => ⟨(.inr (Nat.le_trans (show Kept w _ (fun k_ => P0_0_ k_) from zk HK.out).1 hk)), Kd.fresh' (Kd.R_lt (by (with_reducible repeat (first | apply Kd.R_alloc | apply Kd.R_drewN | apply Kd.R_drew)); exact (Kd.R_mono (Kd.R_far (p := ⟨gb240, 0, none⟩) (Kd.R_types HO_233000.out BK240.out (by decide)) (fun _ hk => hk.2) (.slice Ao58 t237.length co58)) (fun _ h_ => h_.1)))) k_ hk, Kd.freshB (g := gb233) (o := .cells #[.int .i64 x234000_14, .int .i64 x234001_14, .int .i64 x234002_14] 51 (0, 0)) (zf BK233.out) k_ hk⟩)); (case aO => exact (by (with_reducible repeat (first | apply Kd.R_alloc | apply Kd.R_drewN | apply Kd.R_drew)); exact Kd.R_mono (Kd.R_far (p := ⟨gb240, 0, none⟩) (Kd.R_types HO239.out BK240.out (by decide)) (fun _ hk => hk.2) (.slice Ao58 t237.length co58)) (fun _ hk => ⟨hk.1.1.1.1, ⟨hk.1.1.2, hk.1.2⟩⟩))); (case aS => exact (below_size (zb HB.out))); (case aL => have := LMc45.out; omega); intro v242 w64 ho hb hg hat; rw [← Ny241.out] at ho; have n0_ := Aside0.mk (Kd.R_after (ok := (fun k_ => (P0_0_ k_ ∨ w.heap.size ≤ k_) ∧ k_ ≠ gb233)) (by (with_reducible repeat (first | apply Kd.R_alloc | apply Kd.R_drewN | apply Kd.R_drew)); exact Kd.R_mono (Kd.R_far (p := ⟨gb240, 0, none⟩) (Kd.R_types HO_233000.out BK240.out (by decide)) (fun _ hk => hk.2) (.slice Ao58 t237.length co58)) (fun _ hk => ⟨⟨hk.1.1.1, hk.1.1.2⟩, hk.1.2⟩)) hg hat); have n1_ := Aside0.mk (blk_grown (g := gb232) (o := .cells #[.slice Ao4 l0_0.length co4] 30 (0, 0)) (zf BK232.out) hg (Kd.R_ne HO239.out BK232.out (by decide))); have n2_ := Aside0.mk (blk_grown (g := gb233) (o := .cells #[.int .i64 x234000_14, .int .i64 x234001_14, .int .i64 x234002_14] 51 (0, 0)) (zf BK233.out) hg (Kd.R_away HO239.out (fun _ hk => hk.2))); have n3_ := Aside0.mk (blk_grown (g := gb234) (o := .cells #[.slice none 0 0] 30 (0, 0)) (zf BK234.out) hg (Kd.R_ne HO239.out BK234.out (by decide))); have n4_ := Aside0.mk (blk_grown (g := gb240) (o := .cells #[.slice Ao58 t237.length co58] 30 (0, 0)) (by (with_reducible repeat (first | refine blk_drewN ?_ _ | refine blk_drew ?_ | refine blk_alloc ?_ _)); refine blk_put (cs := #[.slice none 0 0]) ?_ 0 _ rfl; (with_reducible repeat (first | refine blk_drewN ?_ _ | refine blk_drew ?_ | refine blk_alloc ?_ _)); exact BK240.out) hg (Kd.R_ne HO239.out BK240.out (by decide))); have n5_ := Aside0.mk (hb); have n6_ := Aside0.mk (Kept.of_grown (S := (fun k_ => P0_0_ k_)) hg (zk HK.out) (fun k_ e_ => (HO239.out.1 k_ e_).1.1.1)); have n7_ := Aside0.mk (ho); clear HO_233000; clear BK232; clear BK233; clear BK234; clear BK240; clear HB; clear HK; clear HO239; have HO_233000 := n0_; have BK232 := n1_; have BK233 := n2_; have BK234 := n3_; have BK240 := n4_; have HB := n5_; have HK := n6_; have HO243 := n7_; clear n0_ n1_ n2_ n3_ n4_ n5_ n6_ n7_; clear ho hb hg hat; obtain ⟨Ao65, co65, eo65⟩ := Kd.R_slice HO243.out; subst eo65; have hcz66_0 : w64.cell? ⟨gb240, 0, none⟩ = some (.slice Ao58 t237.length co58) := (blk_cell BK240.out 0).trans rfl; have hfz66_0 := blk_frozen BK240.out 0))
         have n0_ : Aside0 (Kd.R k51 51 (w64.setCell ⟨gb240, 0, none⟩ (.slice Ao65 y241.length co65)) w0.heap.size (fun k_ => (P0_0_ k_ ∨ w.heap.size ≤ k_) ∧ some k_ ≠ (.slice Ao65 y241.length co65 : Value).ownBlock ∧ k_ ≠ gb233) (.slice Ao4 l0_0.length co4) l0_0) := ⟨zr (Kd.R_mono (Kd.R_far (p := ⟨gb240, 0, none⟩) (Kd.R_types HO_233000.out BK240.out (by decide)) (fun _ hk => hk.2) (.slice Ao65 y241.length co65)) (fun _ hk => ⟨hk.1.1.1, ⟨hk.1.2, hk.1.1.2⟩⟩))⟩
         have n1_ : Aside0 (Kd.R k51 51 (w64.setCell ⟨gb240, 0, none⟩ (.slice Ao65 y241.length co65)) w0.heap.size (fun k_ => (P0_0_ k_ ∨ w.heap.size ≤ k_) ∧ some k_ ≠ (.slice Ao4 l0_0.length co4 : Value).ownBlock ∧ k_ ≠ gb233) (.slice Ao65 y241.length co65) y241) := ⟨zr (Kd.R_mono (Kd.R_far (p := ⟨gb240, 0, none⟩) (Kd.R_types HO243.out BK240.out (by decide)) (fun _ hk => hk.2) (.slice Ao65 y241.length co65)) (fun _ hk => ⟨hk.1.1, ⟨hk.1.2.1, hk.1.2.2⟩⟩))⟩
         have n2_ : Aside0 ((w64.setCell ⟨gb240, 0, none⟩ (.slice Ao65 y241.length co65)).heap[gb232]? = some (.cells #[.slice Ao4 l0_0.length co4] 30 (0, 0))) := ⟨zf BK232.out⟩
         have n3_ : Aside0 ((w64.setCell ⟨gb240, 0, none⟩ (.slice Ao65 y241.length co65)).heap[gb233]? = some (.cells #[.int .i64 x234000_14, .int .i64 x234001_14, .int .i64 x234002_14] 51 (0, 0))) := ⟨zf BK233.out⟩
         have n4_ : Aside0 ((w64.setCell ⟨gb240, 0, none⟩ (.slice Ao65 y241.length co65)).heap[gb234]? = some (.cells #[.slice none 0 0] 30 (0, 0))) := ⟨zf BK234.out⟩
         have n5_ : Aside0 ((w64.setCell ⟨gb240, 0, none⟩ (.slice Ao65 y241.length co65)).heap[gb240]? = some (.cells #[.slice Ao65 y241.length co65] 30 (0, 0))) := ⟨by (with_reducible repeat (first | refine blk_drewN ?_ _ | refine blk_drew ?_ | refine blk_alloc ?_ _)); refine blk_put (cs := #[.slice Ao58 t237.length co58]) ?_ 0 _ rfl; (with_reducible repeat (first | refine blk_drewN ?_ _ | refine blk_drew ?_ | refine blk_alloc ?_ _)); exact BK240.out⟩
         have n6_ : Aside0 (Kept w (w64.setCell ⟨gb240, 0, none⟩ (.slice Ao65 y241.length co65)) (fun k_ => P0_0_ k_)) := ⟨zk HK.out⟩
         have n7_ : Aside0 (Below w0.heap.size w0 (w64.setCell ⟨gb240, 0, none⟩ (.slice Ao65 y241.length co65))) := ⟨zb HB.out⟩
         (try clear HO_233000)
         (try clear HO243)
         (try clear BK232)
         (try clear BK233)
         (try clear BK234)
         (try clear BK240)
         (try clear HK)
         (try clear HB)
         generalize (w64.setCell ⟨gb240, 0, none⟩ (.slice Ao65 y241.length co65)) = w67 at n0_ n1_ n2_ n3_ n4_ n5_ n6_ n7_ ⊢
         have HO_233000 := n0_
         have HO243 := n1_
         have BK232 := n2_
         have BK233 := n3_
         have BK234 := n4_
         have BK240 := n5_
         have HK := n6_
         have HB := n7_
         clear n0_ n1_ n2_ n3_ n4_ n5_ n6_ n7_
         have n0_ := Aside0.mk (Kd.R_drew HO_233000.out)
         have n1_ := Aside0.mk (Kd.R_drew HO243.out)
         have n2_ := Aside0.mk (blk_drew BK232.out)
         have n3_ := Aside0.mk (blk_drew BK233.out)
         have n4_ := Aside0.mk (blk_drew BK234.out)
         have n5_ := Aside0.mk (blk_drew BK240.out)
         have n6_ := Aside0.mk (Kept.drew HK.out)
         have n7_ := Aside0.mk (below_drew1 HB.out)
         clear HO_233000
         clear HO243
         clear BK232
         clear BK233
         clear BK234
         clear BK240
         clear HK
         clear HB
         have HO_233000 := n0_
         have HO243 := n1_
         have BK232 := n2_
         have BK233 := n3_
         have BK234 := n4_
         have BK240 := n5_
         have HK := n6_
         have HB := n7_
         clear n0_ n1_ n2_ n3_ n4_ n5_ n6_ n7_
         refine start_ (n := 6) (S := fun w' => w'.cell? ⟨gb240, 0, none⟩ = some (.slice Ao65 y241.length co65) ∧ w'.cell? ⟨gb232, 0, none⟩ = some (.slice Ao4 l0_0.length co4)) (ds := []) #[false, false, false, false, false, false] (by kernel_rfl) rfl rfl ⟨(blk_cell BK240.out 0).trans rfl, (blk_cell BK232.out 0).trans rfl⟩ (fun hHeld => ?_)
         generalize w67.drew = w68 at HO_233000 HO243 BK232 BK233 BK234 BK240 HK HB hHeld ⊢
         refine pure_ (i := 1) (N := some 54) (v := ?_) (a' := ?_) #[false, true, false, false, false, false] rfl rfl (by kernel_rfl) (fun _ _ _ h => h) (Or.inl ⟨by rfl, ?_⟩) ?_ ?_
         rotate_left
         ·intro w'
          go_simp
          with_reducible rfl
         rotate_left
         ·simp only [Act.put, List.setIfInBounds_toArray, List.set_cons_zero, List.set_cons_succ, i64_w, i32_w]
          rfl
         refine take_ (i := 0) (N := some 53) (v := ?_) (a' := ?_) #[true, true, false, false, false, false] rfl rfl (by kernel_rfl) (fun _ _ _ h => h) (Or.inl ⟨by rfl, ?_⟩) hHeld ?_ ?_
         rotate_left
         ·rintro w' ⟨s0, s1⟩
          go_simp
          with_reducible rfl
         rotate_left
         ·simp only [Act.put, List.setIfInBounds_toArray, List.set_cons_zero, List.set_cons_succ, i64_w, i32_w]
          rfl
         refine take_ (i := 2) (N := some 55) (v := ?_) (a' := ?_) #[true, true, true, false, false, false] rfl rfl (by kernel_rfl) (fun _ _ _ h => h) (Or.inl ⟨by rfl, ?_⟩) hHeld ?_ ?_
         rotate_left
         ·rintro w' ⟨s0, s1⟩
          go_simp
          with_reducible rfl
         rotate_left
         ·simp only [Act.put, List.setIfInBounds_toArray, List.set_cons_zero, List.set_cons_succ, i64_w, i32_w]
          rfl
         refine pure_ (i := 3) (N := some 56) (v := ?_) (a' := ?_) #[true, true, true, true, false, false] rfl rfl (by kernel_rfl) (fun _ _ _ h => h) (Or.inl ⟨by rfl, ?_⟩) ?_ ?_
         rotate_left
         ·intro w'
          go_simp
          with_reducible rfl
         rotate_left
         ·simp only [Act.put, List.setIfInBounds_toArray, List.set_cons_zero, List.set_cons_succ, i64_w, i32_w]
          rfl
         refine one_ (i := 4) (N := none) #[true, true, true, true, true, false] rfl rfl (by kernel_rfl) (by decide) (fun K hK => ?_)
         have hs69 : w68.cell? ⟨gb234, 0, none⟩ = some (.slice none 0 0) := (blk_cell BK234.out 0).trans rfl
         have hfs69 := blk_frozen BK234.out 0
         have hns69_0 := NB232_234.out
         have hns69_1 := NB233_234.out
         have hns69_3 := NB240_234.out
         have hms69_0 := NB234_232.out
         have hms69_1 := NB234_233.out
         have hms69_3 := NB234_240.out
         refine skip_ (w1 := ?_) (by rfl) rfl ?_ ?_
         rotate_left
         ·go_simp
          rfl
         refine hK.out _ _ ⟨((cell_far (p := ⟨gb234, _, none⟩) NB240_234.out _).trans (hHeld.1)), ((cell_far (p := ⟨gb234, _, none⟩) NB232_234.out _).trans (hHeld.2))⟩ (fun hHeld => ?_)
         clear hK K
         refine pure_ (i := 5) (N := some 5) (v := ?_) (a' := ?_) #[true, true, true, true, true, true] rfl rfl (by kernel_rfl) (fun _ _ _ h => h) (Or.inl ⟨by rfl, ?_⟩) ?_ ?_
         rotate_left
         ·intro w'
          go_simp
          with_reducible rfl
         rotate_left
         ·simp only [Act.put, List.setIfInBounds_toArray, List.set_cons_zero, List.set_cons_succ, i64_w, i32_w]
          rfl
         refine done_ (by kernel_rfl) ?_
         try go_wp2
         refine bodyPost_ret (results_ct rfl _ _ gb234 30 #[.slice Ao65 y241.length co65] (0, 0) _ rfl (by (with_reducible repeat (first | refine blk_drewN ?_ _ | refine blk_drew ?_ | refine blk_alloc ?_ _)); refine blk_put (cs := #[.slice none 0 0]) ?_ 0 _ rfl; (with_reducible repeat (first | refine blk_drewN ?_ _ | refine blk_drew ?_ | refine blk_alloc ?_ _)); exact BK234.out) Try.underlying30 rfl (by kernel_rfl)) rfl ?_
         exact ⟨_, ze, zr (Kd.R_mono (Kd.R_far (p := ⟨gb234, 0, none⟩) (Kd.R_types HO243.out BK234.out (by decide)) (fun _ hk => hk.2) (.slice Ao65 y241.length co65)) (fun _ hk => hk.1.1)), zb HB.out, zk HK.out⟩
        ·rw [if_neg c45] at H
         exact absurd H (by simp)
      ·replace c31 := Bool.eq_false_iff.mpr c31
       subst c31
       have H1 : (some (l0_0, (-1))) = some (r1, r2) := by rw [if_neg (show ¬ (false = true) by decide)] at H; exact H
       clear H
       have H := H1
       clear H1
       simp only [Option.some.injEq, Prod.mk.injEq] at H
       obtain ⟨rfl, rfl⟩ := H
       have hnb70 := NB232_233.out
       have hnc70 := NB233_232.out
       have hnb71 := NB232_234.out
       have hnc71 := NB234_232.out
       have hcz72_0 : wc.cell? ⟨gb232, 0, none⟩ = some (.slice Ao4 l0_0.length co4) := (blk_cell BK232.out 0).trans rfl
       have hfz72_0 := blk_frozen BK232.out 0
       have hnb73 := NB233_234.out
       have hnc73 := NB234_233.out
       have hcz74_0 : wc.cell? ⟨gb233, 0, none⟩ = some (.int .i64 x234000_14) := (blk_cell BK233.out 0).trans rfl
       have hcz74_1 : wc.cell? ⟨gb233, 1, none⟩ = some (.int .i64 x234001_14) := (blk_cell BK233.out 1).trans rfl
       have hcz74_2 : wc.cell? ⟨gb233, 2, none⟩ = some (.int .i64 x234002_14) := (blk_cell BK233.out 2).trans rfl
       have hfz74_0 := blk_frozen BK233.out 0
       have hfz74_1 := blk_frozen BK233.out 1
       have hfz74_2 := blk_frozen BK233.out 2
       go_wp2_with (first | ((with_reducible refine gate_callee (f := 83) rfl ?_); refine goesL_ (some 27) rfl rfl Try.func83 (by kernel_rfl) rfl #[.agg #[.slice Ao4 l0_0.length co4], .agg #[.int .i64 x234000_14, .int .i64 x234001_14, .int .i64 x234002_14]] rfl zl ?_; (with_reducible refine (spec_l1Find.calls kj14 _ _ l0_0 x234000_14 x234001_14 x234002_14 t235 _ ?side1 ?side2 A20.out).mono ?_); (case side1 => exact zc (Kd.R_reads' HO_233000.out).2.2); (case side2 => exact (Kd.R_reads' HO_233000.out).2.1); rintro e w75 ⟨rfl, hb⟩; refine ⟨_, rfl, ?_⟩; have n0_ := Aside0.mk (Kd.R_below (zr HO_233000.out) hb); have n1_ := Aside0.mk (blk_below (zh BK232.out) hb); have n2_ := Aside0.mk (blk_below (zh BK233.out) hb); have n3_ := Aside0.mk (blk_below (zh BK234.out) hb); have n4_ := Aside0.mk (Kept.below (S := (fun k_ => P0_0_ k_)) (zk HK.out) hb); have n5_ := Aside0.mk (below_step (zb HB.out) hb); clear HO_233000; clear BK232; clear BK233; clear BK234; clear HK; clear HB; have HO_233000 := n0_; have BK232 := n1_; have BK233 := n2_; have BK234 := n3_; have HK := n4_; have HB := n5_; clear n0_ n1_ n2_ n3_ n4_ n5_; (try clear hb); (try clear hb2); (try clear hk); (try clear hi); have hcz76_0 : w75.cell? ⟨gb233, 0, none⟩ = some (.int .i64 x234000_14) := (blk_cell BK233.out 0).trans rfl; have hcz76_1 : w75.cell? ⟨gb233, 1, none⟩ = some (.int .i64 x234001_14) := (blk_cell BK233.out 1).trans rfl; have hcz76_2 : w75.cell? ⟨gb233, 2, none⟩ = some (.int .i64 x234002_14) := (blk_cell BK233.out 2).trans rfl; have hfz76_0 := blk_frozen BK233.out 0; have hfz76_1 := blk_frozen BK233.out 1; have hfz76_2 := blk_frozen BK233.out 2; have hcz77_0 : w75.cell? ⟨gb232, 0, none⟩ = some (.slice Ao4 l0_0.length co4) := (blk_cell BK232.out 0).trans rfl; have hfz77_0 := blk_frozen BK232.out 0) | ((with_reducible refine gate_callee (f := 82) rfl ?_); refine goesL_ (some 36) rfl rfl Try.func82 (by kernel_rfl) rfl #[.agg #[.int .i64 x234000_14, .int .i64 x234001_14, .int .i64 x234002_14], .int .i64 (l0_0.length : Int)] rfl zl ?_; (with_reducible refine (spec_l1Right.calls kj14 x234000_14 x234001_14 x234002_14 (l0_0.length : Int) false _ A30.out).mono ?_); rintro e w78 ⟨rfl, hb⟩; refine ⟨_, rfl, ?_⟩; have n0_ := Aside0.mk (Kd.R_below (zr HO_233000.out) hb); have n1_ := Aside0.mk (blk_below (zh BK232.out) hb); have n2_ := Aside0.mk (blk_below (zh BK233.out) hb); have n3_ := Aside0.mk (blk_below (zh BK234.out) hb); have n4_ := Aside0.mk (Kept.below (S := (fun k_ => P0_0_ k_)) (zk HK.out) hb); have n5_ := Aside0.mk (below_step (zb HB.out) hb); clear HO_233000; clear BK232; clear BK233; clear BK234; clear HK; clear HB; have HO_233000 := n0_; have BK232 := n1_; have BK233 := n2_; have BK234 := n3_; have HK := n4_; have HB := n5_; clear n0_ n1_ n2_ n3_ n4_ n5_; (try clear hb); (try clear hb2); (try clear hk); (try clear hi); have hcz79_0 : w78.cell? ⟨gb232, 0, none⟩ = some (.slice Ao4 l0_0.length co4) := (blk_cell BK232.out 0).trans rfl; have hfz79_0 := blk_frozen BK232.out 0; have hcz80_0 : w78.cell? ⟨gb234, 0, none⟩ = some (.slice none 0 0) := (blk_cell BK234.out 0).trans rfl; have hfz80_0 := blk_frozen BK234.out 0))
       refine bodyPost_ret (results_ct rfl _ _ gb234 30 #[.slice Ao4 l0_0.length co4] (0, 0) _ rfl (by (with_reducible repeat (first | refine blk_drewN ?_ _ | refine blk_drew ?_ | refine blk_alloc ?_ _)); refine blk_put (cs := #[.slice none 0 0]) ?_ 0 _ rfl; (with_reducible repeat (first | refine blk_drewN ?_ _ | refine blk_drew ?_ | refine blk_alloc ?_ _)); exact BK234.out) Try.underlying30 rfl (by kernel_rfl)) rfl ?_
       exact ⟨_, ze, zr (Kd.R_mono (Kd.R_far (p := ⟨gb234, 0, none⟩) (Kd.R_types HO_233000.out BK234.out (by decide)) (fun _ hk => hk.2) (.slice Ao4 l0_0.length co4)) (fun _ hk => hk.1.1)), zb HB.out, zk HK.out⟩

end Go.Proofs.Ytgohebghlgamiaa.P
end
