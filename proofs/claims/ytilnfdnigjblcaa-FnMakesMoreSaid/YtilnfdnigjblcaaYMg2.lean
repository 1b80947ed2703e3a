import Derived.Test.YtilnfdnigjblcaaYM0
import Derived.Test.YtilnfdnigjblcaaYMg0
import Derived.Test.YtilnfdnigjblcaaYMg1
section
-- Written by this session's program (wip/tools/gprint.py over the kit's print) out of the translation; Lean checks it.
namespace Go.Proofs.Ytilnfdnigjblcaa.M
open Go.RowKit Go.Proofs.YtilnfdnigjblcaaW.PrintWords Go.Proofs.YtilnfdnigjblcaaW.PrintLast Go.Proofs.YtilnfdnigjblcaaW.PrintMore
attribute [local go_sem] max2_int min2_int max_two min_two max_three min_three max_four min_four   -- for this text's walks alone
set_option linter.unusedVariables false
set_option linter.unusedSimpArgs false
set_option maxRecDepth 100000

/-! ### impl_Makes: function 29 -/
def impl_Makes.f (k : Nat) (l0_0 : List (S67)) (l1 : List Int) (a2 : Int) : Option (Bool) := (impl_Pool_isTerm.f l0_0 a2).bind fun t184 => (if t184 = true then ((impl_KnowOk.f k l0_0 l1).bind fun t185 => (if t185 = true then ((impl_Pool_makes.f k l0_0 l1).bind fun t186 => (if 0 ≤ a2 then (if a2 < (t186.length : Int) then (some (rdOf false t186 a2)) else (none)) else (none))) else (some false))) else (some false))
theorem impl_Makes.mono : ∀ a0 a1 a2 k, LeO (impl_Makes.f k a0 a1 a2) (impl_Makes.f (k + 1) a0 a1 a2) := by
 intro a0 a1 a2 k
 unfold impl_Makes.f
 repeat' first
   | (with_reducible exact impl_KnowOk.mono _ _ _)
   | (with_reducible exact impl_Pool_makes.mono _ _ _)
   | (with_reducible exact LeO.refl _)
   | (with_reducible exact LeO.none _)
   | (with_reducible refine LeO.ite ?_ ?_)
   | (with_reducible refine LeO.bind ?_ (fun _ => ?_))
   | exact impl_KnowOk.mono _ _ _
   | exact impl_Pool_makes.mono _ _ _
   | exact LeO.none _
   | refine LeO.ite ?_ ?_
   | refine LeO.bind ?_ (fun _ => ?_)
set_option maxHeartbeats 8000000 in
set_option maxRecDepth 100000 in
theorem impl_Makes.calls (k : Nat) (A0_0 : Option Addr) (c0_0 : Nat) (l0_0 : List (S67)) (A1 : Option Addr) (c1 : Nat) (l1 : List Int) (a2 : Int) (r : Bool) (w : World) (hr0_0 : Kd.C k67 w A0_0 l0_0.length l0_0) (hc0_0 : l0_0.length ≤ c0_0) (hr1 : Kd.C (Kd.int .i64) w A1 l1.length l1) (hc1 : l1.length ≤ c1) (h : impl_Makes.f k l0_0 l1 a2 = some r) :
  Calls Try.prog 29 #[.agg #[.slice A0_0 l0_0.length c0_0], .slice A1 l1.length c1, .int .i64 a2] w fun e w' => e = .returned (.bool r) ∧ Below w.heap.size w w' := by
 have hu31 := Try.underlying31
 have HR0_0 := Aside0.mk hr0_0
 have HC0_0 := Aside0.mk hc0_0
 clear hr0_0 hc0_0
 have HR1 := Aside0.mk hr1
 have HC1 := Aside0.mk hc1
 clear hr1 hc1
 have HB := Aside0.mk (Below.refl w.heap.size w)
 have H : ((impl_Pool_isTerm.f l0_0 a2).bind fun t184 => (if t184 = true then ((impl_KnowOk.f k l0_0 l1).bind fun t185 => (if t185 = true then ((impl_Pool_makes.f k l0_0 l1).bind fun t186 => (if 0 ≤ a2 then (if a2 < (t186.length : Int) then (some (rdOf false t186 a2)) else (none)) else (none))) else (some false))) else (some false))) = some r := h
 clear h
 replace H := Option.bind_eq_some_iff.mp H
 obtain ⟨t184, A40, H⟩ := H
 replace H : (if t184 = true then ((impl_KnowOk.f k l0_0 l1).bind fun t185 => (if t185 = true then ((impl_Pool_makes.f k l0_0 l1).bind fun t186 => (if 0 ≤ a2 then (if a2 < (t186.length : Int) then (some (rdOf false t186 a2)) else (none)) else (none))) else (some false))) else (some false)) = some r := H
 have A4 := Aside0.mk A40
 clear A40
 by_cases c5 : t184 = true
 ·subst c5
  have H1 : ((impl_KnowOk.f k l0_0 l1).bind fun t185 => (if t185 = true then ((impl_Pool_makes.f k l0_0 l1).bind fun t186 => (if 0 ≤ a2 then (if a2 < (t186.length : Int) then (some (rdOf false t186 a2)) else (none)) else (none))) else (some false))) = some r := by rw [if_pos rfl] at H; exact H
  clear H
  have H := H1
  clear H1
  replace H := Option.bind_eq_some_iff.mp H
  obtain ⟨t185, A60, H⟩ := H
  replace H : (if t185 = true then ((impl_Pool_makes.f k l0_0 l1).bind fun t186 => (if 0 ≤ a2 then (if a2 < (t186.length : Int) then (some (rdOf false t186 a2)) else (none)) else (none))) else (some false)) = some r := H
  have A6 := Aside0.mk A60
  clear A60
  by_cases c7 : t185 = true
  ·subst c7
   have H1 : ((impl_Pool_makes.f k l0_0 l1).bind fun t186 => (if 0 ≤ a2 then (if a2 < (t186.length : Int) then (some (rdOf false t186 a2)) else (none)) else (none))) = some r := by rw [if_pos rfl] at H; exact H
   clear H
   have H := H1
   clear H1
   replace H := Option.bind_eq_some_iff.mp H
   obtain ⟨t186, A80, H⟩ := H
   replace H : (if 0 ≤ a2 then (if a2 < (t186.length : Int) then (some (rdOf false t186 a2)) else (none)) else (none)) = some r := H
   have A8 := Aside0.mk A80
   clear A80
   by_cases c9 : 0 ≤ a2
   ·rw [if_pos c9] at H
    have c9b0 : decide (0 ≤ a2) = true := decide_eq_true c9
    clear c9
    by_cases c10 : a2 < (t186.length : Int)
    ·rw [if_pos c10] at H
     have c10b0 : decide (a2 < (t186.length : Int)) = true := decide_eq_true c10
     clear c10
     obtain rfl := Option.some.inj H
     go_enter Try.func29, Try.ntmps29
     go_wp2_with (first | ((with_reducible refine gate_dst (N := 3) rfl ?_); refine box_event ?hg (N := 3) ?hd (cs := #[.slice A0_0 l0_0.length c0_0]) (t := 31) ?hr ?_; (case hd => rfl); (case hg => rfl); (case hr => first | (go_simp; done) | (go_simp; rfl)); intro gb183 hg w11 hbox hb; have n0_ := Aside0.mk (below_step (zb HB.out) hb); have n1_ := Aside0.mk (hbox); have n2_ := Aside0.mk ((by rw [hg]; exact (below_size (zb HB.out)) : w.heap.size ≤ gb183)); have n3_ := Aside0.mk ((by rw [hg]; exact (below_size (zb HB.out)) : w.heap.size ≤ gb183)); clear HB; have HB := n0_; have BK183 := n1_; have GW183 := n2_; have GE183 := n3_; clear n0_ n1_ n2_ n3_; clear hb hbox hg) | ((with_reducible refine gate_callee (f := 40) rfl ?_); refine goesL_ (some 8) rfl rfl Try.func40 (by kernel_rfl) rfl #[.pointer (some ⟨gb183, 0, none⟩), .int .i64 a2] rfl zl ?_; (with_reducible refine (impl_Pool_isTerm.calls _ A0_0 c0_0 l0_0 a2 true _ ?side1 ?side2 ?side3 A4.out).mono ?_); (case side1 => exact zh BK183.out); (case side2 => exact zc (Kd.C_below HR0_0.out HB.out)); (case side3 => exact HC0_0.out); rintro e w12 ⟨rfl, hb⟩; refine ⟨_, rfl, ?_⟩; have n0_ := Aside0.mk (blk_below (zh BK183.out) hb); have n1_ := Aside0.mk (below_step (zb HB.out) hb); clear BK183; clear HB; have BK183 := n0_; have HB := n1_; clear n0_ n1_; (try clear hb); (try clear hb2); (try clear hk); (try clear hi); have hcz13_0 : w12.cell? ⟨gb183, 0, none⟩ = some (.slice A0_0 l0_0.length c0_0) := (blk_cell BK183.out 0).trans rfl; have hfz13_0 := blk_frozen BK183.out 0) | (go_at_call 22; (with_reducible refine (impl_KnowOk.calls k _ _ l0_0 _ _ l1 true _ ?side1 ?side2 ?side3 ?side4 A6.out).mono ?_); (case side1 => exact zc (Kd.C_below HR0_0.out HB.out)); (case side2 => exact HC0_0.out); (case side3 => exact zc (Kd.C_below HR1.out HB.out)); (case side4 => exact HC1.out); rintro e w14 ⟨rfl, hb⟩; have n0_ := Aside0.mk (blk_below (zh BK183.out) hb); have n1_ := Aside0.mk (below_step (zb HB.out) hb); clear BK183; clear HB; have BK183 := n0_; have HB := n1_; clear n0_ n1_; (try clear hb); (try clear hb2); (try clear hk); (try clear hi)) | (go_at_call 49; (with_reducible refine (impl_Pool_makes.calls k _ A0_0 c0_0 l0_0 _ _ l1 t186 _ ?side1 ?side2 ?side3 ?side4 ?side5 A8.out).mono ?_); (case side1 => exact zh BK183.out); (case side2 => exact zc (Kd.C_below HR0_0.out HB.out)); (case side3 => exact HC0_0.out); (case side4 => exact zc (Kd.C_below HR1.out HB.out)); (case side5 => exact HC1.out); rintro e w15 ⟨v187, rfl, ho0, hb⟩; have n0_ := Aside0.mk (Kd.R_lower ho0 (below_size (zb HB.out))); have n1_ := Aside0.mk (blk_below (zh BK183.out) hb); have n2_ := Aside0.mk (below_step (zb HB.out) hb); clear BK183; clear HB; have HO188 := n0_; have BK183 := n1_; have HB := n2_; clear n0_ n1_ n2_; (try clear hb); (try clear hb2); (try clear hk); (try clear hi); (try clear ho0); obtain ⟨Ao16, co16, eo16⟩ := Kd.R_slice HO188.out; subst eo16; have p189 : 0 ≤ (a2 : Int) := of_decide_eq_true (by first | (with_reducible assumption) | assumption); have q189 : a2 < (t186.length : Int) := of_decide_eq_true (by first | (with_reducible assumption) | assumption); obtain ⟨ad189, e189, hx189_0⟩ := Kd.at_bool (Kd.R_reads' HO188.out).2.2 a2 p189 q189; cases e189; replace p189 := eq_true p189; replace q189 := eq_true q189))
     go_ret
     exact ⟨ze, zb HB.out⟩
    ·rw [if_neg c10] at H
     exact absurd H (by simp)
   ·rw [if_neg c9] at H
    exact absurd H (by simp)
  ·replace c7 := Bool.eq_false_iff.mpr c7
   subst c7
   have H1 : (some false) = some r := by rw [if_neg (show ¬ (false = true) by decide)] at H; exact H
   clear H
   have H := H1
   clear H1
   obtain rfl := Option.some.inj H
   go_enter Try.func29, Try.ntmps29
   go_wp2_with (first | ((with_reducible refine gate_dst (N := 3) rfl ?_); refine box_event ?hg (N := 3) ?hd (cs := #[.slice A0_0 l0_0.length c0_0]) (t := 31) ?hr ?_; (case hd => rfl); (case hg => rfl); (case hr => first | (go_simp; done) | (go_simp; rfl)); intro gb183 hg w17 hbox hb; have n0_ := Aside0.mk (below_step (zb HB.out) hb); have n1_ := Aside0.mk (hbox); have n2_ := Aside0.mk ((by rw [hg]; exact (below_size (zb HB.out)) : w.heap.size ≤ gb183)); have n3_ := Aside0.mk ((by rw [hg]; exact (below_size (zb HB.out)) : w.heap.size ≤ gb183)); clear HB; have HB := n0_; have BK183 := n1_; have GW183 := n2_; have GE183 := n3_; clear n0_ n1_ n2_ n3_; clear hb hbox hg) | ((with_reducible refine gate_callee (f := 40) rfl ?_); refine goesL_ (some 8) rfl rfl Try.func40 (by kernel_rfl) rfl #[.pointer (some ⟨gb183, 0, none⟩), .int .i64 a2] rfl zl ?_; (with_reducible refine (impl_Pool_isTerm.calls _ A0_0 c0_0 l0_0 a2 true _ ?side1 ?side2 ?side3 A4.out).mono ?_); (case side1 => exact zh BK183.out); (case side2 => exact zc (Kd.C_below HR0_0.out HB.out)); (case side3 => exact HC0_0.out); rintro e w18 ⟨rfl, hb⟩; refine ⟨_, rfl, ?_⟩; have n0_ := Aside0.mk (blk_below (zh BK183.out) hb); have n1_ := Aside0.mk (below_step (zb HB.out) hb); clear BK183; clear HB; have BK183 := n0_; have HB := n1_; clear n0_ n1_; (try clear hb); (try clear hb2); (try clear hk); (try clear hi); have hcz19_0 : w18.cell? ⟨gb183, 0, none⟩ = some (.slice A0_0 l0_0.length c0_0) := (blk_cell BK183.out 0).trans rfl; have hfz19_0 := blk_frozen BK183.out 0) | (go_at_call 22; (with_reducible refine (impl_KnowOk.calls k _ _ l0_0 _ _ l1 false _ ?side1 ?side2 ?side3 ?side4 A6.out).mono ?_); (case side1 => exact zc (Kd.C_below HR0_0.out HB.out)); (case side2 => exact HC0_0.out); (case side3 => exact zc (Kd.C_below HR1.out HB.out)); (case side4 => exact HC1.out); rintro e w20 ⟨rfl, hb⟩; have n0_ := Aside0.mk (blk_below (zh BK183.out) hb); have n1_ := Aside0.mk (below_step (zb HB.out) hb); clear BK183; clear HB; have BK183 := n0_; have HB := n1_; clear n0_ n1_; (try clear hb); (try clear hb2); (try clear hk); (try clear hi)))
   go_ret
   exact ⟨ze, zb HB.out⟩
 ·replace c5 := Bool.eq_false_iff.mpr c5
  subst c5
  have H1 : (some false) = some r := by rw [if_neg (show ¬ (false = true) by decide)] at H; exact H
  clear H
  have H := H1
  clear H1
  obtain rfl := Option.some.inj H
  go_enter Try.func29, Try.ntmps29
  go_wp2_with (first | ((with_reducible refine gate_dst (N := 3) rfl ?_); refine box_event ?hg (N := 3) ?hd (cs := #[.slice A0_0 l0_0.length c0_0]) (t := 31) ?hr ?_; (case hd => rfl); (case hg => rfl); (case hr => first | (go_simp; done) | (go_simp; rfl)); intro gb183 hg w21 hbox hb; have n0_ := Aside0.mk (below_step (zb HB.out) hb); have n1_ := Aside0.mk (hbox); have n2_ := Aside0.mk ((by rw [hg]; exact (below_size (zb HB.out)) : w.heap.size ≤ gb183)); have n3_ := Aside0.mk ((by rw [hg]; exact (below_size (zb HB.out)) : w.heap.size ≤ gb183)); clear HB; have HB := n0_; have BK183 := n1_; have GW183 := n2_; have GE183 := n3_; clear n0_ n1_ n2_ n3_; clear hb hbox hg) | ((with_reducible refine gate_callee (f := 40) rfl ?_); refine goesL_ (some 8) rfl rfl Try.func40 (by kernel_rfl) rfl #[.pointer (some ⟨gb183, 0, none⟩), .int .i64 a2] rfl zl ?_; (with_reducible refine (impl_Pool_isTerm.calls _ A0_0 c0_0 l0_0 a2 false _ ?side1 ?side2 ?side3 A4.out).mono ?_); (case side1 => exact zh BK183.out); (case side2 => exact zc (Kd.C_below HR0_0.out HB.out)); (case side3 => exact HC0_0.out); rintro e w22 ⟨rfl, hb⟩; refine ⟨_, rfl, ?_⟩; have n0_ := Aside0.mk (blk_below (zh BK183.out) hb); have n1_ := Aside0.mk (below_step (zb HB.out) hb); clear BK183; clear HB; have BK183 := n0_; have HB := n1_; clear n0_ n1_; (try clear hb); (try clear hb2); (try clear hk); (try clear hi)))
  go_ret
  exact ⟨ze, zb HB.out⟩

def IsS92 (w0 W : World) (g : Nat) (f0 : List Int) (f1 : Int) (f2 : Int) : Prop := ∃ A0 c0, W.heap[g]? = some (.cells #[.slice A0 f0.length c0, .int .i64 f1, .int .i64 f2] 92 (0, 0)) ∧ w0.heap.size ≤ g ∧ Kd.C (Kd.int .u8) w0 A0 f0.length f0
theorem IsS92.grown {w0 W : World} {g : Nat} {f0 : List Int} {f1 : Int} {f2 : Int} {W1 : World} {row : Option Nat} (h : IsS92 w0 W g f0 f1 f2) (hw : W.grownBy W1 row) (hne : some g ≠ row) : IsS92 w0 W1 g f0 f1 f2 := by
 obtain ⟨A0, c0, hb, hg, hr0⟩ := h
 exact ⟨A0, c0, blk_grown hb hw hne, hg, hr0⟩
theorem IsS92.kept {w0 W : World} {g : Nat} {f0 : List Int} {f1 : Int} {f2 : Int} {W1 : World} {S : Nat → Prop} (h : IsS92 w0 W g f0 f1 f2) (hk : Kept W W1 S) (hne : ¬ S g) : IsS92 w0 W1 g f0 f1 f2 := by
 obtain ⟨A0, c0, hb, hg, hr0⟩ := h
 exact ⟨A0, c0, blk_kept hb hk hne, hg, hr0⟩
theorem IsS92.below {w0 W : World} {g : Nat} {f0 : List Int} {f1 : Int} {f2 : Int} {W1 : World} (h : IsS92 w0 W g f0 f1 f2) (hw : Below W.heap.size W W1) : IsS92 w0 W1 g f0 f1 f2 := h.grown (grown_of_below hw none) (by simp)
theorem IsS92.alloc {w0 W : World} {g : Nat} {f0 : List Int} {f1 : Int} {f2 : Int} (h : IsS92 w0 W g f0 f1 f2) (o : Obj) : IsS92 w0 (W.alloc o) g f0 f1 f2 := h.below (below_alloc (Below.refl _ _) o)
theorem IsS92.drewN {w0 W : World} {g : Nat} {f0 : List Int} {f1 : Int} {f2 : Int} (h : IsS92 w0 W g f0 f1 f2) (m : Nat) : IsS92 w0 (W.drewN m) g f0 f1 f2 := h
theorem IsS92.drew {w0 W : World} {g : Nat} {f0 : List Int} {f1 : Int} {f2 : Int} (h : IsS92 w0 W g f0 f1 f2) : IsS92 w0 W.drew g f0 f1 f2 := h
theorem IsS92.at_ {w0 W : World} {g : Nat} {f0 : List Int} {f1 : Int} {f2 : Int} {w' : World} {m : Nat} (hq : W.drewN m = w') (h : IsS92 w0 W g f0 f1 f2) : IsS92 w0 w' g f0 f1 f2 := by subst hq; exact IsS92.drewN h m
theorem IsS92.apart {w0 W : World} {g : Nat} {f0 : List Int} {f1 : Int} {f2 : Int} {α : Type} {d : Kd α} {e : Nat} {base : Nat} {ok : Nat → Prop} {v : Value} {xs : List α} (h : IsS92 w0 W g f0 f1 f2) (ho : d.R e W base ok v xs) (ht : ∀ q, q ∈ e :: d.E → q ≠ 92) : d.R e W base (fun k => ok k ∧ k ≠ g) v xs := by
 obtain ⟨A0, c0, hb, hg, hr0⟩ := h
 exact Kd.R_types ho hb ht
theorem IsS92.own_ne {w0 W : World} {g : Nat} {f0 : List Int} {f1 : Int} {f2 : Int} {α : Type} {d : Kd α} {e : Nat} {base : Nat} {ok : Nat → Prop} {v : Value} {xs : List α} (h : IsS92 w0 W g f0 f1 f2) (ho : d.R e W base ok v xs) (ht : e ≠ 92) : some g ≠ v.ownBlock := by
 obtain ⟨A0, c0, hb, hg, hr0⟩ := h
 exact Kd.R_ne ho hb ht
theorem IsS92.lt {w0 W : World} {g : Nat} {f0 : List Int} {f1 : Int} {f2 : Int} (h : IsS92 w0 W g f0 f1 f2) : g < W.heap.size := by
 obtain ⟨A0, c0, hb, hg, hr0⟩ := h
 exact blk_lt hb
theorem IsS92.ge {w0 W : World} {g : Nat} {f0 : List Int} {f1 : Int} {f2 : Int} (h : IsS92 w0 W g f0 f1 f2) : w0.heap.size ≤ g := by
 obtain ⟨A0, c0, hb, hg, hr0⟩ := h
 exact hg
theorem IsS92.ne_blk {w0 W : World} {g : Nat} {f0 : List Int} {f1 : Int} {f2 : Int} {a : Nat} {cs : Array Value} {t : TypeId} {fr : Nat × Nat} (h : IsS92 w0 W g f0 f1 f2) (hb2 : W.heap[a]? = some (.cells cs t fr)) (ht : t ≠ 92) : g ≠ a := by
 obtain ⟨A0, c0, hb, hg, hr0⟩ := h
 rintro rfl
 rw [hb] at hb2
 injection hb2 with hb2
 injection hb2 with _ ht2
 exact ht ht2.symm
theorem IsS92.far {w0 W : World} {g : Nat} {f0 : List Int} {f1 : Int} {f2 : Int} {p : Addr} (h : IsS92 w0 W g f0 f1 f2) (hne : g ≠ p.block) (u : Value) : IsS92 w0 (W.setCell p u) g f0 f1 f2 := by
 obtain ⟨A0, c0, hb, hg, hr0⟩ := h
 exact ⟨A0, c0, blk_far hb hne u, hg, hr0⟩
theorem cellS92_0 {W : World} {g : Nat} {A0 : Option Addr} {c0 : Nat} {f0 : List Int} {f1 : Int} {f2 : Int} (h : W.heap[g]? = some (.cells #[.slice A0 f0.length c0, .int .i64 f1, .int .i64 f2] 92 (0, 0))) : W.cell? ⟨g, 0, none⟩ = some (.slice A0 f0.length c0) := (blk_cell h 0).trans rfl
theorem cellS92_1 {W : World} {g : Nat} {A0 : Option Addr} {c0 : Nat} {f0 : List Int} {f1 : Int} {f2 : Int} (h : W.heap[g]? = some (.cells #[.slice A0 f0.length c0, .int .i64 f1, .int .i64 f2] 92 (0, 0))) : W.cell? ⟨g, 1, none⟩ = some (.int .i64 f1) := (blk_cell h 1).trans rfl
theorem IsS92.set_1 {w0 W : World} {g : Nat} {f0 : List Int} {f1 : Int} {f2 : Int} (h : IsS92 w0 W g f0 f1 f2) (x : Int) : IsS92 w0 (W.setCell ⟨g, 1, none⟩ (.int .i64 x)) g f0 x f2 := by
 obtain ⟨A0, c0, hb, hg, hr0⟩ := h
 exact ⟨A0, c0, by simpa using blk_set hb 1 (.int .i64 x), hg, hr0⟩
theorem cellS92_2 {W : World} {g : Nat} {A0 : Option Addr} {c0 : Nat} {f0 : List Int} {f1 : Int} {f2 : Int} (h : W.heap[g]? = some (.cells #[.slice A0 f0.length c0, .int .i64 f1, .int .i64 f2] 92 (0, 0))) : W.cell? ⟨g, 2, none⟩ = some (.int .i64 f2) := (blk_cell h 2).trans rfl
theorem IsS92.set_2 {w0 W : World} {g : Nat} {f0 : List Int} {f1 : Int} {f2 : Int} (h : IsS92 w0 W g f0 f1 f2) (x : Int) : IsS92 w0 (W.setCell ⟨g, 2, none⟩ (.int .i64 x)) g f0 f1 x := by
 obtain ⟨A0, c0, hb, hg, hr0⟩ := h
 exact ⟨A0, c0, by simpa using blk_set hb 2 (.int .i64 x), hg, hr0⟩
theorem IsS92.new (w0 W : World) (A0 : Option Addr) (c0 : Nat) (f0 : List Int) (f1 : Int) (f2 : Int) (hB : Below w0.heap.size w0 W) (hr0 : Kd.C (Kd.int .u8) w0 A0 f0.length f0) : IsS92 w0 (W.alloc (.cells #[.slice A0 f0.length c0, .int .i64 f1, .int .i64 f2] 92)) W.heap.size f0 f1 f2 := ⟨A0, c0, by simpa using heap_alloc_new W _, hB.size, hr0⟩

/-! ### spec_l1New: function 60 -/
def spec_l1New.l0 : Nat → List Int → Int → Int → Option (List Int × Int × Int)
 | 0, _, _, _ => none
 | k + 1, x0, x3, x4 => if x4 < (x0.length : Int) then (if x4 < 4000 then (if 0 ≤ x4 then (spec_l1New.l0 k x0 (Go.bits .and .i64 (wrap64 ((wrap64 ((wrap64 (x3 * 131)) + (wrap64 (rd x0 x4)))) + 7)) 1073741823) (wrap64 (x4 + 1))) else (none)) else (some (x0, 0, x3))) else (some (x0, 0, x3))
def spec_l1New.f (k : Nat) (l0 : List Int) : Option (List Int × Int × Int) := spec_l1New.l0 k l0 (wrap64 (12241 + (l0.length : Int))) 0
theorem spec_l1New.mono_l : ∀ k, (∀ y0 y1 y2, LeO (spec_l1New.l0 k y0 y1 y2) (spec_l1New.l0 (k + 1) y0 y1 y2))
 | 0 => fun _ _ _ r h => by simp [spec_l1New.l0] at h
 | k + 1 => by
  have ih0 := spec_l1New.mono_l k
  ·intro y0 y1 y2
   unfold spec_l1New.l0
   repeat' first
   | (with_reducible exact ih0 _ _ _)
   | (with_reducible exact LeO.refl _)
   | (with_reducible exact LeO.none _)
   | (with_reducible refine LeO.ite ?_ ?_)
   | (with_reducible refine LeO.bind ?_ (fun _ => ?_))
   | exact ih0 _ _ _
   | exact LeO.none _
   | refine LeO.ite ?_ ?_
   | refine LeO.bind ?_ (fun _ => ?_)
theorem spec_l1New.mono : ∀ a0 k, LeO (spec_l1New.f k a0) (spec_l1New.f (k + 1) a0) := by
 intro a0 k
 have ih0 := spec_l1New.mono_l k
 unfold spec_l1New.f
 repeat' first
   | (with_reducible exact ih0 _ _ _)
   | (with_reducible exact LeO.refl _)
   | (with_reducible exact LeO.none _)
   | (with_reducible refine LeO.ite ?_ ?_)
   | (with_reducible refine LeO.bind ?_ (fun _ => ?_))
   | exact ih0 _ _ _
   | exact LeO.none _
   | refine LeO.ite ?_ ?_
   | refine LeO.bind ?_ (fun _ => ?_)
set_option maxHeartbeats 8000000 in
set_option maxRecDepth 100000 in
theorem spec_l1New.calls (k : Nat) (A0 : Option Addr) (c0 : Nat) (l0 : List Int) (r1 : List Int) (r2 : Int) (r3 : Int) (w0 w : World) (hB : Below w0.heap.size w0 w) (hr0 : Kd.C (Kd.int .u8) w0 A0 l0.length l0) (hc0 : l0.length ≤ c0) (h : spec_l1New.f k l0 = some (r1, r2, r3)) :
  Calls Try.prog 60 #[.slice A0 l0.length c0] w fun e w' => ∃ g_ : Nat, e = .returned (.pointer (some ⟨g_, 0, none⟩)) ∧ IsS92 w0 w' g_ r1 r2 r3 ∧ Below w0.heap.size w0 w' ∧ Below w.heap.size w w' := by
 have hu92 := Try.underlying92
 have HR0 := Aside0.mk hr0
 have HC0 := Aside0.mk hc0
 clear hr0 hc0
 have HBW := Aside0.mk (Below.refl w.heap.size w)
 have HW0 := Aside0.mk hB.size
 have HB := Aside0.mk hB
 clear hB
 have H : (spec_l1New.l0 k l0 (wrap64 (12241 + (l0.length : Int))) 0) = some (r1, r2, r3) := h
 clear h
 have H' := Aside0.mk H
 clear H
 go_enter Try.func60, Try.ntmps60
 go_wp2
 go_loopg [3, 4] k (fun kq v3 v4 w' => ∃ (x3_1 : Int) (x4_1 : Int), v3 = .int .i64 x3_1 ∧ v4 = .int .i64 x4_1 ∧ Aside0 (spec_l1New.l0 kq l0 x3_1 x4_1 = some (r1, r2, r3)) ∧ Aside0 (kq ≤ k) ∧ Aside0 (Below w0.heap.size w0 w') ∧ Aside0 (Below w.heap.size w w'))
 case atStart => exact ⟨(wrap64 (12241 + (l0.length : Int))), (0), (by first | rfl | (simp; done) | (simp [*]; done)), (by first | rfl | (simp; done) | (simp [*]; done)), H', ⟨Nat.le_refl _⟩, ⟨zb HB.out⟩, ⟨zb HBW.out⟩⟩
 case round =>
  clear H'
  obtain ⟨x3_1, x4_1, rfl, rfl, HA, HK1, HB, HBW⟩ := hrel
  cases gk with
  | zero => exact absurd HA.out (by simp [spec_l1New.l0])
  | succ k1 =>
   have H := HA.out
   clear HA
   simp only [spec_l1New.l0] at H
   by_cases c2 : x4_1 < (l0.length : Int)
   ·rw [if_pos c2] at H
    have c2b0 : decide (x4_1 < (l0.length : Int)) = true := decide_eq_true c2
    clear c2
    by_cases c3 : x4_1 < 4000
    ·rw [if_pos c3] at H
     have c3b0 : decide (x4_1 < 4000) = true := decide_eq_true c3
     clear c3
     by_cases c4 : 0 ≤ x4_1
     ·rw [if_pos c4] at H
      have c4b0 : decide (0 ≤ x4_1) = true := decide_eq_true c4
      clear c4
      have H' := Aside0.mk H
      clear H
      have p190 : 0 ≤ (x4_1 : Int) := of_decide_eq_true (by first | (with_reducible assumption) | assumption)
      have q190 : x4_1 < (l0.length : Int) := of_decide_eq_true (by first | (with_reducible assumption) | assumption)
      obtain ⟨ad190, e190, hx190_0⟩ := Kd.at_int HR0.out x4_1 p190 q190
      cases e190
      replace hx190_0 := pw_cell_below HB.out hx190_0
      replace p190 := eq_true p190
      replace q190 := eq_true q190
      go_wp2
      go_roundg k1
      case measure => have := HK1.out; omega
      case rel => exact ⟨(Go.bits .and .i64 (wrap64 ((wrap64 ((wrap64 (x3_1 * 131)) + (wrap64 (rd l0 x4_1)))) + 7)) 1073741823), (wrap64 (x4_1 + 1)), (by first | rfl | (simp; done) | (simp [*]; done)), (by first | rfl | (simp; done) | (simp [*]; done)), H', ⟨by have := HK1.out; omega⟩, ⟨zb HB.out⟩, ⟨zb HBW.out⟩⟩
     ·rw [if_neg c4] at H
      exact absurd H (by simp)
    ·rw [if_neg c3] at H
     have c3b0 : decide (x4_1 < 4000) = false := decide_eq_false c3
     clear c3
     simp only [Option.some.injEq, Prod.mk.injEq] at H
     obtain ⟨rfl, rfl, rfl⟩ := H
     go_wp2_with (first | ((with_reducible refine gate_dst (N := 31) rfl ?_); refine box_event ?hg (N := 31) ?hd (cs := #[.slice A0 l0.length c0, .int .i64 0, .int .i64 x3_1]) (t := 92) ?hr ?_; (case hd => rfl); (case hg => rfl); (case hr => first | (go_simp; done) | (go_simp; rfl)); intro gb191 hg w5 hbox hb; have n0_ := Aside0.mk (below_step HBW.out hb); have n1_ := Aside0.mk (below_step (zb HB.out) hb); have n2_ := Aside0.mk (hbox); have n3_ := Aside0.mk ((by rw [hg]; exact (below_size (zb HBW.out)) : w.heap.size ≤ gb191)); have n4_ := Aside0.mk ((Nat.le_trans HW0.out (by rw [hg]; exact (below_size (zb HBW.out)) : w.heap.size ≤ gb191) : w0.heap.size ≤ gb191)); clear HBW; clear HB; have HBW := n0_; have HB := n1_; have BK191 := n2_; have GW191 := n3_; have GE191 := n4_; clear n0_ n1_ n2_ n3_ n4_; clear hb hbox hg))
     go_ret
     exact ⟨_, rfl, (show IsS92 w0 _ gb191 l0 0 x3_1 from ⟨_, _, zh BK191.out, GE191.out, HR0.out⟩), zb HB.out, zb HBW.out⟩
   ·rw [if_neg c2] at H
    have c2b0 : decide (x4_1 < (l0.length : Int)) = false := decide_eq_false c2
    clear c2
    simp only [Option.some.injEq, Prod.mk.injEq] at H
    obtain ⟨rfl, rfl, rfl⟩ := H
    go_wp2_with (first | ((with_reducible refine gate_dst (N := 31) rfl ?_); refine box_event ?hg (N := 31) ?hd (cs := #[.slice A0 l0.length c0, .int .i64 0, .int .i64 x3_1]) (t := 92) ?hr ?_; (case hd => rfl); (case hg => rfl); (case hr => first | (go_simp; done) | (go_simp; rfl)); intro gb192 hg w6 hbox hb; have n0_ := Aside0.mk (below_step HBW.out hb); have n1_ := Aside0.mk (below_step (zb HB.out) hb); have n2_ := Aside0.mk (hbox); have n3_ := Aside0.mk ((by rw [hg]; exact (below_size (zb HBW.out)) : w.heap.size ≤ gb192)); have n4_ := Aside0.mk ((Nat.le_trans HW0.out (by rw [hg]; exact (below_size (zb HBW.out)) : w.heap.size ≤ gb192) : w0.heap.size ≤ gb192)); clear HBW; clear HB; have HBW := n0_; have HB := n1_; have BK192 := n2_; have GW192 := n3_; have GE192 := n4_; clear n0_ n1_ n2_ n3_ n4_; clear hb hbox hg))
    go_ret
    exact ⟨_, rfl, (show IsS92 w0 _ gb192 l0 0 x3_1 from ⟨_, _, zh BK192.out, GE192.out, HR0.out⟩), zb HB.out, zb HBW.out⟩

/-! ### spec_l1In: function 54 -/
def spec_l1In.f (a0 : Int) (a1 : Int) (a2 : Int) : Option (Bool) := if a0 ≥ a1 then (some (decide (a0 ≤ a2))) else (some false)
set_option maxHeartbeats 8000000 in
set_option maxRecDepth 100000 in
theorem spec_l1In.calls (a0 : Int) (a1 : Int) (a2 : Int) (r : Bool) (w : World) (h : spec_l1In.f a0 a1 a2 = some r) :
  Calls Try.prog 54 #[.int .i64 a0, .int .i64 a1, .int .i64 a2] w fun e w' => e = .returned (.bool r) ∧ Drawn0 w w' := by
 have H : (if a0 ≥ a1 then (some (decide (a0 ≤ a2))) else (some false)) = some r := h
 clear h
 by_cases c4 : a0 ≥ a1
 ·rw [if_pos c4] at H
  have c4b0 : decide (a1 ≤ a0) = true := decide_eq_true c4
  clear c4
  obtain rfl := Option.some.inj H
  go_enter Try.func54, Try.ntmps54
  go_wp2
  go_ret
  exact ⟨by first | rfl | (simp; done) | (simp [*]; done), by repeat (first | exact Drawn0.refl _ | apply Drawn0.step)⟩
 ·rw [if_neg c4] at H
  have c4b0 : decide (a1 ≤ a0) = false := decide_eq_false c4
  clear c4
  obtain rfl := Option.some.inj H
  go_enter Try.func54, Try.ntmps54
  go_wp2
  go_ret
  exact ⟨by first | rfl | (simp; done) | (simp [*]; done), by repeat (first | exact Drawn0.refl _ | apply Drawn0.step)⟩

/-! ### spec_l1Parts: function 86 -/
def spec_l1Parts.j0 : Nat → Int → Bool → Option (Int)
 | 0, _, _ => none
 | k + 1, x3, x6 => if x6 = true then (some 1) else (if x3 = 2 then (some 2) else (if x3 = 3 then (some 2) else (if x3 = 4 then (some 2) else (if x3 = 6 then (some 2) else (if x3 = 8 then (some 2) else (some (-1)))))))
def spec_l1Parts.f (k : Nat) (a0 : Int) : Option (Int) := if a0 = 1 then (some 0) else (if a0 = 5 then (spec_l1Parts.j0 k a0 (a0 == 5)) else (spec_l1Parts.j0 k a0 (a0 == 7)))
theorem spec_l1Parts.mono_l : ∀ k, (∀ y0 y1, LeO (spec_l1Parts.j0 k y0 y1) (spec_l1Parts.j0 (k + 1) y0 y1))
 | 0 => fun _ _ r h => by simp [spec_l1Parts.j0] at h
 | k + 1 => by
  have ih0 := spec_l1Parts.mono_l k
  ·intro y0 y1
   unfold spec_l1Parts.j0
   repeat' first
   | (with_reducible exact ih0 _ _)
   | (with_reducible exact LeO.refl _)
   | (with_reducible exact LeO.none _)
   | (with_reducible refine LeO.ite ?_ ?_)
   | (with_reducible refine LeO.bind ?_ (fun _ => ?_))
   | exact ih0 _ _
   | exact LeO.none _
   | refine LeO.ite ?_ ?_
   | refine LeO.bind ?_ (fun _ => ?_)
theorem spec_l1Parts.mono : ∀ a0 k, LeO (spec_l1Parts.f k a0) (spec_l1Parts.f (k + 1) a0) := by
 intro a0 k
 have ih0 := spec_l1Parts.mono_l k
 unfold spec_l1Parts.f
 repeat' first
   | (with_reducible exact ih0 _ _)
   | (with_reducible exact LeO.refl _)
   | (with_reducible exact LeO.none _)
   | (with_reducible refine LeO.ite ?_ ?_)
   | (with_reducible refine LeO.bind ?_ (fun _ => ?_))
   | exact ih0 _ _
   | exact LeO.none _
   | refine LeO.ite ?_ ?_
   | refine LeO.bind ?_ (fun _ => ?_)
set_option maxHeartbeats 8000000 in
set_option maxRecDepth 100000 in
theorem spec_l1Parts.calls (k : Nat) (a0 : Int) (r : Int) (w : World) (h : spec_l1Parts.f k a0 = some r) :
  Calls Try.prog 86 #[.int .i64 a0] w fun e w' => e = .returned (.int .i64 r) ∧ Drawn0 w w' := by
 have H : (if a0 = 1 then (some 0) else (if a0 = 5 then (spec_l1Parts.j0 k a0 (a0 == 5)) else (spec_l1Parts.j0 k a0 (a0 == 7)))) = some r := h
 clear h
 by_cases c2 : a0 = 1
 ·rw [if_pos c2] at H
  have c2b0 : (a0 == 1) = true := beq_iff_eq.mpr c2
  have c2b1 : (a0 != 1) = false := bne_eq_false_iff_eq.mpr c2
  clear c2
  obtain rfl := Option.some.inj H
  go_enter Try.func86, Try.ntmps86
  go_wp2
  go_ret
  exact ⟨by first | rfl | (simp; done) | (simp [*]; done), by repeat (first | exact Drawn0.refl _ | apply Drawn0.step)⟩
 ·rw [if_neg c2] at H
  have c2b0 : (a0 == 1) = false := beq_eq_false_iff_ne.mpr c2
  have c2b1 : (a0 != 1) = true := bne_iff_ne.mpr c2
  have HC3 := Aside0.mk H
  clear H
  go_enter Try.func86, Try.ntmps86
  go_upto_if 6 with (fail)
  go_cut [6] (fun v6 wc => ∃ (kq : Nat) (x6_2 : Bool), v6 = .bool x6_2 ∧ Aside0 (spec_l1Parts.j0 kq a0 x6_2 = some r) ∧ Aside0 (kq ≤ k) ∧ Drawn0 w wc)
  case first =>
   have H := HC3.out
   clear HC3
   by_cases c4 : a0 = 5
   ·rw [if_pos c4] at H
    have c4b0 : (a0 == 5) = true := beq_iff_eq.mpr c4
    have c4b1 : (a0 != 5) = false := bne_eq_false_iff_eq.mpr c4
    clear c4
    (first | rw [c4b0] | (simp only [i64_w, i32_w]; rw [c4b0]) | skip)
    have H' := Aside0.mk H
    clear H
    go_wp2
    go_meet
    case rel => exact ⟨_, ((a0 == 5)), (by first | rfl | (simp; done) | (simp [*]; done)), H', ⟨by first | omega | exact Nat.le_refl _⟩, by repeat (first | exact Drawn0.refl _ | apply Drawn0.step)⟩
   ·rw [if_neg c4] at H
    have c4b0 : (a0 == 5) = false := beq_eq_false_iff_ne.mpr c4
    have c4b1 : (a0 != 5) = true := bne_iff_ne.mpr c4
    (first | rw [c4b0] | (simp only [i64_w, i32_w]; rw [c4b0]) | skip)
    have H' := Aside0.mk H
    clear H
    go_wp2
    go_meet
    case rel => exact ⟨_, ((a0 == 7)), (by first | rfl | (simp; done) | (simp [*]; done)), H', ⟨by first | omega | exact Nat.le_refl _⟩, by repeat (first | exact Drawn0.refl _ | apply Drawn0.step)⟩
  case rest =>
   clear HC3
   try clear c2
   try clear c2b0
   try clear c2b1
   try clear p2
   try clear c4
   try clear c4b0
   try clear c4b1
   obtain ⟨kq, x6_2, rfl, HA, HJ2, ⟨mc2, rfl⟩⟩ := hcut
   cases kq with
   | zero => exact absurd HA.out (by simp [spec_l1Parts.j0])
   | succ kj2 =>
    have H := HA.out
    clear HA
    simp only [spec_l1Parts.j0] at H
    by_cases c5 : x6_2 = true
    ·subst c5
     have H1 : (some 1) = some r := by rw [if_pos rfl] at H; exact H
     clear H
     have H := H1
     clear H1
     obtain rfl := Option.some.inj H
     go_wp2
     go_ret
     exact ⟨by first | rfl | (simp; done) | (simp [*]; done), by repeat (first | exact Drawn0.refl _ | apply Drawn0.step)⟩
    ·replace c5 := Bool.eq_false_iff.mpr c5
     subst c5
     have H1 : (if a0 = 2 then (some 2) else (if a0 = 3 then (some 2) else (if a0 = 4 then (some 2) else (if a0 = 6 then (some 2) else (if a0 = 8 then (some 2) else (some (-1))))))) = some r := by rw [if_neg (show ¬ (false = true) by decide)] at H; exact H
     clear H
     have H := H1
     clear H1
     by_cases c6 : a0 = 2
     ·rw [if_pos c6] at H
      have c6b0 : (a0 == 2) = true := beq_iff_eq.mpr c6
      have c6b1 : (a0 != 2) = false := bne_eq_false_iff_eq.mpr c6
      clear c6
      obtain rfl := Option.some.inj H
      go_wp2
      go_ret
      exact ⟨by first | rfl | (simp; done) | (simp [*]; done), by repeat (first | exact Drawn0.refl _ | apply Drawn0.step)⟩
     ·rw [if_neg c6] at H
      have c6b0 : (a0 == 2) = false := beq_eq_false_iff_ne.mpr c6
      have c6b1 : (a0 != 2) = true := bne_iff_ne.mpr c6
      by_cases c7 : a0 = 3
      ·rw [if_pos c7] at H
       have c7b0 : (a0 == 3) = true := beq_iff_eq.mpr c7
       have c7b1 : (a0 != 3) = false := bne_eq_false_iff_eq.mpr c7
       clear c7
       obtain rfl := Option.some.inj H
       go_wp2
       go_ret
       exact ⟨by first | rfl | (simp; done) | (simp [*]; done), by repeat (first | exact Drawn0.refl _ | apply Drawn0.step)⟩
      ·rw [if_neg c7] at H
       have c7b0 : (a0 == 3) = false := beq_eq_false_iff_ne.mpr c7
       have c7b1 : (a0 != 3) = true := bne_iff_ne.mpr c7
       by_cases c8 : a0 = 4
       ·rw [if_pos c8] at H
        have c8b0 : (a0 == 4) = true := beq_iff_eq.mpr c8
        have c8b1 : (a0 != 4) = false := bne_eq_false_iff_eq.mpr c8
        clear c8
        obtain rfl := Option.some.inj H
        go_wp2
        go_ret
        exact ⟨by first | rfl | (simp; done) | (simp [*]; done), by repeat (first | exact Drawn0.refl _ | apply Drawn0.step)⟩
       ·rw [if_neg c8] at H
        have c8b0 : (a0 == 4) = false := beq_eq_false_iff_ne.mpr c8
        have c8b1 : (a0 != 4) = true := bne_iff_ne.mpr c8
        by_cases c9 : a0 = 6
        ·rw [if_pos c9] at H
         have c9b0 : (a0 == 6) = true := beq_iff_eq.mpr c9
         have c9b1 : (a0 != 6) = false := bne_eq_false_iff_eq.mpr c9
         clear c9
         obtain rfl := Option.some.inj H
         go_wp2
         go_ret
         exact ⟨by first | rfl | (simp; done) | (simp [*]; done), by repeat (first | exact Drawn0.refl _ | apply Drawn0.step)⟩
        ·rw [if_neg c9] at H
         have c9b0 : (a0 == 6) = false := beq_eq_false_iff_ne.mpr c9
         have c9b1 : (a0 != 6) = true := bne_iff_ne.mpr c9
         by_cases c10 : a0 = 8
         ·rw [if_pos c10] at H
          have c10b0 : (a0 == 8) = true := beq_iff_eq.mpr c10
          have c10b1 : (a0 != 8) = false := bne_eq_false_iff_eq.mpr c10
          clear c10
          obtain rfl := Option.some.inj H
          go_wp2
          go_ret
          exact ⟨by first | rfl | (simp; done) | (simp [*]; done), by repeat (first | exact Drawn0.refl _ | apply Drawn0.step)⟩
         ·rw [if_neg c10] at H
          have c10b0 : (a0 == 8) = false := beq_eq_false_iff_ne.mpr c10
          have c10b1 : (a0 != 8) = true := bne_iff_ne.mpr c10
          obtain rfl := Option.some.inj H
          go_wp2
          go_ret
          exact ⟨by first | rfl | (simp; done) | (simp [*]; done), by repeat (first | exact Drawn0.refl _ | apply Drawn0.step)⟩

end Go.Proofs.Ytilnfdnigjblcaa.M
end

section
-- Written by this session's program (wip/tools/gprint.py over the kit's print) out of the translation; Lean checks it.
namespace Go.Proofs.Ytilnfdnigjblcaa.M
open Go.RowKit Go.Proofs.YtilnfdnigjblcaaW.PrintWords Go.Proofs.YtilnfdnigjblcaaW.PrintLast Go.Proofs.YtilnfdnigjblcaaW.PrintMore
attribute [local go_sem] max2_int min2_int max_two min_two max_three min_three max_four min_four   -- for this text's walks alone
set_option linter.unusedVariables false
set_option linter.unusedSimpArgs false
set_option maxRecDepth 100000

attribute [local go_sem high] eqA67
/-! ### spec_l1Right: function 64 -/
def spec_l1Right.f (k : Nat) (a0_0 : Int) (a0_1 : Int) (a0_2 : Int) (a1 : Int) : Option (Bool) := (spec_l1Parts.f k a0_0).bind fun t194 => (if t194 = 0 then ((spec_l1In.f a0_1 0 199).bind fun t195 => (if t195 = true then (some (a0_2 == 0)) else (some false))) else (if t194 = 1 then ((spec_l1In.f a0_1 0 (wrap64 (a1 - 1))).bind fun t196 => (if t196 = true then (some (a0_2 == 0)) else (some false))) else (if t194 = 2 then ((spec_l1In.f a0_1 0 (wrap64 (a1 - 1))).bind fun t197 => (if t197 = true then ((spec_l1In.f a0_2 0 (wrap64 (a1 - 1))).bind fun t198 => (if t198 = true then (if a0_0 = 8 then (some (decide (a0_1 ≤ a0_2))) else (some true)) else (some false))) else (some false))) else (some false))))
theorem spec_l1Right.mono : ∀ a0 a1 a2 a3 k, LeO (spec_l1Right.f k a0 a1 a2 a3) (spec_l1Right.f (k + 1) a0 a1 a2 a3) := by
 intro a0 a1 a2 a3 k
 unfold spec_l1Right.f
 repeat' first
   | (with_reducible exact spec_l1Parts.mono _ _)
   | (with_reducible exact LeO.refl _)
   | (with_reducible exact LeO.none _)
   | (with_reducible refine LeO.ite ?_ ?_)
   | (with_reducible refine LeO.bind ?_ (fun _ => ?_))
   | exact spec_l1Parts.mono _ _
   | exact LeO.none _
   | refine LeO.ite ?_ ?_
   | refine LeO.bind ?_ (fun _ => ?_)
set_option maxHeartbeats 8000000 in
set_option maxRecDepth 100000 in
theorem spec_l1Right.calls (k : Nat) (a0_0 : Int) (a0_1 : Int) (a0_2 : Int) (a1 : Int) (r : Bool) (w : World) (h : spec_l1Right.f k a0_0 a0_1 a0_2 a1 = some r) :
  Calls Try.prog 64 #[.agg #[.int .i64 a0_0, .int .i64 a0_1, .int .i64 a0_2], .int .i64 a1] w fun e w' => e = .returned (.bool r) ∧ Below w.heap.size w w' := by
 have hu67 := Try.underlying67
 have HB := Aside0.mk (Below.refl w.heap.size w)
 have H : ((spec_l1Parts.f k a0_0).bind fun t194 => (if t194 = 0 then ((spec_l1In.f a0_1 0 199).bind fun t195 => (if t195 = true then (some (a0_2 == 0)) else (some false))) else (if t194 = 1 then ((spec_l1In.f a0_1 0 (wrap64 (a1 - 1))).bind fun t196 => (if t196 = true then (some (a0_2 == 0)) else (some false))) else (if t194 = 2 then ((spec_l1In.f a0_1 0 (wrap64 (a1 - 1))).bind fun t197 => (if t197 = true then ((spec_l1In.f a0_2 0 (wrap64 (a1 - 1))).bind fun t198 => (if t198 = true then (if a0_0 = 8 then (some (decide (a0_1 ≤ a0_2))) else (some true)) else (some false))) else (some false))) else (some false))))) = some r := h
 clear h
 replace H := Option.bind_eq_some_iff.mp H
 obtain ⟨t194, A30, H⟩ := H
 replace H : (if t194 = 0 then ((spec_l1In.f a0_1 0 199).bind fun t195 => (if t195 = true then (some (a0_2 == 0)) else (some false))) else (if t194 = 1 then ((spec_l1In.f a0_1 0 (wrap64 (a1 - 1))).bind fun t196 => (if t196 = true then (some (a0_2 == 0)) else (some false))) else (if t194 = 2 then ((spec_l1In.f a0_1 0 (wrap64 (a1 - 1))).bind fun t197 => (if t197 = true then ((spec_l1In.f a0_2 0 (wrap64 (a1 - 1))).bind fun t198 => (if t198 = true then (if a0_0 = 8 then (some (decide (a0_1 ≤ a0_2))) else (some true)) else (some false))) else (some false))) else (some false)))) = some r := H
 have A3 := Aside0.mk A30
 clear A30
 by_cases c4 : t194 = 0
 ·rw [if_pos c4] at H
  have c4b0 : (t194 == 0) = true := beq_iff_eq.mpr c4
  have c4b1 : (t194 != 0) = false := bne_eq_false_iff_eq.mpr c4
  clear c4
  replace H := Option.bind_eq_some_iff.mp H
  obtain ⟨t195, A50, H⟩ := H
  replace H : (if t195 = true then (some (a0_2 == 0)) else (some false)) = some r := H
  have A5 := Aside0.mk A50
  clear A50
  by_cases c6 : t195 = true
  ·subst c6
   have H1 : (some (a0_2 == 0)) = some r := by rw [if_pos rfl] at H; exact H
   clear H
   have H := H1
   clear H1
   obtain rfl := Option.some.inj H
   go_enter Try.func64, Try.ntmps64
   go_wp2_with (first | ((with_reducible refine gate_dst (N := 2) rfl ?_); refine box_event ?hg (N := 2) ?hd (cs := #[.int .i64 a0_0, .int .i64 a0_1, .int .i64 a0_2]) (t := 67) ?hr ?_; (case hd => rfl); (case hg => rfl); (case hr => first | (go_simp; done) | (go_simp; rfl)); intro gb193 hg w7 hbox hb; have n0_ := Aside0.mk (below_step (zb HB.out) hb); have n1_ := Aside0.mk (hbox); have n2_ := Aside0.mk ((by rw [hg]; exact (below_size (zb HB.out)) : w.heap.size ≤ gb193)); have n3_ := Aside0.mk ((by rw [hg]; exact (below_size (zb HB.out)) : w.heap.size ≤ gb193)); clear HB; have HB := n0_; have BK193 := n1_; have GW193 := n2_; have GE193 := n3_; clear n0_ n1_ n2_ n3_; clear hb hbox hg; have hcz8_0 : w7.cell? ⟨gb193, 0, none⟩ = some (.int .i64 a0_0) := (blk_cell BK193.out 0).trans rfl; have hcz8_1 : w7.cell? ⟨gb193, 1, none⟩ = some (.int .i64 a0_1) := (blk_cell BK193.out 1).trans rfl; have hcz8_2 : w7.cell? ⟨gb193, 2, none⟩ = some (.int .i64 a0_2) := (blk_cell BK193.out 2).trans rfl; have hfz8_0 := blk_frozen BK193.out 0; have hfz8_1 := blk_frozen BK193.out 1; have hfz8_2 := blk_frozen BK193.out 2) | ((with_reducible refine gate_callee (f := 86) rfl ?_); refine goesL_ (some 7) rfl rfl Try.func86 (by kernel_rfl) rfl #[.int .i64 a0_0] rfl zl ?_; (with_reducible refine (spec_l1Parts.calls k a0_0 t194 _ A3.out).mono ?_); rintro e w' ⟨rfl, ⟨nd, rfl⟩⟩; refine ⟨_, rfl, ?_⟩) | ((with_reducible refine gate_callee (f := 54) rfl ?_); refine goesL_ (some 12) rfl rfl Try.func54 (by kernel_rfl) rfl #[.int .i64 a0_1, .int .i64 0, .int .i64 199] rfl zl ?_; (with_reducible refine (spec_l1In.calls a0_1 0 199 true _ A5.out).mono ?_); rintro e w' ⟨rfl, ⟨nd, rfl⟩⟩; refine ⟨_, rfl, ?_⟩))
   go_ret
   exact ⟨ze, zb HB.out⟩
  ·replace c6 := Bool.eq_false_iff.mpr c6
   subst c6
   have H1 : (some false) = some r := by rw [if_neg (show ¬ (false = true) by decide)] at H; exact H
   clear H
   have H := H1
   clear H1
   obtain rfl := Option.some.inj H
   go_enter Try.func64, Try.ntmps64
   go_wp2_with (first | ((with_reducible refine gate_dst (N := 2) rfl ?_); refine box_event ?hg (N := 2) ?hd (cs := #[.int .i64 a0_0, .int .i64 a0_1, .int .i64 a0_2]) (t := 67) ?hr ?_; (case hd => rfl); (case hg => rfl); (case hr => first | (go_simp; done) | (go_simp; rfl)); intro gb193 hg w9 hbox hb; have n0_ := Aside0.mk (below_step (zb HB.out) hb); have n1_ := Aside0.mk (hbox); have n2_ := Aside0.mk ((by rw [hg]; exact (below_size (zb HB.out)) : w.heap.size ≤ gb193)); have n3_ := Aside0.mk ((by rw [hg]; exact (below_size (zb HB.out)) : w.heap.size ≤ gb193)); clear HB; have HB := n0_; have BK193 := n1_; have GW193 := n2_; have GE193 := n3_; clear n0_ n1_ n2_ n3_; clear hb hbox hg; have hcz10_0 : w9.cell? ⟨gb193, 0, none⟩ = some (.int .i64 a0_0) := (blk_cell BK193.out 0).trans rfl; have hcz10_1 : w9.cell? ⟨gb193, 1, none⟩ = some (.int .i64 a0_1) := (blk_cell BK193.out 1).trans rfl; have hcz10_2 : w9.cell? ⟨gb193, 2, none⟩ = some (.int .i64 a0_2) := (blk_cell BK193.out 2).trans rfl; have hfz10_0 := blk_frozen BK193.out 0; have hfz10_1 := blk_frozen BK193.out 1; have hfz10_2 := blk_frozen BK193.out 2) | ((with_reducible refine gate_callee (f := 86) rfl ?_); refine goesL_ (some 7) rfl rfl Try.func86 (by kernel_rfl) rfl #[.int .i64 a0_0] rfl zl ?_; (with_reducible refine (spec_l1Parts.calls k a0_0 t194 _ A3.out).mono ?_); rintro e w' ⟨rfl, ⟨nd, rfl⟩⟩; refine ⟨_, rfl, ?_⟩) | ((with_reducible refine gate_callee (f := 54) rfl ?_); refine goesL_ (some 12) rfl rfl Try.func54 (by kernel_rfl) rfl #[.int .i64 a0_1, .int .i64 0, .int .i64 199] rfl zl ?_; (with_reducible refine (spec_l1In.calls a0_1 0 199 false _ A5.out).mono ?_); rintro e w' ⟨rfl, ⟨nd, rfl⟩⟩; refine ⟨_, rfl, ?_⟩))
   go_ret
   exact ⟨ze, zb HB.out⟩
 ·rw [if_neg c4] at H
  have c4b0 : (t194 == 0) = false := beq_eq_false_iff_ne.mpr c4
  have c4b1 : (t194 != 0) = true := bne_iff_ne.mpr c4
  by_cases c11 : t194 = 1
  ·rw [if_pos c11] at H
   have c11b0 : (t194 == 1) = true := beq_iff_eq.mpr c11
   have c11b1 : (t194 != 1) = false := bne_eq_false_iff_eq.mpr c11
   clear c11
   replace H := Option.bind_eq_some_iff.mp H
   obtain ⟨t196, A120, H⟩ := H
   replace H : (if t196 = true then (some (a0_2 == 0)) else (some false)) = some r := H
   have A12 := Aside0.mk A120
   clear A120
   by_cases c13 : t196 = true
   ·subst c13
    have H1 : (some (a0_2 == 0)) = some r := by rw [if_pos rfl] at H; exact H
    clear H
    have H := H1
    clear H1
    obtain rfl := Option.some.inj H
    go_enter Try.func64, Try.ntmps64
    go_wp2_with (first | ((with_reducible refine gate_dst (N := 2) rfl ?_); refine box_event ?hg (N := 2) ?hd (cs := #[.int .i64 a0_0, .int .i64 a0_1, .int .i64 a0_2]) (t := 67) ?hr ?_; (case hd => rfl); (case hg => rfl); (case hr => first | (go_simp; done) | (go_simp; rfl)); intro gb193 hg w14 hbox hb; have n0_ := Aside0.mk (below_step (zb HB.out) hb); have n1_ := Aside0.mk (hbox); have n2_ := Aside0.mk ((by rw [hg]; exact (below_size (zb HB.out)) : w.heap.size ≤ gb193)); have n3_ := Aside0.mk ((by rw [hg]; exact (below_size (zb HB.out)) : w.heap.size ≤ gb193)); clear HB; have HB := n0_; have BK193 := n1_; have GW193 := n2_; have GE193 := n3_; clear n0_ n1_ n2_ n3_; clear hb hbox hg; have hcz15_0 : w14.cell? ⟨gb193, 0, none⟩ = some (.int .i64 a0_0) := (blk_cell BK193.out 0).trans rfl; have hcz15_1 : w14.cell? ⟨gb193, 1, none⟩ = some (.int .i64 a0_1) := (blk_cell BK193.out 1).trans rfl; have hcz15_2 : w14.cell? ⟨gb193, 2, none⟩ = some (.int .i64 a0_2) := (blk_cell BK193.out 2).trans rfl; have hfz15_0 := blk_frozen BK193.out 0; have hfz15_1 := blk_frozen BK193.out 1; have hfz15_2 := blk_frozen BK193.out 2) | ((with_reducible refine gate_callee (f := 86) rfl ?_); refine goesL_ (some 7) rfl rfl Try.func86 (by kernel_rfl) rfl #[.int .i64 a0_0] rfl zl ?_; (with_reducible refine (spec_l1Parts.calls k a0_0 t194 _ A3.out).mono ?_); rintro e w' ⟨rfl, ⟨nd, rfl⟩⟩; refine ⟨_, rfl, ?_⟩) | ((with_reducible refine gate_callee (f := 54) rfl ?_); refine goesL_ (some 24) rfl rfl Try.func54 (by kernel_rfl) rfl #[.int .i64 a0_1, .int .i64 0, .int .i64 (wrap64 (a1 - 1))] rfl zl ?_; (with_reducible refine (spec_l1In.calls a0_1 0 (wrap64 (a1 - 1)) true _ A12.out).mono ?_); rintro e w' ⟨rfl, ⟨nd, rfl⟩⟩; refine ⟨_, rfl, ?_⟩))
    go_ret
    exact ⟨ze, zb HB.out⟩
   ·replace c13 := Bool.eq_false_iff.mpr c13
    subst c13
    have H1 : (some false) = some r := by rw [if_neg (show ¬ (false = true) by decide)] at H; exact H
    clear H
    have H := H1
    clear H1
    obtain rfl := Option.some.inj H
    go_enter Try.func64, Try.ntmps64
    go_wp2_with (first | ((with_reducible refine gate_dst (N := 2) rfl ?_); refine box_event ?hg (N := 2) ?hd (cs := #[.int .i64 a0_0, .int .i64 a0_1, .int .i64 a0_2]) (t := 67) ?hr ?_; (case hd => rfl); (case hg => rfl); (case hr => first | (go_simp; done) | (go_simp; rfl)); intro gb193 hg w16 hbox hb; have n0_ := Aside0.mk (below_step (zb HB.out) hb); have n1_ := Aside0.mk (hbox); have n2_ := Aside0.mk ((by rw [hg]; exact (below_size (zb HB.out)) : w.heap.size ≤ gb193)); have n3_ := Aside0.mk ((by rw [hg]; exact (below_size (zb HB.out)) : w.heap.size ≤ gb193)); clear HB; have HB := n0_; have BK193 := n1_; have GW193 := n2_; have GE193 := n3_; clear n0_ n1_ n2_ n3_; clear hb hbox hg; have hcz17_0 : w16.cell? ⟨gb193, 0, none⟩ = some (.int .i64 a0_0) := (blk_cell BK193.out 0).trans rfl; have hcz17_1 : w16.cell? ⟨gb193, 1, none⟩ = some (.int .i64 a0_1) := (blk_cell BK193.out 1).trans rfl; have hcz17_2 : w16.cell? ⟨gb193, 2, none⟩ = some (.int .i64 a0_2) := (blk_cell BK193.out 2).trans rfl; have hfz17_0 := blk_frozen BK193.out 0; have hfz17_1 := blk_frozen BK193.out 1; have hfz17_2 := blk_frozen BK193.out 2) | ((with_reducible refine gate_callee (f := 86) rfl ?_); refine goesL_ (some 7) rfl rfl Try.func86 (by kernel_rfl) rfl #[.int .i64 a0_0] rfl zl ?_; (with_reducible refine (spec_l1Parts.calls k a0_0 t194 _ A3.out).mono ?_); rintro e w' ⟨rfl, ⟨nd, rfl⟩⟩; refine ⟨_, rfl, ?_⟩) | ((with_reducible refine gate_callee (f := 54) rfl ?_); refine goesL_ (some 24) rfl rfl Try.func54 (by kernel_rfl) rfl #[.int .i64 a0_1, .int .i64 0, .int .i64 (wrap64 (a1 - 1))] rfl zl ?_; (with_reducible refine (spec_l1In.calls a0_1 0 (wrap64 (a1 - 1)) false _ A12.out).mono ?_); rintro e w' ⟨rfl, ⟨nd, rfl⟩⟩; refine ⟨_, rfl, ?_⟩))
    go_ret
    exact ⟨ze, zb HB.out⟩
  ·rw [if_neg c11] at H
   have c11b0 : (t194 == 1) = false := beq_eq_false_iff_ne.mpr c11
   have c11b1 : (t194 != 1) = true := bne_iff_ne.mpr c11
   by_cases c18 : t194 = 2
   ·rw [if_pos c18] at H
    have c18b0 : (t194 == 2) = true := beq_iff_eq.mpr c18
    have c18b1 : (t194 != 2) = false := bne_eq_false_iff_eq.mpr c18
    clear c18
    replace H := Option.bind_eq_some_iff.mp H
    obtain ⟨t197, A190, H⟩ := H
    replace H : (if t197 = true then ((spec_l1In.f a0_2 0 (wrap64 (a1 - 1))).bind fun t198 => (if t198 = true then (if a0_0 = 8 then (some (decide (a0_1 ≤ a0_2))) else (some true)) else (some false))) else (some false)) = some r := H
    have A19 := Aside0.mk A190
    clear A190
    by_cases c20 : t197 = true
    ·subst c20
     have H1 : ((spec_l1In.f a0_2 0 (wrap64 (a1 - 1))).bind fun t198 => (if t198 = true then (if a0_0 = 8 then (some (decide (a0_1 ≤ a0_2))) else (some true)) else (some false))) = some r := by rw [if_pos rfl] at H; exact H
     clear H
     have H := H1
     clear H1
     replace H := Option.bind_eq_some_iff.mp H
     obtain ⟨t198, A210, H⟩ := H
     replace H : (if t198 = true then (if a0_0 = 8 then (some (decide (a0_1 ≤ a0_2))) else (some true)) else (some false)) = some r := H
     have A21 := Aside0.mk A210
     clear A210
     by_cases c22 : t198 = true
     ·subst c22
      have H1 : (if a0_0 = 8 then (some (decide (a0_1 ≤ a0_2))) else (some true)) = some r := by rw [if_pos rfl] at H; exact H
      clear H
      have H := H1
      clear H1
      by_cases c23 : a0_0 = 8
      ·rw [if_pos c23] at H
       have c23b0 : (a0_0 == 8) = true := beq_iff_eq.mpr c23
       have c23b1 : (a0_0 != 8) = false := bne_eq_false_iff_eq.mpr c23
       clear c23
       obtain rfl := Option.some.inj H
       go_enter Try.func64, Try.ntmps64
       go_wp2_with (first | ((with_reducible refine gate_dst (N := 2) rfl ?_); refine box_event ?hg (N := 2) ?hd (cs := #[.int .i64 a0_0, .int .i64 a0_1, .int .i64 a0_2]) (t := 67) ?hr ?_; (case hd => rfl); (case hg => rfl); (case hr => first | (go_simp; done) | (go_simp; rfl)); intro gb193 hg w24 hbox hb; have n0_ := Aside0.mk (below_step (zb HB.out) hb); have n1_ := Aside0.mk (hbox); have n2_ := Aside0.mk ((by rw [hg]; exact (below_size (zb HB.out)) : w.heap.size ≤ gb193)); have n3_ := Aside0.mk ((by rw [hg]; exact (below_size (zb HB.out)) : w.heap.size ≤ gb193)); clear HB; have HB := n0_; have BK193 := n1_; have GW193 := n2_; have GE193 := n3_; clear n0_ n1_ n2_ n3_; clear hb hbox hg; have hcz25_0 : w24.cell? ⟨gb193, 0, none⟩ = some (.int .i64 a0_0) := (blk_cell BK193.out 0).trans rfl; have hcz25_1 : w24.cell? ⟨gb193, 1, none⟩ = some (.int .i64 a0_1) := (blk_cell BK193.out 1).trans rfl; have hcz25_2 : w24.cell? ⟨gb193, 2, none⟩ = some (.int .i64 a0_2) := (blk_cell BK193.out 2).trans rfl; have hfz25_0 := blk_frozen BK193.out 0; have hfz25_1 := blk_frozen BK193.out 1; have hfz25_2 := blk_frozen BK193.out 2) | ((with_reducible refine gate_callee (f := 86) rfl ?_); refine goesL_ (some 7) rfl rfl Try.func86 (by kernel_rfl) rfl #[.int .i64 a0_0] rfl zl ?_; (with_reducible refine (spec_l1Parts.calls k a0_0 t194 _ A3.out).mono ?_); rintro e w' ⟨rfl, ⟨nd, rfl⟩⟩; refine ⟨_, rfl, ?_⟩) | ((with_reducible refine gate_callee (f := 54) rfl ?_); refine goesL_ (some 36) rfl rfl Try.func54 (by kernel_rfl) rfl #[.int .i64 a0_1, .int .i64 0, .int .i64 (wrap64 (a1 - 1))] rfl zl ?_; (with_reducible refine (spec_l1In.calls a0_1 0 (wrap64 (a1 - 1)) true _ A19.out).mono ?_); rintro e w' ⟨rfl, ⟨nd, rfl⟩⟩; refine ⟨_, rfl, ?_⟩) | (go_at_call 54; (with_reducible refine (spec_l1In.calls a0_2 0 (wrap64 (a1 - 1)) true _ A21.out).mono ?_); rintro e w' ⟨rfl, ⟨nd, rfl⟩⟩))
       go_ret
       exact ⟨ze, zb HB.out⟩
      ·rw [if_neg c23] at H
       have c23b0 : (a0_0 == 8) = false := beq_eq_false_iff_ne.mpr c23
       have c23b1 : (a0_0 != 8) = true := bne_iff_ne.mpr c23
       obtain rfl := Option.some.inj H
       go_enter Try.func64, Try.ntmps64
       go_wp2_with (first | ((with_reducible refine gate_dst (N := 2) rfl ?_); refine box_event ?hg (N := 2) ?hd (cs := #[.int .i64 a0_0, .int .i64 a0_1, .int .i64 a0_2]) (t := 67) ?hr ?_; (case hd => rfl); (case hg => rfl); (case hr => first | (go_simp; done) | (go_simp; rfl)); intro gb193 hg w26 hbox hb; have n0_ := Aside0.mk (below_step (zb HB.out) hb); have n1_ := Aside0.mk (hbox); have n2_ := Aside0.mk ((by rw [hg]; exact (below_size (zb HB.out)) : w.heap.size ≤ gb193)); have n3_ := Aside0.mk ((by rw [hg]; exact (below_size (zb HB.out)) : w.heap.size ≤ gb193)); clear HB; have HB := n0_; have BK193 := n1_; have GW193 := n2_; have GE193 := n3_; clear n0_ n1_ n2_ n3_; clear hb hbox hg; have hcz27_0 : w26.cell? ⟨gb193, 0, none⟩ = some (.int .i64 a0_0) := (blk_cell BK193.out 0).trans rfl; have hcz27_1 : w26.cell? ⟨gb193, 1, none⟩ = some (.int .i64 a0_1) := (blk_cell BK193.out 1).trans rfl; have hcz27_2 : w26.cell? ⟨gb193, 2, none⟩ = some (.int .i64 a0_2) := (blk_cell BK193.out 2).trans rfl; have hfz27_0 := blk_frozen BK193.out 0; have hfz27_1 := blk_frozen BK193.out 1; have hfz27_2 := blk_frozen BK193.out 2) | ((with_reducible refine gate_callee (f := 86) rfl ?_); refine goesL_ (some 7) rfl rfl Try.func86 (by kernel_rfl) rfl #[.int .i64 a0_0] rfl zl ?_; (with_reducible refine (spec_l1Parts.calls k a0_0 t194 _ A3.out).mono ?_); rintro e w' ⟨rfl, ⟨nd, rfl⟩⟩; refine ⟨_, rfl, ?_⟩) | ((with_reducible refine gate_callee (f := 54) rfl ?_); refine goesL_ (some 36) rfl rfl Try.func54 (by kernel_rfl) rfl #[.int .i64 a0_1, .int .i64 0, .int .i64 (wrap64 (a1 - 1))] rfl zl ?_; (with_reducible refine (spec_l1In.calls a0_1 0 (wrap64 (a1 - 1)) true _ A19.out).mono ?_); rintro e w' ⟨rfl, ⟨nd, rfl⟩⟩; refine ⟨_, rfl, ?_⟩) | (go_at_call 54; (with_reducible refine (spec_l1In.calls a0_2 0 (wrap64 (a1 - 1)) true _ A21.out).mono ?_); rintro e w' ⟨rfl, ⟨nd, rfl⟩⟩))
       go_ret
       exact ⟨ze, zb HB.out⟩
     ·replace c22 := Bool.eq_false_iff.mpr c22
      subst c22
      have H1 : (some false) = some r := by rw [if_neg (show ¬ (false = true) by decide)] at H; exact H
      clear H
      have H := H1
      clear H1
      obtain rfl := Option.some.inj H
      go_enter Try.func64, Try.ntmps64
      go_wp2_with (first | ((with_reducible refine gate_dst (N := 2) rfl ?_); refine box_event ?hg (N := 2) ?hd (cs := #[.int .i64 a0_0, .int .i64 a0_1, .int .i64 a0_2]) (t := 67) ?hr ?_; (case hd => rfl); (case hg => rfl); (case hr => first | (go_simp; done) | (go_simp; rfl)); intro gb193 hg w28 hbox hb; have n0_ := Aside0.mk (below_step (zb HB.out) hb); have n1_ := Aside0.mk (hbox); have n2_ := Aside0.mk ((by rw [hg]; exact (below_size (zb HB.out)) : w.heap.size ≤ gb193)); have n3_ := Aside0.mk ((by rw [hg]; exact (below_size (zb HB.out)) : w.heap.size ≤ gb193)); clear HB; have HB := n0_; have BK193 := n1_; have GW193 := n2_; have GE193 := n3_; clear n0_ n1_ n2_ n3_; clear hb hbox hg; have hcz29_0 : w28.cell? ⟨gb193, 0, none⟩ = some (.int .i64 a0_0) := (blk_cell BK193.out 0).trans rfl; have hcz29_1 : w28.cell? ⟨gb193, 1, none⟩ = some (.int .i64 a0_1) := (blk_cell BK193.out 1).trans rfl; have hcz29_2 : w28.cell? ⟨gb193, 2, none⟩ = some (.int .i64 a0_2) := (blk_cell BK193.out 2).trans rfl; have hfz29_0 := blk_frozen BK193.out 0; have hfz29_1 := blk_frozen BK193.out 1; have hfz29_2 := blk_frozen BK193.out 2) | ((with_reducible refine gate_callee (f := 86) rfl ?_); refine goesL_ (some 7) rfl rfl Try.func86 (by kernel_rfl) rfl #[.int .i64 a0_0] rfl zl ?_; (with_reducible refine (spec_l1Parts.calls k a0_0 t194 _ A3.out).mono ?_); rintro e w' ⟨rfl, ⟨nd, rfl⟩⟩; refine ⟨_, rfl, ?_⟩) | ((with_reducible refine gate_callee (f := 54) rfl ?_); refine goesL_ (some 36) rfl rfl Try.func54 (by kernel_rfl) rfl #[.int .i64 a0_1, .int .i64 0, .int .i64 (wrap64 (a1 - 1))] rfl zl ?_; (with_reducible refine (spec_l1In.calls a0_1 0 (wrap64 (a1 - 1)) true _ A19.out).mono ?_); rintro e w' ⟨rfl, ⟨nd, rfl⟩⟩; refine ⟨_, rfl, ?_⟩) | (go_at_call 54; (with_reducible refine (spec_l1In.calls a0_2 0 (wrap64 (a1 - 1)) false _ A21.out).mono ?_); rintro e w' ⟨rfl, ⟨nd, rfl⟩⟩))
      go_ret
      exact ⟨ze, zb HB.out⟩
    ·replace c20 := Bool.eq_false_iff.mpr c20
     subst c20
     have H1 : (some false) = some r := by rw [if_neg (show ¬ (false = true) by decide)] at H; exact H
     clear H
     have H := H1
     clear H1
     obtain rfl := Option.some.inj H
     go_enter Try.func64, Try.ntmps64
     go_wp2_with (first | ((with_reducible refine gate_dst (N := 2) rfl ?_); refine box_event ?hg (N := 2) ?hd (cs := #[.int .i64 a0_0, .int .i64 a0_1, .int .i64 a0_2]) (t := 67) ?hr ?_; (case hd => rfl); (case hg => rfl); (case hr => first | (go_simp; done) | (go_simp; rfl)); intro gb193 hg w30 hbox hb; have n0_ := Aside0.mk (below_step (zb HB.out) hb); have n1_ := Aside0.mk (hbox); have n2_ := Aside0.mk ((by rw [hg]; exact (below_size (zb HB.out)) : w.heap.size ≤ gb193)); have n3_ := Aside0.mk ((by rw [hg]; exact (below_size (zb HB.out)) : w.heap.size ≤ gb193)); clear HB; have HB := n0_; have BK193 := n1_; have GW193 := n2_; have GE193 := n3_; clear n0_ n1_ n2_ n3_; clear hb hbox hg; have hcz31_0 : w30.cell? ⟨gb193, 0, none⟩ = some (.int .i64 a0_0) := (blk_cell BK193.out 0).trans rfl; have hcz31_1 : w30.cell? ⟨gb193, 1, none⟩ = some (.int .i64 a0_1) := (blk_cell BK193.out 1).trans rfl; have hcz31_2 : w30.cell? ⟨gb193, 2, none⟩ = some (.int .i64 a0_2) := (blk_cell BK193.out 2).trans rfl; have hfz31_0 := blk_frozen BK193.out 0; have hfz31_1 := blk_frozen BK193.out 1; have hfz31_2 := blk_frozen BK193.out 2) | ((with_reducible refine gate_callee (f := 86) rfl ?_); refine goesL_ (some 7) rfl rfl Try.func86 (by kernel_rfl) rfl #[.int .i64 a0_0] rfl zl ?_; (with_reducible refine (spec_l1Parts.calls k a0_0 t194 _ A3.out).mono ?_); rintro e w' ⟨rfl, ⟨nd, rfl⟩⟩; refine ⟨_, rfl, ?_⟩) | ((with_reducible refine gate_callee (f := 54) rfl ?_); refine goesL_ (some 36) rfl rfl Try.func54 (by kernel_rfl) rfl #[.int .i64 a0_1, .int .i64 0, .int .i64 (wrap64 (a1 - 1))] rfl zl ?_; (with_reducible refine (spec_l1In.calls a0_1 0 (wrap64 (a1 - 1)) false _ A19.out).mono ?_); rintro e w' ⟨rfl, ⟨nd, rfl⟩⟩; refine ⟨_, rfl, ?_⟩))
     go_ret
     exact ⟨ze, zb HB.out⟩
   ·rw [if_neg c18] at H
    have c18b0 : (t194 == 2) = false := beq_eq_false_iff_ne.mpr c18
    have c18b1 : (t194 != 2) = true := bne_iff_ne.mpr c18
    obtain rfl := Option.some.inj H
    go_enter Try.func64, Try.ntmps64
    go_wp2_with (first | ((with_reducible refine gate_dst (N := 2) rfl ?_); refine box_event ?hg (N := 2) ?hd (cs := #[.int .i64 a0_0, .int .i64 a0_1, .int .i64 a0_2]) (t := 67) ?hr ?_; (case hd => rfl); (case hg => rfl); (case hr => first | (go_simp; done) | (go_simp; rfl)); intro gb193 hg w32 hbox hb; have n0_ := Aside0.mk (below_step (zb HB.out) hb); have n1_ := Aside0.mk (hbox); have n2_ := Aside0.mk ((by rw [hg]; exact (below_size (zb HB.out)) : w.heap.size ≤ gb193)); have n3_ := Aside0.mk ((by rw [hg]; exact (below_size (zb HB.out)) : w.heap.size ≤ gb193)); clear HB; have HB := n0_; have BK193 := n1_; have GW193 := n2_; have GE193 := n3_; clear n0_ n1_ n2_ n3_; clear hb hbox hg; have hcz33_0 : w32.cell? ⟨gb193, 0, none⟩ = some (.int .i64 a0_0) := (blk_cell BK193.out 0).trans rfl; have hcz33_1 : w32.cell? ⟨gb193, 1, none⟩ = some (.int .i64 a0_1) := (blk_cell BK193.out 1).trans rfl; have hcz33_2 : w32.cell? ⟨gb193, 2, none⟩ = some (.int .i64 a0_2) := (blk_cell BK193.out 2).trans rfl; have hfz33_0 := blk_frozen BK193.out 0; have hfz33_1 := blk_frozen BK193.out 1; have hfz33_2 := blk_frozen BK193.out 2) | ((with_reducible refine gate_callee (f := 86) rfl ?_); refine goesL_ (some 7) rfl rfl Try.func86 (by kernel_rfl) rfl #[.int .i64 a0_0] rfl zl ?_; (with_reducible refine (spec_l1Parts.calls k a0_0 t194 _ A3.out).mono ?_); rintro e w' ⟨rfl, ⟨nd, rfl⟩⟩; refine ⟨_, rfl, ?_⟩))
    go_ret
    exact ⟨ze, zb HB.out⟩

/-! ### spec_l1Find: function 65 -/
def spec_l1Find.l0 : Nat → Int → List (S67) → Int → Int → Int → Option (Int)
 | 0, _, _, _, _, _ => none
 | k + 1, x5, x200000, x201000, x201001, x201002 => if x5 < (x200000.length : Int) then (if 0 ≤ x5 then (if (((rd_T67 x200000 x5).f0) == x201000 && (((rd_T67 x200000 x5).f1) == x201001 && (((rd_T67 x200000 x5).f2) == x201002))) = true then (some x5) else (spec_l1Find.l0 k (wrap64 (x5 + 1)) x200000 x201000 x201001 x201002)) else (none)) else (some (-1))
def spec_l1Find.f (k : Nat) (l0_0 : List (S67)) (a1_0 : Int) (a1_1 : Int) (a1_2 : Int) : Option (Int) := spec_l1Find.l0 k 0 l0_0 a1_0 a1_1 a1_2
theorem spec_l1Find.mono_l : ∀ k, (∀ y0 y1 y2 y3 y4, LeO (spec_l1Find.l0 k y0 y1 y2 y3 y4) (spec_l1Find.l0 (k + 1) y0 y1 y2 y3 y4))
 | 0 => fun _ _ _ _ _ r h => by simp [spec_l1Find.l0] at h
 | k + 1 => by
  have ih0 := spec_l1Find.mono_l k
  ·intro y0 y1 y2 y3 y4
   unfold spec_l1Find.l0
   repeat' first
   | (with_reducible exact ih0 _ _ _ _ _)
   | (with_reducible exact LeO.refl _)
   | (with_reducible exact LeO.none _)
   | (with_reducible refine LeO.ite ?_ ?_)
   | (with_reducible refine LeO.bind ?_ (fun _ => ?_))
   | exact ih0 _ _ _ _ _
   | exact LeO.none _
   | refine LeO.ite ?_ ?_
   | refine LeO.bind ?_ (fun _ => ?_)
theorem spec_l1Find.mono : ∀ a0 a1 a2 a3 k, LeO (spec_l1Find.f k a0 a1 a2 a3) (spec_l1Find.f (k + 1) a0 a1 a2 a3) := by
 intro a0 a1 a2 a3 k
 have ih0 := spec_l1Find.mono_l k
 unfold spec_l1Find.f
 repeat' first
   | (with_reducible exact ih0 _ _ _ _ _)
   | (with_reducible exact LeO.refl _)
   | (with_reducible exact LeO.none _)
   | (with_reducible refine LeO.ite ?_ ?_)
   | (with_reducible refine LeO.bind ?_ (fun _ => ?_))
   | exact ih0 _ _ _ _ _
   | exact LeO.none _
   | refine LeO.ite ?_ ?_
   | refine LeO.bind ?_ (fun _ => ?_)
set_option maxHeartbeats 8000000 in
set_option maxRecDepth 100000 in
theorem spec_l1Find.calls (k : Nat) (A0_0 : Option Addr) (c0_0 : Nat) (l0_0 : List (S67)) (a1_0 : Int) (a1_1 : Int) (a1_2 : Int) (r : Int) (w : World) (hr0_0 : Kd.C k67 w A0_0 l0_0.length l0_0) (hc0_0 : l0_0.length ≤ c0_0) (h : spec_l1Find.f k l0_0 a1_0 a1_1 a1_2 = some r) :
  Calls Try.prog 65 #[.agg #[.slice A0_0 l0_0.length c0_0], .agg #[.int .i64 a1_0, .int .i64 a1_1, .int .i64 a1_2]] w fun e w' => e = .returned (.int .i64 r) ∧ Below w.heap.size w w' := by
 have hu31 := Try.underlying31
 have hu67 := Try.underlying67
 have HR0_0 := Aside0.mk hr0_0
 have HC0_0 := Aside0.mk hc0_0
 clear hr0_0 hc0_0
 have HB := Aside0.mk (Below.refl w.heap.size w)
 have H : (spec_l1Find.l0 k 0 l0_0 a1_0 a1_1 a1_2) = some r := h
 clear h
 have H' := Aside0.mk H
 clear H
 go_enter Try.func65, Try.ntmps65
 go_wp2_with (first | ((with_reducible refine gate_dst (N := 2) rfl ?_); refine box_event ?hg (N := 2) ?hd (cs := #[.slice A0_0 l0_0.length c0_0]) (t := 31) ?hr ?_; (case hd => rfl); (case hg => rfl); (case hr => first | (go_simp; done) | (go_simp; rfl)); intro gb199 hg w3 hbox hb; have n0_ := Aside0.mk (below_step (zb HB.out) hb); have n1_ := Aside0.mk (hbox); have n2_ := Aside0.mk ((by rw [hg]; exact (below_size (zb HB.out)) : w.heap.size ≤ gb199)); have n3_ := Aside0.mk ((by rw [hg]; exact (below_size (zb HB.out)) : w.heap.size ≤ gb199)); clear HB; have HB := n0_; have BK199 := n1_; have GW199 := n2_; have GE199 := n3_; clear n0_ n1_ n2_ n3_; clear hb hbox hg) | ((with_reducible refine gate_dst (N := 3) rfl ?_); refine box_event ?hg (N := 3) ?hd (cs := #[.int .i64 a1_0, .int .i64 a1_1, .int .i64 a1_2]) (t := 67) ?hr ?_; (case hd => rfl); (case hg => rfl); (case hr => first | (go_simp; done) | (go_simp; rfl)); intro gb200 hg w4 hbox hb; have n0_ := Aside0.mk (blk_below (zh BK199.out) hb); have n1_ := Aside0.mk (below_step (zb HB.out) hb); have n2_ := Aside0.mk (hbox); have n3_ := Aside0.mk ((by rw [hg]; exact (below_size (zb HB.out)) : w.heap.size ≤ gb200)); have n4_ := Aside0.mk ((by rw [hg]; exact (below_size (zb HB.out)) : w.heap.size ≤ gb200)); have n5_ := Aside0.mk ((by rw [hg]; exact Nat.ne_of_lt (blk_lt (zh BK199.out)) : gb199 ≠ gb200)); have n6_ := Aside0.mk ((by rw [hg]; exact Nat.ne_of_gt (blk_lt (zh BK199.out)) : gb200 ≠ gb199)); clear BK199; clear HB; have BK199 := n0_; have HB := n1_; have BK200 := n2_; have GW200 := n3_; have GE200 := n4_; have NB199_200 := n5_; have NB200_199 := n6_; clear n0_ n1_ n2_ n3_ n4_ n5_ n6_; clear hb hbox hg))
 repeat (go_quiet (fail); try go_wp2_with (first | ((with_reducible refine gate_dst (N := 2) rfl ?_); refine box_event ?hg (N := 2) ?hd (cs := #[.slice A0_0 l0_0.length c0_0]) (t := 31) ?hr ?_; (case hd => rfl); (case hg => rfl); (case hr => first | (go_simp; done) | (go_simp; rfl)); intro gb199 hg w3 hbox hb; have n0_ := Aside0.mk (below_step (zb HB.out) hb); have n1_ := Aside0.mk (hbox); have n2_ := Aside0.mk ((by rw [hg]; exact (below_size (zb HB.out)) : w.heap.size ≤ gb199)); have n3_ := Aside0.mk ((by rw [hg]; exact (below_size (zb HB.out)) : w.heap.size ≤ gb199)); clear HB; have HB := n0_; have BK199 := n1_; have GW199 := n2_; have GE199 := n3_; clear n0_ n1_ n2_ n3_; clear hb hbox hg) | ((with_reducible refine gate_dst (N := 3) rfl ?_); refine box_event ?hg (N := 3) ?hd (cs := #[.int .i64 a1_0, .int .i64 a1_1, .int .i64 a1_2]) (t := 67) ?hr ?_; (case hd => rfl); (case hg => rfl); (case hr => first | (go_simp; done) | (go_simp; rfl)); intro gb200 hg w4 hbox hb; have n0_ := Aside0.mk (blk_below (zh BK199.out) hb); have n1_ := Aside0.mk (below_step (zb HB.out) hb); have n2_ := Aside0.mk (hbox); have n3_ := Aside0.mk ((by rw [hg]; exact (below_size (zb HB.out)) : w.heap.size ≤ gb200)); have n4_ := Aside0.mk ((by rw [hg]; exact (below_size (zb HB.out)) : w.heap.size ≤ gb200)); have n5_ := Aside0.mk ((by rw [hg]; exact Nat.ne_of_lt (blk_lt (zh BK199.out)) : gb199 ≠ gb200)); have n6_ := Aside0.mk ((by rw [hg]; exact Nat.ne_of_gt (blk_lt (zh BK199.out)) : gb200 ≠ gb199)); clear BK199; clear HB; have BK199 := n0_; have HB := n1_; have BK200 := n2_; have GW200 := n3_; have GE200 := n4_; have NB199_200 := n5_; have NB200_199 := n6_; clear n0_ n1_ n2_ n3_ n4_ n5_ n6_; clear hb hbox hg)))
 go_loopg [5] k (fun kq v5 w' => ∃ (x5_1 : Int), v5 = .int .i64 x5_1 ∧ Aside0 (spec_l1Find.l0 kq x5_1 l0_0 a1_0 a1_1 a1_2 = some r) ∧ Aside0 (kq ≤ k) ∧ Aside0 (w'.heap[gb199]? = some (.cells #[(.slice A0_0 l0_0.length c0_0)] 31 (0, 0))) ∧ Aside0 (w'.heap[gb200]? = some (.cells #[.int .i64 a1_0, .int .i64 a1_1, .int .i64 a1_2] 67 (0, 0))) ∧ Aside0 (Below w.heap.size w w'))
 case atStart => exact ⟨(0), (by first | rfl | (simp; done) | (simp [*]; done)), H', ⟨Nat.le_refl _⟩, ⟨zh BK199.out⟩, ⟨zh BK200.out⟩, ⟨zb HB.out⟩⟩
 case round =>
  clear H'
  try clear p2
  obtain ⟨x5_1, rfl, HA, HK1, BK199, BK200, HB⟩ := hrel
  cases gk with
  | zero => exact absurd HA.out (by simp [spec_l1Find.l0])
  | succ k1 =>
   have H := HA.out
   clear HA
   simp only [spec_l1Find.l0] at H
   by_cases c5 : x5_1 < (l0_0.length : Int)
   ·rw [if_pos c5] at H
    have c5b0 : decide (x5_1 < (l0_0.length : Int)) = true := decide_eq_true c5
    clear c5
    by_cases c6 : 0 ≤ x5_1
    ·rw [if_pos c6] at H
     have c6b0 : decide (0 ≤ x5_1) = true := decide_eq_true c6
     clear c6
     by_cases c7 : (((rd_T67 l0_0 x5_1).f0) == a1_0 && (((rd_T67 l0_0 x5_1).f1) == a1_1 && (((rd_T67 l0_0 x5_1).f2) == a1_2))) = true
     ·rw [if_pos c7] at H
      have c7b0 : (((rd_T67 l0_0 x5_1).f0) == a1_0 && (((rd_T67 l0_0 x5_1).f1) == a1_1 && (((rd_T67 l0_0 x5_1).f2) == a1_2))) = true := c7
      (try (have c7b1 : decide (((rd_T67 l0_0 x5_1).f0) = a1_0 && (((rd_T67 l0_0 x5_1).f1) == a1_1 && (((rd_T67 l0_0 x5_1).f2) == a1_2))) = true := by simpa using c7))
      (try (have c7b2 : (((rd_T67 l0_0 x5_1).f0) == a1_0 && (((rd_T67 l0_0 x5_1).f1) == a1_1 && (((rd_T67 l0_0 x5_1).f2) == a1_2))) = true := by simpa using c7))
      clear c7
      obtain rfl := Option.some.inj H
      have hnb8 := NB199_200.out
      have hnc8 := NB200_199.out
      have hcz9_0 : wr.cell? ⟨gb199, 0, none⟩ = some (.slice A0_0 l0_0.length c0_0) := (blk_cell BK199.out 0).trans rfl
      have hfz9_0 := blk_frozen BK199.out 0
      have p201 : 0 ≤ (x5_1 : Int) := of_decide_eq_true (by first | (with_reducible assumption) | assumption)
      have q201 : x5_1 < (l0_0.length : Int) := of_decide_eq_true (by first | (with_reducible assumption) | assumption)
      obtain ⟨ad201, e201, hx201_0, hx201_1, hx201_2⟩ := at_T67 HR0_0.out x5_1 p201 q201
      cases e201
      replace hx201_0 := (HB.out.cell (World.block_lt_of_cell? w _ hx201_0)).trans hx201_0
      replace hx201_1 := (HB.out.cell (World.block_lt_of_cell? w _ hx201_1)).trans hx201_1
      replace hx201_2 := (HB.out.cell (World.block_lt_of_cell? w _ hx201_2)).trans hx201_2
      replace p201 := eq_true p201
      replace q201 := eq_true q201
      have hcz10_0 : wr.cell? ⟨gb200, 0, none⟩ = some (.int .i64 a1_0) := (blk_cell BK200.out 0).trans rfl
      have hcz10_1 : wr.cell? ⟨gb200, 1, none⟩ = some (.int .i64 a1_1) := (blk_cell BK200.out 1).trans rfl
      have hcz10_2 : wr.cell? ⟨gb200, 2, none⟩ = some (.int .i64 a1_2) := (blk_cell BK200.out 2).trans rfl
      have hfz10_0 := blk_frozen BK200.out 0
      have hfz10_1 := blk_frozen BK200.out 1
      have hfz10_2 := blk_frozen BK200.out 2
      go_wp2
      repeat (go_quiet (fail); try go_wp2)
      go_ret
      exact ⟨ze, zb HB.out⟩
     ·rw [if_neg c7] at H
      have c7b0 : (((rd_T67 l0_0 x5_1).f0) == a1_0 && (((rd_T67 l0_0 x5_1).f1) == a1_1 && (((rd_T67 l0_0 x5_1).f2) == a1_2))) = false := by simpa using c7
      (try (have c7b1 : decide (((rd_T67 l0_0 x5_1).f0) = a1_0 && (((rd_T67 l0_0 x5_1).f1) == a1_1 && (((rd_T67 l0_0 x5_1).f2) == a1_2))) = false := by simpa using c7))
      (try (have c7b2 : (((rd_T67 l0_0 x5_1).f0) == a1_0 && (((rd_T67 l0_0 x5_1).f1) == a1_1 && (((rd_T67 l0_0 x5_1).f2) == a1_2))) = false := by simpa using c7))
      (try (have c7b3 : ¬ (((rd_T67 l0_0 x5_1).f0) = a1_0 && (((rd_T67 l0_0 x5_1).f1) == a1_1 && (((rd_T67 l0_0 x5_1).f2) == a1_2))) := by simpa using c7))
      clear c7
      have H' := Aside0.mk H
      clear H
      have hnb11 := NB199_200.out
      have hnc11 := NB200_199.out
      have hcz12_0 : wr.cell? ⟨gb199, 0, none⟩ = some (.slice A0_0 l0_0.length c0_0) := (blk_cell BK199.out 0).trans rfl
      have hfz12_0 := blk_frozen BK199.out 0
      have p201 : 0 ≤ (x5_1 : Int) := of_decide_eq_true (by first | (with_reducible assumption) | assumption)
      have q201 : x5_1 < (l0_0.length : Int) := of_decide_eq_true (by first | (with_reducible assumption) | assumption)
      obtain ⟨ad201, e201, hx201_0, hx201_1, hx201_2⟩ := at_T67 HR0_0.out x5_1 p201 q201
      cases e201
      replace hx201_0 := (HB.out.cell (World.block_lt_of_cell? w _ hx201_0)).trans hx201_0
      replace hx201_1 := (HB.out.cell (World.block_lt_of_cell? w _ hx201_1)).trans hx201_1
      replace hx201_2 := (HB.out.cell (World.block_lt_of_cell? w _ hx201_2)).trans hx201_2
      replace p201 := eq_true p201
      replace q201 := eq_true q201
      have hcz13_0 : wr.cell? ⟨gb200, 0, none⟩ = some (.int .i64 a1_0) := (blk_cell BK200.out 0).trans rfl
      have hcz13_1 : wr.cell? ⟨gb200, 1, none⟩ = some (.int .i64 a1_1) := (blk_cell BK200.out 1).trans rfl
      have hcz13_2 : wr.cell? ⟨gb200, 2, none⟩ = some (.int .i64 a1_2) := (blk_cell BK200.out 2).trans rfl
      have hfz13_0 := blk_frozen BK200.out 0
      have hfz13_1 := blk_frozen BK200.out 1
      have hfz13_2 := blk_frozen BK200.out 2
      go_wp2
      repeat (go_quiet (fail); try go_wp2)
      go_roundg k1
      case measure => have := HK1.out; omega
      case rel => exact ⟨(wrap64 (x5_1 + 1)), (by first | rfl | (simp; done) | (simp [*]; done)), H', ⟨by have := HK1.out; omega⟩, ⟨zh BK199.out⟩, ⟨zh BK200.out⟩, ⟨zb HB.out⟩⟩
    ·rw [if_neg c6] at H
     exact absurd H (by simp)
   ·rw [if_neg c5] at H
    have c5b0 : decide (x5_1 < (l0_0.length : Int)) = false := decide_eq_false c5
    clear c5
    obtain rfl := Option.some.inj H
    have hnb14 := NB199_200.out
    have hnc14 := NB200_199.out
    have hcz15_0 : wr.cell? ⟨gb199, 0, none⟩ = some (.slice A0_0 l0_0.length c0_0) := (blk_cell BK199.out 0).trans rfl
    have hfz15_0 := blk_frozen BK199.out 0
    go_wp2
    repeat (go_quiet (fail); try go_wp2)
    go_ret
    exact ⟨ze, zb HB.out⟩

/-! ### spec_l1Copy: function 72 -/
def spec_l1Copy.f (l0_0 : List (S67)) : Option ((List (S67))) := (some (([] : List (S67)) : List (S67))).bind fun y204 => (if y204.length + l0_0.length < 5864062014805 then (some (y204 ++ l0_0)) else (none))
set_option maxHeartbeats 8000000 in
set_option maxRecDepth 100000 in
theorem spec_l1Copy.calls (A0_0 : Option Addr) (c0_0 : Nat) (l0_0 : List (S67)) (r : List (S67)) (w : World) (hr0_0 : Kd.C k67 w A0_0 l0_0.length l0_0) (hc0_0 : l0_0.length ≤ c0_0) (h : spec_l1Copy.f l0_0 = some r) :
  Calls Try.prog 72 #[.agg #[.slice A0_0 l0_0.length c0_0]] w fun e w' => ∃ v0_ : Value, e = .returned (.agg #[v0_]) ∧ Kd.R k67 67 w' w.heap.size (fun _ => True) v0_ r ∧ Below w.heap.size w w' := by
 have hu31 := Try.underlying31
 have HR0_0 := Aside0.mk hr0_0
 have HC0_0 := Aside0.mk hc0_0
 clear hr0_0 hc0_0
 have HB := Aside0.mk (Below.refl w.heap.size w)
 have H : ((some (([] : List (S67)) : List (S67))).bind fun y204 => (if y204.length + l0_0.length < 5864062014805 then (some (y204 ++ l0_0)) else (none))) = some r := h
 clear h
 obtain ⟨y204, hy204⟩ : ∃ y_ : List (S67), y_ = (([] : List (S67))) := ⟨_, rfl⟩
 replace H : (if y204.length + l0_0.length < 5864062014805 then (some (y204 ++ l0_0)) else (none)) = some r := by first | (rw [hy204]; with_reducible exact H) | (have H2_ := (Option.bind_some _ _).symm.trans H; rw [hy204]; with_reducible exact H2_) | (have H2_ := (Option.bind_some _ _).symm.trans H; with_reducible exact H2_) | with_reducible exact H | (rw [hy204]; exact H) | exact H
 have Ny204 := Aside0.mk hy204
 clear hy204
 by_cases c2 : y204.length + l0_0.length < 5864062014805
 ·rw [if_pos c2] at H
  have LMc2 := Aside0.mk c2
  clear c2
  obtain ⟨y207, hy207⟩ : ∃ y_ : List (S67), y_ = (y204 ++ l0_0) := ⟨_, rfl⟩
  replace H : (some y207) = some r := by first | (rw [hy207]; with_reducible exact H) | (have H2_ := (Option.bind_some _ _).symm.trans H; rw [hy207]; with_reducible exact H2_) | (have H2_ := (Option.bind_some _ _).symm.trans H; with_reducible exact H2_) | with_reducible exact H | (rw [hy207]; exact H) | exact H
  have Ny207 := Aside0.mk hy207
  clear hy207
  obtain rfl := Option.some.inj H
  go_enter Try.func72, Try.ntmps72
  go_wp2_with (first | ((with_reducible refine gate_dst (N := 1) rfl ?_); refine box_event ?hg (N := 1) ?hd (cs := #[.slice A0_0 l0_0.length c0_0]) (t := 31) ?hr ?_; (case hd => rfl); (case hg => rfl); (case hr => first | (go_simp; done) | (go_simp; rfl)); intro gb202 hg w3 hbox hb; have n0_ := Aside0.mk (below_step (zb HB.out) hb); have n1_ := Aside0.mk (hbox); have n2_ := Aside0.mk ((by rw [hg]; exact (below_size (zb HB.out)) : w.heap.size ≤ gb202)); have n3_ := Aside0.mk ((by rw [hg]; exact (below_size (zb HB.out)) : w.heap.size ≤ gb202)); clear HB; have HB := n0_; have BK202 := n1_; have GW202 := n2_; have GE202 := n3_; clear n0_ n1_ n2_ n3_; clear hb hbox hg) | ((with_reducible refine gate_dst (N := 2) rfl ?_); refine box_event ?hg (N := 2) ?hd (cs := #[.slice none 0 0]) (t := 31) ?hr ?_; (case hd => rfl); (case hg => rfl); (case hr => first | (go_simp; done) | (go_simp; rfl)); intro gb203 hg w4 hbox hb; have n0_ := Aside0.mk (blk_below (zh BK202.out) hb); have n1_ := Aside0.mk (below_step (zb HB.out) hb); have n2_ := Aside0.mk (hbox); have n3_ := Aside0.mk ((by rw [hg]; exact (below_size (zb HB.out)) : w.heap.size ≤ gb203)); have n4_ := Aside0.mk ((by rw [hg]; exact (below_size (zb HB.out)) : w.heap.size ≤ gb203)); have n5_ := Aside0.mk ((by rw [hg]; exact Nat.ne_of_lt (blk_lt (zh BK202.out)) : gb202 ≠ gb203)); have n6_ := Aside0.mk ((by rw [hg]; exact Nat.ne_of_gt (blk_lt (zh BK202.out)) : gb203 ≠ gb202)); clear BK202; clear HB; have BK202 := n0_; have HB := n1_; have BK203 := n2_; have GW203 := n3_; have GE203 := n4_; have NB202_203 := n5_; have NB203_202 := n6_; clear n0_ n1_ n2_ n3_ n4_ n5_ n6_; clear hb hbox hg) | ((with_reducible refine gate_dst (N := 3) rfl ?_); refine Kd.R_lit k67 _ 67 ?hg (N := 3) ?hd (xs := ([] : List (S67))) (inner := []) (ok := fun _ => True) (okp := fun _ => True) ?hr ?hp (fun _ hk => hk) trivial (Below.refl _ _) (Nat.le_refl _) (by simp) ?_; (case hd => rfl); (case hg => rfl); (case hr => first | (go_simp; done) | (go_simp; rfl)); (case hp => exact (Reps.none _ _)); intro v205 w5 ho6 hb hg_ hnew_; clear hg_ hnew_; (first | rw [← Ny204.out] at ho6 | (simp only [Int.reduceToNat] at ho6; rw [← Ny204.out] at ho6)); have n0_ := Aside0.mk (Kd.R_lower ho6 (below_size (zb HB.out))); have n1_ := Aside0.mk (blk_below (zh BK202.out) hb); have n2_ := Aside0.mk (blk_below (zh BK203.out) hb); have n3_ := Aside0.mk (below_step (zb HB.out) hb); clear BK202; clear BK203; clear HB; have HO206 := n0_; have BK202 := n1_; have BK203 := n2_; have HB := n3_; clear n0_ n1_ n2_ n3_; clear hb ho6; have hnb7 := NB202_203.out; have hnc7 := NB203_202.out; have hcz8_0 : w5.cell? ⟨gb202, 0, none⟩ = some (.slice A0_0 l0_0.length c0_0) := (blk_cell BK202.out 0).trans rfl; have hfz8_0 := blk_frozen BK202.out 0) | ((with_reducible refine gate_builtin (b := .append) (xs := #[.tmp 3, .tmp 5]) rfl ?_); at_builtin; refine Kd.R_append_rows k67 (w0 := w) w.heap.size rfl (.tmp 3) (.tmp 5) 29 67 (.agg #[(.int .i64 0), (.int .i64 0), (.int .i64 0)]) 24 rfl Try.underlying29 info67 rfl (by decide) (by omega) v205 y204 l0_0 _ _ _ (fun _ => True) (fun _ => False) rfl rfl ?aO ?aR (fun _ _ h => h) (fun _ h => h.elim) ?aF ?aB ?aS ?aL ?_; (case aR => exact zc (Kd.C_below HR0_0.out HB.out)); (case aB => exact (zb HB.out)); (case aF => exact (fun _ _ => trivial)); (case aO => exact (zr HO206.out)); (case aS => exact (below_size (zb HB.out))); (case aL => have := LMc2.out; omega); intro v208 w9 ho hb hg hat; rw [← Ny207.out] at ho; have n0_ := Aside0.mk (blk_grown (zh BK202.out) hg (Kd.R_ne HO206.out BK202.out (by decide))); have n1_ := Aside0.mk (blk_grown (zh BK203.out) hg (Kd.R_ne HO206.out BK203.out (by decide))); have n2_ := Aside0.mk (hb); have n3_ := Aside0.mk (ho); clear BK202; clear BK203; clear HB; clear HO206; have BK202 := n0_; have BK203 := n1_; have HB := n2_; have HO209 := n3_; clear n0_ n1_ n2_ n3_; clear ho hb hg hat; obtain ⟨Ao10, co10, eo10⟩ := Kd.R_slice HO209.out; subst eo10; have hcz11_0 : w9.cell? ⟨gb203, 0, none⟩ = some (.slice none 0 0) := (blk_cell BK203.out 0).trans rfl; have hfz11_0 := blk_frozen BK203.out 0))
  refine bodyPost_ret (results_cell_row rfl _ _ gb203 31 #[.slice Ao10 y207.length co10] (0, 0) _ rfl (by (with_reducible repeat (first | refine blk_drewN ?_ _ | refine blk_drew ?_ | refine blk_alloc ?_ _)); refine blk_put (cs := #[.slice none 0 0]) ?_ 0 _ rfl; (with_reducible repeat (first | refine blk_drewN ?_ _ | refine blk_drew ?_ | refine blk_alloc ?_ _)); exact BK203.out) Try.underlying31 rfl (by kernel_rfl)) rfl ?_
  exact ⟨_, ze, zr (Kd.R_mono (Kd.R_far (p := ⟨gb203, 0, none⟩) (Kd.R_types HO209.out BK203.out (by decide)) (fun _ hk => hk.2) (.slice Ao10 y207.length co10)) (fun _ hk => trivial)), zb HB.out⟩
 ·rw [if_neg c2] at H
  exact absurd H (by simp)

end Go.Proofs.Ytilnfdnigjblcaa.M
end

section
-- Written by this session's program (wip/tools/gprint.py over the kit's print) out of the translation; Lean checks it.
namespace Go.Proofs.Ytilnfdnigjblcaa.M
open Go.RowKit Go.Proofs.YtilnfdnigjblcaaW.PrintWords Go.Proofs.YtilnfdnigjblcaaW.PrintLast Go.Proofs.YtilnfdnigjblcaaW.PrintMore
attribute [local go_sem] max2_int min2_int max_two min_two max_three min_three max_four min_four   -- for this text's walks alone
set_option linter.unusedVariables false
set_option linter.unusedSimpArgs false
set_option maxRecDepth 100000

/-! ### spec_l1Add: function 71 -/
mutual
def spec_l1Add.j0 : Nat → Bool → List (S67) → Int → Int → Int → Option ((List (S67)) × Int)
 | 0, _, _, _, _, _ => none
 | k + 1, x17, x211000, x212000, x212001, x212002 => if x17 = true then (spec_l1Add.j1 k x211000 x212000 x212002 x212001) else (spec_l1Add.j1 k x211000 x212000 x212001 x212002)
def spec_l1Add.j1 : Nat → List (S67) → Int → Int → Int → Option ((List (S67)) × Int)
 | 0, _, _, _, _ => none
 | k + 1, x211000, x212000, x212001, x212002 => (spec_l1Find.f k x211000 x212000 x212001 x212002).bind fun t213 => (if t213 ≥ 0 then (some (x211000, t213)) else ((spec_l1Right.f k x212000 x212001 x212002 (x211000.length : Int)).bind fun t214 => (if t214 = true then (if (x211000.length : Int) = 500 then (some (x211000, (-1))) else ((spec_l1Copy.f x211000).bind fun t215 => (if t215.length < 5864062014805 then (some ((t215 ++ [(⟨x212000, x212001, x212002⟩ : S67)]), (x211000.length : Int))) else (none)))) else (some (x211000, (-1))))))
end
def spec_l1Add.f (k : Nat) (l0_0 : List (S67)) (a1_0 : Int) (a1_1 : Int) (a1_2 : Int) : Option ((List (S67)) × Int) := if a1_0 = 8 then (spec_l1Add.j0 k (decide (a1_1 > a1_2)) l0_0 a1_0 a1_1 a1_2) else (spec_l1Add.j0 k false l0_0 a1_0 a1_1 a1_2)
theorem spec_l1Add.mono_l : ∀ k, (∀ y0 y1 y2 y3 y4, LeO (spec_l1Add.j0 k y0 y1 y2 y3 y4) (spec_l1Add.j0 (k + 1) y0 y1 y2 y3 y4)) ∧ (∀ y0 y1 y2 y3, LeO (spec_l1Add.j1 k y0 y1 y2 y3) (spec_l1Add.j1 (k + 1) y0 y1 y2 y3))
 | 0 => ⟨fun _ _ _ _ _ r h => by simp [spec_l1Add.j0] at h, fun _ _ _ _ r h => by simp [spec_l1Add.j1] at h⟩
 | k + 1 => by
  obtain ⟨ih0, ih1⟩ := spec_l1Add.mono_l k
  refine ⟨?_, ?_⟩
  ·intro y0 y1 y2 y3 y4
   unfold spec_l1Add.j0
   repeat' first
   | (with_reducible exact ih0 _ _ _ _ _)
   | (with_reducible exact ih1 _ _ _ _)
   | (with_reducible exact spec_l1Find.mono _ _ _ _ _)
   | (with_reducible exact spec_l1Right.mono _ _ _ _ _)
   | (with_reducible exact LeO.refl _)
   | (with_reducible exact LeO.none _)
   | (with_reducible refine LeO.ite ?_ ?_)
   | (with_reducible refine LeO.bind ?_ (fun _ => ?_))
   | exact ih0 _ _ _ _ _
   | exact ih1 _ _ _ _
   | exact spec_l1Find.mono _ _ _ _ _
   | exact spec_l1Right.mono _ _ _ _ _
   | exact LeO.none _
   | refine LeO.ite ?_ ?_
   | refine LeO.bind ?_ (fun _ => ?_)
  ·intro y0 y1 y2 y3
   unfold spec_l1Add.j1
   repeat' first
   | (with_reducible exact ih0 _ _ _ _ _)
   | (with_reducible exact ih1 _ _ _ _)
   | (with_reducible exact spec_l1Find.mono _ _ _ _ _)
   | (with_reducible exact spec_l1Right.mono _ _ _ _ _)
   | (with_reducible exact LeO.refl _)
   | (with_reducible exact LeO.none _)
   | (with_reducible refine LeO.ite ?_ ?_)
   | (with_reducible refine LeO.bind ?_ (fun _ => ?_))
   | exact ih0 _ _ _ _ _
   | exact ih1 _ _ _ _
   | exact spec_l1Find.mono _ _ _ _ _
   | exact spec_l1Right.mono _ _ _ _ _
   | exact LeO.none _
   | refine LeO.ite ?_ ?_
   | refine LeO.bind ?_ (fun _ => ?_)
theorem spec_l1Add.mono : ∀ a0 a1 a2 a3 k, LeO (spec_l1Add.f k a0 a1 a2 a3) (spec_l1Add.f (k + 1) a0 a1 a2 a3) := by
 intro a0 a1 a2 a3 k
 obtain ⟨ih0, ih1⟩ := spec_l1Add.mono_l k
 unfold spec_l1Add.f
 repeat' first
   | (with_reducible exact ih0 _ _ _ _ _)
   | (with_reducible exact ih1 _ _ _ _)
   | (with_reducible exact spec_l1Find.mono _ _ _ _ _)
   | (with_reducible exact spec_l1Right.mono _ _ _ _ _)
   | (with_reducible exact LeO.refl _)
   | (with_reducible exact LeO.none _)
   | (with_reducible refine LeO.ite ?_ ?_)
   | (with_reducible refine LeO.bind ?_ (fun _ => ?_))
   | exact ih0 _ _ _ _ _
   | exact ih1 _ _ _ _
   | exact spec_l1Find.mono _ _ _ _ _
   | exact spec_l1Right.mono _ _ _ _ _
   | exact LeO.none _
   | refine LeO.ite ?_ ?_
   | refine LeO.bind ?_ (fun _ => ?_)
set_option maxHeartbeats 8000000 in
set_option maxRecDepth 100000 in
theorem spec_l1Add.calls (k : Nat) (P0_0_ : Nat → Prop) (u9000_ : Value) (l0_0 : List (S67)) (a1_0 : Int) (a1_1 : Int) (a1_2 : Int) (r1 : List (S67)) (r2 : Int) (w0 w : World) (hB : Below w0.heap.size w0 w) (ho0_0 : Kd.R k67 67 w w0.heap.size P0_0_ u9000_ l0_0) (h : spec_l1Add.f k l0_0 a1_0 a1_1 a1_2 = some (r1, r2)) :
  Calls Try.prog 71 #[.agg #[u9000_], .agg #[.int .i64 a1_0, .int .i64 a1_1, .int .i64 a1_2]] w fun e w' => ∃ v0_ : Value, e = .returned (.tuple #[.agg #[v0_], .int .i64 r2]) ∧ Kd.R k67 67 w' w0.heap.size (fun k_ => (P0_0_ k_ ∨ w.heap.size ≤ k_)) v0_ r1 ∧ Below w0.heap.size w0 w' ∧ Kept w w' (fun k_ => P0_0_ k_) := by
 have hu31 := Try.underlying31
 have hu67 := Try.underlying67
 have HO0_0 := Aside0.mk (show Kd.R k67 67 w w0.heap.size (fun k_ => (P0_0_ k_ ∨ w.heap.size ≤ k_)) u9000_ l0_0 from Kd.R_mono ho0_0 (fun k_ hk => (.inl hk)))
 have HK := Aside0.mk (Kept.refl w (fun k_ => P0_0_ k_))
 have HW0 := Aside0.mk hB.size
 have HB := Aside0.mk hB
 clear hB
 have H : (if a1_0 = 8 then (spec_l1Add.j0 k (decide (a1_1 > a1_2)) l0_0 a1_0 a1_1 a1_2) else (spec_l1Add.j0 k false l0_0 a1_0 a1_1 a1_2)) = some (r1, r2) := h
 clear h
 have HC3 := Aside0.mk H
 clear H
 obtain ⟨Ao4, co4, eo4⟩ := Kd.R_slice HO0_0.out
 subst eo4
 go_enter Try.func71, Try.ntmps71
 go_upto_region 1 with (first | ((with_reducible refine gate_dst (N := 2) rfl ?_); (try (refine gate_guard (by rfl) ?_; dsimp only)); refine box_event ?hg (N := 2) ?hd (cs := #[.slice Ao4 l0_0.length co4]) (t := 31) ?hr ?_; (case hd => rfl); (case hg => rfl); (case hr => first | (go_simp; done) | (go_simp; rfl)); intro gb210 hg w5 hbox hb; have n0_ := Aside0.mk (Kd.R_below (zr HO0_0.out) hb); have n1_ := Aside0.mk (Kept.below (S := (fun k_ => P0_0_ k_)) (zk HK.out) hb); have n2_ := Aside0.mk (below_step (zb HB.out) hb); have n3_ := Aside0.mk (hbox); have n4_ := Aside0.mk ((by rw [hg]; exact (by first | exact HK.out.1 | exact (show Kept w _ (fun k_ => P0_0_ k_) from zk HK.out).1) : w.heap.size ≤ gb210)); have n5_ := Aside0.mk ((by rw [hg]; exact (below_size (zb HB.out)) : w0.heap.size ≤ gb210)); clear HO0_0; clear HK; clear HB; have HO0_0 := n0_; have HK := n1_; have HB := n2_; have BK210 := n3_; have GW210 := n4_; have GE210 := n5_; clear n0_ n1_ n2_ n3_ n4_ n5_; clear hb hbox hg) | ((with_reducible refine gate_dst (N := 3) rfl ?_); (try (refine gate_guard (by rfl) ?_; dsimp only)); refine box_event ?hg (N := 3) ?hd (cs := #[.int .i64 a1_0, .int .i64 a1_1, .int .i64 a1_2]) (t := 67) ?hr ?_; (case hd => rfl); (case hg => rfl); (case hr => first | (go_simp; done) | (go_simp; rfl)); intro gb211 hg w6 hbox hb; have n0_ := Aside0.mk (Kd.R_below (Kd.R_elderB (zr HO0_0.out) gb211 (Nat.le_of_eq hg.symm)) hb); have n1_ := Aside0.mk (blk_below (zh BK210.out) hb); have n2_ := Aside0.mk (Kept.below (S := (fun k_ => P0_0_ k_)) (zk HK.out) hb); have n3_ := Aside0.mk (below_step (zb HB.out) hb); have n4_ := Aside0.mk (hbox); have n5_ := Aside0.mk ((by rw [hg]; exact (by first | exact HK.out.1 | exact (show Kept w _ (fun k_ => P0_0_ k_) from zk HK.out).1) : w.heap.size ≤ gb211)); have n6_ := Aside0.mk ((by rw [hg]; exact (below_size (zb HB.out)) : w0.heap.size ≤ gb211)); have n7_ := Aside0.mk ((by rw [hg]; exact Nat.ne_of_lt (blk_lt (zh BK210.out)) : gb210 ≠ gb211)); have n8_ := Aside0.mk ((by rw [hg]; exact Nat.ne_of_gt (blk_lt (zh BK210.out)) : gb211 ≠ gb210)); clear HO0_0; clear BK210; clear HK; clear HB; have HO0_0 := n0_; have BK210 := n1_; have HK := n2_; have HB := n3_; have BK211 := n4_; have GW211 := n5_; have GE211 := n6_; have NB210_211 := n7_; have NB211_210 := n8_; clear n0_ n1_ n2_ n3_ n4_ n5_ n6_ n7_ n8_; clear hb hbox hg) | ((with_reducible refine gate_dst (N := 4) rfl ?_); (try (refine gate_guard (by rfl) ?_; dsimp only)); refine box_event ?hg (N := 4) ?hd (cs := #[.slice none 0 0]) (t := 31) ?hr ?_; (case hd => rfl); (case hg => rfl); (case hr => first | (go_simp; done) | (go_simp; rfl)); intro gb212 hg w7 hbox hb; have n0_ := Aside0.mk (Kd.R_below (zr HO0_0.out) hb); have n1_ := Aside0.mk (blk_below (zh BK210.out) hb); have n2_ := Aside0.mk (blk_below (zh BK211.out) hb); have n3_ := Aside0.mk (Kept.below (S := (fun k_ => P0_0_ k_)) (zk HK.out) hb); have n4_ := Aside0.mk (below_step (zb HB.out) hb); have n5_ := Aside0.mk (hbox); have n6_ := Aside0.mk ((by rw [hg]; exact (by first | exact HK.out.1 | exact (show Kept w _ (fun k_ => P0_0_ k_) from zk HK.out).1) : w.heap.size ≤ gb212)); have n7_ := Aside0.mk ((by rw [hg]; exact (below_size (zb HB.out)) : w0.heap.size ≤ gb212)); have n8_ := Aside0.mk ((by rw [hg]; exact Nat.ne_of_lt (blk_lt (zh BK210.out)) : gb210 ≠ gb212)); have n9_ := Aside0.mk ((by rw [hg]; exact Nat.ne_of_gt (blk_lt (zh BK210.out)) : gb212 ≠ gb210)); have n10_ := Aside0.mk ((by rw [hg]; exact Nat.ne_of_lt (blk_lt (zh BK211.out)) : gb211 ≠ gb212)); have n11_ := Aside0.mk ((by rw [hg]; exact Nat.ne_of_gt (blk_lt (zh BK211.out)) : gb212 ≠ gb211)); clear HO0_0; clear BK210; clear BK211; clear HK; clear HB; have HO0_0 := n0_; have BK210 := n1_; have BK211 := n2_; have HK := n3_; have HB := n4_; have BK212 := n5_; have GW212 := n6_; have GE212 := n7_; have NB210_212 := n8_; have NB212_210 := n9_; have NB211_212 := n10_; have NB212_211 := n11_; clear n0_ n1_ n2_ n3_ n4_ n5_ n6_ n7_ n8_ n9_ n10_ n11_; clear hb hbox hg))
 (try simp only [Act.put, List.setIfInBounds_toArray, List.set_cons_zero, List.set_cons_succ])
 go_cut [17] (fun v17 wc => ∃ (kq : Nat) (x17_2 : Bool), v17 = .bool x17_2 ∧ Aside0 (spec_l1Add.j0 kq x17_2 l0_0 a1_0 a1_1 a1_2 = some (r1, r2)) ∧ Aside0 (kq ≤ k) ∧ Aside0 (Kd.R k67 67 wc w0.heap.size (fun k_ => (P0_0_ k_ ∨ w.heap.size ≤ k_) ∧ k_ ≠ gb211) (.slice Ao4 l0_0.length co4) l0_0) ∧ Aside0 (wc.heap[gb210]? = some (.cells #[(.slice Ao4 l0_0.length co4)] 31 (0, 0))) ∧ Aside0 (wc.heap[gb211]? = some (.cells #[.int .i64 a1_0, .int .i64 a1_1, .int .i64 a1_2] 67 (0, 0))) ∧ Aside0 (wc.heap[gb212]? = some (.cells #[(.slice none 0 0)] 31 (0, 0))) ∧ Aside0 (Kept w wc (fun k_ => P0_0_ k_)) ∧ Aside0 (Below w0.heap.size w0 wc))
 case first =>
  have H := HC3.out
  clear HC3
  by_cases c8 : a1_0 = 8
  ·rw [if_pos c8] at H
   have c8b0 : (a1_0 == 8) = true := beq_iff_eq.mpr c8
   have c8b1 : (a1_0 != 8) = false := bne_eq_false_iff_eq.mpr c8
   clear c8
   (first | rw [c8b0] | (simp only [i64_w, i32_w]; rw [c8b0]) | skip)
   have H' := Aside0.mk H
   clear H
   have hnb9 := NB211_210.out
   have hnc9 := NB210_211.out
   have hnb10 := NB211_212.out
   have hnc10 := NB212_211.out
   have hcz11_0 : w7.cell? ⟨gb211, 0, none⟩ = some (.int .i64 a1_0) := (blk_cell BK211.out 0).trans rfl
   have hcz11_1 : w7.cell? ⟨gb211, 1, none⟩ = some (.int .i64 a1_1) := (blk_cell BK211.out 1).trans rfl
   have hcz11_2 : w7.cell? ⟨gb211, 2, none⟩ = some (.int .i64 a1_2) := (blk_cell BK211.out 2).trans rfl
   have hfz11_0 := blk_frozen BK211.out 0
   have hfz11_1 := blk_frozen BK211.out 1
   have hfz11_2 := blk_frozen BK211.out 2
   go_wp2
   go_meet
   case rel => exact ⟨_, (decide (a1_1 > a1_2)), (by first | rfl | (simp; done) | (simp [*]; done)), H', ⟨by first | omega | exact Nat.le_refl _⟩, ⟨zr HO0_0.out⟩, ⟨zh BK210.out⟩, ⟨zh BK211.out⟩, ⟨zh BK212.out⟩, ⟨zk HK.out⟩, ⟨zb HB.out⟩⟩
  ·rw [if_neg c8] at H
   have c8b0 : (a1_0 == 8) = false := beq_eq_false_iff_ne.mpr c8
   have c8b1 : (a1_0 != 8) = true := bne_iff_ne.mpr c8
   (first | rw [c8b0] | (simp only [i64_w, i32_w]; rw [c8b0]) | skip)
   have H' := Aside0.mk H
   clear H
   have hnb12 := NB211_210.out
   have hnc12 := NB210_211.out
   have hnb13 := NB211_212.out
   have hnc13 := NB212_211.out
   have hcz14_0 : w7.cell? ⟨gb211, 0, none⟩ = some (.int .i64 a1_0) := (blk_cell BK211.out 0).trans rfl
   have hcz14_1 : w7.cell? ⟨gb211, 1, none⟩ = some (.int .i64 a1_1) := (blk_cell BK211.out 1).trans rfl
   have hcz14_2 : w7.cell? ⟨gb211, 2, none⟩ = some (.int .i64 a1_2) := (blk_cell BK211.out 2).trans rfl
   have hfz14_0 := blk_frozen BK211.out 0
   have hfz14_1 := blk_frozen BK211.out 1
   have hfz14_2 := blk_frozen BK211.out 2
   go_wp2
   go_meet
   case rel => exact ⟨_, (false), (by first | rfl | (simp; done) | (simp [*]; done)), H', ⟨by first | omega | exact Nat.le_refl _⟩, ⟨zr HO0_0.out⟩, ⟨zh BK210.out⟩, ⟨zh BK211.out⟩, ⟨zh BK212.out⟩, ⟨zk HK.out⟩, ⟨zb HB.out⟩⟩
 case rest =>
  clear HC3
  try clear c1
  try clear p2
  try clear c7
  try clear c8
  try clear c8b0
  try clear c8b1
  try clear c9
  try clear c10
  try clear c12
  try clear c13
  try clear hcz11_0
  try clear hcz11_1
  try clear hcz11_2
  try clear hcz14_0
  try clear hcz14_1
  try clear hcz14_2
  try clear hfz11_0
  try clear hfz11_1
  try clear hfz11_2
  try clear hfz14_0
  try clear hfz14_1
  try clear hfz14_2
  obtain ⟨kq, x17_2, rfl, HA, HJ2, HO_211000, BK210, BK211, BK212, HK, HB⟩ := hcut
  cases kq with
  | zero => exact absurd HA.out (by simp [spec_l1Add.j0])
  | succ kj2 =>
   have H := HA.out
   clear HA
   simp only [spec_l1Add.j0] at H
   have HC15 := Aside0.mk H
   clear H
   go_upto_if 17 with (fail)
   go_cut [] (fun wc => ∃ (kq : Nat) (x212000_14 : Int) (x212001_14 : Int) (x212002_14 : Int), Aside0 (spec_l1Add.j1 kq l0_0 x212000_14 x212001_14 x212002_14 = some (r1, r2)) ∧ Aside0 (kq ≤ kj2) ∧ Aside0 (Kd.R k67 67 wc w0.heap.size (fun k_ => (P0_0_ k_ ∨ w.heap.size ≤ k_) ∧ k_ ≠ gb211) (.slice Ao4 l0_0.length co4) l0_0) ∧ Aside0 (wc.heap[gb210]? = some (.cells #[(.slice Ao4 l0_0.length co4)] 31 (0, 0))) ∧ Aside0 (wc.heap[gb211]? = some (.cells #[.int .i64 x212000_14, .int .i64 x212001_14, .int .i64 x212002_14] 67 (0, 0))) ∧ Aside0 (wc.heap[gb212]? = some (.cells #[(.slice none 0 0)] 31 (0, 0))) ∧ Aside0 (Kept w wc (fun k_ => P0_0_ k_)) ∧ Aside0 (Below w0.heap.size w0 wc))
   case first =>
    have H := HC15.out
    clear HC15
    by_cases c16 : x17_2 = true
    ·subst c16
     have H1 : (spec_l1Add.j1 kj2 l0_0 a1_0 a1_2 a1_1) = some (r1, r2) := by rw [if_pos rfl] at H; exact H
     clear H
     have H := H1
     clear H1
     have H' := Aside0.mk H
     clear H
     have hnb17 := NB211_210.out
     have hnc17 := NB210_211.out
     have hnb18 := NB211_212.out
     have hnc18 := NB212_211.out
     have hcz19_0 : wc.cell? ⟨gb211, 0, none⟩ = some (.int .i64 a1_0) := (blk_cell BK211.out 0).trans rfl
     have hcz19_1 : wc.cell? ⟨gb211, 1, none⟩ = some (.int .i64 a1_1) := (blk_cell BK211.out 1).trans rfl
     have hcz19_2 : wc.cell? ⟨gb211, 2, none⟩ = some (.int .i64 a1_2) := (blk_cell BK211.out 2).trans rfl
     have hfz19_0 := blk_frozen BK211.out 0
     have hfz19_1 := blk_frozen BK211.out 1
     have hfz19_2 := blk_frozen BK211.out 2
     go_wp2
     go_meet
     case rel => exact ⟨_, (a1_0), (a1_2), (a1_1), H', ⟨by have := HJ2.out; first | omega | exact Nat.le_refl _⟩, ⟨zr (Kd.R_mono (Kd.R_far (p := ⟨gb211, 2, none⟩) (Kd.R_far (p := ⟨gb211, 1, none⟩) (Kd.R_far (p := ⟨gb211, 0, none⟩) (Kd.R_mono HO_211000.out (fun k_ hk => (⟨hk, hk.2⟩ : _ ∧ k_ ≠ gb211))) (fun _ hk => hk.2) (.int .i64 a1_0)) (fun _ hk => hk.2) (.int .i64 a1_2)) (fun _ hk => hk.2) (.int .i64 a1_1)) (fun _ hk => ⟨hk.1.1, hk.1.2⟩))⟩, ⟨zf BK210.out⟩, ⟨by (with_reducible repeat (first | refine blk_drewN ?_ _ | refine blk_drew ?_ | refine blk_alloc ?_ _)); refine blk_put (cs := #[.int .i64 a1_0, .int .i64 a1_2, .int .i64 a1_2]) ?_ 2 _ rfl; (with_reducible repeat (first | refine blk_drewN ?_ _ | refine blk_drew ?_ | refine blk_alloc ?_ _)); refine blk_put (cs := #[.int .i64 a1_0, .int .i64 a1_1, .int .i64 a1_2]) ?_ 1 _ rfl; (with_reducible repeat (first | refine blk_drewN ?_ _ | refine blk_drew ?_ | refine blk_alloc ?_ _)); refine blk_put (cs := #[.int .i64 a1_0, .int .i64 a1_1, .int .i64 a1_2]) ?_ 0 _ rfl; (with_reducible repeat (first | refine blk_drewN ?_ _ | refine blk_drew ?_ | refine blk_alloc ?_ _)); exact BK211.out⟩, ⟨zf BK212.out⟩, ⟨zk HK.out⟩, ⟨zb HB.out⟩⟩
    ·replace c16 := Bool.eq_false_iff.mpr c16
     subst c16
     have H1 : (spec_l1Add.j1 kj2 l0_0 a1_0 a1_1 a1_2) = some (r1, r2) := by rw [if_neg (show ¬ (false = true) by decide)] at H; exact H
     clear H
     have H := H1
     clear H1
     have H' := Aside0.mk H
     clear H
     go_wp2
     go_meet
     case rel => exact ⟨_, (a1_0), (a1_1), (a1_2), H', ⟨by have := HJ2.out; first | omega | exact Nat.le_refl _⟩, ⟨zr HO_211000.out⟩, ⟨zh BK210.out⟩, ⟨zh BK211.out⟩, ⟨zh BK212.out⟩, ⟨zk HK.out⟩, ⟨zb HB.out⟩⟩
   case rest =>
    clear HC15
    try clear c1
    try clear p2
    try clear c7
    try clear c8
    try clear c8b0
    try clear c8b1
    try clear c9
    try clear c10
    try clear c12
    try clear c13
    try clear c16
    try clear c17
    try clear c18
    try clear hcz11_0
    try clear hcz11_1
    try clear hcz11_2
    try clear hcz14_0
    try clear hcz14_1
    try clear hcz14_2
    try clear hcz19_0
    try clear hcz19_1
    try clear hcz19_2
    try clear hfz11_0
    try clear hfz11_1
    try clear hfz11_2
    try clear hfz14_0
    try clear hfz14_1
    try clear hfz14_2
    try clear hfz19_0
    try clear hfz19_1
    try clear hfz19_2
    try clear p2
    obtain ⟨kq, x212000_14, x212001_14, x212002_14, HA, HJ14, HO_211000, BK210, BK211, BK212, HK, HB⟩ := hcut
    cases kq with
    | zero => exact absurd HA.out (by simp [spec_l1Add.j1])
    | succ kj14 =>
     have H := HA.out
     clear HA
     simp only [spec_l1Add.j1] at H
     replace H := Option.bind_eq_some_iff.mp H
     obtain ⟨t213, A200, H⟩ := H
     replace H : (if t213 ≥ 0 then (some (l0_0, t213)) else ((spec_l1Right.f kj14 x212000_14 x212001_14 x212002_14 (l0_0.length : Int)).bind fun t214 => (if t214 = true then (if (l0_0.length : Int) = 500 then (some (l0_0, (-1))) else ((spec_l1Copy.f l0_0).bind fun t215 => (if t215.length < 5864062014805 then (some ((t215 ++ [(⟨x212000_14, x212001_14, x212002_14⟩ : S67)]), (l0_0.length : Int))) else (none)))) else (some (l0_0, (-1)))))) = some (r1, r2) := H
     have A20 := Aside0.mk A200
     clear A200
     by_cases c21 : t213 ≥ 0
     ·rw [if_pos c21] at H
      have c21b0 : decide (0 ≤ t213) = true := decide_eq_true c21
      clear c21
      simp only [Option.some.injEq, Prod.mk.injEq] at H
      obtain ⟨rfl, rfl⟩ := H
      have hnb22 := NB210_211.out
      have hnc22 := NB211_210.out
      have hnb23 := NB210_212.out
      have hnc23 := NB212_210.out
      have hcz24_0 : wc.cell? ⟨gb210, 0, none⟩ = some (.slice Ao4 l0_0.length co4) := (blk_cell BK210.out 0).trans rfl
      have hfz24_0 := blk_frozen BK210.out 0
      have hnb25 := NB211_212.out
      have hnc25 := NB212_211.out
      have hcz26_0 : wc.cell? ⟨gb211, 0, none⟩ = some (.int .i64 x212000_14) := (blk_cell BK211.out 0).trans rfl
      have hcz26_1 : wc.cell? ⟨gb211, 1, none⟩ = some (.int .i64 x212001_14) := (blk_cell BK211.out 1).trans rfl
      have hcz26_2 : wc.cell? ⟨gb211, 2, none⟩ = some (.int .i64 x212002_14) := (blk_cell BK211.out 2).trans rfl
      have hfz26_0 := blk_frozen BK211.out 0
      have hfz26_1 := blk_frozen BK211.out 1
      have hfz26_2 := blk_frozen BK211.out 2
      go_wp2_with (first | ((with_reducible refine gate_callee (f := 65) rfl ?_); refine goesL_ (some 27) rfl rfl Try.func65 (by kernel_rfl) rfl #[.agg #[.slice Ao4 l0_0.length co4], .agg #[.int .i64 x212000_14, .int .i64 x212001_14, .int .i64 x212002_14]] rfl zl ?_; (with_reducible refine (spec_l1Find.calls kj14 _ _ l0_0 x212000_14 x212001_14 x212002_14 t213 _ ?side1 ?side2 A20.out).mono ?_); (case side1 => exact zc (Kd.R_reads' HO_211000.out).2.2); (case side2 => exact (Kd.R_reads' HO_211000.out).2.1); rintro e w27 ⟨rfl, hb⟩; refine ⟨_, rfl, ?_⟩; have n0_ := Aside0.mk (Kd.R_below (zr HO_211000.out) hb); have n1_ := Aside0.mk (blk_below (zh BK210.out) hb); have n2_ := Aside0.mk (blk_below (zh BK211.out) hb); have n3_ := Aside0.mk (blk_below (zh BK212.out) hb); have n4_ := Aside0.mk (Kept.below (S := (fun k_ => P0_0_ k_)) (zk HK.out) hb); have n5_ := Aside0.mk (below_step (zb HB.out) hb); clear HO_211000; clear BK210; clear BK211; clear BK212; clear HK; clear HB; have HO_211000 := n0_; have BK210 := n1_; have BK211 := n2_; have BK212 := n3_; have HK := n4_; have HB := n5_; clear n0_ n1_ n2_ n3_ n4_ n5_; (try clear hb); (try clear hb2); (try clear hk); (try clear hi); have hcz28_0 : w27.cell? ⟨gb210, 0, none⟩ = some (.slice Ao4 l0_0.length co4) := (blk_cell BK210.out 0).trans rfl; have hfz28_0 := blk_frozen BK210.out 0; have hcz29_0 : w27.cell? ⟨gb212, 0, none⟩ = some (.slice none 0 0) := (blk_cell BK212.out 0).trans rfl; have hfz29_0 := blk_frozen BK212.out 0))
      refine bodyPost_ret (results_ct rfl _ _ gb212 31 #[.slice Ao4 l0_0.length co4] (0, 0) _ rfl (by (with_reducible repeat (first | refine blk_drewN ?_ _ | refine blk_drew ?_ | refine blk_alloc ?_ _)); refine blk_put (cs := #[.slice none 0 0]) ?_ 0 _ rfl; (with_reducible repeat (first | refine blk_drewN ?_ _ | refine blk_drew ?_ | refine blk_alloc ?_ _)); exact BK212.out) Try.underlying31 rfl (by kernel_rfl)) rfl ?_
      exact ⟨_, ze, zr (Kd.R_mono (Kd.R_far (p := ⟨gb212, 0, none⟩) (Kd.R_types HO_211000.out BK212.out (by decide)) (fun _ hk => hk.2) (.slice Ao4 l0_0.length co4)) (fun _ hk => hk.1.1)), zb HB.out, zk HK.out⟩
     ·rw [if_neg c21] at H
      have c21b0 : decide (0 ≤ t213) = false := decide_eq_false c21
      clear c21
      replace H := Option.bind_eq_some_iff.mp H
      obtain ⟨t214, A300, H⟩ := H
      replace H : (if t214 = true then (if (l0_0.length : Int) = 500 then (some (l0_0, (-1))) else ((spec_l1Copy.f l0_0).bind fun t215 => (if t215.length < 5864062014805 then (some ((t215 ++ [(⟨x212000_14, x212001_14, x212002_14⟩ : S67)]), (l0_0.length : Int))) else (none)))) else (some (l0_0, (-1)))) = some (r1, r2) := H
      have A30 := Aside0.mk A300
      clear A300
      by_cases c31 : t214 = true
      ·subst c31
       have H1 : (if (l0_0.length : Int) = 500 then (some (l0_0, (-1))) else ((spec_l1Copy.f l0_0).bind fun t215 => (if t215.length < 5864062014805 then (some ((t215 ++ [(⟨x212000_14, x212001_14, x212002_14⟩ : S67)]), (l0_0.length : Int))) else (none)))) = some (r1, r2) := by rw [if_pos rfl] at H; exact H
       clear H
       have H := H1
       clear H1
       by_cases c32 : (l0_0.length : Int) = 500
       ·rw [if_pos c32] at H
        have c32b0 : ((l0_0.length : Int) == 500) = true := beq_iff_eq.mpr c32
        have c32b1 : ((l0_0.length : Int) != 500) = false := bne_eq_false_iff_eq.mpr c32
        clear c32
        simp only [Option.some.injEq, Prod.mk.injEq] at H
        obtain ⟨rfl, rfl⟩ := H
        have hnb33 := NB210_211.out
        have hnc33 := NB211_210.out
        have hnb34 := NB210_212.out
        have hnc34 := NB212_210.out
        have hcz35_0 : wc.cell? ⟨gb210, 0, none⟩ = some (.slice Ao4 l0_0.length co4) := (blk_cell BK210.out 0).trans rfl
        have hfz35_0 := blk_frozen BK210.out 0
        have hnb36 := NB211_212.out
        have hnc36 := NB212_211.out
        have hcz37_0 : wc.cell? ⟨gb211, 0, none⟩ = some (.int .i64 x212000_14) := (blk_cell BK211.out 0).trans rfl
        have hcz37_1 : wc.cell? ⟨gb211, 1, none⟩ = some (.int .i64 x212001_14) := (blk_cell BK211.out 1).trans rfl
        have hcz37_2 : wc.cell? ⟨gb211, 2, none⟩ = some (.int .i64 x212002_14) := (blk_cell BK211.out 2).trans rfl
        have hfz37_0 := blk_frozen BK211.out 0
        have hfz37_1 := blk_frozen BK211.out 1
        have hfz37_2 := blk_frozen BK211.out 2
        go_wp2_with (first | ((with_reducible refine gate_callee (f := 65) rfl ?_); refine goesL_ (some 27) rfl rfl Try.func65 (by kernel_rfl) rfl #[.agg #[.slice Ao4 l0_0.length co4], .agg #[.int .i64 x212000_14, .int .i64 x212001_14, .int .i64 x212002_14]] rfl zl ?_; (with_reducible refine (spec_l1Find.calls kj14 _ _ l0_0 x212000_14 x212001_14 x212002_14 t213 _ ?side1 ?side2 A20.out).mono ?_); (case side1 => exact zc (Kd.R_reads' HO_211000.out).2.2); (case side2 => exact (Kd.R_reads' HO_211000.out).2.1); rintro e w38 ⟨rfl, hb⟩; refine ⟨_, rfl, ?_⟩; have n0_ := Aside0.mk (Kd.R_below (zr HO_211000.out) hb); have n1_ := Aside0.mk (blk_below (zh BK210.out) hb); have n2_ := Aside0.mk (blk_below (zh BK211.out) hb); have n3_ := Aside0.mk (blk_below (zh BK212.out) hb); have n4_ := Aside0.mk (Kept.below (S := (fun k_ => P0_0_ k_)) (zk HK.out) hb); have n5_ := Aside0.mk (below_step (zb HB.out) hb); clear HO_211000; clear BK210; clear BK211; clear BK212; clear HK; clear HB; have HO_211000 := n0_; have BK210 := n1_; have BK211 := n2_; have BK212 := n3_; have HK := n4_; have HB := n5_; clear n0_ n1_ n2_ n3_ n4_ n5_; (try clear hb); (try clear hb2); (try clear hk); (try clear hi); have hcz39_0 : w38.cell? ⟨gb211, 0, none⟩ = some (.int .i64 x212000_14) := (blk_cell BK211.out 0).trans rfl; have hcz39_1 : w38.cell? ⟨gb211, 1, none⟩ = some (.int .i64 x212001_14) := (blk_cell BK211.out 1).trans rfl; have hcz39_2 : w38.cell? ⟨gb211, 2, none⟩ = some (.int .i64 x212002_14) := (blk_cell BK211.out 2).trans rfl; have hfz39_0 := blk_frozen BK211.out 0; have hfz39_1 := blk_frozen BK211.out 1; have hfz39_2 := blk_frozen BK211.out 2; have hcz40_0 : w38.cell? ⟨gb210, 0, none⟩ = some (.slice Ao4 l0_0.length co4) := (blk_cell BK210.out 0).trans rfl; have hfz40_0 := blk_frozen BK210.out 0) | ((with_reducible refine gate_callee (f := 64) rfl ?_); refine goesL_ (some 36) rfl rfl Try.func64 (by kernel_rfl) rfl #[.agg #[.int .i64 x212000_14, .int .i64 x212001_14, .int .i64 x212002_14], .int .i64 (l0_0.length : Int)] rfl zl ?_; (with_reducible refine (spec_l1Right.calls kj14 x212000_14 x212001_14 x212002_14 (l0_0.length : Int) true _ A30.out).mono ?_); rintro e w41 ⟨rfl, hb⟩; refine ⟨_, rfl, ?_⟩; have n0_ := Aside0.mk (Kd.R_below (zr HO_211000.out) hb); have n1_ := Aside0.mk (blk_below (zh BK210.out) hb); have n2_ := Aside0.mk (blk_below (zh BK211.out) hb); have n3_ := Aside0.mk (blk_below (zh BK212.out) hb); have n4_ := Aside0.mk (Kept.below (S := (fun k_ => P0_0_ k_)) (zk HK.out) hb); have n5_ := Aside0.mk (below_step (zb HB.out) hb); clear HO_211000; clear BK210; clear BK211; clear BK212; clear HK; clear HB; have HO_211000 := n0_; have BK210 := n1_; have BK211 := n2_; have BK212 := n3_; have HK := n4_; have HB := n5_; clear n0_ n1_ n2_ n3_ n4_ n5_; (try clear hb); (try clear hb2); (try clear hk); (try clear hi); have hcz42_0 : w41.cell? ⟨gb210, 0, none⟩ = some (.slice Ao4 l0_0.length co4) := (blk_cell BK210.out 0).trans rfl; have hfz42_0 := blk_frozen BK210.out 0; have hcz43_0 : w41.cell? ⟨gb212, 0, none⟩ = some (.slice none 0 0) := (blk_cell BK212.out 0).trans rfl; have hfz43_0 := blk_frozen BK212.out 0))
        refine bodyPost_ret (results_ct rfl _ _ gb212 31 #[.slice Ao4 l0_0.length co4] (0, 0) _ rfl (by (with_reducible repeat (first | refine blk_drewN ?_ _ | refine blk_drew ?_ | refine blk_alloc ?_ _)); refine blk_put (cs := #[.slice none 0 0]) ?_ 0 _ rfl; (with_reducible repeat (first | refine blk_drewN ?_ _ | refine blk_drew ?_ | refine blk_alloc ?_ _)); exact BK212.out) Try.underlying31 rfl (by kernel_rfl)) rfl ?_
        exact ⟨_, ze, zr (Kd.R_mono (Kd.R_far (p := ⟨gb212, 0, none⟩) (Kd.R_types HO_211000.out BK212.out (by decide)) (fun _ hk => hk.2) (.slice Ao4 l0_0.length co4)) (fun _ hk => hk.1.1)), zb HB.out, zk HK.out⟩
       ·rw [if_neg c32] at H
        have c32b0 : ((l0_0.length : Int) == 500) = false := beq_eq_false_iff_ne.mpr c32
        have c32b1 : ((l0_0.length : Int) != 500) = true := bne_iff_ne.mpr c32
        replace H := Option.bind_eq_some_iff.mp H
        obtain ⟨t215, A440, H⟩ := H
        replace H : (if t215.length < 5864062014805 then (some ((t215 ++ [(⟨x212000_14, x212001_14, x212002_14⟩ : S67)]), (l0_0.length : Int))) else (none)) = some (r1, r2) := H
        have A44 := Aside0.mk A440
        clear A440
        by_cases c45 : t215.length < 5864062014805
        ·rw [if_pos c45] at H
         have LMc45 := Aside0.mk c45
         clear c45
         obtain ⟨y219, hy219⟩ : ∃ y_ : List (S67), y_ = (t215 ++ [(⟨x212000_14, x212001_14, x212002_14⟩ : S67)]) := ⟨_, rfl⟩
         replace H : (some (y219, (l0_0.length : Int))) = some (r1, r2) := by first | (rw [hy219]; with_reducible exact H) | (have H2_ := (Option.bind_some _ _).symm.trans H; rw [hy219]; with_reducible exact H2_) | (have H2_ := (Option.bind_some _ _).symm.trans H; with_reducible exact H2_) | with_reducible exact H | (rw [hy219]; exact H) | exact H
         have Ny219 := Aside0.mk hy219
         clear hy219
         simp only [Option.some.injEq, Prod.mk.injEq] at H
         obtain ⟨rfl, rfl⟩ := H
         have hnb46 := NB210_211.out
         have hnc46 := NB211_210.out
         have hnb47 := NB210_212.out
         have hnc47 := NB212_210.out
         have hcz48_0 : wc.cell? ⟨gb210, 0, none⟩ = some (.slice Ao4 l0_0.length co4) := (blk_cell BK210.out 0).trans rfl
         have hfz48_0 := blk_frozen BK210.out 0
         have hnb49 := NB211_212.out
         have hnc49 := NB212_211.out
         have hcz50_0 : wc.cell? ⟨gb211, 0, none⟩ = some (.int .i64 x212000_14) := (blk_cell BK211.out 0).trans rfl
         have hcz50_1 : wc.cell? ⟨gb211, 1, none⟩ = some (.int .i64 x212001_14) := (blk_cell BK211.out 1).trans rfl
         have hcz50_2 : wc.cell? ⟨gb211, 2, none⟩ = some (.int .i64 x212002_14) := (blk_cell BK211.out 2).trans rfl
         have hfz50_0 := blk_frozen BK211.out 0
         have hfz50_1 := blk_frozen BK211.out 1
         have hfz50_2 := blk_frozen BK211.out 2
         try go_wp2_with (first | ((with_reducible refine gate_callee (f := 65) rfl ?_); refine goesL_ (some 27) rfl rfl Try.func65 (by kernel_rfl) rfl #[.agg #[.slice Ao4 l0_0.length co4], .agg #[.int .i64 x212000_14, .int .i64 x212001_14, .int .i64 x212002_14]] rfl zl ?_; (with_reducible refine (spec_l1Find.calls kj14 _ _ l0_0 x212000_14 x212001_14 x212002_14 t213 _ ?side1 ?side2 A20.out).mono ?_); (case side1 => exact zc (Kd.R_reads' HO_211000.out).2.2); (case side2 => exact (Kd.R_reads' HO_211000.out).2.1); rintro e w51 ⟨rfl, hb⟩; refine ⟨_, rfl, ?_⟩; have n0_ := Aside0.mk (Kd.R_below (zr HO_211000.out) hb); have n1_ := Aside0.mk (blk_below (zh BK210.out) hb); have n2_ := Aside0.mk (blk_below (zh BK211.out) hb); have n3_ := Aside0.mk (blk_below (zh BK212.out) hb); have n4_ := Aside0.mk (Kept.below (S := (fun k_ => P0_0_ k_)) (zk HK.out) hb); have n5_ := Aside0.mk (below_step (zb HB.out) hb); clear HO_211000; clear BK210; clear BK211; clear BK212; clear HK; clear HB; have HO_211000 := n0_; have BK210 := n1_; have BK211 := n2_; have BK212 := n3_; have HK := n4_; have HB := n5_; clear n0_ n1_ n2_ n3_ n4_ n5_; (try clear hb); (try clear hb2); (try clear hk); (try clear hi); have hcz52_0 : w51.cell? ⟨gb211, 0, none⟩ = some (.int .i64 x212000_14) := (blk_cell BK211.out 0).trans rfl; have hcz52_1 : w51.cell? ⟨gb211, 1, none⟩ = some (.int .i64 x212001_14) := (blk_cell BK211.out 1).trans rfl; have hcz52_2 : w51.cell? ⟨gb211, 2, none⟩ = some (.int .i64 x212002_14) := (blk_cell BK211.out 2).trans rfl; have hfz52_0 := blk_frozen BK211.out 0; have hfz52_1 := blk_frozen BK211.out 1; have hfz52_2 := blk_frozen BK211.out 2; have hcz53_0 : w51.cell? ⟨gb210, 0, none⟩ = some (.slice Ao4 l0_0.length co4) := (blk_cell BK210.out 0).trans rfl; have hfz53_0 := blk_frozen BK210.out 0) | ((with_reducible refine gate_callee (f := 64) rfl ?_); refine goesL_ (some 36) rfl rfl Try.func64 (by kernel_rfl) rfl #[.agg #[.int .i64 x212000_14, .int .i64 x212001_14, .int .i64 x212002_14], .int .i64 (l0_0.length : Int)] rfl zl ?_; (with_reducible refine (spec_l1Right.calls kj14 x212000_14 x212001_14 x212002_14 (l0_0.length : Int) true _ A30.out).mono ?_); rintro e w54 ⟨rfl, hb⟩; refine ⟨_, rfl, ?_⟩; have n0_ := Aside0.mk (Kd.R_below (zr HO_211000.out) hb); have n1_ := Aside0.mk (blk_below (zh BK210.out) hb); have n2_ := Aside0.mk (blk_below (zh BK211.out) hb); have n3_ := Aside0.mk (blk_below (zh BK212.out) hb); have n4_ := Aside0.mk (Kept.below (S := (fun k_ => P0_0_ k_)) (zk HK.out) hb); have n5_ := Aside0.mk (below_step (zb HB.out) hb); clear HO_211000; clear BK210; clear BK211; clear BK212; clear HK; clear HB; have HO_211000 := n0_; have BK210 := n1_; have BK211 := n2_; have BK212 := n3_; have HK := n4_; have HB := n5_; clear n0_ n1_ n2_ n3_ n4_ n5_; (try clear hb); (try clear hb2); (try clear hk); (try clear hi); have hcz55_0 : w54.cell? ⟨gb210, 0, none⟩ = some (.slice Ao4 l0_0.length co4) := (blk_cell BK210.out 0).trans rfl; have hfz55_0 := blk_frozen BK210.out 0) | ((with_reducible refine gate_callee (f := 72) rfl ?_); refine goesL_ (some 46) rfl rfl Try.func72 (by kernel_rfl) rfl #[.agg #[.slice Ao4 l0_0.length co4]] rfl zl ?_; (with_reducible refine (spec_l1Copy.calls _ _ l0_0 t215 _ ?side1 ?side2 A44.out).mono ?_); (case side1 => exact zc (Kd.R_reads' HO_211000.out).2.2); (case side2 => exact (Kd.R_reads' HO_211000.out).2.1); rintro e w56 ⟨v216, rfl, ho0, hb⟩; refine ⟨_, rfl, ?_⟩; have n0_ := Aside0.mk (Kd.R_elder' (zr HO_211000.out) (Kd.R_base ho0) hb); have n1_ := Aside0.mk (Kd.R_lower (Kd.R_newB (Kd.R_new' (Kd.R_newM (M := fun k_ => (P0_0_ k_ ∨ w.heap.size ≤ k_)) ho0 (by first | exact HK.out.1 | exact (show Kept w _ (fun k_ => P0_0_ k_) from zk HK.out).1) (fun k_ h_ => .inr h_)) (Kd.R_lt (zr HO_211000.out))) (zh BK211.out)) (below_size (zb HB.out))); have n2_ := Aside0.mk (blk_below (zh BK210.out) hb); have n3_ := Aside0.mk (blk_below (zh BK211.out) hb); have n4_ := Aside0.mk (blk_below (zh BK212.out) hb); have n5_ := Aside0.mk (Kept.below (S := (fun k_ => P0_0_ k_)) (zk HK.out) hb); have n6_ := Aside0.mk (below_step (zb HB.out) hb); clear HO_211000; clear BK210; clear BK211; clear BK212; clear HK; clear HB; have HO_211000 := n0_; have HO217 := n1_; have BK210 := n2_; have BK211 := n3_; have BK212 := n4_; have HK := n5_; have HB := n6_; clear n0_ n1_ n2_ n3_ n4_ n5_ n6_; (try clear hb); (try clear hb2); (try clear hk); (try clear hi); (try clear ho0)) | ((with_reducible refine gate_dst (N := 7) rfl ?_); (try (refine gate_guard (by rfl) ?_; dsimp only)); refine box_event ?hg (N := 7) ?hd (cs := #[.slice none 0 0]) (t := 31) ?hr ?_; (case hd => rfl); (case hg => rfl); (case hr => first | (go_simp; done) | (go_simp; rfl)); intro gb218 hg w57 hbox hb; have n0_ := Aside0.mk (Kd.R_below (zr HO_211000.out) hb); have n1_ := Aside0.mk (Kd.R_below (zr HO217.out) hb); have n2_ := Aside0.mk (blk_below (zh BK210.out) hb); have n3_ := Aside0.mk (blk_below (zh BK211.out) hb); have n4_ := Aside0.mk (blk_below (zh BK212.out) hb); have n5_ := Aside0.mk (Kept.below (S := (fun k_ => P0_0_ k_)) (zk HK.out) hb); have n6_ := Aside0.mk (below_step (zb HB.out) hb); have n7_ := Aside0.mk (hbox); have n8_ := Aside0.mk ((by rw [hg]; exact (by first | exact HK.out.1 | exact (show Kept w _ (fun k_ => P0_0_ k_) from zk HK.out).1) : w.heap.size ≤ gb218)); have n9_ := Aside0.mk ((by rw [hg]; exact (below_size (zb HB.out)) : w0.heap.size ≤ gb218)); have n10_ := Aside0.mk ((by rw [hg]; exact Nat.ne_of_lt (blk_lt (zh BK210.out)) : gb210 ≠ gb218)); have n11_ := Aside0.mk ((by rw [hg]; exact Nat.ne_of_gt (blk_lt (zh BK210.out)) : gb218 ≠ gb210)); have n12_ := Aside0.mk ((by rw [hg]; exact Nat.ne_of_lt (blk_lt (zh BK211.out)) : gb211 ≠ gb218)); have n13_ := Aside0.mk ((by rw [hg]; exact Nat.ne_of_gt (blk_lt (zh BK211.out)) : gb218 ≠ gb211)); have n14_ := Aside0.mk ((by rw [hg]; exact Nat.ne_of_lt (blk_lt (zh BK212.out)) : gb212 ≠ gb218)); have n15_ := Aside0.mk ((by rw [hg]; exact Nat.ne_of_gt (blk_lt (zh BK212.out)) : gb218 ≠ gb212)); clear HO_211000; clear HO217; clear BK210; clear BK211; clear BK212; clear HK; clear HB; have HO_211000 := n0_; have HO217 := n1_; have BK210 := n2_; have BK211 := n3_; have BK212 := n4_; have HK := n5_; have HB := n6_; have BK218 := n7_; have GW218 := n8_; have GE218 := n9_; have NB210_218 := n10_; have NB218_210 := n11_; have NB211_218 := n12_; have NB218_211 := n13_; have NB212_218 := n14_; have NB218_212 := n15_; clear n0_ n1_ n2_ n3_ n4_ n5_ n6_ n7_ n8_ n9_ n10_ n11_ n12_ n13_ n14_ n15_; clear hb hbox hg; obtain ⟨Ao58, co58, eo58⟩ := Kd.R_slice HO217.out; subst eo58; have hnb59 := NB218_210.out; have hnc59 := NB210_218.out; have hnb60 := NB218_211.out; have hnc60 := NB211_218.out; have hnb61 := NB218_212.out; have hnc61 := NB212_218.out; have hcz62_0 : w57.cell? ⟨gb218, 0, none⟩ = some (.slice none 0 0) := (blk_cell BK218.out 0).trans rfl; have hfz62_0 := blk_frozen BK218.out 0; have hcz63_0 : w57.cell? ⟨gb211, 0, none⟩ = some (.int .i64 x212000_14) := (blk_cell BK211.out 0).trans rfl; have hcz63_1 : w57.cell? ⟨gb211, 1, none⟩ = some (.int .i64 x212001_14) := (blk_cell BK211.out 1).trans rfl; have hcz63_2 : w57.cell? ⟨gb211, 2, none⟩ = some (.int .i64 x212002_14) := (blk_cell BK211.out 2).trans rfl; have hfz63_0 := blk_frozen BK211.out 0; have hfz63_1 := blk_frozen BK211.out 1; have hfz63_2 := blk_frozen BK211.out 2) | ((with_reducible refine gate_builtin (b := .append) (xs := #[.tmp 48, .tmp 50]) rfl ?_); (try (refine gate_guard (by rfl) ?_; dsimp only)); at_builtin; refine Kd.R_append k67 (w0 := w0) w0.heap.size rfl (.tmp 48) (.tmp 50) 29 67 (.agg #[(.int .i64 0), (.int .i64 0), (.int .i64 0)]) 24 rfl Try.underlying29 info67 rfl (by decide) (by omega) (.slice Ao58 t215.length co58) t215 (⟨x212000_14, x212001_14, x212002_14⟩ : S67) [.int .i64 x212000_14, .int .i64 x212001_14, .int .i64 x212002_14] (fun k_ => (P0_0_ k_ ∨ w.heap.size ≤ k_) ∧ some k_ ≠ (.slice Ao4 l0_0.length co4 : Value).ownBlock ∧ k_ ≠ gb211) (fun _ => False) rfl (by first | (go_simp; done) | (go_simp; rfl)) ?aP (fun _ hk => hk.elim) ?aF ?aO ?aB ?aS ?aL ?_; (case aP => exact k67_mkM _ _ _ (⟨x212000_14, x212001_14, x212002_14⟩ : S67)); (case aB => exact (zb HB.out)); (case aF => exact (fun k_ hk => ⟨(.inr (Nat.le_trans (show Kept w _ (fun k_ => P0_0_ k_) from zk HK.out).1 hk)), Kd.fresh' (Kd.R_lt (by (with_reducible repeat (first | apply Kd.R_alloc | apply Kd.R_drewN | apply Kd.R_drew)); exact (Kd.R_mono (Kd.R_far (p := ⟨gb218, 0, none⟩) (Kd.R_types HO_211000.out BK218.out (by decide)) (fun _ hk => hk.2) (.slice Ao58 t215.length co58)) (fun _ h_ => h_.1)))) k_ hk, Kd.freshB (g := gb211) (o := .cells #[.int .i64 x212000_14, .int .i64 x212001_14, .int .i64 x212002_14] 67 (0, 0)) (zf BK211.out) k_ hk⟩)); (case aO => exact (by (with_reducible repeat (first | apply Kd.R_alloc | apply Kd.R_drewN | apply Kd.R_drew)); exact Kd.R_mono (Kd.R_far (p := ⟨gb218, 0, none⟩) (Kd.R_types HO217.out BK218.out (by decide)) (fun _ hk => hk.2) (.slice Ao58 t215.length co58)) (fun _ hk => ⟨hk.1.1.1.1, ⟨hk.1.1.2, hk.1.2⟩⟩))); (case aS => exact (below_size (zb HB.out))); (case aL => have := LMc45.out; omega); intro v220 w64 ho hb hg hat; rw [← Ny219.out] at ho; have n0_ := Aside0.mk (Kd.R_after (ok := (fun k_ => (P0_0_ k_ ∨ w.heap.size ≤ k_) ∧ k_ ≠ gb211)) (by (with_reducible repeat (first | apply Kd.R_alloc | apply Kd.R_drewN | apply Kd.R_drew)); exact Kd.R_mono (Kd.R_far (p := ⟨gb218, 0, none⟩) (Kd.R_types HO_211000.out BK218.out (by decide)) (fun _ hk => hk.2) (.slice Ao58 t215.length co58)) (fun _ hk => ⟨⟨hk.1.1.1, hk.1.1.2⟩, hk.1.2⟩)) hg hat); have n1_ := Aside0.mk (blk_grown (g := gb210) (o := .cells #[.slice Ao4 l0_0.length co4] 31 (0, 0)) (zf BK210.out) hg (Kd.R_ne HO217.out BK210.out (by decide))); have n2_ := Aside0.mk (blk_grown (g := gb211) (o := .cells #[.int .i64 x212000_14, .int .i64 x212001_14, .int .i64 x212002_14] 67 (0, 0)) (zf BK211.out) hg (Kd.R_away HO217.out (fun _ hk => hk.2))); have n3_ := Aside0.mk (blk_grown (g := gb212) (o := .cells #[.slice none 0 0] 31 (0, 0)) (zf BK212.out) hg (Kd.R_ne HO217.out BK212.out (by decide))); have n4_ := Aside0.mk (blk_grown (g := gb218) (o := .cells #[.slice Ao58 t215.length co58] 31 (0, 0)) (by (with_reducible repeat (first | refine blk_drewN ?_ _ | refine blk_drew ?_ | refine blk_alloc ?_ _)); refine blk_put (cs := #[.slice none 0 0]) ?_ 0 _ rfl; (with_reducible repeat (first | refine blk_drewN ?_ _ | refine blk_drew ?_ | refine blk_alloc ?_ _)); exact BK218.out) hg (Kd.R_ne HO217.out BK218.out (by decide))); have n5_ := Aside0.mk (hb); have n6_ := Aside0.mk (Kept.of_grown (S := (fun k_ => P0_0_ k_)) hg (zk HK.out) (fun k_ e_ => (HO217.out.1 k_ e_).1.1.1)); have n7_ := Aside0.mk (ho); clear HO_211000; clear BK210; clear BK211; clear BK212; clear BK218; clear HB; clear HK; clear HO217; have HO_211000 := n0_; have BK210 := n1_; have BK211 := n2_; have BK212 := n3_; have BK218 := n4_; have HB := n5_; have HK := n6_; have HO221 := n7_; clear n0_ n1_ n2_ n3_ n4_ n5_ n6_ n7_; clear ho hb hg hat; obtain ⟨Ao65, co65, eo65⟩ := Kd.R_slice HO221.out; subst eo65; have hcz66_0 : w64.cell? ⟨gb218, 0, none⟩ = some (.slice Ao58 t215.length co58) := (blk_cell BK218.out 0).trans rfl; have hfz66_0 := blk_frozen BK218.out 0))
         have n0_ : Aside0 (Kd.R k67 67 (w64.setCell ⟨gb218, 0, none⟩ (.slice Ao65 y219.length co65)) w0.heap.size (fun k_ => (P0_0_ k_ ∨ w.heap.size ≤ k_) ∧ some k_ ≠ (.slice Ao65 y219.length co65 : Value).ownBlock ∧ k_ ≠ gb211) (.slice Ao4 l0_0.length co4) l0_0) := ⟨zr (Kd.R_mono (Kd.R_far (p := ⟨gb218, 0, none⟩) (Kd.R_types HO_211000.out BK218.out (by decide)) (fun _ hk => hk.2) (.slice Ao65 y219.length co65)) (fun _ hk => ⟨hk.1.1.1, ⟨hk.1.2, hk.1.1.2⟩⟩))⟩
         have n1_ : Aside0 (Kd.R k67 67 (w64.setCell ⟨gb218, 0, none⟩ (.slice Ao65 y219.length co65)) w0.heap.size (fun k_ => (P0_0_ k_ ∨ w.heap.size ≤ k_) ∧ some k_ ≠ (.slice Ao4 l0_0.length co4 : Value).ownBlock ∧ k_ ≠ gb211) (.slice Ao65 y219.length co65) y219) := ⟨zr (Kd.R_mono (Kd.R_far (p := ⟨gb218, 0, none⟩) (Kd.R_types HO221.out BK218.out (by decide)) (fun _ hk => hk.2) (.slice Ao65 y219.length co65)) (fun _ hk => ⟨hk.1.1, ⟨hk.1.2.1, hk.1.2.2⟩⟩))⟩
         have n2_ : Aside0 ((w64.setCell ⟨gb218, 0, none⟩ (.slice Ao65 y219.length co65)).heap[gb210]? = some (.cells #[.slice Ao4 l0_0.length co4] 31 (0, 0))) := ⟨zf BK210.out⟩
         have n3_ : Aside0 ((w64.setCell ⟨gb218, 0, none⟩ (.slice Ao65 y219.length co65)).heap[gb211]? = some (.cells #[.int .i64 x212000_14, .int .i64 x212001_14, .int .i64 x212002_14] 67 (0, 0))) := ⟨zf BK211.out⟩
         have n4_ : Aside0 ((w64.setCell ⟨gb218, 0, none⟩ (.slice Ao65 y219.length co65)).heap[gb212]? = some (.cells #[.slice none 0 0] 31 (0, 0))) := ⟨zf BK212.out⟩
         have n5_ : Aside0 ((w64.setCell ⟨gb218, 0, none⟩ (.slice Ao65 y219.length co65)).heap[gb218]? = some (.cells #[.slice Ao65 y219.length co65] 31 (0, 0))) := ⟨by (with_reducible repeat (first | refine blk_drewN ?_ _ | refine blk_drew ?_ | refine blk_alloc ?_ _)); refine blk_put (cs := #[.slice Ao58 t215.length co58]) ?_ 0 _ rfl; (with_reducible repeat (first | refine blk_drewN ?_ _ | refine blk_drew ?_ | refine blk_alloc ?_ _)); exact BK218.out⟩
         have n6_ : Aside0 (Kept w (w64.setCell ⟨gb218, 0, none⟩ (.slice Ao65 y219.length co65)) (fun k_ => P0_0_ k_)) := ⟨zk HK.out⟩
         have n7_ : Aside0 (Below w0.heap.size w0 (w64.setCell ⟨gb218, 0, none⟩ (.slice Ao65 y219.length co65))) := ⟨zb HB.out⟩
         (try clear HO_211000)
         (try clear HO221)
         (try clear BK210)
         (try clear BK211)
         (try clear BK212)
         (try clear BK218)
         (try clear HK)
         (try clear HB)
         generalize (w64.setCell ⟨gb218, 0, none⟩ (.slice Ao65 y219.length co65)) = w67 at n0_ n1_ n2_ n3_ n4_ n5_ n6_ n7_ ⊢
         have HO_211000 := n0_
         have HO221 := n1_
         have BK210 := n2_
         have BK211 := n3_
         have BK212 := n4_
         have BK218 := n5_
         have HK := n6_
         have HB := n7_
         clear n0_ n1_ n2_ n3_ n4_ n5_ n6_ n7_
         have n0_ := Aside0.mk (Kd.R_drew HO_211000.out)
         have n1_ := Aside0.mk (Kd.R_drew HO221.out)
         have n2_ := Aside0.mk (blk_drew BK210.out)
         have n3_ := Aside0.mk (blk_drew BK211.out)
         have n4_ := Aside0.mk (blk_drew BK212.out)
         have n5_ := Aside0.mk (blk_drew BK218.out)
         have n6_ := Aside0.mk (Kept.drew HK.out)
         have n7_ := Aside0.mk (below_drew1 HB.out)
         clear HO_211000
         clear HO221
         clear BK210
         clear BK211
         clear BK212
         clear BK218
         clear HK
         clear HB
         have HO_211000 := n0_
         have HO221 := n1_
         have BK210 := n2_
         have BK211 := n3_
         have BK212 := n4_
         have BK218 := n5_
         have HK := n6_
         have HB := n7_
         clear n0_ n1_ n2_ n3_ n4_ n5_ n6_ n7_
         refine start_ (n := 6) (S := fun w' => w'.cell? ⟨gb218, 0, none⟩ = some (.slice Ao65 y219.length co65) ∧ w'.cell? ⟨gb210, 0, none⟩ = some (.slice Ao4 l0_0.length co4)) (ds := []) #[false, false, false, false, false, false] (by kernel_rfl) rfl rfl ⟨(blk_cell BK218.out 0).trans rfl, (blk_cell BK210.out 0).trans rfl⟩ (fun hHeld => ?_)
         generalize w67.drew = w68 at HO_211000 HO221 BK210 BK211 BK212 BK218 HK HB hHeld ⊢
         refine pure_ (i := 1) (N := some 54) (v := ?_) (a' := ?_) #[false, true, false, false, false, false] rfl rfl (by kernel_rfl) (fun _ _ _ h => h) (Or.inl ⟨by rfl, ?_⟩) ?_ ?_
         rotate_left
         ·intro w'
          go_simp
          with_reducible rfl
         rotate_left
         ·simp only [Act.put, List.setIfInBounds_toArray, List.set_cons_zero, List.set_cons_succ, i64_w, i32_w]
          rfl
         refine take_ (i := 0) (N := some 53) (v := ?_) (a' := ?_) #[true, true, false, false, false, false] rfl rfl (by kernel_rfl) (fun _ _ _ h => h) (Or.inl ⟨by rfl, ?_⟩) hHeld ?_ ?_
         rotate_left
         ·rintro w' ⟨s0, s1⟩
          go_simp
          with_reducible rfl
         rotate_left
         ·simp only [Act.put, List.setIfInBounds_toArray, List.set_cons_zero, List.set_cons_succ, i64_w, i32_w]
          rfl
         refine take_ (i := 2) (N := some 55) (v := ?_) (a' := ?_) #[true, true, true, false, false, false] rfl rfl (by kernel_rfl) (fun _ _ _ h => h) (Or.inl ⟨by rfl, ?_⟩) hHeld ?_ ?_
         rotate_left
         ·rintro w' ⟨s0, s1⟩
          go_simp
          with_reducible rfl
         rotate_left
         ·simp only [Act.put, List.setIfInBounds_toArray, List.set_cons_zero, List.set_cons_succ, i64_w, i32_w]
          rfl
         refine pure_ (i := 3) (N := some 56) (v := ?_) (a' := ?_) #[true, true, true, true, false, false] rfl rfl (by kernel_rfl) (fun _ _ _ h => h) (Or.inl ⟨by rfl, ?_⟩) ?_ ?_
         rotate_left
         ·intro w'
          go_simp
          with_reducible rfl
         rotate_left
         ·simp only [Act.put, List.setIfInBounds_toArray, List.set_cons_zero, List.set_cons_succ, i64_w, i32_w]
          rfl
         refine one_ (i := 4) (N := none) #[true, true, true, true, true, false] rfl rfl (by kernel_rfl) (by decide) (fun K hK => ?_)
         have hs69 : w68.cell? ⟨gb212, 0, none⟩ = some (.slice none 0 0) := (blk_cell BK212.out 0).trans rfl
         have hfs69 := blk_frozen BK212.out 0
         have hns69_0 := NB210_212.out
         have hns69_1 := NB211_212.out
         have hns69_3 := NB218_212.out
         have hms69_0 := NB212_210.out
         have hms69_1 := NB212_211.out
         have hms69_3 := NB212_218.out
         refine skip_ (w1 := ?_) (by rfl) rfl ?_ ?_
         rotate_left
         ·go_simp
          rfl
         refine hK.out _ _ ⟨((cell_far (p := ⟨gb212, _, none⟩) NB218_212.out _).trans (hHeld.1)), ((cell_far (p := ⟨gb212, _, none⟩) NB210_212.out _).trans (hHeld.2))⟩ (fun hHeld => ?_)
         clear hK K
         refine pure_ (i := 5) (N := some 5) (v := ?_) (a' := ?_) #[true, true, true, true, true, true] rfl rfl (by kernel_rfl) (fun _ _ _ h => h) (Or.inl ⟨by rfl, ?_⟩) ?_ ?_
         rotate_left
         ·intro w'
          go_simp
          with_reducible rfl
         rotate_left
         ·simp only [Act.put, List.setIfInBounds_toArray, List.set_cons_zero, List.set_cons_succ, i64_w, i32_w]
          rfl
         refine done_ (by kernel_rfl) ?_
         try go_wp2
         refine bodyPost_ret (results_ct rfl _ _ gb212 31 #[.slice Ao65 y219.length co65] (0, 0) _ rfl (by (with_reducible repeat (first | refine blk_drewN ?_ _ | refine blk_drew ?_ | refine blk_alloc ?_ _)); refine blk_put (cs := #[.slice none 0 0]) ?_ 0 _ rfl; (with_reducible repeat (first | refine blk_drewN ?_ _ | refine blk_drew ?_ | refine blk_alloc ?_ _)); exact BK212.out) Try.underlying31 rfl (by kernel_rfl)) rfl ?_
         exact ⟨_, ze, zr (Kd.R_mono (Kd.R_far (p := ⟨gb212, 0, none⟩) (Kd.R_types HO221.out BK212.out (by decide)) (fun _ hk => hk.2) (.slice Ao65 y219.length co65)) (fun _ hk => hk.1.1)), zb HB.out, zk HK.out⟩
        ·rw [if_neg c45] at H
         exact absurd H (by simp)
      ·replace c31 := Bool.eq_false_iff.mpr c31
       subst c31
       have H1 : (some (l0_0, (-1))) = some (r1, r2) := by rw [if_neg (show ¬ (false = true) by decide)] at H; exact H
       clear H
       have H := H1
       clear H1
       simp only [Option.some.injEq, Prod.mk.injEq] at H
       obtain ⟨rfl, rfl⟩ := H
       have hnb70 := NB210_211.out
       have hnc70 := NB211_210.out
       have hnb71 := NB210_212.out
       have hnc71 := NB212_210.out
       have hcz72_0 : wc.cell? ⟨gb210, 0, none⟩ = some (.slice Ao4 l0_0.length co4) := (blk_cell BK210.out 0).trans rfl
       have hfz72_0 := blk_frozen BK210.out 0
       have hnb73 := NB211_212.out
       have hnc73 := NB212_211.out
       have hcz74_0 : wc.cell? ⟨gb211, 0, none⟩ = some (.int .i64 x212000_14) := (blk_cell BK211.out 0).trans rfl
       have hcz74_1 : wc.cell? ⟨gb211, 1, none⟩ = some (.int .i64 x212001_14) := (blk_cell BK211.out 1).trans rfl
       have hcz74_2 : wc.cell? ⟨gb211, 2, none⟩ = some (.int .i64 x212002_14) := (blk_cell BK211.out 2).trans rfl
       have hfz74_0 := blk_frozen BK211.out 0
       have hfz74_1 := blk_frozen BK211.out 1
       have hfz74_2 := blk_frozen BK211.out 2
       go_wp2_with (first | ((with_reducible refine gate_callee (f := 65) rfl ?_); refine goesL_ (some 27) rfl rfl Try.func65 (by kernel_rfl) rfl #[.agg #[.slice Ao4 l0_0.length co4], .agg #[.int .i64 x212000_14, .int .i64 x212001_14, .int .i64 x212002_14]] rfl zl ?_; (with_reducible refine (spec_l1Find.calls kj14 _ _ l0_0 x212000_14 x212001_14 x212002_14 t213 _ ?side1 ?side2 A20.out).mono ?_); (case side1 => exact zc (Kd.R_reads' HO_211000.out).2.2); (case side2 => exact (Kd.R_reads' HO_211000.out).2.1); rintro e w75 ⟨rfl, hb⟩; refine ⟨_, rfl, ?_⟩; have n0_ := Aside0.mk (Kd.R_below (zr HO_211000.out) hb); have n1_ := Aside0.mk (blk_below (zh BK210.out) hb); have n2_ := Aside0.mk (blk_below (zh BK211.out) hb); have n3_ := Aside0.mk (blk_below (zh BK212.out) hb); have n4_ := Aside0.mk (Kept.below (S := (fun k_ => P0_0_ k_)) (zk HK.out) hb); have n5_ := Aside0.mk (below_step (zb HB.out) hb); clear HO_211000; clear BK210; clear BK211; clear BK212; clear HK; clear HB; have HO_211000 := n0_; have BK210 := n1_; have BK211 := n2_; have BK212 := n3_; have HK := n4_; have HB := n5_; clear n0_ n1_ n2_ n3_ n4_ n5_; (try clear hb); (try clear hb2); (try clear hk); (try clear hi); have hcz76_0 : w75.cell? ⟨gb211, 0, none⟩ = some (.int .i64 x212000_14) := (blk_cell BK211.out 0).trans rfl; have hcz76_1 : w75.cell? ⟨gb211, 1, none⟩ = some (.int .i64 x212001_14) := (blk_cell BK211.out 1).trans rfl; have hcz76_2 : w75.cell? ⟨gb211, 2, none⟩ = some (.int .i64 x212002_14) := (blk_cell BK211.out 2).trans rfl; have hfz76_0 := blk_frozen BK211.out 0; have hfz76_1 := blk_frozen BK211.out 1; have hfz76_2 := blk_frozen BK211.out 2; have hcz77_0 : w75.cell? ⟨gb210, 0, none⟩ = some (.slice Ao4 l0_0.length co4) := (blk_cell BK210.out 0).trans rfl; have hfz77_0 := blk_frozen BK210.out 0) | ((with_reducible refine gate_callee (f := 64) rfl ?_); refine goesL_ (some 36) rfl rfl Try.func64 (by kernel_rfl) rfl #[.agg #[.int .i64 x212000_14, .int .i64 x212001_14, .int .i64 x212002_14], .int .i64 (l0_0.length : Int)] rfl zl ?_; (with_reducible refine (spec_l1Right.calls kj14 x212000_14 x212001_14 x212002_14 (l0_0.length : Int) false _ A30.out).mono ?_); rintro e w78 ⟨rfl, hb⟩; refine ⟨_, rfl, ?_⟩; have n0_ := Aside0.mk (Kd.R_below (zr HO_211000.out) hb); have n1_ := Aside0.mk (blk_below (zh BK210.out) hb); have n2_ := Aside0.mk (blk_below (zh BK211.out) hb); have n3_ := Aside0.mk (blk_below (zh BK212.out) hb); have n4_ := Aside0.mk (Kept.below (S := (fun k_ => P0_0_ k_)) (zk HK.out) hb); have n5_ := Aside0.mk (below_step (zb HB.out) hb); clear HO_211000; clear BK210; clear BK211; clear BK212; clear HK; clear HB; have HO_211000 := n0_; have BK210 := n1_; have BK211 := n2_; have BK212 := n3_; have HK := n4_; have HB := n5_; clear n0_ n1_ n2_ n3_ n4_ n5_; (try clear hb); (try clear hb2); (try clear hk); (try clear hi); have hcz79_0 : w78.cell? ⟨gb210, 0, none⟩ = some (.slice Ao4 l0_0.length co4) := (blk_cell BK210.out 0).trans rfl; have hfz79_0 := blk_frozen BK210.out 0; have hcz80_0 : w78.cell? ⟨gb212, 0, none⟩ = some (.slice none 0 0) := (blk_cell BK212.out 0).trans rfl; have hfz80_0 := blk_frozen BK212.out 0))
       refine bodyPost_ret (results_ct rfl _ _ gb212 31 #[.slice Ao4 l0_0.length co4] (0, 0) _ rfl (by (with_reducible repeat (first | refine blk_drewN ?_ _ | refine blk_drew ?_ | refine blk_alloc ?_ _)); refine blk_put (cs := #[.slice none 0 0]) ?_ 0 _ rfl; (with_reducible repeat (first | refine blk_drewN ?_ _ | refine blk_drew ?_ | refine blk_alloc ?_ _)); exact BK212.out) Try.underlying31 rfl (by kernel_rfl)) rfl ?_
       exact ⟨_, ze, zr (Kd.R_mono (Kd.R_far (p := ⟨gb212, 0, none⟩) (Kd.R_types HO_211000.out BK212.out (by decide)) (fun _ hk => hk.2) (.slice Ao4 l0_0.length co4)) (fun _ hk => hk.1.1)), zb HB.out, zk HK.out⟩

/-! ### spec_l1Byte: function 97 -/
def spec_l1Byte.f (s0_0 : List Int) (s0_1 : Int) (s0_2 : Int) : Option (Int × Int × Int) := if s0_1 < (s0_0.length : Int) then (if 0 ≤ s0_1 then (some (Go.bits .and .i64 (wrap64 ((Go.bits .and .i64 (Go.bits .xor .i64 ((wrap64 ((wrap64 (s0_2 * 6364136223846793005)) + 1442695040888963407)) / 8589934592) ((wrap64 ((wrap64 (s0_2 * 6364136223846793005)) + 1442695040888963407)) / 35184372088832)) 255) + (wrap64 (rd s0_0 s0_1)))) 255, wrap64 (s0_1 + 1), wrap64 ((wrap64 (s0_2 * 6364136223846793005)) + 1442695040888963407))) else (none)) else (some (Go.bits .and .i64 (Go.bits .xor .i64 ((wrap64 ((wrap64 (s0_2 * 6364136223846793005)) + 1442695040888963407)) / 8589934592) ((wrap64 ((wrap64 (s0_2 * 6364136223846793005)) + 1442695040888963407)) / 35184372088832)) 255, s0_1, wrap64 ((wrap64 (s0_2 * 6364136223846793005)) + 1442695040888963407)))
set_option maxHeartbeats 8000000 in
set_option maxRecDepth 100000 in
theorem spec_l1Byte.calls (g : Nat) (s0_0 : List Int) (s0_1 : Int) (s0_2 : Int) (r1 : Int) (r2 : Int) (r3 : Int) (w0 w : World) (hI : IsS92 w0 w g s0_0 s0_1 s0_2) (hB : Below w0.heap.size w0 w) (h : spec_l1Byte.f s0_0 s0_1 s0_2 = some (r1, r2, r3)) :
  Calls Try.prog 97 #[.pointer (some ⟨g, 0, none⟩)] w fun e w' => e = .returned (.int .i64 r1) ∧ IsS92 w0 w' g s0_0 r2 r3 ∧ Below w0.heap.size w0 w' ∧ KeepBut w w' g none := by
 have HI0 := Aside0.mk hI
 have HK := Aside0.mk (KeepBut.refl w g none)
 have HL := Aside0.mk hB.size
 clear hI
 have HW0 := Aside0.mk hB.size
 have HB := Aside0.mk hB
 clear hB
 have H : (if s0_1 < (s0_0.length : Int) then (if 0 ≤ s0_1 then (some (Go.bits .and .i64 (wrap64 ((Go.bits .and .i64 (Go.bits .xor .i64 ((wrap64 ((wrap64 (s0_2 * 6364136223846793005)) + 1442695040888963407)) / 8589934592) ((wrap64 ((wrap64 (s0_2 * 6364136223846793005)) + 1442695040888963407)) / 35184372088832)) 255) + (wrap64 (rd s0_0 s0_1)))) 255, wrap64 (s0_1 + 1), wrap64 ((wrap64 (s0_2 * 6364136223846793005)) + 1442695040888963407))) else (none)) else (some (Go.bits .and .i64 (Go.bits .xor .i64 ((wrap64 ((wrap64 (s0_2 * 6364136223846793005)) + 1442695040888963407)) / 8589934592) ((wrap64 ((wrap64 (s0_2 * 6364136223846793005)) + 1442695040888963407)) / 35184372088832)) 255, s0_1, wrap64 ((wrap64 (s0_2 * 6364136223846793005)) + 1442695040888963407)))) = some (r1, r2, r3) := h
 clear h
 by_cases c2 : s0_1 < (s0_0.length : Int)
 ·rw [if_pos c2] at H
  have c2b0 : decide (s0_1 < (s0_0.length : Int)) = true := decide_eq_true c2
  clear c2
  by_cases c3 : 0 ≤ s0_1
  ·rw [if_pos c3] at H
   have c3b0 : decide (0 ≤ s0_1) = true := decide_eq_true c3
   clear c3
   simp only [Option.some.injEq, Prod.mk.injEq] at H
   obtain ⟨rfl, rfl, rfl⟩ := H
   obtain ⟨ASz4_0, cSz4_0, HGz4, hgz4, HSz4_0⟩ := HI0.out
   have hcz4_0 := cellS92_0 HGz4
   have hcz4_1 := cellS92_1 HGz4
   have hcz4_2 := cellS92_2 HGz4
   have hfz4_1 := blk_frozen HGz4 1
   have hfz4_2 := blk_frozen HGz4 2
   clear HGz4 hgz4
   have p222 : 0 ≤ (s0_1 : Int) := of_decide_eq_true (by first | (with_reducible assumption) | assumption)
   have q222 : s0_1 < (s0_0.length : Int) := of_decide_eq_true (by first | (with_reducible assumption) | assumption)
   obtain ⟨ad222, e222, hx222_0⟩ := Kd.at_int HSz4_0 s0_1 p222 q222
   cases e222
   have hn222_0 : ad222.block ≠ g := Nat.ne_of_lt (Nat.lt_of_lt_of_le (by have := World.block_lt_of_cell? _ _ hx222_0; first | rwa [add_block] at this | exact this) (IsS92.ge HI0.out))
   replace hx222_0 := pw_cell_below HB.out hx222_0
   replace hx222_0 := (cell_far (p := ⟨g, 2, none⟩) (by first | (rw [add_block]; exact hn222_0) | (show (Addr.add _ _).block ≠ _; rw [add_block]; exact hn222_0) | exact hn222_0) (.int .i64 (wrap64 ((wrap64 (s0_2 * 6364136223846793005)) + 1442695040888963407)))).trans hx222_0
   (try have hy222_0 := fun (n_ : Nat) => (show (((w.drewN n_).setCell ⟨g, 2, none⟩ (.int .i64 (wrap64 ((wrap64 (s0_2 * 6364136223846793005)) + 1442695040888963407))))).cell? _ = some _ from hx222_0))
   clear hn222_0
   replace p222 := eq_true p222
   replace q222 := eq_true q222
   go_enter Try.func97, Try.ntmps97
   go_wp2
   repeat (go_quiet (fail); try go_wp2)
   go_ret
   exact ⟨ze, by repeat (first | (with_reducible first | exact HI0.out | apply IsS92.alloc | apply IsS92.drewN | apply IsS92.drew | apply IsS92.set_1 | apply IsS92.set_2) | exact HI0.out), by repeat (first | (with_reducible first | exact HB.out | apply below_alloc | apply pw_below_drewN | apply below_drew1 | refine below_set ?_ (IsS92.ge HI0.out)) | exact HB.out), by repeat (first | (with_reducible first | exact HK.out | apply KeepBut.set_ | apply keep_drewN | apply keep_drew | apply keep_alloc) | exact HK.out)⟩
  ·rw [if_neg c3] at H
   exact absurd H (by simp)
 ·rw [if_neg c2] at H
  have c2b0 : decide (s0_1 < (s0_0.length : Int)) = false := decide_eq_false c2
  clear c2
  simp only [Option.some.injEq, Prod.mk.injEq] at H
  obtain ⟨rfl, rfl, rfl⟩ := H
  obtain ⟨ASz5_0, cSz5_0, HGz5, hgz5, HSz5_0⟩ := HI0.out
  have hcz5_0 := cellS92_0 HGz5
  have hcz5_1 := cellS92_1 HGz5
  have hcz5_2 := cellS92_2 HGz5
  have hfz5_1 := blk_frozen HGz5 1
  have hfz5_2 := blk_frozen HGz5 2
  clear HGz5 hgz5
  go_enter Try.func97, Try.ntmps97
  go_wp2
  repeat (go_quiet (fail); try go_wp2)
  go_ret
  exact ⟨ze, by repeat (first | (with_reducible first | exact HI0.out | apply IsS92.alloc | apply IsS92.drewN | apply IsS92.drew | apply IsS92.set_1 | apply IsS92.set_2) | exact HI0.out), by repeat (first | (with_reducible first | exact HB.out | apply below_alloc | apply pw_below_drewN | apply below_drew1 | refine below_set ?_ (IsS92.ge HI0.out)) | exact HB.out), by repeat (first | (with_reducible first | exact HK.out | apply KeepBut.set_ | apply keep_drewN | apply keep_drew | apply keep_alloc) | exact HK.out)⟩

end Go.Proofs.Ytilnfdnigjblcaa.M
end
